import Derived.Test.YtkompmgleojmlaaGreatProg
import Derived.KernelRfl
import GoSem.Claim
import GoSem.ClaimJoined
import GoSem.ClaimMapViews
import Derived.JoinedTies
import Derived.WalkKit
import Derived.ProofKit
import Derived.OpenShut
import Derived.BigQuiet
import Derived.StillTailTactics
import Derived.RegionTactic
import Derived.Deep.RegionHeld3
import Derived.Deep.RegionWith
import Derived.ChangeAlike
import Derived.Deep.QuietTactic
import Derived.Lib.Hide
import Derived.WalkLawsBesides
import Derived.WalkSpells
import Derived.Lib.SmallJoins
import Derived.Deep.Slices
import Derived.Deep.Draws
import Derived.Laws.OwnMore
import Derived.ShutString
namespace Go.Proofs.YtkompmgleojmlaaGreat
theorem ZvE {P:Prop} (h:P:=by
  obtain ⟨w4,E4,rfl,g5,m4,hv4⟩:=h
  obtain rfl:=Zxm m4
  have hwf:(Lit.int .i64 (boxW L v)).wf=true:=hv4.2
  obtain rfl:w4=.int .i64 (boxW L v):=hv4.1
  have g6:=g4.trans g5
  have k4:W4.heap[b1]?=some (.cells Z 128 (0,0)):=(g5.keep b1 (Nat.lt_of_lt_of_le z2 g3.size) (by simp [foots])).trans ((g3.keep b1 z2 (by simp [foots])).trans K2.out)
  have l0:W4.cell? ⟨b1,0,none⟩=some (.string ⟨#[]⟩):=Zcq k4 (by rw [KZ.out]; rfl)
  have l1:W4.cell? ⟨b1,1,none⟩=some (.int .i64 0):=Zcq k4 (by rw [KZ.out]; rfl)
  have l2:W4.cell? ⟨b1,2,none⟩=some (.int .i64 0):=Zcq k4 (by rw [KZ.out]; rfl)
  have l3:W4.cell? ⟨b1,3,none⟩=some (.slice none 0 0):=Zcq k4 (by rw [KZ.out]; rfl)
  have fz:∀ o,W4.frozen? ⟨b1,o,none⟩=false:=fun o=>by simp [World.frozen?,k4]
  clear m4
  have K4:=Lib.hid k4
  clear k4
  by_cases hneg:boxW L v < 0
  · go_wp2_with fail
    obtain ⟨kf,gf,_⟩:=ZtJ (x0:=.string ⟨#[]⟩) (x1:=.int .i64 0) (x2:=.int .i64 0) (x3:=.slice none 0 0) (by have:=K4.out; rw [KZ.out] at this; exact this) g6 zb
    obtain ⟨Wf,hWf⟩:∃ Wf,Wf=((((W4.setCell ⟨b1,0,none⟩ (.string ⟨#[]⟩)).setCell ⟨b1,1,none⟩ (.int .i64 0)).setCell ⟨b1,2,none⟩ (.int .i64 0)).setCell ⟨b1,3,none⟩ (.slice none 0 0)):=⟨_,rfl⟩
    rw [← hWf] at kf gf ⊢
    clear hWf l0 l1 l2 l3
    have l0:Wf.cell? ⟨b1,0,none⟩=some (.string ⟨#[]⟩):=Zcq kf rfl
    have l1:Wf.cell? ⟨b1,1,none⟩=some (.int .i64 0):=Zcq kf rfl
    have l2:Wf.cell? ⟨b1,2,none⟩=some (.int .i64 0):=Zcq kf rfl
    have l3:Wf.cell? ⟨b1,3,none⟩=some (.slice none 0 0):=Zcq kf rfl
    have hbx:Zfg st v n=(ZoM,false):=by
      unfold Zfg
      rw [← KL.out,if_pos hneg]
    rw [hbx]
    obtain ⟨E',x1,x2,x3⟩:=ZDp (X:=X) (ms:=[]) (sv:=.slice none 0 0) (F:=[]) gf ⟨0,[],[],World.ownsRow_nil _ 0 0 _,⟨rfl,rfl⟩,rfl⟩ List.nodup_nil (fun b hb=>by cases hb) hsz
    refine bodyPost_ret (v:=.tuple #[.agg #[.string ⟨#[]⟩, .int .i64 0, .int .i64 0, .slice none 0 0], .bool false]) ?_ rfl ⟨_,E',rfl,x1,x2,⟨_,rfl,_,_,rfl,⟨_,rfl,_,_,rfl,⟨rfl,Nat.zero_le _⟩,_,_,rfl,⟨rfl,rfl⟩,_,_,rfl,⟨rfl,rfl⟩,_,_,rfl,x3,rfl⟩,_,_,rfl,rfl,rfl⟩⟩
    rw [results_cell_tmp rfl]
    go_simp
  · have hw:=Zpk L v
    obtain ⟨k,hk⟩:∃ k:Nat,boxW L v=(k:Int):=⟨(boxW L v).toNat,by omega⟩
    have hkl:k < @List.length ZaM L:=by omega
    rcases H3.out.2 with ⟨_,y2⟩ | ⟨g,cap,cur,y1,y2,y3,y4,y5,y6,y7⟩
    · exact absurd y2 (show @List.length ZaM L ≠ 0 by omega)
    obtain ⟨rfl,rfl⟩:A3=some ⟨g,0,none⟩∧c3=cap:=by
      have h:=H6.out
      rw [y1] at h
      injection h with e1 e2 e3
      exact ⟨e1.symm,e3.symm⟩
    have hg3:g < W3.heap.size:=(Array.getElem?_eq_some_iff.1 y3).1
    have hxk:L[k]?=some (Zab L k):=Zau (t:=Zak) hkl
    obtain ⟨c0,cx,cy,G0,G1,G2,t1,t2,t3,t4,t5,t6⟩:=H4.out.split (n:=Zak.n) (fun x cs F h=>Zbb.len Zak h) k hxk
    obtain ⟨ca,cb,Fa,Fb,⟨rfl,wa,rfl⟩,⟨cc,cd,Fc,Fd,⟨rfl,wb,rfl⟩,⟨ce,cf,Fe,Ff,⟨rfl,wc,rfl⟩,⟨sv,rfl,hsv⟩,rfl,rfl⟩,rfl,rfl⟩,rfl,rfl⟩:=t5
    have t3:c0.length=k * 4:=t3
    have hcur:∀ q u,q < 4→[Value.string (Zab L k).1, .int .i64 (Zab L k).2.1, .int .i64 (Zab L k).2.2.1,sv][q]?=some u→W3.cell? ⟨g,k * 4 + q,none⟩=some u:=fun q u hq hu=>by
      have h1:(cur.toList.take (@List.length ZaM L * 4))[k * 4 + q]?=some u:=by
        rw [show List.take (@List.length ZaM L * 4) cur.toList=cells from y7,t1,List.append_assoc,List.getElem?_append_right (by omega),t3,Nat.add_sub_cancel_left,List.getElem?_append_left (by show q < 4; exact hq)]
        exact hu
      rw [List.getElem?_take] at h1
      split at h1
      · exact Zcq y3 (by simpa using h1)
      · cases h1
    obtain ⟨As,ns,cs',hse⟩:∃ A n c,sv=.slice A n c:=by
      obtain ⟨Tm,cm,Gm,r1,r2,r3⟩:=id hsv
      obtain ⟨A,c,r4,_⟩:=ZfZ (t:=ZaT) r1
      exact ⟨A,_,c,r4⟩
    subst hse
    have n0:W4.cell? ⟨g,k * 4,none⟩=some (.string (Zab L k).1):=(Zcs (g5.keep g hg3 (by simp [foots]))).trans (hcur 0 _ (by omega) rfl)
    have n1:W4.cell? ⟨g,k * 4 + 1,none⟩=some (.int .i64 (Zab L k).2.1):=(Zcs (g5.keep g hg3 (by simp [foots]))).trans (hcur 1 _ (by omega) rfl)
    have n2:W4.cell? ⟨g,k * 4 + 2,none⟩=some (.int .i64 (Zab L k).2.2.1):=(Zcs (g5.keep g hg3 (by simp [foots]))).trans (hcur 2 _ (by omega) rfl)
    have n3:W4.cell? ⟨g,k * 4 + 3,none⟩=some (.slice As ns cs'):=(Zcs (g5.keep g hg3 (by simp [foots]))).trans (hcur 3 _ (by omega) rfl)
    have i0:(0:Int)≤(k:Int):=by omega
    have i1:(k:Int) < (@List.length ZaM L:Int):=by omega
    have hfoot:foots [e3]=e3.val.ownBlock.toList ++ (G0 ++ G1 ++ G2):=by simp [foots,H5.out,t2]
    have hin:∀ b ∈ G1,b ∈ foots [e3]:=fun b hb=>by rw [hfoot]; simp [hb]
    have hnf:G1.Nodup:=by
      have:=H1.out.nodup
      rw [hfoot,List.nodup_append] at this
      have:=this.2.1
      rw [List.nodup_append] at this
      have:=this.1
      rw [List.nodup_append] at this
      simpa using this.2.1
    have hge2:∀ b ∈ G1,W2.heap.size≤b:=fun b hb=>(g3.new b (hin b hb)).resolve_left (by simp [foots])
    have hlt3:∀ b ∈ G1,b < W3.heap.size:=fun b hb=>H1.out.lt b (hin b hb)
    have hneg2:¬ ((k:Int) < 0):=by omega
    have M1:=Lib.hid hk
    have M2:=Lib.hid hsv
    have M3:=Lib.hid hneg
    have M4:=Lib.hid hge2
    have M5:=Lib.hid hlt3
    rw [hk]
    clear hcur y1 y2 y3 y4 y5 y6 y7 t1 t2 t3 t4 t6 hfoot hin hk hsv hneg hge2 hlt3 hw
    go_wp2_with fail
    obtain ⟨kf,gf,hq⟩:=ZtJ (x0:=.string (Zab L k).1) (x1:=.int .i64 (Zab L k).2.1) (x2:=.int .i64 (Zab L k).2.2.1) (x3:=.slice As ns cs') (by have:=K4.out; rw [KZ.out] at this; exact this) g6 zb
    obtain ⟨Wf,hWf⟩:∃ Wf,Wf=((((W4.setCell ⟨b1,0,none⟩ (.string (Zab L k).1)).setCell ⟨b1,1,none⟩ (.int .i64 (Zab L k).2.1)).setCell ⟨b1,2,none⟩ (.int .i64 (Zab L k).2.2.1)).setCell ⟨b1,3,none⟩ (.slice As ns cs')):=⟨_,rfl⟩
    rw [← hWf] at kf gf hq ⊢
    clear hWf l0 l1 l2 l3
    have l0:Wf.cell? ⟨b1,0,none⟩=some (.string (Zab L k).1):=Zcq kf rfl
    have l1:Wf.cell? ⟨b1,1,none⟩=some (.int .i64 (Zab L k).2.1):=Zcq kf rfl
    have l2:Wf.cell? ⟨b1,2,none⟩=some (.int .i64 (Zab L k).2.2.1):=Zcq kf rfl
    have l3:Wf.cell? ⟨b1,3,none⟩=some (.slice As ns cs'):=Zcq kf rfl
    have hbx:Zfg st v n=(Zab L k,true):=by
      unfold Zfg
      rw [← KL.out,if_neg (Int.not_lt.2 M3.out),M1.out,Int.toNat_natCast]
    rw [hbx]
    have hof:ZbY Wf (Zbb Wf ZaT) ZaT.n (Zab L k).2.2.2 (.slice As ns cs') G1:=by
      obtain ⟨v0,hv0,ho0⟩:=Zbb.keep (W':=Wf) (.list ZaT) (x:=(Zab L k).2.2.2) (cs:=[.slice As ns cs']) (F:=G1) ⟨_,rfl,M2.out⟩ (fun b hb=>(hq b (fun e=>by have:=M4.out b hb; omega)).trans (g5.keep b (M5.out b hb) (by simp [foots])))
      obtain rfl:_=v0:=List.head_eq_of_cons_eq hv0
      exact ho0
    obtain ⟨E',x1,x2,x3⟩:=ZDp (X:=X) (ms:=(Zab L k).2.2.2) (sv:=.slice As ns cs') (F:=G1) gf hof hnf (fun b hb=>Nat.le_trans g2.size (M4.out b hb)) hsz
    refine bodyPost_ret (v:=.tuple #[.agg #[.string (Zab L k).1, .int .i64 (Zab L k).2.1, .int .i64 (Zab L k).2.2.1, .slice As ns cs'], .bool true]) ?_ rfl ⟨_,E',rfl,x1,x2,⟨_,rfl,_,_,rfl,⟨_,rfl,_,_,rfl,⟨rfl,wa⟩,_,_,rfl,⟨rfl,wb⟩,_,_,rfl,⟨rfl,wc⟩,_,_,rfl,x3,rfl⟩,_,_,rfl,rfl,rfl⟩⟩
    rw [results_cell_tmp rfl]
    go_simp):P:=h
theorem Zlx {P:Prop} (h:P:=by
  simp only [Zbw,ZbG,Zbf,Bool.not_true,Bool.not_false,Zd0,eq_self]
  repeat' (first | apply And.intro | intro _)
  all_goals first
    | trivial
    | omega
    | assumption
    | exact hp1.1
    | exact hp2.1
    | exact hp1.2 _ (by assumption)
    | exact hp2.2 _ (by assumption)
    | exact ⟨0,Nat.zero_le _,rfl,Eq.mpr (ZaV (t:=Zar)) rfl⟩
    | (unfold rowMax; omega)
    | (show 0 + _≤rowMax; unfold rowMax; omega)
    | exact List.take_of_length_le (by omega)
    | (rename_i y hy hlt; exact ⟨y + 1,by omega,by omega,ZbN (by unfold maxLen; omega),Eq.mpr (ZaV (t:=Zar)) (ZjN (Int.ofNat_lt.1 hlt))⟩)
    | (show List.length (List.take _ _) + 1≤rowMax; rw [List.length_take]; unfold rowMax; omega)
    | (rename_i y hy hlt; have h:=hp2 _ (List.mem_of_getElem? (Zau (t:=Zar) (Int.ofNat_lt.1 hlt))); unfold rowMax; first | exact Nat.le_trans h (by decide) | (show 0 + _≤_; rw [Nat.zero_add]; exact Nat.le_trans h (by decide)))):P:=h
theorem ZvF {P:Prop} (h:P:=by
  repeat' (first | apply And.intro | intro _)
  all_goals first
    | trivial
    | omega
    | exact ⟨0,Nat.zero_le _,by (first | omega | (split <;> omega)),rfl⟩
    | exact ⟨0,Nat.zero_le _,rfl,(ZDo _ _).symm⟩
    | (rw [Zz9]; assumption)
    | (rw [ZAa (Int.ofNat_lt.1 (by assumption))]; exact (hsm _ _ (List.mem_of_getElem? (Zau (t:=Zae) (Int.ofNat_lt.1 (by assumption))))).2.2)
    | exact Nat.le_trans (ZBt _ _ _) (by decide)
    | (rename_i y0 hy0 hlt0 y1 hy1 hlt1 r hr
       have h1:=hlen y0
       have h2:=Int.ofNat_lt.1 hlt1
       exact ⟨y1 + 1,h2,by omega,ZbN (by unfold maxLen; omega),hr.trans (by rw [ZAa h2]; exact ZFD h2)⟩)
    | (rename_i y0 hy0 hlt0 y1 hy1 hge
       obtain rfl:y1=List.length (fanN v.1 v.2 (max n 0) y0):=by omega
       exact ⟨y0 + 1,by omega,by omega,by rw [ZaR (by omega) (by omega)]; omega,ZFC _ _⟩)
    | (rename_i y0 hy0 hge
       have e:y0=Int.toNat (((List.length v.1.2.1:Nat):Int) - max n 0):=by omega
       subst e
       rfl)
    | exact hpre.1.1.1
    | exact hpre.1.1.2 _ (by assumption)
    | exact hpre.1.2
    | exact hpre.2.1
    | exact (hpre.2.2 _ (by assumption)).1
    | exact (hpre.2.2 _ (by assumption)).2.1.1
    | exact (hpre.2.2 _ (by assumption)).2.1.2 _ (by assumption)
    | exact (hpre.2.2 _ (by assumption)).2.2):P:=h
theorem Zci {P:Prop} (h:P:=by
  simp only [SIA,eq_self]
  repeat' (first | apply And.intro | intro _)
  all_goals (first | trivial | omega)):P:=h
theorem ZeV {P:Prop} (h:P:=by
  first
    | (with_reducible rfl)
    | (refine Eq.trans ?_ (ZtI _ _ (by omega)).symm; with_reducible rfl)
    | (repeat' (refine Prod.ext ?_ ?_)
       all_goals first
         | (with_reducible rfl)
         | (simp only [GXA]; first | done | omega | (congr 1; done) | (congr 1; omega) | (rw [Zaj (by omega),decide_eq_decide]; omega))
         | rfl)):P:=h
theorem ZvG {P:Prop} (h:P:=by
  have hm:List.length st.2.1≤maxLen:=hwf.1.2.1.1
  have hw:IntKind.wrap .i64 (((List.length st.2.1:Nat):Int) - 1)=((List.length st.2.1:Nat):Int) - 1:=ZaR (by omega) (by unfold maxLen at hm; omega)
  simp only [hw]
  simp only [Zbw,ZbG,Zbf,Bool.not_true,Bool.not_false,Zd0,eq_self]
  repeat' (first | apply And.intro | intro _)
  all_goals first
    | trivial
    | omega
    | exact (ZDv (by omega)).symm
    | exact ZDv (by omega)
    | exact (ZDw (by assumption)).symm
    | exact ZDw (by assumption)
    | exact (ZDx (by omega)).symm
    | exact ZDx (by omega)
    | exact Nat.le_trans (Nat.add_le_add (Zfy _ _ _ _) (Zfy _ _ _ _)) (by unfold rowMax; omega)
    | (show List.length _≤1048576; exact Nat.zero_le _)
    | (subst_vars; show List.length (_ ++ _)≤1048576; rw [List.length_append]; exact Nat.le_trans (Nat.add_le_add (Nat.le_refl 0) (Zfy _ _ _ _)) (by decide))
    | (rw [ZJY (st:=st) (s:=s) (n:=n) (by omega) (by assumption) (by omega)]
       try subst_vars
       try unfold ZBs
       first
         | (rw [if_pos (by omega),if_pos (by omega)]; first | done | rfl)
         | (rw [if_pos (by omega),if_neg (by omega)]; first | done | exact List.nil_append _)
         | (rw [if_neg (by omega),if_pos (by omega)]; first | done | (rw [ev8 (by omega)]; exact List.nil_append _))
         | (rw [if_neg (by omega),if_neg (by omega),if_pos (by omega)]; first | done | (rw [ev8 (by omega)]; exact List.nil_append _))
         | (rw [if_neg (by omega),if_neg (by omega),if_neg (by omega),if_pos (by omega)]; first | done | (rw [ev8 (by omega),List.nil_append]; done))
         | (rw [if_neg (by omega),if_neg (by omega),if_neg (by omega),if_neg (by omega)]; done))
    | trivial
    | omega
    | contradiction
    | exact ⟨rfl,rfl⟩
    | (show _ + 1≤rowMax; unfold rowMax; omega)
    | (simp only [Zb7, *,eq_self,if_true,if_false,and_true,true_and,and_self,not_true,not_false,false_and,and_false,or_true,true_or,or_false,false_or,or_self,Bool.false_eq_true,reduceCtorEq,reduceIte,Int.reduceEq,not_false_eq_true,not_true_eq_false,ite_true,ite_false,Bool.and_true,Bool.true_and,Bool.and_false,Bool.false_and,Bool.or_true,Bool.true_or,Bool.or_false,Bool.false_or,Bool.not_true,Bool.not_false]; done)
    | (simp_all [Zb7,eqI,neI,geI,eqS]; done)):P:=h
theorem ZeW {P:Prop} (h:P:=by
  repeat' (first | apply And.intro | intro _)
  all_goals first
    | trivial
    | omega
    | contradiction
    | (refine ⟨k + 1,hlt,by omega,?_,?_⟩ <;> first | omega | exact ZbN (by unfold maxLen; omega))
    | exact Eq.symm (by assumption)
    | (exfalso; simp_all; done)):P:=h
theorem ZvH {P:Prop} (h:P:=by
  simp only [Zbw,ZbG,Zbf,Bool.not_true,Bool.not_false,Zd0,eq_self]
  have hml:List.length log≤maxLen:=hwf.2.1.1
  unfold maxLen at hml
  refine ⟨hpre,⟨(0,l),⟨Nat.zero_le _,hpre,rfl⟩,rfl,rfl⟩,fun ⟨k,ys⟩ ⟨h1,h2,h3⟩=>⟨fun hlt=>?_,fun hge=>?_⟩⟩
  · have hlt:k < log.length:=by simpa using hlt
    have hd:Zg6 ys (List.drop k log)=if Ze3 ys (Zac log k)=true then Zg6 (Zec ys (Zac log k)) (List.drop (k + 1) log) else (ys,false):=by
      rw [List.drop_eq_getElem_cons hlt,← ZbU (t:=Zah) (List.getElem?_eq_getElem hlt)]
      rfl
    have h3:Zg6 ys (List.drop k log)=Zg6 l log:=h3
    rw [hd] at h3
    have h2:ZbO ys:=h2
    have hp:∀ h:Ze3 ys (Zac log k)=true,apB ys (Zac log k)=Zec ys (Zac log k):=fun h=>by
      unfold apB
      rw [h]
      rfl
    first
      | refine ⟨⟨Int.natCast_nonneg _,by show ((k:Nat):Int) < _; omega⟩,fun hf=>?_,fun hf=>⟨hf,fun r1 _=>⟨(k + 1,Zec ys (Zac log k)),⟨hlt,Znr hf,?_⟩,?_,ZbN (by show k + 1≤_; unfold maxLen; omega),rfl⟩⟩⟩
      | refine ⟨⟨Int.natCast_nonneg _,by show ((k:Nat):Int) < _; omega⟩,h2,fun hf=>?_,fun hf=>⟨(k + 1,Zec ys (Zac log k)),⟨hlt,Znr hf,?_⟩,?_,ZbN (by show k + 1≤_; unfold maxLen; omega),hp hf⟩⟩
    · have hf:Ze3 ys (Zac log k)=false:=hf
      rw [if_neg (by rw [hf]; decide)] at h3
      rw [← h3]
      exact ⟨rfl,rfl⟩
    · have hf:Ze3 ys (Zac log k)=true:=hf
      rw [if_pos hf] at h3
      exact h3
    · show _ - (k + 1) < _ - k
      omega
  · obtain rfl:k=log.length:=by have:¬ ((k:Nat):Int) < _:=hge; omega
    have h3:Zg6 ys (List.drop log.length log)=Zg6 l log:=h3
    rw [List.drop_length] at h3
    rw [← h3]
    exact ⟨rfl,rfl⟩):P:=h
theorem ZvI {P:Prop} (h:P:=by
  have hm:List.length l≤maxLen:=hwf.1.1
  have hi:=fun i (h:i < List.length l)=>ZH5 h
  have w2:=fun u=>Zpp (p:=fun z0:ZaM=>eqI z0.2.1 u) l
  unfold maxLen at hm
  simp only [blE,blN,Int.toNat_zero,List.drop_zero,Zbw,ZbG,Zbf,Bool.not_true,Bool.not_false,Zd0,eq_self]
  refine ⟨⟨0,⟨Nat.zero_le _,Zbl⟩,rfl⟩,fun k hk=>⟨fun hlt=>?_,fun hge=>?_⟩⟩
  · have e2:IntKind.wrap .i64 (((k:Nat):Int) - 1)=((k:Nat):Int) - 1:=ZaR (by omega) (by omega)
    have e3:1≤k→Zab l (Int.toNat (((k:Nat):Int) - 1))=Zab l (k - 1):=fun h=>by rw [show Int.toNat (((k:Nat):Int) - 1)=k - 1 by omega]
    simp only [e2]
    repeat' (first | apply And.intro | intro _)
    all_goals first
      | trivial
      | omega
      | exact (ZjH (i:=k) (by omega) (.inl (by assumption))).symm
      | exact (ZjH (i:=k) (by omega) (.inr (.inl ⟨by omega,by rw [← e3 (by omega)]; assumption⟩))).symm
      | exact (ZjH (i:=k) (by omega) (.inr (.inr (by assumption)))).symm
      | exact (ZjH (i:=k) (by omega) (.inr (.inr (fun h=>by have:=(hi k (by omega)).1 h; omega)))).symm
      | (refine ⟨k + 1,⟨by omega,ZbS hk.2 (fun hb=>?_)⟩,by omega,ZbN (by unfold maxLen; omega)⟩
         rcases hb with hb | ⟨h1,hb⟩ | hb
         · simp_all
         · first | omega | (rw [← e3 (by omega)] at hb; simp_all)
         · first | exact hb (by assumption) | exact hb ((hi k (by omega)).2 (by omega)))
  · obtain rfl:k=List.length l:=by omega
    rw [ZzL hk.2,Bool.eq_iff_iff,Zc3,decide_eq_true_eq]
    omega):P:=h
theorem ZvJ {P:Prop} (h:P:=by
  obtain ⟨hp1,hp2,hp3⟩:Zc8 v:=hpre
  have hx:∀ k,k < v.2.length→ZdB (Zaa v.2 k):=fun k hk=>hp3 _ (List.mem_of_getElem? (Zau (t:=Zae) hk))
  simp only [Zbw,ZbG,Zbf,Bool.not_true,Bool.not_false,Zd0,eq_self]
  repeat' (first | apply And.intro | intro _)
  all_goals first
    | trivial
    | omega
    | assumption
    | exact hp1.1
    | exact hp2.1
    | exact hp1.2 _ (by assumption)
    | exact hp2.2 _ (by assumption)
    | exact ⟨0,Nat.zero_le _,rfl,Eq.mpr (ZaV (t:=Zae)) rfl⟩
    | (unfold rowMax; omega)
    | (show 0 + _≤rowMax; unfold rowMax; omega)
    | exact List.take_of_length_le (by omega)
    | (rename_i y hy hlt; exact ⟨y + 1,by omega,by omega,ZbN (by unfold maxLen; omega),Eq.mpr (ZaV (t:=Zae)) (ZmV (Int.ofNat_lt.1 hlt))⟩)
    | (show List.length (List.take _ _) + 1≤rowMax; rw [List.length_take]; unfold rowMax; omega)
    | (rename_i y hy hlt; have h:=hp2 _ (List.mem_of_getElem? (Zau (t:=Zar) (Int.ofNat_lt.1 hlt))); unfold rowMax; first | exact Nat.le_trans h (by decide) | (show 0 + _≤_; rw [Nat.zero_add]; exact Nat.le_trans h (by decide)))
    | exact (hx _ (Int.ofNat_lt.1 (by assumption))).1
    | exact (hx _ (Int.ofNat_lt.1 (by assumption))).2.1.1
    | exact (hx _ (Int.ofNat_lt.1 (by assumption))).2.1.2 _ (by assumption)
    | exact (hx _ (Int.ofNat_lt.1 (by assumption))).2.2
    | exact hp1.1.1
    | exact hp1.1.2 _ (by assumption)
    | exact hp1.2):P:=h
theorem Zed {P:Prop} (h:P:=by
  simp only [SIA,eq_self]
  repeat' (first | apply And.intro | intro _)
  all_goals (first | trivial | omega | (simp_all [rowMax]; done) | (simp_all [rowMax]; omega))):P:=h
theorem ZvK {P:Prop} (h:P:=by
  refine Eq.mpr (β:=(T6 (bif (eqI m.1 1) then (True∧(rI 8 (ZrY m))) else (T2 (bif (eqI m.1 2) then (True∧(rI 8 (ZrY m))) else (T2 (bif (eqI m.1 3) then (True∧(rI 8 (ZrY m))) else (T2 (bif (eqI m.1 4) then (True∧(rI 1 (ZrY m))) else (T2 (bif (eqI m.1 5) then (True∧(rI 4 (ZrY m))) else (T2 (bif (eqI m.1 6) then (True∧(rI 2 (ZrY m))) else (True∧(rI 0 (ZrY m)))))))))))))))) (by kernel_rfl) ?_
  simp only [Zbw,ZbG,Zbf,Bool.not_true,Bool.not_false,Zd0,eq_self]
  repeat' (first | apply And.intro | intro _)
  all_goals first
    | trivial
    | omega
    | contradiction
    | exact ⟨rfl,rfl⟩
    | (show _ + 1≤rowMax; unfold rowMax; omega)
    | (simp only [ZrY, *,eq_self,if_true,if_false,and_true,true_and,and_self,not_true,not_false,false_and,and_false,or_true,true_or,or_false,false_or,or_self,Bool.false_eq_true,reduceCtorEq,reduceIte,Int.reduceEq,not_false_eq_true,not_true_eq_false,ite_true,ite_false,Bool.and_true,Bool.true_and,Bool.and_false,Bool.false_and,Bool.or_true,Bool.true_or,Bool.or_false,Bool.false_or,Bool.not_true,Bool.not_false]; done)
    | (simp_all [ZrY,eqI,neI,geI,eqS]; done)):P:=h
theorem ZvL {P:Prop} (h:P:=by
  obtain ⟨hp1,hp2,hp3⟩:ZdB s:=hpre
  simp only [Zbw,ZbG,Zbf,Bool.not_true,Bool.not_false,Zd0,eq_self]
  repeat' (first | apply And.intro | intro _)
  all_goals first
    | trivial
    | omega
    | assumption
    | exact hp1.1
    | exact hp2.1
    | exact hp1.2 _ (by assumption)
    | exact hp2.2 _ (by assumption)
    | exact ⟨0,Nat.zero_le _,rfl,Eq.mpr (ZaV (t:=Zar)) rfl⟩
    | (unfold rowMax; omega)
    | (show 0 + _≤rowMax; unfold rowMax; omega)
    | exact List.take_of_length_le (by omega)
    | (rename_i y hy hlt; exact ⟨y + 1,by omega,by omega,ZbN (by unfold maxLen; omega),Eq.mpr (ZaV (t:=Zar)) (ZjN (Int.ofNat_lt.1 hlt))⟩)
    | (show List.length (List.take _ _) + 1≤rowMax; rw [List.length_take]; unfold rowMax; omega)
    | (rename_i y hy hlt; have h:=hp2 _ (List.mem_of_getElem? (Zau (t:=Zar) (Int.ofNat_lt.1 hlt))); unfold rowMax; first | exact Nat.le_trans h (by decide) | (show 0 + _≤_; rw [Nat.zero_add]; exact Nat.le_trans h (by decide)))
    | exact Nat.le_trans hp1 (by decide)):P:=h
theorem Zgo {P:Prop} (h:P:=by
  repeat' (first | apply And.intro | intro _)
  all_goals (first | trivial | omega | (refine ⟨k + 1,⟨by omega,by omega⟩,by omega,?_⟩; first | (refine ⟨?_,?_⟩ <;> omega) | omega))):P:=h
theorem ZvM {P:Prop} (h:P:=by
  have e2:IntKind.wrap .i64 (((k:Nat):Int) - 1)=((k:Nat):Int) - 1:=ZaR (by omega) (by omega)
  have e3:1≤k→ZaL b.2.2.2 (Int.toNat (((k:Nat):Int) - 1))=ZaL b.2.2.2 (k - 1):=fun h=>by rw [show Int.toNat (((k:Nat):Int) - 1)=k - 1 by omega]
  simp only [e2]
  repeat' (first | apply And.intro | intro _)
  all_goals first
    | trivial
    | omega
    | exact (ZGO (i:=k) (by omega) (by unfold Zep; first | omega | (rw [← e3 (by omega)]; omega) | (rw [e3 (by omega)] at *; omega))).symm
    | exact (Zpj (by rintro ⟨q1,q2,q3,q4⟩; omega)).symm
    | exact ⟨k + 1,⟨by omega,fun hn=>ZbS (hk.2 hn) (by unfold Zep; first | omega | (rw [← e3 (by omega)]; omega) | (rw [e3 (by omega)] at *; omega))⟩,by omega,ZbN (by unfold maxLen; omega)⟩
    | exact ⟨k + 1,⟨by omega,fun hn=>ZbS (hk.2 hn) (by intro hbad; unfold Zep at hbad; rw [e3 (by omega)] at *; omega)⟩,by omega,ZbN (by unfold maxLen; omega)⟩):P:=h
theorem Zje {P:Prop} (h:P:=by
  rw [hc] at h
  rw [Bool.and_eq_true] at hc
  obtain rfl:=Nat.eq_of_beq_eq_true hc.1
  obtain ⟨h1,h2,h3⟩:=Zpc hM hx (show Zcb M _ l=_ from h) (Nat.eq_of_beq_eq_true hc.2) hr
  exact ⟨_,h1,fun z=>by omega,h2,h3⟩):P:=h
theorem Zjf {P:Prop} (h:P:=by
  by_cases hl:q < acc.length
  · rw [List.getElem?_append_left hl] at hq; exact hacc q u hq
  · rw [List.getElem?_append_right (by omega)] at hq
    have:=hu1 _ u hq
    rwa [show acc.length + (q - acc.length)=q by omega] at this):P:=h
theorem Zgp {P:Prop} (h:P:=by
  obtain rfl:=Option.some.inj hc'
  intro W' E' x vs gr hr
  obtain ⟨va,r,rfl,h1,hnil⟩:=hr
  obtain rfl:r=[]:=hnil
  exact hc W' E' x.1 va gr h1):P:=h
theorem ZvN {P:Prop} (h:P:=by
  obtain ⟨hp1,hp2⟩:=hpre
  simp only [Zbw,ZbG,Zbf,Bool.not_true,Bool.not_false,Zd0,eq_self]
  refine ⟨⟨0,Nat.zero_le _,rfl,Eq.mpr (ZaV (t:=Zak)) rfl⟩,fun k hk=>⟨fun hlt=>?_,fun hge=>?_⟩⟩
  · have hl:k < l.length:=by omega
    have hg:l[k]?=some (Zab l k):=Zau (t:=Zak) hl
    have hs:=ZCy ⟨hp1,hp2⟩ k
    have ht:List.take k l ++ [Zab l k]=List.take (k + 1) l:=by
      rw [List.take_add_one,hg]
      rfl
    rw [ht]
    repeat' (first | apply And.intro | intro _)
    all_goals first
      | trivial
      | omega
      | (unfold rowMax; rw [List.length_take,List.length_singleton]; omega)
      | exact ⟨k + 1,by omega,by omega,ZbN (by unfold maxLen; omega),Eq.mpr (ZaV (t:=Zak)) rfl⟩
  · exact List.take_of_length_le (by omega)):P:=h
theorem ZvO {P:Prop} (h:P:=by
  refine Eq.mpr (β:=(T5 (bif (eqI n.1 1) then (T2 ((pt True)∧(True∧(bif btw n.2.1 0 300 then (T2 ((pt True)∧(T2 (bif btw n.2.2.1 0 999999998 then (T5 (rB (eqS n.2.2.2 (⟨#[]⟩:ByteArray)) (Zcr n))) else (T2 (rB false (Zcr n))))))) else (T4 (rB false (Zcr n))))))) else (T2 ((pt True)∧(True∧(bif btw n.1 2 4 then (T5 (bif (eqI n.2.1 0) then (T5 (bif (eqI n.2.2.1 0) then (T2 ((pt True)∧(T2 (rB (Zbx n.2.2.2) (Zcr n))))) else (T2 (rB false (Zcr n))))) else (T4 (rB false (Zcr n))))) else (T6 (rB false (Zcr n)))))))))) (by kernel_rfl) ?_
  unfold T2 T4 T5 T6
  simp only [SIA,eq_self]
  repeat' (first | apply And.intro | intro _)
  all_goals (first | trivial | (rw [Bool.eq_iff_iff]; simp_all [Prod.ext_iff,EQA,Zcr]; done) | (simp_all [Prod.ext_iff,EQA,Zcr]; done) | omega)):P:=h
theorem Zly {P:Prop} (h:P:=by
  simp only [SIA,eq_self]
  repeat' (first | apply And.intro | intro _)
  all_goals (first
    | trivial
    | omega
    | (rw [Bool.eq_iff_iff]; simp_all [Prod.ext_iff,EQA]; done)
    | (simp_all [Prod.ext_iff,EQA]; done))):P:=h
theorem Zdu {P:Prop} (h:P:=by
  exact ⟨k + 1,⟨by omega,ZbS hk.2 hp⟩,by omega,ZbN (by omega)⟩):P:=h
theorem Zps {P:Prop} (h:P:=by
  simp only [SIA,eq_self]
  repeat' (first | apply And.intro | intro _)
  all_goals (first | trivial | (rw [Bool.eq_iff_iff]; simp_all [Prod.ext_iff,EQA]; done) | (simp_all [Prod.ext_iff,EQA]; done) | omega)):P:=h
theorem ZeX {P:Prop} (h:P:=by
  obtain rfl:k=a.length:=by omega
  exact ⟨ZGX a m,by rw [List.take_length]⟩):P:=h
theorem ZvP {P:Prop} (h:P:=by
  have hm:List.length l≤maxLen:=hwf.2.1.1
  unfold maxLen at hm
  have hpre:List.length qu.1≤1048576∧List.length l≤1048576:=hpre
  have hr:2097152 + 1≤rowMax:=by decide
  simp only [Zd0,eq_self]
  refine ⟨by omega,⟨0,Nat.zero_le _,rfl,rfl,of_eq_true ZhW⟩,fun k hk=>⟨fun hlt=>⟨⟨by omega,hlt⟩,?_,k + 1,by omega,by omega,ZbN (by unfold maxLen; omega),rfl,of_eq_true ZhW⟩,fun hge=>?_⟩⟩
  · have:=Zn8 qu l k
    omega
  · obtain rfl:k=List.length l:=by omega
    exact ⟨rfl,rfl,rfl⟩):P:=h
theorem ZvQ {P:Prop} (h:P:=by
  rw [List.getElem?_set_ne hqi] at hb he'
  by_cases hqj:q ∈ js
  · have hql:q < M.length:=by
      obtain ⟨_,_,_,_,h⟩:=hj q hqj
      exact (List.getElem?_eq_some_iff.1 h).1
    rw [Zce hqj hql] at hb
    obtain rfl:=Option.some.inj hb
    exact .inr (ZhC hqj he')
  · rw [ZbK (fun k hk e=>hqj (by rw [← e]; exact hk))] at hb
    rw [ZbX (fun k hk e=>hqj (by rw [← e]; exact hk))] at he'
    exact .inl ⟨hb,he',keptO q e' he' (fun h=>hqi h.symm)⟩):P:=h
theorem ZvR {P:Prop} (h:P:=by
  have hw:=Zpk l m.2.1
  simp only [Zbw,ZbG,Zbf,Bool.not_true,Bool.not_false,Zd0,eq_self]
  repeat' (first | apply And.intro | intro _)
  all_goals first
    | omega
    | (simp_all [Ze3]; done)
    | (try (have ha:Ze3 l m=Zh8 l m:=by (unfold Ze3; rw [‹ZcJ l=true›,‹Zbm m=true›]; rfl)
            rw [ha])
       rw [Bool.eq_iff_iff]
       simp only [bxB,Zjd,ZhX,Zdj,geN,Bool.false_eq_true,false_iff,true_iff]
       omega)):P:=h
theorem ZvS {P:Prop} (h:P:=by
  unfold ZkG
  cases ho:o.op <;> simp only [ho,Op.operands] at h ⊢
  case call c =>
    obtain ⟨cal,args,ts⟩:=c
    simp only [Call.operands] at h
    cases cal <;> simp only at h ⊢
    case value fn =>
      rw [h fn (by simp)]
      have hm:args.toList.map (evalA tm)=args.toList.map (evalA tm'):=List.map_congr_left fun x hx=>h x (by simp at hx ⊢; exact .inr hx)
      rw [hm]
    all_goals exact h2
  all_goals exact h2):P:=h
theorem ZvT {P:Prop} (h:P:=by
  have h0:∀ t:Tr,∀ l,okA T ops t true l=true→t.heads ≠ []:=fun t=>by
    induction t with
    | nil=>intro l h; simp [okA] at h
    | one i t _=>intro l _; simp [Tr.heads]
    | alt t u ih _=>intro l h; simp only [okA,Bool.true_or,Bool.true_and,Bool.and_eq_true] at h; simp [Tr.heads,ih l h.1]
  exact h0 (.alt t u) listed (by unfold okA; simp [hB.2.1,hB.2.2]) hh):P:=h
theorem Zlz {P:Prop} (h:P:=by
  repeat' (first | split at h | (cases h; done))
  all_goals (injection h with h; injection h with h1 h2; injection h2 with h3 h4; exact h4.symm)):P:=h
theorem ZlA {P:Prop} (h:P:=by
  unfold isAgg
  simp only [Sem.run_bind,run_underlying hd,Result.andThen_ok]
  cases d <;> first | rfl | simp [ZDX] at had):P:=h
theorem ZvU {P:Prop} (h:P:=by
  simp only [Zbw,ZbG,Zbf,Bool.not_true,Bool.not_false,Zd0,eq_self]
  repeat' (first | apply And.intro | intro _)
  all_goals
    rw [Bool.eq_iff_iff]
    simp only [Ziz,ZjL,Zrx,Bool.false_eq_true,false_iff,iff_false,true_iff,Zc3] at *
    first
      | omega
      | (simp_all [Zz8]; done)
      | (simp_all [Zz8]; omega)):P:=h
theorem ZeY {P:Prop} (h:P:=by
  obtain rfl:k=a.length:=by omega
  rw [List.take_length]):P:=h
theorem ZeZ {P:Prop} (h:P:=by
  obtain rfl:k=a.length:=by omega
  exact ZGW a _):P:=h
theorem ZvV {P:Prop} (h:P:=by
  simp only [Zbw,ZbG,Zbf,Bool.not_true,Bool.not_false,Zd0,eq_self]
  have hz:ZbO ([]:List ZaM):=⟨Nat.zero_le _,fun x hx=>by cases hx⟩
  unfold ZgM
  rw [Int.toNat_zero,List.drop_zero]
  refine ⟨?_,hz,?_⟩
  · repeat' (first | apply And.intro | split)
    all_goals omega
  · congr 4
    repeat' split
    all_goals omega):P:=h
theorem ZvW {P:Prop} (h:P:=by
  split at h
  · cases v with
    | none=>exact .inl ⟨rfl,rfl,by simpa using h.symm⟩
    | some u=>exact hr.elim
  · rename_i k l'
    obtain rfl:l'=l:=by simpa using h
    cases v with
    | none=>exact hr.elim
    | some u=>have hr' : ZcR X W E M (.w (.c (.int k l'))) u:=hr; exact .inr ⟨k,by rw [(ZfY hr').1]⟩
  · cases h):P:=h
theorem ZvX {P:Prop} (h:P:=by
  refine Eq.mpr (β:=(T2 ((pt True)∧(True∧(rB (btw b 0 31) (Zbf b)))))) (by kernel_rfl) ?_
  simp only [SIA,eq_self]
  repeat' (first | apply And.intro | intro _)
  all_goals (first | trivial | (rw [Bool.eq_iff_iff]; simp_all [Prod.ext_iff,EQA,Zbf]; done) | (simp_all [Prod.ext_iff,EQA,Zbf]; done) | omega)):P:=h
theorem ZvY {P:Prop} (h:P:=by
  refine Eq.mpr (β:=(T5 (bif (geI n lo) then (T5 (rB (leI n hi) (btw n lo hi))) else (T2 (rB false (btw n lo hi)))))) (by kernel_rfl) ?_
  simp only [Zd0,eq_self]
  repeat' (first | apply And.intro | intro _)
  all_goals first | trivial | omega | (simp [btw]; omega) | (rw [Bool.eq_iff_iff]; simp [btw,Zc3]; omega)):P:=h
theorem ZvZ {P:Prop} (h:P:=by
  unfold Zb8
  rw [List.getElem?_append_right (by rw [hml]; exact Nat.le_refl _),hml,Nat.sub_self]
  refine ⟨Nat.le_refl _,fun _=>⟨⟨0,v,v.ownBlock.toList ++ G⟩,?_,rfl⟩⟩
  rw [List.getElem?_append_right (by rw [hkl,← hM.len]; exact Nat.le_refl _),hkl,← hM.len,Nat.sub_self]
  rfl):P:=h
theorem Zv0 {P:Prop} (h:P:=by
  rw [List.take_append_of_le_length (by rw [List.length_take,← List.append_assoc,hLl,hsz]; omega)]
  rw [List.take_take,Nat.min_self,ht,← List.append_assoc,List.take_append_of_le_length (Nat.le_of_eq hl2.symm)]
  exact List.take_of_length_le (Nat.le_of_eq hl2)):P:=h
theorem Zpt {P:Prop} (h:P:=by
  refine ⟨h.1,?_⟩
  have h2:=h.2
  unfold Zb8 at h2 ⊢
  exact Zxg):P:=h
theorem ZlB {P:Prop} (h:P:=by
  obtain ⟨j,_,e,he,hb⟩:=Zlp hb
  exact Za0.2 ⟨e,List.mem_of_getElem? he,hb⟩):P:=h
theorem Zv1 {P:Prop} (h:P:=by
  rw [List.getElem?_append_left hi] at hb
  rw [List.getElem?_append_left (by rw [← hM.len]; exact hi)] at he
  exact (hM.at_ i b e hb he).keep g hm hM.len (fun q hq=>Below.heap_alloc W _ q (hM.lt q (Za0.2 ⟨e,List.mem_of_getElem? he,hq⟩)))):P:=h
theorem Zv2 {P:Prop} (h:P:=by
  simp only [Zd0,eq_self]
  repeat' (first | apply And.intro | intro _)
  all_goals first
    | trivial
    | omega
    | (unfold Zgv; rw [decide_eq_false (by omega)]; rfl)
    | (unfold Zgv; rw [decide_eq_true (by omega)]; simp_all [eqS]; done)):P:=h
theorem ZhF {P:Prop} (h:P:=by
  split at hn <;> first | exact Zbk hn | exact hn.elim):P:=h
theorem Zpu {P:Prop} (h:P:=by
  intro hb
  unfold Zl9 at hb
  split at hb
  · rfl
  · exact hb.elim):P:=h
theorem Zpv {P:Prop} (h:P:=by
  unfold isAgg
  simp only [Sem.run_bind,run_underlying hu,Result.andThen_ok]
  cases d <;> first | rfl | simp [ZDX] at hd):P:=h
theorem Zv3 {P:Prop} (h:P:=by
  unfold Instr.sliceAt
  simp only [Sem.run_bind,run_underlying hu,Result.andThen_ok]
  unfold Instr.slice
  simp only [Sem.run_bind,run_underlying hu,Result.andThen_ok,Sem.run_pure,hsl,sizeOf,typeInfo,run_program,hinf,hsz]):P:=h
theorem Zv4 {P:Prop} (h:P:=by
  obtain ⟨rfl,rfl⟩:=Prod.mk.inj (Option.some.inj h)
  obtain ⟨v,r,rfl,h1,h2⟩:=hr
  exact ⟨[v],r,[],rfl,⟨by rw [h1.1],h1.2,rfl⟩,h2,by simp,fun i hi=>by rw [List.flatMap_cons]; exact List.mem_append_right _ hi⟩):P:=h
theorem Zv5 {P:Prop} (h:P:=by
  obtain ⟨rfl,rfl⟩:=Prod.mk.inj (Option.some.inj h)
  obtain ⟨v,r,rfl,h1,h2⟩:=hr
  exact ⟨[v],r,[],rfl,⟨by rw [h1.1],h1.2,rfl⟩,h2,by simp,fun h=>by rw [List.any_cons,Bool.or_eq_false_iff] at h; exact h.2⟩):P:=h
theorem Zgq {P:Prop} (h:P:=by
  obtain rfl:k=a.length:=by omega
  omega):P:=h
theorem Zv6 {P:Prop} (h:P:=by
  refine hgoal.mono fun en W' hq=>?_
  obtain ⟨u,E',rfl,g,r,hv⟩:=hq
  refine ⟨u,E,rfl,ZiO g,Zjo g hM,Zog g hM,?_⟩
  rw [hp] at hv
  exact ZoX (hsc _ _) hv):P:=h
theorem Zv7 {P:Prop} (h:P:=by
  simp only [Zbw,ZbG,Zbf,Bool.not_true,Bool.not_false,Zd0,eq_self]
  first
    | (unfold rowMax; exact ⟨by simp; omega,rfl⟩)
    | (refine ⟨by unfold rowMax; omega,?_⟩; trivial)
    | (unfold rowMax; omega)):P:=h
theorem Zpw {P:Prop} (h:P:=by
  obtain ⟨rfl,rfl⟩:=Prod.mk.inj (Option.some.inj h)
  rfl):P:=h
theorem Zv8 {P:Prop} (h:P:=by
  rw [Zls]
  show W.cell? _=_
  rw [cell_of_row W b _ cur T (0,0) hg]
  rw [hnews,List.getElem?_take] at hj
  split at hj
  · rw [List.getElem?_drop] at hj
    simpa using hj
  · cases hj):P:=h
theorem Zgr {P:Prop} (h:P:=by
  first | (refine ⟨?_,?_⟩ <;> omega) | omega):P:=h
theorem Zv9 {P:Prop} (h:P:=by
  have h1:W1.heap.size=b1:=by rw [hW1,hb1]; show (W.heap.push _).size=_; rw [Array.size_push]
  rw [hW2,← h1]
  show (W1.heap.push _)[W1.heap.size]?=_
  rw [Array.getElem?_push,if_pos rfl]):P:=h
theorem Zwa {P:Prop} (h:P:=by
  have h1:¬ boxW l m.2.1 < 0:=by have:=hne (by omega); omega
  unfold Zh8 at hft
  rw [if_neg (by omega),if_neg h1,if_neg (by omega),if_neg (by omega),if_pos h] at hft
  simpa using hft):P:=h
theorem Zwb {P:Prop} (h:P:=by
  have:(parts.toList.map fun p=>(p.1,evalA tm p.2))=parts.toList.map fun p=>(p.1,evalA tm' p.2):=List.map_congr_left fun p hp=>by rw [h p.2 (by simp at hp ⊢; exact ⟨p.1,hp⟩)]
  rw [this]):P:=h
theorem Zwc {P:Prop} (h:P:=by
  refine ZcG fun x=>?_
  have c1:=Zja (e':={ e with foot:=[] }) x he
  have c2:=Zlq hM x
  have c3:({ e with foot:=[] }:EB).foot.count x=0:=rfl
  omega):P:=h
theorem Zwd {P:Prop} (h:P:=by
  repeat' (first | apply And.intro | intro _)
  all_goals first
    | trivial
    | omega
    | contradiction
    | exact Eq.symm (by assumption)
    | assumption
    | (exfalso; simp_all; done)):P:=h
theorem Zwe {P:Prop} (h:P:=by
  repeat' (first | apply And.intro | intro _)
  all_goals first
    | trivial
    | omega
    | (subst_vars; first | rfl | omega | (simp only [GXA]; first | done | omega | (congr 1; omega)))):P:=h
theorem Zwf {P:Prop} (h:P:=by
  obtain rfl:k=List.length l:=by omega
  exact ⟨by omega,⟨by omega,by rw [List.length_append,List.length_take,List.length_replicate]; omega⟩,ZFI k3 (by omega) _ _⟩):P:=h
theorem Zwg {P:Prop} (h:P:=by
  rw [ByteArray.toList_eq,ByteArray.toList_eq,Bool.eq_iff_iff,beq_iff_eq,decide_eq_true_eq]
  exact ⟨fun h=>ByteArray.ext (Array.toList_inj.1 h),fun h=>by rw [h]⟩):P:=h
theorem Zwh {P:Prop} (h:P:=by
  rcases List.mem_cons.1 h with rfl | h
  · exact .inl ⟨k,rfl,by rw [List.map_cons,List.sum_cons]; simp only [MTy.nb]; omega⟩
  · exact up (inp:=[]) rfl rfl h):P:=h
theorem Zwi {P:Prop} (h:P:=by
  refine ⟨⟨b,0,none⟩,by simp [h],fun t u hu=>?_⟩
  have h0:news.length=0:=by rw [hnl]; omega
  rw [List.length_eq_zero_iff.1 h0] at hu
  simp at hu):P:=h
theorem Zwj {P:Prop} (h:P:=by
  simp only [Zd0,eq_self]
  first | exact (by rw [Bool.eq_iff_iff,Zdj]; exact Zpo s) | exact ⟨trivial,by rw [Bool.eq_iff_iff,Zdj]; exact Zpo s⟩):P:=h
theorem Zwk {P:Prop} (h:P:=by
  rcases Int.lt_or_le (boxW l m.2.1) 0 with h1 | h1
  · exfalso
    unfold Zh8 at hft
    rw [if_neg h,if_pos h1] at hft
    cases hft
  · exact h1):P:=h
theorem Zwl {P:Prop} (h:P:=by
  simp only [Bool.and_eq_true] at hc
  exact Zpb hM ht ho hu hp hc.1.1 (Nat.le_of_ble_eq_true hc.1.2) (Nat.eq_of_beq_eq_true hc.2.1) hc.2.2):P:=h
theorem Zwm {P:Prop} (h:P:=by
  rw [Zbq,List.mem_append] at hb
  rw [World.size_alloc]
  rcases hb with hb | hb
  · have:=hM.lt b hb; omega
  · simp [foots] at hb; omega):P:=h
theorem Zwn {P:Prop} (h:P:=by
  subst hqi
  obtain rfl:e=e':=Option.some.inj (he.symm.trans hq)
  exact ⟨e2,List.getElem?_set_self (by rw [hkl]; exact hilE),by rw [he2]⟩):P:=h
theorem Zwo {P:Prop} (h:P:=by
  simp only [Zd0,eq_self]
  repeat' (first | apply And.intro | intro _)
  all_goals first
    | trivial
    | omega
    | assumption
    | (subst_vars; rfl)):P:=h
theorem Zwp {P:Prop} (h:P:=by
  unfold execOp
  simp only [ho,resolve,invoke,builtin,Sem.run_bind,Sem.run_pure,Result.andThen_ok,List.map_toArray,List.map_cons,List.map_nil,h]):P:=h
theorem Zpx {P:Prop} (h:P:=by
  rw [List.getElem?_append_left (List.getElem?_eq_some_iff.1 hM).1,hM]
  exact h):P:=h
theorem Zwq {P:Prop} (h:P:=by
  rw [e] at e'
  injection e' with e'
  injection e' with e'
  injection e' with a1 a2
  exact ⟨a1,by simpa using a2⟩):P:=h
theorem Zwr {P:Prop} (h:P:=by
  obtain ⟨v,E',M',r,rfl,g,m,hv,hend⟩:=hq
  obtain ⟨E2,g2,m2,hv2⟩:=ZHR (T:=T) m g.g hv hend
  exact ⟨v,E2,rfl,g2,m2,hv2⟩):P:=h
theorem Zws {P:Prop} (h:P:=by
  rcases List.mem_append.1 hm with hm | hm
  · exact hM.xlt b hm (by rw [hfoot]; exact List.mem_append_left _ hb)
  · exact hnd.2.2 b hb b hm rfl):P:=h
theorem Zwt {P:Prop} (h:P:=by
  rw [Zbq,List.mem_append] at hf
  rcases hf with hf | hf
  · exact hM.xlt b hb hf
  · have:=hM.xsz b hb; simp [foots] at hf; omega):P:=h
theorem Zwu {P:Prop} (h:P:=by
  rcases hb.2 with h2 | h2
  · rw [← Nat.eq_of_beq_eq_true h2]; exact this
  · exact ZCh hcl n e.on this (Bool.and_eq_true_iff.1 h2).2):P:=h
theorem ZlC {P:Prop} (h:P:=by
  rw [List.count_append,List.count_append]
  omega):P:=h
theorem Zpy {P:Prop} (h:P:=by
  have:=(List.getElem?_eq_some_iff.1 hb).1
  simp at this
  omega):P:=h
theorem Zwv {P:Prop} (h:P:=by
  obtain ⟨rfl,rfl,rfl⟩:=ZhA h
  obtain ⟨v,r,rfl,h1,h2⟩:=hr
  exact ⟨[v],r,rfl,⟨by rw [h1.1],h1.2,rfl⟩,h2,by simp⟩):P:=h
theorem Zww {P:Prop} (h:P:=by
  refine Zcl hM (Instr.fieldAt s (a.eval x) n) (by unfold execOp; rw [ho]) (by rw [h]; exact key _ _) ?_
  rw [Nat.add_assoc]
  exact r _):P:=h
theorem Zpz {P:Prop} (h:P:=by
  split at hn <;> first | exact ⟨[],(List.append_nil M).symm⟩ | exact hn.elim):P:=h
theorem Zwx {P:Prop} (h:P:=by
  show (tm.set d v).getD t .any=tm.getD t .any
  rw [List.getD_eq_getElem?_getD,List.getD_eq_getElem?_getD,List.getElem?_set_ne hne]):P:=h
theorem Zwy {P:Prop} (h:P:=by
  unfold execOp
  simp only [ho,hv,he,Sem.run_bind,hg,Result.andThen_ok,binOp,run_equal_slice_nil W t e A _ _ hu,Sem.run_pure]):P:=h
theorem Zwz {P:Prop} (h:P:=by
  exact Zcl hM (Instr.loadAt t (a.eval x)) (by unfold execOp; rw [ho]) (by rw [hv]; simpa [Instr.loadAt,Instr.sureAddr] using h1) h2):P:=h
theorem Ze0 {P:Prop} (h:P:=by
  exact hr.trans (ZGV hk)):P:=h
theorem ZpA {P:Prop} (h:P:=by
  rw [List.length_append,List.length_take,List.length_drop]
  omega):P:=h
theorem ZwA {P:Prop} (h:P:=by
  rw [hc2,List.size_toArray,List.length_append,List.length_append,List.length_take,List.length_drop,hk,hk2,hLl,hsz]
  omega):P:=h
theorem ZwB {P:Prop} (h:P:=by
  have h2:=congrArg List.length HD.out
  have h3:=ZAZ k.toNat
  rw [List.length_append] at h2
  omega):P:=h
theorem ZwC {P:Prop} (h:P:=by
  obtain ⟨h1,_⟩:=Prod.mk.inj (Option.some.inj h)
  injection h1 with h1 _ _
  subst h1
  exact List.mem_singleton.2 rfl):P:=h
theorem Zjg {P:Prop} (h:P:=by
  exact ⟨E2,g1.trans g2,m1.trans m2,r2⟩):P:=h
theorem ZwD {P:Prop} (h:P:=by
  obtain rfl:k=List.length qu.1:=by omega
  first | exact (Zn2 hk.2).symm | exact ⟨trivial,(Zn2 hk.2).symm⟩):P:=h
theorem ZwE {P:Prop} (h:P:=by
  simp only [SIA,eq_self]
  refine ⟨⟨fun _=>trivial,fun _ _=>trivial⟩,?_⟩
  rw [Bool.eq_iff_iff,Zdj]
  exact Zpo xs):P:=h
theorem ZwF {P:Prop} (h:P:=by
  have hK:m=m:=by first | rfl | (simp only [gc1,gc2,gc3,gc4]; omega) | omega
  rw [hK] at h0
  exact h0.symm):P:=h
theorem ZwG {P:Prop} (h:P:=by
  by_cases hj:b=j
  · subst hj; rw [hb]; trivial
  · rw [List.getElem?_set_ne hj]
    exact Za8.refl W E M j):P:=h
theorem ZwH {P:Prop} (h:P:=by
  simp only [Array.toList_append,List.append_assoc]
  rw [← List.append_assoc,← hlen]
  exact List.take_left):P:=h
theorem ZpB {P:Prop} (h:P:=by
  have k1:x=q:=k1
  subst k1
  exact ⟨h.1,h.2.1,k2⟩):P:=h
theorem ZwI {P:Prop} (h:P:=by
  have:Zab l k=ZoM:=ZGN (t:=Zak) (Nat.le_of_not_lt hk)
  rw [this]
  exact Nat.zero_le _):P:=h
theorem ZwJ {P:Prop} (h:P:=by
  rcases h.2 with ⟨h1,h3⟩ | ⟨g',cap,cur,q1,_⟩
  · exact ⟨none,0,by rw [h1,h3]⟩
  · exact ⟨_,_,q1⟩):P:=h
theorem ZwK {P:Prop} (h:P:=by
  rw [List.getElem?_set_ne hj] at hb'
  exact (hr.mem.at_ j b' e hb' he).keep g m hr.mem.len (fun _ _=>rfl)):P:=h
theorem ZwL {P:Prop} (h:P:=by
  simp only [Zd0,eq_self]
  repeat' (first | apply And.intro | intro _)
  all_goals first | trivial | omega):P:=h
theorem ZwM {P:Prop} (h:P:=by
  have:=ZjB (us:=us) (j:=j) (k:=k) (by simpa using h) (by omega)
  simpa [Zea] using this):P:=h
theorem ZwN {P:Prop} (h:P:=by
  have:=Int.natAbs_tmod x y
  have h3:x.natAbs % y.natAbs≤x.natAbs:=Nat.mod_le _ _
  omega):P:=h
theorem ZwO {P:Prop} (h:P:=by
  have:=ZqQ n (listed.setIfInBounds i true)
  show (Zhv T ops n _).len + 1≤_
  omega):P:=h
theorem ZwP {P:Prop} (h:P:=by
  rw [← List.append_assoc,← List.append_assoc]
  exact List.Perm.append_right _ List.perm_append_comm):P:=h
theorem ZwQ {P:Prop} (h:P:=by
  have h2:=ZEi hcl hj hd
  rw [ZHN (mem_ready.1 hr).1] at h2
  cases h2):P:=h
theorem ZwR {P:Prop} (h:P:=by
  unfold loadVar
  simp only [Sem.run_bind,hagg,Result.andThen_ok,if_true,hsz,hl',Sem.run_pure]):P:=h
theorem ZwS {P:Prop} (h:P:=by
  obtain rfl:u1=[]:=q2
  rw [List.append_nil] at e1
  rw [e1]
  exact q1):P:=h
theorem ZwT {P:Prop} (h:P:=by
  obtain ⟨A,c2,hsl⟩:=ZcI h4
  injection hsl with _ hll _
  rw [hll,List.length_set]):P:=h
theorem ZwU {P:Prop} (h:P:=by
  exact ⟨_,by simp only [binOp,Sem.run_bind,Zzj hn,Result.andThen_ok,Sem.run_pure],rfl⟩):P:=h
theorem ZwV {P:Prop} (h:P:=by
  refine ⟨rfl,cur2,?_,X.out.1,by rw [X.out.2,Y.out]⟩
  rw [hW.out]
  exact Ztn _ _ _ _):P:=h
theorem Zjh {P:Prop} (h:P:=by
  exact List.mem_append_left _ hb):P:=h
theorem ZpC {P:Prop} (h:P:=by
  exact ⟨⟨fun _=>trivial,fun _ _=>trivial⟩,rfl⟩):P:=h
theorem ZlD {P:Prop} (h:P:=by
  unfold eqGuard
  cases op <;> rfl):P:=h
theorem ZwW {P:Prop} (h:P:=by
  rw [hW2]
  refine Zbz.trans ?_ (Zjl W1 _)
  rw [hW1]
  exact Zjl W _):P:=h
theorem ZwX {P:Prop} (h:P:=by
  obtain rfl:=Option.some.inj hb
  obtain rfl:=Option.some.inj he
  exact ho):P:=h
theorem ZwY {P:Prop} (h:P:=by
  obtain ⟨T,cells,G,_,_,h6⟩:=h4
  rw [h6,h1]
  simp [Value.ownBlock]):P:=h
theorem ZwZ {P:Prop} (h:P:=by
  obtain ⟨e',q1,q2⟩:=(Zzn hkeys).2 hq
  exact absurd q2 (h2 e' q1)):P:=h
theorem Zw0 {P:Prop} (h:P:=by
  have:=(List.getElem?_eq_some_iff.1 hb).1
  simp [hml] at this
  omega):P:=h
theorem Zw1 {P:Prop} (h:P:=by
  rw [h1.1]
  exact ⟨none,0,rfl,Nat.le_refl _,Nat.zero_le _, .inl ⟨rfl,rfl⟩⟩):P:=h
theorem Zw2 {P:Prop} (h:P:=by
  rw [← j1]
  exact ZFE ho3 (fun b hb hm=>m3.xlt b hm (by simp [foots,hb]))):P:=h
theorem Zw3 {P:Prop} (h:P:=by
  rcases List.mem_append.1 hq with hq | hq
  · simp [q1 q hq]
  · simp [q2 q hq]):P:=h
theorem Zw4 {P:Prop} (h:P:=by
  rw [hnews,List.length_take,List.length_drop,Array.length_toList,hsz]
  omega):P:=h
theorem Zw5 {P:Prop} (h:P:=by
  rw [Znl,Nat.zero_add,hlk]
  exact (congrFun (Option.map_id (α:=_)) _)):P:=h
theorem Zw6 {P:Prop} (h:P:=by
  have:=congrArg (List.drop 1) h3
  rwa [List.drop_drop,List.drop_drop] at this):P:=h
theorem Zw7 {P:Prop} (h:P:=by
  have h3:a ≠ b:=fun e=>by subst e; omega
  simp [h1,h2,h3,h3.symm]):P:=h
theorem Zw8 {P:Prop} (h:P:=by
  rw [hM.len,List.getElem?_append_right (Nat.le_refl _),Nat.sub_self]
  rfl):P:=h
theorem Zw9 {P:Prop} (h:P:=by
  rw [List.getElem?_take,if_pos hi,List.getElem?_take,if_pos hi]
  exact h):P:=h
theorem Zxa {P:Prop} (h:P:=by
  unfold Zec
  rw [if_neg h1,if_neg h2,if_neg h3,if_neg h4,if_pos h5]):P:=h
theorem Zxb {P:Prop} (h:P:=by
  obtain ⟨e',q1,q2⟩:=g.blk i e h1
  exact ⟨e',q1,by rw [q2]; exact h2⟩):P:=h
theorem ZpD {P:Prop} (h:P:=by
  exact (Zpj (fun q=>by omega)).symm):P:=h
theorem Zxc {P:Prop} (h:P:=by
  have:=Zgm.1 (hbx _ (hk h))
  exact ⟨this.2.2.2.2,this.2.2.2.1⟩):P:=h
theorem ZpE {P:Prop} (h:P:=by
  exact ⟨u,by rw [e]; simpa using q1,q2⟩):P:=h
theorem Zxd {P:Prop} (h:P:=by
  exact ⟨_,_,e,hr,hgr.1,hgr.2,Or.inr rfl,fun h=>absurd h hm⟩):P:=h
theorem ZlE {P:Prop} (h:P:=by
  exact ⟨l',by simpa using hq⟩):P:=h
theorem Zxe {P:Prop} (h:P:=by
  have hlen:∀ k,(fanN v.1 v.2 (max n 0) k).length=v.2.length:=Zm9 _ _ _
  have hsm:∀ k,∀ x ∈ fanN v.1 v.2 (max n 0) k,ZdB x:=Zjm (hpre:Zc8 v).2.2
  have hvl:v.2.length≤1048576:=(hpre:Zc8 v).2.1
  have hll:v.1.2.1.length≤1048576:=(hpre:Zc8 v).1.2
  simp only [Zbw,ZbG,Zbf,Bool.not_true,Bool.not_false,Zd0,eq_self]
  exact ZvF):P:=h
theorem ZcT {P:Prop} (h:P:=by
  try unfold maxLen at *
  exact Zci):P:=h
theorem Zxf {P:Prop} (h:P:=by
  refine Eq.mpr (β:=(T2 ((pt True)∧(True∧(rB (btw n 1 999999999) (btw n 1 999999999)))))) (by kernel_rfl) ?_
  exact Zps):P:=h
theorem ZpF {P:Prop} (h:P:=by
  split at h
  · exact Zpw
  · cases h):P:=h
theorem Zxg {P:Prop} (h:P:=by
  rw [(Zgf (E':=E') hl i).1,(Zgf (N:=N) hl i).2]
  exact h2):P:=h
open Go.ChangeShapes Go.WideShapes Go.ChangeAt Go.RowKit Go.Joins Go.Deep
theorem ZE9 {a b:ByteArray} (h:a=b):Ending.returned (.string a)=.returned (.string b):=by rw [h]
theorem ZJB {a b:Bool} (h:a=b):Ending.returned (.bool a)=.returned (.bool b):=by rw [h]
theorem ZKb {k:IntKind} {a b:Int} (h:a=b):Ending.returned (.int k a)=.returned (.int k b):=by rw [h]
theorem ZlF {H:Type} {enc:TypeId × Value→H} {P:Program} (hl:laidOutB P=true) {W W' : World} (hb:Below W.heap.size W W') :
    ∀ {ts:List TypeId} {vs:List Value} {ds:List (DataW H)} {ps:List MemPlace},
      (∀ t ∈ ts,P.readableRec t=true∧t < P.types.size)→DataW.TrodAll enc P W 0 (fun _=>true) true ts vs ds ps→(∀ x ∈ ps,x.block < W.heap.size) →
      DataW.TrodAll enc P W' 0 (fun b=>decide (b < W.heap.size)) true ts vs ds ps
  | [],[],[],_,_,h,_=>h
  | t :: ts,v :: vs,d :: ds,ps,hr,⟨p,q,h1,h2,e⟩,hlt=>by
    subst e
    have ht:=hr t (by simp)
    exact ⟨p,q,Below.trod hl ht.1 ht.2 h1 hb (fun x hx=>hlt x (by simp [hx])),ZlF hl hb (fun t' ht'=>hr t' (by simp [ht'])) h2 (fun x hx=>hlt x (by simp [hx])),rfl⟩
  | [],_ :: _,_,_,_,h,_=>by simp [DataW.TrodAll] at h
  | [],[],_ :: _,_,_,h,_=>by simp [DataW.TrodAll] at h
  | _ :: _,[],_,_,_,h,_=>by simp [DataW.TrodAll] at h
  | _ :: _,_ :: _,[],_,_,h,_=>by simp [DataW.TrodAll] at h
theorem ZGZ {H:Type} {enc:TypeId × Value→H} {P:Program} {f:Func} {s:ChangeSpec} {W W' : World} {args:Array Value} {ds gs:List (DataW H)} {before:List MemPlace} {tb:TypeId}
    (hl:laidOutB P=true) (hr:(f.params.toList.all fun t=>P.readableRec t && decide (t < P.types.size))=true) (hres:f.resultTypes=#[tb]) (htb:P.underlying tb=some .bool) (hvars:s.vars=[])
    (hs:s.fn H ds={ results:=[.lit (.bool true)],args:=ds })
    (hW:DataW.Whole enc P f.params.toList s.vars false W args.toList ds gs before) (hb:Below W.heap.size W W'):s.post enc P f false true false false W args (.bool true) W':=by
  have hr:∀ t ∈ f.params.toList,P.readableRec t=true∧t < P.types.size:=fun t ht=>by
    have:=List.all_eq_true.1 hr t ht
    simpa using this
  have hlt:∀ p ∈ before,p.block < W.heap.size:=fun p hp=>hW.lt p hp
  obtain ⟨p,q,hA,hV,rfl,hz,hn⟩:=hW
  have hV':=hV
  rw [hvars] at hV
  obtain ⟨rfl,rfl⟩:=trodVars_none hV
  refine ⟨ds,[],p ++ [],[],p,[],⟨p,[],hA,hV',rfl,hz,hn⟩,?_,?_,?_,?_,fun h=>by cases h⟩
  · rw [List.append_nil,hs,hres]
    exact trodAll_mk1 ⟨1,by simp [DataW.trod,htb,Value.cells]⟩
  · rw [List.append_nil,hs]
    exact ZlF hl hb hr hA (fun x hx=>hlt x (by simp [hx]))
  · rw [List.append_nil,hs,hvars]
    rfl
  · exact World.keptBut_mono (fun x hx=>⟨hx,Or.inr (Or.inl (by simpa using hx))⟩) (hb.frame (· ∈ p ++ []))
def btw (n lo hi:Int):Bool:=decide (lo≤n) && decide (n≤hi)
theorem ZJC {n lo hi:Int} (h1:lo≤n) (h2:n≤hi):btw n lo hi=true:=by simp [btw,h1,h2]
theorem ZI9 {n lo hi:Int} (h:n < lo∨hi < n):btw n lo hi=false:=by simp [btw]; omega
theorem Zbw {n lo hi:Int}:btw n lo hi=true↔lo≤n∧n≤hi:=by simp [btw]
theorem ZbG {n lo hi:Int}:btw n lo hi=false↔n < lo∨hi < n:=by simp [btw]; omega
theorem ZKB {W w1:World} (hb:Below W.heap.size W w1):(∀ b o,b < W.heap.size→w1.cell? ⟨b,o,none⟩=W.cell? ⟨b,o,none⟩)∧(∀ b o,b < W.heap.size→w1.frozen? ⟨b,o,none⟩=W.frozen? ⟨b,o,none⟩) :=
  ⟨fun b o h=>hb.cell (p:=⟨b,o,none⟩) h,fun b o h=>hb.frozen (p:=⟨b,o,none⟩) h⟩
theorem ZJa {a b c:World} (h:Below a.heap.size a b) (k:Below b.heap.size b c):Below a.heap.size a c:=h.trans (k.mono h.size)
theorem ZH7 {a b:World} (h:Below a.heap.size a b) (o:Obj):Below a.heap.size a (b.alloc o):=h.alloc h.size o
def ext (w:World) (E:Array Obj) (d:Nat):World:={ w with heap:=w.heap ++ E,drawn:=d }
section
variable (w:World) (E:Array Obj) (d:Nat)
@[simp,go_sem] theorem ZJD:(ext w E d).heap.size=w.heap.size + E.size:=by simp [ext]
@[go_sem] theorem ZJE {n m:Nat} (a1:Nat) (h:n < m):(n < m + a1)=True:=by simp only [eq_iff_iff,iff_true]; omega
@[go_sem] theorem ZJF {n m:Nat} (a1 a2:Nat) (h:n < m):(n < m + a1 + a2)=True:=by simp only [eq_iff_iff,iff_true]; omega
@[go_sem] theorem ZJG {n m:Nat} (a1 a2 a3:Nat) (h:n < m):(n < m + a1 + a2 + a3)=True:=by simp only [eq_iff_iff,iff_true]; omega
@[go_sem] theorem ZJH {n m:Nat} (a1 a2 a3 a4:Nat) (h:n < m):(n < m + a1 + a2 + a3 + a4)=True:=by simp only [eq_iff_iff,iff_true]; omega
@[go_sem] theorem ZJI {n m:Nat} (a1 a2 a3 a4 a5:Nat) (h:n < m):(n < m + a1 + a2 + a3 + a4 + a5)=True:=by simp only [eq_iff_iff,iff_true]; omega
@[go_sem] theorem ZJJ {n m:Nat} (a1 a2 a3 a4 a5 a6:Nat) (h:n < m):(n < m + a1 + a2 + a3 + a4 + a5 + a6)=True:=by simp only [eq_iff_iff,iff_true]; omega
@[go_sem] theorem ZJK {n m:Nat} (a1 a2 a3 a4 a5 a6 a7:Nat) (h:n < m):(n < m + a1 + a2 + a3 + a4 + a5 + a6 + a7)=True:=by simp only [eq_iff_iff,iff_true]; omega
@[go_sem] theorem ZJL {n m:Nat} (a1 a2 a3 a4 a5 a6 a7 a8:Nat) (h:n < m):(n < m + a1 + a2 + a3 + a4 + a5 + a6 + a7 + a8)=True:=by simp only [eq_iff_iff,iff_true]; omega
@[go_sem] theorem ZJM {n m:Nat} (a1 a2 a3 a4 a5 a6 a7 a8 a9:Nat) (h:n < m):(n < m + a1 + a2 + a3 + a4 + a5 + a6 + a7 + a8 + a9)=True:=by simp only [eq_iff_iff,iff_true]; omega
@[go_sem] theorem ZJb {n m:Nat} (a1 a2 a3 a4 a5 a6 a7 a8 a9 a10:Nat) (h:n < m):(n < m + a1 + a2 + a3 + a4 + a5 + a6 + a7 + a8 + a9 + a10)=True:=by simp only [eq_iff_iff,iff_true]; omega
@[go_sem] theorem ZJc {n m:Nat} (a1 a2 a3 a4 a5 a6 a7 a8 a9 a10 a11:Nat) (h:n < m):(n < m + a1 + a2 + a3 + a4 + a5 + a6 + a7 + a8 + a9 + a10 + a11)=True:=by simp only [eq_iff_iff,iff_true]; omega
@[go_sem] theorem ZJd {n m:Nat} (a1 a2 a3 a4 a5 a6 a7 a8 a9 a10 a11 a12:Nat) (h:n < m):(n < m + a1 + a2 + a3 + a4 + a5 + a6 + a7 + a8 + a9 + a10 + a11 + a12)=True:=by simp only [eq_iff_iff,iff_true]; omega
theorem Zc7 {n:Nat} (hn:n < w.heap.size):(ext w E d).heap[n]?=w.heap[n]?:=by
  show (w.heap ++ E)[n]?=_
  rw [Array.getElem?_append_left hn]
@[go_sem] theorem Zqv (n i:Nat) (hn:n < w.heap.size):(ext w E d).cell? ⟨n,i,none⟩=w.cell? ⟨n,i,none⟩:=by
  unfold World.cell?
  rw [Zc7 w E d hn]
@[go_sem] theorem ZCZ (n i:Nat) (hn:n < w.heap.size):(ext w E d).frozen? ⟨n,i,none⟩=w.frozen? ⟨n,i,none⟩:=by
  unfold World.frozen?
  rw [Zc7 w E d hn]
@[go_sem] theorem ZC0 (n i:Nat) (v:Value) (hn:n < w.heap.size):(ext w E d).setCell ⟨n,i,none⟩ v=ext (w.setCell ⟨n,i,none⟩ v) E d:=by
  unfold World.setCell ext
  simp only
  congr 1
  apply Array.ext_getElem?
  intro k
  simp only [Array.getElem?_modify,Array.getElem?_append,Array.size_modify]
  by_cases hk:n=k
  · subst hk
    simp [hn]
  · simp [hk]
@[go_sem] theorem ZG0:(ext w E d).drew=ext w E (d + 1):=rfl
@[go_sem] theorem ZJN:ext w.drew E d=ext w E d:=rfl
@[go_sem] theorem ZJe (n:Nat):ext (w.drewN n) E d=ext w E d:=rfl
@[go_sem] theorem ZFa (n:Nat):(ext w E d).drewN n=ext w E (d + n):=rfl
theorem ZpG (E' : Array Obj) (d' : Nat):ext (ext w E d) E' d'=ext w (E ++ E') d':=by simp [ext]
theorem Zxh (o:Obj):(ext w E d).alloc o=ext w (E.push o) d:=by simp [ext,World.alloc]
theorem ZKc:w=ext w #[] w.drawn:=by simp [ext]
theorem ZA0 {a b:World} (h:Below a.heap.size a b) (E:Array Obj) (d:Nat):Below a.heap.size a (ext b E d) :=
  h.trans ⟨rfl,rfl,rfl,by simp,fun k hk=>Zc7 b E d (by have:=h.size; omega)⟩
theorem Zji {w w1:World} (h:Below w.heap.size w w1):∃ E d,w1=ext w E d:=by
  refine ⟨w1.heap.extract w.heap.size,w1.drawn,?_⟩
  have hh:w1.heap=w.heap ++ w1.heap.extract w.heap.size:=by
    have hs:=h.size
    apply Array.ext_getElem?
    intro k
    rw [Array.getElem?_append]
    split
    · exact h.block k (by assumption)
    · rw [Array.getElem?_extract]
      split
      · congr 1; omega
      · exact Array.getElem?_eq_none (by omega)
  have h1:=h.os
  have h2:=h.tape
  have h3:=h.output
  cases w1
  simp only [ext] at *
  subst h1 h2 h3
  simp [← hh]
end
def RV (v:Value) (w:World) (e:Ending) (w' : World):Prop:=e=.returned v∧∃ E d,w'=ext w E d
theorem RV.mk {v:Value} {w w' : World} {e:Ending} (h1:e=.returned v) (h2:Below w.heap.size w w'):RV v w e w':=⟨h1,Zji h2⟩
theorem RV.below {v:Value} {w w' : World} {e:Ending} (h:RV v w e w'):e=.returned v∧Below w.heap.size w w':=by
  obtain ⟨h1,E,d,rfl⟩:=h
  exact ⟨h1,ZA0 (Below.refl _ _) _ _⟩
def szT (n:Int) (k:Nat):Int:=if n < k then -1 else n - k
theorem ZKq {n:Int} {k:Nat} (h:n < k):szT n k=-1:=by simp [szT,h]
theorem ZKr {n:Int} {k:Nat} (h:(k:Int)≤n):szT n k=n - k:=by unfold szT; rw [if_neg (by omega)]
theorem ZKs {n:Int} (k:Nat) (h : -1≤n):szT n k≤n∧-1≤szT n k:=by unfold szT; split <;> omega
theorem ZKd {n:Int} {k:Nat} (h:0≤szT n k):(k:Int)≤n∧szT n k=n - k:=by unfold szT at *; split at h <;> (try split) <;> omega
theorem ZKt (w:World) (o:Obj):Below w.heap.size w (w.alloc o):=ZH7 (Below.refl _ _) o
theorem ZH8:laidOutB Tryz.prog=true:=by kernel_rfl
theorem ZKC:ownKnob Tryz.prog.godebug=none:=by kernel_rfl
def ZhG (W:World) (b:Nat):Array Value:=match W.heap[b]? with | some (.cells cs _ _)=>cs | _=>#[]
def ZH9 (W:World) (b:Nat):Array Value:=ZhG W b
theorem blkOf_ext' {w:World} {b:Nat} (E:Array Obj) (d:Nat) (h:b < w.heap.size):ZhG (ext w E d) b=ZhG w b:=by
  unfold ZhG
  rw [Zc7 w E d h]
@[go_sem] theorem ZJf {w:World} {b:Nat} (E:Array Obj) (d:Nat):ZhG (ext w E d) b=if b < w.heap.size then ZhG w b else ZH9 (ext w E d) b:=by
  split
  · rename_i h; exact blkOf_ext' E d h
  · rfl
theorem blkOf_new (w:World) (cs:Array Value) (T:TypeId) (fr:Nat × Nat):ZhG (w.alloc (.cells cs T fr)) w.heap.size=cs:=by
  unfold ZhG
  have:(w.alloc (.cells cs T fr)).heap[w.heap.size]?=some (.cells cs T fr):=by
    show (w.heap.push _)[w.heap.size]?=_
    simp
  rw [this]
@[go_sem] theorem blkOf_past {w:World} {b:Nat} (o:Obj):ZhG (w.alloc o) b=if b < w.heap.size then ZhG w b else ZH9 (w.alloc o) b:=by
  split
  · rename_i h
    unfold ZhG
    rw [Below.heap_alloc w o b h]
  · rfl
@[go_sem high] theorem ZJO {w:World} {b:Nat} (cs:Array Value) (T:TypeId) (fr:Nat × Nat):ZhG (w.alloc (.cells cs T fr)) b=if b < w.heap.size then ZhG w b else if b=w.heap.size then cs else ZH9 (w.alloc (.cells cs T fr)) b:=by
  split
  · rename_i h; rw [blkOf_past,if_pos h]
  · split
    · rename_i h; subst h; exact blkOf_new _ _ _ _
    · rfl
@[go_sem] theorem ZIo (w:World) (b:Nat):ZhG w.drew b=ZhG w b:=rfl
@[go_sem] theorem ZIa (w:World) (b n:Nat):ZhG (w.drewN n) b=ZhG w b:=rfl
@[go_sem high] theorem ZG1 {P:Program} (W:World) (b n:Nat) (h:(ZhG W b).size=n):(loadCells ⟨b,0,none⟩ n).run P W=.ok (ZhG W b) W:=by
  subst h
  unfold ZhG
  cases hb:W.heap[b]? with
  | none=>simp [loadCells,loadCellsFrom]
  | some o =>
    cases o with
    | cells cs t fr =>
      have hl:(loadCells ⟨b,0,none⟩ cs.toList.length).run P W=.ok cs.toList.toArray W :=
        run_loadCells_list (P:=P) W ⟨b,0,none⟩ cs.toList (fun j v hv=>by
          have hadd:(⟨b,0,none⟩:Addr).add j=⟨b,j,none⟩:=by unfold Addr.add; split <;> simp_all
          rw [hadd,cell_of_row W b j cs t fr hb]
          simpa using hv)
      simpa using hl
    | _=>simp [loadCells,loadCellsFrom]
section
variable {P:Program} (w:World) (a:Addr) (n:Nat)
@[go_sem low] theorem ZG2 (_:(w.cell? a).isSome=true):(loadCells a n).run P w=(loadCellsFrom a 0 n #[]).run P w:=rfl
@[go_sem low] theorem ZG3 (E:Array Obj) (d:Nat):(loadCells a n).run P (ext w E d)=(loadCellsFrom a 0 n #[]).run P (ext w E d):=rfl
@[go_sem low] theorem ZFb (o:Obj):(loadCells a n).run P (w.alloc o)=(loadCellsFrom a 0 n #[]).run P (w.alloc o):=rfl
@[go_sem low] theorem ZFt:(loadCells a n).run P w.drew=(loadCellsFrom a 0 n #[]).run P w.drew:=rfl
@[go_sem low] theorem ZFc (k:Nat):(loadCells a n).run P (w.drewN k)=(loadCellsFrom a 0 n #[]).run P (w.drewN k):=rfl
@[go_sem low] theorem ZG4 (p:Addr) (v:Value):(loadCells a n).run P (w.setCell p v)=(loadCellsFrom a 0 n #[]).run P (w.setCell p v):=rfl
end
def Zdv (W:World) (b n:Nat):Bool:=match W.heap[b]? with | some (.cells cs _ fr)=>cs.size == n && fr == (0,0) | _=>false
def ZpH (W:World) (b n:Nat):Bool:=Zdv W b n
@[go_sem] theorem ZIb {w:World} {b:Nat} (n:Nat) (E:Array Obj) (d:Nat):Zdv (ext w E d) b n=if b < w.heap.size then Zdv w b n else ZpH (ext w E d) b n:=by
  split
  · rename_i h
    unfold Zdv
    rw [Zc7 w E d h]
  · rfl
theorem blkFree_new (w:World) (cs:Array Value) (T:TypeId) (n:Nat):Zdv (w.alloc (.cells cs T)) w.heap.size n=(cs.size == n):=by
  unfold Zdv
  have:(w.alloc (.cells cs T)).heap[w.heap.size]?=some (.cells cs T):=by
    show (w.heap.push _)[w.heap.size]?=_
    simp
  rw [this]
  simp
@[go_sem] theorem blkFree_past {w:World} {b:Nat} (n:Nat) (o:Obj):Zdv (w.alloc o) b n=if b < w.heap.size then Zdv w b n else ZpH (w.alloc o) b n:=by
  split
  · rename_i h
    unfold Zdv
    rw [Below.heap_alloc w o b h]
  · rfl
@[go_sem high] theorem ZIp {w:World} {b:Nat} (cs:Array Value) (T:TypeId) (n:Nat):Zdv (w.alloc (.cells cs T)) b n=if b < w.heap.size then Zdv w b n else if b=w.heap.size then (cs.size == n) else ZpH (w.alloc (.cells cs T)) b n:=by
  split
  · rename_i h; rw [blkFree_past,if_pos h]
  · split
    · rename_i h; subst h; exact blkFree_new _ _ _ _
    · rfl
@[go_sem] theorem ZHs (w:World) (b n:Nat):Zdv w.drew b n=Zdv w b n:=rfl
@[go_sem] theorem ZG5 (w:World) (b n k:Nat):Zdv (w.drewN k) b n=Zdv w b n:=rfl
def Zcj (W:World) (b:Nat) (cs:Array Value):World:={ W with heap:=W.heap.modify b (fun o=>match o with | .cells _ T fr=>.cells cs T fr | o=>o) }
theorem setBlk_ext' {w:World} {b:Nat} (cs:Array Value) (E:Array Obj) (d:Nat) (h:b < w.heap.size):Zcj (ext w E d) b cs=ext (Zcj w b cs) E d:=by
  unfold Zcj ext
  simp only
  congr 1
  apply Array.ext_getElem?
  intro k
  simp only [Array.getElem?_modify,Array.getElem?_append,Array.size_modify]
  by_cases hk:b=k
  · subst hk
    simp [h]
  · simp [hk]
theorem setBlk_new (w:World) (old cs:Array Value) (T:TypeId):Zcj (w.alloc (.cells old T)) w.heap.size cs=w.alloc (.cells cs T):=by
  unfold Zcj World.alloc
  simp only
  congr 1
  apply Array.ext_getElem?
  intro k
  simp only [Array.getElem?_modify,Array.getElem?_push]
  by_cases hk:w.heap.size=k
  · subst hk
    simp
  · have hk' : ¬ k=w.heap.size:=fun e=>hk e.symm
    simp [hk,hk']
theorem setBlk_past' {w:World} {b:Nat} (cs:Array Value) (o:Obj) (h:b < w.heap.size):Zcj (w.alloc o) b cs=(Zcj w b cs).alloc o:=by
  unfold Zcj World.alloc
  simp only
  congr 1
  apply Array.ext_getElem?
  intro k
  simp only [Array.getElem?_modify,Array.getElem?_push,Array.size_modify]
  by_cases hk:b=k
  · subst hk
    have:¬ b=w.heap.size:=by omega
    simp [this]
  · simp [hk]
def Zs6 (W:World) (b:Nat) (cs:Array Value):World:=Zcj W b cs
@[go_sem] theorem ZIq (w:World) (b:Nat) (cs:Array Value) (E:Array Obj) (d:Nat):Zcj (ext w E d) b cs=if b < w.heap.size then ext (Zcj w b cs) E d else Zs6 (ext w E d) b cs:=by
  split
  · rename_i h; exact setBlk_ext' cs E d h
  · rfl
@[go_sem] theorem setBlk_past (w:World) (b:Nat) (cs:Array Value) (o:Obj):Zcj (w.alloc o) b cs=if b < w.heap.size then (Zcj w b cs).alloc o else Zs6 (w.alloc o) b cs:=by
  split
  · rename_i h; exact setBlk_past' cs o h
  · rfl
@[go_sem high] theorem ZJg (w:World) (b:Nat) (old cs:Array Value) (T:TypeId):Zcj (w.alloc (.cells old T)) b cs=if b < w.heap.size then (Zcj w b cs).alloc (.cells old T) else if b=w.heap.size then w.alloc (.cells cs T) else Zs6 (w.alloc (.cells old T)) b cs:=by
  split
  · rename_i h; rw [setBlk_past,if_pos h]
  · split
    · rename_i h; subst h; exact setBlk_new _ _ _ _
    · rfl
@[simp,go_sem] theorem ZIc (w:World) (b:Nat) (cs:Array Value):(Zcj w b cs).heap.size=w.heap.size:=by simp [Zcj]
@[go_sem] theorem ZId (w:World) (b:Nat) (cs:Array Value):Zcj w.drew b cs=(Zcj w b cs).drew:=rfl
theorem Zj4 {P:Program} (g:Nat) (t:TypeId):∀ (vs:List Value) (i:Nat) (cur:Array Value) (W:World),W.heap[g]?=some (.cells cur t (0,0))→i + vs.length=cur.size→vs.all (fun v=>v.oneCell')=true →
    (storeCells ⟨g,0,none⟩ vs i).run P W=.ok () (Zcj W g (cur.toList.take i ++ vs).toArray)
  | [],i,cur,W,hg,hl,_=>by
    have h1:cur.toList.take i=cur.toList:=List.take_of_length_le (by simp at hl ⊢; omega)
    have h2:Zcj W g cur=W:=by
      unfold Zcj
      congr 1
      apply Array.ext_getElem?
      intro k
      rw [Array.getElem?_modify]
      by_cases hk:g=k
      · subst hk
        rw [if_pos rfl,hg]
        rfl
      · rw [if_neg hk]
    simp only [storeCells,List.append_nil,h1,Array.toArray_toList,h2]
    rfl
  | v :: vs,i,cur,W,hg,hl,ho=>by
    rw [List.all_cons,Bool.and_eq_true] at ho
    have hadd:(⟨g,0,none⟩:Addr).add i=⟨g,i,none⟩:=by unfold Addr.add; split <;> simp_all
    have hi:i < cur.size:=by simp at hl; omega
    have hc:W.cell? ⟨g,i,none⟩=some cur[i]:=by simp [World.cell?,hg,hi]
    have hf:W.frozen? ⟨g,i,none⟩=false:=by simp [World.frozen?,hg]
    have hset:W.setCell ⟨g,i,none⟩ v=Zcj W g (cur.setIfInBounds i v):=by
      unfold World.setCell Zcj
      simp only
      congr 1
      apply Array.ext_getElem?
      intro k
      simp only [Array.getElem?_modify]
      by_cases hk:g=k
      · subst hk
        rw [if_pos rfl,if_pos rfl,hg]
        rfl
      · rw [if_neg hk,if_neg hk]
    have hg' : (Zcj W g (cur.setIfInBounds i v)).heap[g]?=some (.cells (cur.setIfInBounds i v) t (0,0)):=by
      unfold Zcj
      simp only [Array.getElem?_modify,if_pos,hg]
      rfl
    have ih:=Zj4 (P:=P) g t vs (i + 1) (cur.setIfInBounds i v) (Zcj W g (cur.setIfInBounds i v)) hg' (by simp at hl ⊢; omega) ho.2
    have e:((cur.setIfInBounds i v).toList.take (i + 1) ++ vs)=cur.toList.take i ++ v :: vs:=by
      rw [Array.toList_setIfInBounds,List.take_add_one,List.getElem?_set_self (by simpa using hi),List.take_set_of_le (Nat.le_refl _)]
      simp
    have e2:∀ cs cs' : Array Value,Zcj (Zcj W g cs) g cs'=Zcj W g cs':=fun cs cs'=>by
      unfold Zcj
      simp only
      congr 1
      apply Array.ext_getElem?
      intro k
      simp only [Array.getElem?_modify]
      by_cases hk:g=k
      · subst hk
        simp only [if_true,hg]
        rfl
      · simp [hk]
    rw [e,e2] at ih
    have hst:(store (⟨g,i,none⟩:Addr) v).run P W=.ok () (Zcj W g (cur.setIfInBounds i v)):=by
      rw [← hset,run_store P W _ v .plain ho.1,hc,hf]
      rfl
    simp only [storeCells,Sem.run_bind,hadd,hst,Result.andThen_ok]
    exact ih
@[go_sem high] theorem ZFu {P:Program} (W:World) (b:Nat) (vs:List Value) (ho:vs.all (fun v=>v.oneCell')=true) (h:Zdv W b vs.length=true):(storeCells ⟨b,0,none⟩ vs 0).run P W=.ok () (Zcj W b vs.toArray):=by
  unfold Zdv at h
  split at h
  · rename_i cs T fr hb
    simp only [Bool.and_eq_true,beq_iff_eq] at h
    obtain ⟨h1,rfl⟩:=h
    have:=Zj4 (P:=P) b T vs 0 cs W hb (by omega) ho
    simpa using this
  · cases h
section
variable {P:Program} (w:World) (a:Addr) (v:Value) (vs:List Value) (i:Nat)
@[go_sem low] theorem ZFv (_:(w.cell? (a.add i)).isSome=true):(storeCells a (v :: vs) i).run P w=((do store (a.add i) v; storeCells a vs (i + 1):Sem Unit)).run P w:=rfl
@[go_sem low] theorem ZFw (E:Array Obj) (d:Nat):(storeCells a (v :: vs) i).run P (ext w E d)=((do store (a.add i) v; storeCells a vs (i + 1):Sem Unit)).run P (ext w E d):=rfl
@[go_sem low] theorem ZC1 (o:Obj):(storeCells a (v :: vs) i).run P (w.alloc o)=((do store (a.add i) v; storeCells a vs (i + 1):Sem Unit)).run P (w.alloc o):=rfl
@[go_sem low] theorem ZFd:(storeCells a (v :: vs) i).run P w.drew=((do store (a.add i) v; storeCells a vs (i + 1):Sem Unit)).run P w.drew:=rfl
@[go_sem low] theorem ZC2 (k:Nat):(storeCells a (v :: vs) i).run P (w.drewN k)=((do store (a.add i) v; storeCells a vs (i + 1):Sem Unit)).run P (w.drewN k):=rfl
@[go_sem low] theorem ZFx (p:Addr) (u:Value):(storeCells a (v :: vs) i).run P (w.setCell p u)=((do store (a.add i) v; storeCells a vs (i + 1):Sem Unit)).run P (w.setCell p u):=rfl
end
@[go_sem] theorem ZFy {P:Program} (W:World) (a:Addr) (i:Nat):(storeCells a [] i).run P W=.ok () W:=rfl
class GoRep (α:Type) where
  n:Nat
  pos:0 < n
  rep:World→α→List Value→List Nat→Prop
  len:∀ {w x cs F},rep w x cs F→cs.length=n
  keep:∀ {w w' x cs F},rep w x cs F→(∀ b ∈ F,w'.heap[b]?=w.heap[b]?)→rep w' x cs F
  lt:∀ {w x cs F},rep w x cs F→∀ b ∈ F,b < w.heap.size
  one:∀ {w x cs F},rep w x cs F→cs.all (fun v=>v.oneCell')=true
  bulk:α→Nat
open GoRep (rep bulk)
def I64 (x:Int):Prop:=(Lit.int .i64 x).wf=true
theorem I64.lo {x:Int} (h:I64 x) : -9223372036854775808≤x:=(bounds_i64 h).1
theorem I64.hi {x:Int} (h:I64 x):x≤9223372036854775807:=(bounds_i64 h).2
theorem I64.mk {x:Int} (h1 : -9223372036854775808≤x) (h2:x≤9223372036854775807):I64 x:=WalkArith.wf_i64 ⟨h1,h2⟩
instance:GoRep Int where
  n:=1
  pos:=by omega
  rep _ x cs F:=cs=[.int .i64 x]∧I64 x∧F=[]
  len h:=by rw [h.1]; rfl
  keep h _:=h
  lt h:=by rw [h.2.2]; simp
  one h:=by rw [h.1]; rfl
  bulk _:=0
instance:GoRep Bool where
  n:=1
  pos:=by omega
  rep _ x cs F:=cs=[.bool x]∧F=[]
  len h:=by rw [h.1]; rfl
  keep h _:=h
  lt h:=by rw [h.2]; simp
  one h:=by rw [h.1]; rfl
  bulk _:=0
instance:GoRep ByteArray where
  n:=1
  pos:=by omega
  rep _ x cs F:=cs=[.string x]∧x.size≤maxLen∧F=[]
  len h:=by rw [h.1]; rfl
  keep h _:=h
  lt h:=by rw [h.2.2]; simp
  one h:=by rw [h.1]; rfl
  bulk x:=x.size
instance {α β:Type} [GoRep α] [GoRep β]:GoRep (α × β) where
  n:=GoRep.n α + GoRep.n β
  pos:=by have:=GoRep.pos (α:=α); omega
  rep w x cs F:=∃ c1 c2 F1 F2,rep w x.1 c1 F1∧rep w x.2 c2 F2∧cs=c1 ++ c2∧F=F1 ++ F2
  len h:=by
    obtain ⟨c1,c2,F1,F2,h1,h2,rfl,rfl⟩:=h
    rw [List.length_append,GoRep.len h1,GoRep.len h2]
  keep h hk:=by
    obtain ⟨c1,c2,F1,F2,h1,h2,e1,e2⟩:=h
    subst e2
    exact ⟨c1,c2,F1,F2,GoRep.keep h1 (fun b hb=>hk b (by simp [hb])),GoRep.keep h2 (fun b hb=>hk b (by simp [hb])),e1,rfl⟩
  lt h b hb:=by
    obtain ⟨c1,c2,F1,F2,h1,h2,e1,e2⟩:=h
    subst e2
    rcases List.mem_append.1 hb with hb | hb
    · exact GoRep.lt h1 b hb
    · exact GoRep.lt h2 b hb
  one h:=by
    obtain ⟨c1,c2,F1,F2,h1,h2,e1,e2⟩:=h
    rw [e1,List.all_append,GoRep.one h1,GoRep.one h2]
    rfl
  bulk x:=bulk x.1 + bulk x.2
theorem ZlG {w w' : World} {b:Nat} (h:w'.heap[b]?=w.heap[b]?) (o:Nat):w'.cell? ⟨b,o,none⟩=w.cell? ⟨b,o,none⟩:=by unfold World.cell?; rw [h]
theorem ZpI {w w' : World} {b:Nat} (h:w'.heap[b]?=w.heap[b]?) (o:Nat):w'.frozen? ⟨b,o,none⟩=w.frozen? ⟨b,o,none⟩:=by unfold World.frozen?; rw [h]
theorem ZCQ {w:World} {b o:Nat} {u:Value} (h:w.cell? ⟨b,o,none⟩=some u):b < w.heap.size:=by
  rcases Nat.lt_or_ge b w.heap.size with hlt | hge
  · exact hlt
  · unfold World.cell? at h
    rw [Array.getElem?_eq_none hge] at h
    simp at h
def Zdh (w:World) (b off:Nat) (cs:List Value):Prop:=∀ j u,cs[j]?=some u→w.cell? ⟨b,off + j,none⟩=some u∧w.frozen? ⟨b,off + j,none⟩=false
theorem Zdh.keep {w w' : World} {b off:Nat} {cs:List Value} (h:Zdh w b off cs) (hb:w'.heap[b]?=w.heap[b]?):Zdh w' b off cs:=fun j u hj=>by
  rw [ZlG hb,ZpI hb]
  exact h j u hj
def Zct {α:Type} [GoRep α] (w:World) (b off:Nat):List α→List Nat→Prop
  | [],G=>G=[]
  | x :: xs,G=>∃ cs G1 G2,rep w x cs G1∧Zdh w b off cs∧Zct w b (off + GoRep.n α) xs G2∧G=G1 ++ G2
section
variable {α:Type} [GoRep α]
theorem Zct.keep {w w' : World} {b:Nat} {xs:List α}:∀ {off:Nat} {G:List Nat},Zct w b off xs G→w'.heap[b]?=w.heap[b]?→(∀ g ∈ G,w'.heap[g]?=w.heap[g]?)→Zct w' b off xs G:=by
  induction xs with
  | nil=>intro off G h _ _; exact h
  | cons x xs ih =>
    intro off G h hb hG
    obtain ⟨cs,G1,G2,h1,h2,h3,rfl⟩:=h
    exact ⟨cs,G1,G2,GoRep.keep h1 (fun g hg=>hG g (by simp [hg])),h2.keep hb,ih h3 hb (fun g hg=>hG g (by simp [hg])),rfl⟩
theorem Zct.lt {w:World} {b:Nat} {xs:List α}:∀ {off:Nat} {G:List Nat},Zct w b off xs G→∀ g ∈ G,g < w.heap.size:=by
  induction xs with
  | nil=>intro off G h g hg; rw [show G=[] from h] at hg; simp at hg
  | cons x xs ih =>
    intro off G h g hg
    obtain ⟨cs,G1,G2,h1,h2,h3,rfl⟩:=h
    rcases List.mem_append.1 hg with hg | hg
    · exact GoRep.lt h1 g hg
    · exact ih h3 g hg
theorem Zct.blk {w:World} {b off:Nat} {xs:List α} {G:List Nat} (h:Zct w b off xs G) (hx:xs ≠ []):b < w.heap.size:=by
  cases xs with
  | nil=>exact absurd rfl hx
  | cons x xs =>
    obtain ⟨cs,G1,G2,h1,h2,_,_⟩:=h
    have hl:0 < cs.length:=by rw [GoRep.len h1]; exact GoRep.pos
    have hc:=h2 0 cs[0] (List.getElem?_eq_getElem hl)
    exact ZCQ hc.1
theorem Zct.get {w:World} {b:Nat} {xs:List α}:∀ {off:Nat} {G:List Nat} (k:Nat) (x:α),Zct w b off xs G→xs[k]?=some x →
    ∃ cs Gk,rep w x cs Gk∧(∀ g ∈ Gk,g ∈ G)∧Zdh w b (off + k * GoRep.n α) cs:=by
  induction xs with
  | nil=>intro off G k x _ h; simp at h
  | cons y xs ih =>
    intro off G k x h hk
    obtain ⟨cs,G1,G2,h1,h2,h3,rfl⟩:=h
    cases k with
    | zero =>
      simp at hk
      subst hk
      exact ⟨cs,G1,h1,fun g hg=>by simp [hg],by simpa using h2⟩
    | succ k =>
      simp at hk
      obtain ⟨cs',Gk,a1,a2,a3⟩:=ih k x h3 hk
      refine ⟨cs',Gk,a1,fun g hg=>by simp [a2 g hg],?_⟩
      rw [show off + (k + 1) * GoRep.n α=off + GoRep.n α + k * GoRep.n α from by rw [Nat.add_mul]; omega]
      exact a3
end
def ZlH {α:Type} [GoRep α] (w:World) (xs:List α) (A:Option Addr) (c:Nat) (F:List Nat):Prop :=
  xs.length≤c∧c≤maxLen∧((xs=[]∧F=[])∨(xs ≠ []∧∃ b off G,A=some ⟨b,off,none⟩∧F=b :: G∧Zct w b off xs G))
def ZaF {α:Type} [GoRep α]:List α→Nat
  | []=>0
  | x :: xs=>bulk x + ZaF xs
theorem ZmU {α:Type} [GoRep α] (xs ys:List α):ZaF (xs ++ ys)=ZaF xs + ZaF ys:=by
  induction xs with
  | nil=>simp [ZaF]
  | cons x xs ih=>simp [ZaF,ih]; omega
instance {α:Type} [GoRep α]:GoRep (List α) where
  n:=1
  pos:=by omega
  rep w xs cs F:=∃ A c,cs=[.slice A xs.length c]∧ZlH w xs A c F
  len h:=by obtain ⟨A,c,rfl,_⟩:=h; rfl
  keep h hk:=by
    obtain ⟨A,c,e,h1,h2,h3⟩:=h
    refine ⟨A,c,e,h1,h2,?_⟩
    rcases h3 with h3 | ⟨hx,b,off,G,rfl,rfl,hr⟩
    · exact Or.inl h3
    · exact Or.inr ⟨hx,b,off,G,rfl,rfl,hr.keep (hk b (by simp)) (fun g hg=>hk g (by simp [hg]))⟩
  lt h b hb:=by
    obtain ⟨A,c,e,h1,h2,h3⟩:=h
    rcases h3 with ⟨_,rfl⟩ | ⟨hx,b',off,G,rfl,rfl,hr⟩
    · simp at hb
    · rcases List.mem_cons.1 hb with rfl | hb
      · exact hr.blk hx
      · exact hr.lt b hb
  one h:=by obtain ⟨A,c,rfl,_⟩:=h; rfl
  bulk xs:=xs.length + ZaF xs
section
variable {α:Type} [GoRep α] {w:World} {x:α} {cs:List Value} {F:List Nat}
theorem ZFe (h:rep w x cs F) (o:Obj):rep (w.alloc o) x cs F:=GoRep.keep h (fun b hb=>Below.heap_alloc w o b (GoRep.lt h b hb))
theorem ZIe (h:rep w x cs F) (E:Array Obj) (d:Nat):rep (ext w E d) x cs F:=GoRep.keep h (fun b hb=>Zc7 w E d (GoRep.lt h b hb))
theorem ZJP (h:rep w x cs F):rep w.drew x cs F:=GoRep.keep h (fun _ _=>rfl)
theorem ZJh {w' : World} (h:rep w x cs F) (hb:Below w.heap.size w w'):rep w' x cs F:=GoRep.keep h (fun b hm=>hb.block b (GoRep.lt h b hm))
theorem ZKe (h:rep w x cs F) {p:Addr} (hp:p.block ∉ F) (u:Value):rep (w.setCell p u) x cs F:=GoRep.keep h (fun b hb=>Below.heap_setCell w p u b (fun e=>hp (e ▸ hb)))
theorem ZKf {y:Int}:rep w y cs F↔cs=[.int .i64 y]∧I64 y∧F=[]:=Iff.rfl
theorem ZJQ {y:Bool}:rep w y cs F↔cs=[.bool y]∧F=[]:=Iff.rfl
theorem ZKg {y:ByteArray}:rep w y cs F↔cs=[.string y]∧y.size≤maxLen∧F=[]:=Iff.rfl
theorem ZJR {β:Type} [GoRep β] {y:α × β}:rep w y cs F↔∃ c1 c2 F1 F2,rep w y.1 c1 F1∧rep w y.2 c2 F2∧cs=c1 ++ c2∧F=F1 ++ F2:=Iff.rfl
theorem ZJS {xs:List α}:rep w xs cs F↔∃ A c,cs=[.slice A xs.length c]∧ZlH w xs A c F:=Iff.rfl
end
def RN {α:Type} [GoRep α] (mk:List Value→Value) (x:α) (w:World) (e:Ending) (w' : World):Prop :=
  ∃ cs F E d,e=.returned (mk cs)∧w'=ext w E d∧rep w' x cs F∧F.Nodup∧∀ b ∈ F,w.heap.size≤b
def mkA (cs:List Value):Value:=.agg cs.toArray
def mk1 (cs:List Value):Value:=cs.headD undef
end Go.Proofs.YtkompmgleojmlaaGreat
