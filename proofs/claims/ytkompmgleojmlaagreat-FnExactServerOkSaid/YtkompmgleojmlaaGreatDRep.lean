import Derived.Test.YtkompmgleojmlaaGreatProg
import Derived.KernelRfl
import GoSem.Claim
import GoSem.ClaimJoined
import GoSem.ClaimMapViews
import Derived.JoinedTies
import Derived.WalkKit
import Derived.ProofKit
import Derived.OpenShut
import Derived.BigQuiet
import Derived.StillTailTactics
import Derived.RegionTactic
import Derived.Deep.RegionHeld3
import Derived.Deep.RegionWith
import Derived.ChangeAlike
import Derived.Deep.QuietTactic
import Derived.Lib.Hide
import Derived.WalkLawsBesides
import Derived.WalkSpells
import Derived.Lib.SmallJoins
import Derived.Deep.Slices
import Derived.Deep.Draws
import Derived.Laws.OwnMore
import Derived.ShutString
namespace Go.Proofs.YtkompmgleojmlaaGreat
theorem ZuP {P:Prop} (h:P:=by
  obtain ⟨w4,E4,rfl,g5,m4,hv4⟩:=h
  obtain rfl:=ZwE m4
  have hwf:(Lit.int .i64 (boxW L v)).wf=true:=hv4.2
  obtain rfl:w4=.int .i64 (boxW L v):=hv4.1
  have g6:=g4.trans g5
  have k4:W4.heap[b1]?=some (.cells Z 128 (0,0)):=(g5.keep b1 (Nat.lt_of_lt_of_le z2 g3.size) (by simp [foots])).trans ((g3.keep b1 z2 (by simp [foots])).trans K2.out)
  have l0:W4.cell? ⟨b1,0,none⟩=some (.string ⟨#[]⟩):=Zb3 k4 (by rw [KZ.out]; rfl)
  have l1:W4.cell? ⟨b1,1,none⟩=some (.int .i64 0):=Zb3 k4 (by rw [KZ.out]; rfl)
  have l2:W4.cell? ⟨b1,2,none⟩=some (.int .i64 0):=Zb3 k4 (by rw [KZ.out]; rfl)
  have l3:W4.cell? ⟨b1,3,none⟩=some (.slice none 0 0):=Zb3 k4 (by rw [KZ.out]; rfl)
  have fz:∀ o,W4.frozen? ⟨b1,o,none⟩=false:=fun o=>by simp [World.frozen?,k4]
  clear m4
  have K4:=Lib.hid k4
  clear k4
  by_cases hneg:boxW L v < 0
  · go_wp2_with fail
    obtain ⟨kf,gf,_⟩:=ZsP (x0:=.string ⟨#[]⟩) (x1:=.int .i64 0) (x2:=.int .i64 0) (x3:=.slice none 0 0) (by have:=K4.out; rw [KZ.out] at this; exact this) g6 zb
    obtain ⟨Wf,hWf⟩:∃ Wf,Wf=((((W4.setCell ⟨b1,0,none⟩ (.string ⟨#[]⟩)).setCell ⟨b1,1,none⟩ (.int .i64 0)).setCell ⟨b1,2,none⟩ (.int .i64 0)).setCell ⟨b1,3,none⟩ (.slice none 0 0)):=⟨_,rfl⟩
    rw [← hWf] at kf gf ⊢
    clear hWf l0 l1 l2 l3
    have l0:Wf.cell? ⟨b1,0,none⟩=some (.string ⟨#[]⟩):=Zb3 kf rfl
    have l1:Wf.cell? ⟨b1,1,none⟩=some (.int .i64 0):=Zb3 kf rfl
    have l2:Wf.cell? ⟨b1,2,none⟩=some (.int .i64 0):=Zb3 kf rfl
    have l3:Wf.cell? ⟨b1,3,none⟩=some (.slice none 0 0):=Zb3 kf rfl
    have hbx:Zjt st v n=(Zn5,false):=by
      unfold Zjt
      rw [← KL.out,if_pos hneg]
    rw [hbx]
    obtain ⟨E',x1,x2,x3⟩:=ZCU (X:=X) (ms:=[]) (sv:=.slice none 0 0) (F:=[]) gf ⟨0,[],[],World.ownsRow_nil _ 0 0 _,⟨rfl,rfl⟩,rfl⟩ List.nodup_nil (fun b hb=>by cases hb) hsz
    refine bodyPost_ret (v:=.tuple #[.agg #[.string ⟨#[]⟩, .int .i64 0, .int .i64 0, .slice none 0 0], .bool false]) ?_ rfl ⟨_,E',rfl,x1,x2,⟨_,rfl,_,_,rfl,⟨_,rfl,_,_,rfl,⟨rfl,Nat.zero_le _⟩,_,_,rfl,⟨rfl,rfl⟩,_,_,rfl,⟨rfl,rfl⟩,_,_,rfl,x3,rfl⟩,_,_,rfl,rfl,rfl⟩⟩
    rw [results_cell_tmp rfl]
    go_simp
  · have hw:=ZoD L v
    obtain ⟨k,hk⟩:∃ k:Nat,boxW L v=(k:Int):=⟨(boxW L v).toNat,by omega⟩
    have hkl:k < @List.length Zaw L:=by omega
    rcases H3.out.2 with ⟨_,y2⟩ | ⟨g,cap,cur,y1,y2,y3,y4,y5,y6,y7⟩
    · exact absurd y2 (show @List.length Zaw L ≠ 0 by omega)
    obtain ⟨rfl,rfl⟩:A3=some ⟨g,0,none⟩∧c3=cap:=by
      have h:=H6.out
      rw [y1] at h
      injection h with e1 e2 e3
      exact ⟨e1.symm,e3.symm⟩
    have hg3:g < W3.heap.size:=(Array.getElem?_eq_some_iff.1 y3).1
    have hxk:L[k]?=some (Zaa L k):=Zap (t:=Zaf) hkl
    obtain ⟨c0,cx,cy,G0,G1,G2,t1,t2,t3,t4,t5,t6⟩:=H4.out.split (n:=Zaf.n) (fun x cs F h=>ZaT.len Zaf h) k hxk
    obtain ⟨ca,cb,Fa,Fb,⟨rfl,wa,rfl⟩,⟨cc,cd,Fc,Fd,⟨rfl,wb,rfl⟩,⟨ce,cf,Fe,Ff,⟨rfl,wc,rfl⟩,⟨sv,rfl,hsv⟩,rfl,rfl⟩,rfl,rfl⟩,rfl,rfl⟩:=t5
    have t3:c0.length=k * 4:=t3
    have hcur:∀ q u,q < 4→[Value.string (Zaa L k).1, .int .i64 (Zaa L k).2.1, .int .i64 (Zaa L k).2.2.1,sv][q]?=some u→W3.cell? ⟨g,k * 4 + q,none⟩=some u:=fun q u hq hu=>by
      have h1:(cur.toList.take (@List.length Zaw L * 4))[k * 4 + q]?=some u:=by
        rw [show List.take (@List.length Zaw L * 4) cur.toList=cells from y7,t1,List.append_assoc,List.getElem?_append_right (by omega),t3,Nat.add_sub_cancel_left,List.getElem?_append_left (by show q < 4; exact hq)]
        exact hu
      rw [List.getElem?_take] at h1
      split at h1
      · exact Zb3 y3 (by simpa using h1)
      · cases h1
    obtain ⟨As,ns,cs',hse⟩:∃ A n c,sv=.slice A n c:=by
      obtain ⟨Tm,cm,Gm,r1,r2,r3⟩:=id hsv
      obtain ⟨A,c,r4,_⟩:=Zff (t:=ZaF) r1
      exact ⟨A,_,c,r4⟩
    subst hse
    have n0:W4.cell? ⟨g,k * 4,none⟩=some (.string (Zaa L k).1):=(Zb5 (g5.keep g hg3 (by simp [foots]))).trans (hcur 0 _ (by omega) rfl)
    have n1:W4.cell? ⟨g,k * 4 + 1,none⟩=some (.int .i64 (Zaa L k).2.1):=(Zb5 (g5.keep g hg3 (by simp [foots]))).trans (hcur 1 _ (by omega) rfl)
    have n2:W4.cell? ⟨g,k * 4 + 2,none⟩=some (.int .i64 (Zaa L k).2.2.1):=(Zb5 (g5.keep g hg3 (by simp [foots]))).trans (hcur 2 _ (by omega) rfl)
    have n3:W4.cell? ⟨g,k * 4 + 3,none⟩=some (.slice As ns cs'):=(Zb5 (g5.keep g hg3 (by simp [foots]))).trans (hcur 3 _ (by omega) rfl)
    have i0:(0:Int)≤(k:Int):=by omega
    have i1:(k:Int) < (@List.length Zaw L:Int):=by omega
    have hfoot:foots [e3]=e3.val.ownBlock.toList ++ (G0 ++ G1 ++ G2):=by simp [foots,H5.out,t2]
    have hin:∀ b ∈ G1,b ∈ foots [e3]:=fun b hb=>by rw [hfoot]; simp [hb]
    have hnf:G1.Nodup:=by
      have:=H1.out.nodup
      rw [hfoot,List.nodup_append] at this
      have:=this.2.1
      rw [List.nodup_append] at this
      have:=this.1
      rw [List.nodup_append] at this
      simpa using this.2.1
    have hge2:∀ b ∈ G1,W2.heap.size≤b:=fun b hb=>(g3.new b (hin b hb)).resolve_left (by simp [foots])
    have hlt3:∀ b ∈ G1,b < W3.heap.size:=fun b hb=>H1.out.lt b (hin b hb)
    have hneg2:¬ ((k:Int) < 0):=by omega
    have M1:=Lib.hid hk
    have M2:=Lib.hid hsv
    have M3:=Lib.hid hneg
    have M4:=Lib.hid hge2
    have M5:=Lib.hid hlt3
    rw [hk]
    clear hcur y1 y2 y3 y4 y5 y6 y7 t1 t2 t3 t4 t6 hfoot hin hk hsv hneg hge2 hlt3 hw
    go_wp2_with fail
    obtain ⟨kf,gf,hq⟩:=ZsP (x0:=.string (Zaa L k).1) (x1:=.int .i64 (Zaa L k).2.1) (x2:=.int .i64 (Zaa L k).2.2.1) (x3:=.slice As ns cs') (by have:=K4.out; rw [KZ.out] at this; exact this) g6 zb
    obtain ⟨Wf,hWf⟩:∃ Wf,Wf=((((W4.setCell ⟨b1,0,none⟩ (.string (Zaa L k).1)).setCell ⟨b1,1,none⟩ (.int .i64 (Zaa L k).2.1)).setCell ⟨b1,2,none⟩ (.int .i64 (Zaa L k).2.2.1)).setCell ⟨b1,3,none⟩ (.slice As ns cs')):=⟨_,rfl⟩
    rw [← hWf] at kf gf hq ⊢
    clear hWf l0 l1 l2 l3
    have l0:Wf.cell? ⟨b1,0,none⟩=some (.string (Zaa L k).1):=Zb3 kf rfl
    have l1:Wf.cell? ⟨b1,1,none⟩=some (.int .i64 (Zaa L k).2.1):=Zb3 kf rfl
    have l2:Wf.cell? ⟨b1,2,none⟩=some (.int .i64 (Zaa L k).2.2.1):=Zb3 kf rfl
    have l3:Wf.cell? ⟨b1,3,none⟩=some (.slice As ns cs'):=Zb3 kf rfl
    have hbx:Zjt st v n=(Zaa L k,true):=by
      unfold Zjt
      rw [← KL.out,if_neg (Int.not_lt.2 M3.out),M1.out,Int.toNat_natCast]
    rw [hbx]
    have hof:Zbz Wf (ZaT Wf ZaF) ZaF.n (Zaa L k).2.2.2 (.slice As ns cs') G1:=by
      obtain ⟨v0,hv0,ho0⟩:=ZaT.keep (W':=Wf) (.list ZaF) (x:=(Zaa L k).2.2.2) (cs:=[.slice As ns cs']) (F:=G1) ⟨_,rfl,M2.out⟩ (fun b hb=>(hq b (fun e=>by have:=M4.out b hb; omega)).trans (g5.keep b (M5.out b hb) (by simp [foots])))
      obtain rfl:_=v0:=List.head_eq_of_cons_eq hv0
      exact ho0
    obtain ⟨E',x1,x2,x3⟩:=ZCU (X:=X) (ms:=(Zaa L k).2.2.2) (sv:=.slice As ns cs') (F:=G1) gf hof hnf (fun b hb=>Nat.le_trans g2.size (M4.out b hb)) hsz
    refine bodyPost_ret (v:=.tuple #[.agg #[.string (Zaa L k).1, .int .i64 (Zaa L k).2.1, .int .i64 (Zaa L k).2.2.1, .slice As ns cs'], .bool true]) ?_ rfl ⟨_,E',rfl,x1,x2,⟨_,rfl,_,_,rfl,⟨_,rfl,_,_,rfl,⟨rfl,wa⟩,_,_,rfl,⟨rfl,wb⟩,_,_,rfl,⟨rfl,wc⟩,_,_,rfl,x3,rfl⟩,_,_,rfl,rfl,rfl⟩⟩
    rw [results_cell_tmp rfl]
    go_simp):P:=h
theorem ZbU {P:Prop} (h:P:=by
  simp only [SIA,eq_self]
  repeat' (first | apply And.intro | intro _)
  all_goals (first | trivial | omega)):P:=h
theorem Zdo {P:Prop} (h:P:=by
  simp only [SIA,eq_self]
  repeat' (first | apply And.intro | intro _)
  all_goals (first | trivial | (rw [Bool.eq_iff_iff]; simp_all [Prod.ext_iff,EQA]; done) | (simp_all [Prod.ext_iff,EQA]; done) | omega)):P:=h
theorem ZuQ {P:Prop} (h:P:=by
  simp only [Zbd,Zbs,ZaY,Bool.not_true,Bool.not_false,Zdy,eq_self]
  have hml:List.length log≤maxLen:=hwf.2.1.1
  unfold maxLen at hml
  refine ⟨hpre,⟨(0,l),⟨Nat.zero_le _,hpre,rfl⟩,rfl,rfl⟩,fun ⟨k,ys⟩ ⟨h1,h2,h3⟩=>⟨fun hlt=>?_,fun hge=>?_⟩⟩
  · have hlt:k < log.length:=by simpa using hlt
    have hd:Zcp ys (List.drop k log)=if Zet ys (Zab log k)=true then Zcp (ZdM ys (Zab log k)) (List.drop (k + 1) log) else (ys,false):=by
      rw [List.drop_eq_getElem_cons hlt,← ZdB (t:=Zae) (List.getElem?_eq_getElem hlt)]
      rfl
    have h3:Zcp ys (List.drop k log)=Zcp l log:=h3
    rw [hd] at h3
    have h2:ZbA ys:=h2
    have hp:∀ h:Zet ys (Zab log k)=true,apB ys (Zab log k)=ZdM ys (Zab log k):=fun h=>by
      unfold apB
      rw [h]
      rfl
    first
      | refine ⟨⟨Int.natCast_nonneg _,by show ((k:Nat):Int) < _; omega⟩,fun hf=>?_,fun hf=>⟨hf,fun r1 _=>⟨(k + 1,ZdM ys (Zab log k)),⟨hlt,Zjh hf,?_⟩,?_,Zbj (by show k + 1≤_; unfold maxLen; omega),rfl⟩⟩⟩
      | refine ⟨⟨Int.natCast_nonneg _,by show ((k:Nat):Int) < _; omega⟩,h2,fun hf=>?_,fun hf=>⟨(k + 1,ZdM ys (Zab log k)),⟨hlt,Zjh hf,?_⟩,?_,Zbj (by show k + 1≤_; unfold maxLen; omega),hp hf⟩⟩
    · have hf:Zet ys (Zab log k)=false:=hf
      rw [if_neg (by rw [hf]; decide)] at h3
      rw [← h3]
      exact ⟨rfl,rfl⟩
    · have hf:Zet ys (Zab log k)=true:=hf
      rw [if_pos hf] at h3
      exact h3
    · show _ - (k + 1) < _ - k
      omega
  · obtain rfl:k=log.length:=by have:¬ ((k:Nat):Int) < _:=hge; omega
    have h3:Zcp ys (List.drop log.length log)=Zcp l log:=h3
    rw [List.drop_length] at h3
    rw [← h3]
    exact ⟨rfl,rfl⟩):P:=h
theorem ZuR {P:Prop} (h:P:=by
  have hm:List.length l≤maxLen:=hwf.1.1
  have hi:=fun i (h:i < List.length l)=>ZHQ h
  have w2:=fun u=>ZoI (p:=fun z0:Zaw=>eqI z0.2.1 u) l
  unfold maxLen at hm
  simp only [blE,blN,Int.toNat_zero,List.drop_zero,Zbd,Zbs,ZaY,Bool.not_true,Bool.not_false,Zdy,eq_self]
  refine ⟨⟨0,⟨Nat.zero_le _,ZaH⟩,rfl⟩,fun k hk=>⟨fun hlt=>?_,fun hge=>?_⟩⟩
  · have e2:IntKind.wrap .i64 (((k:Nat):Int) - 1)=((k:Nat):Int) - 1:=Zgf (by omega) (by omega)
    have e3:1≤k→Zaa l (Int.toNat (((k:Nat):Int) - 1))=Zaa l (k - 1):=fun h=>by rw [show Int.toNat (((k:Nat):Int) - 1)=k - 1 by omega]
    simp only [e2]
    repeat' (first | apply And.intro | intro _)
    all_goals first
      | trivial
      | omega
      | exact (ZiP (i:=k) (by omega) (.inl (by assumption))).symm
      | exact (ZiP (i:=k) (by omega) (.inr (.inl ⟨by omega,by rw [← e3 (by omega)]; assumption⟩))).symm
      | exact (ZiP (i:=k) (by omega) (.inr (.inr (by assumption)))).symm
      | exact (ZiP (i:=k) (by omega) (.inr (.inr (fun h=>by have:=(hi k (by omega)).1 h; omega)))).symm
      | (refine ⟨k + 1,⟨by omega,ZaD hk.2 (fun hb=>?_)⟩,by omega,Zbj (by unfold maxLen; omega)⟩
         rcases hb with hb | ⟨h1,hb⟩ | hb
         · simp_all
         · first | omega | (rw [← e3 (by omega)] at hb; simp_all)
         · first | exact hb (by assumption) | exact hb ((hi k (by omega)).2 (by omega)))
  · obtain rfl:k=List.length l:=by omega
    rw [Zzo hk.2,Bool.eq_iff_iff,ZbD,decide_eq_true_eq]
    omega):P:=h
theorem ZuS {P:Prop} (h:P:=by
  have hm:List.length s.2.1≤maxLen:=hwf.1.2.1.1
  obtain hp:List.length s.2.1≤1048576:=hpre
  simp only [Zbd,Zbs,ZaY,Bool.not_true,Bool.not_false,Zdy,eq_self]
  repeat' (first | apply And.intro | intro _)
  all_goals first
    | trivial
    | omega
    | exact ⟨0,Nat.zero_le _,rfl,rfl⟩
    | exact ⟨Int.toNat (max 0 a),⟨by omega,by omega⟩,by omega,ZAO.symm⟩
    | (rename_i y _ _ _ _; show List.length (ZjX s.2.1 v a y) + 1≤rowMax; have:=Zmh s.2.1 v a y; unfold rowMax; omega)
    | (rename_i y hy hlt h1 hb; rw [Bool.and_eq_true,Zao,Zbd] at hb; exact ⟨y + 1,Int.ofNat_lt.1 hlt,by omega,Zbj (by omega),(if_pos ⟨h1,hb⟩).symm⟩)
    | (rename_i y hy hlt h1 hb
       refine ⟨y + 1,Int.ofNat_lt.1 hlt,by omega,Zbj (by omega),(if_neg (fun q=>?_)).symm⟩
       have h2:(eqI (Zab s.2.1 y).2.1 v && btw (Zab s.2.1 y).1 4 6)=true:=by rw [Bool.and_eq_true,Zao,Zbd]; exact q.2
       rw [hb] at h2
       cases h2)
    | (rename_i y hy hlt h1; exact ⟨y + 1,Int.ofNat_lt.1 hlt,by omega,Zbj (by omega),(if_neg (fun q=>h1 q.1)).symm⟩)
    | (rename_i y hy hlt h1 h2; exact ⟨y + 1,⟨by omega,by omega⟩,by omega,Zbj (by omega),(if_pos ⟨by omega,h1,h2⟩).symm⟩)
    | (rename_i y hy hlt h1 h2; exact ⟨y + 1,⟨by omega,by omega⟩,by omega,Zbj (by omega),(if_neg (fun q=>by omega)).symm⟩)
    | (rename_i y hy hlt h1; exact ⟨y + 1,⟨by omega,by omega⟩,by omega,Zbj (by omega),(if_neg (fun q=>h1 q.2.1)).symm⟩)
    | (rename_i y hy hge; exact com_fin hy hge)
    | (rename_i y hy hge; exact com_fin' hy hge)):P:=h
theorem ZuT {P:Prop} (h:P:=by
  simp only [Zdy,eq_self]
  repeat' (first | apply And.intro | intro _)
  all_goals as_aux_lemma=>first
    | trivial
    | omega
    | (show List.length _≤rowMax; assumption)
    | (simp only [ZH2,Zd4] at *; simp_all [ZaG,midI,endI,stI,noB,Zrb,Zrd,Zrc,Zre,Zrf,Zao,ZaB,Zbh,ZaW,ZaU,Za1]; done)
    | (simp_all [ZaG,midI,endI,stI,noB,Zrb,Zrd,Zrc,Zre,Zrf,Zao,ZaB,Zbh,ZaW,ZaU,Za1]; done)
    | (rw [Bool.eq_iff_iff]; simp only [ZH2,Zd4] at *; simp_all [ZaG,midI,endI,stI,noB,Zrb,Zrd,Zrc,Zre,Zrf,Zao,ZaB,Zbh,ZaW,ZaU,Za1]; done)
    | (rw [Bool.eq_iff_iff]; simp_all [ZaG,midI,endI,stI,noB,Zrb,Zrd,Zrc,Zre,Zrf,Zao,ZaB,Zbh,ZaW,ZaU,Za1]; done)
    | (have h3:((List.length s.2.2.2.2.1:Nat):Int)=0:=by omega
       have h4:=(Zd4 s.2.2.2.2.2.2.2.2.1.1).1 (by omega)
       have hB:noB (true,2,s.2.2)=true:=by
         rw [ZzX (s:=(true,2,s.2.2)) (by assumption) (by assumption) h3 (by assumption) (by assumption)]
         show (!List.any s.2.2.2.2.2.2.2.2.1.1 (fun z0:Zaz=>eqI z0.1 1))=true
         rw [h4]
         rfl
       clear h3 h4
       rw [Bool.eq_iff_iff]
       simp_all [ZaG,midI,endI,stI,Zrb,Zrd,Zrc,Zre,Zrf,Zao,ZaB,Zbh,ZaW,ZaU,Za1]
       done)):P:=h
theorem ZuU {P:Prop} (h:P:=by
  have hv:∀ k,(Zg3 b k).length≤List.length b.2.2.2:=fun k=>by unfold Zg3; rw [List.length_map,List.length_take]; omega
  have hs:∀ k,k < List.length b.2.2.2→Zg3 b k ++ [((Zay b.2.2.2 k).1,(Zay b.2.2.2 k).2.1)]=Zg3 b (k + 1):=fun k hk=>by
    unfold Zg3
    rw [List.take_add_one,show b.2.2.2[k]?=some (Zay b.2.2.2 k) from Zap (t:=ZaF) hk,List.map_append]
    rfl
  have he:Zg3 b (List.length b.2.2.2)=Zi2 b:=by unfold Zg3 Zi2; rw [List.take_length]
  have hm:List.length b.2.2.2≤1048576:=hpre
  have hr:1048576 + 1≤rowMax:=by decide
  simp only [Zbd,Zbs,ZaY,Bool.not_true,Bool.not_false,Zdy,eq_self]
  refine ⟨⟨0,Nat.zero_le _,rfl,rfl⟩,fun k hk=>⟨fun hlt=>?_,fun hge=>?_⟩⟩
  · have hk2:=hv k
    repeat' (first | apply And.intro | intro _)
    all_goals first
      | trivial
      | omega
      | (rw [List.length_singleton]; omega)
      | exact ⟨k + 1,by omega,by omega,Zbj (by unfold maxLen; omega),hs k (by omega)⟩
  · obtain rfl:k=List.length b.2.2.2:=by omega
    repeat' (first | apply And.intro | intro _)
    all_goals first
      | trivial
      | exact he):P:=h
theorem ZuV {P:Prop} (h:P:=by
  have hB:=ZIo hW
  have hX:=Zx1.1 hW
  have hY:=(Zd4 s.2.2.2.2.2.2.2.2.1.1).2 (by
    have h:=hX.2.2.2.2.2
    have h' : s.2.2.2.2.2.2.2.2.1.1=[]:=congrArg (fun z:Zbc=>z.1) h
    rw [h']
    rfl)
  have hZ:s.2.2.2.2.2.2.2.2.1.2.1=false:=congrArg (fun z:Zbc=>z.2.1) hX.2.2.2.2.2
  obtain ⟨x1,x2,x3,x4,x5,x6⟩:=hX
  have y1:s.2.2.1=0:=x1
  have y2:s.2.2.2.1=0:=x2
  have y3:List.length s.2.2.2.2.1=0:=by
    have h:s.2.2.2.2.1=[]:=x3
    rw [h]; rfl
  have y5:s.2.2.2.2.2.2.1=(⟨#[]⟩:ByteArray):=x5
  clear x1 x2 x3 x4 x5 x6
  repeat' (first | apply And.intro | intro _)
  all_goals as_aux_lemma=>first
    | trivial
    | omega
    | contradiction
    | (show List.length _≤rowMax; assumption)
    | (rw [Bool.eq_iff_iff]; simp_all [ZaG,midI,endI,stI,Zrb,Zrd,Zrc,Zre,Zrf,Zao,ZaB,Zbh,ZaW,ZaU,Za1]; done)
    | (simp_all [ZaG,midI,endI,stI,Zrb,Zrd,Zrc,Zre,Zrf,Zao,ZaB,Zbh,ZaW,ZaU,Za1]; done)):P:=h
theorem ZuW {P:Prop} (h:P:=by
  have hm:List.length v≤maxLen:=hwf.1.1.1
  unfold maxLen at hm
  simp only [Zdy,eq_self]
  refine ⟨⟨0,⟨Nat.zero_le _,ZaH⟩,rfl⟩,fun k hk=>⟨fun hlt=>?_,fun hge=>?_⟩⟩
  · have e:0 < k→IntKind.wrap .i64 ((k:Int) - 1)=((k - 1:Nat):Int):=fun h=>by rw [Zgf (by omega) (by omega)]; omega
    repeat' (first | apply And.intro | intro _)
    all_goals as_aux_lemma=>first
      | trivial
      | omega
      | (rw [e (by omega)]; omega)
      | exact (ZA5 (i:=k) (by omega) (by first | simp_all [ZwB,ZaY,ZbD,Zb6] | (rw [e (by omega),Int.toNat_natCast] at *; simp_all [ZwB,ZaY,ZbD,Zb6]))).symm
      | exact ⟨k + 1,⟨by omega,ZaD hk.2 (by first | (simp_all [ZwB,ZaY,ZbD,Zb6]; done) | (rw [e (by omega),Int.toNat_natCast] at *; simp_all [ZwB,ZaY,ZbD,Zb6]; done) | (simp_all [ZwB,ZaY,ZbD,Zb6]; omega))⟩,by omega,Zbj (by unfold maxLen; omega)⟩
  · obtain rfl:k=List.length v:=by omega
    first | exact (ZpH hk.2).symm | exact ⟨trivial,(ZpH hk.2).symm⟩):P:=h
theorem Zep {P:Prop} (h:P:=by
  obtain rfl:=Option.some.inj hc'
  intro W' E' x vs gr hr
  obtain ⟨va,r,rfl,h1,hnil⟩:=hr
  obtain rfl:r=[]:=hnil
  exact hc W' E' x.1 va gr h1):P:=h
theorem ZfC {P:Prop} (h:P:=by
  repeat' (first | apply And.intro | intro _)
  all_goals (first | trivial | omega | (refine ⟨k + 1,⟨by omega,by omega⟩,by omega,?_⟩; first | (refine ⟨?_,?_⟩ <;> omega) | omega))):P:=h
theorem ZuX {P:Prop} (h:P:=by
  have e2:IntKind.wrap .i64 (((k:Nat):Int) - 1)=((k:Nat):Int) - 1:=Zgf (by omega) (by omega)
  have e3:1≤k→Zay b.2.2.2 (Int.toNat (((k:Nat):Int) - 1))=Zay b.2.2.2 (k - 1):=fun h=>by rw [show Int.toNat (((k:Nat):Int) - 1)=k - 1 by omega]
  simp only [e2]
  repeat' (first | apply And.intro | intro _)
  all_goals first
    | trivial
    | omega
    | exact (ZGt (i:=k) (by omega) (by unfold ZdT; first | omega | (rw [← e3 (by omega)]; omega) | (rw [e3 (by omega)] at *; omega))).symm
    | exact (ZoC (by rintro ⟨q1,q2,q3,q4⟩; omega)).symm
    | exact ⟨k + 1,⟨by omega,fun hn=>ZaD (hk.2 hn) (by unfold ZdT; first | omega | (rw [← e3 (by omega)]; omega) | (rw [e3 (by omega)] at *; omega))⟩,by omega,Zbj (by unfold maxLen; omega)⟩
    | exact ⟨k + 1,⟨by omega,fun hn=>ZaD (hk.2 hn) (by intro hbad; unfold ZdT at hbad; rw [e3 (by omega)] at *; omega)⟩,by omega,Zbj (by unfold maxLen; omega)⟩):P:=h
theorem Zil {P:Prop} (h:P:=by
  rw [hc] at h
  rw [Bool.and_eq_true] at hc
  obtain rfl:=Nat.eq_of_beq_eq_true hc.1
  obtain ⟨h1,h2,h3⟩:=Zov hM hx (show ZbO M _ l=_ from h) (Nat.eq_of_beq_eq_true hc.2) hr
  exact ⟨_,h1,fun z=>by omega,h2,h3⟩):P:=h
theorem Zim {P:Prop} (h:P:=by
  by_cases hl:q < acc.length
  · rw [List.getElem?_append_left hl] at hq; exact hacc q u hq
  · rw [List.getElem?_append_right (by omega)] at hq
    have:=hu1 _ u hq
    rwa [show acc.length + (q - acc.length)=q by omega] at this):P:=h
theorem ZuY {P:Prop} (h:P:=by
  refine Eq.mpr (β:=(T8 (pt (((cB false (Zax s).1)∧(cI 0 (Zax s).2.1)∧(cI 0 (Zax s).2.2.1)∧(cI 0 (Zax s).2.2.2.1)∧((Zax s).2.2.2.2.1=[])∧(cB false (Zax s).2.2.2.2.2.1.1)∧((Zax s).2.2.2.2.2.1.2=[])∧(cS (⟨#[]⟩:ByteArray) (Zax s).2.2.2.2.2.2.1)∧(cS (⟨#[]⟩:ByteArray) (Zax s).2.2.2.2.2.2.2.1)∧((Zax s).2.2.2.2.2.2.2.2.1.1=[])∧(cB false (Zax s).2.2.2.2.2.2.2.2.1.2.1)∧(cB false (Zax s).2.2.2.2.2.2.2.2.1.2.2)∧(cS (⟨#[]⟩:ByteArray) (Zax s).2.2.2.2.2.2.2.2.2.1.1)∧(cB false (Zax s).2.2.2.2.2.2.2.2.2.1.2)∧(cS (⟨#[]⟩:ByteArray) (Zax s).2.2.2.2.2.2.2.2.2.2.1.1)∧(cS s.2.2.2.2.2.2.2.2.2.2.1.2 (Zax s).2.2.2.2.2.2.2.2.2.2.1.2)∧(cI 0 (Zax s).2.2.2.2.2.2.2.2.2.2.2)∧True))))) (by kernel_rfl) ?_
  unfold T8
  simp only [SIA,eq_self]
  repeat' (first | apply And.intro | intro _)
  all_goals first | trivial | rfl | omega):P:=h
theorem ZuZ {P:Prop} (h:P:=by
  refine Eq.mpr (β:=(T6 (bif (neI s.2.1 3) then (True∧(rB true (ZjE st s))) else (T5 ((pt True)∧(T6 ((pt (true=true))∧(T2 (bif (Zjt st s.2.2.1 s.2.2.2.1).2 then (T4 ((pt True)∧(T3 (bif (geI (boxW st.1 s.2.2.1) 0) then (T3 ((List.length ((Zjt st s.2.2.1 s.2.2.2.1).1).2.2.2≤1048576∧pt (true=true))∧((True∧pt (true=true))∧(T2 (rB (ZaS (Zi2 ((Zjt st s.2.2.1 s.2.2.2.1).1)) s.2.2.2.2.1) (ZjE st s)))))) else (T2 (rB false (ZjE st s))))))) else (T4 (rB false (ZjE st s)))))))))))) (by kernel_rfl) ?_
  unfold T2 T3 T4 T5 T6
  have hsm:=ZBD st s.2.2.1 s.2.2.2.1
  simp only [Zbd,Zbs,ZaY,Bool.not_true,Bool.not_false,Zdy,eq_self]
  repeat' (first | apply And.intro | intro _)
  all_goals first
    | trivial
    | omega
    | (simp_all [ZjE,eqI,neI,geI]; done)
    | (simp_all [ZjE,eqI,neI,geI]; omega)):P:=h
theorem Zu0 {P:Prop} (h:P:=by
  obtain ⟨hp1,hp2⟩:=hpre
  simp only [Zbd,Zbs,ZaY,Bool.not_true,Bool.not_false,Zdy,eq_self]
  refine ⟨⟨0,Nat.zero_le _,rfl,Eq.mpr (Za6 (t:=Zaf)) rfl⟩,fun k hk=>⟨fun hlt=>?_,fun hge=>?_⟩⟩
  · have hl:k < l.length:=by omega
    have hg:l[k]?=some (Zaa l k):=Zap (t:=Zaf) hl
    have hs:=Zqq ⟨hp1,hp2⟩ k
    have ht:List.take k l ++ [Zaa l k]=List.take (k + 1) l:=by
      rw [List.take_add_one,hg]
      rfl
    rw [ht]
    repeat' (first | apply And.intro | intro _)
    all_goals first
      | trivial
      | omega
      | (unfold rowMax; rw [List.length_take,List.length_singleton]; omega)
      | exact ⟨k + 1,by omega,by omega,Zbj (by unfold maxLen; omega),Eq.mpr (Za6 (t:=Zaf)) rfl⟩
  · exact List.take_of_length_le (by omega)):P:=h
theorem Zu1 {P:Prop} (h:P:=by
  refine Eq.mpr (β:=(T5 (bif (eqI n.1 1) then (T2 ((pt True)∧(True∧(bif btw n.2.1 0 300 then (T2 ((pt True)∧(T2 (bif btw n.2.2.1 0 999999998 then (T5 (rB (eqS n.2.2.2 (⟨#[]⟩:ByteArray)) (Zcg n))) else (T2 (rB false (Zcg n))))))) else (T4 (rB false (Zcg n))))))) else (T2 ((pt True)∧(True∧(bif btw n.1 2 4 then (T5 (bif (eqI n.2.1 0) then (T5 (bif (eqI n.2.2.1 0) then (T2 ((pt True)∧(T2 (rB (Zbo n.2.2.2) (Zcg n))))) else (T2 (rB false (Zcg n))))) else (T4 (rB false (Zcg n))))) else (T6 (rB false (Zcg n)))))))))) (by kernel_rfl) ?_
  unfold T2 T4 T5 T6
  simp only [SIA,eq_self]
  repeat' (first | apply And.intro | intro _)
  all_goals (first | trivial | (rw [Bool.eq_iff_iff]; simp_all [Prod.ext_iff,EQA,Zcg]; done) | (simp_all [Prod.ext_iff,EQA,Zcg]; done) | omega)):P:=h
theorem Zcz {P:Prop} (h:P:=by
  exact ⟨k + 1,⟨by omega,ZaD hk.2 hp⟩,by omega,Zbj (by omega)⟩):P:=h
theorem Zu2 {P:Prop} (h:P:=by
  refine Eq.mpr (β:=(T7 (bif (leI (ByteArray.size x.1) 1200) then (T6 (rB (leI (ByteArray.size x.2) 20000) (outOk x))) else (T2 (rB false (outOk x)))))) (by kernel_rfl) ?_
  simp only [Zdy,eq_self]
  repeat' (first | apply And.intro | intro _)
  all_goals first
    | trivial
    | omega
    | (have h1:leI ((ByteArray.size x.1:Nat):Int) 1200=true:=ZbD.2 (by assumption)
       unfold outOk
       rw [h1]
       rfl)
    | (have h1:leI ((ByteArray.size x.1:Nat):Int) 1200=false:=Zb6.2 (by omega)
       unfold outOk
       rw [h1]
       rfl)):P:=h
theorem Zu3 {P:Prop} (h:P:=by
  rw [List.getElem?_set_ne hqi] at hb he'
  by_cases hqj:q ∈ js
  · have hql:q < M.length:=by
      obtain ⟨_,_,_,_,h⟩:=hj q hqj
      exact (List.getElem?_eq_some_iff.1 h).1
    rw [ZbR hqj hql] at hb
    obtain rfl:=Option.some.inj hb
    exact .inr (ZgF hqj he')
  · rw [Zbn (fun k hk e=>hqj (by rw [← e]; exact hk))] at hb
    rw [Zbx (fun k hk e=>hqj (by rw [← e]; exact hk))] at he'
    exact .inl ⟨hb,he',keptO q e' he' (fun h=>hqi h.symm)⟩):P:=h
theorem Zu4 {P:Prop} (h:P:=by
  have hw:=ZoD l m.2.1
  simp only [Zbd,Zbs,ZaY,Bool.not_true,Bool.not_false,Zdy,eq_self]
  repeat' (first | apply And.intro | intro _)
  all_goals first
    | omega
    | (simp_all [Zet]; done)
    | (try (have ha:Zet l m=Zhd l m:=by (unfold Zet; rw [‹Zct l=true›,‹Za2 m=true›]; rfl)
            rw [ha])
       rw [Bool.eq_iff_iff]
       simp only [bxB,Zik,ZfR,ZcW,geN,Bool.false_eq_true,false_iff,true_iff]
       omega)):P:=h
theorem Zu5 {P:Prop} (h:P:=by
  repeat' (first | apply And.intro | intro _)
  all_goals as_aux_lemma=>first
    | trivial
    | omega
    | contradiction
    | (show List.length _≤rowMax; assumption)
    | (simp_all [ZaG,midI,endI,stI,Zrb,Zrd,Zrc,Zre,Zrf,Zao,ZaB,Zbh,ZaW,ZaU,Za1]; done)
    | (rw [Bool.eq_iff_iff]; simp_all [ZaG,midI,endI,stI,Zrb,Zrd,Zrc,Zre,Zrf,Zao,ZaB,Zbh,ZaW,ZaU,Za1]; done)):P:=h
theorem ZoK {P:Prop} (h:P:=by
  simp only [SIA,eq_self]
  repeat' (first | apply And.intro | intro _)
  all_goals (first
    | trivial
    | omega
    | (rw [Bool.eq_iff_iff]; simp_all [Prod.ext_iff,EQA]; done)
    | (simp_all [Prod.ext_iff,EQA]; done))):P:=h
theorem Zu6 {P:Prop} (h:P:=by
  unfold ZjS
  cases ho:o.op <;> simp only [ho,Op.operands] at h ⊢
  case call c =>
    obtain ⟨cal,args,ts⟩:=c
    simp only [Call.operands] at h
    cases cal <;> simp only at h ⊢
    case value fn =>
      rw [h fn (by simp)]
      have hm:args.toList.map (evalA tm)=args.toList.map (evalA tm'):=List.map_congr_left fun x hx=>h x (by simp at hx ⊢; exact .inr hx)
      rw [hm]
    all_goals exact h2
  all_goals exact h2):P:=h
theorem Zu7 {P:Prop} (h:P:=by
  have h0:∀ t:Tr,∀ l,okA T ops t true l=true→t.heads ≠ []:=fun t=>by
    induction t with
    | nil=>intro l h; simp [okA] at h
    | one i t _=>intro l _; simp [Tr.heads]
    | alt t u ih _=>intro l h; simp only [okA,Bool.true_or,Bool.true_and,Bool.and_eq_true] at h; simp [Tr.heads,ih l h.1]
  exact h0 (.alt t u) listed (by unfold okA; simp [hB.2.1,hB.2.2]) hh):P:=h
theorem ZkN {P:Prop} (h:P:=by
  repeat' (first | split at h | (cases h; done))
  all_goals (injection h with h; injection h with h1 h2; injection h2 with h3 h4; exact h4.symm)):P:=h
theorem ZkO {P:Prop} (h:P:=by
  unfold isAgg
  simp only [Sem.run_bind,run_underlying hd,Result.andThen_ok]
  cases d <;> first | rfl | simp [ZDx] at had):P:=h
theorem Zu8 {P:Prop} (h:P:=by
  refine Eq.mpr (β:=(T4 (bif (eqS s (⟨#[]⟩:ByteArray)) then (T2 (rB true (ZbK s))) else (True∧((pt True)∧(T2 (rB (Zj4 s) (ZbK s)))))))) (by kernel_rfl) ?_
  simp only [SIA,eq_self]
  repeat' (first | apply And.intro | intro _)
  all_goals (first | trivial | (rw [Bool.eq_iff_iff]; simp_all [Prod.ext_iff,EQA,ZbK]; done) | (simp_all [Prod.ext_iff,EQA,ZbK]; done) | omega)):P:=h
theorem Zu9 {P:Prop} (h:P:=by
  simp only [Zbd,Zbs,ZaY,Bool.not_true,Bool.not_false,Zdy,eq_self]
  repeat' (first | apply And.intro | intro _)
  all_goals
    rw [Bool.eq_iff_iff]
    simp only [ZhE,ZiZ,ZqG,Bool.false_eq_true,false_iff,iff_false,true_iff,ZbD] at *
    first
      | omega
      | (simp_all [ZzL]; done)
      | (simp_all [ZzL]; omega)):P:=h
theorem Zeq {P:Prop} (h:P:=by
  obtain rfl:k=a.length:=by omega
  exact ZGB a _):P:=h
theorem Zva {P:Prop} (h:P:=by
  simp only [Zbd,Zbs,ZaY,Bool.not_true,Bool.not_false,Zdy,eq_self]
  have hz:ZbA ([]:List Zaw):=⟨Nat.zero_le _,fun x hx=>by cases hx⟩
  unfold Ze0
  rw [Int.toNat_zero,List.drop_zero]
  refine ⟨?_,hz,?_⟩
  · repeat' (first | apply And.intro | split)
    all_goals omega
  · congr 4
    repeat' split
    all_goals omega):P:=h
theorem Zvb {P:Prop} (h:P:=by
  split at h
  · cases v with
    | none=>exact .inl ⟨rfl,rfl,by simpa using h.symm⟩
    | some u=>exact hr.elim
  · rename_i k l'
    obtain rfl:l'=l:=by simpa using h
    cases v with
    | none=>exact hr.elim
    | some u=>have hr' : Zcu X W E M (.w (.c (.int k l'))) u:=hr; exact .inr ⟨k,by rw [(Zfe hr').1]⟩
  · cases h):P:=h
theorem Zvc {P:Prop} (h:P:=by
  refine Eq.mpr (β:=(T2 ((pt True)∧(True∧(rB (btw b 0 31) (ZaY b)))))) (by kernel_rfl) ?_
  simp only [SIA,eq_self]
  repeat' (first | apply And.intro | intro _)
  all_goals (first | trivial | (rw [Bool.eq_iff_iff]; simp_all [Prod.ext_iff,EQA,ZaY]; done) | (simp_all [Prod.ext_iff,EQA,ZaY]; done) | omega)):P:=h
theorem Zvd {P:Prop} (h:P:=by
  refine Eq.mpr (β:=(T5 (bif (geI n lo) then (T5 (rB (leI n hi) (btw n lo hi))) else (T2 (rB false (btw n lo hi)))))) (by kernel_rfl) ?_
  simp only [Zdy,eq_self]
  repeat' (first | apply And.intro | intro _)
  all_goals first | trivial | omega | (simp [btw]; omega) | (rw [Bool.eq_iff_iff]; simp [btw,ZbD]; omega)):P:=h
theorem Zve {P:Prop} (h:P:=by
  refine Eq.mpr (β:=(T7 (rB (leI (ByteArray.size x.1) 600) (ZwC x)))) (by kernel_rfl) ?_
  simp only [SIA,eq_self]
  repeat' (first | apply And.intro | intro _)
  all_goals (first | trivial | (rw [Bool.eq_iff_iff]; simp_all [Prod.ext_iff,EQA,ZwC]; done) | (simp_all [Prod.ext_iff,EQA,ZwC]; done) | omega)):P:=h
theorem Zvf {P:Prop} (h:P:=by
  unfold ZbL
  rw [List.getElem?_append_right (by rw [hml]; exact Nat.le_refl _),hml,Nat.sub_self]
  refine ⟨Nat.le_refl _,fun _=>⟨⟨0,v,v.ownBlock.toList ++ G⟩,?_,rfl⟩⟩
  rw [List.getElem?_append_right (by rw [hkl,← hM.len]; exact Nat.le_refl _),hkl,← hM.len,Nat.sub_self]
  rfl):P:=h
theorem Zvg {P:Prop} (h:P:=by
  show (!List.any s.2.2.2.2.2.2.2.2.1.1 (fun z0:Zaz=>eqI z0.1 1))=true
  rw [h4]
  rfl):P:=h
theorem Zvh {P:Prop} (h:P:=by
  rw [List.take_append_of_le_length (by rw [List.length_take,← List.append_assoc,hLl,hsz]; omega)]
  rw [List.take_take,Nat.min_self,ht,← List.append_assoc,List.take_append_of_le_length (Nat.le_of_eq hl2.symm)]
  exact List.take_of_length_le (Nat.le_of_eq hl2)):P:=h
theorem ZoL {P:Prop} (h:P:=by
  refine ⟨h.1,?_⟩
  have h2:=h.2
  unfold ZbL at h2 ⊢
  exact Zwz):P:=h
theorem ZkP {P:Prop} (h:P:=by
  obtain ⟨j,_,e,he,hb⟩:=ZkH hb
  exact ZaJ.2 ⟨e,List.mem_of_getElem? he,hb⟩):P:=h
theorem Zvi {P:Prop} (h:P:=by
  rw [List.getElem?_append_left hi] at hb
  rw [List.getElem?_append_left (by rw [← hM.len]; exact hi)] at he
  exact (hM.at_ i b e hb he).keep g hm hM.len (fun q hq=>Below.heap_alloc W _ q (hM.lt q (ZaJ.2 ⟨e,List.mem_of_getElem? he,hq⟩)))):P:=h
theorem ZoM {P:Prop} (h:P:=by
  simp only [SIA,eq_self]
  refine ⟨⟨fun _=>trivial,fun _ _=>trivial⟩,?_⟩
  rw [Bool.eq_iff_iff,ZcW]
  exact ZoH xs):P:=h
theorem ZgI {P:Prop} (h:P:=by
  split at hn <;> first | exact Za0 hn | exact hn.elim):P:=h
theorem ZoN {P:Prop} (h:P:=by
  intro hb
  unfold Zlm at hb
  split at hb
  · rfl
  · exact hb.elim):P:=h
theorem ZoO {P:Prop} (h:P:=by
  unfold isAgg
  simp only [Sem.run_bind,run_underlying hu,Result.andThen_ok]
  cases d <;> first | rfl | simp [ZDx] at hd):P:=h
theorem Zvj {P:Prop} (h:P:=by
  unfold Instr.sliceAt
  simp only [Sem.run_bind,run_underlying hu,Result.andThen_ok]
  unfold Instr.slice
  simp only [Sem.run_bind,run_underlying hu,Result.andThen_ok,Sem.run_pure,hsl,sizeOf,typeInfo,run_program,hinf,hsz]):P:=h
theorem Zvk {P:Prop} (h:P:=by
  obtain ⟨rfl,rfl⟩:=Prod.mk.inj (Option.some.inj h)
  obtain ⟨v,r,rfl,h1,h2⟩:=hr
  exact ⟨[v],r,[],rfl,⟨by rw [h1.1],h1.2,rfl⟩,h2,by simp,fun i hi=>by rw [List.flatMap_cons]; exact List.mem_append_right _ hi⟩):P:=h
theorem Zvl {P:Prop} (h:P:=by
  obtain ⟨rfl,rfl⟩:=Prod.mk.inj (Option.some.inj h)
  obtain ⟨v,r,rfl,h1,h2⟩:=hr
  exact ⟨[v],r,[],rfl,⟨by rw [h1.1],h1.2,rfl⟩,h2,by simp,fun h=>by rw [List.any_cons,Bool.or_eq_false_iff] at h; exact h.2⟩):P:=h
theorem ZfD {P:Prop} (h:P:=by
  obtain rfl:k=a.length:=by omega
  omega):P:=h
theorem Zvm {P:Prop} (h:P:=by
  refine hgoal.mono fun en W' hq=>?_
  obtain ⟨u,E',rfl,g,r,hv⟩:=hq
  refine ⟨u,E,rfl,ZhV g,Ziw g hM,Zny g hM,?_⟩
  rw [hp] at hv
  exact Zog (hsc _ _) hv):P:=h
theorem Zvn {P:Prop} (h:P:=by
  simp only [Zbd,Zbs,ZaY,Bool.not_true,Bool.not_false,Zdy,eq_self]
  first
    | (unfold rowMax; exact ⟨by simp; omega,rfl⟩)
    | (refine ⟨by unfold rowMax; omega,?_⟩; trivial)
    | (unfold rowMax; omega)):P:=h
theorem ZoP {P:Prop} (h:P:=by
  obtain ⟨rfl,rfl⟩:=Prod.mk.inj (Option.some.inj h)
  rfl):P:=h
theorem Zvo {P:Prop} (h:P:=by
  rw [ZiJ]
  show W.cell? _=_
  rw [cell_of_row W b _ cur T (0,0) hg]
  rw [hnews,List.getElem?_take] at hj
  split at hj
  · rw [List.getElem?_drop] at hj
    simpa using hj
  · cases hj):P:=h
theorem ZfE {P:Prop} (h:P:=by
  first | (refine ⟨?_,?_⟩ <;> omega) | omega):P:=h
theorem Zvp {P:Prop} (h:P:=by
  have h1:W1.heap.size=b1:=by rw [hW1,hb1]; show (W.heap.push _).size=_; rw [Array.size_push]
  rw [hW2,← h1]
  show (W1.heap.push _)[W1.heap.size]?=_
  rw [Array.getElem?_push,if_pos rfl]):P:=h
theorem Zvq {P:Prop} (h:P:=by
  have h1:¬ boxW l m.2.1 < 0:=by have:=hne (by omega); omega
  unfold Zhd at hft
  rw [if_neg (by omega),if_neg h1,if_neg (by omega),if_neg (by omega),if_pos h] at hft
  simpa using hft):P:=h
theorem Zvr {P:Prop} (h:P:=by
  have:(parts.toList.map fun p=>(p.1,evalA tm p.2))=parts.toList.map fun p=>(p.1,evalA tm' p.2):=List.map_congr_left fun p hp=>by rw [h p.2 (by simp at hp ⊢; exact ⟨p.1,hp⟩)]
  rw [this]):P:=h
theorem Zvs {P:Prop} (h:P:=by
  obtain rfl:=Option.some.inj hc'
  intro W' E' x vs gr hr
  obtain ⟨va,r,rfl,h1,vb,r2,rfl,h2,hnil⟩:=hr
  obtain rfl:r2=[]:=hnil
  exact hc W' E' x.1 x.2.1 va vb gr h1 h2):P:=h
theorem Zvt {P:Prop} (h:P:=by
  refine Zco fun x=>?_
  have c1:=Zih (e':={ e with foot:=[] }) x he
  have c2:=ZkI hM x
  have c3:({ e with foot:=[] }:EB).foot.count x=0:=rfl
  omega):P:=h
theorem Zvu {P:Prop} (h:P:=by
  simp only [hs,hb]
  simp only [Zdy,eq_self]
  repeat' (first | apply And.intro | intro _)
  all_goals first
    | trivial
    | omega
    | (show List.length _≤rowMax; assumption)):P:=h
theorem Zvv {P:Prop} (h:P:=by
  rw [ByteArray.toList_eq,ByteArray.toList_eq,Bool.eq_iff_iff,beq_iff_eq,decide_eq_true_eq]
  exact ⟨fun h=>ByteArray.ext (Array.toList_inj.1 h),fun h=>by rw [h]⟩):P:=h
theorem Zvw {P:Prop} (h:P:=by
  unfold ZAx
  rw [List.any_eq_true]
  constructor
  · rintro ⟨y,h1,h2⟩
    rw [of_decide_eq_true h2] at h1
    exact h1
  · intro h
    exact ⟨n,h,decide_eq_true rfl⟩):P:=h
theorem Zvx {P:Prop} (h:P:=by
  rcases List.mem_cons.1 h with rfl | h
  · exact .inl ⟨k,rfl,by rw [List.map_cons,List.sum_cons]; simp only [MTy.nb]; omega⟩
  · exact up (inp:=[]) rfl rfl h):P:=h
theorem Zvy {P:Prop} (h:P:=by
  refine ⟨⟨b,0,none⟩,by simp [h],fun t u hu=>?_⟩
  have h0:news.length=0:=by rw [hnl]; omega
  rw [List.length_eq_zero_iff.1 h0] at hu
  simp at hu):P:=h
theorem Zvz {P:Prop} (h:P:=by
  simp only [Zdy,eq_self]
  first | exact (by rw [Bool.eq_iff_iff,ZcW]; exact ZoH s) | exact ⟨trivial,by rw [Bool.eq_iff_iff,ZcW]; exact ZoH s⟩):P:=h
theorem ZvA {P:Prop} (h:P:=by
  rcases Int.lt_or_le (boxW l m.2.1) 0 with h1 | h1
  · exfalso
    unfold Zhd at hft
    rw [if_neg h,if_pos h1] at hft
    cases hft
  · exact h1):P:=h
theorem ZvB {P:Prop} (h:P:=by
  simp only [Bool.and_eq_true] at hc
  exact Zou hM ht ho hu hp hc.1.1 (Nat.le_of_ble_eq_true hc.1.2) (Nat.eq_of_beq_eq_true hc.2.1) hc.2.2):P:=h
theorem ZvC {P:Prop} (h:P:=by
  rw [Za7,List.mem_append] at hb
  rw [World.size_alloc]
  rcases hb with hb | hb
  · have:=hM.lt b hb; omega
  · simp [foots] at hb; omega):P:=h
theorem ZvD {P:Prop} (h:P:=by
  subst hqi
  obtain rfl:e=e':=Option.some.inj (he.symm.trans hq)
  exact ⟨e2,List.getElem?_set_self (by rw [hkl]; exact hilE),by rw [he2]⟩):P:=h
theorem ZvE {P:Prop} (h:P:=by
  unfold execOp
  simp only [ho,resolve,invoke,builtin,Sem.run_bind,Sem.run_pure,Result.andThen_ok,List.map_toArray,List.map_cons,List.map_nil,h]):P:=h
theorem ZoQ {P:Prop} (h:P:=by
  rw [List.getElem?_append_left (List.getElem?_eq_some_iff.1 hM).1,hM]
  exact h):P:=h
theorem ZvF {P:Prop} (h:P:=by
  rw [e] at e'
  injection e' with e'
  injection e' with e'
  injection e' with a1 a2
  exact ⟨a1,by simpa using a2⟩):P:=h
theorem ZvG {P:Prop} (h:P:=by
  have hp' : ¬ 0 < k:=by omega
  exact ⟨k + 1,⟨by omega,ZaD hk.2 (by simp [Zhx,p,hp'])⟩,by omega,Zbj (by unfold maxLen; omega)⟩):P:=h
theorem ZvH {P:Prop} (h:P:=by
  obtain ⟨v,E',M',r,rfl,g,m,hv,hend⟩:=hq
  obtain ⟨E2,g2,m2,hv2⟩:=ZHC (T:=T) m g.g hv hend
  exact ⟨v,E2,rfl,g2,m2,hv2⟩):P:=h
theorem ZvI {P:Prop} (h:P:=by
  rcases List.mem_append.1 hm with hm | hm
  · exact hM.xlt b hm (by rw [hfoot]; exact List.mem_append_left _ hb)
  · exact hnd.2.2 b hb b hm rfl):P:=h
theorem ZvJ {P:Prop} (h:P:=by
  rw [Za7,List.mem_append] at hf
  rcases hf with hf | hf
  · exact hM.xlt b hb hf
  · have:=hM.xsz b hb; simp [foots] at hf; omega):P:=h
theorem ZvK {P:Prop} (h:P:=by
  rcases hb.2 with h2 | h2
  · rw [← Nat.eq_of_beq_eq_true h2]; exact this
  · exact ZBU hcl n e.on this (Bool.and_eq_true_iff.1 h2).2):P:=h
theorem ZkQ {P:Prop} (h:P:=by
  rw [List.count_append,List.count_append]
  omega):P:=h
theorem ZoR {P:Prop} (h:P:=by
  have:=(List.getElem?_eq_some_iff.1 hb).1
  simp at this
  omega):P:=h
theorem ZvL {P:Prop} (h:P:=by
  obtain ⟨rfl,rfl,rfl⟩:=ZgD h
  obtain ⟨v,r,rfl,h1,h2⟩:=hr
  exact ⟨[v],r,rfl,⟨by rw [h1.1],h1.2,rfl⟩,h2,by simp⟩):P:=h
theorem ZvM {P:Prop} (h:P:=by
  refine ZbY hM (Instr.fieldAt s (a.eval x) n) (by unfold execOp; rw [ho]) (by rw [h]; exact key _ _) ?_
  rw [Nat.add_assoc]
  exact r _):P:=h
theorem ZoS {P:Prop} (h:P:=by
  split at hn <;> first | exact ⟨[],(List.append_nil M).symm⟩ | exact hn.elim):P:=h
theorem ZvN {P:Prop} (h:P:=by
  show (tm.set d v).getD t .any=tm.getD t .any
  rw [List.getD_eq_getElem?_getD,List.getD_eq_getElem?_getD,List.getElem?_set_ne hne]):P:=h
theorem ZvO {P:Prop} (h:P:=by
  unfold execOp
  simp only [ho,hv,he,Sem.run_bind,hg,Result.andThen_ok,binOp,run_equal_slice_nil W t e A _ _ hu,Sem.run_pure]):P:=h
theorem ZvP {P:Prop} (h:P:=by
  exact ZbY hM (Instr.loadAt t (a.eval x)) (by unfold execOp; rw [ho]) (by rw [hv]; simpa [Instr.loadAt,Instr.sureAddr] using h1) h2):P:=h
theorem Zer {P:Prop} (h:P:=by
  exact hr.trans (ZGA hk)):P:=h
theorem ZoT {P:Prop} (h:P:=by
  rw [List.length_append,List.length_take,List.length_drop]
  omega):P:=h
theorem ZvQ {P:Prop} (h:P:=by
  rw [hc2,List.size_toArray,List.length_append,List.length_append,List.length_take,List.length_drop,hk,hk2,hLl,hsz]
  omega):P:=h
theorem ZvR {P:Prop} (h:P:=by
  obtain ⟨h1,_⟩:=Prod.mk.inj (Option.some.inj h)
  injection h1 with h1 _ _
  subst h1
  exact List.mem_singleton.2 rfl):P:=h
theorem Zin {P:Prop} (h:P:=by
  exact ⟨E2,g1.trans g2,m1.trans m2,r2⟩):P:=h
theorem ZvS {P:Prop} (h:P:=by
  obtain rfl:k=List.length qu.1:=by omega
  first | exact (ZmU hk.2).symm | exact ⟨trivial,(ZmU hk.2).symm⟩):P:=h
theorem ZvT {P:Prop} (h:P:=by
  by_cases hj:b=j
  · subst hj; rw [hb]; trivial
  · rw [List.getElem?_set_ne hj]
    exact ZaR.refl W E M j):P:=h
theorem ZvU {P:Prop} (h:P:=by
  simp only [Array.toList_append,List.append_assoc]
  rw [← List.append_assoc,← hlen]
  exact List.take_left):P:=h
theorem ZvV {P:Prop} (h:P:=by
  obtain rfl:k=s.size:=by omega
  first | exact (ZsQ hk.2).symm | exact ⟨trivial,(ZsQ hk.2).symm⟩):P:=h
theorem ZoU {P:Prop} (h:P:=by
  have k1:x=q:=k1
  subst k1
  exact ⟨h.1,h.2.1,k2⟩):P:=h
theorem ZvW {P:Prop} (h:P:=by
  have:Zaa l k=Zn5:=ZGs (t:=Zaf) (Nat.le_of_not_lt hk)
  rw [this]
  exact Nat.zero_le _):P:=h
theorem ZvX {P:Prop} (h:P:=by
  rcases h.2 with ⟨h1,h3⟩ | ⟨g',cap,cur,q1,_⟩
  · exact ⟨none,0,by rw [h1,h3]⟩
  · exact ⟨_,_,q1⟩):P:=h
theorem ZvY {P:Prop} (h:P:=by
  rw [List.getElem?_set_ne hj] at hb'
  exact (hr.mem.at_ j b' e hb' he).keep g m hr.mem.len (fun _ _=>rfl)):P:=h
theorem ZvZ {P:Prop} (h:P:=by
  simp only [Zdy,eq_self]
  repeat' (first | apply And.intro | intro _)
  all_goals first | trivial | omega):P:=h
theorem Zv0 {P:Prop} (h:P:=by
  have:=ZiI (us:=us) (j:=j) (k:=k) (by simpa using h) (by omega)
  simpa [ZdK] using this):P:=h
theorem Zv1 {P:Prop} (h:P:=by
  have:=Int.natAbs_tmod x y
  have h3:x.natAbs % y.natAbs≤x.natAbs:=Nat.mod_le _ _
  omega):P:=h
theorem Zv2 {P:Prop} (h:P:=by
  have:=ZpW n (listed.setIfInBounds i true)
  show (Zgy T ops n _).len + 1≤_
  omega):P:=h
theorem Zv3 {P:Prop} (h:P:=by
  rw [← List.append_assoc,← List.append_assoc]
  exact List.Perm.append_right _ List.perm_append_comm):P:=h
theorem Zv4 {P:Prop} (h:P:=by
  have h2:=ZDS hcl hj hd
  rw [ZHy (mem_ready.1 hr).1] at h2
  cases h2):P:=h
theorem Zv5 {P:Prop} (h:P:=by
  unfold loadVar
  simp only [Sem.run_bind,hagg,Result.andThen_ok,if_true,hsz,hl',Sem.run_pure]):P:=h
theorem Zv6 {P:Prop} (h:P:=by
  obtain rfl:u1=[]:=q2
  rw [List.append_nil] at e1
  rw [e1]
  exact q1):P:=h
theorem Zv7 {P:Prop} (h:P:=by
  obtain ⟨A,c2,hsl⟩:=Zcs h4
  injection hsl with _ hll _
  rw [hll,List.length_set]):P:=h
theorem Zv8 {P:Prop} (h:P:=by
  rw [Bool.eq_iff_iff,decide_eq_true_eq,Zbd]
  exact ⟨fun q=>by omega,fun q=>⟨h,by omega⟩⟩):P:=h
theorem Zv9 {P:Prop} (h:P:=by
  exact ⟨_,by simp only [binOp,Sem.run_bind,ZyW hn,Result.andThen_ok,Sem.run_pure],rfl⟩):P:=h
theorem Zwa {P:Prop} (h:P:=by
  rw [if_neg (ZzQ h3 h4),decide_eq_false (fun q=>by rw [q j hj] at h; cases h),Bool.false_and]):P:=h
theorem Zwb {P:Prop} (h:P:=by
  refine ⟨rfl,cur2,?_,X.out.1,by rw [X.out.2,Y.out]⟩
  rw [hW.out]
  exact ZsG _ _ _ _):P:=h
theorem Zio {P:Prop} (h:P:=by
  exact List.mem_append_left _ hb):P:=h
theorem ZoV {P:Prop} (h:P:=by
  exact ⟨⟨fun _=>trivial,fun _ _=>trivial⟩,rfl⟩):P:=h
theorem ZkR {P:Prop} (h:P:=by
  unfold eqGuard
  cases op <;> rfl):P:=h
theorem Zwc {P:Prop} (h:P:=by
  exact ⟨k + 1,⟨by omega,ZaD hk.2 (Zcn.1 hp)⟩,by omega,Zbj (by omega)⟩):P:=h
theorem Zwd {P:Prop} (h:P:=by
  exact ⟨k + 1,⟨by omega,ZaD hk.2 (Zg5.1 hp)⟩,by omega,Zbj (by omega)⟩):P:=h
theorem Zwe {P:Prop} (h:P:=by
  exact ⟨k + 1,⟨by omega,ZaD hk.2 (Zh2.1 hp)⟩,by omega,Zbj (by omega)⟩):P:=h
theorem Zwf {P:Prop} (h:P:=by
  obtain rfl:k=List.length z.2.1:=by omega
  exact (ZxM h1 h2 h4 hk.2).symm):P:=h
theorem Zwg {P:Prop} (h:P:=by
  rw [hW2]
  refine Zbe.trans ?_ (Zis W1 _)
  rw [hW1]
  exact Zis W _):P:=h
theorem Zwh {P:Prop} (h:P:=by
  obtain rfl:=Option.some.inj hb
  obtain rfl:=Option.some.inj he
  exact ho):P:=h
theorem Zwi {P:Prop} (h:P:=by
  obtain ⟨T,cells,G,_,_,h6⟩:=h4
  rw [h6,h1]
  simp [Value.ownBlock]):P:=h
theorem Zwj {P:Prop} (h:P:=by
  obtain ⟨e',q1,q2⟩:=(Zy0 hkeys).2 hq
  exact absurd q2 (h2 e' q1)):P:=h
theorem Zwk {P:Prop} (h:P:=by
  have:=(List.getElem?_eq_some_iff.1 hb).1
  simp [hml] at this
  omega):P:=h
theorem Zwl {P:Prop} (h:P:=by
  rw [h1.1]
  exact ⟨none,0,rfl,Nat.le_refl _,Nat.zero_le _, .inl ⟨rfl,rfl⟩⟩):P:=h
theorem Zwm {P:Prop} (h:P:=by
  rw [← j1]
  exact ZFd ho3 (fun b hb hm=>m3.xlt b hm (by simp [foots,hb]))):P:=h
theorem Zwn {P:Prop} (h:P:=by
  rcases List.mem_append.1 hq with hq | hq
  · simp [q1 q hq]
  · simp [q2 q hq]):P:=h
theorem Zwo {P:Prop} (h:P:=by
  rw [hnews,List.length_take,List.length_drop,Array.length_toList,hsz]
  omega):P:=h
theorem Zwp {P:Prop} (h:P:=by
  rw [Zmz,Nat.zero_add,hlk]
  exact (congrFun (Option.map_id (α:=_)) _)):P:=h
theorem Zwq {P:Prop} (h:P:=by
  have h3:a ≠ b:=fun e=>by subst e; omega
  simp [h1,h2,h3,h3.symm]):P:=h
theorem Zwr {P:Prop} (h:P:=by
  rw [hM.len,List.getElem?_append_right (Nat.le_refl _),Nat.sub_self]
  rfl):P:=h
theorem Zws {P:Prop} (h:P:=by
  rw [List.getElem?_take,if_pos hi,List.getElem?_take,if_pos hi]
  exact h):P:=h
theorem Zwt {P:Prop} (h:P:=by
  unfold ZdM
  rw [if_neg h1,if_neg h2,if_neg h3,if_neg h4,if_pos h5]):P:=h
theorem Zwu {P:Prop} (h:P:=by
  obtain ⟨e',q1,q2⟩:=g.blk i e h1
  exact ⟨e',q1,by rw [q2]; exact h2⟩):P:=h
theorem ZoW {P:Prop} (h:P:=by
  exact (ZoC (fun q=>by omega)).symm):P:=h
theorem Zwv {P:Prop} (h:P:=by
  have:=ZfA.1 (hbx _ (hk h))
  exact ⟨this.2.2.2.2,this.2.2.2.1⟩):P:=h
theorem ZoX {P:Prop} (h:P:=by
  exact ⟨u,by rw [e]; simpa using q1,q2⟩):P:=h
theorem Zww {P:Prop} (h:P:=by
  rw [if_neg (ZzQ h3 h4),decide_eq_true h1,decide_eq_true h2]
  rfl):P:=h
theorem Zwx {P:Prop} (h:P:=by
  exact ⟨_,_,e,hr,hgr.1,hgr.2,Or.inr rfl,fun h=>absurd h hm⟩):P:=h
theorem ZkS {P:Prop} (h:P:=by
  exact ⟨l',by simpa using hq⟩):P:=h
theorem ZcA {P:Prop} (h:P:=by
  try unfold maxLen at *
  exact ZbU):P:=h
theorem Zwy {P:Prop} (h:P:=by
  refine Eq.mpr (β:=(T2 ((pt True)∧(True∧(rB (btw n 1 999999999) (btw n 1 999999999)))))) (by kernel_rfl) ?_
  exact Zdo):P:=h
theorem ZoY {P:Prop} (h:P:=by
  split at h
  · exact ZoP
  · cases h):P:=h
theorem Zwz {P:Prop} (h:P:=by
  rw [(Zft (E':=E') hl i).1,(Zft (N:=N) hl i).2]
  exact h2):P:=h
open Go.ChangeShapes Go.WideShapes Go.ChangeAt Go.RowKit Go.Joins Go.Deep
theorem ZJ2 {a b:ByteArray} (h:a=b):Ending.returned (.string a)=.returned (.string b):=by rw [h]
theorem ZJp {a b:Bool} (h:a=b):Ending.returned (.bool a)=.returned (.bool b):=by rw [h]
theorem ZJ3 {k:IntKind} {a b:Int} (h:a=b):Ending.returned (.int k a)=.returned (.int k b):=by rw [h]
theorem ZkT {H:Type} {enc:TypeId × Value→H} {P:Program} (hl:laidOutB P=true) {W W' : World} (hb:Below W.heap.size W W') :
    ∀ {ts:List TypeId} {vs:List Value} {ds:List (DataW H)} {ps:List MemPlace},
      (∀ t ∈ ts,P.readableRec t=true∧t < P.types.size)→DataW.TrodAll enc P W 0 (fun _=>true) true ts vs ds ps→(∀ x ∈ ps,x.block < W.heap.size) →
      DataW.TrodAll enc P W' 0 (fun b=>decide (b < W.heap.size)) true ts vs ds ps
  | [],[],[],_,_,h,_=>h
  | t :: ts,v :: vs,d :: ds,ps,hr,⟨p,q,h1,h2,e⟩,hlt=>by
    subst e
    have ht:=hr t (by simp)
    exact ⟨p,q,Below.trod hl ht.1 ht.2 h1 hb (fun x hx=>hlt x (by simp [hx])),ZkT hl hb (fun t' ht'=>hr t' (by simp [ht'])) h2 (fun x hx=>hlt x (by simp [hx])),rfl⟩
  | [],_ :: _,_,_,_,h,_=>by simp [DataW.TrodAll] at h
  | [],[],_ :: _,_,_,h,_=>by simp [DataW.TrodAll] at h
  | _ :: _,[],_,_,_,h,_=>by simp [DataW.TrodAll] at h
  | _ :: _,_ :: _,[],_,_,h,_=>by simp [DataW.TrodAll] at h
theorem ZGC {H:Type} {enc:TypeId × Value→H} {P:Program} {f:Func} {s:ChangeSpec} {W W' : World} {args:Array Value} {ds gs:List (DataW H)} {before:List MemPlace} {tb:TypeId}
    (hl:laidOutB P=true) (hr:(f.params.toList.all fun t=>P.readableRec t && decide (t < P.types.size))=true) (hres:f.resultTypes=#[tb]) (htb:P.underlying tb=some .bool) (hvars:s.vars=[])
    (hs:s.fn H ds={ results:=[.lit (.bool true)],args:=ds })
    (hW:DataW.Whole enc P f.params.toList s.vars false W args.toList ds gs before) (hb:Below W.heap.size W W'):s.post enc P f false true false false W args (.bool true) W':=by
  have hr:∀ t ∈ f.params.toList,P.readableRec t=true∧t < P.types.size:=fun t ht=>by
    have:=List.all_eq_true.1 hr t ht
    simpa using this
  have hlt:∀ p ∈ before,p.block < W.heap.size:=fun p hp=>hW.lt p hp
  obtain ⟨p,q,hA,hV,rfl,hz,hn⟩:=hW
  have hV':=hV
  rw [hvars] at hV
  obtain ⟨rfl,rfl⟩:=trodVars_none hV
  refine ⟨ds,[],p ++ [],[],p,[],⟨p,[],hA,hV',rfl,hz,hn⟩,?_,?_,?_,?_,fun h=>by cases h⟩
  · rw [List.append_nil,hs,hres]
    exact trodAll_mk1 ⟨1,by simp [DataW.trod,htb,Value.cells]⟩
  · rw [List.append_nil,hs]
    exact ZkT hl hb hr hA (fun x hx=>hlt x (by simp [hx]))
  · rw [List.append_nil,hs,hvars]
    rfl
  · exact World.keptBut_mono (fun x hx=>⟨hx,Or.inr (Or.inl (by simpa using hx))⟩) (hb.frame (· ∈ p ++ []))
def btw (n lo hi:Int):Bool:=decide (lo≤n) && decide (n≤hi)
theorem ZJq {n lo hi:Int} (h1:lo≤n) (h2:n≤hi):btw n lo hi=true:=by simp [btw,h1,h2]
theorem ZIW {n lo hi:Int} (h:n < lo∨hi < n):btw n lo hi=false:=by simp [btw]; omega
theorem Zbd {n lo hi:Int}:btw n lo hi=true↔lo≤n∧n≤hi:=by simp [btw]
theorem Zbs {n lo hi:Int}:btw n lo hi=false↔n < lo∨hi < n:=by simp [btw]; omega
theorem ZKA {W w1:World} (hb:Below W.heap.size W w1):(∀ b o,b < W.heap.size→w1.cell? ⟨b,o,none⟩=W.cell? ⟨b,o,none⟩)∧(∀ b o,b < W.heap.size→w1.frozen? ⟨b,o,none⟩=W.frozen? ⟨b,o,none⟩) :=
  ⟨fun b o h=>hb.cell (p:=⟨b,o,none⟩) h,fun b o h=>hb.frozen (p:=⟨b,o,none⟩) h⟩
theorem ZJ4 {a b c:World} (h:Below a.heap.size a b) (k:Below b.heap.size b c):Below a.heap.size a c:=h.trans (k.mono h.size)
theorem ZIX {a b:World} (h:Below a.heap.size a b) (o:Obj):Below a.heap.size a (b.alloc o):=h.alloc h.size o
def ext (w:World) (E:Array Obj) (d:Nat):World:={ w with heap:=w.heap ++ E,drawn:=d }
section
variable (w:World) (E:Array Obj) (d:Nat)
@[simp,go_sem] theorem ZJr:(ext w E d).heap.size=w.heap.size + E.size:=by simp [ext]
@[go_sem] theorem ZJs {n m:Nat} (a1:Nat) (h:n < m):(n < m + a1)=True:=by simp only [eq_iff_iff,iff_true]; omega
@[go_sem] theorem ZJt {n m:Nat} (a1 a2:Nat) (h:n < m):(n < m + a1 + a2)=True:=by simp only [eq_iff_iff,iff_true]; omega
@[go_sem] theorem ZJu {n m:Nat} (a1 a2 a3:Nat) (h:n < m):(n < m + a1 + a2 + a3)=True:=by simp only [eq_iff_iff,iff_true]; omega
@[go_sem] theorem ZJv {n m:Nat} (a1 a2 a3 a4:Nat) (h:n < m):(n < m + a1 + a2 + a3 + a4)=True:=by simp only [eq_iff_iff,iff_true]; omega
@[go_sem] theorem ZJw {n m:Nat} (a1 a2 a3 a4 a5:Nat) (h:n < m):(n < m + a1 + a2 + a3 + a4 + a5)=True:=by simp only [eq_iff_iff,iff_true]; omega
@[go_sem] theorem ZJx {n m:Nat} (a1 a2 a3 a4 a5 a6:Nat) (h:n < m):(n < m + a1 + a2 + a3 + a4 + a5 + a6)=True:=by simp only [eq_iff_iff,iff_true]; omega
@[go_sem] theorem ZJy {n m:Nat} (a1 a2 a3 a4 a5 a6 a7:Nat) (h:n < m):(n < m + a1 + a2 + a3 + a4 + a5 + a6 + a7)=True:=by simp only [eq_iff_iff,iff_true]; omega
@[go_sem] theorem ZJz {n m:Nat} (a1 a2 a3 a4 a5 a6 a7 a8:Nat) (h:n < m):(n < m + a1 + a2 + a3 + a4 + a5 + a6 + a7 + a8)=True:=by simp only [eq_iff_iff,iff_true]; omega
@[go_sem] theorem ZJA {n m:Nat} (a1 a2 a3 a4 a5 a6 a7 a8 a9:Nat) (h:n < m):(n < m + a1 + a2 + a3 + a4 + a5 + a6 + a7 + a8 + a9)=True:=by simp only [eq_iff_iff,iff_true]; omega
@[go_sem] theorem ZIY {n m:Nat} (a1 a2 a3 a4 a5 a6 a7 a8 a9 a10:Nat) (h:n < m):(n < m + a1 + a2 + a3 + a4 + a5 + a6 + a7 + a8 + a9 + a10)=True:=by simp only [eq_iff_iff,iff_true]; omega
@[go_sem] theorem ZIZ {n m:Nat} (a1 a2 a3 a4 a5 a6 a7 a8 a9 a10 a11:Nat) (h:n < m):(n < m + a1 + a2 + a3 + a4 + a5 + a6 + a7 + a8 + a9 + a10 + a11)=True:=by simp only [eq_iff_iff,iff_true]; omega
@[go_sem] theorem ZI0 {n m:Nat} (a1 a2 a3 a4 a5 a6 a7 a8 a9 a10 a11 a12:Nat) (h:n < m):(n < m + a1 + a2 + a3 + a4 + a5 + a6 + a7 + a8 + a9 + a10 + a11 + a12)=True:=by simp only [eq_iff_iff,iff_true]; omega
theorem ZcI {n:Nat} (hn:n < w.heap.size):(ext w E d).heap[n]?=w.heap[n]?:=by
  show (w.heap ++ E)[n]?=_
  rw [Array.getElem?_append_left hn]
@[go_sem] theorem ZpC (n i:Nat) (hn:n < w.heap.size):(ext w E d).cell? ⟨n,i,none⟩=w.cell? ⟨n,i,none⟩:=by
  unfold World.cell?
  rw [ZcI w E d hn]
@[go_sem] theorem ZCA (n i:Nat) (hn:n < w.heap.size):(ext w E d).frozen? ⟨n,i,none⟩=w.frozen? ⟨n,i,none⟩:=by
  unfold World.frozen?
  rw [ZcI w E d hn]
@[go_sem] theorem ZCB (n i:Nat) (v:Value) (hn:n < w.heap.size):(ext w E d).setCell ⟨n,i,none⟩ v=ext (w.setCell ⟨n,i,none⟩ v) E d:=by
  unfold World.setCell ext
  simp only
  congr 1
  apply Array.ext_getElem?
  intro k
  simp only [Array.getElem?_modify,Array.getElem?_append,Array.size_modify]
  by_cases hk:n=k
  · subst hk
    simp [hn]
  · simp [hk]
@[go_sem] theorem ZGD:(ext w E d).drew=ext w E (d + 1):=rfl
@[go_sem] theorem ZJB:ext w.drew E d=ext w E d:=rfl
@[go_sem] theorem ZI1 (n:Nat):ext (w.drewN n) E d=ext w E d:=rfl
@[go_sem] theorem ZEH (n:Nat):(ext w E d).drewN n=ext w E (d + n):=rfl
theorem ZoZ (E' : Array Obj) (d' : Nat):ext (ext w E d) E' d'=ext w (E ++ E') d':=by simp [ext]
theorem ZEI (o:Obj):(ext w E d).alloc o=ext w (E.push o) d:=by simp [ext,World.alloc]
theorem ZJ5:w=ext w #[] w.drawn:=by simp [ext]
theorem ZG5 {a b:World} (h:Below a.heap.size a b) (E:Array Obj) (d:Nat):Below a.heap.size a (ext b E d) :=
  h.trans ⟨rfl,rfl,rfl,by simp,fun k hk=>ZcI b E d (by have:=h.size; omega)⟩
theorem Zip {w w1:World} (h:Below w.heap.size w w1):∃ E d,w1=ext w E d:=by
  refine ⟨w1.heap.extract w.heap.size,w1.drawn,?_⟩
  have hh:w1.heap=w.heap ++ w1.heap.extract w.heap.size:=by
    have hs:=h.size
    apply Array.ext_getElem?
    intro k
    rw [Array.getElem?_append]
    split
    · exact h.block k (by assumption)
    · rw [Array.getElem?_extract]
      split
      · congr 1; omega
      · exact Array.getElem?_eq_none (by omega)
  have h1:=h.os
  have h2:=h.tape
  have h3:=h.output
  cases w1
  simp only [ext] at *
  subst h1 h2 h3
  simp [← hh]
end
def RV (v:Value) (w:World) (e:Ending) (w' : World):Prop:=e=.returned v∧∃ E d,w'=ext w E d
theorem RV.mk {v:Value} {w w' : World} {e:Ending} (h1:e=.returned v) (h2:Below w.heap.size w w'):RV v w e w':=⟨h1,Zip h2⟩
theorem RV.below {v:Value} {w w' : World} {e:Ending} (h:RV v w e w'):e=.returned v∧Below w.heap.size w w':=by
  obtain ⟨h1,E,d,rfl⟩:=h
  exact ⟨h1,ZG5 (Below.refl _ _) _ _⟩
def szT (n:Int) (k:Nat):Int:=if n < k then -1 else n - k
theorem ZKh {n:Int} {k:Nat} (h:n < k):szT n k=-1:=by simp [szT,h]
theorem ZKi {n:Int} {k:Nat} (h:(k:Int)≤n):szT n k=n - k:=by unfold szT; rw [if_neg (by omega)]
theorem ZKj {n:Int} (k:Nat) (h : -1≤n):szT n k≤n∧-1≤szT n k:=by unfold szT; split <;> omega
theorem ZJ6 {n:Int} {k:Nat} (h:0≤szT n k):(k:Int)≤n∧szT n k=n - k:=by unfold szT at *; split at h <;> (try split) <;> omega
theorem ZKk (w:World) (o:Obj):Below w.heap.size w (w.alloc o):=ZIX (Below.refl _ _) o
theorem ZHS:laidOutB Tryz.prog=true:=by kernel_rfl
theorem ZKB:ownKnob Tryz.prog.godebug=none:=by kernel_rfl
def ZgJ (W:World) (b:Nat):Array Value:=match W.heap[b]? with | some (.cells cs _ _)=>cs | _=>#[]
def ZHT (W:World) (b:Nat):Array Value:=ZgJ W b
theorem blkOf_ext' {w:World} {b:Nat} (E:Array Obj) (d:Nat) (h:b < w.heap.size):ZgJ (ext w E d) b=ZgJ w b:=by
  unfold ZgJ
  rw [ZcI w E d h]
@[go_sem] theorem ZI2 {w:World} {b:Nat} (E:Array Obj) (d:Nat):ZgJ (ext w E d) b=if b < w.heap.size then ZgJ w b else ZHT (ext w E d) b:=by
  split
  · rename_i h; exact blkOf_ext' E d h
  · rfl
theorem blkOf_new (w:World) (cs:Array Value) (T:TypeId) (fr:Nat × Nat):ZgJ (w.alloc (.cells cs T fr)) w.heap.size=cs:=by
  unfold ZgJ
  have:(w.alloc (.cells cs T fr)).heap[w.heap.size]?=some (.cells cs T fr):=by
    show (w.heap.push _)[w.heap.size]?=_
    simp
  rw [this]
@[go_sem] theorem blkOf_past {w:World} {b:Nat} (o:Obj):ZgJ (w.alloc o) b=if b < w.heap.size then ZgJ w b else ZHT (w.alloc o) b:=by
  split
  · rename_i h
    unfold ZgJ
    rw [Below.heap_alloc w o b h]
  · rfl
@[go_sem high] theorem ZJC {w:World} {b:Nat} (cs:Array Value) (T:TypeId) (fr:Nat × Nat):ZgJ (w.alloc (.cells cs T fr)) b=if b < w.heap.size then ZgJ w b else if b=w.heap.size then cs else ZHT (w.alloc (.cells cs T fr)) b:=by
  split
  · rename_i h; rw [blkOf_past,if_pos h]
  · split
    · rename_i h; subst h; exact blkOf_new _ _ _ _
    · rfl
@[go_sem] theorem ZH9 (w:World) (b:Nat):ZgJ w.drew b=ZgJ w b:=rfl
@[go_sem] theorem ZHU (w:World) (b n:Nat):ZgJ (w.drewN n) b=ZgJ w b:=rfl
@[go_sem high] theorem ZGE {P:Program} (W:World) (b n:Nat) (h:(ZgJ W b).size=n):(loadCells ⟨b,0,none⟩ n).run P W=.ok (ZgJ W b) W:=by
  subst h
  unfold ZgJ
  cases hb:W.heap[b]? with
  | none=>simp [loadCells,loadCellsFrom]
  | some o =>
    cases o with
    | cells cs t fr =>
      have hl:(loadCells ⟨b,0,none⟩ cs.toList.length).run P W=.ok cs.toList.toArray W :=
        run_loadCells_list (P:=P) W ⟨b,0,none⟩ cs.toList (fun j v hv=>by
          have hadd:(⟨b,0,none⟩:Addr).add j=⟨b,j,none⟩:=by unfold Addr.add; split <;> simp_all
          rw [hadd,cell_of_row W b j cs t fr hb]
          simpa using hv)
      simpa using hl
    | _=>simp [loadCells,loadCellsFrom]
section
variable {P:Program} (w:World) (a:Addr) (n:Nat)
@[go_sem low] theorem ZGF (_:(w.cell? a).isSome=true):(loadCells a n).run P w=(loadCellsFrom a 0 n #[]).run P w:=rfl
@[go_sem low] theorem ZGG (E:Array Obj) (d:Nat):(loadCells a n).run P (ext w E d)=(loadCellsFrom a 0 n #[]).run P (ext w E d):=rfl
@[go_sem low] theorem ZEJ (o:Obj):(loadCells a n).run P (w.alloc o)=(loadCellsFrom a 0 n #[]).run P (w.alloc o):=rfl
@[go_sem low] theorem ZE2:(loadCells a n).run P w.drew=(loadCellsFrom a 0 n #[]).run P w.drew:=rfl
@[go_sem low] theorem ZEK (k:Nat):(loadCells a n).run P (w.drewN k)=(loadCellsFrom a 0 n #[]).run P (w.drewN k):=rfl
@[go_sem low] theorem ZGH (p:Addr) (v:Value):(loadCells a n).run P (w.setCell p v)=(loadCellsFrom a 0 n #[]).run P (w.setCell p v):=rfl
end
def Zc6 (W:World) (b n:Nat):Bool:=match W.heap[b]? with | some (.cells cs _ fr)=>cs.size == n && fr == (0,0) | _=>false
def Zo0 (W:World) (b n:Nat):Bool:=Zc6 W b n
@[go_sem] theorem ZHV {w:World} {b:Nat} (n:Nat) (E:Array Obj) (d:Nat):Zc6 (ext w E d) b n=if b < w.heap.size then Zc6 w b n else Zo0 (ext w E d) b n:=by
  split
  · rename_i h
    unfold Zc6
    rw [ZcI w E d h]
  · rfl
theorem blkFree_new (w:World) (cs:Array Value) (T:TypeId) (n:Nat):Zc6 (w.alloc (.cells cs T)) w.heap.size n=(cs.size == n):=by
  unfold Zc6
  have:(w.alloc (.cells cs T)).heap[w.heap.size]?=some (.cells cs T):=by
    show (w.heap.push _)[w.heap.size]?=_
    simp
  rw [this]
  simp
@[go_sem] theorem blkFree_past {w:World} {b:Nat} (n:Nat) (o:Obj):Zc6 (w.alloc o) b n=if b < w.heap.size then Zc6 w b n else Zo0 (w.alloc o) b n:=by
  split
  · rename_i h
    unfold Zc6
    rw [Below.heap_alloc w o b h]
  · rfl
@[go_sem high] theorem ZIa {w:World} {b:Nat} (cs:Array Value) (T:TypeId) (n:Nat):Zc6 (w.alloc (.cells cs T)) b n=if b < w.heap.size then Zc6 w b n else if b=w.heap.size then (cs.size == n) else Zo0 (w.alloc (.cells cs T)) b n:=by
  split
  · rename_i h; rw [blkFree_past,if_pos h]
  · split
    · rename_i h; subst h; exact blkFree_new _ _ _ _
    · rfl
@[go_sem] theorem ZG6 (w:World) (b n:Nat):Zc6 w.drew b n=Zc6 w b n:=rfl
@[go_sem] theorem ZGI (w:World) (b n k:Nat):Zc6 (w.drewN k) b n=Zc6 w b n:=rfl
def ZbV (W:World) (b:Nat) (cs:Array Value):World:={ W with heap:=W.heap.modify b (fun o=>match o with | .cells _ T fr=>.cells cs T fr | o=>o) }
theorem setBlk_ext' {w:World} {b:Nat} (cs:Array Value) (E:Array Obj) (d:Nat) (h:b < w.heap.size):ZbV (ext w E d) b cs=ext (ZbV w b cs) E d:=by
  unfold ZbV ext
  simp only
  congr 1
  apply Array.ext_getElem?
  intro k
  simp only [Array.getElem?_modify,Array.getElem?_append,Array.size_modify]
  by_cases hk:b=k
  · subst hk
    simp [h]
  · simp [hk]
theorem setBlk_new (w:World) (old cs:Array Value) (T:TypeId):ZbV (w.alloc (.cells old T)) w.heap.size cs=w.alloc (.cells cs T):=by
  unfold ZbV World.alloc
  simp only
  congr 1
  apply Array.ext_getElem?
  intro k
  simp only [Array.getElem?_modify,Array.getElem?_push]
  by_cases hk:w.heap.size=k
  · subst hk
    simp
  · have hk' : ¬ k=w.heap.size:=fun e=>hk e.symm
    simp [hk,hk']
theorem setBlk_past' {w:World} {b:Nat} (cs:Array Value) (o:Obj) (h:b < w.heap.size):ZbV (w.alloc o) b cs=(ZbV w b cs).alloc o:=by
  unfold ZbV World.alloc
  simp only
  congr 1
  apply Array.ext_getElem?
  intro k
  simp only [Array.getElem?_modify,Array.getElem?_push,Array.size_modify]
  by_cases hk:b=k
  · subst hk
    have:¬ b=w.heap.size:=by omega
    simp [this]
  · simp [hk]
def Zsu (W:World) (b:Nat) (cs:Array Value):World:=ZbV W b cs
@[go_sem] theorem ZIb (w:World) (b:Nat) (cs:Array Value) (E:Array Obj) (d:Nat):ZbV (ext w E d) b cs=if b < w.heap.size then ext (ZbV w b cs) E d else Zsu (ext w E d) b cs:=by
  split
  · rename_i h; exact setBlk_ext' cs E d h
  · rfl
@[go_sem] theorem setBlk_past (w:World) (b:Nat) (cs:Array Value) (o:Obj):ZbV (w.alloc o) b cs=if b < w.heap.size then (ZbV w b cs).alloc o else Zsu (w.alloc o) b cs:=by
  split
  · rename_i h; exact setBlk_past' cs o h
  · rfl
@[go_sem high] theorem ZI3 (w:World) (b:Nat) (old cs:Array Value) (T:TypeId):ZbV (w.alloc (.cells old T)) b cs=if b < w.heap.size then (ZbV w b cs).alloc (.cells old T) else if b=w.heap.size then w.alloc (.cells cs T) else Zsu (w.alloc (.cells old T)) b cs:=by
  split
  · rename_i h; rw [setBlk_past,if_pos h]
  · split
    · rename_i h; subst h; exact setBlk_new _ _ _ _
    · rfl
@[simp,go_sem] theorem ZHW (w:World) (b:Nat) (cs:Array Value):(ZbV w b cs).heap.size=w.heap.size:=by simp [ZbV]
@[go_sem] theorem ZHX (w:World) (b:Nat) (cs:Array Value):ZbV w.drew b cs=(ZbV w b cs).drew:=rfl
theorem Zjg {P:Program} (g:Nat) (t:TypeId):∀ (vs:List Value) (i:Nat) (cur:Array Value) (W:World),W.heap[g]?=some (.cells cur t (0,0))→i + vs.length=cur.size→vs.all (fun v=>v.oneCell')=true →
    (storeCells ⟨g,0,none⟩ vs i).run P W=.ok () (ZbV W g (cur.toList.take i ++ vs).toArray)
  | [],i,cur,W,hg,hl,_=>by
    have h1:cur.toList.take i=cur.toList:=List.take_of_length_le (by simp at hl ⊢; omega)
    have h2:ZbV W g cur=W:=by
      unfold ZbV
      congr 1
      apply Array.ext_getElem?
      intro k
      rw [Array.getElem?_modify]
      by_cases hk:g=k
      · subst hk
        rw [if_pos rfl,hg]
        rfl
      · rw [if_neg hk]
    simp only [storeCells,List.append_nil,h1,Array.toArray_toList,h2]
    rfl
  | v :: vs,i,cur,W,hg,hl,ho=>by
    rw [List.all_cons,Bool.and_eq_true] at ho
    have hadd:(⟨g,0,none⟩:Addr).add i=⟨g,i,none⟩:=by unfold Addr.add; split <;> simp_all
    have hi:i < cur.size:=by simp at hl; omega
    have hc:W.cell? ⟨g,i,none⟩=some cur[i]:=by simp [World.cell?,hg,hi]
    have hf:W.frozen? ⟨g,i,none⟩=false:=by simp [World.frozen?,hg]
    have hset:W.setCell ⟨g,i,none⟩ v=ZbV W g (cur.setIfInBounds i v):=by
      unfold World.setCell ZbV
      simp only
      congr 1
      apply Array.ext_getElem?
      intro k
      simp only [Array.getElem?_modify]
      by_cases hk:g=k
      · subst hk
        rw [if_pos rfl,if_pos rfl,hg]
        rfl
      · rw [if_neg hk,if_neg hk]
    have hg' : (ZbV W g (cur.setIfInBounds i v)).heap[g]?=some (.cells (cur.setIfInBounds i v) t (0,0)):=by
      unfold ZbV
      simp only [Array.getElem?_modify,if_pos,hg]
      rfl
    have ih:=Zjg (P:=P) g t vs (i + 1) (cur.setIfInBounds i v) (ZbV W g (cur.setIfInBounds i v)) hg' (by simp at hl ⊢; omega) ho.2
    have e:((cur.setIfInBounds i v).toList.take (i + 1) ++ vs)=cur.toList.take i ++ v :: vs:=by
      rw [Array.toList_setIfInBounds,List.take_add_one,List.getElem?_set_self (by simpa using hi),List.take_set_of_le (Nat.le_refl _)]
      simp
    have e2:∀ cs cs' : Array Value,ZbV (ZbV W g cs) g cs'=ZbV W g cs':=fun cs cs'=>by
      unfold ZbV
      simp only
      congr 1
      apply Array.ext_getElem?
      intro k
      simp only [Array.getElem?_modify]
      by_cases hk:g=k
      · subst hk
        simp only [if_true,hg]
        rfl
      · simp [hk]
    rw [e,e2] at ih
    have hst:(store (⟨g,i,none⟩:Addr) v).run P W=.ok () (ZbV W g (cur.setIfInBounds i v)):=by
      rw [← hset,run_store P W _ v .plain ho.1,hc,hf]
      rfl
    simp only [storeCells,Sem.run_bind,hadd,hst,Result.andThen_ok]
    exact ih
@[go_sem high] theorem ZE3 {P:Program} (W:World) (b:Nat) (vs:List Value) (ho:vs.all (fun v=>v.oneCell')=true) (h:Zc6 W b vs.length=true):(storeCells ⟨b,0,none⟩ vs 0).run P W=.ok () (ZbV W b vs.toArray):=by
  unfold Zc6 at h
  split at h
  · rename_i cs T fr hb
    simp only [Bool.and_eq_true,beq_iff_eq] at h
    obtain ⟨h1,rfl⟩:=h
    have:=Zjg (P:=P) b T vs 0 cs W hb (by omega) ho
    simpa using this
  · cases h
section
variable {P:Program} (w:World) (a:Addr) (v:Value) (vs:List Value) (i:Nat)
@[go_sem low] theorem ZE4 (_:(w.cell? (a.add i)).isSome=true):(storeCells a (v :: vs) i).run P w=((do store (a.add i) v; storeCells a vs (i + 1):Sem Unit)).run P w:=rfl
@[go_sem low] theorem ZE5 (E:Array Obj) (d:Nat):(storeCells a (v :: vs) i).run P (ext w E d)=((do store (a.add i) v; storeCells a vs (i + 1):Sem Unit)).run P (ext w E d):=rfl
@[go_sem low] theorem ZCC (o:Obj):(storeCells a (v :: vs) i).run P (w.alloc o)=((do store (a.add i) v; storeCells a vs (i + 1):Sem Unit)).run P (w.alloc o):=rfl
@[go_sem low] theorem ZEL:(storeCells a (v :: vs) i).run P w.drew=((do store (a.add i) v; storeCells a vs (i + 1):Sem Unit)).run P w.drew:=rfl
@[go_sem low] theorem ZCD (k:Nat):(storeCells a (v :: vs) i).run P (w.drewN k)=((do store (a.add i) v; storeCells a vs (i + 1):Sem Unit)).run P (w.drewN k):=rfl
@[go_sem low] theorem ZE6 (p:Addr) (u:Value):(storeCells a (v :: vs) i).run P (w.setCell p u)=((do store (a.add i) v; storeCells a vs (i + 1):Sem Unit)).run P (w.setCell p u):=rfl
end
@[go_sem] theorem ZE7 {P:Program} (W:World) (a:Addr) (i:Nat):(storeCells a [] i).run P W=.ok () W:=rfl
class GoRep (α:Type) where
  n:Nat
  pos:0 < n
  rep:World→α→List Value→List Nat→Prop
  len:∀ {w x cs F},rep w x cs F→cs.length=n
  keep:∀ {w w' x cs F},rep w x cs F→(∀ b ∈ F,w'.heap[b]?=w.heap[b]?)→rep w' x cs F
  lt:∀ {w x cs F},rep w x cs F→∀ b ∈ F,b < w.heap.size
  one:∀ {w x cs F},rep w x cs F→cs.all (fun v=>v.oneCell')=true
  bulk:α→Nat
open GoRep (rep bulk)
def I64 (x:Int):Prop:=(Lit.int .i64 x).wf=true
theorem I64.lo {x:Int} (h:I64 x) : -9223372036854775808≤x:=(bounds_i64 h).1
theorem I64.hi {x:Int} (h:I64 x):x≤9223372036854775807:=(bounds_i64 h).2
theorem I64.mk {x:Int} (h1 : -9223372036854775808≤x) (h2:x≤9223372036854775807):I64 x:=WalkArith.wf_i64 ⟨h1,h2⟩
instance:GoRep Int where
  n:=1
  pos:=by omega
  rep _ x cs F:=cs=[.int .i64 x]∧I64 x∧F=[]
  len h:=by rw [h.1]; rfl
  keep h _:=h
  lt h:=by rw [h.2.2]; simp
  one h:=by rw [h.1]; rfl
  bulk _:=0
instance:GoRep Bool where
  n:=1
  pos:=by omega
  rep _ x cs F:=cs=[.bool x]∧F=[]
  len h:=by rw [h.1]; rfl
  keep h _:=h
  lt h:=by rw [h.2]; simp
  one h:=by rw [h.1]; rfl
  bulk _:=0
instance:GoRep ByteArray where
  n:=1
  pos:=by omega
  rep _ x cs F:=cs=[.string x]∧x.size≤maxLen∧F=[]
  len h:=by rw [h.1]; rfl
  keep h _:=h
  lt h:=by rw [h.2.2]; simp
  one h:=by rw [h.1]; rfl
  bulk x:=x.size
instance {α β:Type} [GoRep α] [GoRep β]:GoRep (α × β) where
  n:=GoRep.n α + GoRep.n β
  pos:=by have:=GoRep.pos (α:=α); omega
  rep w x cs F:=∃ c1 c2 F1 F2,rep w x.1 c1 F1∧rep w x.2 c2 F2∧cs=c1 ++ c2∧F=F1 ++ F2
  len h:=by
    obtain ⟨c1,c2,F1,F2,h1,h2,rfl,rfl⟩:=h
    rw [List.length_append,GoRep.len h1,GoRep.len h2]
  keep h hk:=by
    obtain ⟨c1,c2,F1,F2,h1,h2,e1,e2⟩:=h
    subst e2
    exact ⟨c1,c2,F1,F2,GoRep.keep h1 (fun b hb=>hk b (by simp [hb])),GoRep.keep h2 (fun b hb=>hk b (by simp [hb])),e1,rfl⟩
  lt h b hb:=by
    obtain ⟨c1,c2,F1,F2,h1,h2,e1,e2⟩:=h
    subst e2
    rcases List.mem_append.1 hb with hb | hb
    · exact GoRep.lt h1 b hb
    · exact GoRep.lt h2 b hb
  one h:=by
    obtain ⟨c1,c2,F1,F2,h1,h2,e1,e2⟩:=h
    rw [e1,List.all_append,GoRep.one h1,GoRep.one h2]
    rfl
  bulk x:=bulk x.1 + bulk x.2
theorem ZkU {w w' : World} {b:Nat} (h:w'.heap[b]?=w.heap[b]?) (o:Nat):w'.cell? ⟨b,o,none⟩=w.cell? ⟨b,o,none⟩:=by unfold World.cell?; rw [h]
theorem Zo1 {w w' : World} {b:Nat} (h:w'.heap[b]?=w.heap[b]?) (o:Nat):w'.frozen? ⟨b,o,none⟩=w.frozen? ⟨b,o,none⟩:=by unfold World.frozen?; rw [h]
theorem ZCp {w:World} {b o:Nat} {u:Value} (h:w.cell? ⟨b,o,none⟩=some u):b < w.heap.size:=by
  rcases Nat.lt_or_ge b w.heap.size with hlt | hge
  · exact hlt
  · unfold World.cell? at h
    rw [Array.getElem?_eq_none hge] at h
    simp at h
def ZcV (w:World) (b off:Nat) (cs:List Value):Prop:=∀ j u,cs[j]?=some u→w.cell? ⟨b,off + j,none⟩=some u∧w.frozen? ⟨b,off + j,none⟩=false
theorem ZcV.keep {w w' : World} {b off:Nat} {cs:List Value} (h:ZcV w b off cs) (hb:w'.heap[b]?=w.heap[b]?):ZcV w' b off cs:=fun j u hj=>by
  rw [ZkU hb,Zo1 hb]
  exact h j u hj
def Zb8 {α:Type} [GoRep α] (w:World) (b off:Nat):List α→List Nat→Prop
  | [],G=>G=[]
  | x :: xs,G=>∃ cs G1 G2,rep w x cs G1∧ZcV w b off cs∧Zb8 w b (off + GoRep.n α) xs G2∧G=G1 ++ G2
section
variable {α:Type} [GoRep α]
theorem Zb8.keep {w w' : World} {b:Nat} {xs:List α}:∀ {off:Nat} {G:List Nat},Zb8 w b off xs G→w'.heap[b]?=w.heap[b]?→(∀ g ∈ G,w'.heap[g]?=w.heap[g]?)→Zb8 w' b off xs G:=by
  induction xs with
  | nil=>intro off G h _ _; exact h
  | cons x xs ih =>
    intro off G h hb hG
    obtain ⟨cs,G1,G2,h1,h2,h3,rfl⟩:=h
    exact ⟨cs,G1,G2,GoRep.keep h1 (fun g hg=>hG g (by simp [hg])),h2.keep hb,ih h3 hb (fun g hg=>hG g (by simp [hg])),rfl⟩
theorem Zb8.lt {w:World} {b:Nat} {xs:List α}:∀ {off:Nat} {G:List Nat},Zb8 w b off xs G→∀ g ∈ G,g < w.heap.size:=by
  induction xs with
  | nil=>intro off G h g hg; rw [show G=[] from h] at hg; simp at hg
  | cons x xs ih =>
    intro off G h g hg
    obtain ⟨cs,G1,G2,h1,h2,h3,rfl⟩:=h
    rcases List.mem_append.1 hg with hg | hg
    · exact GoRep.lt h1 g hg
    · exact ih h3 g hg
theorem Zb8.blk {w:World} {b off:Nat} {xs:List α} {G:List Nat} (h:Zb8 w b off xs G) (hx:xs ≠ []):b < w.heap.size:=by
  cases xs with
  | nil=>exact absurd rfl hx
  | cons x xs =>
    obtain ⟨cs,G1,G2,h1,h2,_,_⟩:=h
    have hl:0 < cs.length:=by rw [GoRep.len h1]; exact GoRep.pos
    have hc:=h2 0 cs[0] (List.getElem?_eq_getElem hl)
    exact ZCp hc.1
theorem Zb8.get {w:World} {b:Nat} {xs:List α}:∀ {off:Nat} {G:List Nat} (k:Nat) (x:α),Zb8 w b off xs G→xs[k]?=some x →
    ∃ cs Gk,rep w x cs Gk∧(∀ g ∈ Gk,g ∈ G)∧ZcV w b (off + k * GoRep.n α) cs:=by
  induction xs with
  | nil=>intro off G k x _ h; simp at h
  | cons y xs ih =>
    intro off G k x h hk
    obtain ⟨cs,G1,G2,h1,h2,h3,rfl⟩:=h
    cases k with
    | zero =>
      simp at hk
      subst hk
      exact ⟨cs,G1,h1,fun g hg=>by simp [hg],by simpa using h2⟩
    | succ k =>
      simp at hk
      obtain ⟨cs',Gk,a1,a2,a3⟩:=ih k x h3 hk
      refine ⟨cs',Gk,a1,fun g hg=>by simp [a2 g hg],?_⟩
      rw [show off + (k + 1) * GoRep.n α=off + GoRep.n α + k * GoRep.n α from by rw [Nat.add_mul]; omega]
      exact a3
end
def ZkV {α:Type} [GoRep α] (w:World) (xs:List α) (A:Option Addr) (c:Nat) (F:List Nat):Prop :=
  xs.length≤c∧c≤maxLen∧((xs=[]∧F=[])∨(xs ≠ []∧∃ b off G,A=some ⟨b,off,none⟩∧F=b :: G∧Zb8 w b off xs G))
def Zar {α:Type} [GoRep α]:List α→Nat
  | []=>0
  | x :: xs=>bulk x + Zar xs
theorem Zl8 {α:Type} [GoRep α] (xs ys:List α):Zar (xs ++ ys)=Zar xs + Zar ys:=by
  induction xs with
  | nil=>simp [Zar]
  | cons x xs ih=>simp [Zar,ih]; omega
instance {α:Type} [GoRep α]:GoRep (List α) where
  n:=1
  pos:=by omega
  rep w xs cs F:=∃ A c,cs=[.slice A xs.length c]∧ZkV w xs A c F
  len h:=by obtain ⟨A,c,rfl,_⟩:=h; rfl
  keep h hk:=by
    obtain ⟨A,c,e,h1,h2,h3⟩:=h
    refine ⟨A,c,e,h1,h2,?_⟩
    rcases h3 with h3 | ⟨hx,b,off,G,rfl,rfl,hr⟩
    · exact Or.inl h3
    · exact Or.inr ⟨hx,b,off,G,rfl,rfl,hr.keep (hk b (by simp)) (fun g hg=>hk g (by simp [hg]))⟩
  lt h b hb:=by
    obtain ⟨A,c,e,h1,h2,h3⟩:=h
    rcases h3 with ⟨_,rfl⟩ | ⟨hx,b',off,G,rfl,rfl,hr⟩
    · simp at hb
    · rcases List.mem_cons.1 hb with rfl | hb
      · exact hr.blk hx
      · exact hr.lt b hb
  one h:=by obtain ⟨A,c,rfl,_⟩:=h; rfl
  bulk xs:=xs.length + Zar xs
section
variable {α:Type} [GoRep α] {w:World} {x:α} {cs:List Value} {F:List Nat}
theorem ZEM (h:rep w x cs F) (o:Obj):rep (w.alloc o) x cs F:=GoRep.keep h (fun b hb=>Below.heap_alloc w o b (GoRep.lt h b hb))
theorem ZHY (h:rep w x cs F) (E:Array Obj) (d:Nat):rep (ext w E d) x cs F:=GoRep.keep h (fun b hb=>ZcI w E d (GoRep.lt h b hb))
theorem ZJD (h:rep w x cs F):rep w.drew x cs F:=GoRep.keep h (fun _ _=>rfl)
theorem ZI4 {w' : World} (h:rep w x cs F) (hb:Below w.heap.size w w'):rep w' x cs F:=GoRep.keep h (fun b hm=>hb.block b (GoRep.lt h b hm))
theorem ZJ7 (h:rep w x cs F) {p:Addr} (hp:p.block ∉ F) (u:Value):rep (w.setCell p u) x cs F:=GoRep.keep h (fun b hb=>Below.heap_setCell w p u b (fun e=>hp (e ▸ hb)))
theorem ZJ8 {y:Int}:rep w y cs F↔cs=[.int .i64 y]∧I64 y∧F=[]:=Iff.rfl
theorem ZJE {y:Bool}:rep w y cs F↔cs=[.bool y]∧F=[]:=Iff.rfl
theorem ZJ9 {y:ByteArray}:rep w y cs F↔cs=[.string y]∧y.size≤maxLen∧F=[]:=Iff.rfl
theorem ZJF {β:Type} [GoRep β] {y:α × β}:rep w y cs F↔∃ c1 c2 F1 F2,rep w y.1 c1 F1∧rep w y.2 c2 F2∧cs=c1 ++ c2∧F=F1 ++ F2:=Iff.rfl
theorem ZJG {xs:List α}:rep w xs cs F↔∃ A c,cs=[.slice A xs.length c]∧ZkV w xs A c F:=Iff.rfl
end
def RN {α:Type} [GoRep α] (mk:List Value→Value) (x:α) (w:World) (e:Ending) (w' : World):Prop :=
  ∃ cs F E d,e=.returned (mk cs)∧w'=ext w E d∧rep w' x cs F∧F.Nodup∧∀ b ∈ F,w.heap.size≤b
def mkA (cs:List Value):Value:=.agg cs.toArray
def mk1 (cs:List Value):Value:=cs.headD undef
end Go.Proofs.YtkompmgleojmlaaGreat
