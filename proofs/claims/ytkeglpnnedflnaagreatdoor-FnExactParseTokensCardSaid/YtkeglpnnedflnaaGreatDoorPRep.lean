import Derived.Test.YtkeglpnnedflnaaGreatDoorProg
import Derived.KernelRfl
import GoSem.Claim
import GoSem.ClaimJoined
import GoSem.ClaimMapViews
import Derived.JoinedTies
import Derived.WalkKit
import Derived.ProofKit
import Derived.OpenShut
import Derived.BigQuiet
import Derived.StillTailTactics
import Derived.RegionTactic
import Derived.Deep.RegionHeld3
import Derived.Deep.RegionWith
import Derived.ChangeAlike
import Derived.Deep.QuietTactic
import Derived.Lib.Hide
import Derived.WalkLawsBesides
import Derived.WalkSpells
import Derived.Lib.SmallJoins
import Derived.Deep.Slices
import Derived.Deep.Draws
import Derived.Laws.OwnMore
import Derived.ShutString
namespace Go.Proofs.YtkeglpnnedflnaaGreatDoor
theorem ZbY {P:Prop} (h:P:=by
 simp only [q1,q2,q3,q4,q5,q6,q7,cond_true,cond_false,Prod.mk.injEq,true_and,and_true] at e h
 simp only [Bool.cond_false_left,Bool.cond_false_right,Bool.and_eq_true,Bool.not_not,ZdH] at h
 refine ⟨ht,hk,?_,?_,?_,?_,?_,?_,?_,?_,?_,?_,?_,?_,?_,?_⟩ <;> (simp_all <;> first | omega | (rw [Zaz] at *; omega) | (first | exact e.2.1.symm.trans e.1 | exact e.2.2.2.2.2.2.1.symm.trans e.1 | exact e.2.2.2.2.2.1.symm.trans e.1 | exact e.2.2.2.2.1.symm.trans e.1 | exact e.2.2.2.1.symm.trans e.1 | exact e.2.2.1.symm.trans e.1) | exact e.2.2.2.2.2.2.symm.trans e.1 | exact e.2.2.2.2.2.symm.trans e.1)):P:=h
theorem ZuQ {P:Prop} (h:P:=by
 clear ep es
 simp only [Zd9,ZeS,hu,ec,ef,eI,true_and,and_true,not_true,not_false,not_true_eq_false,not_false_eq_true,false_implies,true_implies,Zdj,eq_self]
 repeat' (with_reducible first | exact trivial | apply And.intro | intro _)
 all_goals first
  | (with_reducible trivial)
  | omega
  | (with_reducible assumption)
  | exact h0
  | exact hp
  | exact ZNT
  | exact ZQE h0 (by with_reducible assumption) (by with_reducible assumption)
  | exact ZQF h0 (by with_reducible assumption) (by with_reducible assumption)
  | exact pcp h0
  | exact ZNU (ZK0 h0 (by with_reducible assumption) (by with_reducible assumption) (by with_reducible assumption)) (by with_reducible assumption) (by with_reducible assumption)
  | exact ZNU (ZK1 (by with_reducible assumption)).symm (by with_reducible assumption) (by with_reducible assumption)
  | exact ZNU (ZK2 (by with_reducible assumption)).symm (by with_reducible assumption) (by with_reducible assumption)
  | (rw [ZJM (ZPa (by with_reducible assumption))]; rfl)
  | exact (ZPa (by with_reducible assumption)).symm
  | (rw [ZJM (ZJN (ZK0 h0 (by with_reducible assumption) (by with_reducible assumption) (by with_reducible assumption)) (by with_reducible assumption))]; rfl)
  | exact (ZJN (ZK0 h0 (by with_reducible assumption) (by with_reducible assumption) (by with_reducible assumption)) (by with_reducible assumption)).symm
  | (rw [ZJM (ZJN (ZK1 (by with_reducible assumption)).symm (by with_reducible assumption))]; rfl)
  | exact (ZJN (ZK1 (by with_reducible assumption)).symm (by with_reducible assumption)).symm
  | (rw [ZJM (ZJN (ZK2 (by with_reducible assumption)).symm (by with_reducible assumption))]; rfl)
  | exact (ZJN (ZK2 (by with_reducible assumption)).symm (by with_reducible assumption)).symm
  | (rw [ZJM (ZPb rfl (by with_reducible assumption))]; rfl)
  | exact (ZPb rfl (by with_reducible assumption)).symm
  | (rw [ZNS (ZJO (ZK0 h0 (by with_reducible assumption) (by with_reducible assumption) (by with_reducible assumption)) (by with_reducible assumption) (by with_reducible assumption) (by with_reducible assumption))]; done)
  | exact (ZJO (ZK0 h0 (by with_reducible assumption) (by with_reducible assumption) (by with_reducible assumption)) (by with_reducible assumption) (by with_reducible assumption) (by with_reducible assumption)).symm
  | (rw [ZNS (ZJO (ZK1 (by with_reducible assumption)).symm (by with_reducible assumption) (by with_reducible assumption) (by with_reducible assumption))]; done)
  | exact (ZJO (ZK1 (by with_reducible assumption)).symm (by with_reducible assumption) (by with_reducible assumption) (by with_reducible assumption)).symm
  | (rw [ZNS (ZJO (ZK2 (by with_reducible assumption)).symm (by with_reducible assumption) (by with_reducible assumption) (by with_reducible assumption))]; done)
  | exact (ZJO (ZK2 (by with_reducible assumption)).symm (by with_reducible assumption) (by with_reducible assumption) (by with_reducible assumption)).symm):P:=h
theorem ZuR {P:Prop} (h:P:=by
 obtain rfl:=f4 (by decide)
 obtain rfl:=(f6 (by decide)).1
 obtain rfl:=(f6 (by decide)).2
 obtain rfl:=f8 (by decide)
 obtain rfl:=f10 (by decide)
 exact Zo6):P:=h
theorem ZoO {P:Prop} (h:P:=by
 obtain rfl:=f8 (by decide)
 obtain rfl:=f10 (by decide)
 exact Zo6):P:=h
theorem ZuS {P:Prop} (h:P:=by
 refine Eq.mpr (β:=T3 ((∃ q:Nat,(roJ s q)∧lxs [.c (.str s), .tp []] (True∧True∧vI 1 ((q + 1:Nat):Int)∧TN 9 True)∧pt (True))∧∀ y0:Nat,(roJ s y0)→T2 (bif leI ((y0 + 1:Nat):Int) 3 then True∧pt True∧T2 (bif eqS (opT ((y0 + 1:Nat):Int)) s then T3 (pt ((cI ((y0 + 1:Nat):Int) (opV s)∧cB true (opB s)∧True))) else T3 (∃ y0' : Nat,(roJ s y0')∧(3 - y0') < (3 - y0)∧lxs [.c (.str s), .tp []] (True∧True∧vI (w64 (((y0 + 1:Nat):Int) + 1)) ((y0' + 1:Nat):Int)∧TN 9 True)∧pt (True))) else T2 (pt ((cI 0 (opV s)∧cB false (opB s)∧True)))))) (by kernel_rfl) ?_
 unfold T2 T3
 simp only [Zbf,Zaz,Zbi,ZaC,Bool.not_true,Bool.not_false,Zdj,eq_self]
 repeat' (with_reducible first | exact trivial | apply And.intro | intro _)
 all_goals first
  | (with_reducible trivial)
  | omega
  | (with_reducible assumption)
  | exact ZQh
  | exact ZO0 (by with_reducible assumption) (by with_reducible assumption) (by with_reducible assumption)
  | exact (ZQi (by with_reducible assumption) (by with_reducible assumption) (by with_reducible assumption)).symm
  | exact ZQj (by with_reducible assumption) (by with_reducible assumption) (by with_reducible assumption)
  | exact (ZO1 (by with_reducible assumption) (by with_reducible assumption)).symm
  | exact (ZQk (by with_reducible assumption) (by with_reducible assumption)).symm):P:=h
theorem ZuT {P:Prop} (h:P:=by
 have hkk:k=s.size:=by omega
 subst hkk
 have g0:(ext (w.alloc (.cells arr 5 (arr.size,arr.size + 1))) #[] d).heap[w.heap.size]?=some (.cells arr 5 (arr.size,arr.size + 1)):=by
  exact Zo7
 have hlen:(upT s).data.toList.length=s.size:=ZmH s
 have hcv:(convert 22 9 (.slice (some ⟨w.heap.size,0,none⟩) s.size cap)).run Tryz.prog (ext (w.alloc (.cells arr 5 (arr.size,arr.size + 1))) #[] d)=.ok (.string (upT s)) (ext (w.alloc (.cells arr 5 (arr.size,arr.size + 1))) #[] d):=by
  have h:=run_convert_bytes_back (P:=Tryz.prog) (ext (w.alloc (.cells arr 5 (arr.size,arr.size + 1))) #[] d) 22 9 5 ⟨w.heap.size,0,none⟩ cap (upT s).data.toList Tryz.underlying22 Tryz.underlying5 Tryz.underlying9 (fun j hj=>by
   rw [ZkD]
   unfold World.cell?
   simp only [Nat.zero_add]
   rw [g0]
   have hj' : j < s.size:=by rw [hlen] at hj; exact hj
   show arr[j]?=_
   rw [hu.2 j hj',if_pos hj',← ZG7 hj']
   unfold Zap
   rw [List.getD_eq_getElem?_getD,List.getElem?_eq_getElem hj]
   rfl)
  rw [hlen] at h
  exact h
 clear hu g0
 go_wp2
 go_ret
 exact ⟨rfl,(by repeat (first | exact Below.refl _ _ | refine ZGM ?_ _ | refine Zwp ?_ _ _ | refine Below.drew ?_ | assumption | refine ZJB ?_ (by assumption)))⟩):P:=h
theorem ZkJ {P:Prop} (h:P:=by
 first
  | (with_reducible rfl)
  | (refine Eq.trans ?_ (mrkX_Session _ _ (by omega)).symm; with_reducible rfl)
  | (repeat' (refine Prod.ext ?_ ?_)
     all_goals first
      | (with_reducible rfl)
      | (simp only [GXA]; first | done | omega | (congr 1; done) | (congr 1; omega) | (rw [Zcu (by omega),decide_eq_decide]; omega))
      | rfl)):P:=h
theorem ZkK {P:Prop} (h:P:=by
 simp only [Zaz,Zbi,ZaC,Bool.not_true,Bool.not_false,Zdj,eq_self]
 repeat' (with_reducible first | exact trivial | apply And.intro | intro _)
 all_goals rfl):P:=h
theorem Zh2 {P:Prop} (h:P:=by
 rw [hc] at h
 rw [Bool.and_eq_true] at hc
 obtain rfl:=Nat.eq_of_beq_eq_true hc.1
 obtain ⟨h1,h2,h3⟩:=ZoC hM hx (show ZbD M _ l=_ from h) (Nat.eq_of_beq_eq_true hc.2) hr
 exact ⟨_,h1,fun z=>by omega,h2,h3⟩):P:=h
theorem Zh3 {P:Prop} (h:P:=by
 by_cases hl:q < acc.length
 ·rw [List.getElem?_append_left hl] at hq; exact hacc q u hq
 ·rw [List.getElem?_append_right (by omega)] at hq
  have:=hu1 _ u hq
  rwa [show acc.length + (q - acc.length)=q by omega] at this):P:=h
theorem ZoP {P:Prop} (h:P:=by
 repeat' (with_reducible first | exact trivial | apply And.intro | intro _)
 all_goals exact Zwn):P:=h
theorem Zh4 {P:Prop} (h:P:=by
 obtain rfl:=Option.some.inj hc'
 intro W' E' x vs gr hr
 obtain ⟨va,r,rfl,h1,hnil⟩:=hr
 obtain rfl:r=[]:=hnil
 exact hc W' E' x.1 va gr h1):P:=h
theorem ZkL {P:Prop} (h:P:=by
 simp only [SIA,eq_self]
 repeat' (first | apply And.intro | intro _)
 all_goals (first | trivial | (rw [Bool.eq_iff_iff]; simp_all [Prod.ext_iff,EQA]; done) | (simp_all [Prod.ext_iff,EQA]; done) | omega)):P:=h
theorem ZoQ {P:Prop} (h:P:=by
 repeat' (first | apply And.intro | intro _)
 all_goals first
  | trivial
  | omega
  | contradiction
  | (refine ⟨k + 1,hlt,by omega,?_,?_⟩ <;> first | omega | exact Zbm (by unfold maxLen; omega))
  | exact Eq.symm (by assumption)
  | (exfalso; simp_all; done)):P:=h
theorem ZuU {P:Prop} (h:P:=by
 rw [List.getElem?_set_ne hqi] at hb he'
 by_cases hqj:q ∈ js
 ·have hql:q < M.length:=by
   obtain ⟨_,_,_,_,h⟩:=hj q hqj
   exact (List.getElem?_eq_some_iff.1 h).1
  rw [Zbq hqj hql] at hb
  obtain rfl:=Option.some.inj hb
  exact .inr (Zgv hqj he')
 ·rw [Za2 (fun k hk e=>hqj (by rw [← e]; exact hk))] at hb
  rw [Zbh (fun k hk e=>hqj (by rw [← e]; exact hk))] at he'
  exact .inl ⟨hb,he',keptO q e' he' (fun h=>hqi h.symm)⟩):P:=h
theorem ZoR {P:Prop} (h:P:=by
 have h2:=Zll evW e evW.length
 have h3:evW.length=4:=rfl
 exact Zwk):P:=h
theorem Zc8 {P:Prop} (h:P:=by
 simp only [List.append_assoc,List.cons_append,List.nil_append]):P:=h
theorem ZuV {P:Prop} (h:P:=by
 rw [Array.toList_map,e1,hvs]
 have h0:∀ (l:List Operand) (k:Nat),(List.map (fun x=>(x.2,x.1)) (l.zipIdx k)).map (fun x=>(x.1,a.eval x.2))=((l.map a.eval).zipIdx k).map fun x=>(x.2,x.1):=by
  intro l
  induction l with
  | nil=>intro k; rfl
  | cons x l ih=>intro k; simp [ih]
 have h1:=h0 (parts.toList.map (·.2)) 0
 rw [← e1]
 rw [← e1] at h1
 rw [h1,List.map_map]
 rfl):P:=h
theorem ZeB {P:Prop} (h:P:=by
 exact ⟨k + 1,⟨by omega,Zcf hk.2 hp⟩,by omega,Zbm (by omega)⟩):P:=h
theorem ZuW {P:Prop} (h:P:=by
 unfold Zjh
 cases ho:o.op <;> simp only [ho,Op.operands] at h ⊢
 case call c =>
  obtain ⟨cal,args,ts⟩:=c
  simp only [Call.operands] at h
  cases cal <;> simp only at h ⊢
  case value fn =>
   rw [h fn (by simp)]
   have hm:args.toList.map (evalA tm)=args.toList.map (evalA tm'):=List.map_congr_left fun x hx=>h x (by simp at hx ⊢; exact .inr hx)
   rw [hm]
  all_goals exact h2
 all_goals exact h2):P:=h
theorem ZuX {P:Prop} (h:P:=by
 have h0:∀ t:Tr,∀ l,okA T ops t true l=true→t.heads ≠ []:=fun t=>by
  induction t with
  | nil=>intro l h; simp [okA] at h
  | one i t _=>intro l _; simp [Tr.heads]
  | alt t u ih _=>intro l h; simp only [okA,Bool.true_or,Bool.true_and,Bool.and_eq_true] at h; simp [Tr.heads,ih l h.1]
 exact h0 (.alt t u) listed (by unfold okA; simp [hB.2.1,hB.2.2]) hh):P:=h
theorem ZuY {P:Prop} (h:P:=by
 simp only [Zbf,Zaz,Zbi,ZaC,Bool.not_true,Bool.not_false,Zdj,eq_self]
 simp only [Zif,hs,Bool.not_false,cond_true,Bool.false_eq_true,if_false,Zdj,eq_self]
 repeat' (with_reducible first | exact trivial | apply And.intro | intro _)
 all_goals first
  | (with_reducible trivial)
  | omega
  | (with_reducible assumption)
  | rfl
  | (exfalso; simp_all; done)):P:=h
theorem ZkM {P:Prop} (h:P:=by
 repeat' (first | split at h | (cases h; done))
 all_goals (injection h with h; injection h with h1 h2; injection h2 with h3 h4; exact h4.symm)):P:=h
theorem ZuZ {P:Prop} (h:P:=by
 obtain ⟨rfl,rfl⟩:=Prod.mk.inj (Option.some.inj h)
 obtain ⟨v,r,rfl,h1,h2⟩:=hr
 exact ⟨[v],r,rfl,⟨v,[],rfl,h1,rfl⟩,h2⟩):P:=h
theorem ZkN {P:Prop} (h:P:=by
 unfold isAgg
 simp only [Sem.run_bind,run_underlying hd,Result.andThen_ok]
 cases d <;> first | rfl | simp [Zzy] at had):P:=h
theorem ZoS {P:Prop} (h:P:=by
 have:(parts.toList.map fun p=>(p.1,evalA tm p.2))=parts.toList.map fun p=>(p.1,evalA tm' p.2):=List.map_congr_left fun p hp=>by rw [h p.2 (by simp at hp ⊢; exact ⟨p.1,hp⟩)]
 rw [this]):P:=h
theorem Zu0 {P:Prop} (h:P:=by
 split at h
 ·cases v with
  | none=>exact .inl ⟨rfl,rfl,by simpa using h.symm⟩
  | some u=>exact hr.elim
 ·rename_i k l'
  obtain rfl:l'=l:=by simpa using h
  cases v with
  | none=>exact hr.elim
  | some u=>have hr' : Zcd X W E M (.w (.c (.int k l'))) u:=hr; exact .inr ⟨k,by rw [(ZdS hr').1]⟩
 ·cases h):P:=h
theorem ZoT {P:Prop} (h:P:=by
 refine propext ⟨fun h=>?_,fun h=>?_⟩
 ·have h:=ZtX h
  injection h with h
  injection h with h _
  injection h
 ·cases h
  exact Zh9):P:=h
theorem Zu1 {P:Prop} (h:P:=by
 refine Eq.mpr (β:=T2 (pt True∧True∧rB (btw b 0 31) (ZaC b))) (by kernel_rfl) ?_
 simp only [SIA,eq_self]
 repeat' (first | apply And.intro | intro _)
 all_goals (first | trivial | (rw [Bool.eq_iff_iff]; simp_all [Prod.ext_iff,EQA,ZaC]; done) | (simp_all [Prod.ext_iff,EQA,ZaC]; done) | omega)):P:=h
theorem Zu2 {P:Prop} (h:P:=by
 refine Eq.mpr (β:=T5 (bif geI n lo then T5 (rB (leI n hi) (btw n lo hi)) else T2 (rB false (btw n lo hi)))) (by kernel_rfl) ?_
 simp only [Zdj,eq_self]
 repeat' (first | apply And.intro | intro _)
 all_goals first | trivial | omega | (simp [btw]; omega) | (rw [Bool.eq_iff_iff]; simp [btw,ZdH]; omega)):P:=h
theorem Zu3 {P:Prop} (h:P:=by
 obtain ⟨rfl,hb⟩:=he
 obtain ⟨h1,h2,h3,h4,h5⟩:=hb
 exact ⟨_,[],rfl,⟨by assumption,by assumption,by assumption,h4,fun b hb _=>h5 b hb,fun b hb=>by simp [foots] at hb,fun i e h=>by simp at h⟩,ZE8 (fun b hb'=>Nat.lt_of_lt_of_le (hX b hb') h4),rfl,by rw [ZmH]; exact hw⟩):P:=h
theorem Zu4 {P:Prop} (h:P:=by
 unfold ZbL
 rw [List.getElem?_append_right (by rw [hml]; exact Nat.le_refl _),hml,Nat.sub_self]
 refine ⟨Nat.le_refl _,fun _=>⟨⟨0,v,v.ownBlock.toList ++ G⟩,?_,rfl⟩⟩
 rw [List.getElem?_append_right (by rw [hkl,← hM.len]; exact Nat.le_refl _),hkl,← hM.len,Nat.sub_self]
 rfl):P:=h
theorem Zfw {P:Prop} (h:P:=by
 split at hn <;> first | exact ZaU hn | exact hn.elim):P:=h
theorem Zu5 {P:Prop} (h:P:=by
 refine propext ⟨fun h=>?_,fun h=>?_⟩
 ·have h:=ZtX h
  simp only [Blk.box.injEq,List.cons.injEq,AC.str.injEq,AC.int.injEq,AC.bool.injEq,eq_self,true_and,and_true] at h
  exact h
 ·obtain ⟨rfl,rfl,rfl,rfl,rfl,rfl,rfl,rfl,rfl⟩:=h
  exact Zh9):P:=h
theorem Zu6 {P:Prop} (h:P:=by
 have hs:=ZRm hi (ZRj hi h1 h2) hn
 refine ⟨(o ++ [sc6 r],sr6 r),hs.1,hs.2,?_,?_⟩
 ·rw [← he]
  show _=((re6 r).1,(re6 r).2.1,(re6 r).2.2 || !(bi6 r).2)
  unfold re6 bi6
  rw [e1]
 ·show _=o ++ [(kd6 (wd6 r) 4,nm6 r,(bi6 r).1)]
  unfold bi6
  rw [e1,e2]
  rfl):P:=h
theorem Zh5 {P:Prop} (h:P:=by
 simp only [if_neg hk]
 exact ⟨fun _ q=>absurd q hk,fun _=>⟨trivial,h⟩⟩):P:=h
theorem ZoU {P:Prop} (h:P:=by
 refine ⟨h.1,?_⟩
 have h2:=h.2
 unfold ZbL at h2 ⊢
 exact Zwl):P:=h
theorem ZkO {P:Prop} (h:P:=by
 obtain ⟨j,_,e,he,hb⟩:=ZkC hb
 exact Zaw.2 ⟨e,List.mem_of_getElem? he,hb⟩):P:=h
theorem Zu7 {P:Prop} (h:P:=by
 rw [List.getElem?_append_left hi] at hb
 rw [List.getElem?_append_left (by rw [← hM.len]; exact hi)] at he
 exact (hM.at_ i b e hb he).keep g hm hM.len (fun q hq=>Below.heap_alloc W _ q (hM.lt q (Zaw.2 ⟨e,List.mem_of_getElem? he,hq⟩)))):P:=h
theorem ZoV {P:Prop} (h:P:=by
 intro hb
 unfold Zlx at hb
 split at hb
 ·rfl
 ·exact hb.elim):P:=h
theorem ZkP {P:Prop} (h:P:=by
 obtain rfl:k=a.length:=by omega
 exact ⟨ZGC a m,by rw [List.take_length]⟩):P:=h
theorem ZoW {P:Prop} (h:P:=by
 unfold isAgg
 simp only [Sem.run_bind,run_underlying hu,Result.andThen_ok]
 cases d <;> first | rfl | simp [Zzy] at hd):P:=h
theorem Zu8 {P:Prop} (h:P:=by
 unfold Instr.sliceAt
 simp only [Sem.run_bind,run_underlying hu,Result.andThen_ok]
 unfold Instr.slice
 simp only [Sem.run_bind,run_underlying hu,Result.andThen_ok,Sem.run_pure,hsl,sizeOf,typeInfo,run_program,hinf,hsz]):P:=h
theorem Zu9 {P:Prop} (h:P:=by
 obtain ⟨rfl,rfl⟩:=Prod.mk.inj (Option.some.inj h)
 obtain ⟨v,r,rfl,h1,h2⟩:=hr
 exact ⟨[v],r,[],rfl,⟨by rw [h1.1],h1.2,rfl⟩,h2,by simp,fun i hi=>by rw [List.flatMap_cons]; exact List.mem_append_right _ hi⟩):P:=h
theorem Zgx {P:Prop} (h:P:=by
 exact ⟨fun q=>⟨fun x=>absurd x h,q⟩,fun q=>q.2⟩):P:=h
theorem Zva {P:Prop} (h:P:=by
 obtain ⟨rfl,rfl⟩:=Prod.mk.inj (Option.some.inj h)
 obtain ⟨v,r,rfl,h1,h2⟩:=hr
 exact ⟨[v],r,[],rfl,⟨by rw [h1.1],h1.2,rfl⟩,h2,by simp,fun h=>by rw [List.any_cons,Bool.or_eq_false_iff] at h; exact h.2⟩):P:=h
theorem Zvb {P:Prop} (h:P:=by
 refine hgoal.mono fun en W' hq=>?_
 obtain ⟨u,E',rfl,g,r,hv⟩:=hq
 refine ⟨u,E,rfl,ZhF g,Zim g hM,Zn3 g hM,?_⟩
 rw [hp] at hv
 exact ZnV (hsc _ _) hv):P:=h
theorem Zgy {P:Prop} (h:P:=by
 split
 ·exact Nat.le_refl _
 ·exact Nat.zero_le _):P:=h
theorem ZoX {P:Prop} (h:P:=by
 obtain ⟨rfl,rfl⟩:=Prod.mk.inj (Option.some.inj h)
 rfl):P:=h
theorem Zh6 {P:Prop} (h:P:=by
 split at ht
 ·rw [List.mem_singleton.1 ht]; rfl
 ·cases ht):P:=h
theorem Zvc {P:Prop} (h:P:=by
 obtain rfl:=Option.some.inj hc'
 intro W' E' x vs gr hr
 obtain ⟨va,r,rfl,h1,vb,r2,rfl,h2,hnil⟩:=hr
 obtain rfl:r2=[]:=hnil
 exact hc W' E' x.1 x.2.1 va vb gr h1 h2):P:=h
theorem Zvd {P:Prop} (h:P:=by
 refine ZbO fun x=>?_
 have c1:=ZhX (e':={ e with foot:=[] }) x he
 have c2:=ZhY hM x
 have c3:({ e with foot:=[] }:EB).foot.count x=0:=rfl
 omega):P:=h
theorem Zve {P:Prop} (h:P:=by
 repeat' (first | apply And.intro | intro _)
 all_goals first
  | trivial
  | omega
  | contradiction
  | exact Eq.symm (by assumption)
  | assumption
  | (exfalso; simp_all; done)):P:=h
theorem Zvf {P:Prop} (h:P:=by
 repeat' (first | apply And.intro | intro _)
 all_goals first
  | trivial
  | omega
  | (subst_vars; first | rfl | omega | (simp only [GXA]; first | done | omega | (congr 1; omega)))):P:=h
theorem Zvg {P:Prop} (h:P:=by
 have h:(bif (cellsOf t x).any slC then (match ZF3 t' (cellsOf t x) with | some (x,[])=>some x | _=>none) else none)=some d:=h
 rw [Zlz] at h
 cases h):P:=h
theorem Zvh {P:Prop} (h:P:=by
 rw [ByteArray.toList_eq,ByteArray.toList_eq,Bool.eq_iff_iff,beq_iff_eq,decide_eq_true_eq]
 exact ⟨fun h=>ByteArray.ext (Array.toList_inj.1 h),fun h=>by rw [h]⟩):P:=h
theorem Zh7 {P:Prop} (h:P:=by
 rw [List.length_singleton]
 unfold rowMax
 omega):P:=h
theorem Zvi {P:Prop} (h:P:=by
 rcases List.mem_cons.1 h with rfl | h
 ·exact .inl ⟨k,rfl,by rw [List.map_cons,List.sum_cons]; simp only [MTy.nb]; omega⟩
 ·exact up (inp:=[]) rfl rfl h):P:=h
theorem Zvj {P:Prop} (h:P:=by
 simp only [Bool.and_eq_true] at hc
 exact ZoB hM ht ho hu hp hc.1.1 (Nat.le_of_ble_eq_true hc.1.2) (Nat.eq_of_beq_eq_true hc.2.1) hc.2.2):P:=h
theorem Zvk {P:Prop} (h:P:=by
 rw [ZaV,List.mem_append] at hb
 rw [World.size_alloc]
 rcases hb with hb | hb
 ·have:=hM.lt b hb; omega
 ·simp [foots] at hb; omega):P:=h
theorem Zvl {P:Prop} (h:P:=by
 subst hqi
 obtain rfl:e=e':=Option.some.inj (he.symm.trans hq)
 exact ⟨e2,List.getElem?_set_self (by rw [hkl]; exact hilE),by rw [he2]⟩):P:=h
theorem Zvm {P:Prop} (h:P:=by
 unfold execOp
 simp only [ho,resolve,invoke,builtin,Sem.run_bind,Sem.run_pure,Result.andThen_ok,List.map_toArray,List.map_cons,List.map_nil,h]):P:=h
theorem ZoY {P:Prop} (h:P:=by
 rw [List.getElem?_append_left (List.getElem?_eq_some_iff.1 hM).1,hM]
 exact h):P:=h
theorem ZoZ {P:Prop} (h:P:=by
 unfold fl7 at h7
 rw [Bool.or_eq_true,ZaE,ZaE] at h7
 exact h7):P:=h
theorem Zvn {P:Prop} (h:P:=by
 rw [e] at e'
 injection e' with e'
 injection e' with e'
 injection e' with a1 a2
 exact ⟨a1,by simpa using a2⟩):P:=h
theorem Zvo {P:Prop} (h:P:=by
 have hp' : ¬ 0 < k:=by omega
 exact ⟨k + 1,⟨by omega,Zcf hk.2 (by simp [Zhe,p,hp'])⟩,by omega,Zbm (by unfold maxLen; omega)⟩):P:=h
theorem Zvp {P:Prop} (h:P:=by
 obtain ⟨v,E',M',r,rfl,g,m,hv,hend⟩:=hq
 obtain ⟨E2,g2,m2,hv2⟩:=ZJf (T:=T) m g.g hv hend
 exact ⟨v,E2,rfl,g2,m2,hv2⟩):P:=h
theorem Zvq {P:Prop} (h:P:=by
 rw [ZaV,List.mem_append] at hf
 rcases hf with hf | hf
 ·exact hM.xlt b hb hf
 ·have:=hM.xsz b hb; simp [foots] at hf; omega):P:=h
theorem ZkQ {P:Prop} (h:P:=by
 rw [List.count_append,List.count_append]
 omega):P:=h
theorem Zvr {P:Prop} (h:P:=by
 obtain ⟨rfl,rfl,rfl⟩:=Zgt h
 obtain ⟨v,r,rfl,h1,h2⟩:=hr
 exact ⟨[v],r,rfl,⟨by rw [h1.1],h1.2,rfl⟩,h2,by simp⟩):P:=h
theorem Zvs {P:Prop} (h:P:=by
 refine ZbE hM (Instr.fieldAt s (a.eval x) n) (by unfold execOp; rw [ho]) (by rw [h]; exact key _ _) ?_
 rw [Nat.add_assoc]
 exact r _):P:=h
theorem Zo0 {P:Prop} (h:P:=by
 split
 ·rw [List.length_append,List.length_singleton]; omega
 ·omega):P:=h
theorem Zo1 {P:Prop} (h:P:=by
 split at hn <;> first | exact ⟨[],(List.append_nil M).symm⟩ | exact hn.elim):P:=h
theorem Zvt {P:Prop} (h:P:=by
 show (tm.set d v).getD t .any=tm.getD t .any
 rw [List.getD_eq_getElem?_getD,List.getD_eq_getElem?_getD,List.getElem?_set_ne hne]):P:=h
theorem Zvu {P:Prop} (h:P:=by
 unfold execOp
 simp only [ho,hv,he,Sem.run_bind,hg,Result.andThen_ok,binOp,run_equal_slice_nil W t e A _ _ hu,Sem.run_pure]):P:=h
theorem Zvv {P:Prop} (h:P:=by
 revert h hr
 generalize enc1 t x=c
 intro hr h
 cases c <;> first | (simp [ZLW] at hr; done) | (simp [Zhz] at h; done)):P:=h
theorem Zo2 {P:Prop} (h:P:=by
 simp only [List.length_append,List.length_cons,List.length_nil]
 omega):P:=h
theorem Zvw {P:Prop} (h:P:=by
 exact ⟨⟨k + 1,arr,d,by omega,by simp,rfl,ZB3 HU.out hlt (by rw [HX.out]; unfold upI; rw [if_neg (by omega)])⟩,by simp [intOf]; omega⟩):P:=h
theorem Zvx {P:Prop} (h:P:=by
 exact ZbE hM (Instr.loadAt t (a.eval x)) (by unfold execOp; rw [ho]) (by rw [hv]; simpa [Instr.loadAt,Instr.sureAddr] using h1) h2):P:=h
theorem Zvy {P:Prop} (h:P:=by
 have h2:=congrArg List.length HD.out
 have h3:=ZAf k.toNat
 rw [List.length_append] at h2
 omega):P:=h
theorem Zvz {P:Prop} (h:P:=by
 obtain ⟨h1,_⟩:=Prod.mk.inj (Option.some.inj h)
 injection h1 with h1 _ _
 subst h1
 exact List.mem_singleton.2 rfl):P:=h
theorem Zh8 {P:Prop} (h:P:=by
 exact ⟨E2,g1.trans g2,m1.trans m2,r2⟩):P:=h
theorem ZvA {P:Prop} (h:P:=by
 simp only [SIA,eq_self]
 refine ⟨⟨fun _=>trivial,fun _ _=>trivial⟩,?_⟩
 rw [Bool.eq_iff_iff,ZeU]
 exact ZoK xs):P:=h
theorem ZvB {P:Prop} (h:P:=by
 simp only [if_pos hk]
 refine ⟨fun hb _=>ZAM h hb,fun hs=>?_⟩
 obtain ⟨h3,h4⟩:=Zru h (hs hk)
 exact ⟨h4,h3⟩):P:=h
theorem ZvC {P:Prop} (h:P:=by
 by_cases hj:b=j
 ·subst hj; rw [hb]; trivial
 ·rw [List.getElem?_set_ne hj]
  exact ZaK.refl W E M j):P:=h
theorem ZvD {P:Prop} (h:P:=by
 simp only [Array.toList_append,List.append_assoc]
 rw [← List.append_assoc,← hlen]
 exact List.take_left):P:=h
theorem Zo3 {P:Prop} (h:P:=by
 obtain rfl:k=a.length:=by omega
 rw [List.take_length]):P:=h
theorem ZvE {P:Prop} (h:P:=by
 obtain rfl:k=s.size:=by omega
 first | exact (Zs1 hk.2).symm | exact ⟨trivial,(Zs1 hk.2).symm⟩):P:=h
theorem ZvF {P:Prop} (h:P:=by
 have:=hk y h
 unfold Zhm at this
 rw [Bool.and_eq_true,Zaz,Zaz] at this
 exact this):P:=h
theorem ZvG {P:Prop} (h:P:=by
 have hmm:IntKind.i64.min=-9223372036854775808∧IntKind.i64.max=9223372036854775807:=by decide
 omega):P:=h
theorem ZvH {P:Prop} (h:P:=by
 rw [Zbq hij hi] at hb
 obtain rfl:=Option.some.inj hb
 exact .inr (Zgv hij he)):P:=h
theorem ZvI {P:Prop} (h:P:=by
 rcases h.2 with ⟨h1,h3⟩ | ⟨g',cap,cur,q1,_⟩
 ·exact ⟨none,0,by rw [h1,h3]⟩
 ·exact ⟨_,_,q1⟩):P:=h
theorem ZvJ {P:Prop} (h:P:=by
 rw [List.getElem?_set_ne hj] at hb'
 exact (hr.mem.at_ j b' e hb' he).keep g m hr.mem.len (fun _ _=>rfl)):P:=h
theorem ZvK {P:Prop} (h:P:=by
 obtain ⟨N,rfl,_,_,hb⟩:=he
 exact ⟨Zbb.of_below hb, .inr ⟨fun n h=>by (simp at h),_,_,_,rfl⟩⟩):P:=h
theorem ZvL {P:Prop} (h:P:=by
 refine (ZAR (T:=T) (fun _=>rfl)).trans ⟨fun q=>⟨fun _=>⟨q.1,hb⟩,q.2⟩,fun q=>⟨(q.1 h).1,q.2⟩⟩):P:=h
theorem ZvM {P:Prop} (h:P:=by
 simp only [SIA,eq_self]
 repeat' (first | apply And.intro | intro _)
 all_goals (first | trivial | omega)):P:=h
theorem ZvN {P:Prop} (h:P:=by
 have:=Zis (us:=us) (j:=j) (k:=k) (by simpa using h) (by omega)
 simpa [ZdF] using this):P:=h
theorem ZvO {P:Prop} (h:P:=by
 have:=Int.natAbs_tmod x y
 have h3:x.natAbs % y.natAbs≤x.natAbs:=Nat.mod_le _ _
 omega):P:=h
theorem ZvP {P:Prop} (h:P:=by
 have:=ZqO n (listed.setIfInBounds i true)
 show (ZqC T ops n _).len + 1≤_
 omega):P:=h
theorem ZvQ {P:Prop} (h:P:=by
 have h2:=ZDW hcl hj hd
 rw [ZJs (mem_ready.1 hr).1] at h2
 cases h2):P:=h
theorem ZvR {P:Prop} (h:P:=by
 unfold loadVar
 simp only [Sem.run_bind,hagg,Result.andThen_ok,if_true,hsz,hl',Sem.run_pure]):P:=h
theorem ZvS {P:Prop} (h:P:=by
 obtain rfl:u1=[]:=q2
 rw [List.append_nil] at e1
 rw [e1]
 exact q1):P:=h
theorem ZvT {P:Prop} (h:P:=by
 obtain ⟨A,c2,hsl⟩:=Zck h4
 injection hsl with _ hll _
 rw [hll,List.length_set]):P:=h
theorem ZvU {P:Prop} (h:P:=by
 rw [Bool.eq_iff_iff,decide_eq_true_eq,Zaz]
 exact ⟨fun q=>by omega,fun q=>⟨h,by omega⟩⟩):P:=h
theorem ZvV {P:Prop} (h:P:=by
 exact ⟨_,by simp only [binOp,Sem.run_bind,Zyl hn,Result.andThen_ok,Sem.run_pure],rfl⟩):P:=h
theorem ZvW {P:Prop} (h:P:=by
 have:evalA tm (.tmp t)=.w (.c (.bool g)):=hq
 rw [this] at he
 exact he):P:=h
theorem ZvX {P:Prop} (h:P:=by
 exact (ZAR (T:=T) (fun _=>rfl)).trans ⟨fun q=>⟨fun _=>q.1,q.2⟩,fun q=>⟨q.1 h,q.2⟩⟩):P:=h
theorem ZvY {P:Prop} (h:P:=by
 have:len * 1≤len * tt.n:=Nat.mul_le_mul_left _ hpos
 unfold maxLen
 omega):P:=h
theorem ZkR {P:Prop} (h:P:=by
 split
 ·exact Zcs h
 ·exact h):P:=h
theorem ZkS {P:Prop} (h:P:=by
 split
 ·exact ZcI 1 h
 ·exact h):P:=h
theorem ZkT {P:Prop} (h:P:=by
 unfold eqGuard
 cases op <;> rfl):P:=h
theorem ZvZ {P:Prop} (h:P:=by
 obtain rfl:k=List.length z.2.1:=by omega
 exact (ZwR h1 h2 h4 hk.2).symm):P:=h
theorem Zv0 {P:Prop} (h:P:=by
 rw [List.length_map,List.length_take,List.length_singleton]
 unfold rowMax
 omega):P:=h
theorem ZkU {P:Prop} (h:P:=by
 split
 ·exact ZfZ r 1
 ·rfl):P:=h
theorem Zv1 {P:Prop} (h:P:=by
 obtain ⟨T,cells,G,_,_,h6⟩:=h4
 rw [h6,h1]
 simp [Value.ownBlock]):P:=h
theorem Zv2 {P:Prop} (h:P:=by
 obtain ⟨e',q1,q2⟩:=(ZyG hkeys).2 hq
 exact absurd q2 (h2 e' q1)):P:=h
theorem Zv3 {P:Prop} (h:P:=by
 have:=(List.getElem?_eq_some_iff.1 hb).1
 simp [hml] at this
 omega):P:=h
theorem Zv4 {P:Prop} (h:P:=by
 rw [h1.1]
 exact ⟨none,0,rfl,Nat.le_refl _,Nat.zero_le _, .inl ⟨rfl,rfl⟩⟩):P:=h
theorem Zv5 {P:Prop} (h:P:=by
 rcases List.mem_append.1 hq with hq | hq
 ·simp [q1 q hq]
 ·simp [q2 q hq]):P:=h
theorem Zv6 {P:Prop} (h:P:=by
 rw [ZmV,Nat.zero_add,hlk]
 exact (congrFun (Option.map_id (α:=_)) _)):P:=h
theorem Zv7 {P:Prop} (h:P:=by
 by_cases q:c.2.1=11
 ·have:=h13 q; omega
 ·rw [h14 q]; decide):P:=h
theorem Zv8 {P:Prop} (h:P:=by
 have h3:a ≠ b:=fun e=>by subst e; omega
 simp [h1,h2,h3,h3.symm]):P:=h
theorem Zv9 {P:Prop} (h:P:=by
 rw [hM.len,List.getElem?_append_right (Nat.le_refl _),Nat.sub_self]
 rfl):P:=h
theorem Zwa {P:Prop} (h:P:=by
 rw [List.getD_eq_getElem?_getD,List.getElem?_eq_none (by omega)]
 rfl):P:=h
theorem Zwb {P:Prop} (h:P:=by
 rw [List.getElem?_take,if_pos hi,List.getElem?_take,if_pos hi]
 exact h):P:=h
theorem Zwc {P:Prop} (h:P:=by
 obtain ⟨e',q1,q2⟩:=g.blk i e h1
 exact ⟨e',q1,by rw [q2]; exact h2⟩):P:=h
theorem Zwd {P:Prop} (h:P:=by
 rw [show Int.toNat (r.2.1 + 1)=Int.toNat r.2.1 + 1 by omega]
 exact hd):P:=h
theorem Zwe {P:Prop} (h:P:=by
 simp only [List.any_cons,List.any_nil,Bool.cond_true_left,Bool.or_false]):P:=h
theorem Zo4 {P:Prop} (h:P:=by
 exact ⟨u,by rw [e]; simpa using q1,q2⟩):P:=h
theorem Zwf {P:Prop} (h:P:=by
 exact ⟨_,_,e,hr,hgr.1,hgr.2,Or.inr rfl,fun h=>absurd h hm⟩):P:=h
theorem ZkV {P:Prop} (h:P:=by
 exact ⟨l',by simpa using hq⟩):P:=h
theorem Zgz {P:Prop} (h:P:=by
 simp only [q1,q2,q3,q4,q5,q6,q7,cond_true,cond_false]
 obtain rfl:=f2 (by decide)
 exact ZuR):P:=h
theorem Zwg {P:Prop} (h:P:=by
 refine Eq.mpr (β:=T3 (pt (([(⟨#[115,101,101,110]⟩:ByteArray),(⟨#[97,110,115,119,101,114,101,100]⟩:ByteArray),(⟨#[102,108,97,103,103,101,100]⟩:ByteArray),(⟨#[100,101,108,101,116,101,100]⟩:ByteArray),(⟨#[100,114,97,102,116]⟩:ByteArray)])=ZaB))) (by kernel_rfl) ?_
 exact ZkK):P:=h
theorem Zwh {P:Prop} (h:P:=by
 refine Eq.mpr (β:=T3 (pt (([(⟨#[]⟩:ByteArray),(⟨#[115,101,108,101,99,116,101,100]⟩:ByteArray),(⟨#[112,101,114,115,111,110,97,108]⟩:ByteArray),(⟨#[115,117,98,116,114,101,101]⟩:ByteArray),(⟨#[98,111,120,101,115]⟩:ByteArray)])=scW))) (by kernel_rfl) ?_
 exact ZkK):P:=h
theorem Zwi {P:Prop} (h:P:=by
 refine Eq.mpr (β:=T3 (pt (([(⟨#[110,101,119]⟩:ByteArray),(⟨#[103,111,110,101]⟩:ByteArray),(⟨#[102,108,97,103,115]⟩:ByteArray),(⟨#[110,97,109,101,115]⟩:ByteArray)])=evW))) (by kernel_rfl) ?_
 exact ZkK):P:=h
theorem Zwj {P:Prop} (h:P:=by
 refine Eq.mpr (β:=True∧pt (true=true)∧T2 (pt True∧pt True∧T2 (rB (eqS (upT z) (upT w)) (eqS (upT z) (upT w))))) (by kernel_rfl) ?_
 exact Zpa):P:=h
theorem Zo5 {P:Prop} (h:P:=by
 simp only [q1,q2,q3,q4,q5,q6,q7,cond_true,cond_false]
 exact ZuR):P:=h
theorem Zo6 {P:Prop} (h:P:=by
 obtain rfl:=f12 (by decide)
 obtain rfl:=f14 (by decide)
 rfl):P:=h
theorem Zo7 {P:Prop} (h:P:=by
 show (w.heap.push _ ++ #[])[w.heap.size]?=_
 simp):P:=h
theorem Zwk {P:Prop} (h:P:=by
 simp only [List.length_append,List.length_cons,List.length_nil,Zny]
 unfold rowMax
 omega):P:=h
theorem Zh9 {P:Prop} (h:P:=by
 exact Eq.mpr ZeT trivial):P:=h
theorem Zo8 {P:Prop} (h:P:=by
 split at h
 ·exact ZuZ
 ·cases h):P:=h
theorem Zo9 {P:Prop} (h:P:=by
 split at h
 ·exact ZoX
 ·cases h):P:=h
theorem Zwl {P:Prop} (h:P:=by
 rw [(Zfi (E':=E') hl i).1,(Zfi (N:=N) hl i).2]
 exact h2):P:=h
theorem Zwm {P:Prop} (h:P:=by
 have h1:=ZE4 ho hf hlt
 have h4:=(ZMq h1.1 hn).1
 exact ZoR):P:=h
theorem Zwn {P:Prop} (h:P:=by
 first
  | (with_reducible trivial)
  | omega
  | (with_reducible assumption)):P:=h
theorem Zpa {P:Prop} (h:P:=by
 simp only [Zdj,eq_self]
 all_goals exact ZoP):P:=h
open Go.ChangeShapes Go.WideShapes Go.ChangeAt Go.RowKit Go.Joins Go.Deep
theorem ZEI {a b:ByteArray} (h:a=b):Ending.returned (.string a)=.returned (.string b):=by rw [h]
theorem ZMH {a b:Bool} (h:a=b):Ending.returned (.bool a)=.returned (.bool b):=by rw [h]
theorem ZOH {k:IntKind} {a b:Int} (h:a=b):Ending.returned (.int k a)=.returned (.int k b):=by rw [h]
theorem ZkW {H:Type} {enc:TypeId × Value→H} {P:Program} (hl:laidOutB P=true) {W W' : World} (hb:Below W.heap.size W W') :
 ∀ {ts:List TypeId} {vs:List Value} {ds:List (DataW H)} {ps:List MemPlace},
   (∀ t ∈ ts,P.readableRec t=true∧t < P.types.size)→DataW.TrodAll enc P W 0 (fun _=>true) true ts vs ds ps→(∀ x ∈ ps,x.block < W.heap.size) →
   DataW.TrodAll enc P W' 0 (fun b=>decide (b < W.heap.size)) true ts vs ds ps
 | [],[],[],_,_,h,_=>h
 | t :: ts,v :: vs,d :: ds,ps,hr,⟨p,q,h1,h2,e⟩,hlt=>by
  subst e
  have ht:=hr t (by simp)
  exact ⟨p,q,Below.trod hl ht.1 ht.2 h1 hb (fun x hx=>hlt x (by simp [hx])),ZkW hl hb (fun t' ht'=>hr t' (by simp [ht'])) h2 (fun x hx=>hlt x (by simp [hx])),rfl⟩
 | [],_ :: _,_,_,_,h,_=>by simp [DataW.TrodAll] at h
 | [],[],_ :: _,_,_,h,_=>by simp [DataW.TrodAll] at h
 | _ :: _,[],_,_,_,h,_=>by simp [DataW.TrodAll] at h
 | _ :: _,_ :: _,[],_,_,h,_=>by simp [DataW.TrodAll] at h
theorem ZGL {H:Type} {enc:TypeId × Value→H} {P:Program} {f:Func} {s:ChangeSpec} {W W' : World} {args:Array Value} {ds gs:List (DataW H)} {before:List MemPlace} {tb:TypeId}
 (hl:laidOutB P=true) (hr:(f.params.toList.all fun t=>P.readableRec t && decide (t < P.types.size))=true) (hres:f.resultTypes=#[tb]) (htb:P.underlying tb=some .bool) (hvars:s.vars=[])
 (hs:s.fn H ds={ results:=[.lit (.bool true)],args:=ds })
 (hW:DataW.Whole enc P f.params.toList s.vars false W args.toList ds gs before) (hb:Below W.heap.size W W'):s.post enc P f false true false false W args (.bool true) W':=by
 have hr:∀ t ∈ f.params.toList,P.readableRec t=true∧t < P.types.size:=fun t ht=>by
  have:=List.all_eq_true.1 hr t ht
  simpa using this
 have hlt:∀ p ∈ before,p.block < W.heap.size:=fun p hp=>hW.lt p hp
 obtain ⟨p,q,hA,hV,rfl,hz,hn⟩:=hW
 have hV':=hV
 rw [hvars] at hV
 obtain ⟨rfl,rfl⟩:=trodVars_none hV
 refine ⟨ds,[],p ++ [],[],p,[],⟨p,[],hA,hV',rfl,hz,hn⟩,?_,?_,?_,?_,fun h=>by cases h⟩
 ·rw [List.append_nil,hs,hres]
  exact trodAll_mk1 ⟨1,by simp [DataW.trod,htb,Value.cells]⟩
 ·rw [List.append_nil,hs]
  exact ZkW hl hb hr hA (fun x hx=>hlt x (by simp [hx]))
 ·rw [List.append_nil,hs,hvars]
  rfl
 ·exact World.keptBut_mono (fun x hx=>⟨hx,Or.inr (Or.inl (by simpa using hx))⟩) (hb.frame (· ∈ p ++ []))
def btw (n lo hi:Int):Bool:=decide (lo≤n) && decide (n≤hi)
theorem ZMI {n lo hi:Int} (h1:lo≤n) (h2:n≤hi):btw n lo hi=true:=by simp [btw,h1,h2]
theorem ZL5 {n lo hi:Int} (h:n < lo∨hi < n):btw n lo hi=false:=by simp [btw]; omega
theorem Zaz {n lo hi:Int}:btw n lo hi=true↔lo≤n∧n≤hi:=by simp [btw]
theorem Zbi {n lo hi:Int}:btw n lo hi=false↔n < lo∨hi < n:=by simp [btw]; omega
theorem ZRX {W w1:World} (hb:Below W.heap.size W w1):(∀ b o,b < W.heap.size→w1.cell? ⟨b,o,none⟩=W.cell? ⟨b,o,none⟩)∧(∀ b o,b < W.heap.size→w1.frozen? ⟨b,o,none⟩=W.frozen? ⟨b,o,none⟩) :=
 ⟨fun b o h=>hb.cell (p:=⟨b,o,none⟩) h,fun b o h=>hb.frozen (p:=⟨b,o,none⟩) h⟩
theorem ZJB {a b c:World} (h:Below a.heap.size a b) (k:Below b.heap.size b c):Below a.heap.size a c:=h.trans (k.mono h.size)
theorem ZGM {a b:World} (h:Below a.heap.size a b) (o:Obj):Below a.heap.size a (b.alloc o):=h.alloc h.size o
def ext (w:World) (E:Array Obj) (d:Nat):World:={ w with heap:=w.heap ++ E,drawn:=d }
section
variable (w:World) (E:Array Obj) (d:Nat)
@[simp,go_sem] theorem ZMJ:(ext w E d).heap.size=w.heap.size + E.size:=by simp [ext]
@[go_sem] theorem ZMK {n m:Nat} (a1:Nat) (h:n < m):(n < m + a1)=True:=by simp only [eq_iff_iff,iff_true]; omega
@[go_sem] theorem ZML {n m:Nat} (a1 a2:Nat) (h:n < m):(n < m + a1 + a2)=True:=by simp only [eq_iff_iff,iff_true]; omega
@[go_sem] theorem ZMM {n m:Nat} (a1 a2 a3:Nat) (h:n < m):(n < m + a1 + a2 + a3)=True:=by simp only [eq_iff_iff,iff_true]; omega
@[go_sem] theorem ZMN {n m:Nat} (a1 a2 a3 a4:Nat) (h:n < m):(n < m + a1 + a2 + a3 + a4)=True:=by simp only [eq_iff_iff,iff_true]; omega
@[go_sem] theorem ZMO {n m:Nat} (a1 a2 a3 a4 a5:Nat) (h:n < m):(n < m + a1 + a2 + a3 + a4 + a5)=True:=by simp only [eq_iff_iff,iff_true]; omega
@[go_sem] theorem ZMP {n m:Nat} (a1 a2 a3 a4 a5 a6:Nat) (h:n < m):(n < m + a1 + a2 + a3 + a4 + a5 + a6)=True:=by simp only [eq_iff_iff,iff_true]; omega
@[go_sem] theorem ZMQ {n m:Nat} (a1 a2 a3 a4 a5 a6 a7:Nat) (h:n < m):(n < m + a1 + a2 + a3 + a4 + a5 + a6 + a7)=True:=by simp only [eq_iff_iff,iff_true]; omega
@[go_sem] theorem ZMR {n m:Nat} (a1 a2 a3 a4 a5 a6 a7 a8:Nat) (h:n < m):(n < m + a1 + a2 + a3 + a4 + a5 + a6 + a7 + a8)=True:=by simp only [eq_iff_iff,iff_true]; omega
@[go_sem] theorem ZMS {n m:Nat} (a1 a2 a3 a4 a5 a6 a7 a8 a9:Nat) (h:n < m):(n < m + a1 + a2 + a3 + a4 + a5 + a6 + a7 + a8 + a9)=True:=by simp only [eq_iff_iff,iff_true]; omega
@[go_sem] theorem ZL6 {n m:Nat} (a1 a2 a3 a4 a5 a6 a7 a8 a9 a10:Nat) (h:n < m):(n < m + a1 + a2 + a3 + a4 + a5 + a6 + a7 + a8 + a9 + a10)=True:=by simp only [eq_iff_iff,iff_true]; omega
@[go_sem] theorem ZL7 {n m:Nat} (a1 a2 a3 a4 a5 a6 a7 a8 a9 a10 a11:Nat) (h:n < m):(n < m + a1 + a2 + a3 + a4 + a5 + a6 + a7 + a8 + a9 + a10 + a11)=True:=by simp only [eq_iff_iff,iff_true]; omega
@[go_sem] theorem ZL8 {n m:Nat} (a1 a2 a3 a4 a5 a6 a7 a8 a9 a10 a11 a12:Nat) (h:n < m):(n < m + a1 + a2 + a3 + a4 + a5 + a6 + a7 + a8 + a9 + a10 + a11 + a12)=True:=by simp only [eq_iff_iff,iff_true]; omega
theorem ZcA {n:Nat} (hn:n < w.heap.size):(ext w E d).heap[n]?=w.heap[n]?:=by
 show (w.heap ++ E)[n]?=_
 rw [Array.getElem?_append_left hn]
@[go_sem] theorem Zp4 (n i:Nat) (hn:n < w.heap.size):(ext w E d).cell? ⟨n,i,none⟩=w.cell? ⟨n,i,none⟩:=by
  unfold World.cell?
  rw [ZcA w E d hn]
@[go_sem] theorem ZCa (n i:Nat) (hn:n < w.heap.size):(ext w E d).frozen? ⟨n,i,none⟩=w.frozen? ⟨n,i,none⟩:=by
  unfold World.frozen?
  rw [ZcA w E d hn]
@[go_sem] theorem ZCb (n i:Nat) (v:Value) (hn:n < w.heap.size):(ext w E d).setCell ⟨n,i,none⟩ v=ext (w.setCell ⟨n,i,none⟩ v) E d:=by
  unfold World.setCell ext
  simp only
  congr 1
  apply Array.ext_getElem?
  intro k
  simp only [Array.getElem?_modify,Array.getElem?_append,Array.size_modify]
  by_cases hk:n=k
  ·subst hk
   simp [hn]
  ·simp [hk]
@[go_sem] theorem ZGN:(ext w E d).drew=ext w E (d + 1):=rfl
@[go_sem] theorem ZMT:ext w.drew E d=ext w E d:=rfl
@[go_sem] theorem ZL9 (n:Nat):ext (w.drewN n) E d=ext w E d:=rfl
@[go_sem] theorem ZEJ (n:Nat):(ext w E d).drewN n=ext w E (d + n):=rfl
theorem Zpb (E' : Array Obj) (d' : Nat):ext (ext w E d) E' d'=ext w (E ++ E') d':=by simp [ext]
theorem Zwo (o:Obj):(ext w E d).alloc o=ext w (E.push o) d:=by simp [ext,World.alloc]
theorem ZOI:w=ext w #[] w.drawn:=by simp [ext]
theorem Zwp {a b:World} (h:Below a.heap.size a b) (E:Array Obj) (d:Nat):Below a.heap.size a (ext b E d) :=
 h.trans ⟨rfl,rfl,rfl,by simp,fun k hk=>ZcA b E d (by have:=h.size; omega)⟩
theorem Zia {w w1:World} (h:Below w.heap.size w w1):∃ E d,w1=ext w E d:=by
 refine ⟨w1.heap.extract w.heap.size,w1.drawn,?_⟩
 have hh:w1.heap=w.heap ++ w1.heap.extract w.heap.size:=by
  have hs:=h.size
  apply Array.ext_getElem?
  intro k
  rw [Array.getElem?_append]
  split
  ·exact h.block k (by assumption)
  ·rw [Array.getElem?_extract]
   split
   ·congr 1; omega
   ·exact Array.getElem?_eq_none (by omega)
 have h1:=h.os
 have h2:=h.tape
 have h3:=h.output
 cases w1
 simp only [ext] at *
 subst h1 h2 h3
 simp [← hh]
end
def RV (v:Value) (w:World) (e:Ending) (w' : World):Prop:=e=.returned v∧∃ E d,w'=ext w E d
theorem RV.mk {v:Value} {w w' : World} {e:Ending} (h1:e=.returned v) (h2:Below w.heap.size w w'):RV v w e w':=⟨h1,Zia h2⟩
theorem RV.below {v:Value} {w w' : World} {e:Ending} (h:RV v w e w'):e=.returned v∧Below w.heap.size w w':=by
 obtain ⟨h1,E,d,rfl⟩:=h
 exact ⟨h1,Zwp (Below.refl _ _) _ _⟩
def szT (n:Int) (k:Nat):Int:=if n < k then -1 else n - k
theorem ZPV {n:Int} {k:Nat} (h:n < k):szT n k=-1:=by simp [szT,h]
theorem ZPW {n:Int} {k:Nat} (h:(k:Int)≤n):szT n k=n - k:=by unfold szT; rw [if_neg (by omega)]
theorem ZPX {n:Int} (k:Nat) (h : -1≤n):szT n k≤n∧-1≤szT n k:=by unfold szT; split <;> omega
theorem ZOJ {n:Int} {k:Nat} (h:0≤szT n k):(k:Int)≤n∧szT n k=n - k:=by unfold szT at *; split at h <;> (try split) <;> omega
theorem ZPY (w:World) (o:Obj):Below w.heap.size w (w.alloc o):=ZGM (Below.refl _ _) o
theorem ZJC:laidOutB Tryz.prog=true:=by kernel_rfl
theorem ZRY:ownKnob Tryz.prog.godebug=none:=by kernel_rfl
def ZgA (W:World) (b:Nat):Array Value:=match W.heap[b]? with | some (.cells cs _ _)=>cs | _=>#[]
def ZJD (W:World) (b:Nat):Array Value:=ZgA W b
theorem blkOf_ext' {w:World} {b:Nat} (E:Array Obj) (d:Nat) (h:b < w.heap.size):ZgA (ext w E d) b=ZgA w b:=by
 unfold ZgA
 rw [ZcA w E d h]
@[go_sem] theorem ZMa {w:World} {b:Nat} (E:Array Obj) (d:Nat):ZgA (ext w E d) b=if b < w.heap.size then ZgA w b else ZJD (ext w E d) b:=by
  split
  ·rename_i h; exact blkOf_ext' E d h
  ·rfl
theorem blkOf_new (w:World) (cs:Array Value) (T:TypeId) (fr:Nat × Nat):ZgA (w.alloc (.cells cs T fr)) w.heap.size=cs:=by
 unfold ZgA
 have:(w.alloc (.cells cs T fr)).heap[w.heap.size]?=some (.cells cs T fr):=by
  show (w.heap.push _)[w.heap.size]?=_
  simp
 rw [this]
@[go_sem] theorem blkOf_past {w:World} {b:Nat} (o:Obj):ZgA (w.alloc o) b=if b < w.heap.size then ZgA w b else ZJD (w.alloc o) b:=by
  split
  ·rename_i h
   unfold ZgA
   rw [Below.heap_alloc w o b h]
  ·rfl
@[go_sem high] theorem ZMU {w:World} {b:Nat} (cs:Array Value) (T:TypeId) (fr:Nat × Nat):ZgA (w.alloc (.cells cs T fr)) b=if b < w.heap.size then ZgA w b else if b=w.heap.size then cs else ZJD (w.alloc (.cells cs T fr)) b:=by
  split
  ·rename_i h; rw [blkOf_past,if_pos h]
  ·split
   ·rename_i h; subst h; exact blkOf_new _ _ _ _
   ·rfl
@[go_sem] theorem ZJ0 (w:World) (b:Nat):ZgA w.drew b=ZgA w b:=rfl
@[go_sem] theorem ZJE (w:World) (b n:Nat):ZgA (w.drewN n) b=ZgA w b:=rfl
@[go_sem high] theorem ZGO {P:Program} (W:World) (b n:Nat) (h:(ZgA W b).size=n):(loadCells ⟨b,0,none⟩ n).run P W=.ok (ZgA W b) W:=by
  subst h
  unfold ZgA
  cases hb:W.heap[b]? with
  | none=>simp [loadCells,loadCellsFrom]
  | some o =>
   cases o with
   | cells cs t fr =>
    have hl:(loadCells ⟨b,0,none⟩ cs.toList.length).run P W=.ok cs.toList.toArray W :=
     run_loadCells_list (P:=P) W ⟨b,0,none⟩ cs.toList (fun j v hv=>by
      have hadd:(⟨b,0,none⟩:Addr).add j=⟨b,j,none⟩:=by unfold Addr.add; split <;> simp_all
      rw [hadd,cell_of_row W b j cs t fr hb]
      simpa using hv)
    simpa using hl
   | _=>simp [loadCells,loadCellsFrom]
section
variable {P:Program} (w:World) (a:Addr) (n:Nat)
@[go_sem low] theorem ZGP (_:(w.cell? a).isSome=true):(loadCells a n).run P w=(loadCellsFrom a 0 n #[]).run P w:=rfl
@[go_sem low] theorem ZGQ (E:Array Obj) (d:Nat):(loadCells a n).run P (ext w E d)=(loadCellsFrom a 0 n #[]).run P (ext w E d):=rfl
@[go_sem low] theorem ZEK (o:Obj):(loadCells a n).run P (w.alloc o)=(loadCellsFrom a 0 n #[]).run P (w.alloc o):=rfl
@[go_sem low] theorem ZE9:(loadCells a n).run P w.drew=(loadCellsFrom a 0 n #[]).run P w.drew:=rfl
@[go_sem low] theorem ZEL (k:Nat):(loadCells a n).run P (w.drewN k)=(loadCellsFrom a 0 n #[]).run P (w.drewN k):=rfl
@[go_sem low] theorem ZGR (p:Addr) (v:Value):(loadCells a n).run P (w.setCell p v)=(loadCellsFrom a 0 n #[]).run P (w.setCell p v):=rfl
end
def ZcV (W:World) (b n:Nat):Bool:=match W.heap[b]? with | some (.cells cs _ fr)=>cs.size == n && fr == (0,0) | _=>false
def Zpc (W:World) (b n:Nat):Bool:=ZcV W b n
@[go_sem] theorem ZJF {w:World} {b:Nat} (n:Nat) (E:Array Obj) (d:Nat):ZcV (ext w E d) b n=if b < w.heap.size then ZcV w b n else Zpc (ext w E d) b n:=by
  split
  ·rename_i h
   unfold ZcV
   rw [ZcA w E d h]
  ·rfl
theorem blkFree_new (w:World) (cs:Array Value) (T:TypeId) (n:Nat):ZcV (w.alloc (.cells cs T)) w.heap.size n=(cs.size == n):=by
 unfold ZcV
 have:(w.alloc (.cells cs T)).heap[w.heap.size]?=some (.cells cs T):=by
  show (w.heap.push _)[w.heap.size]?=_
  simp
 rw [this]
 simp
@[go_sem] theorem blkFree_past {w:World} {b:Nat} (n:Nat) (o:Obj):ZcV (w.alloc o) b n=if b < w.heap.size then ZcV w b n else Zpc (w.alloc o) b n:=by
  split
  ·rename_i h
   unfold ZcV
   rw [Below.heap_alloc w o b h]
  ·rfl
@[go_sem high] theorem ZJ1 {w:World} {b:Nat} (cs:Array Value) (T:TypeId) (n:Nat):ZcV (w.alloc (.cells cs T)) b n=if b < w.heap.size then ZcV w b n else if b=w.heap.size then (cs.size == n) else Zpc (w.alloc (.cells cs T)) b n:=by
  split
  ·rename_i h; rw [blkFree_past,if_pos h]
  ·split
   ·rename_i h; subst h; exact blkFree_new _ _ _ _
   ·rfl
@[go_sem] theorem ZHW (w:World) (b n:Nat):ZcV w.drew b n=ZcV w b n:=rfl
@[go_sem] theorem ZGS (w:World) (b n k:Nat):ZcV (w.drewN k) b n=ZcV w b n:=rfl
def ZbJ (W:World) (b:Nat) (cs:Array Value):World:={ W with heap:=W.heap.modify b (fun o=>match o with | .cells _ T fr=>.cells cs T fr | o=>o) }
theorem setBlk_ext' {w:World} {b:Nat} (cs:Array Value) (E:Array Obj) (d:Nat) (h:b < w.heap.size):ZbJ (ext w E d) b cs=ext (ZbJ w b cs) E d:=by
 unfold ZbJ ext
 simp only
 congr 1
 apply Array.ext_getElem?
 intro k
 simp only [Array.getElem?_modify,Array.getElem?_append,Array.size_modify]
 by_cases hk:b=k
 ·subst hk
  simp [h]
 ·simp [hk]
theorem setBlk_new (w:World) (old cs:Array Value) (T:TypeId):ZbJ (w.alloc (.cells old T)) w.heap.size cs=w.alloc (.cells cs T):=by
 unfold ZbJ World.alloc
 simp only
 congr 1
 apply Array.ext_getElem?
 intro k
 simp only [Array.getElem?_modify,Array.getElem?_push]
 by_cases hk:w.heap.size=k
 ·subst hk
  simp
 ·have hk' : ¬ k=w.heap.size:=fun e=>hk e.symm
  simp [hk,hk']
theorem setBlk_past' {w:World} {b:Nat} (cs:Array Value) (o:Obj) (h:b < w.heap.size):ZbJ (w.alloc o) b cs=(ZbJ w b cs).alloc o:=by
 unfold ZbJ World.alloc
 simp only
 congr 1
 apply Array.ext_getElem?
 intro k
 simp only [Array.getElem?_modify,Array.getElem?_push,Array.size_modify]
 by_cases hk:b=k
 ·subst hk
  have:¬ b=w.heap.size:=by omega
  simp [this]
 ·simp [hk]
def ZsO (W:World) (b:Nat) (cs:Array Value):World:=ZbJ W b cs
@[go_sem] theorem ZJ2 (w:World) (b:Nat) (cs:Array Value) (E:Array Obj) (d:Nat):ZbJ (ext w E d) b cs=if b < w.heap.size then ext (ZbJ w b cs) E d else ZsO (ext w E d) b cs:=by
  split
  ·rename_i h; exact setBlk_ext' cs E d h
  ·rfl
@[go_sem] theorem setBlk_past (w:World) (b:Nat) (cs:Array Value) (o:Obj):ZbJ (w.alloc o) b cs=if b < w.heap.size then (ZbJ w b cs).alloc o else ZsO (w.alloc o) b cs:=by
  split
  ·rename_i h; exact setBlk_past' cs o h
  ·rfl
@[go_sem high] theorem ZMb (w:World) (b:Nat) (old cs:Array Value) (T:TypeId):ZbJ (w.alloc (.cells old T)) b cs=if b < w.heap.size then (ZbJ w b cs).alloc (.cells old T) else if b=w.heap.size then w.alloc (.cells cs T) else ZsO (w.alloc (.cells old T)) b cs:=by
  split
  ·rename_i h; rw [setBlk_past,if_pos h]
  ·split
   ·rename_i h; subst h; exact setBlk_new _ _ _ _
   ·rfl
@[simp,go_sem] theorem ZJG (w:World) (b:Nat) (cs:Array Value):(ZbJ w b cs).heap.size=w.heap.size:=by simp [ZbJ]
@[go_sem] theorem ZJH (w:World) (b:Nat) (cs:Array Value):ZbJ w.drew b cs=(ZbJ w b cs).drew:=rfl
theorem Zi2 {P:Program} (g:Nat) (t:TypeId):∀ (vs:List Value) (i:Nat) (cur:Array Value) (W:World),W.heap[g]?=some (.cells cur t (0,0))→i + vs.length=cur.size→vs.all (fun v=>v.oneCell')=true →
 (storeCells ⟨g,0,none⟩ vs i).run P W=.ok () (ZbJ W g (cur.toList.take i ++ vs).toArray)
 | [],i,cur,W,hg,hl,_=>by
  have h1:cur.toList.take i=cur.toList:=List.take_of_length_le (by simp at hl ⊢; omega)
  have h2:ZbJ W g cur=W:=by
   unfold ZbJ
   congr 1
   apply Array.ext_getElem?
   intro k
   rw [Array.getElem?_modify]
   by_cases hk:g=k
   ·subst hk
    rw [if_pos rfl,hg]
    rfl
   ·rw [if_neg hk]
  simp only [storeCells,List.append_nil,h1,Array.toArray_toList,h2]
  rfl
 | v :: vs,i,cur,W,hg,hl,ho=>by
  rw [List.all_cons,Bool.and_eq_true] at ho
  have hadd:(⟨g,0,none⟩:Addr).add i=⟨g,i,none⟩:=by unfold Addr.add; split <;> simp_all
  have hi:i < cur.size:=by simp at hl; omega
  have hc:W.cell? ⟨g,i,none⟩=some cur[i]:=by simp [World.cell?,hg,hi]
  have hf:W.frozen? ⟨g,i,none⟩=false:=by simp [World.frozen?,hg]
  have hset:W.setCell ⟨g,i,none⟩ v=ZbJ W g (cur.setIfInBounds i v):=by
   unfold World.setCell ZbJ
   simp only
   congr 1
   apply Array.ext_getElem?
   intro k
   simp only [Array.getElem?_modify]
   by_cases hk:g=k
   ·subst hk
    rw [if_pos rfl,if_pos rfl,hg]
    rfl
   ·rw [if_neg hk,if_neg hk]
  have hg' : (ZbJ W g (cur.setIfInBounds i v)).heap[g]?=some (.cells (cur.setIfInBounds i v) t (0,0)):=by
   unfold ZbJ
   simp only [Array.getElem?_modify,if_pos,hg]
   rfl
  have ih:=Zi2 (P:=P) g t vs (i + 1) (cur.setIfInBounds i v) (ZbJ W g (cur.setIfInBounds i v)) hg' (by simp at hl ⊢; omega) ho.2
  have e:((cur.setIfInBounds i v).toList.take (i + 1) ++ vs)=cur.toList.take i ++ v :: vs:=by
   rw [Array.toList_setIfInBounds,List.take_add_one,List.getElem?_set_self (by simpa using hi),List.take_set_of_le (Nat.le_refl _)]
   simp
  have e2:∀ cs cs' : Array Value,ZbJ (ZbJ W g cs) g cs'=ZbJ W g cs':=fun cs cs'=>by
   unfold ZbJ
   simp only
   congr 1
   apply Array.ext_getElem?
   intro k
   simp only [Array.getElem?_modify]
   by_cases hk:g=k
   ·subst hk
    simp only [if_true,hg]
    rfl
   ·simp [hk]
  rw [e,e2] at ih
  have hst:(store (⟨g,i,none⟩:Addr) v).run P W=.ok () (ZbJ W g (cur.setIfInBounds i v)):=by
   rw [← hset,run_store P W _ v .plain ho.1,hc,hf]
   rfl
  simp only [storeCells,Sem.run_bind,hadd,hst,Result.andThen_ok]
  exact ih
@[go_sem high] theorem ZFa {P:Program} (W:World) (b:Nat) (vs:List Value) (ho:vs.all (fun v=>v.oneCell')=true) (h:ZcV W b vs.length=true):(storeCells ⟨b,0,none⟩ vs 0).run P W=.ok () (ZbJ W b vs.toArray):=by
  unfold ZcV at h
  split at h
  ·rename_i cs T fr hb
   simp only [Bool.and_eq_true,beq_iff_eq] at h
   obtain ⟨h1,rfl⟩:=h
   have:=Zi2 (P:=P) b T vs 0 cs W hb (by omega) ho
   simpa using this
  ·cases h
section
variable {P:Program} (w:World) (a:Addr) (v:Value) (vs:List Value) (i:Nat)
@[go_sem low] theorem ZFb (_:(w.cell? (a.add i)).isSome=true):(storeCells a (v :: vs) i).run P w=((do store (a.add i) v; storeCells a vs (i + 1):Sem Unit)).run P w:=rfl
@[go_sem low] theorem ZFc (E:Array Obj) (d:Nat):(storeCells a (v :: vs) i).run P (ext w E d)=((do store (a.add i) v; storeCells a vs (i + 1):Sem Unit)).run P (ext w E d):=rfl
@[go_sem low] theorem ZCc (o:Obj):(storeCells a (v :: vs) i).run P (w.alloc o)=((do store (a.add i) v; storeCells a vs (i + 1):Sem Unit)).run P (w.alloc o):=rfl
@[go_sem low] theorem ZEM:(storeCells a (v :: vs) i).run P w.drew=((do store (a.add i) v; storeCells a vs (i + 1):Sem Unit)).run P w.drew:=rfl
@[go_sem low] theorem ZCd (k:Nat):(storeCells a (v :: vs) i).run P (w.drewN k)=((do store (a.add i) v; storeCells a vs (i + 1):Sem Unit)).run P (w.drewN k):=rfl
@[go_sem low] theorem ZFd (p:Addr) (u:Value):(storeCells a (v :: vs) i).run P (w.setCell p u)=((do store (a.add i) v; storeCells a vs (i + 1):Sem Unit)).run P (w.setCell p u):=rfl
end
@[go_sem] theorem ZFe {P:Program} (W:World) (a:Addr) (i:Nat):(storeCells a [] i).run P W=.ok () W:=rfl
class GoRep (α:Type) where
 n:Nat
 pos:0 < n
 rep:World→α→List Value→List Nat→Prop
 len:∀ {w x cs F},rep w x cs F→cs.length=n
 keep:∀ {w w' x cs F},rep w x cs F→(∀ b ∈ F,w'.heap[b]?=w.heap[b]?)→rep w' x cs F
 lt:∀ {w x cs F},rep w x cs F→∀ b ∈ F,b < w.heap.size
 one:∀ {w x cs F},rep w x cs F→cs.all (fun v=>v.oneCell')=true
 bulk:α→Nat
open GoRep (rep bulk)
def I64 (x:Int):Prop:=(Lit.int .i64 x).wf=true
theorem I64.lo {x:Int} (h:I64 x) : -9223372036854775808≤x:=(bounds_i64 h).1
theorem I64.hi {x:Int} (h:I64 x):x≤9223372036854775807:=(bounds_i64 h).2
theorem I64.mk {x:Int} (h1 : -9223372036854775808≤x) (h2:x≤9223372036854775807):I64 x:=WalkArith.wf_i64 ⟨h1,h2⟩
instance:GoRep Int where
 n:=1
 pos:=by omega
 rep _ x cs F:=cs=[.int .i64 x]∧I64 x∧F=[]
 len h:=by rw [h.1]; rfl
 keep h _:=h
 lt h:=by rw [h.2.2]; simp
 one h:=by rw [h.1]; rfl
 bulk _:=0
instance:GoRep Bool where
 n:=1
 pos:=by omega
 rep _ x cs F:=cs=[.bool x]∧F=[]
 len h:=by rw [h.1]; rfl
 keep h _:=h
 lt h:=by rw [h.2]; simp
 one h:=by rw [h.1]; rfl
 bulk _:=0
instance:GoRep ByteArray where
 n:=1
 pos:=by omega
 rep _ x cs F:=cs=[.string x]∧x.size≤maxLen∧F=[]
 len h:=by rw [h.1]; rfl
 keep h _:=h
 lt h:=by rw [h.2.2]; simp
 one h:=by rw [h.1]; rfl
 bulk x:=x.size
instance {α β:Type} [GoRep α] [GoRep β]:GoRep (α × β) where
 n:=GoRep.n α + GoRep.n β
 pos:=by have:=GoRep.pos (α:=α); omega
 rep w x cs F:=∃ c1 c2 F1 F2,rep w x.1 c1 F1∧rep w x.2 c2 F2∧cs=c1 ++ c2∧F=F1 ++ F2
 len h:=by
  obtain ⟨c1,c2,F1,F2,h1,h2,rfl,rfl⟩:=h
  rw [List.length_append,GoRep.len h1,GoRep.len h2]
 keep h hk:=by
  obtain ⟨c1,c2,F1,F2,h1,h2,e1,e2⟩:=h
  subst e2
  exact ⟨c1,c2,F1,F2,GoRep.keep h1 (fun b hb=>hk b (by simp [hb])),GoRep.keep h2 (fun b hb=>hk b (by simp [hb])),e1,rfl⟩
 lt h b hb:=by
  obtain ⟨c1,c2,F1,F2,h1,h2,e1,e2⟩:=h
  subst e2
  rcases List.mem_append.1 hb with hb | hb
  ·exact GoRep.lt h1 b hb
  ·exact GoRep.lt h2 b hb
 one h:=by
  obtain ⟨c1,c2,F1,F2,h1,h2,e1,e2⟩:=h
  rw [e1,List.all_append,GoRep.one h1,GoRep.one h2]
  rfl
 bulk x:=bulk x.1 + bulk x.2
theorem ZkX {w w' : World} {b:Nat} (h:w'.heap[b]?=w.heap[b]?) (o:Nat):w'.cell? ⟨b,o,none⟩=w.cell? ⟨b,o,none⟩:=by unfold World.cell?; rw [h]
theorem Zpd {w w' : World} {b:Nat} (h:w'.heap[b]?=w.heap[b]?) (o:Nat):w'.frozen? ⟨b,o,none⟩=w.frozen? ⟨b,o,none⟩:=by unfold World.frozen?; rw [h]
theorem ZB1 {w:World} {b o:Nat} {u:Value} (h:w.cell? ⟨b,o,none⟩=some u):b < w.heap.size:=by
 rcases Nat.lt_or_ge b w.heap.size with hlt | hge
 ·exact hlt
 ·unfold World.cell? at h
  rw [Array.getElem?_eq_none hge] at h
  simp at h
def ZcB (w:World) (b off:Nat) (cs:List Value):Prop:=∀ j u,cs[j]?=some u→w.cell? ⟨b,off + j,none⟩=some u∧w.frozen? ⟨b,off + j,none⟩=false
theorem ZcB.keep {w w' : World} {b off:Nat} {cs:List Value} (h:ZcB w b off cs) (hb:w'.heap[b]?=w.heap[b]?):ZcB w' b off cs:=fun j u hj=>by
 rw [ZkX hb,Zpd hb]
 exact h j u hj
def ZbP {α:Type} [GoRep α] (w:World) (b off:Nat):List α→List Nat→Prop
 | [],G=>G=[]
 | x :: xs,G=>∃ cs G1 G2,rep w x cs G1∧ZcB w b off cs∧ZbP w b (off + GoRep.n α) xs G2∧G=G1 ++ G2
section
variable {α:Type} [GoRep α]
theorem ZbP.keep {w w' : World} {b:Nat} {xs:List α}:∀ {off:Nat} {G:List Nat},ZbP w b off xs G→w'.heap[b]?=w.heap[b]?→(∀ g ∈ G,w'.heap[g]?=w.heap[g]?)→ZbP w' b off xs G:=by
 induction xs with
 | nil=>intro off G h _ _; exact h
 | cons x xs ih =>
  intro off G h hb hG
  obtain ⟨cs,G1,G2,h1,h2,h3,rfl⟩:=h
  exact ⟨cs,G1,G2,GoRep.keep h1 (fun g hg=>hG g (by simp [hg])),h2.keep hb,ih h3 hb (fun g hg=>hG g (by simp [hg])),rfl⟩
theorem ZbP.lt {w:World} {b:Nat} {xs:List α}:∀ {off:Nat} {G:List Nat},ZbP w b off xs G→∀ g ∈ G,g < w.heap.size:=by
 induction xs with
 | nil=>intro off G h g hg; rw [show G=[] from h] at hg; simp at hg
 | cons x xs ih =>
  intro off G h g hg
  obtain ⟨cs,G1,G2,h1,h2,h3,rfl⟩:=h
  rcases List.mem_append.1 hg with hg | hg
  ·exact GoRep.lt h1 g hg
  ·exact ih h3 g hg
theorem ZbP.blk {w:World} {b off:Nat} {xs:List α} {G:List Nat} (h:ZbP w b off xs G) (hx:xs ≠ []):b < w.heap.size:=by
 cases xs with
 | nil=>exact absurd rfl hx
 | cons x xs =>
  obtain ⟨cs,G1,G2,h1,h2,_,_⟩:=h
  have hl:0 < cs.length:=by rw [GoRep.len h1]; exact GoRep.pos
  have hc:=h2 0 cs[0] (List.getElem?_eq_getElem hl)
  exact ZB1 hc.1
theorem ZbP.get {w:World} {b:Nat} {xs:List α}:∀ {off:Nat} {G:List Nat} (k:Nat) (x:α),ZbP w b off xs G→xs[k]?=some x →
 ∃ cs Gk,rep w x cs Gk∧(∀ g ∈ Gk,g ∈ G)∧ZcB w b (off + k * GoRep.n α) cs:=by
 induction xs with
 | nil=>intro off G k x _ h; simp at h
 | cons y xs ih =>
  intro off G k x h hk
  obtain ⟨cs,G1,G2,h1,h2,h3,rfl⟩:=h
  cases k with
  | zero =>
   simp at hk
   subst hk
   exact ⟨cs,G1,h1,fun g hg=>by simp [hg],by simpa using h2⟩
  | succ k =>
   simp at hk
   obtain ⟨cs',Gk,a1,a2,a3⟩:=ih k x h3 hk
   refine ⟨cs',Gk,a1,fun g hg=>by simp [a2 g hg],?_⟩
   rw [show off + (k + 1) * GoRep.n α=off + GoRep.n α + k * GoRep.n α from by rw [Nat.add_mul]; omega]
   exact a3
end
def ZkY {α:Type} [GoRep α] (w:World) (xs:List α) (A:Option Addr) (c:Nat) (F:List Nat):Prop :=
 xs.length≤c∧c≤maxLen∧((xs=[]∧F=[])∨(xs ≠ []∧∃ b off G,A=some ⟨b,off,none⟩∧F=b :: G∧ZbP w b off xs G))
def Zb6 {α:Type} [GoRep α]:List α→Nat
 | []=>0
 | x :: xs=>bulk x + Zb6 xs
theorem Zmu {α:Type} [GoRep α] (xs ys:List α):Zb6 (xs ++ ys)=Zb6 xs + Zb6 ys:=by
 induction xs with
 | nil=>simp [Zb6]
 | cons x xs ih=>simp [Zb6,ih]; omega
instance {α:Type} [GoRep α]:GoRep (List α) where
 n:=1
 pos:=by omega
 rep w xs cs F:=∃ A c,cs=[.slice A xs.length c]∧ZkY w xs A c F
 len h:=by obtain ⟨A,c,rfl,_⟩:=h; rfl
 keep h hk:=by
  obtain ⟨A,c,e,h1,h2,h3⟩:=h
  refine ⟨A,c,e,h1,h2,?_⟩
  rcases h3 with h3 | ⟨hx,b,off,G,rfl,rfl,hr⟩
  ·exact Or.inl h3
  ·exact Or.inr ⟨hx,b,off,G,rfl,rfl,hr.keep (hk b (by simp)) (fun g hg=>hk g (by simp [hg]))⟩
 lt h b hb:=by
  obtain ⟨A,c,e,h1,h2,h3⟩:=h
  rcases h3 with ⟨_,rfl⟩ | ⟨hx,b',off,G,rfl,rfl,hr⟩
  ·simp at hb
  ·rcases List.mem_cons.1 hb with rfl | hb
   ·exact hr.blk hx
   ·exact hr.lt b hb
 one h:=by obtain ⟨A,c,rfl,_⟩:=h; rfl
 bulk xs:=xs.length + Zb6 xs
section
variable {α:Type} [GoRep α] {w:World} {x:α} {cs:List Value} {F:List Nat}
theorem ZEN (h:rep w x cs F) (o:Obj):rep (w.alloc o) x cs F:=GoRep.keep h (fun b hb=>Below.heap_alloc w o b (GoRep.lt h b hb))
theorem ZJI (h:rep w x cs F) (E:Array Obj) (d:Nat):rep (ext w E d) x cs F:=GoRep.keep h (fun b hb=>ZcA w E d (GoRep.lt h b hb))
theorem ZMV (h:rep w x cs F):rep w.drew x cs F:=GoRep.keep h (fun _ _=>rfl)
theorem ZMc {w' : World} (h:rep w x cs F) (hb:Below w.heap.size w w'):rep w' x cs F:=GoRep.keep h (fun b hm=>hb.block b (GoRep.lt h b hm))
theorem ZOK (h:rep w x cs F) {p:Addr} (hp:p.block ∉ F) (u:Value):rep (w.setCell p u) x cs F:=GoRep.keep h (fun b hb=>Below.heap_setCell w p u b (fun e=>hp (e ▸ hb)))
theorem ZOL {y:Int}:rep w y cs F↔cs=[.int .i64 y]∧I64 y∧F=[]:=Iff.rfl
theorem ZMW {y:Bool}:rep w y cs F↔cs=[.bool y]∧F=[]:=Iff.rfl
theorem ZOM {y:ByteArray}:rep w y cs F↔cs=[.string y]∧y.size≤maxLen∧F=[]:=Iff.rfl
theorem ZMX {β:Type} [GoRep β] {y:α × β}:rep w y cs F↔∃ c1 c2 F1 F2,rep w y.1 c1 F1∧rep w y.2 c2 F2∧cs=c1 ++ c2∧F=F1 ++ F2:=Iff.rfl
theorem ZMY {xs:List α}:rep w xs cs F↔∃ A c,cs=[.slice A xs.length c]∧ZkY w xs A c F:=Iff.rfl
end
def RN {α:Type} [GoRep α] (mk:List Value→Value) (x:α) (w:World) (e:Ending) (w' : World):Prop :=
 ∃ cs F E d,e=.returned (mk cs)∧w'=ext w E d∧rep w' x cs F∧F.Nodup∧∀ b ∈ F,w.heap.size≤b
def mkA (cs:List Value):Value:=.agg cs.toArray
def mk1 (cs:List Value):Value:=cs.headD undef
end Go.Proofs.YtkeglpnnedflnaaGreatDoor
