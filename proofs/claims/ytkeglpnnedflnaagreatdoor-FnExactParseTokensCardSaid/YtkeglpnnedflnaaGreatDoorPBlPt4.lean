import Derived.Test.YtkeglpnnedflnaaGreatDoorPBlPt3
import Derived.Shelf.Spec.SlicesGrow
set_option linter.unusedSimpArgs false
set_option linter.unusedVariables false
set_option maxRecDepth 100000
namespace Go.Proofs.YtkeglpnnedflnaaGreatDoor
open Go.ChangeShapes Go.WideShapes Go.ChangeAt Go.RowKit Go.Joins Go.Deep
open GoRep (rep bulk)
def ZFx:Go.Shelf.Ren:=⟨fun | 4=>116 | n=>n,
 fun | 0=>0 | 3=>3 | 4=>4 | 9=>9 | 20=>20 | 22=>24 | 25=>56 | n=>n,
 fun n=>n⟩
open Go.Shelf in
theorem Zzg:Lays8.n4 Tryz.prog ZFx where
 mixed:=by kernel_rfl
 f4:=⟨Tryz.f116.name,by kernel_rfl,Tryz.func116.trans (congrArg some (by kernel_rfl))⟩
 t0:=Tryz.underlying0
 a0:=Tryz.isAgg0
 z0:=Tryz.sizeOf0
 v0:=Tryz.zeroValue0
 t3:=Tryz.underlying3
 a3:=Tryz.isAgg3
 z3:=Tryz.sizeOf3
 v3:=Tryz.zeroValue3
 t4:=Tryz.underlying4
 a4:=Tryz.isAgg4
 z4:=Tryz.sizeOf4
 v4:=Tryz.zeroValue4
 t9:=Tryz.underlying9
 a9:=Tryz.isAgg9
 z9:=Tryz.sizeOf9
 v9:=Tryz.zeroValue9
 t20:=Tryz.underlying20
 a20:=Tryz.isAgg20
 z20:=Tryz.sizeOf20
 v20:=Tryz.zeroValue20
 t22:=Tryz.underlying24
 a22:=Tryz.isAgg24
 z22:=Tryz.sizeOf24
 v22:=Tryz.zeroValue24
theorem ZFy:∃ (i:TypeInfo) (z:Value),Tryz.prog.info? 56=some i∧i.zero=some z∧i.size=2∧i.bytes≤100∧z.cells.size=2:=⟨_,_,rfl,rfl,rfl,of_decide_eq_true rfl,rfl⟩
def ZrK (n:Int):Prop:=0≤n∧n≤4194304
theorem ZCS (X:List Nat) (W W' : World) (hX:∀ b ∈ X,b < W.heap.size) (v:Value) (T:TypeId) (hg:W.grownBy W' none) (ho:W'.ownsRow 0 T 2 v 0 []) (hv:v.ownBlock=none∨v.ownBlock=some W.heap.size) :
 ∃ E',Zbb W [] W' E'∧RepM X W' E' [.row Zab ([]:List GToken) 0 0 none]∧Zbo X W' E' [.row Zab ([]:List GToken) 0 0 none] (.row 0 0) v:=by
 obtain ⟨E',g,_,m,r⟩:=ZgQ (X:=X) (E:=[]) (M:=[]) (js:=[]) (t:=Zab) (ys:=[]) (v:=v) (T:=T) (cells:=[]) (own:=[]) (G:=[]) (ZE8 hX) rfl (fun j hj=>by cases hj) hg ho ⟨rfl,rfl⟩ rfl hv
 exact ⟨E',g,m,r⟩
theorem ZKO (n:Int) (h:ZrK n):Zaq Tryz.prog 116 [.c (.raw (.slice none 0 0)), .c (.int .i64 n)] (.c (.row 0 0)) [.row Zab ([]:List GToken) 0 0 none]:=by
 intro X W vs hX hgl hr
 obtain ⟨v1,r1,rfl,⟨rfl,_⟩,v2,r2,rfl,⟨rfl,_⟩,hn⟩:=hr
 obtain rfl:r2=[]:=hn
 obtain ⟨m,rfl⟩:∃ m:Nat,n=((m:Nat):Int):=⟨n.toNat,by have:=h.1; omega⟩
 have hm:m≤4194304:=by have:=h.2; omega
 obtain ⟨i,z,hi,hz,hs,hb,hzs⟩:=ZFy
 by_cases h0:m=0
 ·subst h0
  refine (Any8.slices_Grow_room Zzg none 0 0 0 W (Nat.le_refl _) (by decide) (by decide) (Nat.le_refl _)).mono fun e W' he=>?_
  obtain ⟨rfl,hw⟩:=he
  rw [hw]
  obtain ⟨E',g,mm,r⟩:=ZCS X W W hX (.slice none 0 0) 56 ⟨rfl,rfl,rfl,Nat.le_refl _,fun _ _ _=>rfl⟩ (World.ownsRow_nil W 0 _ 2) (.inl rfl)
  exact ⟨_,E',rfl,g,mm,r⟩
 ·have hby:(0 + m) * i.bytes≤140737488355328:=by
   have:(0 + m) * i.bytes≤(0 + m) * 100:=Nat.mul_le_mul_left _ hb
   omega
  refine (Any8.slices_Grow_grow Zzg i z hi hz (by omega) none 0 0 m [] W (Nat.le_refl _) (by omega) hby (by omega) (by simp) (fun _=>rfl) (fun a ha=>by cases ha)).mono fun e W' he=>?_
  obtain ⟨rfl,hw⟩:=he
  have hcm:=grownCap_le_maxLen W (0 + m) 0 56 (show 0 + m≤maxLen by unfold maxLen; omega)
  have hge:=grownCap_ge W (0 + m) 0 56
  have hgr:W.grownBy W' none:=by
   rw [hw]
   exact ⟨rfl,rfl,rfl,by simp,fun k hk _=>Below.heap_alloc W.drew _ k hk⟩
  have hrow:W'.ownsRow 0 56 2 (.slice (some ⟨W.heap.size,0,none⟩) 0 (grownCap W (0 + m) 0 56)) 0 []:=by
   rw [hw]
   refine ⟨rfl, .inr ⟨W.heap.size,_,_,rfl,Nat.zero_le _,heap_alloc_new W.drew _,Nat.zero_le _,hcm,?_,rfl⟩⟩
   simp only [Array.size_append,List.size_toArray,size_zeroCells,hzs,List.length_nil]
   show 0 + (0 + m - 0) * 2 + (grownCap W (0 + m) 0 56 - (0 + m)) * 2=grownCap W (0 + m) 0 56 * 2
   omega
  obtain ⟨E',g,mm,r⟩:=ZCS X W W' hX _ _ hgr hrow (.inr rfl)
  exact ⟨_,E',rfl,g,mm,r⟩
def ZKP:ZaD Tryz.prog:=⟨116,[.z, .v ZaF],fun x=>ZrK x.2.1,fun x=>.c (.row 0 0),fun _=>[.row Zab ([]:List GToken) 0 0 none],fun x hx=>ZKO x.2.1 hx,Tryz.call116⟩
set_option maxRecDepth 100000
set_option maxHeartbeats 4000000
def Zcr (xs:List (List GToken)) (k:Nat):List GToken:=nth (.list Zab) xs k
def ZfX (l:List (List GToken)):Nat→List GToken
 | 0=>[]
 | k + 1=>ZfX l k ++ Zcr l k
def ZgT (l:List (List GToken)):Prop:=l.length≤1048576∧∀ k,k≤l.length→(ZfX l k).length≤4194304
section
variable {l:List (List GToken)} {k:Nat}
theorem ZO7 (h:ZgT l) (hk:((k:Nat):Int) < (List.length l:Int)):IntKind.wrap .i64 ((List.length (ZfX l k):Int) + (List.length (Zcr l k):Int))=(List.length (ZfX l (k + 1)):Int):=by
 have h1:=h.2 (k + 1) (by omega)
 have e:(ZfX l (k + 1)).length=(ZfX l k).length + (Zcr l k).length:=List.length_append
 rw [ZB0 (by omega) (by omega),e]
 exact (Int.natCast_add _ _).symm
theorem ZO8 (h:ZgT l) (hk:((k:Nat):Int) < (List.length l:Int)):¬ IntKind.wrap .i64 ((List.length (ZfX l k):Int) + (List.length (Zcr l k):Int)) < 0:=by
 rw [ZO7 h hk]
 omega
theorem ZQr (h:ZgT l) (hk:((k:Nat):Int) < (List.length l:Int)):∃ q:Nat,q≤l.length∧l.length - q < l.length - k∧IntKind.wrap .i64 ((List.length (ZfX l k):Int) + (List.length (Zcr l k):Int))=(List.length (ZfX l q):Int)∧IntKind.wrap .i64 (((k:Nat):Int) + 1)=((q:Nat):Int):=by
 have:=h.1
 exact ⟨k + 1,by omega,by omega,ZO7 h hk,Zbm (by unfold maxLen; omega)⟩
theorem ZQs (h:ZgT l) (hk:k≤l.length):ZrK (List.length (ZfX l k):Int):=by
 have:=h.2 k hk
 exact ⟨by omega,by omega⟩
theorem ZQt (h:ZgT l) (hk:((k:Nat):Int) < (List.length l:Int)):(ZfX l k).length + (Zcr l k).length≤rowMax:=by
 have h1:=h.2 (k + 1) (by omega)
 have e:(ZfX l (k + 1)).length=(ZfX l k).length + (Zcr l k).length:=List.length_append
 unfold rowMax
 omega
end
def Zd1 (l:List (List GToken)):Nat→List AV→Mem→Zbe
 | 3,tm,M=>⟨Nat,fun y=>(Zcp (ZcG tm [(3, .c (.int .i64 (List.length (ZfX l y):Int))),(5, .any),(11, .c (.int .i64 ((y:Nat):Int)))]) 12 11,M),fun y=>(y≤List.length l),fun y=>(List.length l - y)⟩
 | 11,tm,M=>⟨Nat,fun y=>(Zcp (ZcG tm [(6, .c (.row 0 0)),(8, .any),(24, .any),(27, .c (.int .i64 ((y:Nat):Int)))]) 28 7,ZgY M [(0, .row Zab (ZfX l y) 0 0 none)]),fun y=>(y≤List.length l),fun y=>(List.length l - y)⟩
 | _,_,_=>⟨Unit,fun _=>([],[]),fun _=>False,fun _=>0⟩
theorem Zd2 (l:List (List GToken)) (hpre:ZgT l):Zaq Tryz.prog 46 [.c (.hs .no (.list Zab) l)] (.c (.row 0 0)) [.row Zab (ZfX l (List.length l)) 0 0 none]:=by
 refine bc0 [ZKP] [] [] [] (Zd1 l) Tryz.func46 (fun hwf=>?_)
 refine Eq.mpr (β:=T5 ((∃ q:Nat,(q≤l.length)∧lxs [hn (.list Zab) l, .tp [], .c (.raw (.slice none 0 0))] (vI 0 (List.length (ZfX l q))∧lxs [.tp []] (True∧tpn 3 (lxs [hn (.list Zab) l,ci l.length] (vI 0 q∧TN 11 (tpn 13 True)))))∧pt (True))∧∀ y0:Nat,(y0≤l.length)→True∧bif ltI y0 l.length then ix 1 y0 l.length∧T9 (bif ltI (w64 ((List.length (ZfX l y0):Int) + (List.length (Zcr l y0):Int))) 0 then False else T2 (∃ y0' : Nat,(y0'≤l.length)∧(l.length - y0') < (l.length - y0)∧lxs [hn (.list Zab) l, .tp [], .c (.raw (.slice none 0 0))] (vI (w64 ((List.length (ZfX l y0):Int) + (List.length (Zcr l y0):Int))) (List.length (ZfX l y0'))∧lxs [.tp []] (True∧tpn 3 (lxs [hn (.list Zab) l,ci l.length] (vI (w64 ((y0:Int) + 1)) y0'∧TN 11 (tpn 13 True)))))∧pt (True))) else True∧pt (ZrK (List.length (ZfX l y0):Int))∧T4 ((∃ q:Nat,(q≤l.length)∧lxs [hn (.list Zab) l, .tp [], .c (.raw (.slice none 0 0)),ci (List.length (ZfX l y0)), .tp []] (True∧lxs [.c (.row 0 0), .tp []] (True∧lxs [hn (.list Zab) l,ci l.length,ci y0, .c (.bool false)] (TN 10 (lxs [ci (List.length (ZfX l y0))] (True∧lxs [hn (.list Zab) l,ci l.length] (vI 0 q∧TN 7 (lxs [.tp []] True)))))))∧pt (leB (.row Zab ([]:List GToken) 0 0 none) (.row Zab (ZfX l q) 0 0 none)∧True))∧∀ y1:Nat,(y1≤l.length)→True∧bif ltI y1 l.length then ix 1 y1 l.length∧T4 ((True∧List.length (ZfX l y1) + List.length (Zcr l y1)≤rowMax)∧T3 (∃ y1' : Nat,(y1'≤l.length)∧(l.length - y1') < (l.length - y1)∧lxs [hn (.list Zab) l, .tp [], .c (.raw (.slice none 0 0)),ci (List.length (ZfX l y0)), .tp []] (True∧lxs [.c (.row 0 0), .tp []] (True∧lxs [hn (.list Zab) l,ci l.length,ci y0, .c (.bool false)] (TN 10 (lxs [ci (List.length (ZfX l y0))] (True∧lxs [hn (.list Zab) l,ci l.length] (vI (w64 ((y1:Int) + 1)) y1'∧TN 7 (lxs [.tp []] True)))))))∧pt (leB (.row Zab ((ZfX l y1) ++ (Zcr l y1)) 0 0 none) (.row Zab (ZfX l y1') 0 0 none)∧True))) else T2 (pt ((ZfX l y1)=ZfX l l.length))))) (by kernel_rfl) ?_
 unfold T2 T3 T4 T5 T9
 have h0:ZgT l:=hpre
 simp only [Zdj,eq_self]
 repeat' (with_reducible first | exact trivial | apply And.intro | intro _)
 all_goals first
  | (with_reducible trivial)
  | omega
  | (with_reducible assumption)
  | exact ⟨0,Nat.zero_le _,rfl,rfl⟩
  | exact ZO8 h0 (by with_reducible assumption) (by with_reducible assumption)
  | exact ZQr h0 (by with_reducible assumption)
  | exact ZQs h0 (by with_reducible assumption)
  | exact ZQt h0 (by with_reducible assumption)
  | exact absurd (by assumption) (ZO8 h0 (by assumption))
  | (rename_i y hy hlt; have h1:=h0.1; exact ⟨y + 1,by omega,by omega,Zbm (by unfold maxLen; omega),rfl⟩)
  | (rename_i y hy hge; obtain rfl:y=List.length l:=by omega
     rfl)
def Zd3:ZaD Tryz.prog:=⟨46,[.v (.list (.list Zab))],fun x=>ZgT x.1,fun x=>.c (.row 0 0),fun x=>[.row Zab (ZfX x.1 (List.length x.1)) 0 0 none],fun x hx=>Zd2 x.1 hx,Tryz.call46⟩
end Go.Proofs.YtkeglpnnedflnaaGreatDoor
