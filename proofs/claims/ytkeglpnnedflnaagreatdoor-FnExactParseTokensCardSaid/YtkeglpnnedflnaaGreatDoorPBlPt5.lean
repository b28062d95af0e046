import Derived.Test.YtkeglpnnedflnaaGreatDoorPBlPt4
set_option linter.unusedSimpArgs false
set_option linter.unusedVariables false
set_option maxRecDepth 100000
set_option maxHeartbeats 4000000
namespace Go.Proofs.YtkeglpnnedflnaaGreatDoor
open Go.ChangeShapes Go.WideShapes Go.ChangeAt Go.RowKit Go.Joins Go.Deep
open GoRep (rep bulk)
def Zef (l:List GToken):Prop:=l.length≤1048576∧∀ t ∈ l,t.2.size≤1048576
theorem Zcs {l:List GToken} {n:Nat} (h:Zef l):Zef (Zac n l):=⟨by rw [ZbH]; have:=h.1; omega,fun t ht=>h.2 t (List.mem_of_mem_drop ht)⟩
theorem ZFz {l:List GToken} (h:Zef l):Zef (ZdC l):=by
 unfold ZdC
 split
 ·exact Zcs h
 ·exact Zcs h
theorem ZFA {l:List GToken} (h:Zef l):(tkT l).2.size≤1048576:=by
 cases l with
 | nil=>decide
 | cons t l =>
  rw [ZAL]
  exact h.2 t (List.mem_cons_self ..)
section
variable {c:GCommand} {s:List GToken}
theorem ZQu (h:Zef s):Zef (ZiG c s):=by
 unfold ZiG
 exact ZkR
theorem ZQv (h:Zef s):Zef (rOp c s):=by
 unfold rOp
 exact ZkR
theorem ZQw (h:Zef s):Zef (ZIh c s):=by
 unfold ZIh
 exact ZkR
theorem ZQx (h:Zef s):Zef (rTo c s):=by
 unfold rTo
 exact ZkR
theorem ZQy (h:Zef s):Zef (rz3 c s):=ZQv (ZQu h)
theorem ZQz (h:Zef s):Zef (rz4 c s):=ZQw (ZQy h)
theorem ZMn (h:Zef s):Zef (rz5 c s):=ZQx (ZQz h)
end
theorem Zzh {i j:Nat} {a1 a3 a4 a8 b1 b3 b4 b8:ByteArray} {a2 a6 a7 b2 b6 b7:Int} {a5 a9 b5 b9:Bool}:leB (.box [.str a1, .int .i64 a2, .str a3, .str a4, .bool a5, .row i 0, .int .i64 a6, .int .i64 a7, .str a8, .bool a9, .row j 0]) (.box [.str b1, .int .i64 b2, .str b3, .str b4, .bool b5, .row i 0, .int .i64 b6, .int .i64 b7, .str b8, .bool b9, .row j 0])=(a1=b1∧a2=b2∧a3=b3∧a4=b4∧a5=b5∧a6=b6∧a7=b7∧a8=b8∧a9=b9):=by
 exact Zu5
section
variable {c:GCommand} {k:List GToken}
theorem ZNC (h:fl7 c.2.1=true):grK (Ze8 (rz5 c k))=ZfB c k:=(if_pos h).symm
theorem ZND (h:fl7 c.2.1=false):[]=ZfB c k:=(if_neg (by rw [h]; decide)).symm
theorem ZKQ (h:Zbj c.2.1=true):rsL (tkT k).2=Zi6 c k:=(if_pos h).symm
theorem ZKR (h:Zbj c.2.1=false):c.2.2.2.2.2.1=Zi6 c k:=(if_neg (by rw [h]; decide)).symm
theorem ZKS (h:Zbj c.2.1=true):Zac 1 k=ZiG c k:=(if_pos h).symm
theorem ZKT (h:Zbj c.2.1=false):k=ZiG c k:=(if_neg (by rw [h]; decide)).symm
theorem ZNE (h:c.2.1=8):opV (tkT k).2=fOp c k:=(if_pos h).symm
theorem ZNF (h:¬ c.2.1=8):c.2.2.2.2.2.2.1=fOp c k:=(if_neg h).symm
theorem ZNG (h:c.2.1=8):Zac 1 (ZiG c k)=rz3 c k:=(if_pos h).symm
theorem ZNH (h:¬ c.2.1=8):ZiG c k=rz3 c k:=(if_neg h).symm
theorem ZKU (h:ZaX c.2.1=true):(tkT k).2=ZAK c k:=(if_pos h).symm
theorem ZKV (h:ZaX c.2.1=false):c.2.2.1=ZAK c k:=(if_neg (by rw [h]; decide)).symm
theorem ZKW (h:ZaX c.2.1=true):Zac 1 (rz3 c k)=rz4 c k:=(if_pos h).symm
theorem ZKX (h:ZaX c.2.1=false):rz3 c k=rz4 c k:=(if_neg (by rw [h]; decide)).symm
theorem ZNI (h:c.2.1=14):(tkT k).2=fTo c k:=(if_pos h).symm
theorem ZNJ (h:¬ c.2.1=14):c.2.2.2.1=fTo c k:=(if_neg h).symm
theorem ZNK (h:c.2.1=14):Zac 1 (rz4 c k)=rz5 c k:=(if_pos h).symm
theorem ZNL (h:¬ c.2.1=14):rz4 c k=rz5 c k:=(if_neg h).symm
theorem ZCT (h:fl7 c.2.1=true):rz6 c k=ZdC (rz5 c k):=if_pos h
theorem ZCU (h:fl7 c.2.1=false):rz6 c k=rz5 c k:=if_neg (by rw [h]; decide)
theorem ZNM (h:fl7 c.2.1=true) (h2:(boI ZaB (Ze8 k) 0).2=true):(boI ZaB (Ze8 k) 0).1=fFl c k:=by
 unfold fFl
 rw [if_pos h,if_pos h2]
theorem ZNN (h:fl7 c.2.1=true) (h2:(boI ZaB (Ze8 k) 0).2=false) : -1=fFl c k:=by
 unfold fFl
 rw [if_pos h,if_neg (by rw [h2]; decide)]
theorem ZNO (h:fl7 c.2.1=false):c.2.2.2.2.2.2.2.1=fFl c k:=(if_neg (by rw [h]; decide)).symm
theorem ZNP (h:fl7 c.2.1=true) (h2:c.2.1=11):(tkT (ZdC (rz5 c k))).2=fTx c (rz6 c k):=by
 rw [ZCT h]
 exact (if_pos h2).symm
theorem ZNQ (h:fl7 c.2.1=false) (h2:c.2.1=11):(tkT (rz5 c k)).2=fTx c (rz6 c k):=by
 rw [ZCU h]
 exact (if_pos h2).symm
theorem ZNR (h2:¬ c.2.1=11):c.2.2.2.2.2.2.2.2.1=fTx c (rz6 c k):=(if_neg h2).symm
theorem ZIM (h:fl7 c.2.1=true) (h2:c.2.1=6) (h3:rdB (ZdC (rz5 c k))=true):rdI (ZdC (rz5 c k))=fFi c (rz6 c k):=by
 rw [ZCT h]
 unfold fFi
 rw [if_pos h2,if_pos h3]
theorem ZIN (h:fl7 c.2.1=true) (h2:c.2.1=6) (h3:rdB (ZdC (rz5 c k))=false):(true,[])=fFi c (rz6 c k):=by
 rw [ZCT h]
 unfold fFi
 rw [if_pos h2,if_neg (by rw [h3]; decide)]
theorem ZIO (h:fl7 c.2.1=false) (h2:c.2.1=6) (h3:rdB (rz5 c k)=true):rdI (rz5 c k)=fFi c (rz6 c k):=by
 rw [ZCU h]
 unfold fFi
 rw [if_pos h2,if_pos h3]
theorem ZIP (h:fl7 c.2.1=false) (h2:c.2.1=6) (h3:rdB (rz5 c k)=false):(true,[])=fFi c (rz6 c k):=by
 rw [ZCU h]
 unfold fFi
 rw [if_pos h2,if_neg (by rw [h3]; decide)]
theorem ZFB (h:¬ c.2.1=6):c.2.2.2.2.2.2.2.2.2=fFi c (rz6 c k):=(if_neg h).symm
theorem ZIQ (h:c.2.1=11):c.2.2.2.2.2.2.2.2.2=fFi c (rz6 c k):=ZFB (by omega)
theorem ZQA (h:fl7 c.2.1=true) (h2:c.2.1=11):Zac 1 (ZdC (rz5 c k))=ZpB c k:=by
 unfold ZpB
 rw [ZCT h]
 exact (if_pos h2).symm
theorem ZQB (h:fl7 c.2.1=true) (h2:¬ c.2.1=11):ZdC (rz5 c k)=ZpB c k:=by
 unfold ZpB
 rw [ZCT h]
 exact (if_neg h2).symm
theorem ZQC (h:fl7 c.2.1=false) (h2:c.2.1=11):Zac 1 (rz5 c k)=ZpB c k:=by
 unfold ZpB
 rw [ZCU h]
 exact (if_pos h2).symm
theorem ZQD (h:fl7 c.2.1=false) (h2:¬ c.2.1=11):rz5 c k=ZpB c k:=by
 unfold ZpB
 rw [ZCU h]
 exact (if_neg h2).symm
theorem ZO9 {l:List GToken} (h:Zef l):(Ze8 l).length≤1048576:=Nat.le_trans (Zr6 l) h.1
end
attribute [local irreducible] Zi6 ZiG fOp rz3 ZAK rz4 fTo rz5 fFl rz6 fTx fFi ZpB ZfB tkT Ze8 ZdC rdB rdI boI rsL opV grK
def Zlb (k:List GToken) (c:GCommand):Nat→List AV→Mem→Zbe
 | 1000002,tm,M=>⟨Unit,fun _=>(Zcp (ZcG tm []) 15 11,ZgY M [(0, .box [.hs .no Zab (ZiG c k)]),(1, .box [.str c.1, .int .i64 c.2.1, .str c.2.2.1, .str c.2.2.2.1, .bool c.2.2.2.2.1, .row 2 0, .int .i64 c.2.2.2.2.2.2.1, .int .i64 c.2.2.2.2.2.2.2.1, .str c.2.2.2.2.2.2.2.2.1, .bool c.2.2.2.2.2.2.2.2.2.1, .row 3 0]),(2, .row Zai (Zi6 c k) 0 0 none)]),fun _=>True,fun _=>0⟩
 | 1000004,tm,M=>⟨Unit,fun _=>(Zcp (ZcG tm []) 30 11,ZgY M [(0, .box [.hs .no Zab (rz3 c k)]),(1, .box [.str c.1, .int .i64 c.2.1, .str c.2.2.1, .str c.2.2.2.1, .bool c.2.2.2.2.1, .row 2 0, .int .i64 (fOp c (ZiG c k)), .int .i64 c.2.2.2.2.2.2.2.1, .str c.2.2.2.2.2.2.2.2.1, .bool c.2.2.2.2.2.2.2.2.2.1, .row 3 0]),(2, .row Zai (Zi6 c k) 0 0 none)]),fun _=>True,fun _=>0⟩
 | 1000006,tm,M=>⟨Unit,fun _=>(Zcp (ZcG tm []) 45 7,ZgY M [(0, .box [.hs .no Zab (rz4 c k)]),(1, .box [.str c.1, .int .i64 c.2.1, .str (ZAK c (rz3 c k)), .str c.2.2.2.1, .bool c.2.2.2.2.1, .row 2 0, .int .i64 (fOp c (ZiG c k)), .int .i64 c.2.2.2.2.2.2.2.1, .str c.2.2.2.2.2.2.2.2.1, .bool c.2.2.2.2.2.2.2.2.2.1, .row 3 0]),(2, .row Zai (Zi6 c k) 0 0 none)]),fun _=>True,fun _=>0⟩
 | 1000008,tm,M=>⟨Unit,fun _=>(Zcp (ZcG tm []) 56 7,ZgY M [(0, .box [.hs .no Zab (rz5 c k)]),(1, .box [.str c.1, .int .i64 c.2.1, .str (ZAK c (rz3 c k)), .str (fTo c (rz4 c k)), .bool c.2.2.2.2.1, .row 2 0, .int .i64 (fOp c (ZiG c k)), .int .i64 c.2.2.2.2.2.2.2.1, .str c.2.2.2.2.2.2.2.2.1, .bool c.2.2.2.2.2.2.2.2.2.1, .row 3 0]),(2, .row Zai (Zi6 c k) 0 0 none)]),fun _=>True,fun _=>0⟩
 | _,_,_=>⟨Unit,fun _=>([],[]),fun _=>False,fun _=>0⟩
def Zd4 (c:GCommand) (k:List GToken):Prop:=cI (fOp c (ZiG c k)) (Za8 c k).2.2.2.2.2.2.1
def Zd5 (c:GCommand) (k:List GToken):Prop:=cS (fTo c (rz4 c k)) (Za8 c k).2.2.2.1
def Zd6 (c:GCommand) (k:List GToken):Prop:=cS (ZAK c (rz3 c k)) (Za8 c k).2.2.1
def Zd7 (c:GCommand) (k:List GToken):Prop:=cB c.2.2.2.2.1 (Za8 c k).2.2.2.2.1
def ZfY (c:GCommand) (k:List GToken):Prop:=cS c.2.2.2.2.2.2.2.2.1 (Za8 c k).2.2.2.2.2.2.2.2.1
def Zd8 (c:GCommand) (k:List GToken):Prop:=cI c.2.1 (Za8 c k).2.1
def ZrL (c:GCommand) (k:List GToken):List AC:=[.str c.1, .int .i64 c.2.1, .str (ZAK c (rz3 c k)), .str c.2.2.2.1, .bool c.2.2.2.2.1, .row 2 0, .int .i64 (fOp c (ZiG c k)), .int .i64 c.2.2.2.2.2.2.2.1, .str c.2.2.2.2.2.2.2.2.1, .bool c.2.2.2.2.2.2.2.2.2.1, .row 3 0]
def ZrM (c:GCommand) (k:List GToken):List AC:=[.str c.1, .int .i64 c.2.1, .str c.2.2.1, .str c.2.2.2.1, .bool c.2.2.2.2.1, .row 2 0, .int .i64 (fOp c (ZiG c k)), .int .i64 c.2.2.2.2.2.2.2.1, .str c.2.2.2.2.2.2.2.2.1, .bool c.2.2.2.2.2.2.2.2.2.1, .row 3 0]
def ZrN (c:GCommand):List AC:=[.str c.1, .int .i64 c.2.1, .str c.2.2.1, .str c.2.2.2.1, .bool c.2.2.2.2.1, .row 2 0, .int .i64 c.2.2.2.2.2.2.1, .int .i64 c.2.2.2.2.2.2.2.1, .str c.2.2.2.2.2.2.2.2.1, .bool c.2.2.2.2.2.2.2.2.2.1, .row 3 0]
def Zja (c:GCommand) (k:List GToken):Prop:=(true=true∧leC (.hs .no Zab (ZdC (rz5 c k))) (.hs .no Zab (ZpB c k)))∧True
def ZgF (c:GCommand) (k:List GToken):Prop:=cB c.2.2.2.2.2.2.2.2.2.1 (Za8 c k).2.2.2.2.2.2.2.2.2.1
def ZcX (c:GCommand) (k:List GToken):Prop:=cS c.1 (Za8 c k).1
def ZjN (c:GCommand) (k:List GToken):Prop:=cI (boI ZaB (Ze8 (rz5 c k)) 0).1 (Za8 c k).2.2.2.2.2.2.2.1
def ZrO (c:GCommand) (k:List GToken):List AC:=[.str c.1, .int .i64 c.2.1, .str (ZAK c (rz3 c k)), .str (fTo c (rz4 c k)), .bool c.2.2.2.2.1, .row 2 0, .int .i64 (fOp c (ZiG c k)), .int .i64 c.2.2.2.2.2.2.2.1, .str c.2.2.2.2.2.2.2.2.1, .bool c.2.2.2.2.2.2.2.2.2.1, .row 3 0]
def ZjO (c:GCommand) (k:List GToken):Prop:=cI c.2.2.2.2.2.2.2.1 (Za8 c k).2.2.2.2.2.2.2.1
def ZjP (c:GCommand) (k:List GToken):Prop:=cI (-1) (Za8 c k).2.2.2.2.2.2.2.1
def ZmJ (c:GCommand) (k:List GToken):Prop:=(true=true∧leC (.hs .no Zab (rz5 c k)) (.hs .no Zab (ZpB c k)))∧True
theorem Zlc (k:List GToken) (c:GCommand) (hpre:Zef k):ZdE Tryz.prog 43 (Zdw 0 [(.b (.list Zab)),(.m ZaH)] (k,c,())) (ZgX 0 [(.b (.list Zab)),(.m ZaH)] (k,c,())) (ZdR 0 [(.b (.list Zab)),(.m ZaH)] ((ZpB c k),(Za8 c k),()) ++ [.row Zab (ZfB c k) 0 0 none]) (inpM 0 [(.b (.list Zab)),(.m ZaH)]) (.c (.row 4 0)):=by
 refine Zce (T:=⟨[Zng,Zxn,ZAZ,Znf,ZeR,Znz,ZrC,ZpO],[],[],[Zc2,Zhu],none,fun i=>match i with | 1000002=>[⟨some 0,0,Zao⟩] | 1000004=>[⟨some 0,0,Zao⟩] | 1000006=>[⟨some 0,0,Zao⟩] | 1000008=>[⟨some 0,0,Zao⟩] | _=>[],4,[],[]⟩) (L:=(Zlb k c)) Tryz.func43 rfl rfl rfl (by kernel_rfl) (fun hwf hwm=>?_)
 refine Eq.mpr (β:=T5 (pt True∧(bif Zbj c.2.1 then T2 (pt (True∧((true=true∧leC (.hs .no Zab k) (.hs .no Zab k))∧True)∧True)∧True∧pt (ByteArray.size (tkT k).2≤1048576)∧T6 (∃ _:Unit,True∧lxs [.c (.bp 0 0), .c (.bp 1 0), .tp [], .tp [], .c (.raw (.slice none 0 0))] (tpn 6 (lxs [.c (.bp 1 0), .c (.bp 1 0), .c (.bp 1 1),ci c.2.1] (TN 11 (tpn 90 True))))∧pt (leB (.box [.hs .no Zab (Zac 1 k)]) (.box [.hs .no Zab (ZiG c k)])∧lb (.box (ZrN c))∧leB (.row Zai (rsL (tkT k).2) 0 0 none) (.row Zai (Zi6 c k) 0 0 none)∧lb (.row Zae c.2.2.2.2.2.2.2.2.2.2 0 0 none)∧True))) else (∃ _:Unit,True∧lxs [.c (.bp 0 0), .c (.bp 1 0), .tp [], .tp [], .c (.raw (.slice none 0 0))] (tpn 6 (lxs [.c (.bp 1 0), .c (.bp 1 0), .c (.bp 1 1),ci c.2.1] (TN 11 (tpn 90 True))))∧pt (leB (.box [.hs .no Zab k]) (.box [.hs .no Zab (ZiG c k)])∧lb (.box (ZrN c))∧leB (.row Zai c.2.2.2.2.2.1 0 0 none) (.row Zai (Zi6 c k) 0 0 none)∧lb (.row Zae c.2.2.2.2.2.2.2.2.2.2 0 0 none)∧True)))∧∀ _:Unit,True→T5 ((bif eqI c.2.1 8 then T2 (pt (True∧((true=true∧leC (.hs .no Zab (ZiG c k)) (.hs .no Zab (ZiG c k)))∧True)∧True)∧True∧pt True∧T6 (∃ _:Unit,True∧lxs [.c (.bp 0 0), .c (.bp 1 0), .tp [], .tp [], .c (.raw (.slice none 0 0))] (tpn 6 (lxs [.c (.bp 1 0), .c (.bp 1 0), .c (.bp 1 1),ci c.2.1] (TN 11 (lxs [.c (.bp 1 0), .c (.bp 1 0), .c (.bp 1 1),ci c.2.1] (TN 11 (tpn 75 True))))))∧pt (leB (.box [.hs .no Zab (Zac 1 (ZiG c k))]) (.box [.hs .no Zab (rz3 c k)])∧leB (.box [.str c.1, .int .i64 c.2.1, .str c.2.2.1, .str c.2.2.2.1, .bool c.2.2.2.2.1, .row 2 0, .int .i64 (opV (tkT (ZiG c k)).2), .int .i64 c.2.2.2.2.2.2.2.1, .str c.2.2.2.2.2.2.2.2.1, .bool c.2.2.2.2.2.2.2.2.2.1, .row 3 0]) (.box (ZrM c k))∧lb (.row Zai (Zi6 c k) 0 0 none)∧lb (.row Zae c.2.2.2.2.2.2.2.2.2.2 0 0 none)∧True))) else (∃ _:Unit,True∧lxs [.c (.bp 0 0), .c (.bp 1 0), .tp [], .tp [], .c (.raw (.slice none 0 0))] (tpn 6 (lxs [.c (.bp 1 0), .c (.bp 1 0), .c (.bp 1 1),ci c.2.1] (TN 11 (lxs [.c (.bp 1 0), .c (.bp 1 0), .c (.bp 1 1),ci c.2.1] (TN 11 (tpn 75 True))))))∧pt (leB (.box [.hs .no Zab (ZiG c k)]) (.box [.hs .no Zab (rz3 c k)])∧leB (.box (ZrN c)) (.box (ZrM c k))∧lb (.row Zai (Zi6 c k) 0 0 none)∧lb (.row Zae c.2.2.2.2.2.2.2.2.2.2 0 0 none)∧True)))∧∀ _:Unit,True→T4 (pt True∧(bif ZaX c.2.1 then T2 (pt (True∧((true=true∧leC (.hs .no Zab (rz3 c k)) (.hs .no Zab (rz3 c k)))∧True)∧True)∧T4 (∃ _:Unit,True∧lxs [.c (.bp 0 0), .c (.bp 1 0), .tp [], .tp [], .c (.raw (.slice none 0 0))] (tpn 6 (lxs [.c (.bp 1 0), .c (.bp 1 0), .c (.bp 1 1),ci c.2.1] (TN 11 (lxs [.c (.bp 1 0), .c (.bp 1 0), .c (.bp 1 1),ci c.2.1] (TN 11 (lxs [.c (.bp 1 0), .c (.bp 1 0), .c (.bp 1 1),ci c.2.1] (TN 7 (tpn 64 True))))))))∧pt (leB (.box [.hs .no Zab (Zac 1 (rz3 c k))]) (.box [.hs .no Zab (rz4 c k)])∧leB (.box [.str c.1, .int .i64 c.2.1, .str (tkT (rz3 c k)).2, .str c.2.2.2.1, .bool c.2.2.2.2.1, .row 2 0, .int .i64 (fOp c (ZiG c k)), .int .i64 c.2.2.2.2.2.2.2.1, .str c.2.2.2.2.2.2.2.2.1, .bool c.2.2.2.2.2.2.2.2.2.1, .row 3 0]) (.box (ZrL c k))∧lb (.row Zai (Zi6 c k) 0 0 none)∧lb (.row Zae c.2.2.2.2.2.2.2.2.2.2 0 0 none)∧True))) else (∃ _:Unit,True∧lxs [.c (.bp 0 0), .c (.bp 1 0), .tp [], .tp [], .c (.raw (.slice none 0 0))] (tpn 6 (lxs [.c (.bp 1 0), .c (.bp 1 0), .c (.bp 1 1),ci c.2.1] (TN 11 (lxs [.c (.bp 1 0), .c (.bp 1 0), .c (.bp 1 1),ci c.2.1] (TN 11 (lxs [.c (.bp 1 0), .c (.bp 1 0), .c (.bp 1 1),ci c.2.1] (TN 7 (tpn 64 True))))))))∧pt (leB (.box [.hs .no Zab (rz3 c k)]) (.box [.hs .no Zab (rz4 c k)])∧leB (.box (ZrM c k)) (.box (ZrL c k))∧lb (.row Zai (Zi6 c k) 0 0 none)∧lb (.row Zae c.2.2.2.2.2.2.2.2.2.2 0 0 none)∧True)))∧∀ _:Unit,True→T5 ((bif eqI c.2.1 14 then T2 (pt (True∧((true=true∧leC (.hs .no Zab (rz4 c k)) (.hs .no Zab (rz4 c k)))∧True)∧True)∧T4 (∃ _:Unit,True∧lxs [.c (.bp 0 0), .c (.bp 1 0), .tp [], .tp [], .c (.raw (.slice none 0 0))] (tpn 6 (lxs [.c (.bp 1 0), .c (.bp 1 0), .c (.bp 1 1),ci c.2.1] (TN 11 (lxs [.c (.bp 1 0), .c (.bp 1 0), .c (.bp 1 1),ci c.2.1] (TN 11 (lxs [.c (.bp 1 0), .c (.bp 1 0), .c (.bp 1 1),ci c.2.1] (TN 7 (lxs [.c (.bp 1 0), .c (.bp 1 0), .c (.bp 1 1),ci c.2.1] (TN 7 (tpn 53 True))))))))))∧pt (leB (.box [.hs .no Zab (Zac 1 (rz4 c k))]) (.box [.hs .no Zab (rz5 c k)])∧leB (.box [.str c.1, .int .i64 c.2.1, .str (ZAK c (rz3 c k)), .str (tkT (rz4 c k)).2, .bool c.2.2.2.2.1, .row 2 0, .int .i64 (fOp c (ZiG c k)), .int .i64 c.2.2.2.2.2.2.2.1, .str c.2.2.2.2.2.2.2.2.1, .bool c.2.2.2.2.2.2.2.2.2.1, .row 3 0]) (.box (ZrO c k))∧lb (.row Zai (Zi6 c k) 0 0 none)∧lb (.row Zae c.2.2.2.2.2.2.2.2.2.2 0 0 none)∧True))) else (∃ _:Unit,True∧lxs [.c (.bp 0 0), .c (.bp 1 0), .tp [], .tp [], .c (.raw (.slice none 0 0))] (tpn 6 (lxs [.c (.bp 1 0), .c (.bp 1 0), .c (.bp 1 1),ci c.2.1] (TN 11 (lxs [.c (.bp 1 0), .c (.bp 1 0), .c (.bp 1 1),ci c.2.1] (TN 11 (lxs [.c (.bp 1 0), .c (.bp 1 0), .c (.bp 1 1),ci c.2.1] (TN 7 (lxs [.c (.bp 1 0), .c (.bp 1 0), .c (.bp 1 1),ci c.2.1] (TN 7 (tpn 53 True))))))))))∧pt (leB (.box [.hs .no Zab (rz4 c k)]) (.box [.hs .no Zab (rz5 c k)])∧leB (.box (ZrL c k)) (.box (ZrO c k))∧lb (.row Zai (Zi6 c k) 0 0 none)∧lb (.row Zae c.2.2.2.2.2.2.2.2.2.2 0 0 none)∧True)))∧∀ _:Unit,True→T6 (pt True∧bif fl7 c.2.1 then True∧pt (List.length (rz5 c k)≤1048576∧((true=true∧leC (.hs .no Zab (rz5 c k)) (.hs .no Zab (rz5 c k)))∧True)∧True)∧T2 ((List.length (Ze8 (rz5 c k))≤1048576∧pt (true=true))∧T6 ((True∧pt (true=true))∧T6 (bif (boI ZaB (Ze8 (rz5 c k)) 0).2 then T11 (bif eqI c.2.1 11 then T2 (pt (True∧((true=true∧leC (.hs .no Zab (ZdC (rz5 c k))) (.hs .no Zab (ZdC (rz5 c k))))∧True)∧True)∧T6 (pt ((((true=true∧leC (.hs .no Zab (Zac 1 (ZdC (rz5 c k)))) (.hs .no Zab (ZpB c k)))∧True)∧(ZcX c k∧Zd8 c k∧Zd6 c k∧Zd5 c k∧Zd7 c k∧(Zi6 c k)=(Za8 c k).2.2.2.2.2.1∧Zd4 c k∧ZjN c k∧cS (tkT (ZdC (rz5 c k))).2 (Za8 c k).2.2.2.2.2.2.2.2.1∧ZgF c k∧c.2.2.2.2.2.2.2.2.2.2=(Za8 c k).2.2.2.2.2.2.2.2.2.2∧True)∧True)∧(grK (Ze8 (rz5 c k)))=ZfB c k))) else T2 (bif eqI c.2.1 6 then T4 (pt (List.length (ZdC (rz5 c k))≤1048576)∧T8 (bif !(rdB (ZdC (rz5 c k))) then T9 (pt (((Zja c k)∧(ZcX c k∧Zd8 c k∧Zd6 c k∧Zd5 c k∧Zd7 c k∧(Zi6 c k)=(Za8 c k).2.2.2.2.2.1∧Zd4 c k∧ZjN c k∧ZfY c k∧cB true (Za8 c k).2.2.2.2.2.2.2.2.2.1∧(Za8 c k).2.2.2.2.2.2.2.2.2.2=[]∧True)∧True)∧(grK (Ze8 (rz5 c k)))=ZfB c k)) else T7 (pt (((Zja c k)∧(ZcX c k∧Zd8 c k∧Zd6 c k∧Zd5 c k∧Zd7 c k∧(Zi6 c k)=(Za8 c k).2.2.2.2.2.1∧Zd4 c k∧ZjN c k∧ZfY c k∧cB (rdI (ZdC (rz5 c k))).1 (Za8 c k).2.2.2.2.2.2.2.2.2.1∧(rdI (ZdC (rz5 c k))).2=(Za8 c k).2.2.2.2.2.2.2.2.2.2∧True)∧True)∧(grK (Ze8 (rz5 c k)))=ZfB c k)))) else T2 (pt (((Zja c k)∧(ZcX c k∧Zd8 c k∧Zd6 c k∧Zd5 c k∧Zd7 c k∧(Zi6 c k)=(Za8 c k).2.2.2.2.2.1∧Zd4 c k∧ZjN c k∧ZfY c k∧ZgF c k∧c.2.2.2.2.2.2.2.2.2.2=(Za8 c k).2.2.2.2.2.2.2.2.2.2∧True)∧True)∧(grK (Ze8 (rz5 c k)))=ZfB c k)))) else T6 (bif eqI c.2.1 11 then T2 (pt (True∧((true=true∧leC (.hs .no Zab (ZdC (rz5 c k))) (.hs .no Zab (ZdC (rz5 c k))))∧True)∧True)∧T6 (pt ((((true=true∧leC (.hs .no Zab (Zac 1 (ZdC (rz5 c k)))) (.hs .no Zab (ZpB c k)))∧True)∧(ZcX c k∧Zd8 c k∧Zd6 c k∧Zd5 c k∧Zd7 c k∧(Zi6 c k)=(Za8 c k).2.2.2.2.2.1∧Zd4 c k∧ZjP c k∧cS (tkT (ZdC (rz5 c k))).2 (Za8 c k).2.2.2.2.2.2.2.2.1∧ZgF c k∧c.2.2.2.2.2.2.2.2.2.2=(Za8 c k).2.2.2.2.2.2.2.2.2.2∧True)∧True)∧(grK (Ze8 (rz5 c k)))=ZfB c k))) else T2 (bif eqI c.2.1 6 then T4 (pt (List.length (ZdC (rz5 c k))≤1048576)∧T8 (bif !(rdB (ZdC (rz5 c k))) then T9 (pt (((Zja c k)∧(ZcX c k∧Zd8 c k∧Zd6 c k∧Zd5 c k∧Zd7 c k∧(Zi6 c k)=(Za8 c k).2.2.2.2.2.1∧Zd4 c k∧ZjP c k∧ZfY c k∧cB true (Za8 c k).2.2.2.2.2.2.2.2.2.1∧(Za8 c k).2.2.2.2.2.2.2.2.2.2=[]∧True)∧True)∧(grK (Ze8 (rz5 c k)))=ZfB c k)) else T7 (pt (((Zja c k)∧(ZcX c k∧Zd8 c k∧Zd6 c k∧Zd5 c k∧Zd7 c k∧(Zi6 c k)=(Za8 c k).2.2.2.2.2.1∧Zd4 c k∧ZjP c k∧ZfY c k∧cB (rdI (ZdC (rz5 c k))).1 (Za8 c k).2.2.2.2.2.2.2.2.2.1∧(rdI (ZdC (rz5 c k))).2=(Za8 c k).2.2.2.2.2.2.2.2.2.2∧True)∧True)∧(grK (Ze8 (rz5 c k)))=ZfB c k)))) else T2 (pt (((Zja c k)∧(ZcX c k∧Zd8 c k∧Zd6 c k∧Zd5 c k∧Zd7 c k∧(Zi6 c k)=(Za8 c k).2.2.2.2.2.1∧Zd4 c k∧ZjP c k∧ZfY c k∧ZgF c k∧c.2.2.2.2.2.2.2.2.2.2=(Za8 c k).2.2.2.2.2.2.2.2.2.2∧True)∧True)∧(grK (Ze8 (rz5 c k)))=ZfB c k))))))) else T6 (bif eqI c.2.1 11 then T2 (pt (True∧((true=true∧leC (.hs .no Zab (rz5 c k)) (.hs .no Zab (rz5 c k)))∧True)∧True)∧T6 (pt ((((true=true∧leC (.hs .no Zab (Zac 1 (rz5 c k))) (.hs .no Zab (ZpB c k)))∧True)∧(ZcX c k∧Zd8 c k∧Zd6 c k∧Zd5 c k∧Zd7 c k∧(Zi6 c k)=(Za8 c k).2.2.2.2.2.1∧Zd4 c k∧ZjO c k∧cS (tkT (rz5 c k)).2 (Za8 c k).2.2.2.2.2.2.2.2.1∧ZgF c k∧c.2.2.2.2.2.2.2.2.2.2=(Za8 c k).2.2.2.2.2.2.2.2.2.2∧True)∧True)∧([]:List GToken)=ZfB c k))) else T2 (bif eqI c.2.1 6 then T4 (pt (List.length (rz5 c k)≤1048576)∧T8 (bif !(rdB (rz5 c k)) then T9 (pt (((ZmJ c k)∧(ZcX c k∧Zd8 c k∧Zd6 c k∧Zd5 c k∧Zd7 c k∧(Zi6 c k)=(Za8 c k).2.2.2.2.2.1∧Zd4 c k∧ZjO c k∧ZfY c k∧cB true (Za8 c k).2.2.2.2.2.2.2.2.2.1∧(Za8 c k).2.2.2.2.2.2.2.2.2.2=[]∧True)∧True)∧([]:List GToken)=ZfB c k)) else T7 (pt (((ZmJ c k)∧(ZcX c k∧Zd8 c k∧Zd6 c k∧Zd5 c k∧Zd7 c k∧(Zi6 c k)=(Za8 c k).2.2.2.2.2.1∧Zd4 c k∧ZjO c k∧ZfY c k∧cB (rdI (rz5 c k)).1 (Za8 c k).2.2.2.2.2.2.2.2.2.1∧(rdI (rz5 c k)).2=(Za8 c k).2.2.2.2.2.2.2.2.2.2∧True)∧True)∧([]:List GToken)=ZfB c k)))) else T2 (pt (((ZmJ c k)∧(ZcX c k∧Zd8 c k∧Zd6 c k∧Zd5 c k∧Zd7 c k∧(Zi6 c k)=(Za8 c k).2.2.2.2.2.1∧Zd4 c k∧ZjO c k∧ZfY c k∧ZgF c k∧c.2.2.2.2.2.2.2.2.2.2=(Za8 c k).2.2.2.2.2.2.2.2.2.2∧True)∧True)∧([]:List GToken)=ZfB c k)))))))))) (by kernel_rfl) ?_
 unfold ZmJ ZjP ZjO ZrO ZjN ZcX ZgF Zja ZrN ZrM ZrL Zd8 ZfY Zd7 Zd6 Zd5 Zd4 T11 T2 T4 T5 T6 T7 T8 T9
 have h0:Zef k:=hpre
 simp only [Zzh,Zd9,ZeS,ZnA,true_and,and_true,Zdj,eq_self]
 repeat' (with_reducible first | exact trivial | apply And.intro | intro _)
 all_goals first
  | (with_reducible trivial)
  | omega
  | (with_reducible assumption)
  | exact ZFA h0
  | exact (ZMn h0).1
  | exact (ZFz (ZMn h0)).1
  | exact ZO9 (ZMn h0)
  | exact ⟨(),ZKS (by with_reducible assumption),ZKQ (by with_reducible assumption)⟩
  | exact ⟨(),ZKT (by with_reducible assumption),ZKR (by with_reducible assumption)⟩
  | exact ⟨(),ZNG (by with_reducible assumption),ZNE (by with_reducible assumption)⟩
  | exact ⟨(),ZNH (by with_reducible assumption),ZNF (by with_reducible assumption)⟩
  | exact ⟨(),ZKW (by with_reducible assumption),ZKU (by with_reducible assumption)⟩
  | exact ⟨(),ZKX (by with_reducible assumption),ZKV (by with_reducible assumption)⟩
  | exact ⟨(),ZNK (by with_reducible assumption),ZNI (by with_reducible assumption)⟩
  | exact ⟨(),ZNL (by with_reducible assumption),ZNJ (by with_reducible assumption)⟩
  | exact rfl
  | exact ZNC (by with_reducible assumption)
  | exact ZND (by with_reducible assumption)
  | exact ZNM (by with_reducible assumption) (by with_reducible assumption)
  | exact ZNN (by with_reducible assumption) (by with_reducible assumption)
  | exact ZNO (by with_reducible assumption)
  | exact ZNP (by with_reducible assumption) (by with_reducible assumption)
  | exact ZNQ (by with_reducible assumption) (by with_reducible assumption)
  | exact ZNR (by with_reducible assumption)
  | exact ZQA (by with_reducible assumption) (by with_reducible assumption)
  | exact ZQB (by with_reducible assumption) (by with_reducible assumption)
  | exact ZQC (by with_reducible assumption) (by with_reducible assumption)
  | exact ZQD (by with_reducible assumption) (by with_reducible assumption)
  | exact congrArg Prod.fst (ZIM (by with_reducible assumption) (by with_reducible assumption) (by with_reducible assumption))
  | exact congrArg Prod.snd (ZIM (by with_reducible assumption) (by with_reducible assumption) (by with_reducible assumption))
  | exact (congrArg Prod.snd (ZIM (by with_reducible assumption) (by with_reducible assumption) (by with_reducible assumption))).symm
  | exact congrArg Prod.fst (ZIN (by with_reducible assumption) (by with_reducible assumption) (by with_reducible assumption))
  | exact congrArg Prod.snd (ZIN (by with_reducible assumption) (by with_reducible assumption) (by with_reducible assumption))
  | exact (congrArg Prod.snd (ZIN (by with_reducible assumption) (by with_reducible assumption) (by with_reducible assumption))).symm
  | exact congrArg Prod.fst (ZIO (by with_reducible assumption) (by with_reducible assumption) (by with_reducible assumption))
  | exact congrArg Prod.snd (ZIO (by with_reducible assumption) (by with_reducible assumption) (by with_reducible assumption))
  | exact (congrArg Prod.snd (ZIO (by with_reducible assumption) (by with_reducible assumption) (by with_reducible assumption))).symm
  | exact congrArg Prod.fst (ZIP (by with_reducible assumption) (by with_reducible assumption) (by with_reducible assumption))
  | exact congrArg Prod.snd (ZIP (by with_reducible assumption) (by with_reducible assumption) (by with_reducible assumption))
  | exact (congrArg Prod.snd (ZIP (by with_reducible assumption) (by with_reducible assumption) (by with_reducible assumption))).symm
  | exact congrArg Prod.fst (ZFB (by with_reducible assumption))
  | exact congrArg Prod.snd (ZFB (by with_reducible assumption))
  | exact (congrArg Prod.snd (ZFB (by with_reducible assumption))).symm
  | exact congrArg Prod.fst (ZIQ (by with_reducible assumption))
  | exact congrArg Prod.snd (ZIQ (by with_reducible assumption))
  | exact (congrArg Prod.snd (ZIQ (by with_reducible assumption))).symm
def Zld:Zct Tryz.prog:=⟨43,[(.b (.list Zab)),(.m ZaH)],fun x=>Zef x.1,fun x=>((ZpB x.2.1 x.1),(Za8 x.2.1 x.1),()),fun x=>.c (.row 4 0),fun x=>[.row Zab (ZfB x.2.1 x.1) 0 0 none],fun x hx=>Zlc x.1 x.2.1 hx,Tryz.call43⟩
end Go.Proofs.YtkeglpnnedflnaaGreatDoor
