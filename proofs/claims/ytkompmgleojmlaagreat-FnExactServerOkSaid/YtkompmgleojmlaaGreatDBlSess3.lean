import Derived.Test.YtkompmgleojmlaaGreatDBlSess2
set_option linter.unusedSimpArgs false
set_option linter.unusedVariables false
set_option maxRecDepth 100000
set_option maxHeartbeats 4000000
namespace Go.Proofs.YtkompmgleojmlaaGreat
open Go.ChangeShapes Go.WideShapes Go.ChangeAt Go.RowKit Go.Joins Go.Deep
open GoRep (rep bulk)
theorem ZH2 {n:Nat}:0 < ((n:Nat):Int)↔¬ ((n:Nat):Int)=0:=by omega
theorem Zrb:btw 0 1 4=false:=rfl
theorem Zrc:btw 2 1 4=true:=rfl
theorem Zrd:btw 1 1 4=true:=rfl
theorem Zre:btw 3 1 4=true:=rfl
theorem Zrf:btw 4 1 4=true:=rfl
theorem ZmZ (s:Zac) (hpre:List.length s.2.2.2.2.2.2.2.2.1.1≤rowMax):Zai Tryz.prog 32 [.ag [.bool false, .int .i64 s.2.1, .int .i64 s.2.2.1, .int .i64 s.2.2.2.1, .hs .no Zal s.2.2.2.2.1, .bool s.2.2.2.2.2.1.1, .hs .no Zak s.2.2.2.2.2.1.2, .str s.2.2.2.2.2.2.1, .str s.2.2.2.2.2.2.2.1, .hs .no Zah s.2.2.2.2.2.2.2.2.1.1, .bool s.2.2.2.2.2.2.2.2.1.2.1, .bool s.2.2.2.2.2.2.2.2.1.2.2, .str s.2.2.2.2.2.2.2.2.2.1.1, .bool s.2.2.2.2.2.2.2.2.2.1.2, .str s.2.2.2.2.2.2.2.2.2.2.1.1, .str s.2.2.2.2.2.2.2.2.2.2.1.2, .int .i64 s.2.2.2.2.2.2.2.2.2.2.2]] (.c (.bool (ZaG (false,s.2.1,s.2.2)))) []:=by
  refine Zc2 (T:=⟨[Zei,ZBf,Ze7],[],[],[],none,fun _=>[],0,[],[]⟩) (L:=L0) Tryz.func32 ⟨⟨rfl,rfl⟩,rfl⟩ (fun hwf=>?_)
  refine Eq.mpr (β:=(T4 ((pt True)∧(True∧(bif (!(outOk s.2.2.2.2.2.2.2.2.2.2.1)) then (True∧(rB false (ZaG (false,s.2.1,s.2.2)))) else (T3 ((pt (true=true))∧(T2 ((pt True)∧((True∧pt (true=true))∧(True∧(rB (ZaQ (false,s.2) (Zax (false,s.2))) (ZaG (false,s.2.1,s.2.2)))))))))))))) (by kernel_rfl) ?_
  exact ZuT
def Zk5 (s:Zac):Prop:=(T4 (rB false (ZaG (true,2,s.2.2))))
def Zjx (s:Zac):Prop:=(T4 (Zk5 s))
def Zx4 (s:Zac):Prop:=(T2 ((pt True)∧(T2 (bif btw s.2.2.2.2.2.2.2.2.2.2.2 0 4 then (T4 (bif (eqI s.2.2.2.2.2.2.2.2.2.2.2 0) then (T3 (rB true (ZaG (true,2,s.2.2)))) else (T7 (rB (!eqS s.2.2.2.2.2.2.2.2.2.2.1.1 (⟨#[]⟩:ByteArray)) (ZaG (true,2,s.2.2)))))) else (T2 (rB false (ZaG (true,2,s.2.2))))))))
def Zm0 (s:Zac):Prop:=(T6 (Zjx s))
theorem Zm1 (s:Zac) (hpre:List.length s.2.2.2.2.2.2.2.2.1.1≤rowMax):Zai Tryz.prog 32 [.ag [.bool true, .int .i64 2, .int .i64 s.2.2.1, .int .i64 s.2.2.2.1, .hs .no Zal s.2.2.2.2.1, .bool s.2.2.2.2.2.1.1, .hs .no Zak s.2.2.2.2.2.1.2, .str s.2.2.2.2.2.2.1, .str s.2.2.2.2.2.2.2.1, .hs .no Zah s.2.2.2.2.2.2.2.2.1.1, .bool s.2.2.2.2.2.2.2.2.1.2.1, .bool s.2.2.2.2.2.2.2.2.1.2.2, .str s.2.2.2.2.2.2.2.2.2.1.1, .bool s.2.2.2.2.2.2.2.2.2.1.2, .str s.2.2.2.2.2.2.2.2.2.2.1.1, .str s.2.2.2.2.2.2.2.2.2.2.1.2, .int .i64 s.2.2.2.2.2.2.2.2.2.2.2]] (.c (.bool (ZaG (true,2,s.2.2)))) []:=by
  refine Zc2 (T:=⟨[Zei,Zdv,ZbW,ZdW,Zc0,Zdu,ZgS,ZdX],[],[],[],none,fun _=>[],0,[],[]⟩) (L:=L0) Tryz.func32 ⟨⟨rfl,rfl⟩,rfl⟩ (fun hwf=>?_)
  refine Eq.mpr (β:=(T4 ((pt True)∧(True∧(bif (!(outOk s.2.2.2.2.2.2.2.2.2.2.1)) then (True∧(rB false (ZaG (true,2,s.2.2)))) else (T12 (T6 (bif (neI s.2.2.1 0) then (T2 (Zjx s)) else (T5 (bif (neI s.2.2.2.1 0) then (Zjx s) else (T7 (bif (gtI (List.length s.2.2.2.2.1) 0) then (T2 (Zk5 s)) else (T5 (bif (!eqS s.2.2.2.2.2.2.1 (⟨#[]⟩:ByteArray)) then (Zk5 s) else (T5 (bif s.2.2.2.2.2.2.2.2.1.2.1 then (T2 (rB false (ZaG (true,2,s.2.2)))) else (T2 ((pt (List.length s.2.2.2.2.2.2.2.2.1.1≤rowMax))∧(T3 (bif (gtI (List.length (ZaE s.2.2.2.2.2.2.2.2.1.1 true (List.length s.2.2.2.2.2.2.2.2.1.1))) 0) then (True∧(rB false (ZaG (true,2,s.2.2)))) else (T2 ((pt True)∧(True∧(bif btw 2 1 4 then (T2 ((pt True)∧(T2 (bif btw s.2.2.2.1 0 300 then (T2 ((pt True)∧(T2 (bif ZcM s.2.2.2.2.1 then (T2 ((pt True)∧(T2 (bif ZbC s.2.2.2.2.2.1 then (T2 ((pt True)∧(T2 (bif Zbw s.2.2.2.2.2.2.2.2.1 then (T2 ((pt True)∧(T2 (bif ZwC s.2.2.2.2.2.2.2.2.2.1 then (T2 ((pt True)∧(T2 (bif ZbK s.2.2.2.2.2.2.1 then (T2 ((pt True)∧(T2 (bif ZbK s.2.2.2.2.2.2.2.1 then (T4 (bif (eqS s.2.2.2.2.2.2.1 (⟨#[]⟩:ByteArray)) then (T3 (Zx4 s)) else (T6 (bif (eqS s.2.2.2.2.2.2.2.1 (⟨#[]⟩:ByteArray)) then (Zx4 s) else (Zk5 s))))) else (T2 (Zk5 s)))))) else (Zjx s))))) else (T2 (Zjx s)))))) else (T4 (Zjx s)))))) else (Zm0 s))))) else (T2 (Zm0 s)))))) else (T4 (Zm0 s)))))) else (T6 (Zm0 s)))))))))))))))))))))))))) (by kernel_rfl) ?_
  unfold Zm0 Zx4 Zjx Zk5 T12 T2 T3 T4 T5 T6 T7
  exact ZuT
def Zm2 (s:Zac):Prop:=(T4 (rB false (ZaG (true,3,s.2.2))))
def Zjy (s:Zac):Prop:=(T6 (Zm2 s))
def Zx5 (s:Zac):Prop:=(T2 ((pt True)∧(T2 (bif btw s.2.2.2.2.2.2.2.2.2.2.2 0 4 then (T4 (bif (eqI s.2.2.2.2.2.2.2.2.2.2.2 0) then (T3 (rB true (ZaG (true,3,s.2.2)))) else (T7 (rB (!eqS s.2.2.2.2.2.2.2.2.2.2.1.1 (⟨#[]⟩:ByteArray)) (ZaG (true,3,s.2.2)))))) else (T2 (rB false (ZaG (true,3,s.2.2))))))))
theorem Zm3 (s:Zac) (hpre:List.length s.2.2.2.2.2.2.2.2.1.1≤rowMax):Zai Tryz.prog 32 [.ag [.bool true, .int .i64 3, .int .i64 s.2.2.1, .int .i64 s.2.2.2.1, .hs .no Zal s.2.2.2.2.1, .bool s.2.2.2.2.2.1.1, .hs .no Zak s.2.2.2.2.2.1.2, .str s.2.2.2.2.2.2.1, .str s.2.2.2.2.2.2.2.1, .hs .no Zah s.2.2.2.2.2.2.2.2.1.1, .bool s.2.2.2.2.2.2.2.2.1.2.1, .bool s.2.2.2.2.2.2.2.2.1.2.2, .str s.2.2.2.2.2.2.2.2.2.1.1, .bool s.2.2.2.2.2.2.2.2.2.1.2, .str s.2.2.2.2.2.2.2.2.2.2.1.1, .str s.2.2.2.2.2.2.2.2.2.2.1.2, .int .i64 s.2.2.2.2.2.2.2.2.2.2.2]] (.c (.bool (ZaG (true,3,s.2.2)))) []:=by
  refine Zc2 (T:=⟨[Zei,ZhB,ZbW,ZdW,Zc0,Zdu,ZgS,ZdX],[],[],[],none,fun _=>[],0,[],[]⟩) (L:=L0) Tryz.func32 ⟨⟨rfl,rfl⟩,rfl⟩ (fun hwf=>?_)
  refine Eq.mpr (β:=(T4 ((pt True)∧(True∧(bif (!(outOk s.2.2.2.2.2.2.2.2.2.2.1)) then (True∧(rB false (ZaG (true,3,s.2.2)))) else (T12 (T4 ((pt True)∧(True∧(bif (!(btw s.2.2.1 1 999999999)) then (True∧(rB false (ZaG (true,3,s.2.2)))) else (T2 ((pt True)∧(True∧(bif btw 3 1 4 then (T2 ((pt True)∧(T2 (bif btw s.2.2.2.1 0 300 then (T2 ((pt True)∧(T2 (bif ZcM s.2.2.2.2.1 then (T2 ((pt True)∧(T2 (bif ZbC s.2.2.2.2.2.1 then (T2 ((pt True)∧(T2 (bif Zbw s.2.2.2.2.2.2.2.2.1 then (T2 ((pt True)∧(T2 (bif ZwC s.2.2.2.2.2.2.2.2.2.1 then (T2 ((pt True)∧(T2 (bif ZbK s.2.2.2.2.2.2.1 then (T2 ((pt True)∧(T2 (bif ZbK s.2.2.2.2.2.2.2.1 then (T4 (bif (eqS s.2.2.2.2.2.2.1 (⟨#[]⟩:ByteArray)) then (T3 (Zx5 s)) else (T6 (bif (eqS s.2.2.2.2.2.2.2.1 (⟨#[]⟩:ByteArray)) then (Zx5 s) else (Zm2 s))))) else (T2 (Zm2 s)))))) else (T4 (Zm2 s)))))) else (Zjy s))))) else (T2 (Zjy s)))))) else (T4 (Zjy s)))))) else (T6 (Zjy s)))))) else (T8 (Zjy s)))))) else (T10 (Zjy s)))))))))))))))) (by kernel_rfl) ?_
  unfold Zx5 Zjy Zm2 T10 T12 T2 T3 T4 T6 T7 T8
  simp only [Zdy,eq_self]
  repeat' (first | apply And.intro | intro _)
  all_goals as_aux_lemma=>first
    | trivial
    | omega
    | (show List.length _≤rowMax; assumption)
    | (simp only [ZH2,Zd4] at *; simp_all [ZaG,midI,endI,stI,noB,Zrb,Zrd,Zrc,Zre,Zrf,Zao,ZaB,Zbh,ZaW,ZaU,Za1]; done)
    | (simp_all [ZaG,midI,endI,stI,noB,Zrb,Zrd,Zrc,Zre,Zrf,Zao,ZaB,Zbh,ZaW,ZaU,Za1]; done)
    | (rw [Bool.eq_iff_iff]; simp only [ZH2,Zd4] at *; simp_all [ZaG,midI,endI,stI,noB,Zrb,Zrd,Zrc,Zre,Zrf,Zao,ZaB,Zbh,ZaW,ZaU,Za1]; done)
    | (rw [Bool.eq_iff_iff]; simp_all [ZaG,midI,endI,stI,noB,Zrb,Zrd,Zrc,Zre,Zrf,Zao,ZaB,Zbh,ZaW,ZaU,Za1]; done)
    | (have h3:((List.length s.2.2.2.2.1:Nat):Int)=0:=by omega
       have h4:=(Zd4 s.2.2.2.2.2.2.2.2.1.1).1 (by omega)
       have hB:noB (true,3,s.2.2)=true:=by
         rw [ZzX (s:=(true,3,s.2.2)) (by assumption) (by assumption) h3 (by assumption) (by assumption)]
         exact Zvg
       clear h3 h4
       rw [Bool.eq_iff_iff]
       simp_all [ZaG,midI,endI,stI,Zrb,Zrd,Zrc,Zre,Zrf,Zao,ZaB,Zbh,ZaW,ZaU,Za1]
       done)
def Zk6 (s:Zac):Prop:=(T4 (rB false (ZaG (true,0,s.2.2))))
def Zjz (s:Zac):Prop:=(T4 (Zk6 s))
def Zx6 (s:Zac):Prop:=(T2 ((pt True)∧(T2 (bif btw s.2.2.2.2.2.2.2.2.2.2.2 0 4 then (T4 (bif (eqI s.2.2.2.2.2.2.2.2.2.2.2 0) then (T3 (rB true (ZaG (true,0,s.2.2)))) else (T7 (rB (!eqS s.2.2.2.2.2.2.2.2.2.2.1.1 (⟨#[]⟩:ByteArray)) (ZaG (true,0,s.2.2)))))) else (T2 (rB false (ZaG (true,0,s.2.2))))))))
def Zm4 (s:Zac):Prop:=(T6 (Zjz s))
theorem Zm5 (s:Zac) (hpre:List.length s.2.2.2.2.2.2.2.2.1.1≤rowMax):Zai Tryz.prog 32 [.ag [.bool true, .int .i64 0, .int .i64 s.2.2.1, .int .i64 s.2.2.2.1, .hs .no Zal s.2.2.2.2.1, .bool s.2.2.2.2.2.1.1, .hs .no Zak s.2.2.2.2.2.1.2, .str s.2.2.2.2.2.2.1, .str s.2.2.2.2.2.2.2.1, .hs .no Zah s.2.2.2.2.2.2.2.2.1.1, .bool s.2.2.2.2.2.2.2.2.1.2.1, .bool s.2.2.2.2.2.2.2.2.1.2.2, .str s.2.2.2.2.2.2.2.2.2.1.1, .bool s.2.2.2.2.2.2.2.2.2.1.2, .str s.2.2.2.2.2.2.2.2.2.2.1.1, .str s.2.2.2.2.2.2.2.2.2.2.1.2, .int .i64 s.2.2.2.2.2.2.2.2.2.2.2]] (.c (.bool (ZaG (true,0,s.2.2)))) []:=by
  refine Zc2 (T:=⟨[Zei,Zdv,ZbW,ZdW,Zc0,Zdu,ZgS,ZdX],[],[],[],none,fun _=>[],0,[],[]⟩) (L:=L0) Tryz.func32 ⟨⟨rfl,rfl⟩,rfl⟩ (fun hwf=>?_)
  refine Eq.mpr (β:=(T4 ((pt True)∧(True∧(bif (!(outOk s.2.2.2.2.2.2.2.2.2.2.1)) then (True∧(rB false (ZaG (true,0,s.2.2)))) else (T12 (T6 (bif (neI s.2.2.1 0) then (T2 (Zjz s)) else (T5 (bif (neI s.2.2.2.1 0) then (Zjz s) else (T7 (bif (gtI (List.length s.2.2.2.2.1) 0) then (T2 (Zk6 s)) else (T5 (bif (!eqS s.2.2.2.2.2.2.1 (⟨#[]⟩:ByteArray)) then (Zk6 s) else (T5 (bif s.2.2.2.2.2.2.2.2.1.2.1 then (T2 (rB false (ZaG (true,0,s.2.2)))) else (T2 ((pt (List.length s.2.2.2.2.2.2.2.2.1.1≤rowMax))∧(T3 (bif (gtI (List.length (ZaE s.2.2.2.2.2.2.2.2.1.1 true (List.length s.2.2.2.2.2.2.2.2.1.1))) 0) then (True∧(rB false (ZaG (true,0,s.2.2)))) else (T2 ((pt True)∧(True∧(bif btw 0 1 4 then (T2 ((pt True)∧(T2 (bif btw s.2.2.2.1 0 300 then (T2 ((pt True)∧(T2 (bif ZcM s.2.2.2.2.1 then (T2 ((pt True)∧(T2 (bif ZbC s.2.2.2.2.2.1 then (T2 ((pt True)∧(T2 (bif Zbw s.2.2.2.2.2.2.2.2.1 then (T2 ((pt True)∧(T2 (bif ZwC s.2.2.2.2.2.2.2.2.2.1 then (T2 ((pt True)∧(T2 (bif ZbK s.2.2.2.2.2.2.1 then (T2 ((pt True)∧(T2 (bif ZbK s.2.2.2.2.2.2.2.1 then (T4 (bif (eqS s.2.2.2.2.2.2.1 (⟨#[]⟩:ByteArray)) then (T3 (Zx6 s)) else (T6 (bif (eqS s.2.2.2.2.2.2.2.1 (⟨#[]⟩:ByteArray)) then (Zx6 s) else (Zk6 s))))) else (T2 (Zk6 s)))))) else (Zjz s))))) else (T2 (Zjz s)))))) else (T4 (Zjz s)))))) else (Zm4 s))))) else (T2 (Zm4 s)))))) else (T4 (Zm4 s)))))) else (T6 (Zm4 s)))))))))))))))))))))))))) (by kernel_rfl) ?_
  unfold Zm4 Zx6 Zjz Zk6 T12 T2 T3 T4 T5 T6 T7
  simp only [Zdy,eq_self]
  repeat' (first | apply And.intro | intro _)
  all_goals as_aux_lemma=>first
    | trivial
    | omega
    | (show List.length _≤rowMax; assumption)
    | (simp only [ZH2,Zd4] at *; simp_all [ZaG,midI,endI,stI,noB,Zrb,Zrd,Zrc,Zre,Zrf,Zao,ZaB,Zbh,ZaW,ZaU,Za1]; done)
    | (simp_all [ZaG,midI,endI,stI,noB,Zrb,Zrd,Zrc,Zre,Zrf,Zao,ZaB,Zbh,ZaW,ZaU,Za1]; done)
    | (rw [Bool.eq_iff_iff]; simp only [ZH2,Zd4] at *; simp_all [ZaG,midI,endI,stI,noB,Zrb,Zrd,Zrc,Zre,Zrf,Zao,ZaB,Zbh,ZaW,ZaU,Za1]; done)
    | (rw [Bool.eq_iff_iff]; simp_all [ZaG,midI,endI,stI,noB,Zrb,Zrd,Zrc,Zre,Zrf,Zao,ZaB,Zbh,ZaW,ZaU,Za1]; done)
    | (have h3:((List.length s.2.2.2.2.1:Nat):Int)=0:=by omega
       have h4:=(Zd4 s.2.2.2.2.2.2.2.2.1.1).1 (by omega)
       have hB:noB (true,0,s.2.2)=true:=by
         rw [ZzX (s:=(true,0,s.2.2)) (by assumption) (by assumption) h3 (by assumption) (by assumption)]
         exact Zvg
       clear h3 h4
       rw [Bool.eq_iff_iff]
       simp_all [ZaG,midI,endI,stI,Zrb,Zrd,Zrc,Zre,Zrf,Zao,ZaB,Zbh,ZaW,ZaU,Za1]
       done)
def Ze5 (s:Zac):Prop:=(True∧(rB false (ZaG (true,1,s.2.2))))
def ZjA (s:Zac):Prop:=(T7 (Ze5 s))
def Zx7 (s:Zac):Prop:=(T2 ((pt True)∧(T2 (bif btw s.2.2.2.2.2.2.2.2.2.2.2 0 4 then (T4 (bif (eqI s.2.2.2.2.2.2.2.2.2.2.2 0) then (T3 (rB true (ZaG (true,1,s.2.2)))) else (T7 (rB (!eqS s.2.2.2.2.2.2.2.2.2.2.1.1 (⟨#[]⟩:ByteArray)) (ZaG (true,1,s.2.2)))))) else (True∧(Ze5 s))))))
def Zm6 (s:Zac):Prop:=(T6 (ZjA s))
theorem Zm7 (s:Zac) (hpre:List.length s.2.2.2.2.2.2.2.2.1.1≤rowMax):Zai Tryz.prog 32 [.ag [.bool true, .int .i64 1, .int .i64 s.2.2.1, .int .i64 s.2.2.2.1, .hs .no Zal s.2.2.2.2.1, .bool s.2.2.2.2.2.1.1, .hs .no Zak s.2.2.2.2.2.1.2, .str s.2.2.2.2.2.2.1, .str s.2.2.2.2.2.2.2.1, .hs .no Zah s.2.2.2.2.2.2.2.2.1.1, .bool s.2.2.2.2.2.2.2.2.1.2.1, .bool s.2.2.2.2.2.2.2.2.1.2.2, .str s.2.2.2.2.2.2.2.2.2.1.1, .bool s.2.2.2.2.2.2.2.2.2.1.2, .str s.2.2.2.2.2.2.2.2.2.2.1.1, .str s.2.2.2.2.2.2.2.2.2.2.1.2, .int .i64 s.2.2.2.2.2.2.2.2.2.2.2]] (.c (.bool (ZaG (true,1,s.2.2)))) []:=by
  refine Zc2 (T:=⟨[Zei,Ze7,Zdv,ZbW,ZdW,Zc0,Zdu,ZgS,ZdX],[],[],[],none,fun _=>[],0,[],[]⟩) (L:=L0) Tryz.func32 ⟨⟨rfl,rfl⟩,rfl⟩ (fun hwf=>?_)
  refine Eq.mpr (β:=(T4 ((pt True)∧(True∧(bif (!(outOk s.2.2.2.2.2.2.2.2.2.2.1)) then (Ze5 s) else (T12 (T12 (T4 ((pt True)∧(True∧(bif (!(ZaQ (true,(1,s.2.2)) (true,(1,(0,(0,(([]:List ZbB),((false,([]:List ZaK)),((⟨#[]⟩:ByteArray),(s.2.2.2.2.2.2.2.1,((([]:List Zaz),(false,false)),s.2.2.2.2.2.2.2.2.2))))))))))) then (Ze5 s) else (T7 (bif (neI s.2.2.1 0) then (T2 (ZjA s)) else (T5 (bif (neI s.2.2.2.1 0) then (ZjA s) else (T7 (bif (gtI (List.length s.2.2.2.2.1) 0) then (T5 (Ze5 s)) else (T5 (bif (!eqS s.2.2.2.2.2.2.1 (⟨#[]⟩:ByteArray)) then (T3 (Ze5 s)) else (T5 (bif s.2.2.2.2.2.2.2.2.1.2.1 then (True∧(Ze5 s)) else (T2 ((pt (List.length s.2.2.2.2.2.2.2.2.1.1≤rowMax))∧(T3 (bif (gtI (List.length (ZaE s.2.2.2.2.2.2.2.2.1.1 true (List.length s.2.2.2.2.2.2.2.2.1.1))) 0) then (Ze5 s) else (T2 ((pt True)∧(True∧(bif btw 1 1 4 then (T2 ((pt True)∧(T2 (bif btw s.2.2.2.1 0 300 then (T2 ((pt True)∧(T2 (bif ZcM s.2.2.2.2.1 then (T2 ((pt True)∧(T2 (bif ZbC s.2.2.2.2.2.1 then (T2 ((pt True)∧(T2 (bif Zbw s.2.2.2.2.2.2.2.2.1 then (T2 ((pt True)∧(T2 (bif ZwC s.2.2.2.2.2.2.2.2.2.1 then (T2 ((pt True)∧(T2 (bif ZbK s.2.2.2.2.2.2.1 then (T2 ((pt True)∧(T2 (bif ZbK s.2.2.2.2.2.2.2.1 then (T4 (bif (eqS s.2.2.2.2.2.2.1 (⟨#[]⟩:ByteArray)) then (T3 (Zx7 s)) else (T6 (bif (eqS s.2.2.2.2.2.2.2.1 (⟨#[]⟩:ByteArray)) then (Zx7 s) else (T3 (Ze5 s)))))) else (T5 (Ze5 s)))))) else (ZjA s))))) else (T2 (ZjA s)))))) else (T4 (ZjA s)))))) else (Zm6 s))))) else (T2 (Zm6 s)))))) else (T4 (Zm6 s)))))) else (T6 (Zm6 s))))))))))))))))))))))))))))))) (by kernel_rfl) ?_
  unfold Zm6 Zx7 ZjA Ze5 T12 T2 T3 T4 T5 T6 T7
  have hw:ZaQ (true,(1,s.2.2)) (true,(1,(0,(0,(([]:List ZbB),((false,([]:List ZaK)),((⟨#[]⟩:ByteArray),(s.2.2.2.2.2.2.2.1,((([]:List Zaz),(false,false)),s.2.2.2.2.2.2.2.2.2)))))))))=noW (true,1,s.2.2):=ZJP (s:=(true,1,s.2.2)) rfl rfl
  simp only [hw]
  clear hw
  simp only [Zdy,eq_self]
  by_cases hW:noW (true,1,s.2.2)=true
  · exact ZuV
  · exact Zu5
def Ze6 (s:Zac):Prop:=(True∧(rB false (ZaG (true,4,s.2.2))))
def ZjB (s:Zac):Prop:=(T7 (Ze6 s))
def Zx8 (s:Zac):Prop:=(T2 ((pt True)∧(T2 (bif btw s.2.2.2.2.2.2.2.2.2.2.2 0 4 then (T4 (bif (eqI s.2.2.2.2.2.2.2.2.2.2.2 0) then (T3 (rB true (ZaG (true,4,s.2.2)))) else (T7 (rB (!eqS s.2.2.2.2.2.2.2.2.2.2.1.1 (⟨#[]⟩:ByteArray)) (ZaG (true,4,s.2.2)))))) else (True∧(Ze6 s))))))
def Zm8 (s:Zac):Prop:=(T6 (ZjB s))
theorem Zm9 (s:Zac) (hpre:List.length s.2.2.2.2.2.2.2.2.1.1≤rowMax):Zai Tryz.prog 32 [.ag [.bool true, .int .i64 4, .int .i64 s.2.2.1, .int .i64 s.2.2.2.1, .hs .no Zal s.2.2.2.2.1, .bool s.2.2.2.2.2.1.1, .hs .no Zak s.2.2.2.2.2.1.2, .str s.2.2.2.2.2.2.1, .str s.2.2.2.2.2.2.2.1, .hs .no Zah s.2.2.2.2.2.2.2.2.1.1, .bool s.2.2.2.2.2.2.2.2.1.2.1, .bool s.2.2.2.2.2.2.2.2.1.2.2, .str s.2.2.2.2.2.2.2.2.2.1.1, .bool s.2.2.2.2.2.2.2.2.2.1.2, .str s.2.2.2.2.2.2.2.2.2.2.1.1, .str s.2.2.2.2.2.2.2.2.2.2.1.2, .int .i64 s.2.2.2.2.2.2.2.2.2.2.2]] (.c (.bool (ZaG (true,4,s.2.2)))) []:=by
  refine Zc2 (T:=⟨[Zei,Ze7,Zdv,ZbW,ZdW,Zc0,Zdu,ZgS,ZdX],[],[],[],none,fun _=>[],0,[],[]⟩) (L:=L0) Tryz.func32 ⟨⟨rfl,rfl⟩,rfl⟩ (fun hwf=>?_)
  refine Eq.mpr (β:=(T4 ((pt True)∧(True∧(bif (!(outOk s.2.2.2.2.2.2.2.2.2.2.1)) then (Ze6 s) else (T12 (T12 (T3 ((pt True)∧(True∧(bif (!(ZaQ (true,(4,s.2.2)) (true,(4,(0,(0,(([]:List ZbB),((false,([]:List ZaK)),((⟨#[]⟩:ByteArray),((⟨#[]⟩:ByteArray),((([]:List Zaz),(false,false)),s.2.2.2.2.2.2.2.2.2))))))))))) then (Ze6 s) else (T7 (bif (neI s.2.2.1 0) then (T2 (ZjB s)) else (T5 (bif (neI s.2.2.2.1 0) then (ZjB s) else (T7 (bif (gtI (List.length s.2.2.2.2.1) 0) then (T5 (Ze6 s)) else (T5 (bif (!eqS s.2.2.2.2.2.2.1 (⟨#[]⟩:ByteArray)) then (T3 (Ze6 s)) else (T5 (bif s.2.2.2.2.2.2.2.2.1.2.1 then (True∧(Ze6 s)) else (T2 ((pt (List.length s.2.2.2.2.2.2.2.2.1.1≤rowMax))∧(T3 (bif (gtI (List.length (ZaE s.2.2.2.2.2.2.2.2.1.1 true (List.length s.2.2.2.2.2.2.2.2.1.1))) 0) then (Ze6 s) else (T2 ((pt True)∧(True∧(bif btw 4 1 4 then (T2 ((pt True)∧(T2 (bif btw s.2.2.2.1 0 300 then (T2 ((pt True)∧(T2 (bif ZcM s.2.2.2.2.1 then (T2 ((pt True)∧(T2 (bif ZbC s.2.2.2.2.2.1 then (T2 ((pt True)∧(T2 (bif Zbw s.2.2.2.2.2.2.2.2.1 then (T2 ((pt True)∧(T2 (bif ZwC s.2.2.2.2.2.2.2.2.2.1 then (T2 ((pt True)∧(T2 (bif ZbK s.2.2.2.2.2.2.1 then (T2 ((pt True)∧(T2 (bif ZbK s.2.2.2.2.2.2.2.1 then (T4 (bif (eqS s.2.2.2.2.2.2.1 (⟨#[]⟩:ByteArray)) then (T3 (Zx8 s)) else (T6 (bif (eqS s.2.2.2.2.2.2.2.1 (⟨#[]⟩:ByteArray)) then (Zx8 s) else (T3 (Ze6 s)))))) else (T5 (Ze6 s)))))) else (ZjB s))))) else (T2 (ZjB s)))))) else (T4 (ZjB s)))))) else (Zm8 s))))) else (T2 (Zm8 s)))))) else (T4 (Zm8 s)))))) else (T6 (Zm8 s))))))))))))))))))))))))))))))) (by kernel_rfl) ?_
  unfold Zm8 Zx8 ZjB Ze6 T12 T2 T3 T4 T5 T6 T7
  have hw:ZaQ (true,(4,s.2.2)) (true,(4,(0,(0,(([]:List ZbB),((false,([]:List ZaK)),((⟨#[]⟩:ByteArray),((⟨#[]⟩:ByteArray),((([]:List Zaz),(false,false)),s.2.2.2.2.2.2.2.2.2)))))))))=(noW (true,4,s.2.2) && eqS s.2.2.2.2.2.2.2.1 (⟨#[]⟩:ByteArray)):=ZJQ (s:=(true,4,s.2.2)) rfl rfl
  simp only [hw]
  clear hw
  simp only [Zdy,eq_self]
  by_cases hW:noW (true,4,s.2.2)=true
  · exact ZuV
  · exact Zu5
theorem ZKu (m:Nat):btw (Int.negSucc m) 1 4=false:=Zbs.2 (.inl (by omega))
theorem ZKv (m:Nat):btw (Int.ofNat (m + 5)) 1 4=false:=Zbs.2 (.inr (by show (4:Int) < ((m + 5:Nat):Int); omega))
theorem ZzY {st:Int} {r:Int × Int × ZCt × Zby × ByteArray × ByteArray × Zbc × GIn × ZpD × Int} (h1:¬ st=1) (h2:¬ st=2) (h3:¬ st=3) (h4:¬ st=4):ZaG (true,st,r)=false:=by
  have h:stI (true,st,r)=false:=by
    unfold stI
    rw [if_neg (show ¬ st=1 from h1),if_neg (show ¬ st=2 from h2),if_neg (show ¬ st=3 from h3),if_neg (show ¬ st=4 from h4)]
  unfold ZaG
  rw [if_pos rfl,h]
  cases outOk _ <;> cases midI _ <;> cases endI _ <;> rfl
def ZhJ (m:Nat) (s:Zac):Prop:=(True∧(rB false (ZaG (true,(Int.negSucc m),s.2.2))))
def ZgV (m:Nat) (s:Zac):Prop:=(T5 (ZhJ m s))
def Zx9 (s:Zac) (m:Nat):Prop:=(T2 ((pt True)∧(T2 (bif btw s.2.2.2.2.2.2.2.2.2.2.2 0 4 then (T4 (bif (eqI s.2.2.2.2.2.2.2.2.2.2.2 0) then (T3 (rB true (ZaG (true,(Int.negSucc m),s.2.2)))) else (T7 (rB (!eqS s.2.2.2.2.2.2.2.2.2.2.1.1 (⟨#[]⟩:ByteArray)) (ZaG (true,(Int.negSucc m),s.2.2)))))) else (True∧(ZhJ m s))))))
def Zna (m:Nat) (s:Zac):Prop:=(T8 (ZgV m s))
theorem Znb (m:Nat) (s:Zac) (hpre:List.length s.2.2.2.2.2.2.2.2.1.1≤rowMax):Zai Tryz.prog 32 [.ag [.bool true, .int .i64 (Int.negSucc m), .int .i64 s.2.2.1, .int .i64 s.2.2.2.1, .hs .no Zal s.2.2.2.2.1, .bool s.2.2.2.2.2.1.1, .hs .no Zak s.2.2.2.2.2.1.2, .str s.2.2.2.2.2.2.1, .str s.2.2.2.2.2.2.2.1, .hs .no Zah s.2.2.2.2.2.2.2.2.1.1, .bool s.2.2.2.2.2.2.2.2.1.2.1, .bool s.2.2.2.2.2.2.2.2.1.2.2, .str s.2.2.2.2.2.2.2.2.2.1.1, .bool s.2.2.2.2.2.2.2.2.2.1.2, .str s.2.2.2.2.2.2.2.2.2.2.1.1, .str s.2.2.2.2.2.2.2.2.2.2.1.2, .int .i64 s.2.2.2.2.2.2.2.2.2.2.2]] (.c (.bool (ZaG (true,(Int.negSucc m),s.2.2)))) []:=by
  refine Zc2 (T:=⟨[Zei,Zdv,ZbW,ZdW,Zc0,Zdu,ZgS,ZdX],[],[],[],none,fun _=>[],0,[],[]⟩) (L:=L0) Tryz.func32 ⟨⟨rfl,rfl⟩,rfl⟩ (fun hwf=>?_)
  refine Eq.mpr (β:=(T4 ((pt True)∧(True∧(bif (!(outOk s.2.2.2.2.2.2.2.2.2.2.1)) then (ZhJ m s) else (T12 (T6 (bif (neI s.2.2.1 0) then (T4 (ZgV m s)) else (T5 (bif (neI s.2.2.2.1 0) then (T2 (ZgV m s)) else (T7 (bif (gtI (List.length s.2.2.2.2.1) 0) then (ZgV m s) else (T5 (bif (!eqS s.2.2.2.2.2.2.1 (⟨#[]⟩:ByteArray)) then (T3 (ZhJ m s)) else (T5 (bif s.2.2.2.2.2.2.2.2.1.2.1 then (True∧(ZhJ m s)) else (T2 ((pt (List.length s.2.2.2.2.2.2.2.2.1.1≤rowMax))∧(T3 (bif (gtI (List.length (ZaE s.2.2.2.2.2.2.2.2.1.1 true (List.length s.2.2.2.2.2.2.2.2.1.1))) 0) then (ZhJ m s) else (T2 ((pt True)∧(True∧(bif btw (Int.negSucc m) 1 4 then (T2 ((pt True)∧(T2 (bif btw s.2.2.2.1 0 300 then (T2 ((pt True)∧(T2 (bif ZcM s.2.2.2.2.1 then (T2 ((pt True)∧(T2 (bif ZbC s.2.2.2.2.2.1 then (T2 ((pt True)∧(T2 (bif Zbw s.2.2.2.2.2.2.2.2.1 then (T2 ((pt True)∧(T2 (bif ZwC s.2.2.2.2.2.2.2.2.2.1 then (T2 ((pt True)∧(T2 (bif ZbK s.2.2.2.2.2.2.1 then (T2 ((pt True)∧(T2 (bif ZbK s.2.2.2.2.2.2.2.1 then (T4 (bif (eqS s.2.2.2.2.2.2.1 (⟨#[]⟩:ByteArray)) then (T3 (Zx9 s m)) else (T6 (bif (eqS s.2.2.2.2.2.2.2.1 (⟨#[]⟩:ByteArray)) then (Zx9 s m) else (T3 (ZhJ m s)))))) else (ZgV m s))))) else (T2 (ZgV m s)))))) else (T4 (ZgV m s)))))) else (T6 (ZgV m s)))))) else (Zna m s))))) else (T2 (Zna m s)))))) else (T4 (Zna m s)))))) else (T6 (Zna m s)))))))))))))))))))))))))) (by kernel_rfl) ?_
  unfold Zna Zx9 ZgV ZhJ T12 T2 T3 T4 T5 T6 T7 T8
  have hs:ZaG (true,(Int.negSucc m),s.2.2)=false:=ZzY (by intro h; cases h) (by intro h; cases h) (by intro h; cases h) (by intro h; cases h)
  have hb:=ZKu m
  exact Zvu
def ZhK (m:Nat) (s:Zac):Prop:=(True∧(rB false (ZaG (true,(Int.ofNat (m + 5)),s.2.2))))
def ZgW (m:Nat) (s:Zac):Prop:=(T5 (ZhK m s))
def Zya (s:Zac) (m:Nat):Prop:=(T2 ((pt True)∧(T2 (bif btw s.2.2.2.2.2.2.2.2.2.2.2 0 4 then (T4 (bif (eqI s.2.2.2.2.2.2.2.2.2.2.2 0) then (T3 (rB true (ZaG (true,(Int.ofNat (m + 5)),s.2.2)))) else (T7 (rB (!eqS s.2.2.2.2.2.2.2.2.2.2.1.1 (⟨#[]⟩:ByteArray)) (ZaG (true,(Int.ofNat (m + 5)),s.2.2)))))) else (True∧(ZhK m s))))))
def Znc (m:Nat) (s:Zac):Prop:=(T8 (ZgW m s))
theorem Znd (m:Nat) (s:Zac) (hpre:List.length s.2.2.2.2.2.2.2.2.1.1≤rowMax):Zai Tryz.prog 32 [.ag [.bool true, .int .i64 (Int.ofNat (m + 5)), .int .i64 s.2.2.1, .int .i64 s.2.2.2.1, .hs .no Zal s.2.2.2.2.1, .bool s.2.2.2.2.2.1.1, .hs .no Zak s.2.2.2.2.2.1.2, .str s.2.2.2.2.2.2.1, .str s.2.2.2.2.2.2.2.1, .hs .no Zah s.2.2.2.2.2.2.2.2.1.1, .bool s.2.2.2.2.2.2.2.2.1.2.1, .bool s.2.2.2.2.2.2.2.2.1.2.2, .str s.2.2.2.2.2.2.2.2.2.1.1, .bool s.2.2.2.2.2.2.2.2.2.1.2, .str s.2.2.2.2.2.2.2.2.2.2.1.1, .str s.2.2.2.2.2.2.2.2.2.2.1.2, .int .i64 s.2.2.2.2.2.2.2.2.2.2.2]] (.c (.bool (ZaG (true,(Int.ofNat (m + 5)),s.2.2)))) []:=by
  refine Zc2 (T:=⟨[Zei,Zdv,ZbW,ZdW,Zc0,Zdu,ZgS,ZdX],[],[],[],none,fun _=>[],0,[],[]⟩) (L:=L0) Tryz.func32 ⟨⟨rfl,rfl⟩,rfl⟩ (fun hwf=>?_)
  refine Eq.mpr (β:=(T4 ((pt True)∧(True∧(bif (!(outOk s.2.2.2.2.2.2.2.2.2.2.1)) then (ZhK m s) else (T12 (T6 (bif (neI s.2.2.1 0) then (T4 (ZgW m s)) else (T5 (bif (neI s.2.2.2.1 0) then (T2 (ZgW m s)) else (T7 (bif (gtI (List.length s.2.2.2.2.1) 0) then (ZgW m s) else (T5 (bif (!eqS s.2.2.2.2.2.2.1 (⟨#[]⟩:ByteArray)) then (T3 (ZhK m s)) else (T5 (bif s.2.2.2.2.2.2.2.2.1.2.1 then (True∧(ZhK m s)) else (T2 ((pt (List.length s.2.2.2.2.2.2.2.2.1.1≤rowMax))∧(T3 (bif (gtI (List.length (ZaE s.2.2.2.2.2.2.2.2.1.1 true (List.length s.2.2.2.2.2.2.2.2.1.1))) 0) then (ZhK m s) else (T2 ((pt True)∧(True∧(bif btw (Int.ofNat (m + 5)) 1 4 then (T2 ((pt True)∧(T2 (bif btw s.2.2.2.1 0 300 then (T2 ((pt True)∧(T2 (bif ZcM s.2.2.2.2.1 then (T2 ((pt True)∧(T2 (bif ZbC s.2.2.2.2.2.1 then (T2 ((pt True)∧(T2 (bif Zbw s.2.2.2.2.2.2.2.2.1 then (T2 ((pt True)∧(T2 (bif ZwC s.2.2.2.2.2.2.2.2.2.1 then (T2 ((pt True)∧(T2 (bif ZbK s.2.2.2.2.2.2.1 then (T2 ((pt True)∧(T2 (bif ZbK s.2.2.2.2.2.2.2.1 then (T4 (bif (eqS s.2.2.2.2.2.2.1 (⟨#[]⟩:ByteArray)) then (T3 (Zya s m)) else (T6 (bif (eqS s.2.2.2.2.2.2.2.1 (⟨#[]⟩:ByteArray)) then (Zya s m) else (T3 (ZhK m s)))))) else (ZgW m s))))) else (T2 (ZgW m s)))))) else (T4 (ZgW m s)))))) else (T6 (ZgW m s)))))) else (Znc m s))))) else (T2 (Znc m s)))))) else (T4 (Znc m s)))))) else (T6 (Znc m s)))))))))))))))))))))))))) (by kernel_rfl) ?_
  unfold Znc Zya ZgW ZhK T12 T2 T3 T4 T5 T6 T7 T8
  have hs:ZaG (true,(Int.ofNat (m + 5)),s.2.2)=false:=ZzY (fun h=>by have h:((m + 5:Nat):Int)=_:=h; omega) (fun h=>by have h:((m + 5:Nat):Int)=_:=h; omega) (fun h=>by have h:((m + 5:Nat):Int)=_:=h; omega) (fun h=>by have h:((m + 5:Nat):Int)=_:=h; omega)
  have hb:=ZKv m
  exact Zvu
theorem Zrg (s:Zac) (hpre:List.length s.2.2.2.2.2.2.2.2.1.1≤rowMax):Zai Tryz.prog 32 [.ag [.bool s.1, .int .i64 s.2.1, .int .i64 s.2.2.1, .int .i64 s.2.2.2.1, .hs .no Zal s.2.2.2.2.1, .bool s.2.2.2.2.2.1.1, .hs .no Zak s.2.2.2.2.2.1.2, .str s.2.2.2.2.2.2.1, .str s.2.2.2.2.2.2.2.1, .hs .no Zah s.2.2.2.2.2.2.2.2.1.1, .bool s.2.2.2.2.2.2.2.2.1.2.1, .bool s.2.2.2.2.2.2.2.2.1.2.2, .str s.2.2.2.2.2.2.2.2.2.1.1, .bool s.2.2.2.2.2.2.2.2.2.1.2, .str s.2.2.2.2.2.2.2.2.2.2.1.1, .str s.2.2.2.2.2.2.2.2.2.2.1.2, .int .i64 s.2.2.2.2.2.2.2.2.2.2.2]] (.c (.bool (ZaG s))) []:=by
  obtain ⟨l,st,r⟩:=s
  cases l with
  | false=>exact ZmZ (false,st,r) hpre
  | true =>
    rcases st with n | m
    · rcases n with _ | _ | _ | _ | _ | m
      · exact Zm5 (true,0,r) hpre
      · exact Zm7 (true,1,r) hpre
      · exact Zm1 (true,2,r) hpre
      · exact Zm3 (true,3,r) hpre
      · exact Zm9 (true,4,r) hpre
      · exact Znd m (true,0,r) hpre
    · exact Znb m (true,0,r) hpre
def Zrh:Zat Tryz.prog:=⟨32,[.s Zag],fun x=>List.length x.1.2.2.2.2.2.2.2.2.1.1≤rowMax,fun x=>.c (.bool (ZaG x.1)),fun _=>[],fun x hx=>Zrg x.1 hx,Tryz.call32⟩
end Go.Proofs.YtkompmgleojmlaaGreat
