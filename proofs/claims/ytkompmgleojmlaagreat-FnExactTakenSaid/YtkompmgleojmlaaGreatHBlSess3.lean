import Derived.Test.YtkompmgleojmlaaGreatHBlSess2
set_option linter.unusedSimpArgs false
set_option linter.unusedVariables false
set_option maxRecDepth 100000
set_option maxHeartbeats 4000000
namespace Go.Proofs.YtkompmgleojmlaaGreat
open Go.ChangeShapes Go.WideShapes Go.ChangeAt Go.RowKit Go.Joins Go.Deep
open GoRep (rep bulk)
theorem ZNp {n:Nat}:0 < ((n:Nat):Int)↔¬ ((n:Nat):Int)=0:=by omega
theorem ZuK:btw 0 1 4=false:=rfl
theorem ZuL:btw 2 1 4=true:=rfl
theorem ZuM:btw 1 1 4=true:=rfl
theorem ZuN:btw 3 1 4=true:=rfl
theorem ZuO:btw 4 1 4=true:=rfl
theorem ZpM (s:Zad) (hpre:List.length s.2.2.2.2.2.2.2.2.1.1≤rowMax):Zam Tryz.prog 32 [.ag [.bool false, .int .i64 s.2.1, .int .i64 s.2.2.1, .int .i64 s.2.2.2.1, .hs .no Zay s.2.2.2.2.1, .bool s.2.2.2.2.2.1.1, .hs .no Zak s.2.2.2.2.2.1.2, .str s.2.2.2.2.2.2.1, .str s.2.2.2.2.2.2.2.1, .hs .no Zal s.2.2.2.2.2.2.2.2.1.1, .bool s.2.2.2.2.2.2.2.2.1.2.1, .bool s.2.2.2.2.2.2.2.2.1.2.2, .str s.2.2.2.2.2.2.2.2.2.1.1, .bool s.2.2.2.2.2.2.2.2.2.1.2, .str s.2.2.2.2.2.2.2.2.2.2.1.1, .str s.2.2.2.2.2.2.2.2.2.2.1.2, .int .i64 s.2.2.2.2.2.2.2.2.2.2.2]] (.c (.bool (Za6 (false,s.2.1,s.2.2)))) []:=by
 refine ZcY (T:=⟨[ZeO,ZsS,ZgN],[],[],[],none,fun _=>[],0,[],[]⟩) (L:=L0) Tryz.func32 ⟨⟨rfl,rfl⟩,rfl⟩ (fun hwf=>?_)
 refine Eq.mpr (β:=T4 (pt True∧True∧bif !(outOk s.2.2.2.2.2.2.2.2.2.2.1) then True∧rB false (Za6 (false,s.2.1,s.2.2)) else T3 (pt (true=true)∧T2 (pt True∧(True∧pt (true=true))∧True∧rB (Zbk (false,s.2) (ZaN (false,s.2))) (Za6 (false,s.2.1,s.2.2)))))) (by kernel_rfl) ?_
 exact ZyU
def Znh (s:Zad):Prop:=T4 (rB false (Za6 (true,2,s.2.2)))
def Zlz (s:Zad):Prop:=T4 (Znh s)
def ZCA (s:Zad):Prop:=T2 (pt True∧T2 (bif btw s.2.2.2.2.2.2.2.2.2.2.2 0 4 then T4 (bif eqI s.2.2.2.2.2.2.2.2.2.2.2 0 then T3 (rB true (Za6 (true,2,s.2.2))) else T7 (rB (!eqS s.2.2.2.2.2.2.2.2.2.2.1.1 (⟨#[]⟩:ByteArray)) (Za6 (true,2,s.2.2)))) else T2 (rB false (Za6 (true,2,s.2.2)))))
def ZpN (s:Zad):Prop:=T6 (Zlz s)
theorem ZpO (s:Zad) (hpre:List.length s.2.2.2.2.2.2.2.2.1.1≤rowMax):Zam Tryz.prog 32 [.ag [.bool true, .int .i64 2, .int .i64 s.2.2.1, .int .i64 s.2.2.2.1, .hs .no Zay s.2.2.2.2.1, .bool s.2.2.2.2.2.1.1, .hs .no Zak s.2.2.2.2.2.1.2, .str s.2.2.2.2.2.2.1, .str s.2.2.2.2.2.2.2.1, .hs .no Zal s.2.2.2.2.2.2.2.2.1.1, .bool s.2.2.2.2.2.2.2.2.1.2.1, .bool s.2.2.2.2.2.2.2.2.1.2.2, .str s.2.2.2.2.2.2.2.2.2.1.1, .bool s.2.2.2.2.2.2.2.2.2.1.2, .str s.2.2.2.2.2.2.2.2.2.2.1.1, .str s.2.2.2.2.2.2.2.2.2.2.1.2, .int .i64 s.2.2.2.2.2.2.2.2.2.2.2]] (.c (.bool (Za6 (true,2,s.2.2)))) []:=by
 refine ZcY (T:=⟨[ZeO,ZeC,ZcF,Zfg,Zd5,ZeB,Zhr,Zfh],[],[],[],none,fun _=>[],0,[],[]⟩) (L:=L0) Tryz.func32 ⟨⟨rfl,rfl⟩,rfl⟩ (fun hwf=>?_)
 refine Eq.mpr (β:=T4 (pt True∧True∧bif !(outOk s.2.2.2.2.2.2.2.2.2.2.1) then True∧rB false (Za6 (true,2,s.2.2)) else T12 (T6 (bif neI s.2.2.1 0 then T2 (Zlz s) else T5 (bif neI s.2.2.2.1 0 then Zlz s else T7 (bif gtI s.2.2.2.2.1.length 0 then T2 (Znh s) else T5 (bif !eqS s.2.2.2.2.2.2.1 (⟨#[]⟩:ByteArray) then Znh s else T5 (bif s.2.2.2.2.2.2.2.2.1.2.1 then T2 (rB false (Za6 (true,2,s.2.2))) else T2 (pt (s.2.2.2.2.2.2.2.2.1.1.length≤rowMax)∧T3 (bif gtI (List.length (Za0 s.2.2.2.2.2.2.2.2.1.1 true s.2.2.2.2.2.2.2.2.1.1.length)) 0 then True∧rB false (Za6 (true,2,s.2.2)) else T2 (pt True∧True∧bif btw 2 1 4 then T2 (pt True∧T2 (bif btw s.2.2.2.1 0 300 then T2 (pt True∧T2 (bif ZdM s.2.2.2.2.1 then T2 (pt True∧T2 (bif Zcp s.2.2.2.2.2.1 then T2 (pt True∧T2 (bif Zch s.2.2.2.2.2.2.2.2.1 then T2 (pt True∧T2 (bif ZsQ s.2.2.2.2.2.2.2.2.2.1 then T2 (pt True∧T2 (bif Zcz s.2.2.2.2.2.2.1 then T2 (pt True∧T2 (bif Zcz s.2.2.2.2.2.2.2.1 then T4 (bif eqS s.2.2.2.2.2.2.1 (⟨#[]⟩:ByteArray) then T3 (ZCA s) else T6 (bif eqS s.2.2.2.2.2.2.2.1 (⟨#[]⟩:ByteArray) then ZCA s else Znh s)) else T2 (Znh s))) else Zlz s)) else T2 (Zlz s))) else T4 (Zlz s))) else ZpN s)) else T2 (ZpN s))) else T4 (ZpN s))) else T6 (ZpN s)))))))))))) (by kernel_rfl) ?_
 unfold ZpN ZCA Zlz Znh T12 T2 T3 T4 T5 T6 T7
 exact ZyU
def ZpP (s:Zad):Prop:=T4 (rB false (Za6 (true,3,s.2.2)))
def ZlA (s:Zad):Prop:=T6 (ZpP s)
def ZCB (s:Zad):Prop:=T2 (pt True∧T2 (bif btw s.2.2.2.2.2.2.2.2.2.2.2 0 4 then T4 (bif eqI s.2.2.2.2.2.2.2.2.2.2.2 0 then T3 (rB true (Za6 (true,3,s.2.2))) else T7 (rB (!eqS s.2.2.2.2.2.2.2.2.2.2.1.1 (⟨#[]⟩:ByteArray)) (Za6 (true,3,s.2.2)))) else T2 (rB false (Za6 (true,3,s.2.2)))))
theorem ZpQ (s:Zad) (hpre:List.length s.2.2.2.2.2.2.2.2.1.1≤rowMax):Zam Tryz.prog 32 [.ag [.bool true, .int .i64 3, .int .i64 s.2.2.1, .int .i64 s.2.2.2.1, .hs .no Zay s.2.2.2.2.1, .bool s.2.2.2.2.2.1.1, .hs .no Zak s.2.2.2.2.2.1.2, .str s.2.2.2.2.2.2.1, .str s.2.2.2.2.2.2.2.1, .hs .no Zal s.2.2.2.2.2.2.2.2.1.1, .bool s.2.2.2.2.2.2.2.2.1.2.1, .bool s.2.2.2.2.2.2.2.2.1.2.2, .str s.2.2.2.2.2.2.2.2.2.1.1, .bool s.2.2.2.2.2.2.2.2.2.1.2, .str s.2.2.2.2.2.2.2.2.2.2.1.1, .str s.2.2.2.2.2.2.2.2.2.2.1.2, .int .i64 s.2.2.2.2.2.2.2.2.2.2.2]] (.c (.bool (Za6 (true,3,s.2.2)))) []:=by
 refine ZcY (T:=⟨[ZeO,Zjt,ZcF,Zfg,Zd5,ZeB,Zhr,Zfh],[],[],[],none,fun _=>[],0,[],[]⟩) (L:=L0) Tryz.func32 ⟨⟨rfl,rfl⟩,rfl⟩ (fun hwf=>?_)
 refine Eq.mpr (β:=T4 (pt True∧True∧bif !(outOk s.2.2.2.2.2.2.2.2.2.2.1) then True∧rB false (Za6 (true,3,s.2.2)) else T12 (T4 (pt True∧True∧bif !(btw s.2.2.1 1 999999999) then True∧rB false (Za6 (true,3,s.2.2)) else T2 (pt True∧True∧bif btw 3 1 4 then T2 (pt True∧T2 (bif btw s.2.2.2.1 0 300 then T2 (pt True∧T2 (bif ZdM s.2.2.2.2.1 then T2 (pt True∧T2 (bif Zcp s.2.2.2.2.2.1 then T2 (pt True∧T2 (bif Zch s.2.2.2.2.2.2.2.2.1 then T2 (pt True∧T2 (bif ZsQ s.2.2.2.2.2.2.2.2.2.1 then T2 (pt True∧T2 (bif Zcz s.2.2.2.2.2.2.1 then T2 (pt True∧T2 (bif Zcz s.2.2.2.2.2.2.2.1 then T4 (bif eqS s.2.2.2.2.2.2.1 (⟨#[]⟩:ByteArray) then T3 (ZCB s) else T6 (bif eqS s.2.2.2.2.2.2.2.1 (⟨#[]⟩:ByteArray) then ZCB s else ZpP s)) else T2 (ZpP s))) else T4 (ZpP s))) else ZlA s)) else T2 (ZlA s))) else T4 (ZlA s))) else T6 (ZlA s))) else T8 (ZlA s))) else T10 (ZlA s)))))) (by kernel_rfl) ?_
 unfold ZCB ZlA ZpP T10 T12 T2 T3 T4 T6 T7 T8
 simp only [Zdq,eq_self]
 repeat' (first | apply And.intro | intro _)
 all_goals as_aux_lemma=>first
  | trivial
  | omega
  | (show List.length _≤rowMax; assumption)
  | (simp only [ZNp,Zfp] at *; simp_all [Za6,midI,endI,stI,noB,ZuK,ZuM,ZuL,ZuN,ZuO,ZaJ,ZaT,ZbT,Zbs,Zbp,Zbv]; done)
  | (simp_all [Za6,midI,endI,stI,noB,ZuK,ZuM,ZuL,ZuN,ZuO,ZaJ,ZaT,ZbT,Zbs,Zbp,Zbv]; done)
  | (rw [Bool.eq_iff_iff]; simp only [ZNp,Zfp] at *; simp_all [Za6,midI,endI,stI,noB,ZuK,ZuM,ZuL,ZuN,ZuO,ZaJ,ZaT,ZbT,Zbs,Zbp,Zbv]; done)
  | (rw [Bool.eq_iff_iff]; simp_all [Za6,midI,endI,stI,noB,ZuK,ZuM,ZuL,ZuN,ZuO,ZaJ,ZaT,ZbT,Zbs,Zbp,Zbv]; done)
  | (have h3:(List.length s.2.2.2.2.1:Int)=0:=by omega
     have h4:=(Zfp s.2.2.2.2.2.2.2.2.1.1).1 (by omega)
     have hB:noB (true,3,s.2.2)=true:=by
      rw [ZEL (s:=(true,3,s.2.2)) (by assumption) (by assumption) h3 (by assumption) (by assumption)]
      exact Zzj
     clear h3 h4
     rw [Bool.eq_iff_iff]
     simp_all [Za6,midI,endI,stI,ZuK,ZuM,ZuL,ZuN,ZuO,ZaJ,ZaT,ZbT,Zbs,Zbp,Zbv]
     done)
def Zni (s:Zad):Prop:=T4 (rB false (Za6 (true,0,s.2.2)))
def ZlB (s:Zad):Prop:=T4 (Zni s)
def ZCC (s:Zad):Prop:=T2 (pt True∧T2 (bif btw s.2.2.2.2.2.2.2.2.2.2.2 0 4 then T4 (bif eqI s.2.2.2.2.2.2.2.2.2.2.2 0 then T3 (rB true (Za6 (true,0,s.2.2))) else T7 (rB (!eqS s.2.2.2.2.2.2.2.2.2.2.1.1 (⟨#[]⟩:ByteArray)) (Za6 (true,0,s.2.2)))) else T2 (rB false (Za6 (true,0,s.2.2)))))
def ZpR (s:Zad):Prop:=T6 (ZlB s)
theorem ZpS (s:Zad) (hpre:List.length s.2.2.2.2.2.2.2.2.1.1≤rowMax):Zam Tryz.prog 32 [.ag [.bool true, .int .i64 0, .int .i64 s.2.2.1, .int .i64 s.2.2.2.1, .hs .no Zay s.2.2.2.2.1, .bool s.2.2.2.2.2.1.1, .hs .no Zak s.2.2.2.2.2.1.2, .str s.2.2.2.2.2.2.1, .str s.2.2.2.2.2.2.2.1, .hs .no Zal s.2.2.2.2.2.2.2.2.1.1, .bool s.2.2.2.2.2.2.2.2.1.2.1, .bool s.2.2.2.2.2.2.2.2.1.2.2, .str s.2.2.2.2.2.2.2.2.2.1.1, .bool s.2.2.2.2.2.2.2.2.2.1.2, .str s.2.2.2.2.2.2.2.2.2.2.1.1, .str s.2.2.2.2.2.2.2.2.2.2.1.2, .int .i64 s.2.2.2.2.2.2.2.2.2.2.2]] (.c (.bool (Za6 (true,0,s.2.2)))) []:=by
 refine ZcY (T:=⟨[ZeO,ZeC,ZcF,Zfg,Zd5,ZeB,Zhr,Zfh],[],[],[],none,fun _=>[],0,[],[]⟩) (L:=L0) Tryz.func32 ⟨⟨rfl,rfl⟩,rfl⟩ (fun hwf=>?_)
 refine Eq.mpr (β:=T4 (pt True∧True∧bif !(outOk s.2.2.2.2.2.2.2.2.2.2.1) then True∧rB false (Za6 (true,0,s.2.2)) else T12 (T6 (bif neI s.2.2.1 0 then T2 (ZlB s) else T5 (bif neI s.2.2.2.1 0 then ZlB s else T7 (bif gtI s.2.2.2.2.1.length 0 then T2 (Zni s) else T5 (bif !eqS s.2.2.2.2.2.2.1 (⟨#[]⟩:ByteArray) then Zni s else T5 (bif s.2.2.2.2.2.2.2.2.1.2.1 then T2 (rB false (Za6 (true,0,s.2.2))) else T2 (pt (s.2.2.2.2.2.2.2.2.1.1.length≤rowMax)∧T3 (bif gtI (List.length (Za0 s.2.2.2.2.2.2.2.2.1.1 true s.2.2.2.2.2.2.2.2.1.1.length)) 0 then True∧rB false (Za6 (true,0,s.2.2)) else T2 (pt True∧True∧bif btw 0 1 4 then T2 (pt True∧T2 (bif btw s.2.2.2.1 0 300 then T2 (pt True∧T2 (bif ZdM s.2.2.2.2.1 then T2 (pt True∧T2 (bif Zcp s.2.2.2.2.2.1 then T2 (pt True∧T2 (bif Zch s.2.2.2.2.2.2.2.2.1 then T2 (pt True∧T2 (bif ZsQ s.2.2.2.2.2.2.2.2.2.1 then T2 (pt True∧T2 (bif Zcz s.2.2.2.2.2.2.1 then T2 (pt True∧T2 (bif Zcz s.2.2.2.2.2.2.2.1 then T4 (bif eqS s.2.2.2.2.2.2.1 (⟨#[]⟩:ByteArray) then T3 (ZCC s) else T6 (bif eqS s.2.2.2.2.2.2.2.1 (⟨#[]⟩:ByteArray) then ZCC s else Zni s)) else T2 (Zni s))) else ZlB s)) else T2 (ZlB s))) else T4 (ZlB s))) else ZpR s)) else T2 (ZpR s))) else T4 (ZpR s))) else T6 (ZpR s)))))))))))) (by kernel_rfl) ?_
 unfold ZpR ZCC ZlB Zni T12 T2 T3 T4 T5 T6 T7
 simp only [Zdq,eq_self]
 repeat' (first | apply And.intro | intro _)
 all_goals as_aux_lemma=>first
  | trivial
  | omega
  | (show List.length _≤rowMax; assumption)
  | (simp only [ZNp,Zfp] at *; simp_all [Za6,midI,endI,stI,noB,ZuK,ZuM,ZuL,ZuN,ZuO,ZaJ,ZaT,ZbT,Zbs,Zbp,Zbv]; done)
  | (simp_all [Za6,midI,endI,stI,noB,ZuK,ZuM,ZuL,ZuN,ZuO,ZaJ,ZaT,ZbT,Zbs,Zbp,Zbv]; done)
  | (rw [Bool.eq_iff_iff]; simp only [ZNp,Zfp] at *; simp_all [Za6,midI,endI,stI,noB,ZuK,ZuM,ZuL,ZuN,ZuO,ZaJ,ZaT,ZbT,Zbs,Zbp,Zbv]; done)
  | (rw [Bool.eq_iff_iff]; simp_all [Za6,midI,endI,stI,noB,ZuK,ZuM,ZuL,ZuN,ZuO,ZaJ,ZaT,ZbT,Zbs,Zbp,Zbv]; done)
  | (have h3:(List.length s.2.2.2.2.1:Int)=0:=by omega
     have h4:=(Zfp s.2.2.2.2.2.2.2.2.1.1).1 (by omega)
     have hB:noB (true,0,s.2.2)=true:=by
      rw [ZEL (s:=(true,0,s.2.2)) (by assumption) (by assumption) h3 (by assumption) (by assumption)]
      exact Zzj
     clear h3 h4
     rw [Bool.eq_iff_iff]
     simp_all [Za6,midI,endI,stI,ZuK,ZuM,ZuL,ZuN,ZuO,ZaJ,ZaT,ZbT,Zbs,Zbp,Zbv]
     done)
def ZgL (s:Zad):Prop:=True∧rB false (Za6 (true,1,s.2.2))
def ZlC (s:Zad):Prop:=T7 (ZgL s)
def ZCD (s:Zad):Prop:=T2 (pt True∧T2 (bif btw s.2.2.2.2.2.2.2.2.2.2.2 0 4 then T4 (bif eqI s.2.2.2.2.2.2.2.2.2.2.2 0 then T3 (rB true (Za6 (true,1,s.2.2))) else T7 (rB (!eqS s.2.2.2.2.2.2.2.2.2.2.1.1 (⟨#[]⟩:ByteArray)) (Za6 (true,1,s.2.2)))) else True∧ZgL s))
def ZpT (s:Zad):Prop:=T6 (ZlC s)
theorem ZpU (s:Zad) (hpre:List.length s.2.2.2.2.2.2.2.2.1.1≤rowMax):Zam Tryz.prog 32 [.ag [.bool true, .int .i64 1, .int .i64 s.2.2.1, .int .i64 s.2.2.2.1, .hs .no Zay s.2.2.2.2.1, .bool s.2.2.2.2.2.1.1, .hs .no Zak s.2.2.2.2.2.1.2, .str s.2.2.2.2.2.2.1, .str s.2.2.2.2.2.2.2.1, .hs .no Zal s.2.2.2.2.2.2.2.2.1.1, .bool s.2.2.2.2.2.2.2.2.1.2.1, .bool s.2.2.2.2.2.2.2.2.1.2.2, .str s.2.2.2.2.2.2.2.2.2.1.1, .bool s.2.2.2.2.2.2.2.2.2.1.2, .str s.2.2.2.2.2.2.2.2.2.2.1.1, .str s.2.2.2.2.2.2.2.2.2.2.1.2, .int .i64 s.2.2.2.2.2.2.2.2.2.2.2]] (.c (.bool (Za6 (true,1,s.2.2)))) []:=by
 refine ZcY (T:=⟨[ZeO,ZgN,ZeC,ZcF,Zfg,Zd5,ZeB,Zhr,Zfh],[],[],[],none,fun _=>[],0,[],[]⟩) (L:=L0) Tryz.func32 ⟨⟨rfl,rfl⟩,rfl⟩ (fun hwf=>?_)
 refine Eq.mpr (β:=T4 (pt True∧True∧bif !(outOk s.2.2.2.2.2.2.2.2.2.2.1) then ZgL s else T12 (T12 (T4 (pt True∧True∧bif !(Zbk (true,1,s.2.2) (true,1,0,0,([]:List ZbX),(false,([]:List ZaZ)),(⟨#[]⟩:ByteArray),s.2.2.2.2.2.2.2.1,(([]:List ZaO),false,false),s.2.2.2.2.2.2.2.2.2)) then ZgL s else T7 (bif neI s.2.2.1 0 then T2 (ZlC s) else T5 (bif neI s.2.2.2.1 0 then ZlC s else T7 (bif gtI s.2.2.2.2.1.length 0 then T5 (ZgL s) else T5 (bif !eqS s.2.2.2.2.2.2.1 (⟨#[]⟩:ByteArray) then T3 (ZgL s) else T5 (bif s.2.2.2.2.2.2.2.2.1.2.1 then True∧ZgL s else T2 (pt (s.2.2.2.2.2.2.2.2.1.1.length≤rowMax)∧T3 (bif gtI (List.length (Za0 s.2.2.2.2.2.2.2.2.1.1 true s.2.2.2.2.2.2.2.2.1.1.length)) 0 then ZgL s else T2 (pt True∧True∧bif btw 1 1 4 then T2 (pt True∧T2 (bif btw s.2.2.2.1 0 300 then T2 (pt True∧T2 (bif ZdM s.2.2.2.2.1 then T2 (pt True∧T2 (bif Zcp s.2.2.2.2.2.1 then T2 (pt True∧T2 (bif Zch s.2.2.2.2.2.2.2.2.1 then T2 (pt True∧T2 (bif ZsQ s.2.2.2.2.2.2.2.2.2.1 then T2 (pt True∧T2 (bif Zcz s.2.2.2.2.2.2.1 then T2 (pt True∧T2 (bif Zcz s.2.2.2.2.2.2.2.1 then T4 (bif eqS s.2.2.2.2.2.2.1 (⟨#[]⟩:ByteArray) then T3 (ZCD s) else T6 (bif eqS s.2.2.2.2.2.2.2.1 (⟨#[]⟩:ByteArray) then ZCD s else T3 (ZgL s))) else T5 (ZgL s))) else ZlC s)) else T2 (ZlC s))) else T4 (ZlC s))) else ZpT s)) else T2 (ZpT s))) else T4 (ZpT s))) else T6 (ZpT s)))))))))))))) (by kernel_rfl) ?_
 unfold ZpT ZCD ZlC ZgL T12 T2 T3 T4 T5 T6 T7
 have hw:Zbk (true,(1,s.2.2)) (true,(1,(0,(0,(([]:List ZbX),((false,([]:List ZaZ)),((⟨#[]⟩:ByteArray),(s.2.2.2.2.2.2.2.1,((([]:List ZaO),(false,false)),s.2.2.2.2.2.2.2.2.2)))))))))=noW (true,1,s.2.2):=ZPe (s:=(true,1,s.2.2)) rfl rfl
 simp only [hw]
 clear hw
 simp only [Zdq,eq_self]
 by_cases hW:noW (true,1,s.2.2)=true
 ·exact ZyW
 ·exact Zy8
def ZgM (s:Zad):Prop:=True∧rB false (Za6 (true,4,s.2.2))
def ZlD (s:Zad):Prop:=T7 (ZgM s)
def ZCE (s:Zad):Prop:=T2 (pt True∧T2 (bif btw s.2.2.2.2.2.2.2.2.2.2.2 0 4 then T4 (bif eqI s.2.2.2.2.2.2.2.2.2.2.2 0 then T3 (rB true (Za6 (true,4,s.2.2))) else T7 (rB (!eqS s.2.2.2.2.2.2.2.2.2.2.1.1 (⟨#[]⟩:ByteArray)) (Za6 (true,4,s.2.2)))) else True∧ZgM s))
def ZpV (s:Zad):Prop:=T6 (ZlD s)
theorem ZpW (s:Zad) (hpre:List.length s.2.2.2.2.2.2.2.2.1.1≤rowMax):Zam Tryz.prog 32 [.ag [.bool true, .int .i64 4, .int .i64 s.2.2.1, .int .i64 s.2.2.2.1, .hs .no Zay s.2.2.2.2.1, .bool s.2.2.2.2.2.1.1, .hs .no Zak s.2.2.2.2.2.1.2, .str s.2.2.2.2.2.2.1, .str s.2.2.2.2.2.2.2.1, .hs .no Zal s.2.2.2.2.2.2.2.2.1.1, .bool s.2.2.2.2.2.2.2.2.1.2.1, .bool s.2.2.2.2.2.2.2.2.1.2.2, .str s.2.2.2.2.2.2.2.2.2.1.1, .bool s.2.2.2.2.2.2.2.2.2.1.2, .str s.2.2.2.2.2.2.2.2.2.2.1.1, .str s.2.2.2.2.2.2.2.2.2.2.1.2, .int .i64 s.2.2.2.2.2.2.2.2.2.2.2]] (.c (.bool (Za6 (true,4,s.2.2)))) []:=by
 refine ZcY (T:=⟨[ZeO,ZgN,ZeC,ZcF,Zfg,Zd5,ZeB,Zhr,Zfh],[],[],[],none,fun _=>[],0,[],[]⟩) (L:=L0) Tryz.func32 ⟨⟨rfl,rfl⟩,rfl⟩ (fun hwf=>?_)
 refine Eq.mpr (β:=T4 (pt True∧True∧bif !(outOk s.2.2.2.2.2.2.2.2.2.2.1) then ZgM s else T12 (T12 (T3 (pt True∧True∧bif !(Zbk (true,4,s.2.2) (true,4,0,0,([]:List ZbX),(false,([]:List ZaZ)),(⟨#[]⟩:ByteArray),(⟨#[]⟩:ByteArray),(([]:List ZaO),false,false),s.2.2.2.2.2.2.2.2.2)) then ZgM s else T7 (bif neI s.2.2.1 0 then T2 (ZlD s) else T5 (bif neI s.2.2.2.1 0 then ZlD s else T7 (bif gtI s.2.2.2.2.1.length 0 then T5 (ZgM s) else T5 (bif !eqS s.2.2.2.2.2.2.1 (⟨#[]⟩:ByteArray) then T3 (ZgM s) else T5 (bif s.2.2.2.2.2.2.2.2.1.2.1 then True∧ZgM s else T2 (pt (s.2.2.2.2.2.2.2.2.1.1.length≤rowMax)∧T3 (bif gtI (List.length (Za0 s.2.2.2.2.2.2.2.2.1.1 true s.2.2.2.2.2.2.2.2.1.1.length)) 0 then ZgM s else T2 (pt True∧True∧bif btw 4 1 4 then T2 (pt True∧T2 (bif btw s.2.2.2.1 0 300 then T2 (pt True∧T2 (bif ZdM s.2.2.2.2.1 then T2 (pt True∧T2 (bif Zcp s.2.2.2.2.2.1 then T2 (pt True∧T2 (bif Zch s.2.2.2.2.2.2.2.2.1 then T2 (pt True∧T2 (bif ZsQ s.2.2.2.2.2.2.2.2.2.1 then T2 (pt True∧T2 (bif Zcz s.2.2.2.2.2.2.1 then T2 (pt True∧T2 (bif Zcz s.2.2.2.2.2.2.2.1 then T4 (bif eqS s.2.2.2.2.2.2.1 (⟨#[]⟩:ByteArray) then T3 (ZCE s) else T6 (bif eqS s.2.2.2.2.2.2.2.1 (⟨#[]⟩:ByteArray) then ZCE s else T3 (ZgM s))) else T5 (ZgM s))) else ZlD s)) else T2 (ZlD s))) else T4 (ZlD s))) else ZpV s)) else T2 (ZpV s))) else T4 (ZpV s))) else T6 (ZpV s)))))))))))))) (by kernel_rfl) ?_
 unfold ZpV ZCE ZlD ZgM T12 T2 T3 T4 T5 T6 T7
 have hw:Zbk (true,(4,s.2.2)) (true,(4,(0,(0,(([]:List ZbX),((false,([]:List ZaZ)),((⟨#[]⟩:ByteArray),((⟨#[]⟩:ByteArray),((([]:List ZaO),(false,false)),s.2.2.2.2.2.2.2.2.2)))))))))=(noW (true,4,s.2.2) && eqS s.2.2.2.2.2.2.2.1 (⟨#[]⟩:ByteArray)):=ZPf (s:=(true,4,s.2.2)) rfl rfl
 simp only [hw]
 clear hw
 simp only [Zdq,eq_self]
 by_cases hW:noW (true,4,s.2.2)=true
 ·exact ZyW
 ·exact Zy8
theorem ZPR (m:Nat):btw (Int.negSucc m) 1 4=false:=Zbl.2 (.inl (by omega))
theorem ZPS (m:Nat):btw (Int.ofNat (m + 5)) 1 4=false:=Zbl.2 (.inr (by show (4:Int) < ((m + 5:Nat):Int); omega))
theorem ZEM {st:Int} {r:Int × Int × Zv5 × Zb3 × ByteArray × ByteArray × ZbH × GIn × Zl0 × Int} (h1:¬ st=1) (h2:¬ st=2) (h3:¬ st=3) (h4:¬ st=4):Za6 (true,st,r)=false:=by
 have h:stI (true,st,r)=false:=by
  unfold stI
  rw [if_neg (show ¬ st=1 from h1),if_neg (show ¬ st=2 from h2),if_neg (show ¬ st=3 from h3),if_neg (show ¬ st=4 from h4)]
 unfold Za6
 rw [if_pos rfl,h]
 cases outOk _ <;> cases midI _ <;> cases endI _ <;> rfl
def ZjB (m:Nat) (s:Zad):Prop:=True∧rB false (Za6 (true,(Int.negSucc m),s.2.2))
def ZiI (m:Nat) (s:Zad):Prop:=T5 (ZjB m s)
def ZCF (s:Zad) (m:Nat):Prop:=T2 (pt True∧T2 (bif btw s.2.2.2.2.2.2.2.2.2.2.2 0 4 then T4 (bif eqI s.2.2.2.2.2.2.2.2.2.2.2 0 then T3 (rB true (Za6 (true,(Int.negSucc m),s.2.2))) else T7 (rB (!eqS s.2.2.2.2.2.2.2.2.2.2.1.1 (⟨#[]⟩:ByteArray)) (Za6 (true,(Int.negSucc m),s.2.2)))) else True∧ZjB m s))
def ZpX (m:Nat) (s:Zad):Prop:=T8 (ZiI m s)
theorem ZpY (m:Nat) (s:Zad) (hpre:List.length s.2.2.2.2.2.2.2.2.1.1≤rowMax):Zam Tryz.prog 32 [.ag [.bool true, .int .i64 (Int.negSucc m), .int .i64 s.2.2.1, .int .i64 s.2.2.2.1, .hs .no Zay s.2.2.2.2.1, .bool s.2.2.2.2.2.1.1, .hs .no Zak s.2.2.2.2.2.1.2, .str s.2.2.2.2.2.2.1, .str s.2.2.2.2.2.2.2.1, .hs .no Zal s.2.2.2.2.2.2.2.2.1.1, .bool s.2.2.2.2.2.2.2.2.1.2.1, .bool s.2.2.2.2.2.2.2.2.1.2.2, .str s.2.2.2.2.2.2.2.2.2.1.1, .bool s.2.2.2.2.2.2.2.2.2.1.2, .str s.2.2.2.2.2.2.2.2.2.2.1.1, .str s.2.2.2.2.2.2.2.2.2.2.1.2, .int .i64 s.2.2.2.2.2.2.2.2.2.2.2]] (.c (.bool (Za6 (true,(Int.negSucc m),s.2.2)))) []:=by
 refine ZcY (T:=⟨[ZeO,ZeC,ZcF,Zfg,Zd5,ZeB,Zhr,Zfh],[],[],[],none,fun _=>[],0,[],[]⟩) (L:=L0) Tryz.func32 ⟨⟨rfl,rfl⟩,rfl⟩ (fun hwf=>?_)
 refine Eq.mpr (β:=T4 (pt True∧True∧bif !(outOk s.2.2.2.2.2.2.2.2.2.2.1) then ZjB m s else T12 (T6 (bif neI s.2.2.1 0 then T4 (ZiI m s) else T5 (bif neI s.2.2.2.1 0 then T2 (ZiI m s) else T7 (bif gtI s.2.2.2.2.1.length 0 then ZiI m s else T5 (bif !eqS s.2.2.2.2.2.2.1 (⟨#[]⟩:ByteArray) then T3 (ZjB m s) else T5 (bif s.2.2.2.2.2.2.2.2.1.2.1 then True∧ZjB m s else T2 (pt (s.2.2.2.2.2.2.2.2.1.1.length≤rowMax)∧T3 (bif gtI (List.length (Za0 s.2.2.2.2.2.2.2.2.1.1 true s.2.2.2.2.2.2.2.2.1.1.length)) 0 then ZjB m s else T2 (pt True∧True∧bif btw (Int.negSucc m) 1 4 then T2 (pt True∧T2 (bif btw s.2.2.2.1 0 300 then T2 (pt True∧T2 (bif ZdM s.2.2.2.2.1 then T2 (pt True∧T2 (bif Zcp s.2.2.2.2.2.1 then T2 (pt True∧T2 (bif Zch s.2.2.2.2.2.2.2.2.1 then T2 (pt True∧T2 (bif ZsQ s.2.2.2.2.2.2.2.2.2.1 then T2 (pt True∧T2 (bif Zcz s.2.2.2.2.2.2.1 then T2 (pt True∧T2 (bif Zcz s.2.2.2.2.2.2.2.1 then T4 (bif eqS s.2.2.2.2.2.2.1 (⟨#[]⟩:ByteArray) then T3 (ZCF s m) else T6 (bif eqS s.2.2.2.2.2.2.2.1 (⟨#[]⟩:ByteArray) then ZCF s m else T3 (ZjB m s))) else ZiI m s)) else T2 (ZiI m s))) else T4 (ZiI m s))) else T6 (ZiI m s))) else ZpX m s)) else T2 (ZpX m s))) else T4 (ZpX m s))) else T6 (ZpX m s)))))))))))) (by kernel_rfl) ?_
 unfold ZpX ZCF ZiI ZjB T12 T2 T3 T4 T5 T6 T7 T8
 have hs:Za6 (true,(Int.negSucc m),s.2.2)=false:=ZEM (by intro h; cases h) (by intro h; cases h) (by intro h; cases h) (by intro h; cases h)
 have hb:=ZPR m
 exact Zzz
def ZjC (m:Nat) (s:Zad):Prop:=True∧rB false (Za6 (true,(Int.ofNat (m + 5)),s.2.2))
def ZiJ (m:Nat) (s:Zad):Prop:=T5 (ZjC m s)
def ZCG (s:Zad) (m:Nat):Prop:=T2 (pt True∧T2 (bif btw s.2.2.2.2.2.2.2.2.2.2.2 0 4 then T4 (bif eqI s.2.2.2.2.2.2.2.2.2.2.2 0 then T3 (rB true (Za6 (true,(Int.ofNat (m + 5)),s.2.2))) else T7 (rB (!eqS s.2.2.2.2.2.2.2.2.2.2.1.1 (⟨#[]⟩:ByteArray)) (Za6 (true,(Int.ofNat (m + 5)),s.2.2)))) else True∧ZjC m s))
def ZpZ (m:Nat) (s:Zad):Prop:=T8 (ZiJ m s)
theorem Zp0 (m:Nat) (s:Zad) (hpre:List.length s.2.2.2.2.2.2.2.2.1.1≤rowMax):Zam Tryz.prog 32 [.ag [.bool true, .int .i64 (Int.ofNat (m + 5)), .int .i64 s.2.2.1, .int .i64 s.2.2.2.1, .hs .no Zay s.2.2.2.2.1, .bool s.2.2.2.2.2.1.1, .hs .no Zak s.2.2.2.2.2.1.2, .str s.2.2.2.2.2.2.1, .str s.2.2.2.2.2.2.2.1, .hs .no Zal s.2.2.2.2.2.2.2.2.1.1, .bool s.2.2.2.2.2.2.2.2.1.2.1, .bool s.2.2.2.2.2.2.2.2.1.2.2, .str s.2.2.2.2.2.2.2.2.2.1.1, .bool s.2.2.2.2.2.2.2.2.2.1.2, .str s.2.2.2.2.2.2.2.2.2.2.1.1, .str s.2.2.2.2.2.2.2.2.2.2.1.2, .int .i64 s.2.2.2.2.2.2.2.2.2.2.2]] (.c (.bool (Za6 (true,(Int.ofNat (m + 5)),s.2.2)))) []:=by
 refine ZcY (T:=⟨[ZeO,ZeC,ZcF,Zfg,Zd5,ZeB,Zhr,Zfh],[],[],[],none,fun _=>[],0,[],[]⟩) (L:=L0) Tryz.func32 ⟨⟨rfl,rfl⟩,rfl⟩ (fun hwf=>?_)
 refine Eq.mpr (β:=T4 (pt True∧True∧bif !(outOk s.2.2.2.2.2.2.2.2.2.2.1) then ZjC m s else T12 (T6 (bif neI s.2.2.1 0 then T4 (ZiJ m s) else T5 (bif neI s.2.2.2.1 0 then T2 (ZiJ m s) else T7 (bif gtI s.2.2.2.2.1.length 0 then ZiJ m s else T5 (bif !eqS s.2.2.2.2.2.2.1 (⟨#[]⟩:ByteArray) then T3 (ZjC m s) else T5 (bif s.2.2.2.2.2.2.2.2.1.2.1 then True∧ZjC m s else T2 (pt (s.2.2.2.2.2.2.2.2.1.1.length≤rowMax)∧T3 (bif gtI (List.length (Za0 s.2.2.2.2.2.2.2.2.1.1 true s.2.2.2.2.2.2.2.2.1.1.length)) 0 then ZjC m s else T2 (pt True∧True∧bif btw (Int.ofNat (m + 5)) 1 4 then T2 (pt True∧T2 (bif btw s.2.2.2.1 0 300 then T2 (pt True∧T2 (bif ZdM s.2.2.2.2.1 then T2 (pt True∧T2 (bif Zcp s.2.2.2.2.2.1 then T2 (pt True∧T2 (bif Zch s.2.2.2.2.2.2.2.2.1 then T2 (pt True∧T2 (bif ZsQ s.2.2.2.2.2.2.2.2.2.1 then T2 (pt True∧T2 (bif Zcz s.2.2.2.2.2.2.1 then T2 (pt True∧T2 (bif Zcz s.2.2.2.2.2.2.2.1 then T4 (bif eqS s.2.2.2.2.2.2.1 (⟨#[]⟩:ByteArray) then T3 (ZCG s m) else T6 (bif eqS s.2.2.2.2.2.2.2.1 (⟨#[]⟩:ByteArray) then ZCG s m else T3 (ZjC m s))) else ZiJ m s)) else T2 (ZiJ m s))) else T4 (ZiJ m s))) else T6 (ZiJ m s))) else ZpZ m s)) else T2 (ZpZ m s))) else T4 (ZpZ m s))) else T6 (ZpZ m s)))))))))))) (by kernel_rfl) ?_
 unfold ZpZ ZCG ZiJ ZjC T12 T2 T3 T4 T5 T6 T7 T8
 have hs:Za6 (true,(Int.ofNat (m + 5)),s.2.2)=false:=ZEM (fun h=>by have h:((m + 5:Nat):Int)=_:=h; omega) (fun h=>by have h:((m + 5:Nat):Int)=_:=h; omega) (fun h=>by have h:((m + 5:Nat):Int)=_:=h; omega) (fun h=>by have h:((m + 5:Nat):Int)=_:=h; omega)
 have hb:=ZPS m
 exact Zzz
theorem ZuP (s:Zad) (hpre:List.length s.2.2.2.2.2.2.2.2.1.1≤rowMax):Zam Tryz.prog 32 [.ag [.bool s.1, .int .i64 s.2.1, .int .i64 s.2.2.1, .int .i64 s.2.2.2.1, .hs .no Zay s.2.2.2.2.1, .bool s.2.2.2.2.2.1.1, .hs .no Zak s.2.2.2.2.2.1.2, .str s.2.2.2.2.2.2.1, .str s.2.2.2.2.2.2.2.1, .hs .no Zal s.2.2.2.2.2.2.2.2.1.1, .bool s.2.2.2.2.2.2.2.2.1.2.1, .bool s.2.2.2.2.2.2.2.2.1.2.2, .str s.2.2.2.2.2.2.2.2.2.1.1, .bool s.2.2.2.2.2.2.2.2.2.1.2, .str s.2.2.2.2.2.2.2.2.2.2.1.1, .str s.2.2.2.2.2.2.2.2.2.2.1.2, .int .i64 s.2.2.2.2.2.2.2.2.2.2.2]] (.c (.bool (Za6 s))) []:=by
 obtain ⟨l,st,r⟩:=s
 cases l with
 | false=>exact ZpM (false,st,r) hpre
 | true =>
  rcases st with n | m
  ·rcases n with _ | _ | _ | _ | _ | m
   ·exact ZpS (true,0,r) hpre
   ·exact ZpU (true,1,r) hpre
   ·exact ZpO (true,2,r) hpre
   ·exact ZpQ (true,3,r) hpre
   ·exact ZpW (true,4,r) hpre
   ·exact Zp0 m (true,0,r) hpre
  ·exact ZpY m (true,0,r) hpre
def ZuQ:ZaC Tryz.prog:=⟨32,[.s Zae],fun x=>List.length x.1.2.2.2.2.2.2.2.2.1.1≤rowMax,fun x=>.c (.bool (Za6 x.1)),fun _=>[],fun x hx=>ZuP x.1 hx,Tryz.call32⟩
end Go.Proofs.YtkompmgleojmlaaGreat
