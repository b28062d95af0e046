import Derived.Test.YtafhbjjcpncfnaaGreatIBlSess2
set_option linter.unusedSimpArgs false
set_option linter.unusedVariables false
set_option maxRecDepth 100000
set_option maxHeartbeats 4000000
namespace Go.Proofs.YtafhbjjcpncfnaaGreat
open Go.ChangeShapes Go.WideShapes Go.ChangeAt Go.RowKit Go.Joins Go.Deep
open GoRep (rep bulk)
theorem ZMW {n:Nat}:0 < ((n:Nat):Int)↔¬ ((n:Nat):Int)=0:=by omega
theorem Zuy:btw 0 1 4=false:=rfl
theorem Zuz:btw 2 1 4=true:=rfl
theorem ZuA:btw 1 1 4=true:=rfl
theorem ZuB:btw 3 1 4=true:=rfl
theorem ZuC:btw 4 1 4=true:=rfl
theorem ZpC (s:Zad) (hpre:List.length s.2.2.2.2.2.2.2.2.1.1≤rowMax):Zao Tryz.prog 36 [.ag [.bool false, .int .i64 s.2.1, .int .i64 s.2.2.1, .int .i64 s.2.2.2.1, .hs .no Zay s.2.2.2.2.1, .bool s.2.2.2.2.2.1.1, .hs .no Zak s.2.2.2.2.2.1.2, .str s.2.2.2.2.2.2.1, .str s.2.2.2.2.2.2.2.1, .hs .no Zal s.2.2.2.2.2.2.2.2.1.1, .bool s.2.2.2.2.2.2.2.2.1.2.1, .bool s.2.2.2.2.2.2.2.2.1.2.2, .str s.2.2.2.2.2.2.2.2.2.1.1, .bool s.2.2.2.2.2.2.2.2.2.1.2, .str s.2.2.2.2.2.2.2.2.2.2.1.1, .str s.2.2.2.2.2.2.2.2.2.2.1.2, .int .i64 s.2.2.2.2.2.2.2.2.2.2.2]] (.c (.bool (Za4 (false,s.2.1,s.2.2)))) []:=by
 refine ZcS (T:=⟨[ZfG,ZsH,ZgO],[],[],[],none,fun _=>[],0,[],[]⟩) (L:=L0) Tryz.func36 ⟨⟨rfl,rfl⟩,rfl⟩ (fun hwf=>?_)
 refine Eq.mpr (β:=T4 (pt True∧True∧bif !(outOk s.2.2.2.2.2.2.2.2.2.2.1) then True∧rB false (Za4 (false,s.2.1,s.2.2)) else T3 (pt (true=true)∧T2 (pt True∧(True∧pt (true=true))∧True∧rB (Zbi (false,s.2) (Zaz (false,s.2))) (Za4 (false,s.2.1,s.2.2)))))) (by kernel_rfl) ?_
 exact ZyV
def Znb (s:Zad):Prop:=T4 (rB false (Za4 (true,2,s.2.2)))
def Zly (s:Zad):Prop:=T4 (Znb s)
def ZCq (s:Zad):Prop:=T2 (pt True∧T2 (bif btw s.2.2.2.2.2.2.2.2.2.2.2 0 4 then T4 (bif eqI s.2.2.2.2.2.2.2.2.2.2.2 0 then T3 (rB true (Za4 (true,2,s.2.2))) else T7 (rB (!eqS s.2.2.2.2.2.2.2.2.2.2.1.1 (⟨#[]⟩:ByteArray)) (Za4 (true,2,s.2.2)))) else T2 (rB false (Za4 (true,2,s.2.2)))))
def ZpD (s:Zad):Prop:=T6 (Zly s)
theorem ZpE (s:Zad) (hpre:List.length s.2.2.2.2.2.2.2.2.1.1≤rowMax):Zao Tryz.prog 36 [.ag [.bool true, .int .i64 2, .int .i64 s.2.2.1, .int .i64 s.2.2.2.1, .hs .no Zay s.2.2.2.2.1, .bool s.2.2.2.2.2.1.1, .hs .no Zak s.2.2.2.2.2.1.2, .str s.2.2.2.2.2.2.1, .str s.2.2.2.2.2.2.2.1, .hs .no Zal s.2.2.2.2.2.2.2.2.1.1, .bool s.2.2.2.2.2.2.2.2.1.2.1, .bool s.2.2.2.2.2.2.2.2.1.2.2, .str s.2.2.2.2.2.2.2.2.2.1.1, .bool s.2.2.2.2.2.2.2.2.2.1.2, .str s.2.2.2.2.2.2.2.2.2.2.1.1, .str s.2.2.2.2.2.2.2.2.2.2.1.2, .int .i64 s.2.2.2.2.2.2.2.2.2.2.2]] (.c (.bool (Za4 (true,2,s.2.2)))) []:=by
 refine ZcS (T:=⟨[ZfG,ZeC,ZcI,Zfh,Zd5,ZeB,ZiH,Zfi],[],[],[],none,fun _=>[],0,[],[]⟩) (L:=L0) Tryz.func36 ⟨⟨rfl,rfl⟩,rfl⟩ (fun hwf=>?_)
 refine Eq.mpr (β:=T4 (pt True∧True∧bif !(outOk s.2.2.2.2.2.2.2.2.2.2.1) then True∧rB false (Za4 (true,2,s.2.2)) else T12 (T6 (bif neI s.2.2.1 0 then T2 (Zly s) else T5 (bif neI s.2.2.2.1 0 then Zly s else T7 (bif gtI s.2.2.2.2.1.length 0 then T2 (Znb s) else T5 (bif !eqS s.2.2.2.2.2.2.1 (⟨#[]⟩:ByteArray) then Znb s else T5 (bif s.2.2.2.2.2.2.2.2.1.2.1 then T2 (rB false (Za4 (true,2,s.2.2))) else T2 (pt (s.2.2.2.2.2.2.2.2.1.1.length≤rowMax)∧T3 (bif gtI (List.length (ZaY s.2.2.2.2.2.2.2.2.1.1 true s.2.2.2.2.2.2.2.2.1.1.length)) 0 then True∧rB false (Za4 (true,2,s.2.2)) else T2 (pt True∧True∧bif btw 2 1 4 then T2 (pt True∧T2 (bif btw s.2.2.2.1 0 300 then T2 (pt True∧T2 (bif ZdI s.2.2.2.2.1 then T2 (pt True∧T2 (bif Zcm s.2.2.2.2.2.1 then T2 (pt True∧T2 (bif Zcg s.2.2.2.2.2.2.2.2.1 then T2 (pt True∧T2 (bif ZAN s.2.2.2.2.2.2.2.2.2.1 then T2 (pt True∧T2 (bif Zcy s.2.2.2.2.2.2.1 then T2 (pt True∧T2 (bif Zcy s.2.2.2.2.2.2.2.1 then T4 (bif eqS s.2.2.2.2.2.2.1 (⟨#[]⟩:ByteArray) then T3 (ZCq s) else T6 (bif eqS s.2.2.2.2.2.2.2.1 (⟨#[]⟩:ByteArray) then ZCq s else Znb s)) else T2 (Znb s))) else Zly s)) else T2 (Zly s))) else T4 (Zly s))) else ZpD s)) else T2 (ZpD s))) else T4 (ZpD s))) else T6 (ZpD s)))))))))))) (by kernel_rfl) ?_
 unfold ZpD ZCq Zly Znb T12 T2 T3 T4 T5 T6 T7
 exact ZyV
def ZpF (s:Zad):Prop:=T4 (rB false (Za4 (true,3,s.2.2)))
def Zlz (s:Zad):Prop:=T6 (ZpF s)
def ZCr (s:Zad):Prop:=T2 (pt True∧T2 (bif btw s.2.2.2.2.2.2.2.2.2.2.2 0 4 then T4 (bif eqI s.2.2.2.2.2.2.2.2.2.2.2 0 then T3 (rB true (Za4 (true,3,s.2.2))) else T7 (rB (!eqS s.2.2.2.2.2.2.2.2.2.2.1.1 (⟨#[]⟩:ByteArray)) (Za4 (true,3,s.2.2)))) else T2 (rB false (Za4 (true,3,s.2.2)))))
theorem ZpG (s:Zad) (hpre:List.length s.2.2.2.2.2.2.2.2.1.1≤rowMax):Zao Tryz.prog 36 [.ag [.bool true, .int .i64 3, .int .i64 s.2.2.1, .int .i64 s.2.2.2.1, .hs .no Zay s.2.2.2.2.1, .bool s.2.2.2.2.2.1.1, .hs .no Zak s.2.2.2.2.2.1.2, .str s.2.2.2.2.2.2.1, .str s.2.2.2.2.2.2.2.1, .hs .no Zal s.2.2.2.2.2.2.2.2.1.1, .bool s.2.2.2.2.2.2.2.2.1.2.1, .bool s.2.2.2.2.2.2.2.2.1.2.2, .str s.2.2.2.2.2.2.2.2.2.1.1, .bool s.2.2.2.2.2.2.2.2.2.1.2, .str s.2.2.2.2.2.2.2.2.2.2.1.1, .str s.2.2.2.2.2.2.2.2.2.2.1.2, .int .i64 s.2.2.2.2.2.2.2.2.2.2.2]] (.c (.bool (Za4 (true,3,s.2.2)))) []:=by
 refine ZcS (T:=⟨[ZfG,Zjs,ZcI,Zfh,Zd5,ZeB,ZiH,Zfi],[],[],[],none,fun _=>[],0,[],[]⟩) (L:=L0) Tryz.func36 ⟨⟨rfl,rfl⟩,rfl⟩ (fun hwf=>?_)
 refine Eq.mpr (β:=T4 (pt True∧True∧bif !(outOk s.2.2.2.2.2.2.2.2.2.2.1) then True∧rB false (Za4 (true,3,s.2.2)) else T12 (T4 (pt True∧True∧bif !(btw s.2.2.1 1 999999999) then True∧rB false (Za4 (true,3,s.2.2)) else T2 (pt True∧True∧bif btw 3 1 4 then T2 (pt True∧T2 (bif btw s.2.2.2.1 0 300 then T2 (pt True∧T2 (bif ZdI s.2.2.2.2.1 then T2 (pt True∧T2 (bif Zcm s.2.2.2.2.2.1 then T2 (pt True∧T2 (bif Zcg s.2.2.2.2.2.2.2.2.1 then T2 (pt True∧T2 (bif ZAN s.2.2.2.2.2.2.2.2.2.1 then T2 (pt True∧T2 (bif Zcy s.2.2.2.2.2.2.1 then T2 (pt True∧T2 (bif Zcy s.2.2.2.2.2.2.2.1 then T4 (bif eqS s.2.2.2.2.2.2.1 (⟨#[]⟩:ByteArray) then T3 (ZCr s) else T6 (bif eqS s.2.2.2.2.2.2.2.1 (⟨#[]⟩:ByteArray) then ZCr s else ZpF s)) else T2 (ZpF s))) else T4 (ZpF s))) else Zlz s)) else T2 (Zlz s))) else T4 (Zlz s))) else T6 (Zlz s))) else T8 (Zlz s))) else T10 (Zlz s)))))) (by kernel_rfl) ?_
 unfold ZCr Zlz ZpF T10 T12 T2 T3 T4 T6 T7 T8
 simp only [Zeg,eq_self]
 repeat' (first | apply And.intro | intro _)
 all_goals as_aux_lemma=>first
  | trivial
  | omega
  | (show List.length _≤rowMax; assumption)
  | (simp only [ZMW,Zfr] at *; simp_all [Za4,midI,endI,stI,noB,Zuy,ZuA,Zuz,ZuB,ZuC,ZaJ,ZaS,ZbW,Zby,Zbp,Zbo]; done)
  | (simp_all [Za4,midI,endI,stI,noB,Zuy,ZuA,Zuz,ZuB,ZuC,ZaJ,ZaS,ZbW,Zby,Zbp,Zbo]; done)
  | (rw [Bool.eq_iff_iff]; simp only [ZMW,Zfr] at *; simp_all [Za4,midI,endI,stI,noB,Zuy,ZuA,Zuz,ZuB,ZuC,ZaJ,ZaS,ZbW,Zby,Zbp,Zbo]; done)
  | (rw [Bool.eq_iff_iff]; simp_all [Za4,midI,endI,stI,noB,Zuy,ZuA,Zuz,ZuB,ZuC,ZaJ,ZaS,ZbW,Zby,Zbp,Zbo]; done)
  | (have h3:(List.length s.2.2.2.2.1:Int)=0:=by omega
     have h4:=(Zfr s.2.2.2.2.2.2.2.2.1.1).1 (by omega)
     have hB:noB (true,3,s.2.2)=true:=by
      rw [ZEr (s:=(true,3,s.2.2)) (by assumption) (by assumption) h3 (by assumption) (by assumption)]
      exact Zzj
     clear h3 h4
     rw [Bool.eq_iff_iff]
     simp_all [Za4,midI,endI,stI,Zuy,ZuA,Zuz,ZuB,ZuC,ZaJ,ZaS,ZbW,Zby,Zbp,Zbo]
     done)
def Znc (s:Zad):Prop:=T4 (rB false (Za4 (true,0,s.2.2)))
def ZlA (s:Zad):Prop:=T4 (Znc s)
def ZCs (s:Zad):Prop:=T2 (pt True∧T2 (bif btw s.2.2.2.2.2.2.2.2.2.2.2 0 4 then T4 (bif eqI s.2.2.2.2.2.2.2.2.2.2.2 0 then T3 (rB true (Za4 (true,0,s.2.2))) else T7 (rB (!eqS s.2.2.2.2.2.2.2.2.2.2.1.1 (⟨#[]⟩:ByteArray)) (Za4 (true,0,s.2.2)))) else T2 (rB false (Za4 (true,0,s.2.2)))))
def ZpH (s:Zad):Prop:=T6 (ZlA s)
theorem ZpI (s:Zad) (hpre:List.length s.2.2.2.2.2.2.2.2.1.1≤rowMax):Zao Tryz.prog 36 [.ag [.bool true, .int .i64 0, .int .i64 s.2.2.1, .int .i64 s.2.2.2.1, .hs .no Zay s.2.2.2.2.1, .bool s.2.2.2.2.2.1.1, .hs .no Zak s.2.2.2.2.2.1.2, .str s.2.2.2.2.2.2.1, .str s.2.2.2.2.2.2.2.1, .hs .no Zal s.2.2.2.2.2.2.2.2.1.1, .bool s.2.2.2.2.2.2.2.2.1.2.1, .bool s.2.2.2.2.2.2.2.2.1.2.2, .str s.2.2.2.2.2.2.2.2.2.1.1, .bool s.2.2.2.2.2.2.2.2.2.1.2, .str s.2.2.2.2.2.2.2.2.2.2.1.1, .str s.2.2.2.2.2.2.2.2.2.2.1.2, .int .i64 s.2.2.2.2.2.2.2.2.2.2.2]] (.c (.bool (Za4 (true,0,s.2.2)))) []:=by
 refine ZcS (T:=⟨[ZfG,ZeC,ZcI,Zfh,Zd5,ZeB,ZiH,Zfi],[],[],[],none,fun _=>[],0,[],[]⟩) (L:=L0) Tryz.func36 ⟨⟨rfl,rfl⟩,rfl⟩ (fun hwf=>?_)
 refine Eq.mpr (β:=T4 (pt True∧True∧bif !(outOk s.2.2.2.2.2.2.2.2.2.2.1) then True∧rB false (Za4 (true,0,s.2.2)) else T12 (T6 (bif neI s.2.2.1 0 then T2 (ZlA s) else T5 (bif neI s.2.2.2.1 0 then ZlA s else T7 (bif gtI s.2.2.2.2.1.length 0 then T2 (Znc s) else T5 (bif !eqS s.2.2.2.2.2.2.1 (⟨#[]⟩:ByteArray) then Znc s else T5 (bif s.2.2.2.2.2.2.2.2.1.2.1 then T2 (rB false (Za4 (true,0,s.2.2))) else T2 (pt (s.2.2.2.2.2.2.2.2.1.1.length≤rowMax)∧T3 (bif gtI (List.length (ZaY s.2.2.2.2.2.2.2.2.1.1 true s.2.2.2.2.2.2.2.2.1.1.length)) 0 then True∧rB false (Za4 (true,0,s.2.2)) else T2 (pt True∧True∧bif btw 0 1 4 then T2 (pt True∧T2 (bif btw s.2.2.2.1 0 300 then T2 (pt True∧T2 (bif ZdI s.2.2.2.2.1 then T2 (pt True∧T2 (bif Zcm s.2.2.2.2.2.1 then T2 (pt True∧T2 (bif Zcg s.2.2.2.2.2.2.2.2.1 then T2 (pt True∧T2 (bif ZAN s.2.2.2.2.2.2.2.2.2.1 then T2 (pt True∧T2 (bif Zcy s.2.2.2.2.2.2.1 then T2 (pt True∧T2 (bif Zcy s.2.2.2.2.2.2.2.1 then T4 (bif eqS s.2.2.2.2.2.2.1 (⟨#[]⟩:ByteArray) then T3 (ZCs s) else T6 (bif eqS s.2.2.2.2.2.2.2.1 (⟨#[]⟩:ByteArray) then ZCs s else Znc s)) else T2 (Znc s))) else ZlA s)) else T2 (ZlA s))) else T4 (ZlA s))) else ZpH s)) else T2 (ZpH s))) else T4 (ZpH s))) else T6 (ZpH s)))))))))))) (by kernel_rfl) ?_
 unfold ZpH ZCs ZlA Znc T12 T2 T3 T4 T5 T6 T7
 simp only [Zeg,eq_self]
 repeat' (first | apply And.intro | intro _)
 all_goals as_aux_lemma=>first
  | trivial
  | omega
  | (show List.length _≤rowMax; assumption)
  | (simp only [ZMW,Zfr] at *; simp_all [Za4,midI,endI,stI,noB,Zuy,ZuA,Zuz,ZuB,ZuC,ZaJ,ZaS,ZbW,Zby,Zbp,Zbo]; done)
  | (simp_all [Za4,midI,endI,stI,noB,Zuy,ZuA,Zuz,ZuB,ZuC,ZaJ,ZaS,ZbW,Zby,Zbp,Zbo]; done)
  | (rw [Bool.eq_iff_iff]; simp only [ZMW,Zfr] at *; simp_all [Za4,midI,endI,stI,noB,Zuy,ZuA,Zuz,ZuB,ZuC,ZaJ,ZaS,ZbW,Zby,Zbp,Zbo]; done)
  | (rw [Bool.eq_iff_iff]; simp_all [Za4,midI,endI,stI,noB,Zuy,ZuA,Zuz,ZuB,ZuC,ZaJ,ZaS,ZbW,Zby,Zbp,Zbo]; done)
  | (have h3:(List.length s.2.2.2.2.1:Int)=0:=by omega
     have h4:=(Zfr s.2.2.2.2.2.2.2.2.1.1).1 (by omega)
     have hB:noB (true,0,s.2.2)=true:=by
      rw [ZEr (s:=(true,0,s.2.2)) (by assumption) (by assumption) h3 (by assumption) (by assumption)]
      exact Zzj
     clear h3 h4
     rw [Bool.eq_iff_iff]
     simp_all [Za4,midI,endI,stI,Zuy,ZuA,Zuz,ZuB,ZuC,ZaJ,ZaS,ZbW,Zby,Zbp,Zbo]
     done)
def ZgM (s:Zad):Prop:=True∧rB false (Za4 (true,1,s.2.2))
def ZlB (s:Zad):Prop:=T7 (ZgM s)
def ZCt (s:Zad):Prop:=T2 (pt True∧T2 (bif btw s.2.2.2.2.2.2.2.2.2.2.2 0 4 then T4 (bif eqI s.2.2.2.2.2.2.2.2.2.2.2 0 then T3 (rB true (Za4 (true,1,s.2.2))) else T7 (rB (!eqS s.2.2.2.2.2.2.2.2.2.2.1.1 (⟨#[]⟩:ByteArray)) (Za4 (true,1,s.2.2)))) else True∧ZgM s))
def ZpJ (s:Zad):Prop:=T6 (ZlB s)
theorem ZpK (s:Zad) (hpre:List.length s.2.2.2.2.2.2.2.2.1.1≤rowMax):Zao Tryz.prog 36 [.ag [.bool true, .int .i64 1, .int .i64 s.2.2.1, .int .i64 s.2.2.2.1, .hs .no Zay s.2.2.2.2.1, .bool s.2.2.2.2.2.1.1, .hs .no Zak s.2.2.2.2.2.1.2, .str s.2.2.2.2.2.2.1, .str s.2.2.2.2.2.2.2.1, .hs .no Zal s.2.2.2.2.2.2.2.2.1.1, .bool s.2.2.2.2.2.2.2.2.1.2.1, .bool s.2.2.2.2.2.2.2.2.1.2.2, .str s.2.2.2.2.2.2.2.2.2.1.1, .bool s.2.2.2.2.2.2.2.2.2.1.2, .str s.2.2.2.2.2.2.2.2.2.2.1.1, .str s.2.2.2.2.2.2.2.2.2.2.1.2, .int .i64 s.2.2.2.2.2.2.2.2.2.2.2]] (.c (.bool (Za4 (true,1,s.2.2)))) []:=by
 refine ZcS (T:=⟨[ZfG,ZgO,ZeC,ZcI,Zfh,Zd5,ZeB,ZiH,Zfi],[],[],[],none,fun _=>[],0,[],[]⟩) (L:=L0) Tryz.func36 ⟨⟨rfl,rfl⟩,rfl⟩ (fun hwf=>?_)
 refine Eq.mpr (β:=T4 (pt True∧True∧bif !(outOk s.2.2.2.2.2.2.2.2.2.2.1) then ZgM s else T12 (T12 (T4 (pt True∧True∧bif !(Zbi (true,1,s.2.2) (true,1,0,0,([]:List ZbT),(false,([]:List ZaW)),(⟨#[]⟩:ByteArray),s.2.2.2.2.2.2.2.1,(([]:List ZaM),false,false),s.2.2.2.2.2.2.2.2.2)) then ZgM s else T7 (bif neI s.2.2.1 0 then T2 (ZlB s) else T5 (bif neI s.2.2.2.1 0 then ZlB s else T7 (bif gtI s.2.2.2.2.1.length 0 then T5 (ZgM s) else T5 (bif !eqS s.2.2.2.2.2.2.1 (⟨#[]⟩:ByteArray) then T3 (ZgM s) else T5 (bif s.2.2.2.2.2.2.2.2.1.2.1 then True∧ZgM s else T2 (pt (s.2.2.2.2.2.2.2.2.1.1.length≤rowMax)∧T3 (bif gtI (List.length (ZaY s.2.2.2.2.2.2.2.2.1.1 true s.2.2.2.2.2.2.2.2.1.1.length)) 0 then ZgM s else T2 (pt True∧True∧bif btw 1 1 4 then T2 (pt True∧T2 (bif btw s.2.2.2.1 0 300 then T2 (pt True∧T2 (bif ZdI s.2.2.2.2.1 then T2 (pt True∧T2 (bif Zcm s.2.2.2.2.2.1 then T2 (pt True∧T2 (bif Zcg s.2.2.2.2.2.2.2.2.1 then T2 (pt True∧T2 (bif ZAN s.2.2.2.2.2.2.2.2.2.1 then T2 (pt True∧T2 (bif Zcy s.2.2.2.2.2.2.1 then T2 (pt True∧T2 (bif Zcy s.2.2.2.2.2.2.2.1 then T4 (bif eqS s.2.2.2.2.2.2.1 (⟨#[]⟩:ByteArray) then T3 (ZCt s) else T6 (bif eqS s.2.2.2.2.2.2.2.1 (⟨#[]⟩:ByteArray) then ZCt s else T3 (ZgM s))) else T5 (ZgM s))) else ZlB s)) else T2 (ZlB s))) else T4 (ZlB s))) else ZpJ s)) else T2 (ZpJ s))) else T4 (ZpJ s))) else T6 (ZpJ s)))))))))))))) (by kernel_rfl) ?_
 unfold ZpJ ZCt ZlB ZgM T12 T2 T3 T4 T5 T6 T7
 have hw:Zbi (true,(1,s.2.2)) (true,(1,(0,(0,(([]:List ZbT),((false,([]:List ZaW)),((⟨#[]⟩:ByteArray),(s.2.2.2.2.2.2.2.1,((([]:List ZaM),(false,false)),s.2.2.2.2.2.2.2.2.2)))))))))=noW (true,1,s.2.2):=ZOI (s:=(true,1,s.2.2)) rfl rfl
 simp only [hw]
 clear hw
 simp only [Zeg,eq_self]
 by_cases hW:noW (true,1,s.2.2)=true
 ·exact ZyX
 ·exact Zy7
def ZgN (s:Zad):Prop:=True∧rB false (Za4 (true,4,s.2.2))
def ZlC (s:Zad):Prop:=T7 (ZgN s)
def ZCu (s:Zad):Prop:=T2 (pt True∧T2 (bif btw s.2.2.2.2.2.2.2.2.2.2.2 0 4 then T4 (bif eqI s.2.2.2.2.2.2.2.2.2.2.2 0 then T3 (rB true (Za4 (true,4,s.2.2))) else T7 (rB (!eqS s.2.2.2.2.2.2.2.2.2.2.1.1 (⟨#[]⟩:ByteArray)) (Za4 (true,4,s.2.2)))) else True∧ZgN s))
def ZpL (s:Zad):Prop:=T6 (ZlC s)
theorem ZpM (s:Zad) (hpre:List.length s.2.2.2.2.2.2.2.2.1.1≤rowMax):Zao Tryz.prog 36 [.ag [.bool true, .int .i64 4, .int .i64 s.2.2.1, .int .i64 s.2.2.2.1, .hs .no Zay s.2.2.2.2.1, .bool s.2.2.2.2.2.1.1, .hs .no Zak s.2.2.2.2.2.1.2, .str s.2.2.2.2.2.2.1, .str s.2.2.2.2.2.2.2.1, .hs .no Zal s.2.2.2.2.2.2.2.2.1.1, .bool s.2.2.2.2.2.2.2.2.1.2.1, .bool s.2.2.2.2.2.2.2.2.1.2.2, .str s.2.2.2.2.2.2.2.2.2.1.1, .bool s.2.2.2.2.2.2.2.2.2.1.2, .str s.2.2.2.2.2.2.2.2.2.2.1.1, .str s.2.2.2.2.2.2.2.2.2.2.1.2, .int .i64 s.2.2.2.2.2.2.2.2.2.2.2]] (.c (.bool (Za4 (true,4,s.2.2)))) []:=by
 refine ZcS (T:=⟨[ZfG,ZgO,ZeC,ZcI,Zfh,Zd5,ZeB,ZiH,Zfi],[],[],[],none,fun _=>[],0,[],[]⟩) (L:=L0) Tryz.func36 ⟨⟨rfl,rfl⟩,rfl⟩ (fun hwf=>?_)
 refine Eq.mpr (β:=T4 (pt True∧True∧bif !(outOk s.2.2.2.2.2.2.2.2.2.2.1) then ZgN s else T12 (T12 (T3 (pt True∧True∧bif !(Zbi (true,4,s.2.2) (true,4,0,0,([]:List ZbT),(false,([]:List ZaW)),(⟨#[]⟩:ByteArray),(⟨#[]⟩:ByteArray),(([]:List ZaM),false,false),s.2.2.2.2.2.2.2.2.2)) then ZgN s else T7 (bif neI s.2.2.1 0 then T2 (ZlC s) else T5 (bif neI s.2.2.2.1 0 then ZlC s else T7 (bif gtI s.2.2.2.2.1.length 0 then T5 (ZgN s) else T5 (bif !eqS s.2.2.2.2.2.2.1 (⟨#[]⟩:ByteArray) then T3 (ZgN s) else T5 (bif s.2.2.2.2.2.2.2.2.1.2.1 then True∧ZgN s else T2 (pt (s.2.2.2.2.2.2.2.2.1.1.length≤rowMax)∧T3 (bif gtI (List.length (ZaY s.2.2.2.2.2.2.2.2.1.1 true s.2.2.2.2.2.2.2.2.1.1.length)) 0 then ZgN s else T2 (pt True∧True∧bif btw 4 1 4 then T2 (pt True∧T2 (bif btw s.2.2.2.1 0 300 then T2 (pt True∧T2 (bif ZdI s.2.2.2.2.1 then T2 (pt True∧T2 (bif Zcm s.2.2.2.2.2.1 then T2 (pt True∧T2 (bif Zcg s.2.2.2.2.2.2.2.2.1 then T2 (pt True∧T2 (bif ZAN s.2.2.2.2.2.2.2.2.2.1 then T2 (pt True∧T2 (bif Zcy s.2.2.2.2.2.2.1 then T2 (pt True∧T2 (bif Zcy s.2.2.2.2.2.2.2.1 then T4 (bif eqS s.2.2.2.2.2.2.1 (⟨#[]⟩:ByteArray) then T3 (ZCu s) else T6 (bif eqS s.2.2.2.2.2.2.2.1 (⟨#[]⟩:ByteArray) then ZCu s else T3 (ZgN s))) else T5 (ZgN s))) else ZlC s)) else T2 (ZlC s))) else T4 (ZlC s))) else ZpL s)) else T2 (ZpL s))) else T4 (ZpL s))) else T6 (ZpL s)))))))))))))) (by kernel_rfl) ?_
 unfold ZpL ZCu ZlC ZgN T12 T2 T3 T4 T5 T6 T7
 have hw:Zbi (true,(4,s.2.2)) (true,(4,(0,(0,(([]:List ZbT),((false,([]:List ZaW)),((⟨#[]⟩:ByteArray),((⟨#[]⟩:ByteArray),((([]:List ZaM),(false,false)),s.2.2.2.2.2.2.2.2.2)))))))))=(noW (true,4,s.2.2) && eqS s.2.2.2.2.2.2.2.1 (⟨#[]⟩:ByteArray)):=ZOJ (s:=(true,4,s.2.2)) rfl rfl
 simp only [hw]
 clear hw
 simp only [Zeg,eq_self]
 by_cases hW:noW (true,4,s.2.2)=true
 ·exact ZyX
 ·exact Zy7
theorem ZPn (m:Nat):btw (Int.negSucc m) 1 4=false:=ZbS.2 (.inl (by omega))
theorem ZPo (m:Nat):btw (Int.ofNat (m + 5)) 1 4=false:=ZbS.2 (.inr (by show (4:Int) < ((m + 5:Nat):Int); omega))
theorem ZEs {st:Int} {r:Int × Int × ZvY × Zb1 × ByteArray × ByteArray × ZbH × GIn × ZsC × Int} (h1:¬ st=1) (h2:¬ st=2) (h3:¬ st=3) (h4:¬ st=4):Za4 (true,st,r)=false:=by
 have h:stI (true,st,r)=false:=by
  unfold stI
  rw [if_neg (show ¬ st=1 from h1),if_neg (show ¬ st=2 from h2),if_neg (show ¬ st=3 from h3),if_neg (show ¬ st=4 from h4)]
 unfold Za4
 rw [if_pos rfl,h]
 cases outOk _ <;> cases midI _ <;> cases endI _ <;> rfl
def ZjA (m:Nat) (s:Zad):Prop:=True∧rB false (Za4 (true,(Int.negSucc m),s.2.2))
def ZiK (m:Nat) (s:Zad):Prop:=T5 (ZjA m s)
def ZCv (s:Zad) (m:Nat):Prop:=T2 (pt True∧T2 (bif btw s.2.2.2.2.2.2.2.2.2.2.2 0 4 then T4 (bif eqI s.2.2.2.2.2.2.2.2.2.2.2 0 then T3 (rB true (Za4 (true,(Int.negSucc m),s.2.2))) else T7 (rB (!eqS s.2.2.2.2.2.2.2.2.2.2.1.1 (⟨#[]⟩:ByteArray)) (Za4 (true,(Int.negSucc m),s.2.2)))) else True∧ZjA m s))
def ZpN (m:Nat) (s:Zad):Prop:=T8 (ZiK m s)
theorem ZpO (m:Nat) (s:Zad) (hpre:List.length s.2.2.2.2.2.2.2.2.1.1≤rowMax):Zao Tryz.prog 36 [.ag [.bool true, .int .i64 (Int.negSucc m), .int .i64 s.2.2.1, .int .i64 s.2.2.2.1, .hs .no Zay s.2.2.2.2.1, .bool s.2.2.2.2.2.1.1, .hs .no Zak s.2.2.2.2.2.1.2, .str s.2.2.2.2.2.2.1, .str s.2.2.2.2.2.2.2.1, .hs .no Zal s.2.2.2.2.2.2.2.2.1.1, .bool s.2.2.2.2.2.2.2.2.1.2.1, .bool s.2.2.2.2.2.2.2.2.1.2.2, .str s.2.2.2.2.2.2.2.2.2.1.1, .bool s.2.2.2.2.2.2.2.2.2.1.2, .str s.2.2.2.2.2.2.2.2.2.2.1.1, .str s.2.2.2.2.2.2.2.2.2.2.1.2, .int .i64 s.2.2.2.2.2.2.2.2.2.2.2]] (.c (.bool (Za4 (true,(Int.negSucc m),s.2.2)))) []:=by
 refine ZcS (T:=⟨[ZfG,ZeC,ZcI,Zfh,Zd5,ZeB,ZiH,Zfi],[],[],[],none,fun _=>[],0,[],[]⟩) (L:=L0) Tryz.func36 ⟨⟨rfl,rfl⟩,rfl⟩ (fun hwf=>?_)
 refine Eq.mpr (β:=T4 (pt True∧True∧bif !(outOk s.2.2.2.2.2.2.2.2.2.2.1) then ZjA m s else T12 (T6 (bif neI s.2.2.1 0 then T4 (ZiK m s) else T5 (bif neI s.2.2.2.1 0 then T2 (ZiK m s) else T7 (bif gtI s.2.2.2.2.1.length 0 then ZiK m s else T5 (bif !eqS s.2.2.2.2.2.2.1 (⟨#[]⟩:ByteArray) then T3 (ZjA m s) else T5 (bif s.2.2.2.2.2.2.2.2.1.2.1 then True∧ZjA m s else T2 (pt (s.2.2.2.2.2.2.2.2.1.1.length≤rowMax)∧T3 (bif gtI (List.length (ZaY s.2.2.2.2.2.2.2.2.1.1 true s.2.2.2.2.2.2.2.2.1.1.length)) 0 then ZjA m s else T2 (pt True∧True∧bif btw (Int.negSucc m) 1 4 then T2 (pt True∧T2 (bif btw s.2.2.2.1 0 300 then T2 (pt True∧T2 (bif ZdI s.2.2.2.2.1 then T2 (pt True∧T2 (bif Zcm s.2.2.2.2.2.1 then T2 (pt True∧T2 (bif Zcg s.2.2.2.2.2.2.2.2.1 then T2 (pt True∧T2 (bif ZAN s.2.2.2.2.2.2.2.2.2.1 then T2 (pt True∧T2 (bif Zcy s.2.2.2.2.2.2.1 then T2 (pt True∧T2 (bif Zcy s.2.2.2.2.2.2.2.1 then T4 (bif eqS s.2.2.2.2.2.2.1 (⟨#[]⟩:ByteArray) then T3 (ZCv s m) else T6 (bif eqS s.2.2.2.2.2.2.2.1 (⟨#[]⟩:ByteArray) then ZCv s m else T3 (ZjA m s))) else ZiK m s)) else T2 (ZiK m s))) else T4 (ZiK m s))) else T6 (ZiK m s))) else ZpN m s)) else T2 (ZpN m s))) else T4 (ZpN m s))) else T6 (ZpN m s)))))))))))) (by kernel_rfl) ?_
 unfold ZpN ZCv ZiK ZjA T12 T2 T3 T4 T5 T6 T7 T8
 have hs:Za4 (true,(Int.negSucc m),s.2.2)=false:=ZEs (by intro h; cases h) (by intro h; cases h) (by intro h; cases h) (by intro h; cases h)
 have hb:=ZPn m
 exact Zzz
def ZjB (m:Nat) (s:Zad):Prop:=True∧rB false (Za4 (true,(Int.ofNat (m + 5)),s.2.2))
def ZiL (m:Nat) (s:Zad):Prop:=T5 (ZjB m s)
def ZCw (s:Zad) (m:Nat):Prop:=T2 (pt True∧T2 (bif btw s.2.2.2.2.2.2.2.2.2.2.2 0 4 then T4 (bif eqI s.2.2.2.2.2.2.2.2.2.2.2 0 then T3 (rB true (Za4 (true,(Int.ofNat (m + 5)),s.2.2))) else T7 (rB (!eqS s.2.2.2.2.2.2.2.2.2.2.1.1 (⟨#[]⟩:ByteArray)) (Za4 (true,(Int.ofNat (m + 5)),s.2.2)))) else True∧ZjB m s))
def ZpP (m:Nat) (s:Zad):Prop:=T8 (ZiL m s)
theorem ZpQ (m:Nat) (s:Zad) (hpre:List.length s.2.2.2.2.2.2.2.2.1.1≤rowMax):Zao Tryz.prog 36 [.ag [.bool true, .int .i64 (Int.ofNat (m + 5)), .int .i64 s.2.2.1, .int .i64 s.2.2.2.1, .hs .no Zay s.2.2.2.2.1, .bool s.2.2.2.2.2.1.1, .hs .no Zak s.2.2.2.2.2.1.2, .str s.2.2.2.2.2.2.1, .str s.2.2.2.2.2.2.2.1, .hs .no Zal s.2.2.2.2.2.2.2.2.1.1, .bool s.2.2.2.2.2.2.2.2.1.2.1, .bool s.2.2.2.2.2.2.2.2.1.2.2, .str s.2.2.2.2.2.2.2.2.2.1.1, .bool s.2.2.2.2.2.2.2.2.2.1.2, .str s.2.2.2.2.2.2.2.2.2.2.1.1, .str s.2.2.2.2.2.2.2.2.2.2.1.2, .int .i64 s.2.2.2.2.2.2.2.2.2.2.2]] (.c (.bool (Za4 (true,(Int.ofNat (m + 5)),s.2.2)))) []:=by
 refine ZcS (T:=⟨[ZfG,ZeC,ZcI,Zfh,Zd5,ZeB,ZiH,Zfi],[],[],[],none,fun _=>[],0,[],[]⟩) (L:=L0) Tryz.func36 ⟨⟨rfl,rfl⟩,rfl⟩ (fun hwf=>?_)
 refine Eq.mpr (β:=T4 (pt True∧True∧bif !(outOk s.2.2.2.2.2.2.2.2.2.2.1) then ZjB m s else T12 (T6 (bif neI s.2.2.1 0 then T4 (ZiL m s) else T5 (bif neI s.2.2.2.1 0 then T2 (ZiL m s) else T7 (bif gtI s.2.2.2.2.1.length 0 then ZiL m s else T5 (bif !eqS s.2.2.2.2.2.2.1 (⟨#[]⟩:ByteArray) then T3 (ZjB m s) else T5 (bif s.2.2.2.2.2.2.2.2.1.2.1 then True∧ZjB m s else T2 (pt (s.2.2.2.2.2.2.2.2.1.1.length≤rowMax)∧T3 (bif gtI (List.length (ZaY s.2.2.2.2.2.2.2.2.1.1 true s.2.2.2.2.2.2.2.2.1.1.length)) 0 then ZjB m s else T2 (pt True∧True∧bif btw (Int.ofNat (m + 5)) 1 4 then T2 (pt True∧T2 (bif btw s.2.2.2.1 0 300 then T2 (pt True∧T2 (bif ZdI s.2.2.2.2.1 then T2 (pt True∧T2 (bif Zcm s.2.2.2.2.2.1 then T2 (pt True∧T2 (bif Zcg s.2.2.2.2.2.2.2.2.1 then T2 (pt True∧T2 (bif ZAN s.2.2.2.2.2.2.2.2.2.1 then T2 (pt True∧T2 (bif Zcy s.2.2.2.2.2.2.1 then T2 (pt True∧T2 (bif Zcy s.2.2.2.2.2.2.2.1 then T4 (bif eqS s.2.2.2.2.2.2.1 (⟨#[]⟩:ByteArray) then T3 (ZCw s m) else T6 (bif eqS s.2.2.2.2.2.2.2.1 (⟨#[]⟩:ByteArray) then ZCw s m else T3 (ZjB m s))) else ZiL m s)) else T2 (ZiL m s))) else T4 (ZiL m s))) else T6 (ZiL m s))) else ZpP m s)) else T2 (ZpP m s))) else T4 (ZpP m s))) else T6 (ZpP m s)))))))))))) (by kernel_rfl) ?_
 unfold ZpP ZCw ZiL ZjB T12 T2 T3 T4 T5 T6 T7 T8
 have hs:Za4 (true,(Int.ofNat (m + 5)),s.2.2)=false:=ZEs (fun h=>by have h:((m + 5:Nat):Int)=_:=h; omega) (fun h=>by have h:((m + 5:Nat):Int)=_:=h; omega) (fun h=>by have h:((m + 5:Nat):Int)=_:=h; omega) (fun h=>by have h:((m + 5:Nat):Int)=_:=h; omega)
 have hb:=ZPo m
 exact Zzz
theorem ZuD (s:Zad) (hpre:List.length s.2.2.2.2.2.2.2.2.1.1≤rowMax):Zao Tryz.prog 36 [.ag [.bool s.1, .int .i64 s.2.1, .int .i64 s.2.2.1, .int .i64 s.2.2.2.1, .hs .no Zay s.2.2.2.2.1, .bool s.2.2.2.2.2.1.1, .hs .no Zak s.2.2.2.2.2.1.2, .str s.2.2.2.2.2.2.1, .str s.2.2.2.2.2.2.2.1, .hs .no Zal s.2.2.2.2.2.2.2.2.1.1, .bool s.2.2.2.2.2.2.2.2.1.2.1, .bool s.2.2.2.2.2.2.2.2.1.2.2, .str s.2.2.2.2.2.2.2.2.2.1.1, .bool s.2.2.2.2.2.2.2.2.2.1.2, .str s.2.2.2.2.2.2.2.2.2.2.1.1, .str s.2.2.2.2.2.2.2.2.2.2.1.2, .int .i64 s.2.2.2.2.2.2.2.2.2.2.2]] (.c (.bool (Za4 s))) []:=by
 obtain ⟨l,st,r⟩:=s
 cases l with
 | false=>exact ZpC (false,st,r) hpre
 | true =>
  rcases st with n | m
  ·rcases n with _ | _ | _ | _ | _ | m
   ·exact ZpI (true,0,r) hpre
   ·exact ZpK (true,1,r) hpre
   ·exact ZpE (true,2,r) hpre
   ·exact ZpG (true,3,r) hpre
   ·exact ZpM (true,4,r) hpre
   ·exact ZpQ m (true,0,r) hpre
  ·exact ZpO m (true,0,r) hpre
def ZuE:ZaE Tryz.prog:=⟨36,[.s Zae],fun x=>List.length x.1.2.2.2.2.2.2.2.2.1.1≤rowMax,fun x=>.c (.bool (Za4 x.1)),fun _=>[],fun x hx=>ZuD x.1 hx,Tryz.call36⟩
end Go.Proofs.YtafhbjjcpncfnaaGreat
