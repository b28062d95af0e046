import Derived.Test.YtkompmgleojmlaaGreatFBlAll
import Derived.Laws.ResultCell
set_option linter.unusedSimpArgs false
set_option linter.unusedVariables false
namespace Go.Proofs.YtkompmgleojmlaaGreat
open Go.Lib Go.ChangeShapes Go.WideShapes Go.ChangeAt Go.RowKit Go.Joins Go.Deep
open GoRep (rep bulk)
def Zfg (st:Za7) (v n:Int):ZaM × Bool:=if boxW (ZgM st n) v < 0 then (ZoM,false) else (Zab (ZgM st n) (Int.toNat (boxW (ZgM st n) v)),true)
theorem Zna {X:List Nat} {W:World} {t:Ty} {xs:List t.den} {v:Value} (h:ZbL X W [] [] (.hs .no t xs) v):∃ A n c,v=.slice A n c:=by
  obtain ⟨_,F,⟨A,c,e1,_⟩,_⟩:=h
  exact ⟨A,_,c,by simpa using e1⟩
theorem ZFE {X:List Nat} {W:World} {t:Ty} {xs:List t.den} {v:Value} {F:List Nat} (h:ZbY W (Zbb W t) t.n xs v F) (hx:∀ b ∈ F,b ∉ X):ZbL X W [] [] (.hs .no t xs) v:=by
  obtain ⟨F',⟨A,c,e1,hs⟩,hF⟩:=Zbb.rep (.list t) (x:=xs) (cs:=[v]) (F:=F) ⟨v,rfl,h⟩
  have hlt:=Zbb.lt (.list t) (x:=xs) (cs:=[v]) (F:=F) ⟨v,rfl,h⟩
  have e2:v=.slice A xs.length c:=by simpa using e1
  exact ⟨by rw [e2]; rfl,F',⟨A,c,by rw [e2],hs⟩,fun b hb=>⟨⟨by simp [foots],hx b (hF b hb)⟩,hlt b (hF b hb)⟩⟩
theorem ZiB {W:World} {b o:Nat} {v:Value} {q:Nat} (h:q ≠ b):(W.setCell ⟨b,o,none⟩ v).heap[q]?=W.heap[q]?:=by
  unfold World.setCell
  show (W.heap.modify b _)[q]?=_
  rw [Array.getElem?_modify,if_neg (fun e=>h e.symm)]
theorem ZkM {W W' : World} {b o:Nat} {v:Value} (g:Zbz W [] W' []) (hb:W.heap.size≤b):Zbz W [] (W'.setCell ⟨b,o,none⟩ v) [] :=
  ⟨g.os,g.tape,g.output,by show _≤(W'.heap.modify b _).size; rw [Array.size_modify]; exact g.size,fun q hq hn=>(ZiB (by omega)).trans (g.keep q hq hn),fun q hq=>by simp [foots] at hq,fun i e he=>by simp at he⟩
theorem ZtJ {W W4:World} {b1:Nat} {T:TypeId} {z0 z1 z2 z3 x0 x1 x2 x3:Value} (k:W4.heap[b1]?=some (.cells #[z0,z1,z2,z3] T (0,0))) (g:Zbz W [] W4 []) (hb:W.heap.size≤b1) :
    ((((W4.setCell ⟨b1,0,none⟩ x0).setCell ⟨b1,1,none⟩ x1).setCell ⟨b1,2,none⟩ x2).setCell ⟨b1,3,none⟩ x3).heap[b1]?=some (.cells #[x0,x1,x2,x3] T (0,0)) ∧
    Zbz W [] ((((W4.setCell ⟨b1,0,none⟩ x0).setCell ⟨b1,1,none⟩ x1).setCell ⟨b1,2,none⟩ x2).setCell ⟨b1,3,none⟩ x3) [] ∧
    ∀ q,q ≠ b1→((((W4.setCell ⟨b1,0,none⟩ x0).setCell ⟨b1,1,none⟩ x1).setCell ⟨b1,2,none⟩ x2).setCell ⟨b1,3,none⟩ x3).heap[q]?=W4.heap[q]?:=by
  refine ⟨?_,ZkM (ZkM (ZkM (ZkM g hb) hb) hb) hb,fun q hq=>(ZiB hq).trans ((ZiB hq).trans ((ZiB hq).trans (ZiB hq)))⟩
  have k0:=setRow_heap W4 b1 _ #[x0,z1,z2,z3] T _ k
  have e0:W4.setCell ⟨b1,0,none⟩ x0=W4.setRow b1 #[x0,z1,z2,z3]:=setCell_eq_setRow W4 b1 0 _ T _ x0 k
  rw [← e0] at k0
  have k1:=setRow_heap _ b1 _ #[x0,x1,z2,z3] T _ k0
  have e1:(W4.setCell ⟨b1,0,none⟩ x0).setCell ⟨b1,1,none⟩ x1=(W4.setCell ⟨b1,0,none⟩ x0).setRow b1 #[x0,x1,z2,z3]:=setCell_eq_setRow _ b1 1 _ T _ x1 k0
  rw [← e1] at k1
  have k2:=setRow_heap _ b1 _ #[x0,x1,x2,z3] T _ k1
  have e2:((W4.setCell ⟨b1,0,none⟩ x0).setCell ⟨b1,1,none⟩ x1).setCell ⟨b1,2,none⟩ x2=((W4.setCell ⟨b1,0,none⟩ x0).setCell ⟨b1,1,none⟩ x1).setRow b1 #[x0,x1,x2,z3]:=setCell_eq_setRow _ b1 2 _ T _ x2 k1
  rw [← e2] at k2
  have k3:=setRow_heap _ b1 _ #[x0,x1,x2,x3] T _ k2
  have e3:(((W4.setCell ⟨b1,0,none⟩ x0).setCell ⟨b1,1,none⟩ x1).setCell ⟨b1,2,none⟩ x2).setCell ⟨b1,3,none⟩ x3=(((W4.setCell ⟨b1,0,none⟩ x0).setCell ⟨b1,1,none⟩ x1).setCell ⟨b1,2,none⟩ x2).setRow b1 #[x0,x1,x2,x3]:=setCell_eq_setRow _ b1 3 _ T _ x3 k2
  rw [← e3] at k3
  exact k3
theorem ZDp {X:List Nat} {W Wf:World} {ms:List ZcU} {sv:Value} {F:List Nat} (g:Zbz W [] Wf []) (ho:ZbY Wf (Zbb Wf ZaT) ZaT.n ms sv F) (hnd:F.Nodup) (hge:∀ b ∈ F,W.heap.size≤b) (hX:∀ b ∈ X,b < W.heap.size) :
    ∃ E',Zbz W [] Wf E'∧RepM X Wf E' [.row ZaT ms 0 0 none]∧ZbL X Wf E' [.row ZaT ms 0 0 none] (.row 0 0) sv:=by
  have hf:foots [⟨0,sv,F⟩]=F:=by simp [foots]
  refine ⟨[⟨0,sv,F⟩],⟨g.os,g.tape,g.output,g.size,g.keep,fun b hb=>.inr (hge b (by rwa [hf] at hb)),fun i e he=>by simp at he⟩,⟨rfl,by rw [hf]; exact hnd,fun i b e hb he=>?_,fun b hb=>?_,fun b hb hm=>?_,fun b hb=>Nat.lt_of_lt_of_le (hX b hb) g.size⟩,?_⟩
  · match i,hb,he with
    | 0,hb,he =>
      exact ZwX
    | k + 1,hb,_=>cases hb
  · rw [hf] at hb
    exact Zbb.lt (.list ZaT) (x:=ms) (cs:=[sv]) (F:=F) ⟨sv,rfl,ho⟩ b hb
  · rw [hf] at hm
    have:=hX b hb
    have:=hge b hm
    omega
  · obtain ⟨T,cells,G,h0,_⟩:=ho
    refine ⟨Zdo h0,?_⟩
    unfold Zb8
    exact ⟨Nat.le_refl _,fun _=>⟨_,rfl,rfl⟩⟩
set_option maxHeartbeats 4000000 in
theorem ZDq (st:Za7) (v n:Int):Zat Tryz.prog 103 [.ag [.hs .no Zak st.1, .hs .no Zah st.2.1, .int .i64 st.2.2], .c (.int .i64 v), .c (.int .i64 n)] (.tp [.ag [.str (Zfg st v n).1.1, .int .i64 (Zfg st v n).1.2.1, .int .i64 (Zfg st v n).1.2.2.1, .row 0 0], .c (.bool (Zfg st v n).2)]) [.row ZaT (Zfg st v n).1.2.2.2 0 0 none]:=by
  intro X W vs hsz hgl hr
  obtain ⟨sv,r,rfl,hst,vv,r2,rfl,hv,nv,r3,rfl,hn,h0⟩:=hr
  obtain rfl:r3=[]:=h0
  obtain ⟨cs,rfl,u1,s1,rfl,c1,u2,s2,rfl,c2,u3,s3,rfl,c3,hs3⟩:=hst
  obtain rfl:s3=[]:=hs3
  obtain ⟨rfl,q3⟩:=c3
  obtain ⟨rfl,qv⟩:=hv
  obtain ⟨rfl,qn⟩:=hn
  obtain ⟨A1,n1,a1,hu1⟩:=Zna c1
  obtain ⟨A2,n2,a2,hu2⟩:=Zna c2
  have C1:=Lib.hid c1
  have C2:=Lib.hid c2
  clear c1 c2
  subst hu1
  subst hu2
  go_enter Tryz.func103,Tryz.ntmps103
  go_wp2_with fail
  obtain ⟨b1,hb1⟩:∃ b1,b1=W.heap.size + 1:=⟨_,rfl⟩
  obtain ⟨W1,hW1⟩:∃ W1,W1=W.alloc (.cells #[.slice A1 n1 a1, .slice A2 n2 a2, .int .i64 st.2.2] 34 (0,0)):=⟨_,rfl⟩
  obtain ⟨Z,hZ⟩:∃ Z:Array Value,Z=#[.string ⟨#[]⟩, .int .i64 0, .int .i64 0, .slice none 0 0]:=⟨_,rfl⟩
  obtain ⟨W2,hW2⟩:∃ W2,W2=W1.alloc (.cells Z 128 (0,0)):=⟨_,rfl⟩
  have g2:Zbz W [] W2 []:=by
    exact ZwW
  have k2:W2.heap[b1]?=some (.cells Z 128 (0,0)):=by
    exact Zv9
  have z2:b1 < W2.heap.size:=(Array.getElem?_eq_some_iff.1 k2).1
  have zb:W.heap.size≤b1:=by omega
  rw [← hb1,← hW1,← hZ,← hW2]
  obtain ⟨L,hL⟩:∃ L,L=ZgM st n:=⟨_,rfl⟩
  have K2:=Lib.hid k2
  have KZ:=Lib.hid hZ
  clear hb1 hW1 hW2 hZ k2
  refine (Zxp st n X W2 [.agg #[.slice A1 n1 a1, .slice A2 n2 a2, .int .i64 st.2.2], .int .i64 n] (fun b hb=>Nat.lt_of_lt_of_le (hsz b hb) g2.size) (hgl.grow g2) ⟨_,_,rfl,⟨_,rfl,_,_,rfl,ZbL.mono g2 (Zml _ _ _) rfl C1.out,_,_,rfl,ZbL.mono g2 (Zml _ _ _) rfl C2.out,_,_,rfl,⟨rfl,q3⟩,rfl⟩,_,_,rfl,⟨rfl,qn⟩,rfl⟩).mono fun e W3 h=>?_
  obtain ⟨w3,E3,rfl,g3,m3,hv3⟩:=h
  obtain ⟨e3,rfl⟩:=Ziy m3
  obtain rfl:w3=e3.val:=ZgO (show ZbL X W3 [e3] _ (.row 0 0) w3 from hv3) rfl rfl
  have KL:=Lib.hid hL
  rw [← hL] at m3
  have ho3:ZbY W3 (Zbb W3 Zak) Zak.n L e3.val e3.foot:=m3.row (i:=0) rfl rfl
  obtain ⟨T,cells,G,w1,w2,w3⟩:=id ho3
  obtain ⟨A3,c3,j1,j2,j3,j4⟩:=ZfZ (t:=Zak) w1
  have j1:e3.val=.slice A3 (@List.length ZaM L) c3:=j1
  rw [j1]
  have hc3:ZbL X W3 [] [] (.hs .no Zak L) (.slice A3 (@List.length ZaM L) c3):=by
    exact Zw2
  have g4:=Zrl (g2.trans g3)
  have H1:=Lib.hid m3
  have H2:=Lib.hid ho3
  have H3:=Lib.hid w1
  have H4:=Lib.hid w2
  have H5:=Lib.hid w3
  have H6:=Lib.hid j1
  have H7:=Lib.hid j4
  have H8:=Lib.hid hc3
  clear hL m3 ho3 w1 w2 w3 j1 j4 hc3 hv3 j2 j3
  go_wp2_with fail
  refine (ZnE L v X W3 [_,_] (fun b hb=>Nat.lt_of_lt_of_le (hsz b hb) g4.size) (hgl.grow g4) ⟨_,_,rfl,H8.out,_,_,rfl,⟨rfl,qv⟩,rfl⟩).mono fun e W4 h=>?_
  exact ZvE
def ZDr:ZaI Tryz.prog:=⟨103,[.s ZbI, .v ZaC, .v ZaC],fun x=>True,fun x=>.tp [.ag [.str (Zfg x.1 x.2.1 x.2.2.1).1.1, .int .i64 (Zfg x.1 x.2.1 x.2.2.1).1.2.1, .int .i64 (Zfg x.1 x.2.1 x.2.2.1).1.2.2.1, .row 0 0], .c (.bool (Zfg x.1 x.2.1 x.2.2.1).2)],fun x=>[.row ZaT (Zfg x.1 x.2.1 x.2.2.1).1.2.2.2 0 0 none],fun x hx=>ZDq x.1 x.2.1 x.2.2.1,Tryz.call103⟩
set_option maxHeartbeats 4000000 in
theorem ZDs (st:Za7) (v n:Int):Zat Tryz.prog 80 [.ag [.hs .no Zak st.1, .hs .no Zah st.2.1, .int .i64 st.2.2], .c (.int .i64 v), .c (.int .i64 n)] (.tp [.ag [.str (Zfg st v n).1.1, .int .i64 (Zfg st v n).1.2.1, .int .i64 (Zfg st v n).1.2.2.1, .row 0 0], .c (.bool (Zfg st v n).2)]) [.row ZaT (Zfg st v n).1.2.2.2 0 0 none]:=by
  intro X W vs hsz hgl hr
  obtain ⟨sv,r,rfl,hst,vv,r2,rfl,hv,nv,r3,rfl,hn,h0⟩:=hr
  obtain rfl:r3=[]:=h0
  obtain ⟨cs,rfl,u1,s1,rfl,c1,u2,s2,rfl,c2,u3,s3,rfl,c3,hs3⟩:=hst
  obtain rfl:s3=[]:=hs3
  obtain ⟨rfl,q3⟩:=c3
  obtain ⟨rfl,qv⟩:=hv
  obtain ⟨rfl,qn⟩:=hn
  obtain ⟨A1,n1,a1,hu1⟩:=Zna c1
  obtain ⟨A2,n2,a2,hu2⟩:=Zna c2
  have C1:=Lib.hid c1
  have C2:=Lib.hid c2
  clear c1 c2
  subst hu1
  subst hu2
  go_enter Tryz.func80,Tryz.ntmps80
  go_wp2_with fail
  obtain ⟨b1,hb1⟩:∃ b1,b1=W.heap.size + 1:=⟨_,rfl⟩
  obtain ⟨W1,hW1⟩:∃ W1,W1=W.alloc (.cells #[.slice A1 n1 a1, .slice A2 n2 a2, .int .i64 st.2.2] 34 (0,0)):=⟨_,rfl⟩
  obtain ⟨Z,hZ⟩:∃ Z:Array Value,Z=#[.string ⟨#[]⟩, .int .i64 0, .int .i64 0, .slice none 0 0]:=⟨_,rfl⟩
  obtain ⟨W2,hW2⟩:∃ W2,W2=W1.alloc (.cells Z 128 (0,0)):=⟨_,rfl⟩
  have g2:Zbz W [] W2 []:=by
    exact ZwW
  have k2:W2.heap[b1]?=some (.cells Z 128 (0,0)):=by
    exact Zv9
  have z2:b1 < W2.heap.size:=(Array.getElem?_eq_some_iff.1 k2).1
  have zb:W.heap.size≤b1:=by omega
  rw [← hb1,← hW1,← hZ,← hW2]
  obtain ⟨L,hL⟩:∃ L,L=ZgM st n:=⟨_,rfl⟩
  have K2:=Lib.hid k2
  have KZ:=Lib.hid hZ
  clear hb1 hW1 hW2 hZ k2
  refine (Zxq st n X W2 [.agg #[.slice A1 n1 a1, .slice A2 n2 a2, .int .i64 st.2.2], .int .i64 n] (fun b hb=>Nat.lt_of_lt_of_le (hsz b hb) g2.size) (hgl.grow g2) ⟨_,_,rfl,⟨_,rfl,_,_,rfl,ZbL.mono g2 (Zml _ _ _) rfl C1.out,_,_,rfl,ZbL.mono g2 (Zml _ _ _) rfl C2.out,_,_,rfl,⟨rfl,q3⟩,rfl⟩,_,_,rfl,⟨rfl,qn⟩,rfl⟩).mono fun e W3 h=>?_
  obtain ⟨w3,E3,rfl,g3,m3,hv3⟩:=h
  obtain ⟨e3,rfl⟩:=Ziy m3
  obtain rfl:w3=e3.val:=ZgO (show ZbL X W3 [e3] _ (.row 0 0) w3 from hv3) rfl rfl
  have KL:=Lib.hid hL
  rw [← hL] at m3
  have ho3:ZbY W3 (Zbb W3 Zak) Zak.n L e3.val e3.foot:=m3.row (i:=0) rfl rfl
  obtain ⟨T,cells,G,w1,w2,w3⟩:=id ho3
  obtain ⟨A3,c3,j1,j2,j3,j4⟩:=ZfZ (t:=Zak) w1
  have j1:e3.val=.slice A3 (@List.length ZaM L) c3:=j1
  rw [j1]
  have hc3:ZbL X W3 [] [] (.hs .no Zak L) (.slice A3 (@List.length ZaM L) c3):=by
    exact Zw2
  have g4:=Zrl (g2.trans g3)
  have H1:=Lib.hid m3
  have H2:=Lib.hid ho3
  have H3:=Lib.hid w1
  have H4:=Lib.hid w2
  have H5:=Lib.hid w3
  have H6:=Lib.hid j1
  have H7:=Lib.hid j4
  have H8:=Lib.hid hc3
  clear hL m3 ho3 w1 w2 w3 j1 j4 hc3 hv3 j2 j3
  go_wp2_with fail
  refine (Zki L v X W3 [_,_] (fun b hb=>Nat.lt_of_lt_of_le (hsz b hb) g4.size) (hgl.grow g4) ⟨_,_,rfl,H8.out,_,_,rfl,⟨rfl,qv⟩,rfl⟩).mono fun e W4 h=>?_
  exact ZvE
def ZDt:ZaI Tryz.prog:=⟨80,[.s ZbI, .v ZaC, .v ZaC],fun x=>True,fun x=>.tp [.ag [.str (Zfg x.1 x.2.1 x.2.2.1).1.1, .int .i64 (Zfg x.1 x.2.1 x.2.2.1).1.2.1, .int .i64 (Zfg x.1 x.2.1 x.2.2.1).1.2.2.1, .row 0 0], .c (.bool (Zfg x.1 x.2.1 x.2.2.1).2)],fun x=>[.row ZaT (Zfg x.1 x.2.1 x.2.2.1).1.2.2.2 0 0 none],fun x hx=>ZDs x.1 x.2.1 x.2.2.1,Tryz.call80⟩
set_option maxRecDepth 100000
set_option maxHeartbeats 4000000
open Go.ChangeShapes Go.WideShapes Go.ChangeAt Go.RowKit Go.Joins Go.Deep
theorem ZDu {st:Za7} {v n:Int} (h:(Zfg st v n).2=false):(Zfg st v n).1.1=(⟨#[]⟩:ByteArray):=by
  unfold Zfg at h ⊢
  split at h
  · rename_i h1
    rw [if_pos h1]
    rfl
  · cases h
theorem ZBo (st:Za7) (v:Int) (n:Int):Zat Tryz.prog 207 [.ag (cellsOf ZbI st), .c (.int .i64 v), .c (.int .i64 n)] (.c (.str (Zfg st v n).1.1)) []:=by
  refine bc0 [ZDr] [] [] [] L0 Tryz.func207 (fun hwf=>?_)
  refine Eq.mpr (β:=(T5 ((pt True)∧(T8 (bif (!(Zfg st v n).2) then (True∧(rS (⟨#[]⟩:ByteArray) (Zfg st v n).1.1)) else (T3 (rS ((Zfg st v n).1).1 (Zfg st v n).1.1))))))) (by kernel_rfl) ?_
  simp only [Zbw,ZbG,Zbf,Bool.not_true,Bool.not_false,Zd0,eq_self]
  first
    | trivial
    | (refine ⟨fun h=>?_,fun h=>?_⟩ <;> first | trivial | (exact (ZDu h).symm) | (exact ZDu h))
def ZBp:ZaI Tryz.prog:=⟨207,[.s ZbI, .v ZaC, .v ZaC],fun x=>True,fun x=>.c (.str (Zfg x.1 x.2.1 x.2.2.1).1.1),fun _=>[],fun x hx=>ZBo x.1 x.2.1 x.2.2.1,Tryz.call207⟩
theorem ZBq (st:Za7) (v:Int) (n:Int):Zat Tryz.prog 120 [.ag (cellsOf ZbI st), .c (.int .i64 v), .c (.int .i64 n)] (.c (.str (Zfg st v n).1.1)) []:=by
  refine bc0 [ZDt] [] [] [] L0 Tryz.func120 (fun hwf=>?_)
  refine Eq.mpr (β:=(T5 ((pt True)∧(T9 (rS ((Zfg st v n).1).1 (Zfg st v n).1.1))))) (by kernel_rfl) ?_
  simp only [Zbw,ZbG,Zbf,Bool.not_true,Bool.not_false,Zd0,eq_self]
def ZBr:ZaI Tryz.prog:=⟨120,[.s ZbI, .v ZaC, .v ZaC],fun x=>True,fun x=>.c (.str (Zfg x.1 x.2.1 x.2.2.1).1.1),fun _=>[],fun x hx=>ZBq x.1 x.2.1 x.2.2.1,Tryz.call120⟩
end Go.Proofs.YtkompmgleojmlaaGreat
