import Derived.Test.YtafhbjjcpncfnaaGreatIBlAll
import Derived.Laws.ResultCell
set_option linter.unusedSimpArgs false
set_option linter.unusedVariables false
namespace Go.Proofs.YtafhbjjcpncfnaaGreat
open Go.Lib Go.ChangeShapes Go.WideShapes Go.ChangeAt Go.RowKit Go.Joins Go.Deep
open GoRep (rep bulk)
def Zlu (st:ZaI) (v n:Int):ZaO × Bool:=if boxW (Zgz st n) v < 0 then (Zq8,false) else (Zab (Zgz st n) (Int.toNat (boxW (Zgz st n) v)),true)
theorem ZoF {X:List Nat} {W:World} {t:Ty} {xs:List t.den} {v:Value} (h:Zb3 X W [] [] (.hs .no t xs) v):∃ A n c,v=.slice A n c:=by
 obtain ⟨_,F,⟨A,c,e1,_⟩,_⟩:=h
 exact ⟨A,_,c,by simpa using e1⟩
theorem ZJY {X:List Nat} {W:World} {t:Ty} {xs:List t.den} {v:Value} {F:List Nat} (h:Zcj W (Zbv W t) t.n xs v F) (hx:∀ b ∈ F,b ∉ X):Zb3 X W [] [] (.hs .no t xs) v:=by
 obtain ⟨F',⟨A,c,e1,hs⟩,hF⟩:=Zbv.rep (.list t) (x:=xs) (cs:=[v]) (F:=F) ⟨v,rfl,h⟩
 have hlt:=Zbv.lt (.list t) (x:=xs) (cs:=[v]) (F:=F) ⟨v,rfl,h⟩
 have e2:v=.slice A xs.length c:=by simpa using e1
 exact ⟨by rw [e2]; rfl,F',⟨A,c,by rw [e2],hs⟩,fun b hb=>⟨⟨by simp [foots],hx b (hF b hb)⟩,hlt b (hF b hb)⟩⟩
theorem Zjx {W:World} {b o:Nat} {v:Value} {q:Nat} (h:q ≠ b):(W.setCell ⟨b,o,none⟩ v).heap[q]?=W.heap[q]?:=by
 unfold World.setCell
 show (W.heap.modify b _)[q]?=_
 rw [Array.getElem?_modify,if_neg (fun e=>h e.symm)]
theorem Zl1 {W W' : World} {b o:Nat} {v:Value} (g:ZbU W [] W' []) (hb:W.heap.size≤b):ZbU W [] (W'.setCell ⟨b,o,none⟩ v) [] :=
 ⟨g.os,g.tape,g.output,by show _≤(W'.heap.modify b _).size; rw [Array.size_modify]; exact g.size,fun q hq hn=>(Zjx (by omega)).trans (g.keep q hq hn),fun q hq=>by simp [foots] at hq,fun i e he=>by simp at he⟩
theorem ZwE {W W4:World} {b1:Nat} {T:TypeId} {z0 z1 z2 z3 x0 x1 x2 x3:Value} (k:W4.heap[b1]?=some (.cells #[z0,z1,z2,z3] T (0,0))) (g:ZbU W [] W4 []) (hb:W.heap.size≤b1) :
 ((((W4.setCell ⟨b1,0,none⟩ x0).setCell ⟨b1,1,none⟩ x1).setCell ⟨b1,2,none⟩ x2).setCell ⟨b1,3,none⟩ x3).heap[b1]?=some (.cells #[x0,x1,x2,x3] T (0,0)) ∧
 ZbU W [] ((((W4.setCell ⟨b1,0,none⟩ x0).setCell ⟨b1,1,none⟩ x1).setCell ⟨b1,2,none⟩ x2).setCell ⟨b1,3,none⟩ x3) [] ∧
 ∀ q,q ≠ b1→((((W4.setCell ⟨b1,0,none⟩ x0).setCell ⟨b1,1,none⟩ x1).setCell ⟨b1,2,none⟩ x2).setCell ⟨b1,3,none⟩ x3).heap[q]?=W4.heap[q]?:=by
 refine ⟨?_,Zl1 (Zl1 (Zl1 (Zl1 g hb) hb) hb) hb,fun q hq=>(Zjx hq).trans ((Zjx hq).trans ((Zjx hq).trans (Zjx hq)))⟩
 have k0:=setRow_heap W4 b1 _ #[x0,z1,z2,z3] T _ k
 have e0:W4.setCell ⟨b1,0,none⟩ x0=W4.setRow b1 #[x0,z1,z2,z3]:=setCell_eq_setRow W4 b1 0 _ T _ x0 k
 rw [← e0] at k0
 have k1:=setRow_heap _ b1 _ #[x0,x1,z2,z3] T _ k0
 have e1:(W4.setCell ⟨b1,0,none⟩ x0).setCell ⟨b1,1,none⟩ x1=(W4.setCell ⟨b1,0,none⟩ x0).setRow b1 #[x0,x1,z2,z3]:=setCell_eq_setRow _ b1 1 _ T _ x1 k0
 rw [← e1] at k1
 have k2:=setRow_heap _ b1 _ #[x0,x1,x2,z3] T _ k1
 have e2:((W4.setCell ⟨b1,0,none⟩ x0).setCell ⟨b1,1,none⟩ x1).setCell ⟨b1,2,none⟩ x2=((W4.setCell ⟨b1,0,none⟩ x0).setCell ⟨b1,1,none⟩ x1).setRow b1 #[x0,x1,x2,z3]:=setCell_eq_setRow _ b1 2 _ T _ x2 k1
 rw [← e2] at k2
 have k3:=setRow_heap _ b1 _ #[x0,x1,x2,x3] T _ k2
 have e3:(((W4.setCell ⟨b1,0,none⟩ x0).setCell ⟨b1,1,none⟩ x1).setCell ⟨b1,2,none⟩ x2).setCell ⟨b1,3,none⟩ x3=(((W4.setCell ⟨b1,0,none⟩ x0).setCell ⟨b1,1,none⟩ x1).setCell ⟨b1,2,none⟩ x2).setRow b1 #[x0,x1,x2,x3]:=setCell_eq_setRow _ b1 3 _ T _ x3 k2
 rw [← e3] at k3
 exact k3
theorem ZHH {X:List Nat} {W Wf:World} {ms:List Zdr} {sv:Value} {F:List Nat} (g:ZbU W [] Wf []) (ho:Zcj Wf (Zbv Wf ZaR) ZaR.n ms sv F) (hnd:F.Nodup) (hge:∀ b ∈ F,W.heap.size≤b) (hX:∀ b ∈ X,b < W.heap.size) :
 ∃ E',ZbU W [] Wf E'∧RepM X Wf E' [.row ZaR ms 0 0 none]∧Zb3 X Wf E' [.row ZaR ms 0 0 none] (.row 0 0) sv:=by
 have hf:foots [⟨0,sv,F⟩]=F:=by simp [foots]
 refine ⟨[⟨0,sv,F⟩],⟨g.os,g.tape,g.output,g.size,g.keep,fun b hb=>.inr (hge b (by rwa [hf] at hb)),fun i e he=>by simp at he⟩,⟨rfl,by rw [hf]; exact hnd,fun i b e hb he=>?_,fun b hb=>?_,fun b hb hm=>?_,fun b hb=>Nat.lt_of_lt_of_le (hX b hb) g.size⟩,?_⟩
 ·match i,hb,he with
  | 0,hb,he =>
   exact ZAp
  | k + 1,hb,_=>cases hb
 ·rw [hf] at hb
  exact Zbv.lt (.list ZaR) (x:=ms) (cs:=[sv]) (F:=F) ⟨sv,rfl,ho⟩ b hb
 ·rw [hf] at hm
  have:=hX b hb
  have:=hge b hm
  omega
 ·obtain ⟨T,cells,G,h0,_⟩:=ho
  refine ⟨Zd6 h0,?_⟩
  unfold Zcz
  exact ⟨Nat.le_refl _,fun _=>⟨_,rfl,rfl⟩⟩
set_option maxHeartbeats 4000000 in
theorem ZHI (st:ZaI) (v n:Int):Zao Tryz.prog 121 [.ag [.hs .no Zaj st.1, .hs .no Zag st.2.1, .int .i64 st.2.2], .c (.int .i64 v), .c (.int .i64 n)] (.tp [.ag [.str (Zlu st v n).1.1, .int .i64 (Zlu st v n).1.2.1, .int .i64 (Zlu st v n).1.2.2.1, .row 0 0], .c (.bool (Zlu st v n).2)]) [.row ZaR (Zlu st v n).1.2.2.2 0 0 none]:=by
 intro X W vs hsz hgl hr
 obtain ⟨sv,r,rfl,hst,vv,r2,rfl,hv,nv,r3,rfl,hn,h0⟩:=hr
 obtain rfl:r3=[]:=h0
 obtain ⟨cs,rfl,u1,s1,rfl,c1,u2,s2,rfl,c2,u3,s3,rfl,c3,hs3⟩:=hst
 obtain rfl:s3=[]:=hs3
 obtain ⟨rfl,q3⟩:=c3
 obtain ⟨rfl,qv⟩:=hv
 obtain ⟨rfl,qn⟩:=hn
 obtain ⟨A1,n1,a1,hu1⟩:=ZoF c1
 obtain ⟨A2,n2,a2,hu2⟩:=ZoF c2
 have C1:=Lib.hid c1
 have C2:=Lib.hid c2
 clear c1 c2
 subst hu1
 subst hu2
 go_enter Tryz.func121,Tryz.ntmps121
 go_wp2_with fail
 obtain ⟨b1,hb1⟩:∃ b1,b1=W.heap.size + 1:=⟨_,rfl⟩
 obtain ⟨W1,hW1⟩:∃ W1,W1=W.alloc (.cells #[.slice A1 n1 a1, .slice A2 n2 a2, .int .i64 st.2.2] 33 (0,0)):=⟨_,rfl⟩
 obtain ⟨Z,hZ⟩:∃ Z:Array Value,Z=#[.string ⟨#[]⟩, .int .i64 0, .int .i64 0, .slice none 0 0]:=⟨_,rfl⟩
 obtain ⟨W2,hW2⟩:∃ W2,W2=W1.alloc (.cells Z 138 (0,0)):=⟨_,rfl⟩
 have g2:ZbU W [] W2 []:=by
  exact ZAo
 have k2:W2.heap[b1]?=some (.cells Z 138 (0,0)):=by
  exact Zzs
 have z2:b1 < W2.heap.size:=(Array.getElem?_eq_some_iff.1 k2).1
 have zb:W.heap.size≤b1:=by omega
 rw [← hb1,← hW1,← hZ,← hW2]
 obtain ⟨L,hL⟩:∃ L,L=Zgz st n:=⟨_,rfl⟩
 have K2:=Lib.hid k2
 have KZ:=Lib.hid hZ
 clear hb1 hW1 hW2 hZ k2
 refine (ZAS st n X W2 [.agg #[.slice A1 n1 a1, .slice A2 n2 a2, .int .i64 st.2.2], .int .i64 n] (fun b hb=>Nat.lt_of_lt_of_le (hsz b hb) g2.size) (hgl.grow g2) ⟨_,_,rfl,⟨_,rfl,_,_,rfl,Zb3.mono g2 (ZnH _ _ _) rfl C1.out,_,_,rfl,Zb3.mono g2 (ZnH _ _ _) rfl C2.out,_,_,rfl,⟨rfl,q3⟩,rfl⟩,_,_,rfl,⟨rfl,qn⟩,rfl⟩).mono fun e W3 h=>?_
 obtain ⟨w3,E3,rfl,g3,m3,hv3⟩:=h
 obtain ⟨e3,rfl⟩:=Zju m3
 obtain rfl:w3=e3.val:=ZhL (show Zb3 X W3 [e3] _ (.row 0 0) w3 from hv3) rfl rfl
 have KL:=Lib.hid hL
 rw [← hL] at m3
 have ho3:Zcj W3 (Zbv W3 Zaj) Zaj.n L e3.val e3.foot:=m3.row (i:=0) rfl rfl
 obtain ⟨T,cells,G,w1,w2,w3⟩:=id ho3
 obtain ⟨A3,c3,j1,j2,j3,j4⟩:=Zg4 (t:=Zaj) w1
 have j1:e3.val=.slice A3 (@List.length ZaO L) c3:=j1
 rw [j1]
 have hc3:Zb3 X W3 [] [] (.hs .no Zaj L) (.slice A3 (@List.length ZaO L) c3):=by
  exact ZAu
 have g4:=Ztu (g2.trans g3)
 have H1:=Lib.hid m3
 have H2:=Lib.hid ho3
 have H3:=Lib.hid w1
 have H4:=Lib.hid w2
 have H5:=Lib.hid w3
 have H6:=Lib.hid j1
 have H7:=Lib.hid j4
 have H8:=Lib.hid hc3
 clear hL m3 ho3 w1 w2 w3 j1 j4 hc3 hv3 j2 j3
 go_wp2_with fail
 refine (Zpa L v X W3 [_,_] (fun b hb=>Nat.lt_of_lt_of_le (hsz b hb) g4.size) (hgl.grow g4) ⟨_,_,rfl,H8.out,_,_,rfl,⟨rfl,qv⟩,rfl⟩).mono fun e W4 h=>?_
 exact ZyP
def ZHJ:ZaE Tryz.prog:=⟨121,[.s ZbJ, .v Zax, .v Zax],fun x=>True,fun x=>.tp [.ag [.str (Zlu x.1 x.2.1 x.2.2.1).1.1, .int .i64 (Zlu x.1 x.2.1 x.2.2.1).1.2.1, .int .i64 (Zlu x.1 x.2.1 x.2.2.1).1.2.2.1, .row 0 0], .c (.bool (Zlu x.1 x.2.1 x.2.2.1).2)],fun x=>[.row ZaR (Zlu x.1 x.2.1 x.2.2.1).1.2.2.2 0 0 none],fun x hx=>ZHI x.1 x.2.1 x.2.2.1,Tryz.call121⟩
set_option maxHeartbeats 4000000 in
theorem ZHK (st:ZaI) (v n:Int):Zao Tryz.prog 89 [.ag [.hs .no Zaj st.1, .hs .no Zag st.2.1, .int .i64 st.2.2], .c (.int .i64 v), .c (.int .i64 n)] (.tp [.ag [.str (Zlu st v n).1.1, .int .i64 (Zlu st v n).1.2.1, .int .i64 (Zlu st v n).1.2.2.1, .row 0 0], .c (.bool (Zlu st v n).2)]) [.row ZaR (Zlu st v n).1.2.2.2 0 0 none]:=by
 intro X W vs hsz hgl hr
 obtain ⟨sv,r,rfl,hst,vv,r2,rfl,hv,nv,r3,rfl,hn,h0⟩:=hr
 obtain rfl:r3=[]:=h0
 obtain ⟨cs,rfl,u1,s1,rfl,c1,u2,s2,rfl,c2,u3,s3,rfl,c3,hs3⟩:=hst
 obtain rfl:s3=[]:=hs3
 obtain ⟨rfl,q3⟩:=c3
 obtain ⟨rfl,qv⟩:=hv
 obtain ⟨rfl,qn⟩:=hn
 obtain ⟨A1,n1,a1,hu1⟩:=ZoF c1
 obtain ⟨A2,n2,a2,hu2⟩:=ZoF c2
 have C1:=Lib.hid c1
 have C2:=Lib.hid c2
 clear c1 c2
 subst hu1
 subst hu2
 go_enter Tryz.func89,Tryz.ntmps89
 go_wp2_with fail
 obtain ⟨b1,hb1⟩:∃ b1,b1=W.heap.size + 1:=⟨_,rfl⟩
 obtain ⟨W1,hW1⟩:∃ W1,W1=W.alloc (.cells #[.slice A1 n1 a1, .slice A2 n2 a2, .int .i64 st.2.2] 33 (0,0)):=⟨_,rfl⟩
 obtain ⟨Z,hZ⟩:∃ Z:Array Value,Z=#[.string ⟨#[]⟩, .int .i64 0, .int .i64 0, .slice none 0 0]:=⟨_,rfl⟩
 obtain ⟨W2,hW2⟩:∃ W2,W2=W1.alloc (.cells Z 138 (0,0)):=⟨_,rfl⟩
 have g2:ZbU W [] W2 []:=by
  exact ZAo
 have k2:W2.heap[b1]?=some (.cells Z 138 (0,0)):=by
  exact Zzs
 have z2:b1 < W2.heap.size:=(Array.getElem?_eq_some_iff.1 k2).1
 have zb:W.heap.size≤b1:=by omega
 rw [← hb1,← hW1,← hZ,← hW2]
 obtain ⟨L,hL⟩:∃ L,L=Zgz st n:=⟨_,rfl⟩
 have K2:=Lib.hid k2
 have KZ:=Lib.hid hZ
 clear hb1 hW1 hW2 hZ k2
 refine (ZAT st n X W2 [.agg #[.slice A1 n1 a1, .slice A2 n2 a2, .int .i64 st.2.2], .int .i64 n] (fun b hb=>Nat.lt_of_lt_of_le (hsz b hb) g2.size) (hgl.grow g2) ⟨_,_,rfl,⟨_,rfl,_,_,rfl,Zb3.mono g2 (ZnH _ _ _) rfl C1.out,_,_,rfl,Zb3.mono g2 (ZnH _ _ _) rfl C2.out,_,_,rfl,⟨rfl,q3⟩,rfl⟩,_,_,rfl,⟨rfl,qn⟩,rfl⟩).mono fun e W3 h=>?_
 obtain ⟨w3,E3,rfl,g3,m3,hv3⟩:=h
 obtain ⟨e3,rfl⟩:=Zju m3
 obtain rfl:w3=e3.val:=ZhL (show Zb3 X W3 [e3] _ (.row 0 0) w3 from hv3) rfl rfl
 have KL:=Lib.hid hL
 rw [← hL] at m3
 have ho3:Zcj W3 (Zbv W3 Zaj) Zaj.n L e3.val e3.foot:=m3.row (i:=0) rfl rfl
 obtain ⟨T,cells,G,w1,w2,w3⟩:=id ho3
 obtain ⟨A3,c3,j1,j2,j3,j4⟩:=Zg4 (t:=Zaj) w1
 have j1:e3.val=.slice A3 (@List.length ZaO L) c3:=j1
 rw [j1]
 have hc3:Zb3 X W3 [] [] (.hs .no Zaj L) (.slice A3 (@List.length ZaO L) c3):=by
  exact ZAu
 have g4:=Ztu (g2.trans g3)
 have H1:=Lib.hid m3
 have H2:=Lib.hid ho3
 have H3:=Lib.hid w1
 have H4:=Lib.hid w2
 have H5:=Lib.hid w3
 have H6:=Lib.hid j1
 have H7:=Lib.hid j4
 have H8:=Lib.hid hc3
 clear hL m3 ho3 w1 w2 w3 j1 j4 hc3 hv3 j2 j3
 go_wp2_with fail
 refine (Zls L v X W3 [_,_] (fun b hb=>Nat.lt_of_lt_of_le (hsz b hb) g4.size) (hgl.grow g4) ⟨_,_,rfl,H8.out,_,_,rfl,⟨rfl,qv⟩,rfl⟩).mono fun e W4 h=>?_
 exact ZyP
def ZHL:ZaE Tryz.prog:=⟨89,[.s ZbJ, .v Zax, .v Zax],fun x=>True,fun x=>.tp [.ag [.str (Zlu x.1 x.2.1 x.2.2.1).1.1, .int .i64 (Zlu x.1 x.2.1 x.2.2.1).1.2.1, .int .i64 (Zlu x.1 x.2.1 x.2.2.1).1.2.2.1, .row 0 0], .c (.bool (Zlu x.1 x.2.1 x.2.2.1).2)],fun x=>[.row ZaR (Zlu x.1 x.2.1 x.2.2.1).1.2.2.2 0 0 none],fun x hx=>ZHK x.1 x.2.1 x.2.2.1,Tryz.call89⟩
set_option maxRecDepth 100000
set_option maxHeartbeats 4000000
open Go.ChangeShapes Go.WideShapes Go.ChangeAt Go.RowKit Go.Joins Go.Deep
end Go.Proofs.YtafhbjjcpncfnaaGreat
