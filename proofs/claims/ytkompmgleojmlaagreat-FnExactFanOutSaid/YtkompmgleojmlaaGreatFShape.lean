import Derived.Test.YtkompmgleojmlaaGreatFRep
import Derived.Test.YtkompmgleojmlaaGreatFTypes
import Derived.Test.YtkompmgleojmlaaGreatFBmQ
import Derived.HandedShaped
import Derived.Shelf.Vars
namespace Go.Proofs.YtkompmgleojmlaaGreat
open Go.ChangeShapes Go.WideShapes Go.ChangeAt Go.RowKit Go.Joins Go.Deep
open GoRep (rep bulk)
def Zcw (α:Type) [GoRep α] (P:Program) (t:TypeId):Prop :=
  ∀ (H:Type) (enc:TypeId × Value→H) (w:World) (fuel:Nat) (cs:List Value) (d:DataW H) (ps:List MemPlace),
    DataW.trod enc P w 0 (fun _=>true) true fuel t cs=some (d,ps)→w.noneFrozen ps→∃ (x:α) (F:List Nat),rep w x cs F
section
variable {P:Program} {t:TypeId}
theorem Zbt (ht:P.underlying t=some (.int .i64)):Zcw Int P t:=by
  intro H enc w fuel cs d ps h hf
  obtain ⟨n,e,_,hw⟩:=DataW.trod_int ht h
  exact ⟨n,[],e,hw,rfl⟩
theorem Ze1 (ht:P.underlying t=some .bool):Zcw Bool P t:=by
  intro H enc w fuel cs d ps h hf
  obtain ⟨n,e,_⟩:=DataW.trod_bool ht h
  exact ⟨n,[],e,rfl⟩
theorem Zcu (ht:P.underlying t=some .string):Zcw ByteArray P t:=by
  intro H enc w fuel cs d ps h hf
  obtain ⟨n,e,_,hw⟩:=DataW.trod_string ht h
  exact ⟨n,[],e,hw,rfl⟩
theorem ZIf {α:Type} [GoRep α] {w:World} {b:Nat} (L:Nat):∀ (off:Nat),
    (∀ i,i < L→∃ (x:α) (cs:List Value) (F:List Nat),rep w x cs F∧Zdh w b (off + i * GoRep.n α) cs) →
    ∃ (xs:List α) (G:List Nat),xs.length=L∧Zct w b off xs G:=by
  induction L with
  | zero=>intro off _; exact ⟨[],[],rfl,rfl⟩
  | succ L ih =>
    intro off h
    obtain ⟨x,cs,F,h1,h2⟩:=h 0 (by omega)
    obtain ⟨xs,G,hl,hr⟩:=ih (off + GoRep.n α) (fun i hi=>by
      obtain ⟨y,cs',F',a1,a2⟩:=h (i + 1) (by omega)
      exact ⟨y,cs',F',a1,by rw [show off + GoRep.n α + i * GoRep.n α=off + (i + 1) * GoRep.n α from by rw [Nat.add_mul]; omega]; exact a2⟩)
    exact ⟨x :: xs,F ++ G,by simp [hl],cs,F,G,h1,by simpa using h2,hr,rfl⟩
theorem ZcH {α:Type} [GoRep α] {e:TypeId} (ht:P.underlying t=some (.slice e)) (hC:P.cellsOf e=GoRep.n α) (he:Zcw α P e):Zcw (List α) P t:=by
  intro H enc w fuel cs d ps h hf
  rcases open_slice ht h with ⟨rfl,hx⟩ | ⟨a,len,cap,m,n,D,Pl,rfl,hb,hl,hm,hmm,hx,hi⟩
  · exact ⟨[],[],none,0,rfl,by simp,by simp,Or.inl ⟨rfl,rfl⟩⟩
  · rw [if_pos rfl] at hmm
    subst hmm
    simp only [Prod.mk.injEq] at hx
    obtain ⟨_,rfl⟩:=hx
    by_cases h0:len=0
    · subst h0
      exact ⟨[],[],some a,m,rfl,by simp,hm,Or.inl ⟨rfl,rfl⟩⟩
    · have hpos:=GoRep.pos (α:=α)
      have hplace:∀ i j,i < m→j < GoRep.n α→MemPlace.cell a.block (a.off + (i * GoRep.n α + j)) ∈ MemPlace.row a (m * P.cellsOf e) ++ (List.range m).flatMap Pl:=by
        intro i j hi' hj
        refine List.mem_append_left _ ?_
        unfold MemPlace.row
        refine List.mem_map.2 ⟨i * GoRep.n α + j,?_,rfl⟩
        rw [hC,List.mem_range]
        have:(i + 1) * GoRep.n α≤m * GoRep.n α:=Nat.mul_le_mul_right _ hi'
        rw [Nat.add_mul] at this
        omega
      obtain ⟨cs0,hc0,_⟩:=hi 0 (by omega)
      obtain ⟨_,hlen0,hat0⟩:=World.cells?_some hc0
      have hsp:a.spot=none:=by
        have h1:=hat0 0 (by rw [hC]; exact hpos)
        rw [List.getElem?_eq_getElem (by rw [hlen0,hC]; exact hpos)] at h1
        have e1:(a.add (0 * P.cellsOf e)).add 0=a:=by simp [Addr.add]
        rw [e1] at h1
        cases hs:a.spot with
        | none=>rfl
        | some s =>
          unfold World.cell? at h1
          simp [hs] at h1
          split at h1 <;> simp at h1
      obtain ⟨b,off,sp⟩:=a
      simp only at hsp
      subst hsp
      obtain ⟨xs,G,hxl,hr⟩:=ZIf (α:=α) (w:=w) (b:=b) len off (fun i hilt=>by
        obtain ⟨cs',hc,ht'⟩:=hi i (by omega)
        obtain ⟨_,hcl,hat⟩:=World.cells?_some hc
        have hfz:w.noneFrozen (Pl i):=fun b' o' hm'=>hf b' o' (List.mem_append_right _ (List.mem_flatMap.2 ⟨i,List.mem_range.2 (by omega),hm'⟩))
        obtain ⟨x,F,hrep⟩:=he H enc w n cs' (D i) (Pl i) ht' hfz
        refine ⟨x,cs',F,hrep,fun j u hj=>?_⟩
        have hjl:j < GoRep.n α:=by
          have:=(List.getElem?_eq_some_iff.1 hj).1
          rw [hcl,hC] at this
          exact this
        have e1:((⟨b,off,none⟩:Addr).add (i * P.cellsOf e)).add j=⟨b,off + i * GoRep.n α + j,none⟩:=by
          rw [Go.Deep.add_add]
          unfold Addr.add
          rw [hC]
          split
          · simp_all; try omega
          · simp; omega
        have h1:=hat j (by rw [hC]; exact hjl)
        rw [e1] at h1
        refine ⟨h1.trans hj,?_⟩
        have:=hf b (off + (i * GoRep.n α + j)) (hplace i j (by omega) hjl)
        rw [← Nat.add_assoc] at this
        exact this)
      subst hxl
      refine ⟨xs,b :: G,some ⟨b,off,none⟩,m,rfl,hl,hm,Or.inr ⟨?_,b,off,G,rfl,rfl,hr⟩⟩
      intro hx
      exact h0 (by simp [hx])
def ZlI (P:Program) (fs:List Field) (o:Nat) (α:Type) [GoRep α]:Prop :=
  ∀ (H:Type) (enc:TypeId × Value→H) (w:World) (fuel:Nat) (cs:List Value),cs.length=o + GoRep.n α →
    (∀ f ∈ fs,∃ (d:DataW H) (ps:List MemPlace),DataW.trod enc P w 0 (fun _=>true) true fuel f.type ((cs.drop f.offset).take (P.cellsOf f.type))=some (d,ps)∧w.noneFrozen ps) →
    ∃ (x:α) (F:List Nat),rep w x (cs.drop o) F
theorem ZbF {α:Type} [GoRep α] {f:Field} {o:Nat} (he:Zcw α P f.type) (ho:f.offset=o) (hc:P.cellsOf f.type=GoRep.n α):ZlI P [f] o α:=by
  intro H enc w fuel cs hl h
  obtain ⟨d,ps,ht,hf⟩:=h f (by simp)
  obtain ⟨x,F,hr⟩:=he H enc w fuel _ d ps ht hf
  rw [ho,List.take_of_length_le (by rw [List.length_drop,hl,hc]; omega)] at hr
  exact ⟨x,F,hr⟩
theorem ZaD {α β:Type} [GoRep α] [GoRep β] {f:Field} {fs:List Field} {o:Nat} (he:Zcw α P f.type) (ho:f.offset=o) (hc:P.cellsOf f.type=GoRep.n α)
    (hs:ZlI P fs (o + GoRep.n α) β):ZlI P (f :: fs) o (α × β):=by
  intro H enc w fuel cs hl h
  have hl' : cs.length=o + (GoRep.n α + GoRep.n β):=hl
  obtain ⟨d,ps,ht,hf⟩:=h f (by simp)
  obtain ⟨x,F,hr⟩:=he H enc w fuel _ d ps ht hf
  obtain ⟨y,G,hr'⟩:=hs H enc w fuel cs (by omega) (fun f' hf'=>h f' (by simp [hf']))
  rw [ho,hc] at hr
  refine ⟨(x,y),F ++ G,_,_,F,G,hr,hr',?_,rfl⟩
  rw [← List.drop_drop,List.take_append_drop]
theorem Zbv {α:Type} [GoRep α] {fs:Array Field} (ht:P.underlying t=some (.struct fs)) (hc:P.cellsOf t=GoRep.n α) (hs:ZlI P fs.toList 0 α):Zcw α P t:=by
  intro H enc w fuel cs d ps h hf
  obtain ⟨xs,n,_,hx,hl,hlen,hat⟩:=DataW.trod_struct ht h
  simp only [Prod.mk.injEq] at hx
  obtain ⟨_,rfl⟩:=hx
  have:=hs H enc w n cs (by omega) (fun f hfm=>by
    obtain ⟨i,hi,hfi⟩:=List.mem_iff_getElem.1 hfm
    have hi' : i < fs.size:=by simpa using hi
    have h1:=hat i f (by rw [Array.getElem?_eq_getElem hi']; simpa using hfi)
    have hix:i < xs.length:=by omega
    rw [List.getElem?_eq_getElem hix] at h1
    refine ⟨xs[i].1,xs[i].2,h1,fun b o hm=>hf b o (List.mem_flatMap.2 ⟨xs[i],List.getElem_mem hix,hm⟩)⟩)
  simpa using this
end
theorem ZCR:Zcw Za3 Tryz.prog 253 :=
  Zbv Tryz.underlying253 (by kernel_rfl) (ZaD (Zbt Tryz.underlying3) rfl (by kernel_rfl) (ZaD (ZcH Tryz.underlying180 (by kernel_rfl) (Zcu Tryz.underlying9)) rfl (by kernel_rfl) (ZbF (Zbt Tryz.underlying3) rfl (by kernel_rfl))))
theorem Zz2:Zcw ZbP Tryz.prog 102 :=
  Zbv Tryz.underlying102 (by kernel_rfl) (ZaD (Ze1 Tryz.underlying4) rfl (by kernel_rfl) (ZbF (ZcH Tryz.underlying100 (by kernel_rfl) ZCR) rfl (by kernel_rfl)))
theorem ZG6:Zcw ZcU Tryz.prog 251 :=
  Zbv Tryz.underlying251 (by kernel_rfl) (ZaD (Zbt Tryz.underlying3) rfl (by kernel_rfl) (ZaD (Zbt Tryz.underlying3) rfl (by kernel_rfl) (ZbF (Zcu Tryz.underlying9) rfl (by kernel_rfl))))
theorem ZG7:Zcw ZaM Tryz.prog 164 :=
  Zbv Tryz.underlying164 (by kernel_rfl) (ZaD (Zcu Tryz.underlying9) rfl (by kernel_rfl) (ZaD (Zbt Tryz.underlying3) rfl (by kernel_rfl) (ZaD (Zbt Tryz.underlying3) rfl (by kernel_rfl) (ZbF (ZcH Tryz.underlying162 (by kernel_rfl) ZG6) rfl (by kernel_rfl)))))
theorem Zz3:Zcw Zax Tryz.prog 166 :=
  Zbv Tryz.underlying166 (by kernel_rfl) (ZaD (Zbt Tryz.underlying3) rfl (by kernel_rfl) (ZaD (Zbt Tryz.underlying3) rfl (by kernel_rfl) (ZaD (Zbt Tryz.underlying3) rfl (by kernel_rfl) (ZaD (Zbt Tryz.underlying3) rfl (by kernel_rfl) (ZaD (Zcu Tryz.underlying9) rfl (by kernel_rfl) (ZbF (Zcu Tryz.underlying9) rfl (by kernel_rfl)))))))
theorem ZCS:Zcw Za7 Tryz.prog 25 :=
  Zbv Tryz.underlying25 (by kernel_rfl) (ZaD (ZcH Tryz.underlying22 (by kernel_rfl) ZG7) rfl (by kernel_rfl) (ZaD (ZcH Tryz.underlying23 (by kernel_rfl) Zz3) rfl (by kernel_rfl) (ZbF (Zbt Tryz.underlying3) rfl (by kernel_rfl))))
theorem ZFf:Zcw ZFi Tryz.prog 259 :=
  Zbv Tryz.underlying259 (by kernel_rfl) (ZaD (Zbt Tryz.underlying3) rfl (by kernel_rfl) (ZbF (Zbt Tryz.underlying3) rfl (by kernel_rfl)))
theorem ZFg:Zcw Zz5 Tryz.prog 99 :=
  Zbv Tryz.underlying99 (by kernel_rfl) (ZbF (ZcH Tryz.underlying97 (by kernel_rfl) ZFf) rfl (by kernel_rfl))
theorem ZFh:Zcw Zay Tryz.prog 255 :=
  Zbv Tryz.underlying255 (by kernel_rfl) (ZaD (Zbt Tryz.underlying3) rfl (by kernel_rfl) (ZaD (Zbt Tryz.underlying3) rfl (by kernel_rfl) (ZaD (Zbt Tryz.underlying3) rfl (by kernel_rfl) (ZbF (Zcu Tryz.underlying9) rfl (by kernel_rfl)))))
theorem ZCT:Zcw ZaU Tryz.prog 105 :=
  Zbv Tryz.underlying105 (by kernel_rfl) (ZaD (ZcH Tryz.underlying103 (by kernel_rfl) ZFh) rfl (by kernel_rfl) (ZaD (Ze1 Tryz.underlying4) rfl (by kernel_rfl) (ZbF (Ze1 Tryz.underlying4) rfl (by kernel_rfl))))
theorem ZG8:Zcw Zxj Tryz.prog 107 :=
  Zbv Tryz.underlying107 (by kernel_rfl) (ZaD (Zcu Tryz.underlying9) rfl (by kernel_rfl) (ZbF (Zcu Tryz.underlying9) rfl (by kernel_rfl)))
theorem ZIg:Zcw GIn Tryz.prog 106 :=
  Zbv Tryz.underlying106 (by kernel_rfl) (ZaD (Zcu Tryz.underlying9) rfl (by kernel_rfl) (ZbF (Ze1 Tryz.underlying4) rfl (by kernel_rfl)))
theorem Zxi:Zcw Zal Tryz.prog 109 :=
  Zbv Tryz.underlying109 (by kernel_rfl) (ZaD (Ze1 Tryz.underlying4) rfl (by kernel_rfl) (ZaD (Zbt Tryz.underlying3) rfl (by kernel_rfl) (ZaD (Zbt Tryz.underlying3) rfl (by kernel_rfl) (ZaD (Zbt Tryz.underlying3) rfl (by kernel_rfl) (ZaD ZFg rfl (by kernel_rfl) (ZaD Zz2 rfl (by kernel_rfl) (ZaD (Zcu Tryz.underlying9) rfl (by kernel_rfl) (ZaD (Zcu Tryz.underlying9) rfl (by kernel_rfl) (ZaD ZCT rfl (by kernel_rfl) (ZaD ZIg rfl (by kernel_rfl) (ZaD ZG8 rfl (by kernel_rfl) (ZbF (Zbt Tryz.underlying3) rfl (by kernel_rfl)))))))))))))
theorem Zz4:Zcw Za6 Tryz.prog 28 :=
  Zbv Tryz.underlying28 (by kernel_rfl) (ZaD ZCS rfl (by kernel_rfl) (ZbF (ZcH Tryz.underlying26 (by kernel_rfl) Zxi) rfl (by kernel_rfl)))
set_option linter.unusedSimpArgs false
set_option linter.unusedVariables false
theorem ZIh {W:World} (h:W.ShapedOpen Tryz.prog):Zlf W []:=by
  intro g hg
  rcases List.mem_cons.1 hg with rfl | hg
  · obtain ⟨m,hm⟩:=cell_of_shapedOpen_int (zero:=#[.int .i64 0]) (t:=3) (g:=0) h (of_decide_eq_true (by kernel_rfl)) (by kernel_rfl) rfl (by kernel_rfl) (by kernel_rfl) Tryz.underlying3
    refine ⟨⟨m,hm⟩,?_,by simp [foots]⟩
    refine Nat.lt_of_not_le fun hle=>?_
    have h0:W.heap[0]?=none:=Array.getElem?_eq_none hle
    simp [World.cell?,h0] at hm
  cases hg
end Go.Proofs.YtkompmgleojmlaaGreat
