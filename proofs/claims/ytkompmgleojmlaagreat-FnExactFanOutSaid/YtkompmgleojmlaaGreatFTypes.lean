import Derived.Test.YtkompmgleojmlaaGreatFMark
namespace Go.Proofs.YtkompmgleojmlaaGreat
open Go.ChangeShapes Go.WideShapes Go.ChangeAt Go.RowKit Go.Joins Go.Deep
open GoRep (rep bulk)
open GoMark (mrk cnt mrkI cntI)
abbrev Zjj:=Int × ByteArray
instance:DecidableEq Zjj:=@instDecidableEqProd _ _ inferInstance (inferInstance)
abbrev Zb9:=Int × Int
instance:DecidableEq Zb9:=@instDecidableEqProd _ _ inferInstance (inferInstance)
abbrev Za3:=Int × (List ByteArray) × Int
instance:DecidableEq Za3:=@instDecidableEqProd _ _ inferInstance (@instDecidableEqProd _ _ inferInstance (inferInstance))
abbrev ZbP:=Bool × (List Za3)
instance:DecidableEq ZbP:=@instDecidableEqProd _ _ inferInstance (inferInstance)
abbrev ZcU:=Int × Int × ByteArray
instance:DecidableEq ZcU:=@instDecidableEqProd _ _ inferInstance (@instDecidableEqProd _ _ inferInstance (inferInstance))
abbrev ZaM:=ByteArray × Int × Int × (List ZcU)
instance:DecidableEq ZaM:=@instDecidableEqProd _ _ inferInstance (@instDecidableEqProd _ _ inferInstance (@instDecidableEqProd _ _ inferInstance (inferInstance)))
abbrev Zax:=Int × Int × Int × Int × ByteArray × ByteArray
instance:DecidableEq Zax:=@instDecidableEqProd _ _ inferInstance (@instDecidableEqProd _ _ inferInstance (@instDecidableEqProd _ _ inferInstance (@instDecidableEqProd _ _ inferInstance (@instDecidableEqProd _ _ inferInstance (inferInstance)))))
abbrev Za7:=(List ZaM) × (List Zax) × Int
instance:DecidableEq Za7:=@instDecidableEqProd _ _ inferInstance (@instDecidableEqProd _ _ inferInstance (inferInstance))
abbrev ZFi:=Int × Int
instance:DecidableEq ZFi:=@instDecidableEqProd _ _ inferInstance (inferInstance)
abbrev Zz5:=(List ZFi)
instance:DecidableEq Zz5:=inferInstance
abbrev ZJi:=Int × Int × Int × Int × ByteArray × ByteArray
instance:DecidableEq ZJi:=@instDecidableEqProd _ _ inferInstance (@instDecidableEqProd _ _ inferInstance (@instDecidableEqProd _ _ inferInstance (@instDecidableEqProd _ _ inferInstance (@instDecidableEqProd _ _ inferInstance (inferInstance)))))
abbrev Zay:=Int × Int × Int × ByteArray
instance:DecidableEq Zay:=@instDecidableEqProd _ _ inferInstance (@instDecidableEqProd _ _ inferInstance (@instDecidableEqProd _ _ inferInstance (inferInstance)))
abbrev ZaU:=(List Zay) × Bool × Bool
instance:DecidableEq ZaU:=@instDecidableEqProd _ _ inferInstance (@instDecidableEqProd _ _ inferInstance (inferInstance))
abbrev Zxj:=ByteArray × ByteArray
instance:DecidableEq Zxj:=@instDecidableEqProd _ _ inferInstance (inferInstance)
abbrev GIn:=ByteArray × Bool
instance:DecidableEq GIn:=@instDecidableEqProd _ _ inferInstance (inferInstance)
abbrev ZgL:=ByteArray × Int × ByteArray × ByteArray × Bool × (List Zb9) × Int × Int × ByteArray × ZbP
instance:DecidableEq ZgL:=@instDecidableEqProd _ _ inferInstance (@instDecidableEqProd _ _ inferInstance (@instDecidableEqProd _ _ inferInstance (@instDecidableEqProd _ _ inferInstance (@instDecidableEqProd _ _ inferInstance (@instDecidableEqProd _ _ inferInstance (@instDecidableEqProd _ _ inferInstance (@instDecidableEqProd _ _ inferInstance (@instDecidableEqProd _ _ inferInstance (inferInstance)))))))))
abbrev Zjk:=Bool × ByteArray × Int × Int × (List ZFi) × Bool
instance:DecidableEq Zjk:=@instDecidableEqProd _ _ inferInstance (@instDecidableEqProd _ _ inferInstance (@instDecidableEqProd _ _ inferInstance (@instDecidableEqProd _ _ inferInstance (@instDecidableEqProd _ _ inferInstance (inferInstance)))))
abbrev Zal:=Bool × Int × Int × Int × Zz5 × ZbP × ByteArray × ByteArray × ZaU × GIn × Zxj × Int
instance:DecidableEq Zal:=@instDecidableEqProd _ _ inferInstance (@instDecidableEqProd _ _ inferInstance (@instDecidableEqProd _ _ inferInstance (@instDecidableEqProd _ _ inferInstance (@instDecidableEqProd _ _ inferInstance (@instDecidableEqProd _ _ inferInstance (@instDecidableEqProd _ _ inferInstance (@instDecidableEqProd _ _ inferInstance (@instDecidableEqProd _ _ inferInstance (@instDecidableEqProd _ _ inferInstance (@instDecidableEqProd _ _ inferInstance (inferInstance)))))))))))
abbrev Za6:=Za7 × (List Zal)
instance:DecidableEq Za6:=@instDecidableEqProd _ _ inferInstance (inferInstance)
abbrev ZKD:=Int × Int × Int × ByteArray
instance:DecidableEq ZKD:=@instDecidableEqProd _ _ inferInstance (@instDecidableEqProd _ _ inferInstance (@instDecidableEqProd _ _ inferInstance (inferInstance)))
abbrev Zee:=Int × ByteArray × Int
instance:DecidableEq Zee:=@instDecidableEqProd _ _ inferInstance (@instDecidableEqProd _ _ inferInstance (inferInstance))
def ZHt {α:Type} [GoRep α] (w:World) (x:α) (cs:List Value):Prop:=∃ F,rep w x cs F
theorem ZHt.mk {α:Type} [GoRep α] {w:World} {x:α} {cs:List Value} {F:List Nat} (h:rep w x cs F):ZHt w x cs:=⟨F,h⟩
theorem ZIr {α:Type} [GoRep α] {w:World} {x:α} {cs:List Value} (h:ZHt w x cs) (o:Obj):ZHt (w.alloc o) x cs:=by obtain ⟨F,h⟩:=h; exact ⟨F,ZFe h o⟩
theorem ZJT {α:Type} [GoRep α] {w:World} {x:α} {cs:List Value} (h:ZHt w x cs) (E:Array Obj) (d:Nat):ZHt (ext w E d) x cs:=by obtain ⟨F,h⟩:=h; exact ⟨F,ZIe h E d⟩
theorem ZFj {A A' : World} (E:Array Obj) (d d' g:Nat) (hg:A.heap.size≤g) (hs:A'.heap.size=A.heap.size):(ext A' E d').heap[g]?=(ext A E d).heap[g]?:=by
  show (A'.heap ++ E)[g]?=(A.heap ++ E)[g]?
  rw [Array.getElem?_append_right (by omega),Array.getElem?_append_right hg,hs]
theorem ZFk {α:Type} [GoRep α] {A A' : World} {E:Array Obj} {d d' : Nat} {x:α} {cs:List Value} {F:List Nat} (h:rep (ext A E d) x cs F) (hf:∀ b ∈ F,A.heap.size≤b) (hs:A'.heap.size=A.heap.size) :
    rep (ext A' E d') x cs F:=GoRep.keep h (fun b hb=>ZFj E d d' b (hf b hb) hs)
theorem ZFl {α:Type} [GoRep α] {A A' : World} {E E2:Array Obj} {d d' d2 d2' : Nat} {x:α} {cs:List Value} {F:List Nat} (h:rep (ext (ext A E d) E2 d2) x cs F) (hf:∀ b ∈ F,A.heap.size≤b) (hs:A'.heap.size=A.heap.size) :
    rep (ext (ext A' E d') E2 d2') x cs F:=by
  rw [ZpG] at h ⊢
  exact ZFk h hf hs
theorem ZFm {α:Type} [GoRep α] {A A' : World} {E E2 E3:Array Obj} {d d' d2 d2' d3 d3' : Nat} {x:α} {cs:List Value} {F:List Nat} (h:rep (ext (ext (ext A E d) E2 d2) E3 d3) x cs F) (hf:∀ b ∈ F,A.heap.size≤b) (hs:A'.heap.size=A.heap.size) :
    rep (ext (ext (ext A' E d') E2 d2') E3 d3') x cs F:=by
  rw [ZpG] at h ⊢
  exact ZFl h hf hs
theorem ZFn {α:Type} [GoRep α] {A A' : World} {E E2 E3 E4:Array Obj} {d d' d2 d2' d3 d3' d4 d4' : Nat} {x:α} {cs:List Value} {F:List Nat} (h:rep (ext (ext (ext (ext A E d) E2 d2) E3 d3) E4 d4) x cs F) (hf:∀ b ∈ F,A.heap.size≤b) (hs:A'.heap.size=A.heap.size) :
    rep (ext (ext (ext (ext A' E d') E2 d2') E3 d3') E4 d4') x cs F:=by
  rw [ZpG] at h ⊢
  exact ZFm h hf hs
theorem ZJj {α:Type} [GoRep α] {A A' : World} {E E2 E3 E4 E5:Array Obj} {d d' d2 d2' d3 d3' d4 d4' d5 d5' : Nat} {x:α} {cs:List Value} {F:List Nat} (h:rep (ext (ext (ext (ext (ext A E d) E2 d2) E3 d3) E4 d4) E5 d5) x cs F) (hf:∀ b ∈ F,A.heap.size≤b) (hs:A'.heap.size=A.heap.size) :
    rep (ext (ext (ext (ext (ext A' E d') E2 d2') E3 d3') E4 d4') E5 d5') x cs F:=by
  rw [ZpG] at h ⊢
  exact ZFn h hf hs
theorem RN.fin {α:Type} [GoRep α] {mk:List Value→Value} {x:α} {w w1:World} {v:Value} {cs:List Value} {F:List Nat} (hb:Below w.heap.size w w1) (hr:rep w1 x cs F) (hn:F.Nodup) (hf:∀ b ∈ F,w.heap.size≤b) (hv:v=mk cs) :
    RN mk x w (.returned v) w1:=by
  obtain ⟨E,d,he⟩:=Zji hb
  exact ⟨cs,F,E,d,by rw [hv],he,hr,hn,hf⟩
theorem ZKu {Q:Nat→Prop} {A B:List Nat} (h1:∀ b ∈ A,Q b) (h2:∀ b ∈ B,Q b):∀ b ∈ A ++ B,Q b:=fun b hb=>by
  rcases List.mem_append.1 hb with h | h
  · exact h1 b h
  · exact h2 b h
theorem ZJk {α β:Type} [GoRep α] [GoRep β] (x:α) (y:β):bulk (x,y)=bulk x + bulk y:=rfl
theorem ZJU (x:Int):bulk x=0:=rfl
theorem ZJl (x:Bool):bulk x=0:=rfl
theorem ZJV (x:ByteArray):bulk x=x.size:=rfl
theorem ZIs {α:Type} [GoRep α] (h:∀ x:α,bulk x=0) (xs:List α):ZaF xs=0:=by
  induction xs with
  | nil=>rfl
  | cons x xs ih=>simp [ZaF,h,ih]
end Go.Proofs.YtkompmgleojmlaaGreat
