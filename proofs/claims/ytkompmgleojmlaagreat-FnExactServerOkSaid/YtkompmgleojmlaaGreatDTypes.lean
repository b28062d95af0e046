import Derived.Test.YtkompmgleojmlaaGreatDMark
namespace Go.Proofs.YtkompmgleojmlaaGreat
open Go.ChangeShapes Go.WideShapes Go.ChangeAt Go.RowKit Go.Joins Go.Deep
open GoRep (rep bulk)
open GoMark (mrk cnt mrkI cntI)
abbrev Ziq:=Int × ByteArray
instance:DecidableEq Ziq:=@instDecidableEqProd _ _ inferInstance (inferInstance)
abbrev ZbB:=Int × Int
instance:DecidableEq ZbB:=@instDecidableEqProd _ _ inferInstance (inferInstance)
abbrev ZaK:=Int × (List ByteArray) × Int
instance:DecidableEq ZaK:=@instDecidableEqProd _ _ inferInstance (@instDecidableEqProd _ _ inferInstance (inferInstance))
abbrev Zby:=Bool × (List ZaK)
instance:DecidableEq Zby:=@instDecidableEqProd _ _ inferInstance (inferInstance)
abbrev Zc7:=Int × Int × ByteArray
instance:DecidableEq Zc7:=@instDecidableEqProd _ _ inferInstance (@instDecidableEqProd _ _ inferInstance (inferInstance))
abbrev Zaw:=ByteArray × Int × Int × (List Zc7)
instance:DecidableEq Zaw:=@instDecidableEqProd _ _ inferInstance (@instDecidableEqProd _ _ inferInstance (@instDecidableEqProd _ _ inferInstance (inferInstance)))
abbrev Zam:=Int × Int × Int × Int × ByteArray × ByteArray
instance:DecidableEq Zam:=@instDecidableEqProd _ _ inferInstance (@instDecidableEqProd _ _ inferInstance (@instDecidableEqProd _ _ inferInstance (@instDecidableEqProd _ _ inferInstance (@instDecidableEqProd _ _ inferInstance (inferInstance)))))
abbrev Zau:=(List Zaw) × (List Zam) × Int
instance:DecidableEq Zau:=@instDecidableEqProd _ _ inferInstance (@instDecidableEqProd _ _ inferInstance (inferInstance))
abbrev ZEQ:=Int × Int
instance:DecidableEq ZEQ:=@instDecidableEqProd _ _ inferInstance (inferInstance)
abbrev ZCt:=(List ZEQ)
instance:DecidableEq ZCt:=inferInstance
abbrev ZI5:=Int × Int × Int × Int × ByteArray × ByteArray
instance:DecidableEq ZI5:=@instDecidableEqProd _ _ inferInstance (@instDecidableEqProd _ _ inferInstance (@instDecidableEqProd _ _ inferInstance (@instDecidableEqProd _ _ inferInstance (@instDecidableEqProd _ _ inferInstance (inferInstance)))))
abbrev Zaz:=Int × Int × Int × ByteArray
instance:DecidableEq Zaz:=@instDecidableEqProd _ _ inferInstance (@instDecidableEqProd _ _ inferInstance (@instDecidableEqProd _ _ inferInstance (inferInstance)))
abbrev Zbc:=(List Zaz) × Bool × Bool
instance:DecidableEq Zbc:=@instDecidableEqProd _ _ inferInstance (@instDecidableEqProd _ _ inferInstance (inferInstance))
abbrev ZpD:=ByteArray × ByteArray
instance:DecidableEq ZpD:=@instDecidableEqProd _ _ inferInstance (inferInstance)
abbrev GIn:=ByteArray × Bool
instance:DecidableEq GIn:=@instDecidableEqProd _ _ inferInstance (inferInstance)
abbrev Zf2:=ByteArray × Int × ByteArray × ByteArray × Bool × (List ZbB) × Int × Int × ByteArray × Zby
instance:DecidableEq Zf2:=@instDecidableEqProd _ _ inferInstance (@instDecidableEqProd _ _ inferInstance (@instDecidableEqProd _ _ inferInstance (@instDecidableEqProd _ _ inferInstance (@instDecidableEqProd _ _ inferInstance (@instDecidableEqProd _ _ inferInstance (@instDecidableEqProd _ _ inferInstance (@instDecidableEqProd _ _ inferInstance (@instDecidableEqProd _ _ inferInstance (inferInstance)))))))))
abbrev Zir:=Bool × ByteArray × Int × Int × (List ZEQ) × Bool
instance:DecidableEq Zir:=@instDecidableEqProd _ _ inferInstance (@instDecidableEqProd _ _ inferInstance (@instDecidableEqProd _ _ inferInstance (@instDecidableEqProd _ _ inferInstance (@instDecidableEqProd _ _ inferInstance (inferInstance)))))
abbrev Zac:=Bool × Int × Int × Int × ZCt × Zby × ByteArray × ByteArray × Zbc × GIn × ZpD × Int
instance:DecidableEq Zac:=@instDecidableEqProd _ _ inferInstance (@instDecidableEqProd _ _ inferInstance (@instDecidableEqProd _ _ inferInstance (@instDecidableEqProd _ _ inferInstance (@instDecidableEqProd _ _ inferInstance (@instDecidableEqProd _ _ inferInstance (@instDecidableEqProd _ _ inferInstance (@instDecidableEqProd _ _ inferInstance (@instDecidableEqProd _ _ inferInstance (@instDecidableEqProd _ _ inferInstance (@instDecidableEqProd _ _ inferInstance (inferInstance)))))))))))
abbrev Zbg:=Zau × (List Zac)
instance:DecidableEq Zbg:=@instDecidableEqProd _ _ inferInstance (inferInstance)
abbrev ZKC:=Int × Int × Int × ByteArray
instance:DecidableEq ZKC:=@instDecidableEqProd _ _ inferInstance (@instDecidableEqProd _ _ inferInstance (@instDecidableEqProd _ _ inferInstance (inferInstance)))
abbrev ZdN:=Int × ByteArray × Int
instance:DecidableEq ZdN:=@instDecidableEqProd _ _ inferInstance (@instDecidableEqProd _ _ inferInstance (inferInstance))
def ZG7 {α:Type} [GoRep α] (w:World) (x:α) (cs:List Value):Prop:=∃ F,rep w x cs F
theorem ZG7.mk {α:Type} [GoRep α] {w:World} {x:α} {cs:List Value} {F:List Nat} (h:rep w x cs F):ZG7 w x cs:=⟨F,h⟩
theorem ZIc {α:Type} [GoRep α] {w:World} {x:α} {cs:List Value} (h:ZG7 w x cs) (o:Obj):ZG7 (w.alloc o) x cs:=by obtain ⟨F,h⟩:=h; exact ⟨F,ZEM h o⟩
theorem ZJH {α:Type} [GoRep α] {w:World} {x:α} {cs:List Value} (h:ZG7 w x cs) (E:Array Obj) (d:Nat):ZG7 (ext w E d) x cs:=by obtain ⟨F,h⟩:=h; exact ⟨F,ZHY h E d⟩
theorem ZER {A A' : World} (E:Array Obj) (d d' g:Nat) (hg:A.heap.size≤g) (hs:A'.heap.size=A.heap.size):(ext A' E d').heap[g]?=(ext A E d).heap[g]?:=by
  show (A'.heap ++ E)[g]?=(A.heap ++ E)[g]?
  rw [Array.getElem?_append_right (by omega),Array.getElem?_append_right hg,hs]
theorem ZES {α:Type} [GoRep α] {A A' : World} {E:Array Obj} {d d' : Nat} {x:α} {cs:List Value} {F:List Nat} (h:rep (ext A E d) x cs F) (hf:∀ b ∈ F,A.heap.size≤b) (hs:A'.heap.size=A.heap.size) :
    rep (ext A' E d') x cs F:=GoRep.keep h (fun b hb=>ZER E d d' b (hf b hb) hs)
theorem ZET {α:Type} [GoRep α] {A A' : World} {E E2:Array Obj} {d d' d2 d2' : Nat} {x:α} {cs:List Value} {F:List Nat} (h:rep (ext (ext A E d) E2 d2) x cs F) (hf:∀ b ∈ F,A.heap.size≤b) (hs:A'.heap.size=A.heap.size) :
    rep (ext (ext A' E d') E2 d2') x cs F:=by
  rw [ZoZ] at h ⊢
  exact ZES h hf hs
theorem ZEU {α:Type} [GoRep α] {A A' : World} {E E2 E3:Array Obj} {d d' d2 d2' d3 d3' : Nat} {x:α} {cs:List Value} {F:List Nat} (h:rep (ext (ext (ext A E d) E2 d2) E3 d3) x cs F) (hf:∀ b ∈ F,A.heap.size≤b) (hs:A'.heap.size=A.heap.size) :
    rep (ext (ext (ext A' E d') E2 d2') E3 d3') x cs F:=by
  rw [ZoZ] at h ⊢
  exact ZET h hf hs
theorem ZEV {α:Type} [GoRep α] {A A' : World} {E E2 E3 E4:Array Obj} {d d' d2 d2' d3 d3' d4 d4' : Nat} {x:α} {cs:List Value} {F:List Nat} (h:rep (ext (ext (ext (ext A E d) E2 d2) E3 d3) E4 d4) x cs F) (hf:∀ b ∈ F,A.heap.size≤b) (hs:A'.heap.size=A.heap.size) :
    rep (ext (ext (ext (ext A' E d') E2 d2') E3 d3') E4 d4') x cs F:=by
  rw [ZoZ] at h ⊢
  exact ZEU h hf hs
theorem ZI6 {α:Type} [GoRep α] {A A' : World} {E E2 E3 E4 E5:Array Obj} {d d' d2 d2' d3 d3' d4 d4' d5 d5' : Nat} {x:α} {cs:List Value} {F:List Nat} (h:rep (ext (ext (ext (ext (ext A E d) E2 d2) E3 d3) E4 d4) E5 d5) x cs F) (hf:∀ b ∈ F,A.heap.size≤b) (hs:A'.heap.size=A.heap.size) :
    rep (ext (ext (ext (ext (ext A' E d') E2 d2') E3 d3') E4 d4') E5 d5') x cs F:=by
  rw [ZoZ] at h ⊢
  exact ZEV h hf hs
theorem RN.fin {α:Type} [GoRep α] {mk:List Value→Value} {x:α} {w w1:World} {v:Value} {cs:List Value} {F:List Nat} (hb:Below w.heap.size w w1) (hr:rep w1 x cs F) (hn:F.Nodup) (hf:∀ b ∈ F,w.heap.size≤b) (hv:v=mk cs) :
    RN mk x w (.returned v) w1:=by
  obtain ⟨E,d,he⟩:=Zip hb
  exact ⟨cs,F,E,d,by rw [hv],he,hr,hn,hf⟩
theorem ZKl {Q:Nat→Prop} {A B:List Nat} (h1:∀ b ∈ A,Q b) (h2:∀ b ∈ B,Q b):∀ b ∈ A ++ B,Q b:=fun b hb=>by
  rcases List.mem_append.1 hb with h | h
  · exact h1 b h
  · exact h2 b h
theorem ZI7 {α β:Type} [GoRep α] [GoRep β] (x:α) (y:β):bulk (x,y)=bulk x + bulk y:=rfl
theorem ZJI (x:Int):bulk x=0:=rfl
theorem ZI8 (x:Bool):bulk x=0:=rfl
theorem ZJJ (x:ByteArray):bulk x=x.size:=rfl
theorem ZId {α:Type} [GoRep α] (h:∀ x:α,bulk x=0) (xs:List α):Zar xs=0:=by
  induction xs with
  | nil=>rfl
  | cons x xs ih=>simp [Zar,h,ih]
end Go.Proofs.YtkompmgleojmlaaGreat
