import Derived.Test.YtkompmgleojmlaaGreatHMark
namespace Go.Proofs.YtkompmgleojmlaaGreat
open Go.ChangeShapes Go.WideShapes Go.ChangeAt Go.RowKit Go.Joins Go.Deep
open GoRep (rep bulk)
open GoMark (mrk cnt mrkI cntI)
abbrev Zkl:=Int × ByteArray
instance:DecidableEq Zkl:=@instDecidableEqProd _ _ inferInstance (inferInstance)
abbrev ZbX:=Int × Int
instance:DecidableEq ZbX:=@instDecidableEqProd _ _ inferInstance (inferInstance)
abbrev ZaZ:=Int × (List ByteArray) × Int
instance:DecidableEq ZaZ:=@instDecidableEqProd _ _ inferInstance (@instDecidableEqProd _ _ inferInstance (inferInstance))
abbrev Zb3:=Bool × (List ZaZ)
instance:DecidableEq Zb3:=@instDecidableEqProd _ _ inferInstance (inferInstance)
abbrev Zds:=Int × Int × ByteArray
instance:DecidableEq Zds:=@instDecidableEqProd _ _ inferInstance (@instDecidableEqProd _ _ inferInstance (inferInstance))
abbrev ZaM:=ByteArray × Int × Int × (List Zds)
instance:DecidableEq ZaM:=@instDecidableEqProd _ _ inferInstance (@instDecidableEqProd _ _ inferInstance (@instDecidableEqProd _ _ inferInstance (inferInstance)))
abbrev Zax:=Int × Int × Int × Int × ByteArray × ByteArray
instance:DecidableEq Zax:=@instDecidableEqProd _ _ inferInstance (@instDecidableEqProd _ _ inferInstance (@instDecidableEqProd _ _ inferInstance (@instDecidableEqProd _ _ inferInstance (@instDecidableEqProd _ _ inferInstance (inferInstance)))))
abbrev ZaI:=(List ZaM) × (List Zax) × Int
instance:DecidableEq ZaI:=@instDecidableEqProd _ _ inferInstance (@instDecidableEqProd _ _ inferInstance (inferInstance))
abbrev ZHs:=Int × Int
instance:DecidableEq ZHs:=@instDecidableEqProd _ _ inferInstance (inferInstance)
abbrev Zv5:=(List ZHs)
instance:DecidableEq Zv5:=inferInstance
abbrev ZOs:=Int × Int × Int × Int × ByteArray × ByteArray
instance:DecidableEq ZOs:=@instDecidableEqProd _ _ inferInstance (@instDecidableEqProd _ _ inferInstance (@instDecidableEqProd _ _ inferInstance (@instDecidableEqProd _ _ inferInstance (@instDecidableEqProd _ _ inferInstance (inferInstance)))))
abbrev ZaO:=Int × Int × Int × ByteArray
instance:DecidableEq ZaO:=@instDecidableEqProd _ _ inferInstance (@instDecidableEqProd _ _ inferInstance (@instDecidableEqProd _ _ inferInstance (inferInstance)))
abbrev ZbH:=(List ZaO) × Bool × Bool
instance:DecidableEq ZbH:=@instDecidableEqProd _ _ inferInstance (@instDecidableEqProd _ _ inferInstance (inferInstance))
abbrev Zl0:=ByteArray × ByteArray
instance:DecidableEq Zl0:=@instDecidableEqProd _ _ inferInstance (inferInstance)
abbrev GIn:=ByteArray × Bool
instance:DecidableEq GIn:=@instDecidableEqProd _ _ inferInstance (inferInstance)
abbrev ZhG:=ByteArray × Int × ByteArray × ByteArray × Bool × (List ZbX) × Int × Int × ByteArray × Zb3
instance:DecidableEq ZhG:=@instDecidableEqProd _ _ inferInstance (@instDecidableEqProd _ _ inferInstance (@instDecidableEqProd _ _ inferInstance (@instDecidableEqProd _ _ inferInstance (@instDecidableEqProd _ _ inferInstance (@instDecidableEqProd _ _ inferInstance (@instDecidableEqProd _ _ inferInstance (@instDecidableEqProd _ _ inferInstance (@instDecidableEqProd _ _ inferInstance (inferInstance)))))))))
abbrev Zkm:=Bool × ByteArray × Int × Int × (List ZHs) × Bool
instance:DecidableEq Zkm:=@instDecidableEqProd _ _ inferInstance (@instDecidableEqProd _ _ inferInstance (@instDecidableEqProd _ _ inferInstance (@instDecidableEqProd _ _ inferInstance (@instDecidableEqProd _ _ inferInstance (inferInstance)))))
abbrev Zad:=Bool × Int × Int × Int × Zv5 × Zb3 × ByteArray × ByteArray × ZbH × GIn × Zl0 × Int
instance:DecidableEq Zad:=@instDecidableEqProd _ _ inferInstance (@instDecidableEqProd _ _ inferInstance (@instDecidableEqProd _ _ inferInstance (@instDecidableEqProd _ _ inferInstance (@instDecidableEqProd _ _ inferInstance (@instDecidableEqProd _ _ inferInstance (@instDecidableEqProd _ _ inferInstance (@instDecidableEqProd _ _ inferInstance (@instDecidableEqProd _ _ inferInstance (@instDecidableEqProd _ _ inferInstance (@instDecidableEqProd _ _ inferInstance (inferInstance)))))))))))
abbrev ZaE:=ZaI × (List Zad)
instance:DecidableEq ZaE:=@instDecidableEqProd _ _ inferInstance (inferInstance)
abbrev ZPX:=Int × Int × Int × ByteArray
instance:DecidableEq ZPX:=@instDecidableEqProd _ _ inferInstance (@instDecidableEqProd _ _ inferInstance (@instDecidableEqProd _ _ inferInstance (inferInstance)))
abbrev ZeX:=Int × ByteArray × Int
instance:DecidableEq ZeX:=@instDecidableEqProd _ _ inferInstance (@instDecidableEqProd _ _ inferInstance (inferInstance))
def ZKm {α:Type} [GoRep α] (w:World) (x:α) (cs:List Value):Prop:=∃ F,rep w x cs F
theorem ZKm.mk {α:Type} [GoRep α] {w:World} {x:α} {cs:List Value} {F:List Nat} (h:rep w x cs F):ZKm w x cs:=⟨F,h⟩
theorem ZNz {α:Type} [GoRep α] {w:World} {x:α} {cs:List Value} (h:ZKm w x cs) (o:Obj):ZKm (w.alloc o) x cs:=by obtain ⟨F,h⟩:=h; exact ⟨F,ZJ1 h o⟩
theorem ZO6 {α:Type} [GoRep α] {w:World} {x:α} {cs:List Value} (h:ZKm w x cs) (E:Array Obj) (d:Nat):ZKm (ext w E d) x cs:=by obtain ⟨F,h⟩:=h; exact ⟨F,ZNl h E d⟩
theorem ZJ5 {A A' : World} (E:Array Obj) (d d' g:Nat) (hg:A.heap.size≤g) (hs:A'.heap.size=A.heap.size):(ext A' E d').heap[g]?=(ext A E d).heap[g]?:=by
 show (A'.heap ++ E)[g]?=(A.heap ++ E)[g]?
 rw [Array.getElem?_append_right (by omega),Array.getElem?_append_right hg,hs]
theorem ZJ6 {α:Type} [GoRep α] {A A' : World} {E:Array Obj} {d d' : Nat} {x:α} {cs:List Value} {F:List Nat} (h:rep (ext A E d) x cs F) (hf:∀ b ∈ F,A.heap.size≤b) (hs:A'.heap.size=A.heap.size) :
 rep (ext A' E d') x cs F:=GoRep.keep h (fun b hb=>ZJ5 E d d' b (hf b hb) hs)
theorem ZJ7 {α:Type} [GoRep α] {A A' : World} {E E2:Array Obj} {d d' d2 d2' : Nat} {x:α} {cs:List Value} {F:List Nat} (h:rep (ext (ext A E d) E2 d2) x cs F) (hf:∀ b ∈ F,A.heap.size≤b) (hs:A'.heap.size=A.heap.size) :
 rep (ext (ext A' E d') E2 d2') x cs F:=by
 rw [ZrR] at h ⊢
 exact ZJ6 h hf hs
theorem ZJ8 {α:Type} [GoRep α] {A A' : World} {E E2 E3:Array Obj} {d d' d2 d2' d3 d3' : Nat} {x:α} {cs:List Value} {F:List Nat} (h:rep (ext (ext (ext A E d) E2 d2) E3 d3) x cs F) (hf:∀ b ∈ F,A.heap.size≤b) (hs:A'.heap.size=A.heap.size) :
 rep (ext (ext (ext A' E d') E2 d2') E3 d3') x cs F:=by
 rw [ZrR] at h ⊢
 exact ZJ7 h hf hs
theorem ZJ9 {α:Type} [GoRep α] {A A' : World} {E E2 E3 E4:Array Obj} {d d' d2 d2' d3 d3' d4 d4' : Nat} {x:α} {cs:List Value} {F:List Nat} (h:rep (ext (ext (ext (ext A E d) E2 d2) E3 d3) E4 d4) x cs F) (hf:∀ b ∈ F,A.heap.size≤b) (hs:A'.heap.size=A.heap.size) :
 rep (ext (ext (ext (ext A' E d') E2 d2') E3 d3') E4 d4') x cs F:=by
 rw [ZrR] at h ⊢
 exact ZJ8 h hf hs
theorem ZOt {α:Type} [GoRep α] {A A' : World} {E E2 E3 E4 E5:Array Obj} {d d' d2 d2' d3 d3' d4 d4' d5 d5' : Nat} {x:α} {cs:List Value} {F:List Nat} (h:rep (ext (ext (ext (ext (ext A E d) E2 d2) E3 d3) E4 d4) E5 d5) x cs F) (hf:∀ b ∈ F,A.heap.size≤b) (hs:A'.heap.size=A.heap.size) :
 rep (ext (ext (ext (ext (ext A' E d') E2 d2') E3 d3') E4 d4') E5 d5') x cs F:=by
 rw [ZrR] at h ⊢
 exact ZJ9 h hf hs
theorem RN.fin {α:Type} [GoRep α] {mk:List Value→Value} {x:α} {w w1:World} {v:Value} {cs:List Value} {F:List Nat} (hb:Below w.heap.size w w1) (hr:rep w1 x cs F) (hn:F.Nodup) (hf:∀ b ∈ F,w.heap.size≤b) (hv:v=mk cs) :
 RN mk x w (.returned v) w1:=by
 obtain ⟨E,d,he⟩:=Zkk hb
 exact ⟨cs,F,E,d,by rw [hv],he,hr,hn,hf⟩
theorem ZPI {Q:Nat→Prop} {A B:List Nat} (h1:∀ b ∈ A,Q b) (h2:∀ b ∈ B,Q b):∀ b ∈ A ++ B,Q b:=fun b hb=>by
 rcases List.mem_append.1 hb with h | h
 ·exact h1 b h
 ·exact h2 b h
theorem ZOu {α β:Type} [GoRep α] [GoRep β] (x:α) (y:β):bulk (x,y)=bulk x + bulk y:=rfl
theorem ZO7 (x:Int):bulk x=0:=rfl
theorem ZOv (x:Bool):bulk x=0:=rfl
theorem ZO8 (x:ByteArray):bulk x=x.size:=rfl
theorem ZNA {α:Type} [GoRep α] (h:∀ x:α,bulk x=0) (xs:List α):ZaP xs=0:=by
 induction xs with
 | nil=>rfl
 | cons x xs ih=>simp [ZaP,h,ih]
end Go.Proofs.YtkompmgleojmlaaGreat
