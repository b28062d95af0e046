import Derived.Test.YtafhbjjcpncfnaaGreatIMark
namespace Go.Proofs.YtafhbjjcpncfnaaGreat
open Go.ChangeShapes Go.WideShapes Go.ChangeAt Go.RowKit Go.Joins Go.Deep
open GoRep (rep bulk)
open GoMark (mrk cnt mrkI cntI)
abbrev Zkh:=Int × ByteArray
instance:DecidableEq Zkh:=@instDecidableEqProd _ _ inferInstance (inferInstance)
abbrev ZbT:=Int × Int
instance:DecidableEq ZbT:=@instDecidableEqProd _ _ inferInstance (inferInstance)
abbrev ZaW:=Int × (List ByteArray) × Int
instance:DecidableEq ZaW:=@instDecidableEqProd _ _ inferInstance (@instDecidableEqProd _ _ inferInstance (inferInstance))
abbrev Zb1:=Bool × (List ZaW)
instance:DecidableEq Zb1:=@instDecidableEqProd _ _ inferInstance (inferInstance)
abbrev Zdr:=Int × Int × ByteArray
instance:DecidableEq Zdr:=@instDecidableEqProd _ _ inferInstance (@instDecidableEqProd _ _ inferInstance (inferInstance))
abbrev ZaO:=ByteArray × Int × Int × (List Zdr)
instance:DecidableEq ZaO:=@instDecidableEqProd _ _ inferInstance (@instDecidableEqProd _ _ inferInstance (@instDecidableEqProd _ _ inferInstance (inferInstance)))
abbrev ZaA:=Int × Int × Int × Int × ByteArray × ByteArray
instance:DecidableEq ZaA:=@instDecidableEqProd _ _ inferInstance (@instDecidableEqProd _ _ inferInstance (@instDecidableEqProd _ _ inferInstance (@instDecidableEqProd _ _ inferInstance (@instDecidableEqProd _ _ inferInstance (inferInstance)))))
abbrev ZaI:=(List ZaO) × (List ZaA) × Int
instance:DecidableEq ZaI:=@instDecidableEqProd _ _ inferInstance (@instDecidableEqProd _ _ inferInstance (inferInstance))
abbrev ZHf:=Int × Int
instance:DecidableEq ZHf:=@instDecidableEqProd _ _ inferInstance (inferInstance)
abbrev ZvY:=(List ZHf)
instance:DecidableEq ZvY:=inferInstance
abbrev ZNX:=Int × Int × Int × Int × ByteArray × ByteArray
instance:DecidableEq ZNX:=@instDecidableEqProd _ _ inferInstance (@instDecidableEqProd _ _ inferInstance (@instDecidableEqProd _ _ inferInstance (@instDecidableEqProd _ _ inferInstance (@instDecidableEqProd _ _ inferInstance (inferInstance)))))
abbrev ZaM:=Int × Int × Int × ByteArray
instance:DecidableEq ZaM:=@instDecidableEqProd _ _ inferInstance (@instDecidableEqProd _ _ inferInstance (@instDecidableEqProd _ _ inferInstance (inferInstance)))
abbrev ZbH:=(List ZaM) × Bool × Bool
instance:DecidableEq ZbH:=@instDecidableEqProd _ _ inferInstance (@instDecidableEqProd _ _ inferInstance (inferInstance))
abbrev ZsC:=ByteArray × ByteArray
instance:DecidableEq ZsC:=@instDecidableEqProd _ _ inferInstance (inferInstance)
abbrev GIn:=ByteArray × Bool
instance:DecidableEq GIn:=@instDecidableEqProd _ _ inferInstance (inferInstance)
abbrev ZhJ:=ByteArray × Int × ByteArray × ByteArray × Bool × (List ZbT) × Int × Int × ByteArray × Zb1
instance:DecidableEq ZhJ:=@instDecidableEqProd _ _ inferInstance (@instDecidableEqProd _ _ inferInstance (@instDecidableEqProd _ _ inferInstance (@instDecidableEqProd _ _ inferInstance (@instDecidableEqProd _ _ inferInstance (@instDecidableEqProd _ _ inferInstance (@instDecidableEqProd _ _ inferInstance (@instDecidableEqProd _ _ inferInstance (@instDecidableEqProd _ _ inferInstance (inferInstance)))))))))
abbrev Zki:=Bool × ByteArray × Int × Int × (List ZHf) × Bool
instance:DecidableEq Zki:=@instDecidableEqProd _ _ inferInstance (@instDecidableEqProd _ _ inferInstance (@instDecidableEqProd _ _ inferInstance (@instDecidableEqProd _ _ inferInstance (@instDecidableEqProd _ _ inferInstance (inferInstance)))))
abbrev Zad:=Bool × Int × Int × Int × ZvY × Zb1 × ByteArray × ByteArray × ZbH × GIn × ZsC × Int
instance:DecidableEq Zad:=@instDecidableEqProd _ _ inferInstance (@instDecidableEqProd _ _ inferInstance (@instDecidableEqProd _ _ inferInstance (@instDecidableEqProd _ _ inferInstance (@instDecidableEqProd _ _ inferInstance (@instDecidableEqProd _ _ inferInstance (@instDecidableEqProd _ _ inferInstance (@instDecidableEqProd _ _ inferInstance (@instDecidableEqProd _ _ inferInstance (@instDecidableEqProd _ _ inferInstance (@instDecidableEqProd _ _ inferInstance (inferInstance)))))))))))
abbrev ZaT:=ZaI × (List Zad)
instance:DecidableEq ZaT:=@instDecidableEqProd _ _ inferInstance (inferInstance)
abbrev ZPv:=Int × Int × Int × ByteArray
instance:DecidableEq ZPv:=@instDecidableEqProd _ _ inferInstance (@instDecidableEqProd _ _ inferInstance (@instDecidableEqProd _ _ inferInstance (inferInstance)))
abbrev Ze1:=Int × ByteArray × Int
instance:DecidableEq Ze1:=@instDecidableEqProd _ _ inferInstance (@instDecidableEqProd _ _ inferInstance (inferInstance))
def ZLZ {α:Type} [GoRep α] (w:World) (x:α) (cs:List Value):Prop:=∃ F,rep w x cs F
theorem ZLZ.mk {α:Type} [GoRep α] {w:World} {x:α} {cs:List Value} {F:List Nat} (h:rep w x cs F):ZLZ w x cs:=⟨F,h⟩
theorem ZM6 {α:Type} [GoRep α] {w:World} {x:α} {cs:List Value} (h:ZLZ w x cs) (o:Obj):ZLZ (w.alloc o) x cs:=by obtain ⟨F,h⟩:=h; exact ⟨F,ZJy h o⟩
theorem ZOA {α:Type} [GoRep α] {w:World} {x:α} {cs:List Value} (h:ZLZ w x cs) (E:Array Obj) (d:Nat):ZLZ (ext w E d) x cs:=by obtain ⟨F,h⟩:=h; exact ⟨F,ZMR h E d⟩
theorem ZJC {A A' : World} (E:Array Obj) (d d' g:Nat) (hg:A.heap.size≤g) (hs:A'.heap.size=A.heap.size):(ext A' E d').heap[g]?=(ext A E d).heap[g]?:=by
 show (A'.heap ++ E)[g]?=(A.heap ++ E)[g]?
 rw [Array.getElem?_append_right (by omega),Array.getElem?_append_right hg,hs]
theorem ZJD {α:Type} [GoRep α] {A A' : World} {E:Array Obj} {d d' : Nat} {x:α} {cs:List Value} {F:List Nat} (h:rep (ext A E d) x cs F) (hf:∀ b ∈ F,A.heap.size≤b) (hs:A'.heap.size=A.heap.size) :
 rep (ext A' E d') x cs F:=GoRep.keep h (fun b hb=>ZJC E d d' b (hf b hb) hs)
theorem ZJE {α:Type} [GoRep α] {A A' : World} {E E2:Array Obj} {d d' d2 d2' : Nat} {x:α} {cs:List Value} {F:List Nat} (h:rep (ext (ext A E d) E2 d2) x cs F) (hf:∀ b ∈ F,A.heap.size≤b) (hs:A'.heap.size=A.heap.size) :
 rep (ext (ext A' E d') E2 d2') x cs F:=by
 rw [ZrG] at h ⊢
 exact ZJD h hf hs
theorem ZJF {α:Type} [GoRep α] {A A' : World} {E E2 E3:Array Obj} {d d' d2 d2' d3 d3' : Nat} {x:α} {cs:List Value} {F:List Nat} (h:rep (ext (ext (ext A E d) E2 d2) E3 d3) x cs F) (hf:∀ b ∈ F,A.heap.size≤b) (hs:A'.heap.size=A.heap.size) :
 rep (ext (ext (ext A' E d') E2 d2') E3 d3') x cs F:=by
 rw [ZrG] at h ⊢
 exact ZJE h hf hs
theorem ZJG {α:Type} [GoRep α] {A A' : World} {E E2 E3 E4:Array Obj} {d d' d2 d2' d3 d3' d4 d4' : Nat} {x:α} {cs:List Value} {F:List Nat} (h:rep (ext (ext (ext (ext A E d) E2 d2) E3 d3) E4 d4) x cs F) (hf:∀ b ∈ F,A.heap.size≤b) (hs:A'.heap.size=A.heap.size) :
 rep (ext (ext (ext (ext A' E d') E2 d2') E3 d3') E4 d4') x cs F:=by
 rw [ZrG] at h ⊢
 exact ZJF h hf hs
theorem ZNY {α:Type} [GoRep α] {A A' : World} {E E2 E3 E4 E5:Array Obj} {d d' d2 d2' d3 d3' d4 d4' d5 d5' : Nat} {x:α} {cs:List Value} {F:List Nat} (h:rep (ext (ext (ext (ext (ext A E d) E2 d2) E3 d3) E4 d4) E5 d5) x cs F) (hf:∀ b ∈ F,A.heap.size≤b) (hs:A'.heap.size=A.heap.size) :
 rep (ext (ext (ext (ext (ext A' E d') E2 d2') E3 d3') E4 d4') E5 d5') x cs F:=by
 rw [ZrG] at h ⊢
 exact ZJG h hf hs
theorem RN.fin {α:Type} [GoRep α] {mk:List Value→Value} {x:α} {w w1:World} {v:Value} {cs:List Value} {F:List Nat} (hb:Below w.heap.size w w1) (hr:rep w1 x cs F) (hn:F.Nodup) (hf:∀ b ∈ F,w.heap.size≤b) (hv:v=mk cs) :
 RN mk x w (.returned v) w1:=by
 obtain ⟨E,d,he⟩:=Zkg hb
 exact ⟨cs,F,E,d,by rw [hv],he,hr,hn,hf⟩
theorem ZPe {Q:Nat→Prop} {A B:List Nat} (h1:∀ b ∈ A,Q b) (h2:∀ b ∈ B,Q b):∀ b ∈ A ++ B,Q b:=fun b hb=>by
 rcases List.mem_append.1 hb with h | h
 ·exact h1 b h
 ·exact h2 b h
theorem ZNZ {α β:Type} [GoRep α] [GoRep β] (x:α) (y:β):bulk (x,y)=bulk x + bulk y:=rfl
theorem ZOB (x:Int):bulk x=0:=rfl
theorem ZN0 (x:Bool):bulk x=0:=rfl
theorem ZOC (x:ByteArray):bulk x=x.size:=rfl
theorem ZM7 {α:Type} [GoRep α] (h:∀ x:α,bulk x=0) (xs:List α):ZaN xs=0:=by
 induction xs with
 | nil=>rfl
 | cons x xs ih=>simp [ZaN,h,ih]
end Go.Proofs.YtafhbjjcpncfnaaGreat
