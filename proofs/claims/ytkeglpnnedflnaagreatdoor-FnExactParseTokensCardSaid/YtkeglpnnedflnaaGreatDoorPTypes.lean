import Derived.Test.YtkeglpnnedflnaaGreatDoorPMark
namespace Go.Proofs.YtkeglpnnedflnaaGreatDoor
open Go.ChangeShapes Go.WideShapes Go.ChangeAt Go.RowKit Go.Joins Go.Deep
open GoRep (rep bulk)
open GoMark (mrk cnt mrkI cntI)
abbrev GToken:=Int × ByteArray
instance:DecidableEq GToken:=@instDecidableEqProd _ _ inferInstance (inferInstance)
abbrev Zaj:=Int × Int
instance:DecidableEq Zaj:=@instDecidableEqProd _ _ inferInstance (inferInstance)
abbrev GScope:=Int × (List ByteArray) × Int
instance:DecidableEq GScope:=@instDecidableEqProd _ _ inferInstance (@instDecidableEqProd _ _ inferInstance (inferInstance))
abbrev GFilter:=Bool × (List GScope)
instance:DecidableEq GFilter:=@instDecidableEqProd _ _ inferInstance (inferInstance)
abbrev ZCe:=Int × Int × ByteArray
instance:DecidableEq ZCe:=@instDecidableEqProd _ _ inferInstance (@instDecidableEqProd _ _ inferInstance (inferInstance))
abbrev ZGU:=ByteArray × Int × Int × (List ZCe)
instance:DecidableEq ZGU:=@instDecidableEqProd _ _ inferInstance (@instDecidableEqProd _ _ inferInstance (@instDecidableEqProd _ _ inferInstance (inferInstance)))
abbrev ZeL:=Int × Int × Int × Int × ByteArray × ByteArray
instance:DecidableEq ZeL:=@instDecidableEqProd _ _ inferInstance (@instDecidableEqProd _ _ inferInstance (@instDecidableEqProd _ _ inferInstance (@instDecidableEqProd _ _ inferInstance (@instDecidableEqProd _ _ inferInstance (inferInstance)))))
abbrev Zk0:=(List ZGU) × (List ZeL) × Int
instance:DecidableEq Zk0:=@instDecidableEqProd _ _ inferInstance (@instDecidableEqProd _ _ inferInstance (inferInstance))
abbrev ZJK:=Int × Int
instance:DecidableEq ZJK:=@instDecidableEqProd _ _ inferInstance (inferInstance)
abbrev ZMg:=(List ZJK)
instance:DecidableEq ZMg:=inferInstance
abbrev ZMh:=Int × Int × Int × Int × ByteArray × ByteArray
instance:DecidableEq ZMh:=@instDecidableEqProd _ _ inferInstance (@instDecidableEqProd _ _ inferInstance (@instDecidableEqProd _ _ inferInstance (@instDecidableEqProd _ _ inferInstance (@instDecidableEqProd _ _ inferInstance (inferInstance)))))
abbrev ZmG:=Int × Int × Int × ByteArray
instance:DecidableEq ZmG:=@instDecidableEqProd _ _ inferInstance (@instDecidableEqProd _ _ inferInstance (@instDecidableEqProd _ _ inferInstance (inferInstance)))
abbrev Zk1:=(List ZmG) × Bool × Bool
instance:DecidableEq Zk1:=@instDecidableEqProd _ _ inferInstance (@instDecidableEqProd _ _ inferInstance (inferInstance))
abbrev ZCf:=ByteArray × ByteArray
instance:DecidableEq ZCf:=@instDecidableEqProd _ _ inferInstance (inferInstance)
abbrev GIn:=ByteArray × Bool
instance:DecidableEq GIn:=@instDecidableEqProd _ _ inferInstance (inferInstance)
abbrev GCommand:=ByteArray × Int × ByteArray × ByteArray × Bool × (List Zaj) × Int × Int × ByteArray × GFilter
instance:DecidableEq GCommand:=@instDecidableEqProd _ _ inferInstance (@instDecidableEqProd _ _ inferInstance (@instDecidableEqProd _ _ inferInstance (@instDecidableEqProd _ _ inferInstance (@instDecidableEqProd _ _ inferInstance (@instDecidableEqProd _ _ inferInstance (@instDecidableEqProd _ _ inferInstance (@instDecidableEqProd _ _ inferInstance (@instDecidableEqProd _ _ inferInstance (inferInstance)))))))))
abbrev Zic:=Bool × ByteArray × Int × Int × (List ZJK) × Bool
instance:DecidableEq Zic:=@instDecidableEqProd _ _ inferInstance (@instDecidableEqProd _ _ inferInstance (@instDecidableEqProd _ _ inferInstance (@instDecidableEqProd _ _ inferInstance (@instDecidableEqProd _ _ inferInstance (inferInstance)))))
abbrev Ze1:=Bool × Int × Int × Int × ZMg × GFilter × ByteArray × ByteArray × Zk1 × GIn × ZCf × Int
instance:DecidableEq Ze1:=@instDecidableEqProd _ _ inferInstance (@instDecidableEqProd _ _ inferInstance (@instDecidableEqProd _ _ inferInstance (@instDecidableEqProd _ _ inferInstance (@instDecidableEqProd _ _ inferInstance (@instDecidableEqProd _ _ inferInstance (@instDecidableEqProd _ _ inferInstance (@instDecidableEqProd _ _ inferInstance (@instDecidableEqProd _ _ inferInstance (@instDecidableEqProd _ _ inferInstance (@instDecidableEqProd _ _ inferInstance (inferInstance)))))))))))
abbrev Zid:=Zk0 × (List Ze1)
instance:DecidableEq Zid:=@instDecidableEqProd _ _ inferInstance (inferInstance)
abbrev ZRZ:=Int × Int × Int × ByteArray
instance:DecidableEq ZRZ:=@instDecidableEqProd _ _ inferInstance (@instDecidableEqProd _ _ inferInstance (@instDecidableEqProd _ _ inferInstance (inferInstance)))
abbrev ZdJ:=Int × ByteArray × Int
instance:DecidableEq ZdJ:=@instDecidableEqProd _ _ inferInstance (@instDecidableEqProd _ _ inferInstance (inferInstance))
def ZHX {α:Type} [GoRep α] (w:World) (x:α) (cs:List Value):Prop:=∃ F,rep w x cs F
theorem ZHX.mk {α:Type} [GoRep α] {w:World} {x:α} {cs:List Value} {F:List Nat} (h:rep w x cs F):ZHX w x cs:=⟨F,h⟩
theorem ZJ3 {α:Type} [GoRep α] {w:World} {x:α} {cs:List Value} (h:ZHX w x cs) (o:Obj):ZHX (w.alloc o) x cs:=by obtain ⟨F,h⟩:=h; exact ⟨F,ZEN h o⟩
theorem ZMZ {α:Type} [GoRep α] {w:World} {x:α} {cs:List Value} (h:ZHX w x cs) (E:Array Obj) (d:Nat):ZHX (ext w E d) x cs:=by obtain ⟨F,h⟩:=h; exact ⟨F,ZJI h E d⟩
theorem ZET {A A' : World} (E:Array Obj) (d d' g:Nat) (hg:A.heap.size≤g) (hs:A'.heap.size=A.heap.size):(ext A' E d').heap[g]?=(ext A E d).heap[g]?:=by
 show (A'.heap ++ E)[g]?=(A.heap ++ E)[g]?
 rw [Array.getElem?_append_right (by omega),Array.getElem?_append_right hg,hs]
theorem ZEU {α:Type} [GoRep α] {A A' : World} {E:Array Obj} {d d' : Nat} {x:α} {cs:List Value} {F:List Nat} (h:rep (ext A E d) x cs F) (hf:∀ b ∈ F,A.heap.size≤b) (hs:A'.heap.size=A.heap.size) :
 rep (ext A' E d') x cs F:=GoRep.keep h (fun b hb=>ZET E d d' b (hf b hb) hs)
theorem ZEV {α:Type} [GoRep α] {A A' : World} {E E2:Array Obj} {d d' d2 d2' : Nat} {x:α} {cs:List Value} {F:List Nat} (h:rep (ext (ext A E d) E2 d2) x cs F) (hf:∀ b ∈ F,A.heap.size≤b) (hs:A'.heap.size=A.heap.size) :
 rep (ext (ext A' E d') E2 d2') x cs F:=by
 rw [Zpb] at h ⊢
 exact ZEU h hf hs
theorem ZEW {α:Type} [GoRep α] {A A' : World} {E E2 E3:Array Obj} {d d' d2 d2' d3 d3' : Nat} {x:α} {cs:List Value} {F:List Nat} (h:rep (ext (ext (ext A E d) E2 d2) E3 d3) x cs F) (hf:∀ b ∈ F,A.heap.size≤b) (hs:A'.heap.size=A.heap.size) :
 rep (ext (ext (ext A' E d') E2 d2') E3 d3') x cs F:=by
 rw [Zpb] at h ⊢
 exact ZEV h hf hs
theorem ZEX {α:Type} [GoRep α] {A A' : World} {E E2 E3 E4:Array Obj} {d d' d2 d2' d3 d3' d4 d4' : Nat} {x:α} {cs:List Value} {F:List Nat} (h:rep (ext (ext (ext (ext A E d) E2 d2) E3 d3) E4 d4) x cs F) (hf:∀ b ∈ F,A.heap.size≤b) (hs:A'.heap.size=A.heap.size) :
 rep (ext (ext (ext (ext A' E d') E2 d2') E3 d3') E4 d4') x cs F:=by
 rw [Zpb] at h ⊢
 exact ZEW h hf hs
theorem ZMi {α:Type} [GoRep α] {A A' : World} {E E2 E3 E4 E5:Array Obj} {d d' d2 d2' d3 d3' d4 d4' d5 d5' : Nat} {x:α} {cs:List Value} {F:List Nat} (h:rep (ext (ext (ext (ext (ext A E d) E2 d2) E3 d3) E4 d4) E5 d5) x cs F) (hf:∀ b ∈ F,A.heap.size≤b) (hs:A'.heap.size=A.heap.size) :
 rep (ext (ext (ext (ext (ext A' E d') E2 d2') E3 d3') E4 d4') E5 d5') x cs F:=by
 rw [Zpb] at h ⊢
 exact ZEX h hf hs
theorem RN.fin {α:Type} [GoRep α] {mk:List Value→Value} {x:α} {w w1:World} {v:Value} {cs:List Value} {F:List Nat} (hb:Below w.heap.size w w1) (hr:rep w1 x cs F) (hn:F.Nodup) (hf:∀ b ∈ F,w.heap.size≤b) (hv:v=mk cs) :
 RN mk x w (.returned v) w1:=by
 obtain ⟨E,d,he⟩:=Zia hb
 exact ⟨cs,F,E,d,by rw [hv],he,hr,hn,hf⟩
theorem ZPZ {Q:Nat→Prop} {A B:List Nat} (h1:∀ b ∈ A,Q b) (h2:∀ b ∈ B,Q b):∀ b ∈ A ++ B,Q b:=fun b hb=>by
 rcases List.mem_append.1 hb with h | h
 ·exact h1 b h
 ·exact h2 b h
theorem ZMj {α β:Type} [GoRep α] [GoRep β] (x:α) (y:β):bulk (x,y)=bulk x + bulk y:=rfl
theorem ZM0 (x:Int):bulk x=0:=rfl
theorem ZMk (x:Bool):bulk x=0:=rfl
theorem ZM1 (x:ByteArray):bulk x=x.size:=rfl
theorem ZJ4 {α:Type} [GoRep α] (h:∀ x:α,bulk x=0) (xs:List α):Zb6 xs=0:=by
 induction xs with
 | nil=>rfl
 | cons x xs ih=>simp [Zb6,h,ih]
end Go.Proofs.YtkeglpnnedflnaaGreatDoor
