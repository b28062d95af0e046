/-
  Several texts in one.
-/
import Derived.Test.YtoigkpkafgjeaaaGreatDoorProg
import Derived.KernelRfl
import GoSem.Claim
import GoSem.ClaimJoined
import GoSem.ClaimMapViews
import Derived.JoinedTies
import Derived.WalkKit
import Derived.ProofKit
import Derived.OpenShut
import Derived.BigQuiet
import Derived.StillTailTactics
import Derived.RegionTactic
import Derived.Deep.RegionHeld3
import Derived.Deep.RegionWith
import Derived.ChangeAlike
import Derived.Deep.QuietTactic
import Derived.Lib.Hide
import Derived.WalkLawsBesides
import Derived.WalkSpells
import Derived.Lib.SmallJoins
import Derived.Deep.Slices
import Derived.Deep.Draws
import Derived.Laws.OwnMore
import Derived.ShutString
namespace Go.Proofs.YtoigkpkafgjeaaaGreatDoor
open Go.ChangeShapes Go.WideShapes Go.ChangeAt Go.RowKit Go.Joins Go.Deep

theorem ret_str {a b : ByteArray} (h : a = b) : Ending.returned (.string a) = .returned (.string b) := by rw [h]
theorem ret_bool {a b : Bool} (h : a = b) : Ending.returned (.bool a) = .returned (.bool b) := by rw [h]
theorem ret_int {k : IntKind} {a b : Int} (h : a = b) : Ending.returned (.int k a) = .returned (.int k b) := by rw [h]

theorem trodAll_below {H : Type} {enc : TypeId × Value → H} {P : Program} (hl : laidOutB P = true) {W W' : World} (hb : Below W.heap.size W W') :
    ∀ {ts : List TypeId} {vs : List Value} {ds : List (DataW H)} {ps : List MemPlace},
      (∀ t ∈ ts, P.readableRec t = true ∧ t < P.types.size) → DataW.TrodAll enc P W 0 (fun _ => true) true ts vs ds ps → (∀ x ∈ ps, x.block < W.heap.size) →
      DataW.TrodAll enc P W' 0 (fun b => decide (b < W.heap.size)) true ts vs ds ps
  | [], [], [], _, _, h, _ => h
  | t :: ts, v :: vs, d :: ds, ps, hr, ⟨p, q, h1, h2, e⟩, hlt => by
    subst e
    have ht := hr t (by simp)
    exact ⟨p, q, Below.trod hl ht.1 ht.2 h1 hb (fun x hx => hlt x (by simp [hx])), trodAll_below hl hb (fun t' ht' => hr t' (by simp [ht'])) h2 (fun x hx => hlt x (by simp [hx])), rfl⟩
  | [], _ :: _, _, _, _, h, _ => by simp [DataW.TrodAll] at h
  | [], [], _ :: _, _, _, h, _ => by simp [DataW.TrodAll] at h
  | _ :: _, [], _, _, _, h, _ => by simp [DataW.TrodAll] at h
  | _ :: _, _ :: _, [], _, _, h, _ => by simp [DataW.TrodAll] at h

/-- The last step of a law's row: the call returned true, and what lay below the heap's old size stands. -/
theorem post_law {H : Type} {enc : TypeId × Value → H} {P : Program} {f : Func} {s : ChangeSpec} {W W' : World} {args : Array Value} {ds gs : List (DataW H)} {before : List MemPlace} {tb : TypeId}
    (hl : laidOutB P = true) (hr : (f.params.toList.all fun t => P.readableRec t && decide (t < P.types.size)) = true) (hres : f.resultTypes = #[tb]) (htb : P.underlying tb = some .bool) (hvars : s.vars = [])
    (hs : s.fn H ds = { results := [.lit (.bool true)], args := ds })
    (hW : DataW.Whole enc P f.params.toList s.vars false W args.toList ds gs before) (hb : Below W.heap.size W W') : s.post enc P f false true false false W args (.bool true) W' := by
  have hr : ∀ t ∈ f.params.toList, P.readableRec t = true ∧ t < P.types.size := fun t ht => by
    have := List.all_eq_true.1 hr t ht
    simpa using this
  have hlt : ∀ p ∈ before, p.block < W.heap.size := fun p hp => hW.lt p hp
  obtain ⟨p, q, hA, hV, rfl, hz, hn⟩ := hW
  have hV' := hV
  rw [hvars] at hV
  obtain ⟨rfl, rfl⟩ := trodVars_none hV
  refine ⟨ds, [], p ++ [], [], p, [], ⟨p, [], hA, hV', rfl, hz, hn⟩, ?_, ?_, ?_, ?_, fun h => by cases h⟩
  · rw [List.append_nil, hs, hres]
    exact trodAll_mk1 ⟨1, by simp [DataW.trod, htb, Value.cells]⟩
  · rw [List.append_nil, hs]
    exact trodAll_below hl hb hr hA (fun x hx => hlt x (by simp [hx]))
  · rw [List.append_nil, hs, hvars]
    rfl
  · exact World.keptBut_mono (fun x hx => ⟨hx, Or.inr (Or.inl (by simpa using hx))⟩) (hb.frame (· ∈ p ++ []))

def btw (n lo hi : Int) : Bool := decide (lo ≤ n) && decide (n ≤ hi)
theorem btw_true {n lo hi : Int} (h1 : lo ≤ n) (h2 : n ≤ hi) : btw n lo hi = true := by simp [btw, h1, h2]
theorem btw_false {n lo hi : Int} (h : n < lo ∨ hi < n) : btw n lo hi = false := by simp [btw]; omega
theorem btw_iff {n lo hi : Int} : btw n lo hi = true ↔ lo ≤ n ∧ n ≤ hi := by simp [btw]
theorem btw_not {n lo hi : Int} : btw n lo hi = false ↔ n < lo ∨ hi < n := by simp [btw]; omega

theorem bcell {W w1 : World} (hb : Below W.heap.size W w1) : (∀ b o, b < W.heap.size → w1.cell? ⟨b, o, none⟩ = W.cell? ⟨b, o, none⟩) ∧ (∀ b o, b < W.heap.size → w1.frozen? ⟨b, o, none⟩ = W.frozen? ⟨b, o, none⟩) :=
  ⟨fun b o h => hb.cell (p := ⟨b, o, none⟩) h, fun b o h => hb.frozen (p := ⟨b, o, none⟩) h⟩

theorem bl_tr {a b c : World} (h : Below a.heap.size a b) (k : Below b.heap.size b c) : Below a.heap.size a c := h.trans (k.mono h.size)
theorem bl_al {a b : World} (h : Below a.heap.size a b) (o : Obj) : Below a.heap.size a (b.alloc o) := h.alloc h.size o

/-- The world w with new blocks E behind its own, and its count of draws at d. -/
def ext (w : World) (E : Array Obj) (d : Nat) : World := { w with heap := w.heap ++ E, drawn := d }
section
variable (w : World) (E : Array Obj) (d : Nat)
@[simp, go_sem] theorem size_ext : (ext w E d).heap.size = w.heap.size + E.size := by simp [ext]
@[go_sem] theorem lt_more1 {n m : Nat} (a1 : Nat) (h : n < m) : (n < m + a1) = True := by simp only [eq_iff_iff, iff_true]; omega
@[go_sem] theorem lt_more2 {n m : Nat} (a1 a2 : Nat) (h : n < m) : (n < m + a1 + a2) = True := by simp only [eq_iff_iff, iff_true]; omega
@[go_sem] theorem lt_more3 {n m : Nat} (a1 a2 a3 : Nat) (h : n < m) : (n < m + a1 + a2 + a3) = True := by simp only [eq_iff_iff, iff_true]; omega
@[go_sem] theorem lt_more4 {n m : Nat} (a1 a2 a3 a4 : Nat) (h : n < m) : (n < m + a1 + a2 + a3 + a4) = True := by simp only [eq_iff_iff, iff_true]; omega
@[go_sem] theorem lt_more5 {n m : Nat} (a1 a2 a3 a4 a5 : Nat) (h : n < m) : (n < m + a1 + a2 + a3 + a4 + a5) = True := by simp only [eq_iff_iff, iff_true]; omega
@[go_sem] theorem lt_more6 {n m : Nat} (a1 a2 a3 a4 a5 a6 : Nat) (h : n < m) : (n < m + a1 + a2 + a3 + a4 + a5 + a6) = True := by simp only [eq_iff_iff, iff_true]; omega
@[go_sem] theorem lt_more7 {n m : Nat} (a1 a2 a3 a4 a5 a6 a7 : Nat) (h : n < m) : (n < m + a1 + a2 + a3 + a4 + a5 + a6 + a7) = True := by simp only [eq_iff_iff, iff_true]; omega
@[go_sem] theorem lt_more8 {n m : Nat} (a1 a2 a3 a4 a5 a6 a7 a8 : Nat) (h : n < m) : (n < m + a1 + a2 + a3 + a4 + a5 + a6 + a7 + a8) = True := by simp only [eq_iff_iff, iff_true]; omega
@[go_sem] theorem lt_more9 {n m : Nat} (a1 a2 a3 a4 a5 a6 a7 a8 a9 : Nat) (h : n < m) : (n < m + a1 + a2 + a3 + a4 + a5 + a6 + a7 + a8 + a9) = True := by simp only [eq_iff_iff, iff_true]; omega
@[go_sem] theorem lt_more10 {n m : Nat} (a1 a2 a3 a4 a5 a6 a7 a8 a9 a10 : Nat) (h : n < m) : (n < m + a1 + a2 + a3 + a4 + a5 + a6 + a7 + a8 + a9 + a10) = True := by simp only [eq_iff_iff, iff_true]; omega
@[go_sem] theorem lt_more11 {n m : Nat} (a1 a2 a3 a4 a5 a6 a7 a8 a9 a10 a11 : Nat) (h : n < m) : (n < m + a1 + a2 + a3 + a4 + a5 + a6 + a7 + a8 + a9 + a10 + a11) = True := by simp only [eq_iff_iff, iff_true]; omega
@[go_sem] theorem lt_more12 {n m : Nat} (a1 a2 a3 a4 a5 a6 a7 a8 a9 a10 a11 a12 : Nat) (h : n < m) : (n < m + a1 + a2 + a3 + a4 + a5 + a6 + a7 + a8 + a9 + a10 + a11 + a12) = True := by simp only [eq_iff_iff, iff_true]; omega
theorem heap_ext_past {n : Nat} (hn : n < w.heap.size) : (ext w E d).heap[n]? = w.heap[n]? := by
  show (w.heap ++ E)[n]? = _
  rw [Array.getElem?_append_left hn]
@[go_sem] theorem cell?_ext_past (n i : Nat) (hn : n < w.heap.size) : (ext w E d).cell? ⟨n, i, none⟩ = w.cell? ⟨n, i, none⟩ := by
  unfold World.cell?
  rw [heap_ext_past w E d hn]
@[go_sem] theorem frozen?_ext_past (n i : Nat) (hn : n < w.heap.size) : (ext w E d).frozen? ⟨n, i, none⟩ = w.frozen? ⟨n, i, none⟩ := by
  unfold World.frozen?
  rw [heap_ext_past w E d hn]
@[go_sem] theorem setCell_ext_past (n i : Nat) (v : Value) (hn : n < w.heap.size) : (ext w E d).setCell ⟨n, i, none⟩ v = ext (w.setCell ⟨n, i, none⟩ v) E d := by
  unfold World.setCell ext
  simp only
  congr 1
  apply Array.ext_getElem?
  intro k
  simp only [Array.getElem?_modify, Array.getElem?_append, Array.size_modify]
  by_cases hk : n = k
  · subst hk
    simp [hn]
  · simp [hk]
@[go_sem] theorem drew_ext : (ext w E d).drew = ext w E (d + 1) := rfl
@[go_sem] theorem ext_drew : ext w.drew E d = ext w E d := rfl
@[go_sem] theorem ext_drewN (n : Nat) : ext (w.drewN n) E d = ext w E d := rfl
@[go_sem] theorem drewN_ext (n : Nat) : (ext w E d).drewN n = ext w E (d + n) := rfl
theorem ext_ext (E' : Array Obj) (d' : Nat) : ext (ext w E d) E' d' = ext w (E ++ E') d' := by simp [ext]
theorem ext_alloc (o : Obj) : (ext w E d).alloc o = ext w (E.push o) d := by simp [ext, World.alloc]
theorem ext_nil : w = ext w #[] w.drawn := by simp [ext]
theorem bl_ext {a b : World} (h : Below a.heap.size a b) (E : Array Obj) (d : Nat) : Below a.heap.size a (ext b E d) :=
  h.trans ⟨rfl, rfl, rfl, by simp, fun k hk => heap_ext_past b E d (by have := h.size; omega)⟩
theorem ext_of_below {w w1 : World} (h : Below w.heap.size w w1) : ∃ E d, w1 = ext w E d := by
  refine ⟨w1.heap.extract w.heap.size, w1.drawn, ?_⟩
  have hh : w1.heap = w.heap ++ w1.heap.extract w.heap.size := by
    have hs := h.size
    apply Array.ext_getElem?
    intro k
    rw [Array.getElem?_append]
    split
    · exact h.block k (by assumption)
    · rw [Array.getElem?_extract]
      split
      · congr 1; omega
      · exact Array.getElem?_eq_none (by omega)
  have h1 := h.os
  have h2 := h.tape
  have h3 := h.output
  cases w1
  simp only [ext] at *
  subst h1 h2 h3
  simp [← hh]
end

/-- The call returned v; what lay below the heap's old size stands. -/
def RV (v : Value) (w : World) (e : Ending) (w' : World) : Prop := e = .returned v ∧ ∃ E d, w' = ext w E d
theorem RV.mk {v : Value} {w w' : World} {e : Ending} (h1 : e = .returned v) (h2 : Below w.heap.size w w') : RV v w e w' := ⟨h1, ext_of_below h2⟩
theorem RV.below {v : Value} {w w' : World} {e : Ending} (h : RV v w e w') : e = .returned v ∧ Below w.heap.size w w' := by
  obtain ⟨h1, E, d, rfl⟩ := h
  exact ⟨h1, bl_ext (Below.refl _ _) _ _⟩
/-- What is left of a room of n after k. -/
def szT (n : Int) (k : Nat) : Int := if n < k then -1 else n - k
theorem szT_lt {n : Int} {k : Nat} (h : n < k) : szT n k = -1 := by simp [szT, h]
theorem szT_ge {n : Int} {k : Nat} (h : (k : Int) ≤ n) : szT n k = n - k := by unfold szT; rw [if_neg (by omega)]
theorem szT_le {n : Int} (k : Nat) (h : -1 ≤ n) : szT n k ≤ n ∧ -1 ≤ szT n k := by unfold szT; split <;> omega
theorem szT_pos {n : Int} {k : Nat} (h : 0 ≤ szT n k) : (k : Int) ≤ n ∧ szT n k = n - k := by unfold szT at *; split at h <;> (try split) <;> omega
theorem bl_al0 (w : World) (o : Obj) : Below w.heap.size w (w.alloc o) := bl_al (Below.refl _ _) o

theorem laidOut : laidOutB Tryz.prog = true := by kernel_rfl
theorem ownk : ownKnob Tryz.prog.godebug = none := by kernel_rfl
end Go.Proofs.YtoigkpkafgjeaaaGreatDoor
namespace Go.Proofs.YtoigkpkafgjeaaaGreatDoor
open Go.ChangeShapes Go.WideShapes Go.ChangeAt Go.RowKit Go.Joins Go.Deep
/-- the cells of a block -/
def blkOf (W : World) (b : Nat) : Array Value := match W.heap[b]? with | some (.cells cs _ _) => cs | _ => #[]
/-- the same, where nothing more is to be said of it -/
def blkNo (W : World) (b : Nat) : Array Value := blkOf W b
theorem blkOf_ext' {w : World} {b : Nat} (E : Array Obj) (d : Nat) (h : b < w.heap.size) : blkOf (ext w E d) b = blkOf w b := by
  unfold blkOf
  rw [heap_ext_past w E d h]
@[go_sem] theorem blkOf_ext {w : World} {b : Nat} (E : Array Obj) (d : Nat) : blkOf (ext w E d) b = if b < w.heap.size then blkOf w b else blkNo (ext w E d) b := by
  split
  · rename_i h; exact blkOf_ext' E d h
  · rfl
theorem blkOf_new (w : World) (cs : Array Value) (T : TypeId) (fr : Nat × Nat) : blkOf (w.alloc (.cells cs T fr)) w.heap.size = cs := by
  unfold blkOf
  have : (w.alloc (.cells cs T fr)).heap[w.heap.size]? = some (.cells cs T fr) := by
    show (w.heap.push _)[w.heap.size]? = _
    simp
  rw [this]
@[go_sem] theorem blkOf_past {w : World} {b : Nat} (o : Obj) : blkOf (w.alloc o) b = if b < w.heap.size then blkOf w b else blkNo (w.alloc o) b := by
  split
  · rename_i h
    unfold blkOf
    rw [Below.heap_alloc w o b h]
  · rfl
@[go_sem high] theorem blkOf_at {w : World} {b : Nat} (cs : Array Value) (T : TypeId) (fr : Nat × Nat) : blkOf (w.alloc (.cells cs T fr)) b = if b < w.heap.size then blkOf w b else if b = w.heap.size then cs else blkNo (w.alloc (.cells cs T fr)) b := by
  split
  · rename_i h; rw [blkOf_past, if_pos h]
  · split
    · rename_i h; subst h; exact blkOf_new _ _ _ _
    · rfl
@[go_sem] theorem blkOf_drew (w : World) (b : Nat) : blkOf w.drew b = blkOf w b := rfl
@[go_sem] theorem blkOf_drewN (w : World) (b n : Nat) : blkOf (w.drewN n) b = blkOf w b := rfl
@[go_sem high] theorem loadCells_blk {P : Program} (W : World) (b n : Nat) (h : (blkOf W b).size = n) : (loadCells ⟨b, 0, none⟩ n).run P W = .ok (blkOf W b) W := by
  subst h
  unfold blkOf
  cases hb : W.heap[b]? with
  | none => simp [loadCells, loadCellsFrom]
  | some o =>
    cases o with
    | cells cs t fr =>
      have hl : (loadCells ⟨b, 0, none⟩ cs.toList.length).run P W = .ok cs.toList.toArray W :=
        run_loadCells_list (P := P) W ⟨b, 0, none⟩ cs.toList (fun j v hv => by
          have hadd : (⟨b, 0, none⟩ : Addr).add j = ⟨b, j, none⟩ := by unfold Addr.add; split <;> simp_all
          rw [hadd, cell_of_row W b j cs t fr hb]
          simpa using hv)
      simpa using hl
    | _ => simp [loadCells, loadCellsFrom]
section
variable {P : Program} (w : World) (a : Addr) (n : Nat)
@[go_sem low] theorem loadCells_any (_ : (w.cell? a).isSome = true) : (loadCells a n).run P w = (loadCellsFrom a 0 n #[]).run P w := rfl
@[go_sem low] theorem loadCells_ext (E : Array Obj) (d : Nat) : (loadCells a n).run P (ext w E d) = (loadCellsFrom a 0 n #[]).run P (ext w E d) := rfl
@[go_sem low] theorem loadCells_alloc (o : Obj) : (loadCells a n).run P (w.alloc o) = (loadCellsFrom a 0 n #[]).run P (w.alloc o) := rfl
@[go_sem low] theorem loadCells_drew : (loadCells a n).run P w.drew = (loadCellsFrom a 0 n #[]).run P w.drew := rfl
@[go_sem low] theorem loadCells_drewN (k : Nat) : (loadCells a n).run P (w.drewN k) = (loadCellsFrom a 0 n #[]).run P (w.drewN k) := rfl
@[go_sem low] theorem loadCells_set (p : Addr) (v : Value) : (loadCells a n).run P (w.setCell p v) = (loadCellsFrom a 0 n #[]).run P (w.setCell p v) := rfl
end
/-- a block of n cells that may be written -/
def blkFree (W : World) (b n : Nat) : Bool := match W.heap[b]? with | some (.cells cs _ fr) => cs.size == n && fr == (0, 0) | _ => false
def blkFreeNo (W : World) (b n : Nat) : Bool := blkFree W b n
@[go_sem] theorem blkFree_ext {w : World} {b : Nat} (n : Nat) (E : Array Obj) (d : Nat) : blkFree (ext w E d) b n = if b < w.heap.size then blkFree w b n else blkFreeNo (ext w E d) b n := by
  split
  · rename_i h
    unfold blkFree
    rw [heap_ext_past w E d h]
  · rfl
theorem blkFree_new (w : World) (cs : Array Value) (T : TypeId) (n : Nat) : blkFree (w.alloc (.cells cs T)) w.heap.size n = (cs.size == n) := by
  unfold blkFree
  have : (w.alloc (.cells cs T)).heap[w.heap.size]? = some (.cells cs T) := by
    show (w.heap.push _)[w.heap.size]? = _
    simp
  rw [this]
  simp
@[go_sem] theorem blkFree_past {w : World} {b : Nat} (n : Nat) (o : Obj) : blkFree (w.alloc o) b n = if b < w.heap.size then blkFree w b n else blkFreeNo (w.alloc o) b n := by
  split
  · rename_i h
    unfold blkFree
    rw [Below.heap_alloc w o b h]
  · rfl
@[go_sem high] theorem blkFree_at {w : World} {b : Nat} (cs : Array Value) (T : TypeId) (n : Nat) : blkFree (w.alloc (.cells cs T)) b n = if b < w.heap.size then blkFree w b n else if b = w.heap.size then (cs.size == n) else blkFreeNo (w.alloc (.cells cs T)) b n := by
  split
  · rename_i h; rw [blkFree_past, if_pos h]
  · split
    · rename_i h; subst h; exact blkFree_new _ _ _ _
    · rfl
@[go_sem] theorem blkFree_drew (w : World) (b n : Nat) : blkFree w.drew b n = blkFree w b n := rfl
@[go_sem] theorem blkFree_drewN (w : World) (b n k : Nat) : blkFree (w.drewN k) b n = blkFree w b n := rfl
/-- the block's cells turned -/
def setBlk (W : World) (b : Nat) (cs : Array Value) : World := { W with heap := W.heap.modify b (fun o => match o with | .cells _ T fr => .cells cs T fr | o => o) }
theorem setBlk_ext' {w : World} {b : Nat} (cs : Array Value) (E : Array Obj) (d : Nat) (h : b < w.heap.size) : setBlk (ext w E d) b cs = ext (setBlk w b cs) E d := by
  unfold setBlk ext
  simp only
  congr 1
  apply Array.ext_getElem?
  intro k
  simp only [Array.getElem?_modify, Array.getElem?_append, Array.size_modify]
  by_cases hk : b = k
  · subst hk
    simp [h]
  · simp [hk]
theorem setBlk_new (w : World) (old cs : Array Value) (T : TypeId) : setBlk (w.alloc (.cells old T)) w.heap.size cs = w.alloc (.cells cs T) := by
  unfold setBlk World.alloc
  simp only
  congr 1
  apply Array.ext_getElem?
  intro k
  simp only [Array.getElem?_modify, Array.getElem?_push]
  by_cases hk : w.heap.size = k
  · subst hk
    simp
  · have hk' : ¬ k = w.heap.size := fun e => hk e.symm
    simp [hk, hk']
theorem setBlk_past' {w : World} {b : Nat} (cs : Array Value) (o : Obj) (h : b < w.heap.size) : setBlk (w.alloc o) b cs = (setBlk w b cs).alloc o := by
  unfold setBlk World.alloc
  simp only
  congr 1
  apply Array.ext_getElem?
  intro k
  simp only [Array.getElem?_modify, Array.getElem?_push, Array.size_modify]
  by_cases hk : b = k
  · subst hk
    have : ¬ b = w.heap.size := by omega
    simp [this]
  · simp [hk]
def setBlkNo (W : World) (b : Nat) (cs : Array Value) : World := setBlk W b cs
@[go_sem] theorem setBlk_ext (w : World) (b : Nat) (cs : Array Value) (E : Array Obj) (d : Nat) : setBlk (ext w E d) b cs = if b < w.heap.size then ext (setBlk w b cs) E d else setBlkNo (ext w E d) b cs := by
  split
  · rename_i h; exact setBlk_ext' cs E d h
  · rfl
@[go_sem] theorem setBlk_past (w : World) (b : Nat) (cs : Array Value) (o : Obj) : setBlk (w.alloc o) b cs = if b < w.heap.size then (setBlk w b cs).alloc o else setBlkNo (w.alloc o) b cs := by
  split
  · rename_i h; exact setBlk_past' cs o h
  · rfl
@[go_sem high] theorem setBlk_at (w : World) (b : Nat) (old cs : Array Value) (T : TypeId) : setBlk (w.alloc (.cells old T)) b cs = if b < w.heap.size then (setBlk w b cs).alloc (.cells old T) else if b = w.heap.size then w.alloc (.cells cs T) else setBlkNo (w.alloc (.cells old T)) b cs := by
  split
  · rename_i h; rw [setBlk_past, if_pos h]
  · split
    · rename_i h; subst h; exact setBlk_new _ _ _ _
    · rfl
@[simp, go_sem] theorem size_setBlk (w : World) (b : Nat) (cs : Array Value) : (setBlk w b cs).heap.size = w.heap.size := by simp [setBlk]
@[go_sem] theorem setBlk_drew (w : World) (b : Nat) (cs : Array Value) : setBlk w.drew b cs = (setBlk w b cs).drew := rfl
theorem storeCells_run {P : Program} (g : Nat) (t : TypeId) : ∀ (vs : List Value) (i : Nat) (cur : Array Value) (W : World), W.heap[g]? = some (.cells cur t (0, 0)) → i + vs.length = cur.size → vs.all (fun v => v.oneCell') = true →
    (storeCells ⟨g, 0, none⟩ vs i).run P W = .ok () (setBlk W g (cur.toList.take i ++ vs).toArray)
  | [], i, cur, W, hg, hl, _ => by
    have h1 : cur.toList.take i = cur.toList := List.take_of_length_le (by simp at hl ⊢; omega)
    have h2 : setBlk W g cur = W := by
      unfold setBlk
      congr 1
      apply Array.ext_getElem?
      intro k
      rw [Array.getElem?_modify]
      by_cases hk : g = k
      · subst hk
        rw [if_pos rfl, hg]
        rfl
      · rw [if_neg hk]
    simp only [storeCells, List.append_nil, h1, Array.toArray_toList, h2]
    rfl
  | v :: vs, i, cur, W, hg, hl, ho => by
    rw [List.all_cons, Bool.and_eq_true] at ho
    have hadd : (⟨g, 0, none⟩ : Addr).add i = ⟨g, i, none⟩ := by unfold Addr.add; split <;> simp_all
    have hi : i < cur.size := by simp at hl; omega
    have hc : W.cell? ⟨g, i, none⟩ = some cur[i] := by simp [World.cell?, hg, hi]
    have hf : W.frozen? ⟨g, i, none⟩ = false := by simp [World.frozen?, hg]
    have hset : W.setCell ⟨g, i, none⟩ v = setBlk W g (cur.setIfInBounds i v) := by
      unfold World.setCell setBlk
      simp only
      congr 1
      apply Array.ext_getElem?
      intro k
      simp only [Array.getElem?_modify]
      by_cases hk : g = k
      · subst hk
        rw [if_pos rfl, if_pos rfl, hg]
        rfl
      · rw [if_neg hk, if_neg hk]
    have hg' : (setBlk W g (cur.setIfInBounds i v)).heap[g]? = some (.cells (cur.setIfInBounds i v) t (0, 0)) := by
      unfold setBlk
      simp only [Array.getElem?_modify, if_pos, hg]
      rfl
    have ih := storeCells_run (P := P) g t vs (i + 1) (cur.setIfInBounds i v) (setBlk W g (cur.setIfInBounds i v)) hg' (by simp at hl ⊢; omega) ho.2
    have e : ((cur.setIfInBounds i v).toList.take (i + 1) ++ vs) = cur.toList.take i ++ v :: vs := by
      rw [Array.toList_setIfInBounds, List.take_add_one, List.getElem?_set_self (by simpa using hi), List.take_set_of_le (Nat.le_refl _)]
      simp
    have e2 : ∀ cs cs' : Array Value, setBlk (setBlk W g cs) g cs' = setBlk W g cs' := fun cs cs' => by
      unfold setBlk
      simp only
      congr 1
      apply Array.ext_getElem?
      intro k
      simp only [Array.getElem?_modify]
      by_cases hk : g = k
      · subst hk
        simp only [if_true, hg]
        rfl
      · simp [hk]
    rw [e, e2] at ih
    have hst : (store (⟨g, i, none⟩ : Addr) v).run P W = .ok () (setBlk W g (cur.setIfInBounds i v)) := by
      rw [← hset, run_store P W _ v .plain ho.1, hc, hf]
      rfl
    simp only [storeCells, Sem.run_bind, hadd, hst, Result.andThen_ok]
    exact ih
@[go_sem high] theorem storeCells_blk {P : Program} (W : World) (b : Nat) (vs : List Value) (ho : vs.all (fun v => v.oneCell') = true) (h : blkFree W b vs.length = true) : (storeCells ⟨b, 0, none⟩ vs 0).run P W = .ok () (setBlk W b vs.toArray) := by
  unfold blkFree at h
  split at h
  · rename_i cs T fr hb
    simp only [Bool.and_eq_true, beq_iff_eq] at h
    obtain ⟨h1, rfl⟩ := h
    have := storeCells_run (P := P) b T vs 0 cs W hb (by omega) ho
    simpa using this
  · cases h
section
variable {P : Program} (w : World) (a : Addr) (v : Value) (vs : List Value) (i : Nat)
@[go_sem low] theorem storeCells_any (_ : (w.cell? (a.add i)).isSome = true) : (storeCells a (v :: vs) i).run P w = ((do store (a.add i) v; storeCells a vs (i + 1) : Sem Unit)).run P w := rfl
@[go_sem low] theorem storeCells_ext (E : Array Obj) (d : Nat) : (storeCells a (v :: vs) i).run P (ext w E d) = ((do store (a.add i) v; storeCells a vs (i + 1) : Sem Unit)).run P (ext w E d) := rfl
@[go_sem low] theorem storeCells_alloc (o : Obj) : (storeCells a (v :: vs) i).run P (w.alloc o) = ((do store (a.add i) v; storeCells a vs (i + 1) : Sem Unit)).run P (w.alloc o) := rfl
@[go_sem low] theorem storeCells_drew : (storeCells a (v :: vs) i).run P w.drew = ((do store (a.add i) v; storeCells a vs (i + 1) : Sem Unit)).run P w.drew := rfl
@[go_sem low] theorem storeCells_drewN (k : Nat) : (storeCells a (v :: vs) i).run P (w.drewN k) = ((do store (a.add i) v; storeCells a vs (i + 1) : Sem Unit)).run P (w.drewN k) := rfl
@[go_sem low] theorem storeCells_set (p : Addr) (u : Value) : (storeCells a (v :: vs) i).run P (w.setCell p u) = ((do store (a.add i) v; storeCells a vs (i + 1) : Sem Unit)).run P (w.setCell p u) := rfl
end
@[go_sem] theorem storeCells_nil {P : Program} (W : World) (a : Addr) (i : Nat) : (storeCells a [] i).run P W = .ok () W := rfl
end Go.Proofs.YtoigkpkafgjeaaaGreatDoor
namespace Go.Proofs.YtoigkpkafgjeaaaGreatDoor
open Go.ChangeShapes Go.WideShapes Go.ChangeAt Go.RowKit Go.Joins Go.Deep

/-- 'rep w x cs F': the cells cs, in the world w, hold x; the memory behind them lies in the blocks F. -/
class GoRep (α : Type) where
  n : Nat
  pos : 0 < n
  rep : World → α → List Value → List Nat → Prop
  len : ∀ {w x cs F}, rep w x cs F → cs.length = n
  keep : ∀ {w w' x cs F}, rep w x cs F → (∀ b ∈ F, w'.heap[b]? = w.heap[b]?) → rep w' x cs F
  lt : ∀ {w x cs F}, rep w x cs F → ∀ b ∈ F, b < w.heap.size
  one : ∀ {w x cs F}, rep w x cs F → cs.all (fun v => v.oneCell') = true
  /-- how many letters and elements -/
  bulk : α → Nat
open GoRep (rep bulk)

def I64 (x : Int) : Prop := (Lit.int .i64 x).wf = true
theorem I64.lo {x : Int} (h : I64 x) : -9223372036854775808 ≤ x := (bounds_i64 h).1
theorem I64.hi {x : Int} (h : I64 x) : x ≤ 9223372036854775807 := (bounds_i64 h).2
theorem I64.mk {x : Int} (h1 : -9223372036854775808 ≤ x) (h2 : x ≤ 9223372036854775807) : I64 x := WalkArith.wf_i64 ⟨h1, h2⟩

instance : GoRep Int where
  n := 1
  pos := by omega
  rep _ x cs F := cs = [.int .i64 x] ∧ I64 x ∧ F = []
  len h := by rw [h.1]; rfl
  keep h _ := h
  lt h := by rw [h.2.2]; simp
  one h := by rw [h.1]; rfl
  bulk _ := 0
instance : GoRep Bool where
  n := 1
  pos := by omega
  rep _ x cs F := cs = [.bool x] ∧ F = []
  len h := by rw [h.1]; rfl
  keep h _ := h
  lt h := by rw [h.2]; simp
  one h := by rw [h.1]; rfl
  bulk _ := 0
instance : GoRep ByteArray where
  n := 1
  pos := by omega
  rep _ x cs F := cs = [.string x] ∧ x.size ≤ maxLen ∧ F = []
  len h := by rw [h.1]; rfl
  keep h _ := h
  lt h := by rw [h.2.2]; simp
  one h := by rw [h.1]; rfl
  bulk x := x.size

instance {α β : Type} [GoRep α] [GoRep β] : GoRep (α × β) where
  n := GoRep.n α + GoRep.n β
  pos := by have := GoRep.pos (α := α); omega
  rep w x cs F := ∃ c1 c2 F1 F2, rep w x.1 c1 F1 ∧ rep w x.2 c2 F2 ∧ cs = c1 ++ c2 ∧ F = F1 ++ F2
  len h := by
    obtain ⟨c1, c2, F1, F2, h1, h2, rfl, rfl⟩ := h
    rw [List.length_append, GoRep.len h1, GoRep.len h2]
  keep h hk := by
    obtain ⟨c1, c2, F1, F2, h1, h2, e1, e2⟩ := h
    subst e2
    exact ⟨c1, c2, F1, F2, GoRep.keep h1 (fun b hb => hk b (by simp [hb])), GoRep.keep h2 (fun b hb => hk b (by simp [hb])), e1, rfl⟩
  lt h b hb := by
    obtain ⟨c1, c2, F1, F2, h1, h2, e1, e2⟩ := h
    subst e2
    rcases List.mem_append.1 hb with hb | hb
    · exact GoRep.lt h1 b hb
    · exact GoRep.lt h2 b hb
  one h := by
    obtain ⟨c1, c2, F1, F2, h1, h2, e1, e2⟩ := h
    rw [e1, List.all_append, GoRep.one h1, GoRep.one h2]
    rfl
  bulk x := bulk x.1 + bulk x.2

theorem cell?_of_heap {w w' : World} {b : Nat} (h : w'.heap[b]? = w.heap[b]?) (o : Nat) : w'.cell? ⟨b, o, none⟩ = w.cell? ⟨b, o, none⟩ := by unfold World.cell?; rw [h]
theorem frozen?_of_heap {w w' : World} {b : Nat} (h : w'.heap[b]? = w.heap[b]?) (o : Nat) : w'.frozen? ⟨b, o, none⟩ = w.frozen? ⟨b, o, none⟩ := by unfold World.frozen?; rw [h]
theorem lt_of_cell {w : World} {b o : Nat} {u : Value} (h : w.cell? ⟨b, o, none⟩ = some u) : b < w.heap.size := by
  rcases Nat.lt_or_ge b w.heap.size with hlt | hge
  · exact hlt
  · unfold World.cell? at h
    rw [Array.getElem?_eq_none hge] at h
    simp at h

/-- the cells from b, off on hold cs, and may be written -/
def CellsAt (w : World) (b off : Nat) (cs : List Value) : Prop := ∀ j u, cs[j]? = some u → w.cell? ⟨b, off + j, none⟩ = some u ∧ w.frozen? ⟨b, off + j, none⟩ = false
theorem CellsAt.keep {w w' : World} {b off : Nat} {cs : List Value} (h : CellsAt w b off cs) (hb : w'.heap[b]? = w.heap[b]?) : CellsAt w' b off cs := fun j u hj => by
  rw [cell?_of_heap hb, frozen?_of_heap hb]
  exact h j u hj

/-- the elements of a slice from b, off on -/
def RowRep {α : Type} [GoRep α] (w : World) (b off : Nat) : List α → List Nat → Prop
  | [], G => G = []
  | x :: xs, G => ∃ cs G1 G2, rep w x cs G1 ∧ CellsAt w b off cs ∧ RowRep w b (off + GoRep.n α) xs G2 ∧ G = G1 ++ G2

section
variable {α : Type} [GoRep α]
theorem RowRep.keep {w w' : World} {b : Nat} {xs : List α} : ∀ {off : Nat} {G : List Nat}, RowRep w b off xs G → w'.heap[b]? = w.heap[b]? → (∀ g ∈ G, w'.heap[g]? = w.heap[g]?) → RowRep w' b off xs G := by
  induction xs with
  | nil => intro off G h _ _; exact h
  | cons x xs ih =>
    intro off G h hb hG
    obtain ⟨cs, G1, G2, h1, h2, h3, rfl⟩ := h
    exact ⟨cs, G1, G2, GoRep.keep h1 (fun g hg => hG g (by simp [hg])), h2.keep hb, ih h3 hb (fun g hg => hG g (by simp [hg])), rfl⟩
theorem RowRep.lt {w : World} {b : Nat} {xs : List α} : ∀ {off : Nat} {G : List Nat}, RowRep w b off xs G → ∀ g ∈ G, g < w.heap.size := by
  induction xs with
  | nil => intro off G h g hg; rw [show G = [] from h] at hg; simp at hg
  | cons x xs ih =>
    intro off G h g hg
    obtain ⟨cs, G1, G2, h1, h2, h3, rfl⟩ := h
    rcases List.mem_append.1 hg with hg | hg
    · exact GoRep.lt h1 g hg
    · exact ih h3 g hg
theorem RowRep.blk {w : World} {b off : Nat} {xs : List α} {G : List Nat} (h : RowRep w b off xs G) (hx : xs ≠ []) : b < w.heap.size := by
  cases xs with
  | nil => exact absurd rfl hx
  | cons x xs =>
    obtain ⟨cs, G1, G2, h1, h2, _, _⟩ := h
    have hl : 0 < cs.length := by rw [GoRep.len h1]; exact GoRep.pos
    have hc := h2 0 cs[0] (List.getElem?_eq_getElem hl)
    exact lt_of_cell hc.1
theorem RowRep.get {w : World} {b : Nat} {xs : List α} : ∀ {off : Nat} {G : List Nat} (k : Nat) (x : α), RowRep w b off xs G → xs[k]? = some x →
    ∃ cs Gk, rep w x cs Gk ∧ (∀ g ∈ Gk, g ∈ G) ∧ CellsAt w b (off + k * GoRep.n α) cs := by
  induction xs with
  | nil => intro off G k x _ h; simp at h
  | cons y xs ih =>
    intro off G k x h hk
    obtain ⟨cs, G1, G2, h1, h2, h3, rfl⟩ := h
    cases k with
    | zero =>
      simp at hk
      subst hk
      exact ⟨cs, G1, h1, fun g hg => by simp [hg], by simpa using h2⟩
    | succ k =>
      simp at hk
      obtain ⟨cs', Gk, a1, a2, a3⟩ := ih k x h3 hk
      refine ⟨cs', Gk, a1, fun g hg => by simp [a2 g hg], ?_⟩
      rw [show off + (k + 1) * GoRep.n α = off + GoRep.n α + k * GoRep.n α from by rw [Nat.add_mul]; omega]
      exact a3
end

/-- a slice value of xs -/
def SliceRep {α : Type} [GoRep α] (w : World) (xs : List α) (A : Option Addr) (c : Nat) (F : List Nat) : Prop :=
  xs.length ≤ c ∧ c ≤ maxLen ∧ ((xs = [] ∧ F = []) ∨ (xs ≠ [] ∧ ∃ b off G, A = some ⟨b, off, none⟩ ∧ F = b :: G ∧ RowRep w b off xs G))
def bulkL {α : Type} [GoRep α] : List α → Nat
  | [] => 0
  | x :: xs => bulk x + bulkL xs
theorem bulkL_append {α : Type} [GoRep α] (xs ys : List α) : bulkL (xs ++ ys) = bulkL xs + bulkL ys := by
  induction xs with
  | nil => simp [bulkL]
  | cons x xs ih => simp [bulkL, ih]; omega

instance {α : Type} [GoRep α] : GoRep (List α) where
  n := 1
  pos := by omega
  rep w xs cs F := ∃ A c, cs = [.slice A xs.length c] ∧ SliceRep w xs A c F
  len h := by obtain ⟨A, c, rfl, _⟩ := h; rfl
  keep h hk := by
    obtain ⟨A, c, e, h1, h2, h3⟩ := h
    refine ⟨A, c, e, h1, h2, ?_⟩
    rcases h3 with h3 | ⟨hx, b, off, G, rfl, rfl, hr⟩
    · exact Or.inl h3
    · exact Or.inr ⟨hx, b, off, G, rfl, rfl, hr.keep (hk b (by simp)) (fun g hg => hk g (by simp [hg]))⟩
  lt h b hb := by
    obtain ⟨A, c, e, h1, h2, h3⟩ := h
    rcases h3 with ⟨_, rfl⟩ | ⟨hx, b', off, G, rfl, rfl, hr⟩
    · simp at hb
    · rcases List.mem_cons.1 hb with rfl | hb
      · exact hr.blk hx
      · exact hr.lt b hb
  one h := by obtain ⟨A, c, rfl, _⟩ := h; rfl
  bulk xs := xs.length + bulkL xs

section
variable {α : Type} [GoRep α] {w : World} {x : α} {cs : List Value} {F : List Nat}
theorem rep_alloc (h : rep w x cs F) (o : Obj) : rep (w.alloc o) x cs F := GoRep.keep h (fun b hb => Below.heap_alloc w o b (GoRep.lt h b hb))
theorem rep_ext (h : rep w x cs F) (E : Array Obj) (d : Nat) : rep (ext w E d) x cs F := GoRep.keep h (fun b hb => heap_ext_past w E d (GoRep.lt h b hb))
theorem rep_drew (h : rep w x cs F) : rep w.drew x cs F := GoRep.keep h (fun _ _ => rfl)
theorem rep_below {w' : World} (h : rep w x cs F) (hb : Below w.heap.size w w') : rep w' x cs F := GoRep.keep h (fun b hm => hb.block b (GoRep.lt h b hm))
theorem rep_set (h : rep w x cs F) {p : Addr} (hp : p.block ∉ F) (u : Value) : rep (w.setCell p u) x cs F := GoRep.keep h (fun b hb => Below.heap_setCell w p u b (fun e => hp (e ▸ hb)))
theorem rep_int {y : Int} : rep w y cs F ↔ cs = [.int .i64 y] ∧ I64 y ∧ F = [] := Iff.rfl
theorem rep_bool {y : Bool} : rep w y cs F ↔ cs = [.bool y] ∧ F = [] := Iff.rfl
theorem rep_str {y : ByteArray} : rep w y cs F ↔ cs = [.string y] ∧ y.size ≤ maxLen ∧ F = [] := Iff.rfl
theorem rep_pair {β : Type} [GoRep β] {y : α × β} : rep w y cs F ↔ ∃ c1 c2 F1 F2, rep w y.1 c1 F1 ∧ rep w y.2 c2 F2 ∧ cs = c1 ++ c2 ∧ F = F1 ++ F2 := Iff.rfl
theorem rep_list {xs : List α} : rep w xs cs F ↔ ∃ A c, cs = [.slice A xs.length c] ∧ SliceRep w xs A c F := Iff.rfl
end

/-- The call returned x, in new memory that nobody else holds. -/
def RN {α : Type} [GoRep α] (mk : List Value → Value) (x : α) (w : World) (e : Ending) (w' : World) : Prop :=
  ∃ cs F E d, e = .returned (mk cs) ∧ w' = ext w E d ∧ rep w' x cs F ∧ F.Nodup ∧ ∀ b ∈ F, w.heap.size ≤ b
def mkA (cs : List Value) : Value := .agg cs.toArray
def mk1 (cs : List Value) : Value := cs.headD undef
end Go.Proofs.YtoigkpkafgjeaaaGreatDoor
