/-
  Plain helpers of all proofs of this seat: ends of walks, the last step of a law's row.
  No condition.
-/
import Derived.Test.YtkompmgleojmlaaDoorProg
import Derived.KernelRfl
import GoSem.Claim
import GoSem.ClaimJoined
import GoSem.ClaimMapViews
import Derived.JoinedTies
import Derived.WalkKit
import Derived.ProofKit
import Derived.OpenShut
import Derived.BigQuiet
import Derived.StillTailTactics
import Derived.RegionTactic
import Derived.Deep.RegionHeld3
import Derived.Deep.RegionWith
import Derived.ChangeAlike
import Derived.Deep.QuietTactic
import Derived.Lib.Hide
import Derived.WalkLawsBesides
import Derived.WalkSpells
import Derived.Lib.SmallJoins
import Derived.Deep.Slices
import Derived.Deep.Draws
import Derived.Laws.OwnMore
import Derived.ShutString
namespace Go.Proofs.YtkompmgleojmlaaDoor
open Go.ChangeShapes Go.WideShapes Go.ChangeAt Go.RowKit Go.Joins Go.Deep

theorem ret_str {a b : ByteArray} (h : a = b) : Ending.returned (.string a) = .returned (.string b) := by rw [h]
theorem ret_bool {a b : Bool} (h : a = b) : Ending.returned (.bool a) = .returned (.bool b) := by rw [h]
theorem ret_int {k : IntKind} {a b : Int} (h : a = b) : Ending.returned (.int k a) = .returned (.int k b) := by rw [h]

theorem trodAll_below {H : Type} {enc : TypeId × Value → H} {P : Program} (hl : laidOutB P = true) {W W' : World} (hb : Below W.heap.size W W') :
    ∀ {ts : List TypeId} {vs : List Value} {ds : List (DataW H)} {ps : List MemPlace},
      (∀ t ∈ ts, P.readableRec t = true ∧ t < P.types.size) → DataW.TrodAll enc P W 0 (fun _ => true) true ts vs ds ps → (∀ x ∈ ps, x.block < W.heap.size) →
      DataW.TrodAll enc P W' 0 (fun b => decide (b < W.heap.size)) true ts vs ds ps
  | [], [], [], _, _, h, _ => h
  | t :: ts, v :: vs, d :: ds, ps, hr, ⟨p, q, h1, h2, e⟩, hlt => by
    subst e
    have ht := hr t (by simp)
    exact ⟨p, q, Below.trod hl ht.1 ht.2 h1 hb (fun x hx => hlt x (by simp [hx])), trodAll_below hl hb (fun t' ht' => hr t' (by simp [ht'])) h2 (fun x hx => hlt x (by simp [hx])), rfl⟩
  | [], _ :: _, _, _, _, h, _ => by simp [DataW.TrodAll] at h
  | [], [], _ :: _, _, _, h, _ => by simp [DataW.TrodAll] at h
  | _ :: _, [], _, _, _, h, _ => by simp [DataW.TrodAll] at h
  | _ :: _, _ :: _, [], _, _, h, _ => by simp [DataW.TrodAll] at h

/-- The last step of a law's row: the call returned true, and what lay below the heap's old size stands. -/
theorem post_law {H : Type} {enc : TypeId × Value → H} {P : Program} {f : Func} {s : ChangeSpec} {W W' : World} {args : Array Value} {ds gs : List (DataW H)} {before : List MemPlace} {tb : TypeId}
    (hl : laidOutB P = true) (hr : (f.params.toList.all fun t => P.readableRec t && decide (t < P.types.size)) = true) (hres : f.resultTypes = #[tb]) (htb : P.underlying tb = some .bool) (hvars : s.vars = [])
    (hs : s.fn H ds = { results := [.lit (.bool true)], args := ds })
    (hW : DataW.Whole enc P f.params.toList s.vars false W args.toList ds gs before) (hb : Below W.heap.size W W') : s.post enc P f false true false false W args (.bool true) W' := by
  have hr : ∀ t ∈ f.params.toList, P.readableRec t = true ∧ t < P.types.size := fun t ht => by
    have := List.all_eq_true.1 hr t ht
    simpa using this
  have hlt : ∀ p ∈ before, p.block < W.heap.size := fun p hp => hW.lt p hp
  obtain ⟨p, q, hA, hV, rfl, hz, hn⟩ := hW
  have hV' := hV
  rw [hvars] at hV
  obtain ⟨rfl, rfl⟩ := trodVars_none hV
  refine ⟨ds, [], p ++ [], [], p, [], ⟨p, [], hA, hV', rfl, hz, hn⟩, ?_, ?_, ?_, ?_, fun h => by cases h⟩
  · rw [List.append_nil, hs, hres]
    exact trodAll_mk1 ⟨1, by simp [DataW.trod, htb, Value.cells]⟩
  · rw [List.append_nil, hs]
    exact trodAll_below hl hb hr hA (fun x hx => hlt x (by simp [hx]))
  · rw [List.append_nil, hs, hvars]
    rfl
  · exact World.keptBut_mono (fun x hx => ⟨hx, Or.inr (Or.inl (by simpa using hx))⟩) (hb.frame (· ∈ p ++ []))

def btw (n lo hi : Int) : Bool := decide (lo ≤ n) && decide (n ≤ hi)
theorem btw_true {n lo hi : Int} (h1 : lo ≤ n) (h2 : n ≤ hi) : btw n lo hi = true := by simp [btw, h1, h2]
theorem btw_false {n lo hi : Int} (h : n < lo ∨ hi < n) : btw n lo hi = false := by simp [btw]; omega
theorem btw_iff {n lo hi : Int} : btw n lo hi = true ↔ lo ≤ n ∧ n ≤ hi := by simp [btw]
theorem btw_not {n lo hi : Int} : btw n lo hi = false ↔ n < lo ∨ hi < n := by simp [btw]; omega

theorem bcell {W w1 : World} (hb : Below W.heap.size W w1) : (∀ b o, b < W.heap.size → w1.cell? ⟨b, o, none⟩ = W.cell? ⟨b, o, none⟩) ∧ (∀ b o, b < W.heap.size → w1.frozen? ⟨b, o, none⟩ = W.frozen? ⟨b, o, none⟩) :=
  ⟨fun b o h => hb.cell (p := ⟨b, o, none⟩) h, fun b o h => hb.frozen (p := ⟨b, o, none⟩) h⟩

theorem bl_tr {a b c : World} (h : Below a.heap.size a b) (k : Below b.heap.size b c) : Below a.heap.size a c := h.trans (k.mono h.size)
theorem bl_al {a b : World} (h : Below a.heap.size a b) (o : Obj) : Below a.heap.size a (b.alloc o) := h.alloc h.size o

/-- The world w with new blocks E behind its own, and its count of draws at d. -/
def ext (w : World) (E : Array Obj) (d : Nat) : World := { w with heap := w.heap ++ E, drawn := d }
section
variable (w : World) (E : Array Obj) (d : Nat)
@[simp, go_sem] theorem size_ext : (ext w E d).heap.size = w.heap.size + E.size := by simp [ext]
@[go_sem] theorem lt_more1 {n m : Nat} (a1 : Nat) (h : n < m) : (n < m + a1) = True := by simp only [eq_iff_iff, iff_true]; omega
@[go_sem] theorem lt_more2 {n m : Nat} (a1 a2 : Nat) (h : n < m) : (n < m + a1 + a2) = True := by simp only [eq_iff_iff, iff_true]; omega
@[go_sem] theorem lt_more3 {n m : Nat} (a1 a2 a3 : Nat) (h : n < m) : (n < m + a1 + a2 + a3) = True := by simp only [eq_iff_iff, iff_true]; omega
@[go_sem] theorem lt_more4 {n m : Nat} (a1 a2 a3 a4 : Nat) (h : n < m) : (n < m + a1 + a2 + a3 + a4) = True := by simp only [eq_iff_iff, iff_true]; omega
@[go_sem] theorem lt_more5 {n m : Nat} (a1 a2 a3 a4 a5 : Nat) (h : n < m) : (n < m + a1 + a2 + a3 + a4 + a5) = True := by simp only [eq_iff_iff, iff_true]; omega
@[go_sem] theorem lt_more6 {n m : Nat} (a1 a2 a3 a4 a5 a6 : Nat) (h : n < m) : (n < m + a1 + a2 + a3 + a4 + a5 + a6) = True := by simp only [eq_iff_iff, iff_true]; omega
@[go_sem] theorem lt_more7 {n m : Nat} (a1 a2 a3 a4 a5 a6 a7 : Nat) (h : n < m) : (n < m + a1 + a2 + a3 + a4 + a5 + a6 + a7) = True := by simp only [eq_iff_iff, iff_true]; omega
@[go_sem] theorem lt_more8 {n m : Nat} (a1 a2 a3 a4 a5 a6 a7 a8 : Nat) (h : n < m) : (n < m + a1 + a2 + a3 + a4 + a5 + a6 + a7 + a8) = True := by simp only [eq_iff_iff, iff_true]; omega
@[go_sem] theorem lt_more9 {n m : Nat} (a1 a2 a3 a4 a5 a6 a7 a8 a9 : Nat) (h : n < m) : (n < m + a1 + a2 + a3 + a4 + a5 + a6 + a7 + a8 + a9) = True := by simp only [eq_iff_iff, iff_true]; omega
@[go_sem] theorem lt_more10 {n m : Nat} (a1 a2 a3 a4 a5 a6 a7 a8 a9 a10 : Nat) (h : n < m) : (n < m + a1 + a2 + a3 + a4 + a5 + a6 + a7 + a8 + a9 + a10) = True := by simp only [eq_iff_iff, iff_true]; omega
@[go_sem] theorem lt_more11 {n m : Nat} (a1 a2 a3 a4 a5 a6 a7 a8 a9 a10 a11 : Nat) (h : n < m) : (n < m + a1 + a2 + a3 + a4 + a5 + a6 + a7 + a8 + a9 + a10 + a11) = True := by simp only [eq_iff_iff, iff_true]; omega
@[go_sem] theorem lt_more12 {n m : Nat} (a1 a2 a3 a4 a5 a6 a7 a8 a9 a10 a11 a12 : Nat) (h : n < m) : (n < m + a1 + a2 + a3 + a4 + a5 + a6 + a7 + a8 + a9 + a10 + a11 + a12) = True := by simp only [eq_iff_iff, iff_true]; omega
theorem heap_ext_past {n : Nat} (hn : n < w.heap.size) : (ext w E d).heap[n]? = w.heap[n]? := by
  show (w.heap ++ E)[n]? = _
  rw [Array.getElem?_append_left hn]
@[go_sem] theorem cell?_ext_past (n i : Nat) (hn : n < w.heap.size) : (ext w E d).cell? ⟨n, i, none⟩ = w.cell? ⟨n, i, none⟩ := by
  unfold World.cell?
  rw [heap_ext_past w E d hn]
@[go_sem] theorem frozen?_ext_past (n i : Nat) (hn : n < w.heap.size) : (ext w E d).frozen? ⟨n, i, none⟩ = w.frozen? ⟨n, i, none⟩ := by
  unfold World.frozen?
  rw [heap_ext_past w E d hn]
@[go_sem] theorem setCell_ext_past (n i : Nat) (v : Value) (hn : n < w.heap.size) : (ext w E d).setCell ⟨n, i, none⟩ v = ext (w.setCell ⟨n, i, none⟩ v) E d := by
  unfold World.setCell ext
  simp only
  congr 1
  apply Array.ext_getElem?
  intro k
  simp only [Array.getElem?_modify, Array.getElem?_append, Array.size_modify]
  by_cases hk : n = k
  · subst hk
    simp [hn]
  · simp [hk]
@[go_sem] theorem drew_ext : (ext w E d).drew = ext w E (d + 1) := rfl
@[go_sem] theorem ext_drew : ext w.drew E d = ext w E d := rfl
@[go_sem] theorem ext_drewN (n : Nat) : ext (w.drewN n) E d = ext w E d := rfl
@[go_sem] theorem drewN_ext (n : Nat) : (ext w E d).drewN n = ext w E (d + n) := rfl
theorem ext_ext (E' : Array Obj) (d' : Nat) : ext (ext w E d) E' d' = ext w (E ++ E') d' := by simp [ext]
theorem ext_alloc (o : Obj) : (ext w E d).alloc o = ext w (E.push o) d := by simp [ext, World.alloc]
theorem ext_nil : w = ext w #[] w.drawn := by simp [ext]
theorem bl_ext {a b : World} (h : Below a.heap.size a b) (E : Array Obj) (d : Nat) : Below a.heap.size a (ext b E d) :=
  h.trans ⟨rfl, rfl, rfl, by simp, fun k hk => heap_ext_past b E d (by have := h.size; omega)⟩
theorem ext_of_below {w w1 : World} (h : Below w.heap.size w w1) : ∃ E d, w1 = ext w E d := by
  refine ⟨w1.heap.extract w.heap.size, w1.drawn, ?_⟩
  have hh : w1.heap = w.heap ++ w1.heap.extract w.heap.size := by
    have hs := h.size
    apply Array.ext_getElem?
    intro k
    rw [Array.getElem?_append]
    split
    · exact h.block k (by assumption)
    · rw [Array.getElem?_extract]
      split
      · congr 1; omega
      · exact Array.getElem?_eq_none (by omega)
  have h1 := h.os
  have h2 := h.tape
  have h3 := h.output
  cases w1
  simp only [ext] at *
  subst h1 h2 h3
  simp [← hh]
end

/-- The call returned v; what lay below the heap's old size stands. -/
def RV (v : Value) (w : World) (e : Ending) (w' : World) : Prop := e = .returned v ∧ ∃ E d, w' = ext w E d
theorem RV.mk {v : Value} {w w' : World} {e : Ending} (h1 : e = .returned v) (h2 : Below w.heap.size w w') : RV v w e w' := ⟨h1, ext_of_below h2⟩
theorem RV.below {v : Value} {w w' : World} {e : Ending} (h : RV v w e w') : e = .returned v ∧ Below w.heap.size w w' := by
  obtain ⟨h1, E, d, rfl⟩ := h
  exact ⟨h1, bl_ext (Below.refl _ _) _ _⟩
/-- What is left of a room of n after k. -/
def szT (n : Int) (k : Nat) : Int := if n < k then -1 else n - k
theorem szT_lt {n : Int} {k : Nat} (h : n < k) : szT n k = -1 := by simp [szT, h]
theorem szT_ge {n : Int} {k : Nat} (h : (k : Int) ≤ n) : szT n k = n - k := by unfold szT; rw [if_neg (by omega)]
theorem szT_le {n : Int} (k : Nat) (h : -1 ≤ n) : szT n k ≤ n ∧ -1 ≤ szT n k := by unfold szT; split <;> omega
theorem szT_pos {n : Int} {k : Nat} (h : 0 ≤ szT n k) : (k : Int) ≤ n ∧ szT n k = n - k := by unfold szT at *; split at h <;> (try split) <;> omega
theorem bl_al0 (w : World) (o : Obj) : Below w.heap.size w (w.alloc o) := bl_al (Below.refl _ _) o

theorem laidOut : laidOutB Tryd.prog = true := by kernel_rfl
theorem ownk : ownKnob Tryd.prog.godebug = none := by kernel_rfl
end Go.Proofs.YtkompmgleojmlaaDoor
