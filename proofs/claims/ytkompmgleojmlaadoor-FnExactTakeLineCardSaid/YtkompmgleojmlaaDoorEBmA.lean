/-
  An abstract machine over the model: types as codes, cells and values, blocks of the call's own, and what each stands for in a world.
  Plain: no program. No condition.
-/
import Derived.Test.YtkompmgleojmlaaDoorERep
set_option linter.unusedSimpArgs false
set_option linter.unusedVariables false
namespace Go.Proofs.YtkompmgleojmlaaDoor
open Go.ChangeShapes Go.WideShapes Go.ChangeAt Go.RowKit Go.Joins Go.Deep
open GoRep (rep bulk)

inductive Ty where
  | int (k : IntKind)
  | bool
  | str
  /-- one cell, whatever it holds -/
  | opq
  | prod (a b : Ty)
  | list (a : Ty)
  deriving DecidableEq
def Ty.den : Ty → Type
  | .int _ => Int
  | .bool => Bool
  | .str => ByteArray
  | .opq => Value
  | .prod a b => a.den × b.den
  | .list a => List a.den
@[instance_reducible] def intRep (k : IntKind) : GoRep Int where
  n := 1
  pos := by omega
  rep _ x cs F := cs = [.int k x] ∧ (Lit.int k x).wf = true ∧ F = []
  len h := by rw [h.1]; rfl
  keep h _ := h
  lt h := by rw [h.2.2]; simp
  one h := by rw [h.1]; rfl
  bulk _ := 0
@[instance_reducible] def valRep : GoRep Value where
  n := 1
  pos := by omega
  rep _ x cs F := cs = [x] ∧ x.oneCell' = true ∧ F = []
  len h := by rw [h.1]; rfl
  keep h _ := h
  lt h := by rw [h.2.2]; simp
  one h := by rw [h.1, List.all_cons, h.2.1]; rfl
  bulk _ := 0
instance tyRep : (t : Ty) → GoRep t.den
  | .int k => intRep k
  | .bool => inferInstanceAs (GoRep Bool)
  | .str => inferInstanceAs (GoRep ByteArray)
  | .opq => valRep
  | .prod a b => @instGoRepProd a.den b.den (tyRep a) (tyRep b)
  | .list a => @instGoRepList a.den (tyRep a)
/-- how many cells -/
def Ty.n : Ty → Nat
  | .prod a b => a.n + b.n
  | _ => 1
theorem Ty.n_eq : ∀ t : Ty, GoRep.n t.den = t.n
  | .int _ => rfl
  | .bool => rfl
  | .str => rfl
  | .opq => rfl
  | .prod a b => by
    have h1 := Ty.n_eq a
    have h2 := Ty.n_eq b
    show GoRep.n a.den + GoRep.n b.den = a.n + b.n
    rw [h1, h2]
  | .list _ => rfl
def Ty.dflt : (t : Ty) → t.den
  | .int _ => (0 : Int)
  | .bool => false
  | .str => (⟨#[]⟩ : ByteArray)
  | .opq => Value.slice none 0 0
  | .prod a b => (a.dflt, b.dflt)
  | .list _ => ([] : List _)
/-- no slice inside -/
def Ty.flat : Ty → Bool
  | .prod a b => a.flat && b.flat
  | .list _ => false
  | _ => true
/-- element k of a list -/
def nth (t : Ty) (xs : List t.den) (k : Nat) : t.den := xs.getD k t.dflt

/-- whose memory a slice lies in: nobody's that writes; own row i's, as long as its value is the v-th and its content the c-th -/
inductive Lnd where
  | no
  | at (i v c : Nat)
  deriving DecidableEq
/-- what one cell holds -/
inductive AC where
  | int (k : IntKind) (x : Int)
  | bool (b : Bool)
  | str (s : ByteArray)
  | opq (v : Value)
  /-- a slice over memory that is only read -/
  | hs (L : Lnd) (t : Ty) (xs : List t.den)
  /-- a pointer into own block i -/
  | bp (i o : Nat)
  /-- a pointer to cell o of element k of a slice over memory that is only read -/
  | ep (L : Lnd) (t : Ty) (xs : List t.den) (k o : Nat)
  /-- the slice that is own row i, its v-th value -/
  | row (i v : Nat)
  /-- a pointer to cell o of element k of own row i, elements of n cells -/
  | rp (i v n k o : Nat)
  /-- the slice in cell o of element k of own row i (n cells each), at its v-th value, c-th content -/
  | sl (i v c n k o : Nat)
  /-- a pointer to cell q of element x (m cells) of that slice -/
  | sp (i v c n k o m x q : Nat)
  /-- own row i, its v-th value, from element k (n cells each) on -/
  | tl (i v n k : Nat)
  /-- the map that is own block i -/
  | mp (i : Nat)
  /-- a closure that captured own blocks -/
  | fn (f : FuncId) (caps : List Nat)
  | raw (v : Value)
  /-- nothing known -/
  | junk
inductive AW where
  | c (a : AC)
  | ag (l : List AC)
inductive AV where
  | w (x : AW)
  | tp (l : List AW)
  | any
abbrev AV.c (a : AC) : AV := .w (.c a)
abbrev AV.ag (l : List AC) : AV := .w (.ag l)
/-- a block of the call's own -/
inductive Blk where
  | box (l : List AC)
  | row (t : Ty) (xs : List t.den) (v c : Nat) (h : Option (Nat × Nat × Nat))
  /-- a map of ints to bools: its keys; all hold true -/
  | mp (xs : List Int)
  | dead
abbrev Mem := List Blk
structure St where
  tmps : List AV
  mem : Mem
def cellsW (L : Lnd) : (t : Ty) → t.den → List AC
  | .int k, x => [.int k x]
  | .bool, b => [.bool b]
  | .str, s => [.str s]
  | .opq, v => [.opq v]
  | .prod a b, x => cellsW L a x.1 ++ cellsW L b x.2
  | .list a, xs => [.hs L a xs]
abbrev cellsOf (t : Ty) (x : t.den) : List AC := cellsW .no t x
theorem cellsW_len {L : Lnd} : ∀ (t : Ty) (x : t.den), (cellsW L t x).length = t.n
  | .int _, _ => rfl
  | .bool, _ => rfl
  | .str, _ => rfl
  | .opq, _ => rfl
  | .prod a b, x => by
    show (cellsW L a x.1 ++ cellsW L b x.2).length = a.n + b.n
    rw [List.length_append, cellsW_len a, cellsW_len b]
  | .list _, _ => rfl
/-- a row's elements' cells, and their own blocks -/
def ORows {α : Type} (R : α → List Value → List Nat → Prop) : List α → List Value → List Nat → Prop
  | [], cs, G => cs = [] ∧ G = []
  | x :: xs, cs, G => ∃ c1 c2 G1 G2, R x c1 G1 ∧ ORows R xs c2 G2 ∧ cs = c1 ++ c2 ∧ G = G1 ++ G2
def OList {α : Type} (W : World) (R : α → List Value → List Nat → Prop) (n : Nat) (xs : List α) (v : Value) (F : List Nat) : Prop :=
  ∃ T cells G, W.ownsRow 0 T n v xs.length cells ∧ ORows R xs cells G ∧ F = v.ownBlock.toList ++ G
/-- a value that lies in blocks of our own, all of it -/
def ORep (W : World) : (t : Ty) → t.den → List Value → List Nat → Prop
  | .int k, x, cs, F => cs = [.int k x] ∧ (Lit.int k x).wf = true ∧ F = []
  | .bool, b, cs, F => cs = [.bool b] ∧ F = []
  | .str, s, cs, F => cs = [.string s] ∧ s.size ≤ maxLen ∧ F = []
  | .opq, v, cs, F => cs = [v] ∧ v.oneCell' = true ∧ F = []
  | .prod a b, x, cs, F => ∃ c1 c2 F1 F2, ORep W a x.1 c1 F1 ∧ ORep W b x.2 c2 F2 ∧ cs = c1 ++ c2 ∧ F = F1 ++ F2
  | .list a, xs, cs, F => ∃ v, cs = [v] ∧ OList W (ORep W a) a.n xs v F
theorem ownsRow_keep {W W' : World} {T : TypeId} {n l : Nat} {v : Value} {xs : List Value} (h : W.ownsRow 0 T n v l xs) (hk : ∀ b ∈ v.ownBlock.toList, W'.heap[b]? = W.heap[b]?) : W'.ownsRow 0 T n v l xs := by
  obtain ⟨h0, h1⟩ := h
  refine ⟨h0, ?_⟩
  rcases h1 with h1 | ⟨g', cap, cur, q1, q2, q3, q4⟩
  · exact .inl h1
  · exact .inr ⟨g', cap, cur, q1, q2, by rw [hk g' (by simp [q1, Value.ownBlock])]; exact q3, q4⟩
theorem ownsRow_lt {W : World} {T : TypeId} {n l : Nat} {v : Value} {xs : List Value} (h : W.ownsRow 0 T n v l xs) : ∀ b ∈ v.ownBlock.toList, b < W.heap.size := by
  intro b hb
  rcases h.2 with ⟨h1, _⟩ | ⟨g', cap, cur, q1, q2, q3, q4⟩
  · rw [h1] at hb; simp [Value.ownBlock] at hb
  · rw [q1] at hb
    simp [Value.ownBlock] at hb
    subst hb
    exact (Array.getElem?_eq_some_iff.1 q3).1
theorem ownsRow_one {W : World} {T : TypeId} {n l : Nat} {v : Value} {xs : List Value} (h : W.ownsRow 0 T n v l xs) : v.oneCell' = true := by
  rcases h.2 with ⟨h1, _⟩ | ⟨g', cap, cur, q1, _⟩
  · rw [h1]; rfl
  · rw [q1]; rfl
section
variable {α : Type} {R R' : α → List Value → List Nat → Prop}
theorem ORows.imp : ∀ {xs : List α} {cs : List Value} {G : List Nat}, ORows R xs cs G → (∀ x cs F, R x cs F → (∀ b ∈ F, b ∈ G) → R' x cs F) → ORows R' xs cs G
  | [], _, _, h, _ => h
  | _ :: _, _, _, ⟨c1, c2, G1, G2, h1, h2, e1, e2⟩, hk => by
    subst e2
    exact ⟨c1, c2, G1, G2, hk _ _ _ h1 (fun b hb => by simp [hb]), h2.imp (fun x cs F h hF => hk x cs F h (fun b hb => by simp [hF b hb])), e1, rfl⟩
theorem ORows.all {Q : Nat → Prop} : ∀ {xs : List α} {cs : List Value} {G : List Nat}, ORows R xs cs G → (∀ x cs F, R x cs F → ∀ b ∈ F, Q b) → ∀ b ∈ G, Q b
  | [], _, _, ⟨_, h⟩, _ => by simp [h]
  | _ :: _, _, _, ⟨c1, c2, G1, G2, h1, h2, e1, e2⟩, hk => by
    subst e2
    intro b hb
    exact (List.mem_append.1 hb).elim (hk _ _ _ h1 b) (h2.all hk b)
theorem ORows.len {n : Nat} : ∀ {xs : List α} {cs : List Value} {G : List Nat}, ORows R xs cs G → (∀ x cs F, R x cs F → cs.length = n) → cs.length = xs.length * n
  | [], _, _, ⟨h, _⟩, _ => by simp [h]
  | _ :: xs, _, _, ⟨c1, c2, G1, G2, h1, h2, e1, e2⟩, hk => by
    rw [e1, List.length_append, hk _ _ _ h1, h2.len hk, List.length_cons, Nat.add_mul]
    omega
theorem ORows.one : ∀ {xs : List α} {cs : List Value} {G : List Nat}, ORows R xs cs G → (∀ x cs F, R x cs F → cs.all (fun v => v.oneCell') = true) → cs.all (fun v => v.oneCell') = true
  | [], _, _, ⟨h, _⟩, _ => by rw [h]; rfl
  | _ :: xs, _, _, ⟨c1, c2, G1, G2, h1, h2, e1, e2⟩, hk => by
    rw [e1, List.all_append, hk _ _ _ h1, h2.one hk]
    rfl
theorem ORows.app : ∀ {xs ys : List α} {cs ds : List Value} {G H : List Nat}, ORows R xs cs G → ORows R ys ds H → ORows R (xs ++ ys) (cs ++ ds) (G ++ H)
  | [], _, _, _, _, _, ⟨h, h'⟩, k => by rw [h, h']; exact k
  | _ :: xs, _, _, _, _, _, ⟨c1, c2, G1, G2, h1, h2, e1, e2⟩, k => ⟨c1, _, G1, _, h1, h2.app k, by rw [e1, List.append_assoc], by rw [e2, List.append_assoc]⟩
/-- element k: the cells before it, its own, those behind it -/
theorem ORows.split {n : Nat} (hn : ∀ x cs F, R x cs F → cs.length = n) : ∀ {xs : List α} {cs : List Value} {G : List Nat} (k : Nat) {x : α}, ORows R xs cs G → xs[k]? = some x →
    ∃ c0 c1 c2 G0 G1 G2, cs = c0 ++ c1 ++ c2 ∧ G = G0 ++ G1 ++ G2 ∧ c0.length = k * n ∧ ORows R (xs.take k) c0 G0 ∧ R x c1 G1 ∧ ORows R (xs.drop (k + 1)) c2 G2
  | [], _, _, _, _, _, h => by simp at h
  | y :: ys, _, _, 0, _, ⟨c1, c2, G1, G2, h1, h2, e1, e2⟩, h => by
    obtain rfl : y = _ := by simpa using h
    exact ⟨[], c1, c2, [], G1, G2, by simpa using e1, by simpa using e2, by simp, ⟨rfl, rfl⟩, h1, h2⟩
  | y :: ys, _, _, k + 1, _, ⟨c1, c2, G1, G2, h1, h2, e1, e2⟩, h => by
    obtain ⟨d0, d1, d2, H0, H1, H2, q1, q2, q3, q4, q5, q6⟩ := ORows.split hn k h2 (by simpa using h)
    refine ⟨c1 ++ d0, d1, d2, G1 ++ H0, H1, H2, by rw [e1, q1]; simp, by rw [e2, q2]; simp, ?_, ⟨c1, d0, G1, H0, h1, q4, rfl, rfl⟩, q5, by simpa using q6⟩
    rw [List.length_append, hn _ _ _ h1, q3, Nat.add_mul]
    omega
end
theorem ORep.len {W : World} : ∀ (t : Ty) {x : t.den} {cs : List Value} {F : List Nat}, ORep W t x cs F → cs.length = t.n
  | .int _, _, _, _, h => by rw [h.1]; rfl
  | .bool, _, _, _, h => by rw [h.1]; rfl
  | .str, _, _, _, h => by rw [h.1]; rfl
  | .opq, _, _, _, h => by rw [h.1]; rfl
  | .prod a b, _, _, _, ⟨c1, c2, F1, F2, h1, h2, e1, _⟩ => by rw [e1, List.length_append, ORep.len a h1, ORep.len b h2]; rfl
  | .list a, _, _, _, ⟨v, e, _⟩ => by rw [e]; rfl
theorem ORep.one {W : World} : ∀ (t : Ty) {x : t.den} {cs : List Value} {F : List Nat}, ORep W t x cs F → cs.all (fun v => v.oneCell') = true
  | .int _, _, _, _, h => by rw [h.1]; rfl
  | .bool, _, _, _, h => by rw [h.1]; rfl
  | .str, _, _, _, h => by rw [h.1]; rfl
  | .opq, x, _, _, h => by
    have h1 : Value.oneCell' x = true := h.2.1
    rw [h.1]
    exact List.all_eq_true.2 (fun v hv => by obtain rfl := List.mem_singleton.1 hv; exact h1)
  | .prod a b, _, _, _, ⟨c1, c2, F1, F2, h1, h2, e1, _⟩ => by rw [e1, List.all_append, ORep.one a h1, ORep.one b h2]; rfl
  | .list a, _, _, _, ⟨v, e, T, cells, G, h, _⟩ => by rw [e, List.all_cons, ownsRow_one h]; rfl
theorem ORep.keep {W W' : World} : ∀ (t : Ty) {x : t.den} {cs : List Value} {F : List Nat}, ORep W t x cs F → (∀ b ∈ F, W'.heap[b]? = W.heap[b]?) → ORep W' t x cs F
  | .int _, _, _, _, h, _ => h
  | .bool, _, _, _, h, _ => h
  | .str, _, _, _, h, _ => h
  | .opq, _, _, _, h, _ => h
  | .prod a b, _, _, _, ⟨c1, c2, F1, F2, h1, h2, e1, e2⟩, hk => by
    subst e2
    exact ⟨c1, c2, F1, F2, ORep.keep a h1 (fun b hb => hk b (by simp [hb])), ORep.keep b h2 (fun b hb => hk b (by simp [hb])), e1, rfl⟩
  | .list a, _, _, _, ⟨v, e, T, cells, G, h, h2, e2⟩, hk => by
    subst e2
    exact ⟨v, e, T, cells, G, ownsRow_keep h (fun b hb => hk b (by simp at hb; simp [hb])), h2.imp (fun x cs F h3 hF => ORep.keep a h3 (fun b hb => hk b (by simp [hF b hb]))), rfl⟩
theorem ORep.lt {W : World} : ∀ (t : Ty) {x : t.den} {cs : List Value} {F : List Nat}, ORep W t x cs F → ∀ b ∈ F, b < W.heap.size
  | .int _, _, _, _, h => by simp [h.2.2]
  | .bool, _, _, _, h => by simp [h.2]
  | .str, _, _, _, h => by simp [h.2.2]
  | .opq, _, _, _, h => by simp [h.2.2]
  | .prod a b, _, _, _, ⟨c1, c2, F1, F2, h1, h2, e1, e2⟩ => by
    subst e2
    intro q hq
    exact (List.mem_append.1 hq).elim (ORep.lt a h1 q) (ORep.lt b h2 q)
  | .list a, _, _, _, ⟨v, e, T, cells, G, h, h2, e2⟩ => by
    subst e2
    intro q hq
    exact (List.mem_append.1 hq).elim (ownsRow_lt h q) (h2.all (fun x cs F h3 => ORep.lt a h3) q)
theorem OList.keep {W W' : World} {t : Ty} {xs : List t.den} {v : Value} {F : List Nat} (h : OList W (ORep W t) t.n xs v F) (hk : ∀ b ∈ F, W'.heap[b]? = W.heap[b]?) : OList W' (ORep W' t) t.n xs v F := by
  obtain ⟨v', e, h'⟩ := ORep.keep (W' := W') (.list t) (x := xs) (cs := [v]) ⟨v, rfl, h⟩ hk
  obtain rfl : v = v' := by simpa using e
  exact h'
/-- a row of cells, read as the elder laws read it -/
theorem rowRep_of {W : World} {t : Ty} {b : Nat} (hR : ∀ (x : t.den) cs F, ORep W t x cs F → ∃ F', rep W x cs F' ∧ ∀ q ∈ F', q ∈ F) : ∀ {xs : List t.den} {cells : List Value} {G : List Nat} {off : Nat},
    ORows (ORep W t) xs cells G → CellsAt W b off cells → ∃ G', RowRep W b off xs G' ∧ ∀ q ∈ G', q ∈ G
  | [], _, _, _, _, _ => ⟨[], rfl, by simp⟩
  | x :: xs, _, _, off, ⟨c1, c2, G1, G2, h1, h2, e1, e2⟩, hc => by
    subst e1
    subst e2
    obtain ⟨F1, r1, q1⟩ := hR _ _ _ h1
    have hl := ORep.len t h1
    obtain ⟨G', r2, q2⟩ := rowRep_of hR (off := off + t.n) h2 (fun j v hj => by
      have := hc (c1.length + j) v (by rw [List.getElem?_append_right (by omega)]; simpa using hj)
      rw [hl] at this
      rwa [show off + t.n + j = off + (t.n + j) from by omega])
    refine ⟨F1 ++ G', ⟨c1, F1, G', r1, fun j v hj => hc j v (by rw [List.getElem?_append_left (List.getElem?_eq_some_iff.1 hj).1]; exact hj), by rw [Ty.n_eq]; exact r2, rfl⟩, fun q hq => ?_⟩
    rcases List.mem_append.1 hq with hq | hq
    · simp [q1 q hq]
    · simp [q2 q hq]
theorem ownsRow_cells {W : World} {T : TypeId} {n l b c : Nat} {xs : List Value} (h : W.ownsRow 0 T n (.slice (some ⟨b, 0, none⟩) l c) l xs) : ∃ cur, W.heap[b]? = some (.cells cur T (0, 0)) ∧ cur.toList.take (l * n) = xs ∧ l ≤ c ∧ c ≤ maxLen ∧ cur.size = c * n := by
  rcases h.2 with ⟨h1, _⟩ | ⟨g', cap, cur, q1, q2, q3, q4, q5, q6, q7⟩
  · cases h1
  · obtain ⟨rfl, rfl⟩ : b = g' ∧ c = cap := by injection q1 with a1 a2 a3; injection a1 with a1; injection a1 with a1; exact ⟨a1, a3⟩
    exact ⟨cur, q3, q7, q4, q5, q6⟩
theorem cellsAt_take {W : World} {b m : Nat} {cur : Array Value} {T : TypeId} (hg : W.heap[b]? = some (.cells cur T (0, 0))) : CellsAt W b 0 (cur.toList.take m) := fun j v hj => by
  refine ⟨?_, by simp [World.frozen?, hg]⟩
  rw [cell_of_row W b (0 + j) cur T (0, 0) hg]
  rw [List.getElem?_take] at hj
  split at hj
  · simpa using hj
  · cases hj
theorem ORep.rep {W : World} : ∀ (t : Ty) {x : t.den} {cs : List Value} {F : List Nat}, ORep W t x cs F → ∃ F', GoRep.rep W x cs F' ∧ ∀ q ∈ F', q ∈ F
  | .int _, _, _, _, h => ⟨[], ⟨h.1, h.2.1, rfl⟩, by simp⟩
  | .bool, _, _, _, h => ⟨[], ⟨h.1, rfl⟩, by simp⟩
  | .str, _, _, _, h => ⟨[], ⟨h.1, h.2.1, rfl⟩, by simp⟩
  | .opq, _, _, _, h => ⟨[], ⟨h.1, h.2.1, rfl⟩, by simp⟩
  | .prod a b, _, _, _, ⟨c1, c2, F1, F2, h1, h2, e1, e2⟩ => by
    obtain ⟨G1, r1, q1⟩ := ORep.rep a h1
    obtain ⟨G2, r2, q2⟩ := ORep.rep b h2
    refine ⟨G1 ++ G2, ⟨c1, c2, G1, G2, r1, r2, e1, rfl⟩, fun q hq => ?_⟩
    rw [e2]
    rcases List.mem_append.1 hq with hq | hq
    · simp [q1 q hq]
    · simp [q2 q hq]
  | .list a, xs, cs, F, ⟨v, e, T, cells, G, h, h2, e2⟩ => by
    have hsl : ∃ A c, v = .slice A xs.length c := by
      rcases h.2 with ⟨h1, h3⟩ | ⟨g', cap, cur, q1, _⟩
      · exact ⟨none, 0, by rw [h1, h3]⟩
      · exact ⟨_, _, q1⟩
    obtain ⟨A, c, rfl⟩ := hsl
    by_cases hx : xs = []
    · subst hx
      have hc : c ≤ maxLen := by
        rcases h.2 with ⟨h1, h3⟩ | ⟨g', cap, cur, q1, q2, q3, q4, q5, q6⟩
        · injection h1 with a1 a2 a3; rw [a3]; exact Nat.zero_le _
        · injection q1 with a1 a2 a3; rw [a3]; exact q5
      exact ⟨[], ⟨A, c, e, by simp, hc, .inl ⟨rfl, rfl⟩⟩, by simp⟩
    · rcases h.2 with ⟨h1, h3⟩ | ⟨g', cap, cur, q1, q2, q3, q4, q5, q6, q7⟩
      · exact absurd (List.eq_nil_of_length_eq_zero h3) hx
      · injection q1 with a1 a2 a3
        subst a1
        subst a3
        have hca := cellsAt_take (W := W) (b := g') (m := xs.length * a.n) q3
        rw [q7] at hca
        obtain ⟨G', r1, r2⟩ := rowRep_of (fun x cs F h => ORep.rep a h) h2 hca
        refine ⟨g' :: G', ⟨_, _, e, q4, q5, .inr ⟨hx, g', 0, G', rfl, rfl, r1⟩⟩, fun q hq => ?_⟩
        rw [e2]
        rcases List.mem_cons.1 hq with rfl | hq
        · simp [Value.ownBlock]
        · simp [r2 q hq]

/-- where an own block lies: a box's block; a row's slice value; the blocks that are ours for it -/
structure EB where
  blk : Nat
  val : Value
  foot : List Nat
abbrev Env := List EB
def foots (E : Env) : List Nat := E.flatMap (·.foot)
theorem mem_foots {E : Env} {b : Nat} : b ∈ foots E ↔ ∃ e ∈ E, b ∈ e.foot := by simp [foots]
def boxAt (E : Env) (i : Nat) (v : Value) (o : Nat) : Prop := ∃ e, E[i]? = some e ∧ v = .pointer (some ⟨e.blk, o, none⟩)
def capsAt (E : Env) : List Nat → List Value → Prop
  | [], vs => vs = []
  | i :: is, vs => ∃ v r, vs = v :: r ∧ boxAt E i v 0 ∧ capsAt E is r

/-- the row is there; as long as its value is the v-th, Q -/
def atRow (E : Env) (M : Mem) (i v : Nat) (Q : EB → Prop) : Prop := match M[i]? with
  | some (.row _ _ cur _ _) => v ≤ cur ∧ (v = cur → ∃ e, E[i]? = some e ∧ Q e)
  | some .dead => True
  | _ => False
/-- these blocks are the lender's -/
def lendF (X : List Nat) (W : World) (E : Env) (M : Mem) : Lnd → List Nat → Prop
  | .no, F => ∀ b ∈ F, (b ∉ foots E ∧ b ∉ X) ∧ b < W.heap.size
  | .at i v c, F => ∃ (t : Ty) (xs : List t.den) (e : EB), M[i]? = some (.row t xs v c none) ∧ E[i]? = some e ∧ ∀ b ∈ F, b ∈ e.foot
def lendAt (E : Env) (M : Mem) (i v c : Nat) (Q : List Nat → Prop) : Prop := match M[i]? with
  | some (.row _ _ cv cc _) => v ≤ cv ∧ (v = cv → c ≤ cc ∧ (c = cc → ∃ e F, E[i]? = some e ∧ Q F ∧ ∀ b ∈ F, b ∈ e.foot))
  | some .dead => True
  | _ => False
/-- as long as it is lent: blocks of the lender's that Q -/
def lendQ (X : List Nat) (W : World) (E : Env) (M : Mem) : Lnd → (List Nat → Prop) → Prop
  | .no, Q => ∃ F, Q F ∧ ∀ b ∈ F, (b ∉ foots E ∧ b ∉ X) ∧ b < W.heap.size
  | .at i v c, Q => lendAt E M i v c Q
/-- as long as row i's content is that: its cell holds u -/
def inRow (W : World) (E : Env) (M : Mem) (i ver c n k o : Nat) (u : Value) : Prop :=
  ∃ b, atRow E M i ver (fun e => ∃ l cap, e.val = .slice (some ⟨b, 0, none⟩) l cap ∧ k < l) ∧ lendAt E M i ver c (fun F => F = [b] ∧ W.cell? ⟨b, k * n + o, none⟩ = some u)
/-- the slice u from element k on -/
def tlV (u : Value) (n k : Nat) (v : Value) : Prop := ∃ (A : Option Addr) (l c : Nat) (A0 : Option Addr) (c0 : Nat), v = .slice A (l - k) c ∧ k ≤ l ∧ u = .slice A0 l c0 ∧ (k < l → ∃ b, A0 = some ⟨b, 0, none⟩ ∧ A = some ⟨b, k * n, none⟩)
/-- the value v is what the cell stands for -/
def RepC (X : List Nat) (W : World) (E : Env) (M : Mem) : AC → Value → Prop
  | .int k x, v => v = .int k x ∧ (Lit.int k x).wf = true
  | .bool b, v => v = .bool b
  | .str s, v => v = .string s ∧ s.size ≤ maxLen
  | .opq u, v => v = u ∧ u.oneCell' = true
  | .hs L t xs, v => v.oneCell' = true ∧ lendQ X W E M L (fun F => rep (α := List t.den) W xs [v] F)
  | .bp i o, v => boxAt E i v o
  | .ep L t xs k o, v => v.oneCell' = true ∧ lendQ X W E M L (fun F => ∃ b off G, F = b :: G ∧ v = .pointer (some ⟨b, off + k * t.n + o, none⟩) ∧ k < xs.length ∧ RowRep W b off xs G)
  | .row i ver, v => v.oneCell' = true ∧ atRow E M i ver (fun e => v = e.val)
  | .rp i ver n k o, v => v.oneCell' = true ∧ atRow E M i ver (fun e => ∃ b l c, e.val = .slice (some ⟨b, 0, none⟩) l c ∧ k < l ∧ v = .pointer (some ⟨b, k * n + o, none⟩))
  | .sl i ver c n k o, v => v.oneCell' = true ∧ inRow W E M i ver c n k o v
  | .sp i ver c n k o m x q, v => v.oneCell' = true ∧ ∃ b l cap, inRow W E M i ver c n k o (.slice (some ⟨b, 0, none⟩) l cap) ∧ x < l ∧ v = .pointer (some ⟨b, x * m + q, none⟩)
  | .tl i ver n k, v => v.oneCell' = true ∧ atRow E M i ver (fun e => tlV e.val n k v)
  | .mp i, v => ∃ e, E[i]? = some e ∧ v = .map (some e.blk)
  | .fn f caps, v => ∃ vs, v = .func (.func f) #[] vs.toArray ∧ capsAt E caps vs
  | .raw u, v => v = u ∧ u.oneCell' = true
  | .junk, v => v.oneCell' = true
def RepL (X : List Nat) (W : World) (E : Env) (M : Mem) : List AC → List Value → Prop
  | [], vs => vs = []
  | c :: cs, vs => ∃ v r, vs = v :: r ∧ RepC X W E M c v ∧ RepL X W E M cs r
def RepW (X : List Nat) (W : World) (E : Env) (M : Mem) : AW → Value → Prop
  | .c a, v => RepC X W E M a v
  | .ag l, v => ∃ cs, v = .agg cs.toArray ∧ RepL X W E M l cs
def RepWs (X : List Nat) (W : World) (E : Env) (M : Mem) : List AW → List Value → Prop
  | [], vs => vs = []
  | x :: xs, vs => ∃ v r, vs = v :: r ∧ RepW X W E M x v ∧ RepWs X W E M xs r
def RepV (X : List Nat) (W : World) (E : Env) (M : Mem) : AV → Value → Prop
  | .w x, v => RepW X W E M x v
  | .tp l, v => ∃ vs, v = .tuple vs.toArray ∧ RepWs X W E M l vs
  | .any, _ => True
def RepT (X : List Nat) (W : World) (E : Env) (M : Mem) : List AV → List Value → Prop
  | [], vs => vs = []
  | x :: xs, vs => ∃ v r, vs = v :: r ∧ RepV X W E M x v ∧ RepT X W E M xs r
/-- the current content of own row i, if v is its value -/
structure RowC where
  t : Ty
  xs : List t.den
  c : Nat
/-- the list in cell o of a value -/
def listAt : (t : Ty) → t.den → Nat → Option RowC
  | .prod a b, x, o => bif Nat.blt o a.n then listAt a x.1 o else listAt b x.2 (o - a.n)
  | .list a, xs, o => bif Nat.beq o 0 then some ⟨a, xs, 0⟩ else none
  | _, _, _ => none
/-- the list in cell o replaced -/
def putAt (a : Ty) (ys : List a.den) : (t : Ty) → t.den → Nat → t.den
  | .prod s t, x, o => bif Nat.blt o s.n then (putAt a ys s x.1 o, x.2) else (x.1, putAt a ys t x.2 (o - s.n))
  | .list b, xs, _ => if h : a = b then h ▸ ys else xs
  | .int _, x, _ => x
  | .bool, x, _ => x
  | .str, x, _ => x
  | .opq, x, _ => x
/-- a row; one whose list at cell o of element k has been taken out: as if a nil slice lay there -/
def RowR (W : World) (E : Env) (M : Mem) (t : Ty) (xs : List t.den) : Option (Nat × Nat × Nat) → EB → Prop
  | none, e => OList W (ORep W t) t.n xs e.val e.foot
  | some (k, o, j), e => ∃ (b l cap : Nat) (r : RowC), e.val = .slice (some ⟨b, 0, none⟩) l cap ∧ k < l ∧ listAt t (nth t xs k) o = some r ∧
      OList (W.setCell ⟨b, k * t.n + o, none⟩ (.slice none 0 0)) (ORep (W.setCell ⟨b, k * t.n + o, none⟩ (.slice none 0 0)) t) t.n (xs.set k (putAt r.t [] t (nth t xs k) o)) e.val e.foot ∧
      atRow E M j 0 (fun ej => W.cell? ⟨b, k * t.n + o, none⟩ = some ej.val)
/-- the map at block b has these keys, all with true -/
def MapAt (W : World) (b : Nat) (xs : List Int) : Prop := ∃ es ck, W.heap[b]? = some (.map es ck) ∧ es.toList.map (·.key) = xs.map (fun x => Value.int .i64 x) ∧ ∀ e ∈ es.toList, e.val = .bool true
def RepB (X : List Nat) (W : World) (E : Env) (M : Mem) : Blk → EB → Prop
  | .box l, e => e.foot = [e.blk] ∧ ∃ cs T, W.heap[e.blk]? = some (.cells cs T (0, 0)) ∧ RepL X W E M l cs.toList
  | .row t xs _ _ h, e => RowR W E M t xs h e
  | .mp xs, e => e.foot = [e.blk] ∧ MapAt W e.blk xs
  | .dead, e => e.foot = []
structure RepM (X : List Nat) (W : World) (E : Env) (M : Mem) : Prop where
  len : M.length = E.length
  nodup : (foots E).Nodup
  at_ : ∀ (i : Nat) (b : Blk) (e : EB), M[i]? = some b → E[i]? = some e → RepB X W E M b e
  lt : ∀ b ∈ foots E, b < W.heap.size
  xlt : ∀ b ∈ X, b ∉ foots E
  xsz : ∀ b ∈ X, b < W.heap.size
structure RepS (X : List Nat) (st : St) (a : Act) (W : World) (E : Env) : Prop where
  mem : RepM X W E st.mem
  tmps : RepT X W E st.mem st.tmps a.tmps.toList
  dfr : a.defers = []
/-- from the world W, own blocks E, to the world W', own blocks E' -/
structure Grow (W : World) (E : Env) (W' : World) (E' : Env) : Prop where
  os : W'.os = W.os
  tape : W'.tape = W.tape
  output : W'.output = W.output
  size : W.heap.size ≤ W'.heap.size
  keep : ∀ b, b < W.heap.size → b ∉ foots E → W'.heap[b]? = W.heap[b]?
  new : ∀ b ∈ foots E', b ∈ foots E ∨ W.heap.size ≤ b
  blk : ∀ (i : Nat) (e : EB), E[i]? = some e → ∃ e', E'[i]? = some e' ∧ e'.blk = e.blk
theorem Grow.refl (W : World) (E : Env) : Grow W E W E := ⟨rfl, rfl, rfl, Nat.le_refl _, fun _ _ _ => rfl, fun _ h => .inl h, fun _ e h => ⟨e, h, rfl⟩⟩
theorem Grow.trans {W W1 W2 : World} {E E1 E2 : Env} (h : Grow W E W1 E1) (k : Grow W1 E1 W2 E2) : Grow W E W2 E2 where
  os := k.os.trans h.os
  tape := k.tape.trans h.tape
  output := k.output.trans h.output
  size := Nat.le_trans h.size k.size
  keep b hb hn := by
    rw [k.keep b (Nat.lt_of_lt_of_le hb h.size) (fun hm => (h.new b hm).elim hn (fun hge => by omega))]
    exact h.keep b hb hn
  new b hb := (k.new b hb).elim (h.new b) (fun hge => .inr (Nat.le_trans h.size hge))
  blk i e he := by
    obtain ⟨e1, h1, q1⟩ := h.blk i e he
    obtain ⟨e2, h2, q2⟩ := k.blk i e1 h1
    exact ⟨e2, h2, q2.trans q1⟩
theorem Grow.below {W W' : World} {E' : Env} (h : Grow W [] W' E') : Below W.heap.size W W' :=
  ⟨h.os, h.tape, h.output, h.size, fun k hk => h.keep k hk (by simp [foots])⟩
/-- how the memory may turn so that cells keep what they stand for -/
def MemOk (W : World) (E : Env) (M : Mem) (W' : World) (E' : Env) (M' : Mem) : Prop := ∀ i : Nat, match M[i]? with
  | some (.row t _ v c _) => (M'[i]? = some .dead) ∨ ∃ (xs' : List t.den) (v' c' : Nat) (h' : Option (Nat × Nat × Nat)), M'[i]? = some (.row t xs' v' c' h') ∧ v ≤ v' ∧ (v = v' → ∀ e : EB, E[i]? = some e → ∃ e', E'[i]? = some e' ∧ e'.val = e.val ∧ c ≤ c' ∧ (c = c' → ∀ b ∈ e.foot, b ∈ e'.foot ∧ W'.heap[b]? = W.heap[b]?))
  | some .dead => M'[i]? = some .dead
  | _ => True
theorem MemOk.refl (W : World) (E : Env) (M : Mem) : MemOk W E M W E M := fun i => by
  split
  · rename_i h; exact .inr ⟨_, _, _, _, h, Nat.le_refl _, fun _ e he => ⟨e, he, rfl, Nat.le_refl _, fun _ b hb => ⟨hb, rfl⟩⟩⟩
  · rename_i h; exact h
  · trivial
theorem MemOk.nil {W W' : World} (E' : Env) : MemOk W [] [] W' E' [] := fun i => by simp
theorem MemOk.trans {W W1 W2 : World} {E E1 E2 : Env} {M M1 M2 : Mem} (h : MemOk W E M W1 E1 M1) (k : MemOk W1 E1 M1 W2 E2 M2) : MemOk W E M W2 E2 M2 := fun i => by
  have hi := h i
  have ki := k i
  split
  · rename_i t xs v c hh hM
    rw [hM] at hi
    rcases hi with hd | ⟨xs1, v1, c1, hh1, h1, hle, hv⟩
    · rw [hd] at ki; exact .inl ki
    · rw [h1] at ki
      rcases ki with kd | ⟨xs2, v2, c2, hh2, k1, kle, kv⟩
      · exact .inl kd
      · refine .inr ⟨xs2, v2, c2, hh2, k1, Nat.le_trans hle kle, fun hq e he => ?_⟩
        obtain ⟨e', q1, q2, q3, q4⟩ := hv (by omega) e he
        obtain ⟨e'', r1, r2, r3, r4⟩ := kv (by omega) e' q1
        refine ⟨e'', r1, r2.trans q2, Nat.le_trans q3 r3, fun hc b hb => ?_⟩
        obtain ⟨z1, z2⟩ := q4 (by omega) b hb
        obtain ⟨z3, z4⟩ := r4 (by omega) b z1
        exact ⟨z3, z4.trans z2⟩
  · rename_i hM
    rw [hM] at hi
    rw [show M1[i]? = some .dead from hi] at ki
    exact ki
  · trivial

section
variable {X : List Nat} {W W' : World} {E E' : Env} {M M' : Mem}
theorem boxAt.mono (g : Grow W E W' E') {i o : Nat} {v : Value} (h : boxAt E i v o) : boxAt E' i v o := by
  obtain ⟨e, h1, h2⟩ := h
  obtain ⟨e', q1, q2⟩ := g.blk i e h1
  exact ⟨e', q1, by rw [q2]; exact h2⟩
theorem capsAt.mono (g : Grow W E W' E') : ∀ {is : List Nat} {vs : List Value}, capsAt E is vs → capsAt E' is vs
  | [], _, h => h
  | _ :: _, _, ⟨v, r, e, h1, h2⟩ => ⟨v, r, e, h1.mono g, capsAt.mono g h2⟩
theorem lendQ.mono {Q Q' : List Nat → Prop} (g : Grow W E W' E') (hm : MemOk W E M W' E' M') (hQ : ∀ F, (∀ b ∈ F, W'.heap[b]? = W.heap[b]?) → Q F → Q' F) : ∀ {L : Lnd}, (∀ i v c, L = .at i v c → E.length = M.length) → lendQ X W E M L Q → lendQ X W' E' M' L Q'
  | .no, _, ⟨F, h1, h2⟩ =>
    ⟨F, hQ F (fun b hb => g.keep b (h2 b hb).2 (h2 b hb).1.1) h1, fun b hb => ⟨⟨fun hn => (g.new b hn).elim (h2 b hb).1.1 (fun hge => by have := (h2 b hb).2; omega), (h2 b hb).1.2⟩, Nat.lt_of_lt_of_le (h2 b hb).2 g.size⟩⟩
  | .at i v c, hlen, h => by
    have hi := hm i
    have h : lendAt E M i v c Q := h
    show lendAt E' M' i v c Q'
    unfold lendAt at h ⊢
    cases hM : M[i]? with
    | none => rw [hM] at h; exact h.elim
    | some b =>
      rw [hM] at h hi
      cases b with
      | box l => exact h.elim
      | mp _ => exact h.elim
      | dead => simp only at hi; rw [hi]; trivial
      | row t xs cv cc hh =>
        simp only at h hi
        rcases hi with hd | ⟨xs1, v1, c1, h1, hM1, hle, hv⟩
        · rw [hd]; trivial
        · rw [hM1]
          have hlt := (List.getElem?_eq_some_iff.1 hM).1
          have hE := List.getElem?_eq_getElem (l := E) (i := i) (by rw [hlen i v c rfl]; exact hlt)
          refine ⟨by omega, fun he => ?_⟩
          obtain ⟨e', r1, r2, r3, r4⟩ := hv (by omega) _ hE
          obtain ⟨k1, k2⟩ := h.2 (by omega)
          refine ⟨by omega, fun hc => ?_⟩
          obtain ⟨e, F, q1, q2, q3⟩ := k2 (by omega)
          obtain rfl : _ = e := Option.some.inj (hE.symm.trans q1)
          have := r4 (by omega)
          exact ⟨e', F, r1, hQ F (fun b hb => (this b (q3 b hb)).2) q2, fun b hb => (this b (q3 b hb)).1⟩
theorem atRow.mono {Q Q' : EB → Prop} (hm : MemOk W E M W' E' M') (hQ : ∀ e e', e'.val = e.val → Q e → Q' e') {i v : Nat} (h : atRow E M i v Q) : atRow E' M' i v Q' := by
  have hi := hm i
  unfold atRow at h ⊢
  cases hM : M[i]? with
  | none => rw [hM] at h; exact h.elim
  | some b =>
    rw [hM] at h hi
    cases b with
    | box l => exact h.elim
    | mp _ => exact h.elim
    | dead => simp only at hi; rw [hi]; trivial
    | row t xs cv cc hh =>
      simp only at h hi
      rcases hi with hd | ⟨xs1, v1, c1, h1, hM1, hle, hv⟩
      · rw [hd]; trivial
      · rw [hM1]
        refine ⟨by omega, fun he => ?_⟩
        obtain ⟨e, q1, q2⟩ := h.2 (by omega)
        obtain ⟨e', r1, r2, _⟩ := hv (by omega) e q1
        exact ⟨e', r1, hQ e e' r2 q2⟩
theorem cell?_congr {W W' : World} {b o : Nat} (h : W'.heap[b]? = W.heap[b]?) : W'.cell? ⟨b, o, none⟩ = W.cell? ⟨b, o, none⟩ := cell?_of_heap h o
theorem inRow.mono (g : Grow W E W' E') (hm : MemOk W E M W' E' M') (hl : M.length = E.length) {i ver c n k o : Nat} {u : Value} (h : inRow W E M i ver c n k o u) : inRow W' E' M' i ver c n k o u := by
  obtain ⟨b, h1, h2⟩ := h
  exact ⟨b, h1.mono hm (fun e e' he h => by rw [he]; exact h), lendQ.mono (X := []) (L := .at i ver c) g hm (fun F hk h => ⟨h.1, by rw [cell?_congr (hk b (by rw [h.1]; simp))]; exact h.2⟩) (fun _ _ _ _ => hl.symm) h2⟩
theorem RepC.mono (g : Grow W E W' E') (hm : MemOk W E M W' E' M') (hl : M.length = E.length) : ∀ {c : AC} {v : Value}, RepC X W E M c v → RepC X W' E' M' c v
  | .int _ _, _, h => h
  | .bool _, _, h => h
  | .str _, _, h => h
  | .opq _, _, h => h
  | .hs L t xs, v, h => ⟨h.1, lendQ.mono g hm (fun F hk h => GoRep.keep h hk) (fun _ _ _ _ => hl.symm) h.2⟩
  | .bp _ _, _, h => boxAt.mono g h
  | .ep L t xs k o, v, h => ⟨h.1, lendQ.mono g hm (fun F hk ⟨b, off, G, e0, e1, e2, h1⟩ => by
      subst e0
      exact ⟨b, off, G, rfl, e1, e2, h1.keep (hk b (by simp)) (fun q hq => hk q (by simp [hq]))⟩) (fun _ _ _ _ => hl.symm) h.2⟩
  | .row i ver, v, h => ⟨h.1, h.2.mono hm (fun e e' he h => by rw [he]; exact h)⟩
  | .rp i ver n k o, v, h => ⟨h.1, h.2.mono hm (fun e e' he h => by rw [he]; exact h)⟩
  | .sl i ver c n k o, v, h => ⟨h.1, h.2.mono g hm hl⟩
  | .sp i ver c n k o m x q, v, ⟨h0, b, l, cap, h1, h2⟩ => ⟨h0, b, l, cap, h1.mono g hm hl, h2⟩
  | .tl i ver n k, v, h => ⟨h.1, h.2.mono hm (fun e e' he h => by rw [he]; exact h)⟩
  | .mp i, v, ⟨e, h1, h2⟩ => by
    obtain ⟨e', q1, q2⟩ := g.blk i e h1
    exact ⟨e', q1, by rw [q2]; exact h2⟩
  | .fn f caps, v, ⟨vs, e, h⟩ => ⟨vs, e, capsAt.mono g h⟩
  | .raw _, _, h => h
  | .junk, _, h => h
theorem RepL.mono (g : Grow W E W' E') (hm : MemOk W E M W' E' M') (hl : M.length = E.length) : ∀ {l : List AC} {vs : List Value}, RepL X W E M l vs → RepL X W' E' M' l vs
  | [], _, h => h
  | _ :: _, _, ⟨v, r, e, h1, h2⟩ => ⟨v, r, e, h1.mono g hm hl, RepL.mono g hm hl h2⟩
theorem RepW.mono (g : Grow W E W' E') (hm : MemOk W E M W' E' M') (hl : M.length = E.length) : ∀ {x : AW} {v : Value}, RepW X W E M x v → RepW X W' E' M' x v
  | .c _, _, h => RepC.mono g hm hl h
  | .ag _, _, ⟨cs, e, h⟩ => ⟨cs, e, h.mono g hm hl⟩
theorem RepWs.mono (g : Grow W E W' E') (hm : MemOk W E M W' E' M') (hl : M.length = E.length) : ∀ {l : List AW} {vs : List Value}, RepWs X W E M l vs → RepWs X W' E' M' l vs
  | [], _, h => h
  | _ :: _, _, ⟨v, r, e, h1, h2⟩ => ⟨v, r, e, h1.mono g hm hl, RepWs.mono g hm hl h2⟩
theorem RepV.mono (g : Grow W E W' E') (hm : MemOk W E M W' E' M') (hl : M.length = E.length) : ∀ {x : AV} {v : Value}, RepV X W E M x v → RepV X W' E' M' x v
  | .w _, _, h => RepW.mono g hm hl h
  | .tp _, _, ⟨vs, e, h⟩ => ⟨vs, e, h.mono g hm hl⟩
  | .any, _, _ => trivial
theorem RepT.mono (g : Grow W E W' E') (hm : MemOk W E M W' E' M') (hl : M.length = E.length) : ∀ {l : List AV} {vs : List Value}, RepT X W E M l vs → RepT X W' E' M' l vs
  | [], _, h => h
  | _ :: _, _, ⟨v, r, e, h1, h2⟩ => ⟨v, r, e, h1.mono g hm hl, RepT.mono g hm hl h2⟩
theorem RepC.one : ∀ {c : AC} {v : Value}, RepC X W E M c v → v.oneCell' = true
  | .int _ _, _, h => by rw [h.1]; rfl
  | .bool _, _, h => by rw [show _ = _ from h]; rfl
  | .str _, _, h => by rw [h.1]; rfl
  | .opq _, _, h => by rw [h.1]; exact h.2
  | .hs _ _ _, v, h => h.1
  | .bp _ _, _, ⟨e, _, h⟩ => by rw [h]; rfl
  | .ep _ _ _ _ _, _, h => h.1
  | .row _ _, _, h => h.1
  | .rp _ _ _ _ _, _, h => h.1
  | .sl _ _ _ _ _ _, _, h => h.1
  | .sp _ _ _ _ _ _ _ _ _, _, h => h.1
  | .tl _ _ _ _, _, h => h.1
  | .mp _, _, ⟨e, _, h⟩ => by rw [h]; rfl
  | .fn _ _, _, ⟨vs, e, _⟩ => by rw [e]; rfl
  | .raw _, _, h => by rw [h.1]; exact h.2
  | .junk, _, h => h
theorem RepL.len : ∀ {l : List AC} {vs : List Value}, RepL X W E M l vs → vs.length = l.length
  | [], _, h => by rw [show _ = _ from h]; rfl
  | _ :: _, _, ⟨v, r, e, _, h2⟩ => by rw [e, List.length_cons, RepL.len h2, List.length_cons]
theorem RepL.all : ∀ {l : List AC} {vs : List Value}, RepL X W E M l vs → vs.all (fun v => v.oneCell') = true
  | [], _, h => by rw [show _ = _ from h]; rfl
  | _ :: _, _, ⟨v, r, e, h1, h2⟩ => by rw [e, List.all_cons, h1.one, RepL.all h2]; rfl
theorem RepL.get : ∀ {l : List AC} {vs : List Value} {j : Nat} {c : AC}, RepL X W E M l vs → l[j]? = some c → ∃ v, vs[j]? = some v ∧ RepC X W E M c v
  | [], _, _, _, _, h => by simp at h
  | _ :: _, _, 0, _, ⟨v, r, e, h1, _⟩, h => by simp at h; subst h; exact ⟨v, by rw [e]; rfl, h1⟩
  | _ :: _, _, j + 1, _, ⟨v, r, e, _, h2⟩, h => by
    simp at h
    obtain ⟨u, q1, q2⟩ := RepL.get h2 h
    exact ⟨u, by rw [e]; simpa using q1, q2⟩
theorem RepL.append : ∀ {l k : List AC} {vs us : List Value}, RepL X W E M l vs → RepL X W E M k us → RepL X W E M (l ++ k) (vs ++ us)
  | [], _, _, _, h, h2 => by rw [show _ = _ from h]; exact h2
  | _ :: _, _, _, _, ⟨v, r, e, h1, h3⟩, h2 => by rw [e]; exact ⟨v, _, rfl, h1, RepL.append h3 h2⟩
theorem RepL.split : ∀ {l k : List AC} {vs : List Value}, RepL X W E M (l ++ k) vs → RepL X W E M l (vs.take l.length) ∧ RepL X W E M k (vs.drop l.length)
  | [], _, _, h => ⟨rfl, h⟩
  | _ :: l, _, _, ⟨v, r, e, h1, h2⟩ => by
    obtain ⟨q1, q2⟩ := RepL.split h2
    rw [e]
    exact ⟨⟨v, _, rfl, h1, q1⟩, q2⟩
theorem RepL.take {l : List AC} {vs : List Value} (n : Nat) (h : RepL X W E M l vs) : RepL X W E M (l.take n) (vs.take n) := by
  have hl := h.len
  by_cases hn : n ≤ l.length
  · rw [← List.take_append_drop n l] at h
    have := (RepL.split h).1
    rwa [List.length_take, Nat.min_eq_left hn] at this
  · rw [List.take_of_length_le (by omega), List.take_of_length_le (by omega)]
    exact h
theorem RepL.drop {l : List AC} {vs : List Value} (n : Nat) (h : RepL X W E M l vs) : RepL X W E M (l.drop n) (vs.drop n) := by
  have hl := h.len
  by_cases hn : n ≤ l.length
  · rw [← List.take_append_drop n l] at h
    have := (RepL.split h).2
    rwa [List.length_take, Nat.min_eq_left hn] at this
  · rw [List.drop_of_length_le (by omega), List.drop_of_length_le (by omega)]
    rfl
theorem RepT.len : ∀ {l : List AV} {vs : List Value}, RepT X W E M l vs → vs.length = l.length
  | [], _, h => by rw [show _ = _ from h]; rfl
  | _ :: _, _, ⟨v, r, e, _, h2⟩ => by rw [e, List.length_cons, RepT.len h2, List.length_cons]
theorem RepT.get : ∀ {l : List AV} {vs : List Value} {j : Nat} {x : AV}, RepT X W E M l vs → l[j]? = some x → ∃ v, vs[j]? = some v ∧ RepV X W E M x v
  | [], _, _, _, _, h => by simp at h
  | _ :: _, _, 0, _, ⟨v, r, e, h1, _⟩, h => by simp at h; subst h; exact ⟨v, by rw [e]; rfl, h1⟩
  | _ :: _, _, j + 1, _, ⟨v, r, e, _, h2⟩, h => by
    simp at h
    obtain ⟨u, q1, q2⟩ := RepT.get h2 h
    exact ⟨u, by rw [e]; simpa using q1, q2⟩
theorem RepT.set : ∀ {l : List AV} {vs : List Value} (j : Nat) {x : AV} {v : Value}, RepT X W E M l vs → RepV X W E M x v → RepT X W E M (l.set j x) (vs.set j v)
  | [], _, _, _, _, h, _ => by rw [show _ = _ from h]; rfl
  | _ :: _, _, 0, _, _, ⟨v, r, e, _, h2⟩, h => by rw [e]; exact ⟨_, r, rfl, h, h2⟩
  | _ :: _, _, j + 1, _, _, ⟨v, r, e, h1, h2⟩, h => by rw [e]; exact ⟨v, _, rfl, h1, RepT.set j h2 h⟩
end
theorem lendQ_of {X : List Nat} {W : World} {E : Env} {M : Mem} {Q : List Nat → Prop} {F : List Nat} : ∀ {L : Lnd}, lendF X W E M L F → Q F → lendQ X W E M L Q
  | .no, h, hq => ⟨F, hq, h⟩
  | .at i v c, ⟨t, xs, e, h1, h2, h3⟩, hq => by
    show lendAt E M i v c Q
    unfold lendAt
    rw [h1]
    exact ⟨Nat.le_refl _, fun _ => ⟨Nat.le_refl _, fun _ => ⟨e, F, h2, hq, h3⟩⟩⟩
/-- is it still lent? -/
def liveAt (M : Mem) (i v c : Nat) : Bool := match M[i]? with
  | some (.row _ _ cv cc none) => Nat.beq v cv && Nat.beq c cc
  | _ => false
def liveL (M : Mem) : Lnd → Bool
  | .no => true
  | .at i v c => liveAt M i v c
theorem lend_live {X : List Nat} {W : World} {E : Env} {M : Mem} {Q : List Nat → Prop} : ∀ {L : Lnd}, liveL M L = true → lendQ X W E M L Q → ∃ F, Q F ∧ lendF X W E M L F
  | .no, _, ⟨F, h1, h2⟩ => ⟨F, h1, h2⟩
  | .at i v c, hl, h => by
    have hl : liveAt M i v c = true := hl
    have h : lendAt E M i v c Q := h
    unfold liveAt at hl
    unfold lendAt at h
    split at hl
    · rename_i t xs cv cc hM
      rw [hM] at h
      rw [Bool.and_eq_true] at hl
      have e1 := Nat.eq_of_beq_eq_true hl.1
      have e2 := Nat.eq_of_beq_eq_true hl.2
      subst e1
      subst e2
      obtain ⟨e, F, q1, q2, q3⟩ := (h.2 rfl).2 rfl
      exact ⟨F, q2, t, xs, e, hM, q1, q3⟩
    · cases hl
theorem lendF.sub {X : List Nat} {W : World} {E : Env} {M : Mem} {F F' : List Nat} : ∀ {L : Lnd}, lendF X W E M L F → (∀ b ∈ F', b ∈ F) → lendF X W E M L F'
  | .no, h, hs => fun b hb => h b (hs b hb)
  | .at _ _ _, ⟨t, xs, e, h1, h2, h3⟩, hs => ⟨t, xs, e, h1, h2, fun b hb => h3 b (hs b hb)⟩
theorem lendF.av {X : List Nat} {W : World} {E : Env} {M : Mem} {F : List Nat} (hM : RepM X W E M) : ∀ {L : Lnd}, lendF X W E M L F → ∀ b ∈ F, b ∉ X ∧ b < W.heap.size
  | .no, h => fun b hb => ⟨(h b hb).1.2, (h b hb).2⟩
  | .at _ _ _, ⟨t, xs, e, h1, h2, h3⟩ => fun b hb => by
    have hm : b ∈ foots E := mem_foots.2 ⟨e, List.mem_of_getElem? h2, h3 b hb⟩
    exact ⟨fun hx => hM.xlt b hx hm, hM.lt b hm⟩
/-- what a typed Lean value's cells stand for -/
theorem repL_of_rep {X : List Nat} {W : World} {E : Env} {M : Mem} {L : Lnd} : ∀ (t : Ty) {x : t.den} {cs : List Value} {F : List Nat}, rep W x cs F → lendF X W E M L F → RepL X W E M (cellsW L t x) cs
  | .int k, x, cs, F, h, _ => ⟨_, [], h.1, ⟨rfl, h.2.1⟩, rfl⟩
  | .bool, x, cs, F, h, _ => ⟨_, [], h.1, rfl, rfl⟩
  | .str, x, cs, F, h, _ => ⟨_, [], h.1, ⟨rfl, h.2.1⟩, rfl⟩
  | .opq, x, cs, F, h, _ => ⟨_, [], h.1, ⟨rfl, h.2.1⟩, rfl⟩
  | .prod a b, x, cs, F, h, hF => by
    obtain ⟨c1, c2, F1, F2, h1, h2, rfl, rfl⟩ := h
    exact (repL_of_rep a h1 (hF.sub (fun q hq => by simp [hq]))).append (repL_of_rep b h2 (hF.sub (fun q hq => by simp [hq])))
  | .list a, x, cs, F, h, hF => by
    obtain ⟨A, c, rfl, hs⟩ := h
    exact ⟨_, [], rfl, ⟨rfl, lendQ_of hF ⟨A, c, rfl, hs⟩⟩, rfl⟩
end Go.Proofs.YtkompmgleojmlaaDoor
