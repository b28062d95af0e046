/-
  Several texts in one.
-/
import Derived.Test.YtoigkpkafgjeaaaGreatDoorOBmZ
import Derived.Lib.ItoaNum
set_option linter.unusedSimpArgs false
set_option linter.unusedVariables false
namespace Go.Proofs.YtoigkpkafgjeaaaGreatDoor
open Go.ChangeShapes Go.WideShapes Go.ChangeAt Go.RowKit Go.Joins Go.Deep
open GoRep (rep bulk)

section
variable {P : Program} {X : List Nat} {W : World} {E : Env} {M : Mem} {a : Act} {tm : List AV} {o : Oper}
theorem wf_nat {n : Nat} (h : n ≤ maxLen) : (Lit.int .i64 (n : Int)).wf = true := by
  rw [lit_wf]
  have hmm : IntKind.i64.min = -9223372036854775808 ∧ IntKind.i64.max = 9223372036854775807 := by decide
  unfold maxLen at h
  omega
set_option maxHeartbeats 1000000 in
theorem opA_sound (hM : RepM X W E M) (ht : RepT X W E M tm a.tmps.toList) (hn : (opA P tm M o).need) : Does X P o a W E M (opA P tm M o).val (opA P tm M o).mem := by
  unfold opA at hn ⊢
  cases ho : o.op <;> simp only [ho] at hn ⊢
  case move x => exact Does.stay hM (u := a.eval x) (by unfold execOp; simp only [ho]; rfl) (evalA_rep ht x)
  case assign x => exact Does.stay hM (u := a.eval x) (by unfold execOp; simp only [ho]; rfl) (evalA_rep ht x)
  case pick c x y =>
    have hc := evalA_rep ht c
    split at hn
    · rename_i g hg
      rw [hg] at hc
      refine Does.stay hM (u := if g then a.eval x else a.eval y) ?_ (pickA_rep (evalA_rep ht x) (evalA_rep ht y))
      unfold execOp
      simp only [ho, bool_of hc]
      rfl
    · exact hn.elim
  case alloc e =>
    split at hn
    · rename_i z hz
      cases hq : P.info? e with
      | none => rw [hq] at hz; cases hz
      | some i =>
        rw [hq] at hz
        cases hok : z.cells.toList.all absOk with
        | false => rw [hok] at hn; exact hn.elim
        | true => simp only [cond_true]; exact does_alloc hM ho hq hz hok
    · exact hn.elim
  case box e x =>
    split at hn
    · rename_i l hl; exact does_box hM ht ho hl
    · exact hn.elim
  case load t x =>
    split at hn
    · rename_i i q hx
      split at hn
      · rename_i l hb
        split at hn
        · rename_i v hv; exact does_load_box hM ht ho hx hb hv
        · exact hn.elim
      · exact hn.elim
    · rename_i L t' xs k q hx
      cases hL : liveL M L with
      | false => rw [hL] at hn; exact hn.elim
      | true =>
        simp only [hL, cond_true] at hn ⊢
        split at hn
        · rename_i v hv; exact does_load_ep hM ht ho hx hL hv
        · exact hn.elim
    · rename_i i v n k q hx
      split at hn
      · rename_i r hr
        cases hb : Nat.beq n r.t.n with
        | false => rw [hb] at hn; exact hn.elim
        | true =>
          simp only [hb, cond_true] at hn ⊢
          split at hn
          · rename_i u hu; exact does_load_rp hM ht ho hx hr (Nat.eq_of_beq_eq_true hb) hu
          · exact hn.elim
      · exact hn.elim
    · rename_i i v c n k o' m y q hx
      split at hn
      · rename_i r hr
        cases hb : Nat.beq m r.t.n with
        | false => rw [hb] at hn; exact hn.elim
        | true =>
          simp only [hb, cond_true] at hn ⊢
          split at hn
          · rename_i u hu; exact does_load_sp hM ht ho hx hr (Nat.eq_of_beq_eq_true hb) hu
          · exact hn.elim
      · exact hn.elim
    · exact hn.elim
  case store t x y =>
    split at hn
    · rename_i i q l' hx hy
      split at hn
      · rename_i l hb
        cases hc : (Nat.beq l'.length (sizeT P t)) && (Nat.ble (q + l'.length) l.length && Nat.blt 0 (sizeT P t)) with
        | false => rw [hc] at hn; exact hn.elim
        | true =>
          rw [Bool.and_eq_true, Bool.and_eq_true] at hc
          have h1 := Nat.eq_of_beq_eq_true hc.1
          have h2 := Nat.le_of_ble_eq_true hc.2.1
          have h3 : 0 < sizeT P t := Nat.le_of_ble_eq_true hc.2.2
          simp only [cond_true]
          exact does_store_box hM ht ho hx hy hb h1 h3 h2
      · exact hn.elim
    · rename_i i v n k q l' hx hy
      cases hh : holed M i with
      | true => rw [hh] at hn; exact does_storeH hM ht ho hx hy hn
      | false => rw [hh] at hn; exact does_storeR hM ht ho hx hy hn
    · exact hn.elim
  case build t parts =>
    split at hn
    · rename_i l hl; exact does_build hM ht ho hl
    · exact hn.elim
  case buildSlice t len parts =>
    split at hn
    · rename_i e hu
      split at hn
      · rename_i tt htt
        split at hn
        · rename_i ys js hp
          cases hc : (rowTy P e tt.n && Nat.ble (len * tt.n) 16777216) && (Nat.beq len parts.size && distinct js) with
          | false => rw [hc] at hn; exact hn.elim
          | true =>
            simp only [hc, cond_true]
            simp only [Bool.and_eq_true] at hc
            exact does_buildSlice hM ht ho hu hp hc.1.1 (Nat.le_of_ble_eq_true hc.1.2) (Nat.eq_of_beq_eq_true hc.2.1) hc.2.2
        · cases hfl : tt.flat with
          | true => rw [hfl] at hn; exact hn.elim
          | false =>
            simp only [hfl, cond_false] at hn ⊢
            split at hn
            · rename_i tq htq
              try simp only [htq]
              split at hn
              · rename_i ys js hp
                try simp only [hp]
                cases hc : (rowTy P e tq.n && Nat.ble (len * tq.n) 16777216) && (Nat.beq len parts.size && distinct js) with
                | false => rw [hc] at hn; exact hn.elim
                | true =>
                  simp only [cond_true]
                  simp only [Bool.and_eq_true] at hc
                  exact does_buildSlice hM ht ho hu hp hc.1.1 (Nat.le_of_ble_eq_true hc.1.2) (Nat.eq_of_beq_eq_true hc.2.1) hc.2.2
              · exact hn.elim
            · exact hn.elim
      · exact hn.elim
    · exact hn.elim
  case makeSlice t l c =>
    split at hn
    · rename_i e n m hu hl hc
      split at hn
      · rename_i tt z htt hz
        cases hcnd : z.cells.toList.all absOk && rowTy P e tt.n with
        | false => rw [hcnd] at hn; exact hn.elim
        | true =>
          simp only [hcnd, cond_true] at hn ⊢
          rw [Bool.and_eq_true] at hcnd
          split at hn
          · rename_i d hd
            exact does_makeSlice hM ht ho hu hl hc hz hcnd.1 hcnd.2 hd hn
          · exact hn.elim
      · exact hn.elim
    · exact hn.elim
  case nilCheck x =>
    split at hn
    · rename_i i q hx; exact does_nilCheck hM ht ho hx (.inl trivial)
    · rename_i L t xs k q hx
      cases hL : liveL M L with
      | false => rw [hL] at hn; exact hn.elim
      | true => simp only [cond_true]; exact does_nilCheck hM ht ho hx (.inl hL)
    · rename_i i v n k q hx
      cases hL : (rowIx M i v).isSome with
      | false => rw [hL] at hn; exact hn.elim
      | true => simp only [cond_true]; exact does_nilCheck hM ht ho hx (.inl hL)
    · rename_i i v c n k o' m y q hx
      cases hL : (readSl M i v c n k o').isSome with
      | false => rw [hL] at hn; exact hn.elim
      | true => simp only [cond_true]; exact does_nilCheck hM ht ho hx (.inl hL)
    · rename_i f l hx; exact does_nilCheck hM ht ho hx (.inr ⟨f, l, rfl⟩)
    · exact hn.elim
  case binOp op t x y yt => exact does_bin hM ht ho hn
  case unOp op t x =>
    cases op <;> simp only at hn ⊢
    case not =>
      split at hn
      · rename_i b hx; exact does_not hM ht ho hx
      · exact hn.elim
    case neg =>
      split at hn
      · rename_i k n hx; exact does_neg hM ht ho hx
      · exact hn.elim
    all_goals exact hn.elim
  case convert s d x =>
    split at hn
    · rename_i k k' n hd hx
      exact does_convert hM ht ho hd hn hx
    · rename_i c hd hx
      split at hn
      · rename_i e hs
        cases hu : isU8 P e with
        | false => rw [hu] at hn; exact hn.elim
        | true =>
          simp only [hu, cond_true] at hn ⊢
          split at hn
          · rename_i xs hst
            simp only [hst]
            exact does_toStr hM ht ho hd hs hu hx hst hn
          · exact hn.elim
      · exact hn.elim
    · exact hn.elim
  case makeFunc fn first captured =>
    cases fn <;> simp only at hn ⊢
    case func f =>
      split at hn
      · rename_i l hf hc; exact does_makeFunc hM ht ho hf hc
      · exact hn.elim
    all_goals exact hn.elim
  case slice t x lo hi mx =>
    cases mx with
    | some _ => exact hn.elim
    | none =>
      simp only at hn ⊢
      split at hn
      · rename_i hu
        split at hn
        · rename_i s hx
          exact does_slice_str (P := P) (o := o) hM ht ho hu hx hn
        · exact hn.elim
      · rename_i e hu
        split at hn
        · rename_i cc hx
          split at hn
          · rename_i L q hr
            exact does_slice (P := P) (o := o) hM ht ho hu hx hr hn.1 hn.2
          · exact hn.elim
        · exact hn.elim
      · exact hn.elim
  case fieldAddr s x n =>
    unfold fieldAt? at hn ⊢
    cases hs : P.underlying s with
    | none => rw [hs] at hn; exact hn.elim
    | some d =>
      rw [hs] at hn
      cases d <;> simp only at hn ⊢ <;> try exact hn.elim
      rename_i fs
      cases hf : fs[n]? with
      | none => rw [hf] at hn; exact hn.elim
      | some f =>
        rw [hf] at hn
        simp only at hn ⊢
        cases hz : Nat.beq (sizeT P f.type) 0 with
        | true => rw [hz] at hn; exact hn.elim
        | false =>
          rw [hz] at hn
          simp only [cond_false] at hn ⊢
          have hz' : sizeT P f.type ≠ 0 := fun e => by rw [e] at hz; cases hz
          split at hn
          · rename_i i q hx; exact does_fieldAddr hM ht ho hs hf hz' hx trivial rfl
          · rename_i L t xs k q hx
            cases hL : liveL M L with
            | false => rw [hL] at hn; exact hn.elim
            | true => simp only [cond_true]; exact does_fieldAddr hM ht ho hs hf hz' hx hL rfl
          · rename_i i v n k q hx
            cases hL : (rowIx M i v).isSome with
            | false => rw [hL] at hn; exact hn.elim
            | true => simp only [cond_true]; exact does_fieldAddr hM ht ho hs hf hz' hx hL rfl
          · rename_i i v c n k o' m y q hx
            cases hL : (readSl M i v c n k o').isSome with
            | false => rw [hL] at hn; exact hn.elim
            | true => simp only [cond_true]; exact does_fieldAddr hM ht ho hs hf hz' hx hL rfl
          · exact hn.elim
  case indexAddr t x i =>
    split at hn
    · rename_i e L t' xs k n hu hx hi
      cases hL : liveL M L with
      | false => rw [hL] at hn; exact hn.elim
      | true =>
        simp only [hL, cond_true] at hn ⊢
        exact does_indexAddr hM ht ho hu hx hi hL hn.1 hn.2.1 hn.2.2
    · rename_i e i v k n hu hx hi
      split at hn
      · rename_i r hr
        exact does_indexRow hM ht ho hu hx hi hr hn.1 hn.2.1 hn.2.2
      · exact hn.elim
    · rename_i e i v c n' k' o' k n hu hx hi
      split at hn
      · rename_i r hr
        exact does_indexSl hM ht ho hu hx hi hr hn.1 hn.2.1 hn.2.2
      · exact hn.elim
    · exact hn.elim
  case index t x i =>
    split at hn
    · rename_i s k n hu hx hi; exact does_index hM ht ho hu hx hi hn.1 hn.2
    · exact hn.elim
  case field s x f =>
    split at hn
    · rename_i fd hf
      split at hn
      · rename_i l hx
        split at hn
        · rename_i u hu; exact does_field hM ht ho hf hx hu
        · exact hn.elim
      · exact hn.elim
    · exact hn.elim
  case extract x n =>
    split at hn
    · rename_i l hx
      split at hn
      · rename_i w hw; exact does_extract hM ht ho hx hw
      · exact hn.elim
    · exact hn.elim
  case call c =>
    obtain ⟨cal, xs, ts⟩ := c
    cases cal <;> simp only at hn ⊢ <;> try exact hn.elim
    rename_i b
    cases b <;> simp only at hn ⊢ <;> try exact hn.elim
    case len =>
      split at hn
      · rename_i t x hts hxs
        have hx := evalA_rep (M := M) (W := W) (E := E) ht x
        split at hn
        · rename_i s hu he
          rw [he] at hx
          obtain ⟨e1, e2⟩ := str_of hx
          exact run_len hM (u := .int .i64 (s.size : Nat)) ⟨rfl, wf_nat e2⟩ ho hts hxs e1 (run_len_string _ _ _ _ hu) rfl
        · rename_i e hu he
          rw [he] at hx
          exact run_len hM (u := .int .i64 0) ⟨rfl, by decide⟩ ho hts hxs hx.1 (by simp [Builtin.len_, run_underlying hu, goInt]) rfl
        · rename_i e cc hu he
          rw [he] at hx
          split at hn
          · rename_i L q hr
            obtain ⟨A, c, F, e1, hs, _⟩ := read_of (X := X) hM hr hx
            exact run_len hM (u := .int .i64 (q.xs.length : Nat)) ⟨rfl, wf_nat (Nat.le_trans hs.1 hs.2.1)⟩ ho hts hxs e1 (by simp [Builtin.len_, run_underlying hu, goInt]) rfl
          · exact hn.elim
        · exact hn.elim
      · exact hn.elim
    case append =>
      split at hn
      · rename_i t t2 x y hts hxs
        split at hn
        · rename_i e hu
          cases hb : Nat.beq t t2 with
          | false =>
            simp only [hb, cond_false] at hn ⊢
            split at hn
            · rename_i s hu2 hy
              exact does_appendS hM ht ho hxs hts hu hu2 hy hn
            · exact hn.elim
          | true =>
            obtain rfl := Nat.eq_of_beq_eq_true hb
            simp only [hb, cond_true] at hn ⊢
            split at hn
            · rename_i q hq
              try simp only [hq]
              exact does_retyp hM ht ho hxs hts hu hq hn
            · rename_i hq
              try simp only [hq]
              exact does_append hM ht ho hxs hts hu hn
        · exact hn.elim
      · exact hn.elim
    case min =>
      split at hn
      · rename_i k p k' q hxs; exact does_minmax hM ht ho hxs (.inl ⟨rfl, rfl⟩) hn
      · rename_i k p k' q k'' r hxs; exact does_min3 hM ht ho hxs hn
      · exact hn.elim
    case max =>
      split at hn
      · rename_i k p k' q hxs; exact does_minmax hM ht ho hxs (.inr ⟨rfl, rfl⟩) hn
      · exact hn.elim
  all_goals exact hn.elim
end
end Go.Proofs.YtoigkpkafgjeaaaGreatDoor
set_option linter.unusedSimpArgs false
set_option linter.unusedVariables false
namespace Go.Proofs.YtoigkpkafgjeaaaGreatDoor
open Go.ChangeShapes Go.WideShapes Go.ChangeAt Go.RowKit Go.Joins Go.Deep
open GoRep (rep bulk)

/-- how an argument comes: one cell; a struct by value; a pointer to a variable that nobody writes; a struct at whose slices nobody looks -/
inductive ATy where
  | v (t : Ty)
  | s (t : Ty)
  | p (t : Ty)
  | q (t : Ty)
def ATy.ty : ATy → Ty
  | .q t => t
  | .v t => t
  | .s t => t
  | .p t => t
def AD : List ATy → Type
  | [] => Unit
  | a :: l => a.ty.den × AD l
def enc1 (t : Ty) (x : t.den) : AC := (cellsOf t x).headD (.bool false)
/-- a value's cells, its slices left open -/
def cellsJ : (t : Ty) → t.den → List AC
  | .int k, x => [.int k x]
  | .bool, b => [.bool b]
  | .str, s => [.str s]
  | .opq, v => [.opq v]
  | .prod a b, x => cellsJ a x.1 ++ cellsJ b x.2
  | .list _, _ => [.junk]
def encA1 : (a : ATy) → a.ty.den → AW
  | .v t, x => .c (enc1 t x)
  | .s t, x => .ag (cellsOf t x)
  | .p t, x => .c (.ep .no t [x] 0 0)
  | .q t, x => .ag (cellsJ t x)
def encA : (l : List ATy) → AD l → List AW
  | [], _ => []
  | a :: l, x => encA1 a x.1 :: encA l x.2
def decInt (k : IntKind) : List AC → Option (Int × List AC)
  | .int k' x :: l => if k' = k then some (x, l) else none
  | _ => none
def decBool : List AC → Option (Bool × List AC)
  | .bool b :: l => some (b, l)
  | _ => none
def decStr : List AC → Option (ByteArray × List AC)
  | .str b :: l => some (b, l)
  | _ => none
def decList (M : Mem) (a : Ty) : List AC → Option (List a.den × List AC)
  | .raw (.slice none 0 0) :: l => some ([], l)
  | c :: l => match readL M c with
    | some (_, q) => if h : q.t = a then some (h ▸ q.xs, l) else none
    | none => none
  | [] => none
def decOpq : List AC → Option (Value × List AC)
  | .opq v :: l => some (v, l)
  | _ => none
def decT (M : Mem) : (t : Ty) → List AC → Option (t.den × List AC)
  | .int k, l => decInt k l
  | .bool, l => decBool l
  | .str, l => decStr l
  | .opq, l => decOpq l
  | .prod a b, l => match decT M a l with
    | some (x, l1) => match decT M b l1 with
      | some (y, l2) => some ((x, y), l2)
      | none => none
    | none => none
  | .list a, l => decList M a l
/-- cells to a value whose slices are left out -/
def decJ : (t : Ty) → List AC → Option (t.den × List AC)
  | .int k, l => decInt k l
  | .bool, l => decBool l
  | .str, l => decStr l
  | .opq, l => decOpq l
  | .prod a b, l => match decJ a l with
    | some (x, l1) => match decJ b l1 with
      | some (y, l2) => some ((x, y), l2)
      | none => none
    | none => none
  | .list a, _ :: l => some ((([] : List a.den) : (Ty.list a).den), l)
  | .list _, [] => none
def slC : AC → Bool
  | .sl _ _ _ _ _ _ => true
  | _ => false
def decA1 (M : Mem) : (a : ATy) → AV → Option a.ty.den
  | .v t, .w (.c a) => match decT M t [a] with
    | some (x, []) => some x
    | _ => none
  | .s t, .w (.ag l) => match decT M t l with
    | some (x, []) => some x
    | _ => none
  | .p t, .w (.c (.bp i 0)) => match M[i]? with
    | some (.box l) => match decT M t l with
      | some (x, []) => some x
      | _ => none
    | _ => none
  | .p t, .w (.c (.ep L t' xs k 0)) => bif liveL M L then (if h : t' = t then some (h ▸ nth t' xs k) else none) else none
  | .q t, .w (.ag l) => bif l.any slC then (match decJ t l with
    | some (x, []) => some x
    | _ => none) else none
  | _, _ => none
def decA (M : Mem) : (l : List ATy) → List AV → Option (AD l)
  | [], [] => some ()
  | a :: l, x :: xs => match decA1 M a x with
    | some y => match decA M l xs with
      | some ys => some (y, ys)
      | none => none
    | none => none
  | _, _ => none
def blkCells : Option Obj → Option (Array Value)
  | some (.cells cs _ _) => some cs
  | _ => none
def gInt (o : Option Obj) : Prop := ∃ cs m, blkCells o = some cs ∧ cs[0]? = some (.int .i64 m)
def gTab (k : IntKind) (zs : List Int) (o : Option Obj) : Prop := blkCells o = some (zs.map fun z => Value.int k z).toArray
/-- the library's variables that the seat's laws read, and what they must hold -/
def globs : List (Nat × (Option Obj → Prop)) := [(0, gInt), (1, gTab .u64 Lib.pow10Tab)]
/-- they hold what they must, and none of our blocks is theirs -/
def Glob (W : World) (E : Env) : Prop := ∀ g ∈ globs, g.2 W.heap[g.1]? ∧ g.1 < W.heap.size ∧ g.1 ∉ foots E
theorem Glob.grow {W W' : World} {E E' : Env} (h : Glob W E) (k : Grow W E W' E') : Glob W' E' := fun g hg => by
  obtain ⟨h1, h2, h3⟩ := h g hg
  refine ⟨?_, Nat.lt_of_lt_of_le h2 k.size, fun hb => (k.new g.1 hb).elim h3 (fun hge => by omega)⟩
  rw [k.keep g.1 h2 h3]
  exact h1
theorem Glob.sub {W : World} {E E' : Env} (h : Glob W E) (hs : ∀ b ∈ foots E', b ∈ foots E) : Glob W E' := fun g hg => ⟨(h g hg).1, (h g hg).2.1, fun hb => (h g hg).2.2 (hs g.1 hb)⟩
theorem cell_blk {W : World} {g i : Nat} {cs : Array Value} (h : blkCells W.heap[g]? = some cs) : W.cell? ⟨g, i, none⟩ = cs[i]? := by
  unfold blkCells at h
  split at h
  · rename_i e
    simp only [Option.some.injEq] at h
    subst h
    simp [World.cell?, e]
  · cases h
theorem Glob.int {W : World} {E : Env} {g : Nat} (h : Glob W E) (hg : (g, gInt) ∈ globs) : ∃ m, W.cell? ⟨g, 0, none⟩ = some (.int .i64 m) := by
  obtain ⟨⟨cs, m, h1, h2⟩, _⟩ := h _ hg
  exact ⟨m, (cell_blk h1).trans h2⟩
theorem Glob.nil {W : World} {E : Env} (h : Glob W E) : Glob W [] := h.sub (fun b hb => by simp [foots] at hb)
/-- The contract of a function that finds nothing of the caller's to write: its arguments, its result, the rows that it made for it. -/
def BCalls (P : Program) (f : FuncId) (args : List AW) (r : AV) (new : Mem) : Prop :=
  ∀ (X : List Nat) (W : World) (vs : List Value), (∀ b ∈ X, b < W.heap.size) → Glob W [] → RepWs X W [] [] args vs →
    Calls P f vs.toArray W (fun e W' => ∃ v E', e = .returned v ∧ Grow W [] W' E' ∧ RepM X W' E' new ∧ RepV X W' E' new r v)
structure Entry (P : Program) where
  f : FuncId
  ins : List ATy
  pre : AD ins → Prop
  res : AD ins → AV
  new : AD ins → Mem
  ok : ∀ x, pre x → BCalls P f (encA ins x) (res x) (new x)
  ent : ∀ args w, (callFunc f args).run P w = .ok (.enter f args) w
def findE {P : Program} (f : FuncId) : List (Entry P) → Option (Entry P)
  | [] => none
  | e :: l => bif Nat.beq e.f f then some e else findE f l
/-- how many slices -/
def Ty.nl : Ty → Nat
  | .prod a b => a.nl + b.nl
  | .list _ => 1
  | _ => 0
/-- a value's cells, its slices the rows from k on -/
def rowCells : Nat → (t : Ty) → t.den → List AC
  | _, .int k, x => [.int k x]
  | _, .bool, b => [.bool b]
  | _, .str, s => [.str s]
  | _, .opq, v => [.opq v]
  | k, .prod a b, x => rowCells k a x.1 ++ rowCells (k + a.nl) b x.2
  | k, .list _, _ => [.row k 0]
def rowsOf : (t : Ty) → t.den → Mem
  | .prod a b, x => rowsOf a x.1 ++ rowsOf b x.2
  | .list a, xs => [.row a xs 0 0 none]
  | _, _ => []
def nilRows : Ty → Mem
  | .prod a b => nilRows a ++ nilRows b
  | .list a => [.row a [] 0 0 none]
  | _ => []
def seqN : Nat → Nat → List Nat
  | _, 0 => []
  | k, n + 1 => k :: seqN (k + 1) n
/-- what a closure that is handed over captured: a variable of foreign content; a variable that points to block j -/
inductive CapK where
  | b (t : Ty)
  | ptr (j : Nat)
/-- how an argument comes to a function that writes what is the caller's: borrowed; a pointer to a variable, all own; a pointer to an element of an own row; rows written in place; rows given away; a pointer to a variable of foreign content; a closure -/
inductive MTy where
  | a (y : ATy)
  | m (t : Ty)
  | e (t : Ty)
  | q (agg : Bool) (t : Ty)
  | g (agg : Bool) (t : Ty)
  | b (t : Ty)
  | f (g : FuncId) (l : List CapK)
def capD : List CapK → Type
  | [] => Unit
  | .b t :: l => t.den × capD l
  | .ptr _ :: l => capD l
def MTy.D : MTy → Type
  | .a y => y.ty.den
  | .m t => t.den
  | .e t => List t.den × Nat
  | .q _ t => t.den
  | .g _ t => t.den
  | .b t => t.den
  | .f _ l => capD l
def MD : List MTy → Type
  | [] => Unit
  | y :: l => y.D × MD l
/-- how many blocks -/
def MTy.nb : MTy → Nat
  | .a _ => 0
  | .m t => t.nl + 1
  | .e _ => 1
  | .q _ t => t.nl
  | .g _ t => t.nl
  | .b _ => 1
  | .f _ l => l.length
def capM : (l : List CapK) → capD l → Mem
  | [], _ => []
  | .b t :: l, x => .box (cellsOf t x.1) :: capM l x.2
  | .ptr j :: l, x => .box [.bp j 0] :: capM l x
def oneA (agg : Bool) (l : List AC) : AW := bif agg then .ag l else .c (l.headD .junk)
def argM1 (k : Nat) : (y : MTy) → y.D → AW
  | .a y, x => encA1 y x
  | .m _, _ => .c (.bp k 0)
  | .e t, x => .c (.rp k 0 t.n x.2 0)
  | .q g t, x => oneA g (rowCells k t x)
  | .g g t, x => oneA g (rowCells k t x)
  | .b _, _ => .c (.bp k 0)
  | .f g l, _ => .c (.fn g (seqN k l.length))
def preM1 (k : Nat) : (y : MTy) → y.D → Mem
  | .a _, _ => []
  | .m t, x => .box (rowCells (k + 1) t x) :: rowsOf t x
  | .e t, x => [.row t x.1 0 0 none]
  | .q _ t, x => rowsOf t x
  | .g _ t, x => rowsOf t x
  | .b t, x => [.box (cellsOf t x)]
  | .f _ l, x => capM l x
def postM1 (k : Nat) : (y : MTy) → y.D → Mem
  | .g _ t, _ => nilRows t
  | y, x => preM1 k y x
def argsM : Nat → (l : List MTy) → MD l → List AW
  | _, [], _ => []
  | k, y :: l, x => argM1 k y x.1 :: argsM (k + y.nb) l x.2
def preM : Nat → (l : List MTy) → MD l → Mem
  | _, [], _ => []
  | k, y :: l, x => preM1 k y x.1 ++ preM (k + y.nb) l x.2
def postM : Nat → (l : List MTy) → MD l → Mem
  | _, [], _ => []
  | k, y :: l, x => postM1 k y x.1 ++ postM (k + y.nb) l x.2
/-- the rows whose value stays -/
def inpM : Nat → List MTy → List Nat
  | _, [] => []
  | k, .e t :: l => k :: inpM (k + 1) l
  | k, .q g t :: l => seqN k t.nl ++ inpM (k + t.nl) l
  | k, y :: l => inpM (k + y.nb) l
structure GrowX (W : World) (E : Env) (W' : World) (E' : Env) : Prop where
  os : W'.os = W.os
  tape : W'.tape = W.tape
  output : W'.output = W.output
  size : W.heap.size ≤ W'.heap.size
  keep : ∀ b, b < W.heap.size → b ∉ foots E → W'.heap[b]? = W.heap[b]?
  new : ∀ b ∈ foots E', b ∈ foots E ∨ W.heap.size ≤ b
/-- The contract of a function that writes what is the caller's: the blocks before, those behind, the rows whose value stays. -/
def MCalls (P : Program) (f : FuncId) (args : List AW) (pm qm : Mem) (inp : List Nat) (res : AV) : Prop :=
  ∀ (X : List Nat) (W : World) (E : Env) (vs : List Value), Glob W E → RepM X W E pm → RepWs X W E pm args vs →
    Calls P f vs.toArray W (fun e W' => ∃ v E', e = .returned v ∧ GrowX W E W' E' ∧ (∀ (i : Nat) (l : List AC) (e0 : EB), pm[i]? = some (.box l) → E[i]? = some e0 → ∃ e', E'[i]? = some e' ∧ e'.blk = e0.blk) ∧
      (∀ i ∈ inp, ∀ e0, E[i]? = some e0 → ∃ e', E'[i]? = some e' ∧ e'.val = e0.val) ∧ RepM X W' E' qm ∧ RepV X W' E' qm res v)
structure MEntry (P : Program) where
  f : FuncId
  ins : List MTy
  pre : MD ins → Prop
  post : MD ins → MD ins
  res : MD ins → AV
  new : MD ins → Mem
  ok : ∀ x, pre x → MCalls P f (argsM 0 ins x) (preM 0 ins x) (postM 0 ins (post x) ++ new x) (inpM 0 ins) (res x)
  ent : ∀ args w, (callFunc f args).run P w = .ok (.enter f args) w
def findM {P : Program} (f : FuncId) : List (MEntry P) → Option (MEntry P)
  | [] => none
  | e :: l => bif Nat.beq e.f f then some e else findM f l
def decCaps (M : Mem) : (l : List CapK) → List Nat → Option (capD l)
  | [], [] => some ()
  | .b t :: l, i :: is => match M[i]? with
    | some (.box c) => match decT M t c with
      | some (x, []) => match decCaps M l is with
        | some r => some (x, r)
        | none => none
      | _ => none
    | _ => none
  | .ptr _ :: l, _ :: is => decCaps M l is
  | _, _ => none
def decM1 (M : Mem) : (y : MTy) → AV → Option y.D
  | .a y, x => decA1 M y x
  | .m t, .w (.c (.bp i 0)) => match M[i]? with
    | some (.box l) => (ownWhole M t l).map (·.1)
    | _ => none
  | .e t, .w (.c (.rp i v n k 0)) => match rowAt M i v with
    | some r => if h : r.t = t then some (h ▸ r.xs, k) else none
    | none => none
  | .q _ t, x => (ownV M t x).map (·.1)
  | .g _ t, x => (ownV M t x).map (·.1)
  | .b t, .w (.c (.bp i 0)) => match M[i]? with
    | some (.box l) => match decT M t l with
      | some (x, []) => some x
      | _ => none
    | _ => none
  | .f _ l, .w (.c (.fn _ ids)) => decCaps M l ids
  | _, _ => none
def decM (M : Mem) : (l : List MTy) → List AV → Option (MD l)
  | [], [] => some ()
  | y :: l, x :: xs => match decM1 M y x with
    | some d => match decM M l xs with
      | some ds => some (d, ds)
      | none => none
    | none => none
  | _, _ => none
/-- names no block of ours -/
def freeC : AC → Bool
  | .bp _ _ => false
  | .row _ _ => false
  | .rp _ _ _ _ _ => false
  | .fn _ _ => false
  | .junk => false
  | .sl _ _ _ _ _ _ => false
  | .sp _ _ _ _ _ _ _ _ _ => false
  | .tl _ _ _ _ => false
  | .mp _ => false
  | .hs L _ _ => decide (L = .no)
  | .ep L _ _ _ _ => decide (L = .no)
  | _ => true
def isNilC : AC → Bool
  | .raw (.slice none 0 0) => true
  | _ => false
def leC : AC → AC → Prop
  | .int k x, .int k' y => k = k' ∧ x = y
  | .bool x, .bool y => x = y
  | .str x, .str y => x = y
  | .opq x, .opq y => x = y
  | .hs L t xs, .hs L' t' ys => L = L' ∧ ∃ h : t = t', h ▸ xs = ys
  | x, y => x = y
/-- the same; nil is an empty list -/
def leN (a b : AC) : Prop := match a, b with
  | .raw (.slice none 0 0), .hs .no _ xs => xs = []
  | a, b => leC a b
/-- our state held against a pattern of another numbering: what is asked, the blocks of ours that stand for the pattern's, in its order -/
structure MR where
  need : Prop
  used : List (Option Nat)
def MR.no : MR := ⟨False, []⟩
/-- own row i for the pattern's row j -/
def matchRow (M new : Mem) (acc : List (Option Nat)) (j w : Nat) (a : AC) : MR :=
  bif Nat.beq j acc.length && Nat.beq w 0 then (match new[j]? with
      | some (.row t ys v c none) => bif Nat.beq v 0 && Nat.beq c 0 then (bif isNilC a then ⟨ys = [], [none]⟩ else (match a with
        | .row i u => match rowAt M i u with
          | some r => if h : r.t = t then ⟨h ▸ r.xs = ys, [some i]⟩ else .no
          | none => .no
        | _ => .no)) else .no
      | _ => .no) else .no
def accAt (acc : List (Option Nat)) (j i : Nat) : Bool := match acc[j]? with
  | some (some i') => Nat.beq i i'
  | _ => false
def matchC (M new : Mem) (acc : List (Option Nat)) (a b : AC) : MR := match b with
  | .row j w => matchRow M new acc j w a
  | .bp j o => match a with
    | .bp i o' => bif Nat.beq o o' && accAt acc j i then ⟨True, []⟩ else .no
    | _ => .no
  | b => ⟨freeC a = true ∧ leN a b, []⟩
def matchL (M new : Mem) : List (Option Nat) → List AC → List AC → MR
  | _, [], [] => ⟨True, []⟩
  | acc, a :: as', b :: bs => let m := matchC M new acc a b
    let r := matchL M new (acc ++ m.used) as' bs
    ⟨m.need ∧ r.need, m.used ++ r.used⟩
  | _, _, _ => .no
def matchW (M new : Mem) (acc : List (Option Nat)) : AW → AW → MR
  | .c a, .c b => matchC M new acc a b
  | .ag l, .ag l' => matchL M new acc l l'
  | _, _ => .no
def matchWs (M new : Mem) : List (Option Nat) → List AW → List AW → MR
  | _, [], [] => ⟨True, []⟩
  | acc, a :: as', b :: bs => let m := matchW M new acc a b
    let r := matchWs M new (acc ++ m.used) as' bs
    ⟨m.need ∧ r.need, m.used ++ r.used⟩
  | _, _, _ => .no
def matchV (M new : Mem) (acc : List (Option Nat)) : AV → AV → MR
  | .w a, .w b => matchW M new acc a b
  | .tp l, .tp l' => matchWs M new acc l l'
  | _, _ => .no
/-- own box i for the pattern's next block -/
def matchBox (M new : Mem) (acc : List (Option Nat)) (i : Nat) : MR := match M[i]? with
  | some (.box l) => match new[acc.length]? with
    | some (.box l') => let m := matchL M new (acc ++ [some i]) l l'
      ⟨m.need, some i :: m.used⟩
    | _ => .no
  | _ => .no
def matchBoxes (M new : Mem) : List (Option Nat) → List Nat → MR
  | _, [] => ⟨True, []⟩
  | acc, i :: is => let m := matchBox M new acc i
    let r := matchBoxes M new (acc ++ m.used) is
    ⟨(m.need ∧ Nat.beq m.used.length 1 = true) ∧ r.need, m.used ++ r.used⟩
def matchRp (M new : Mem) (acc : List (Option Nat)) (a : AC) (j w n q : Nat) : MR := match a with
  | .rp i v n' q' 0 => match rowAt M i v with
    | some r => match new[j]? with
      | some (.row t ys u c none) => bif (Nat.beq j acc.length && Nat.beq w 0) && ((Nat.beq u 0 && Nat.beq c 0) && Nat.beq n n') then (if h : r.t = t then ⟨h ▸ r.xs = ys ∧ q' = q, [some i]⟩ else .no) else .no
      | _ => .no
    | none => .no
  | _ => .no
/-- an argument -/
def matchP (M new : Mem) (acc : List (Option Nat)) (a b : AW) : MR := match b with
  | .c (.bp j 0) => match a with
    | .c (.bp i 0) => bif Nat.beq j acc.length then matchBox M new acc i else .no
    | _ => .no
  | .c (.rp j w n q 0) => match a with
    | .c a => matchRp M new acc a j w n q
    | _ => .no
  | .c (.fn g ids') => match a with
    | .c (.fn g' ids) => bif Nat.beq g g' && decide (ids' = seqN acc.length ids.length) then matchBoxes M new acc ids else .no
    | _ => .no
  | b => matchW M new acc a b
def matchAs (M new : Mem) : List (Option Nat) → List MTy → List AV → List AW → MR
  | _, [], [], [] => ⟨True, []⟩
  | acc, .a _ :: l, _ :: xs, _ :: ys => matchAs M new acc l xs ys
  | acc, _ :: l, .w x :: xs, y :: ys => let m := matchP M new acc x y
    let r := matchAs M new (acc ++ m.used) l xs ys
    ⟨m.need ∧ r.need, m.used ++ r.used⟩
  | _, _, _, _ => .no
def somes : List (Option Nat) → List Nat
  | [] => []
  | some i :: l => i :: somes l
  | none :: l => somes l
/-- the blocks that a callee was lent, at its end -/
def pairs : Nat → List MTy → List (AW × AW)
  | _, [] => []
  | k, .a _ :: l => pairs k l
  | k, .m t :: l => (.c (.bp k 0), .c (.bp k 0)) :: pairs (k + (t.nl + 1)) l
  | k, .e _ :: l => (.c (.row k 0), .c (.row k 0)) :: pairs (k + 1) l
  | k, .q _ t :: l => (seqN k t.nl).map (fun j => (.c (.row j 0), .c (.row j 0))) ++ pairs (k + t.nl) l
  | k, .g _ t :: l => (seqN k t.nl).map (fun j => (.c (.raw (.slice none 0 0)), .c (.row j 0))) ++ pairs (k + t.nl) l
  | k, .b _ :: l => (.c (.bp k 0), .c (.bp k 0)) :: pairs (k + 1) l
  | k, .f _ c :: l => (seqN k c.length).map (fun j => (.c (.bp j 0), .c (.bp j 0))) ++ pairs (k + c.length) l
def matchPs (M new : Mem) : List (Option Nat) → List (AW × AW) → MR
  | _, [] => ⟨True, []⟩
  | acc, p :: l => let m := matchP M new acc p.1 p.2
    let r := matchPs M new (acc ++ m.used) l
    ⟨m.need ∧ r.need, m.used ++ r.used⟩
/-- these rows have the value that they had at the beginning -/
def inpOk (M : Mem) (inp : List Nat) : Bool := inp.all fun i => match M[i]? with
  | some (.row _ _ v _ none) => Nat.beq v 0
  | _ => false
def boxIdx : Nat → Mem → List Nat
  | _, [] => []
  | k, .box _ :: l => k :: boxIdx (k + 1) l
  | k, _ :: l => boxIdx (k + 1) l
def fixOk (us : List (Option Nat)) (l : List Nat) : Bool := l.all fun j => accAt us j j
/-- at the end: the answer r, our memory M; the contract says res, qm -/
def endM (ins : List MTy) (qm : Mem) (res r : AV) (M : Mem) : Prop :=
  let m := matchPs M qm [] (pairs 0 ins)
  let n := matchV M qm m.used r res
  (m.need ∧ n.need) ∧ ((Nat.beq (m.used ++ n.used).length qm.length && distinct (somes (m.used ++ n.used))) && (fixOk (m.used ++ n.used) (boxIdx 0 qm ++ inpM 0 ins) && inpOk M (inpM 0 ins))) = true
/-- the caller's numbers of the callee's blocks -/
def rhoL : Nat → List (Option Nat) → List Nat
  | _, [] => []
  | n, some i :: l => i :: rhoL n l
  | n, none :: l => n :: rhoL (n + 1) l
def nones : List (Option Nat) → Nat
  | [] => 0
  | some _ :: l => nones l
  | none :: l => nones l + 1
def verL (M : Mem) (inp : List Nat) : Nat → List Nat → List Nat
  | _, [] => []
  | j, i :: l => (match M[i]? with | some (.row _ _ v _ none) => bif inp.any (Nat.beq j) then v else v + 1 | _ => 0) :: verL M inp (j + 1) l
def cntsL (M : Mem) : List Nat → List Nat
  | [] => []
  | i :: l => (match M[i]? with | some (.row _ _ _ c none) => c + 1 | _ => 0) :: cntsL M l
def renC (ρ vs : List Nat) : AC → AC
  | .row j _ => .row (ρ.getD j 0) (vs.getD j 0)
  | .bp j o => .bp (ρ.getD j 0) o
  | c => c
def renW (ρ vs : List Nat) : AW → AW
  | .c a => .c (renC ρ vs a)
  | .ag l => .ag (l.map (renC ρ vs))
def renV (ρ vs : List Nat) : AV → AV
  | .w x => .w (renW ρ vs x)
  | .tp l => .tp (l.map (renW ρ vs))
  | .any => .any
def renB (ρ vs : List Nat) (v c : Nat) : Blk → Blk
  | .row t xs _ _ none => .row t xs v c none
  | .box l => .box (l.map (renC ρ vs))
  | b => b
def isBoxAt (pm : Mem) (j : Nat) : Bool := match pm[j]? with
  | some (.box _) => true
  | _ => false
/-- may stand in what a callee leaves or hands back; fo: foreign slices too -/
def okRenC (pm : Mem) (fo : Bool) : AC → Bool
  | .int _ _ => true
  | .bool _ => true
  | .str _ => true
  | .opq _ => true
  | .row _ w => Nat.beq w 0
  | .bp j _ => isBoxAt pm j
  | .raw _ => true
  | .hs .no _ _ => fo
  | _ => false
def okRenW (pm : Mem) (fo : Bool) : AW → Bool
  | .c a => okRenC pm fo a
  | .ag l => l.all (okRenC pm fo)
def okRenV (pm : Mem) (fo : Bool) : AV → Bool
  | .w x => okRenW pm fo x
  | .tp l => l.all (okRenW pm fo)
  | .any => true
def okRenB (pm : Mem) (fo : Bool) : Blk → Bool
  | .box l => l.all (okRenC pm fo)
  | .row _ _ v c none => Nat.beq v 0 && Nat.beq c 0
  | _ => false
/-- the blocks behind a call are of the kinds of those before; what is new is a row -/
def sameLs : Mem → Mem → Bool
  | [], l => l.all fun b => match b with | .row _ _ _ _ none => true | _ => false
  | .row t _ _ _ none :: l, .row t' _ _ _ none :: k => decide (t = t') && sameLs l k
  | .box _ :: l, .box _ :: k => sameLs l k
  | _, _ => false
def look (i : Nat) : List Nat → Option Nat
  | [] => none
  | j :: l => bif Nat.beq j i then some 0 else (look i l).map (· + 1)
def updL {α : Type} (g : Nat → Option α) : Nat → List α → List α
  | _, [] => []
  | i, b :: l => (match g i with | some b' => b' | none => b) :: updL g (i + 1) l
/-- the memory behind a call -/
def updM (M : Mem) (n : Nat) (ρ vs cs : List Nat) (qm : Mem) : Mem := updL (fun i => match look i ρ with
  | some j => (qm[j]?).map (renB ρ vs (vs.getD j 0) (cs.getD j 0))
  | none => none) 0 (M ++ List.replicate n .dead)
def namC : AC → List Nat
  | .row i _ => [i]
  | .rp i _ _ _ _ => [i]
  | .hs (.at i _ _) _ _ => [i]
  | .ep (.at i _ _) _ _ _ _ => [i]
  | .sl i _ _ _ _ _ => [i]
  | .sp i _ _ _ _ _ _ _ _ => [i]
  | .tl i _ _ _ => [i]
  | .mp i => [i]
  | .bp i _ => [i]
  | _ => []
/-- the own blocks that a borrowed argument leads to -/
def namV (M : Mem) : AV → List Nat
  | .w (.c (.bp i o)) => i :: (match M[i]? with | some (.box l) => l.flatMap namC | _ => [])
  | .w (.c a) => namC a
  | .w (.ag l) => l.flatMap namC
  | _ => []
def namA (M : Mem) : List MTy → List AV → List Nat
  | .a _ :: l, x :: xs => namV M x ++ namA M l xs
  | _ :: l, _ :: xs => namA M l xs
  | _, _ => []
def shiftL (n : Nat) : Lnd → Lnd
  | .no => .no
  | .at i v c => .at (i + n) v c
def shiftC (n : Nat) : AC → AC
  | .bp i o => .bp (i + n) o
  | .row i v => .row (i + n) v
  | .rp i v m k o => .rp (i + n) v m k o
  | .hs L t xs => .hs (shiftL n L) t xs
  | .ep L t xs k o => .ep (shiftL n L) t xs k o
  | .sl i v c m k o => .sl (i + n) v c m k o
  | .sp i v c m k o z x q => .sp (i + n) v c m k o z x q
  | .tl i v m k => .tl (i + n) v m k
  | .mp i => .mp (i + n)
  | .fn f l => .fn f (l.map (· + n))
  | c => c
def shiftW (n : Nat) : AW → AW
  | .c a => .c (shiftC n a)
  | .ag l => .ag (l.map (shiftC n))
def shiftV (n : Nat) : AV → AV
  | .w x => .w (shiftW n x)
  | .tp l => .tp (l.map (shiftW n))
  | .any => .any
/-- a closure that captured variables: what its test says of an element -/
def closP {P : Program} (Γ : List (Entry P)) (M : Mem) (g : FuncId) (el : List AV) (ids : List Nat) : Option (Prop × AV) :=
  match findE g Γ with
  | some e => match decA M e.ins (el ++ ids.map (fun i => .c (.bp i 0))) with
    | some y => match e.new y with
      | [] => some (e.pre y, e.res y)
      | _ => none
    | none => none
  | none => none
def boolV : AV → Bool
  | .w (.c (.bool b)) => b
  | _ => false
def isBoolV : AV → Prop
  | .w (.c (.bool _)) => True
  | _ => False
def encEl (agg : Bool) (t : Ty) (x : t.den) : AV := bif agg then .ag (cellsOf t x) else .c (enc1 t x)
/-- what a closure captured: a variable's content -/
structure CV where
  t : Ty
  x : t.den
def CV.arg (c : CV) : AW := .c (.ep .no c.t [c.x] 0 0)
def capsV (X : List Nat) (W : World) : List CV → List Value → Prop
  | [], vs => vs = []
  | c :: cs, vs => ∃ v r, vs = v :: r ∧ RepC X W [] [] (.ep .no c.t [c.x] 0 0) v ∧ capsV X W cs r
def elW (agg : Bool) (t : Ty) (x : t.den) : AW := match encEl agg t x with | .w y => y | _ => .ag []
/-- from the world W on, the closure u says p of an element -/
def ClosOk (X : List Nat) (W : World) (P : Program) (u : Value) (agg : Bool) (t : Ty) (p : t.den → Bool) : Prop :=
  ∃ (g : FuncId) (caps : List Value), u = .func (.func g) #[] caps.toArray ∧ (∀ args w, (callFunc g args).run P w = .ok (.enter g args) w) ∧
    ∀ (W' : World) (E' : Env) (x : t.den) (v : Value), Grow W [] W' E' → RepW X W' [] [] (elW agg t x) v →
      Calls P g (v :: caps).toArray W' (fun e W'' => ∃ r E'', e = .returned r ∧ Grow W' [] W'' E'' ∧ RepM X W'' E'' [] ∧ RepV X W'' E'' [] (.c (.bool (p x))) r)
def ClosOk2 (X : List Nat) (W : World) (P : Program) (u : Value) (agg : Bool) (t : Ty) (p : t.den → t.den → Bool) : Prop :=
  ∃ (g : FuncId) (caps : List Value), u = .func (.func g) #[] caps.toArray ∧ (∀ args w, (callFunc g args).run P w = .ok (.enter g args) w) ∧
    ∀ (W' : World) (E' : Env) (x y : t.den) (v v2 : Value), Grow W [] W' E' → RepW X W' [] [] (elW agg t x) v → RepW X W' [] [] (elW agg t y) v2 →
      Calls P g (v :: v2 :: caps).toArray W' (fun e W'' => ∃ r E'', e = .returned r ∧ Grow W' [] W'' E'' ∧ RepM X W'' E'' [] ∧ RepV X W'' E'' [] (.c (.bool (p x y))) r)
/-- The contract of a function of one slice and one test. -/
structure HEntry (P : Program) where
  f : FuncId
  t : Ty
  agg : Bool
  res : (t.den → Bool) → List t.den → AC
  ok : ∀ (p : t.den → Bool) (xs : List t.den) (u : Value) (X : List Nat) (W : World) (v : Value), (∀ b ∈ X, b < W.heap.size) → Glob W [] → RepC X W [] [] (.hs .no t xs) v → ClosOk X W P u agg t p →
    Calls P f #[v, u] W (fun e W' => ∃ v E', e = .returned v ∧ Grow W [] W' E' ∧ RepM X W' E' [] ∧ RepV X W' E' [] (.c (res p xs)) v)
  ent : ∀ args w, (callFunc f args).run P w = .ok (.enter f args) w
def findH {P : Program} (f : FuncId) : List (HEntry P) → Option (HEntry P)
  | [] => none
  | e :: l => bif Nat.beq e.f f then some e else findH f l
/-- The contract of a function of two slices and one test of two. -/
structure HEntry2 (P : Program) where
  f : FuncId
  t : Ty
  agg : Bool
  res : (t.den → t.den → Bool) → List t.den → List t.den → AC
  ok : ∀ (p : t.den → t.den → Bool) (xs ys : List t.den) (u : Value) (X : List Nat) (W : World) (v v2 : Value), (∀ b ∈ X, b < W.heap.size) → Glob W [] → RepC X W [] [] (.hs .no t xs) v → RepC X W [] [] (.hs .no t ys) v2 → ClosOk2 X W P u agg t p →
    Calls P f #[v, v2, u] W (fun e W' => ∃ v E', e = .returned v ∧ Grow W [] W' E' ∧ RepM X W' E' [] ∧ RepV X W' E' [] (.c (res p xs ys)) v)
  ent : ∀ args w, (callFunc f args).run P w = .ok (.enter f args) w
def findH2 {P : Program} (f : FuncId) : List (HEntry2 P) → Option (HEntry2 P)
  | [] => none
  | e :: l => bif Nat.beq e.f f then some e else findH2 f l
/-- a closure that came in as an argument -/
structure CE (P : Program) where
  u : Value
  g : FuncId
  caps : List Value
  hu : u = .func (.func g) #[] caps.toArray
  ins : List ATy
  res : AD ins → AV
  ent : ∀ args w, (callFunc g args).run P w = .ok (.enter g args) w
/-- what it says of its arguments, from the world W on -/
def CEok (X : List Nat) (W : World) {P : Program} (c : CE P) : Prop :=
  ∀ (W' : World) (E' : Env) (x : AD c.ins) (vs : List Value), Grow W [] W' E' → RepWs X W' [] [] (encA c.ins x) vs →
    Calls P c.g (vs ++ c.caps).toArray W' (fun e W'' => ∃ v E'', e = .returned v ∧ Grow W' [] W'' E'' ∧ RepM X W'' E'' [] ∧ RepV X W'' E'' [] (c.res x) v)
/-- where a nil slice is to count as a row of ours: a slot, or a cell of a box -/
structure Pro where
  b : Option Nat
  i : Nat
  t : Ty
structure Tab (P : Program) where
  Γ : List (Entry P)
  H : List (HEntry P)
  H2 : List (HEntry2 P)
  G : List (MEntry P)
  C : Option (CE P)
  pro : Nat → List Pro
  n0 : Nat
  inp : List Nat
  /-- slices (by the slot that takes them) that end a row, or that are cleared -/
  cut : List Nat
def TabOk (X : List Nat) (W : World) (E0 : Env) {P : Program} (T : Tab P) : Prop := (T.C = none ∨ (E0 = [] ∧ ∀ c, T.C = some c → CEok X W c)) ∧ T.n0 = E0.length ∧ (∀ i ∈ T.inp, i < E0.length) ∧ Glob W E0
def hasP : List ATy → Bool
  | [] => false
  | .p _ :: _ => true
  | _ :: l => hasP l
/-- scalars alone -/
def scalC : AC → Bool
  | .int _ _ => true
  | .bool _ => true
  | .str _ => true
  | .opq _ => true
  | _ => false
def scalW : AW → Bool
  | .c a => scalC a
  | .ag l => l.all scalC
def scalV : AV → Bool
  | .w x => scalW x
  | .tp l => l.all scalW
  | .any => true
/-- names a row of ours -/
def ownC : AC → Bool
  | .row _ _ => true
  | .rp _ _ _ _ _ => true
  | .hs (.at _ _ _) _ _ => true
  | .ep (.at _ _ _) _ _ _ _ => true
  | .sl _ _ _ _ _ _ => true
  | .sp _ _ _ _ _ _ _ _ _ => true
  | .tl _ _ _ _ => true
  | .mp _ => true
  | _ => false
def ownAV : AV → Bool
  | .w (.c a) => ownC a
  | .w (.ag l) => l.any ownC
  | _ => false
/-- scalars and rows made by the callee -/
def memC : AC → Bool
  | .int _ _ => true
  | .bool _ => true
  | .str _ => true
  | .opq _ => true
  | .row _ _ => true
  | _ => false
def memW : AW → Bool
  | .c a => memC a
  | .ag l => l.all memC
def memV : AV → Bool
  | .w x => memW x
  | .tp l => l.all memW
  | .any => true
def rowB : Blk → Bool
  | .row _ _ _ _ none => true
  | _ => false
/-- scalars and foreign memory -/
def forC : AC → Bool
  | .hs .no _ _ => true
  | c => scalC c
def newB : Blk → Bool
  | .row _ _ _ _ none => true
  | .box l => l.all forC
  | _ => false
/-- a call of a function that writes what is ours -/
def callM {P : Program} (e : MEntry P) (M : Mem) (args : List AV) : OR :=
  match decM M e.ins args with
  | some x =>
    let m := matchAs M (preM 0 e.ins x) [] e.ins args (argsM 0 e.ins x)
    let qm := postM 0 e.ins (e.post x) ++ e.new x
    let us := m.used ++ List.replicate (e.new x).length none
    let ρ := rhoL M.length us
    let vs := verL M (inpM 0 e.ins) 0 ρ
    let nam := namA M e.ins args
    ⟨(e.pre x ∧ m.need) ∧ (((distinct (somes m.used) && Nat.beq m.used.length (preM 0 e.ins x).length) && (Nat.beq qm.length us.length && nam.all (fun i => (somes m.used).all (fun j => !Nat.beq i j)))) && ((okRenV (preM 0 e.ins x) nam.isEmpty (e.res x) && qm.all (okRenB (preM 0 e.ins x) nam.isEmpty)) && sameLs (preM 0 e.ins x) qm)) = true,
      renV ρ vs (e.res x), updM M (nones us) ρ vs (cntsL M ρ) qm⟩
  | none => .no
def callB {P : Program} (T : Tab P) (M : Mem) (f : FuncId) (args : List AV) : OR :=
  match findH f T.H with
  | some h => match args with
    | [.w (.c a), .w (.c (.fn g ids))] => match decT M (.list h.t) [a] with
      | some (xs, []) => ⟨(∀ x, match closP T.Γ M g [encEl h.agg h.t x] ids with | some (q, r) => q ∧ isBoolV r | none => False) ∧ ∀ p ys, scalC (h.res p ys) = true,
          .c (h.res (fun x => match closP T.Γ M g [encEl h.agg h.t x] ids with | some (_, r) => boolV r | none => false) xs), M⟩
      | _ => .no
    | [.w (.c a), .w (.c (.raw u))] => match T.C, decT M (.list h.t) [a] with
      | some ce, some (xs, []) => ⟨u = ce.u ∧ (∀ x, match decA M ce.ins [encEl h.agg h.t x] with | some y => isBoolV (ce.res y) | none => False) ∧ ∀ p ys, scalC (h.res p ys) = true,
          .c (h.res (fun x => match decA M ce.ins [encEl h.agg h.t x] with | some y => boolV (ce.res y) | none => false) xs), M⟩
      | _, _ => .no
    | _ => .no
  | none => match findH2 f T.H2 with
  | some h => match args with
    | [.w (.c a), .w (.c b), .w (.c (.fn g ids))] => match decT M (.list h.t) [a], decT M (.list h.t) [b] with
      | some (xs, []), some (ys, []) => ⟨(∀ x y, match closP T.Γ M g [encEl h.agg h.t x, encEl h.agg h.t y] ids with | some (q, r) => q ∧ isBoolV r | none => False) ∧ ∀ p ys zs, scalC (h.res p ys zs) = true,
          .c (h.res (fun x y => match closP T.Γ M g [encEl h.agg h.t x, encEl h.agg h.t y] ids with | some (_, r) => boolV r | none => false) xs ys), M⟩
      | _, _ => .no
    | _ => .no
  | none => match findE f T.Γ with
    | some e => match decA M e.ins args with
      | some x => bif hasP e.ins || args.any ownAV then ⟨e.pre x ∧ memV (e.res x) = true ∧ (e.new x).all rowB = true, shiftV M.length (e.res x), M ++ e.new x⟩ else ⟨e.pre x ∧ (e.new x).all newB = true, shiftV M.length (e.res x), M ++ e.new x⟩
      | none => .no
    | none => .no
/-- the closures that are handed over are those of the entry -/
def fits : List MTy → List AV → Bool
  | .f g _ :: l, .w (.c (.fn g' _)) :: xs => Nat.beq g g' && fits l xs
  | _ :: l, _ :: xs => fits l xs
  | _, _ => true
def findMA {P : Program} (f : FuncId) (args : List AV) : List (MEntry P) → Option (MEntry P)
  | [] => none
  | e :: l => bif Nat.beq e.f f && fits e.ins args then some e else findMA f args l
def callA {P : Program} (T : Tab P) (M : Mem) (f : FuncId) (args : List AV) : OR :=
  match findMA f args T.G with
  | some e => callM e M args
  | none => callB T M f args
def liftArgs : List MTy → List Operand → List AV → Mem → List AV × Mem
  | .q _ _ :: l, .tmp t :: xs, tm, M => let p := liftT tm M t; liftArgs l xs p.1 p.2
  | .g _ _ :: l, .tmp t :: xs, tm, M => let p := liftT tm M t; liftArgs l xs p.1 p.2
  | _ :: l, _ :: xs, tm, M => liftArgs l xs tm M
  | _, _, tm, M => (tm, M)
/-- lists that an operation writes are taken out of their rows first -/
def preG {P : Program} (T : Tab P) (tm : List AV) (M : Mem) (o : Oper) : List AV × Mem :=
  match o.op with
  | .store _ (.tmp p) _ => liftT tm M p
  | .call c => match c.callee with
    | .builtin .append => match c.args.toList with
      | .tmp t :: _ => liftT tm M t
      | _ => (tm, M)
    | .value (.func f) => match findM f T.G with
      | some e => liftArgs e.ins c.args.toList tm M
      | none => (tm, M)
    | _ => (tm, M)
  | _ => (tm, M)
/-- an operation -/
def step0 {P : Program} (T : Tab P) (tm : List AV) (M : Mem) (o : Oper) : OR :=
  match o.op with
  | .call c => match c.callee with
    | .value fn => match evalA tm fn with
      | .w (.c (.fn f ids)) => callA T M f (c.args.toList.map (evalA tm) ++ ids.map (fun i => .c (.bp i 0)))
      | .w (.c (.raw u)) => match T.C with
        | some ce => match decA M ce.ins (c.args.toList.map (evalA tm)) with
          | some x => ⟨u = ce.u ∧ scalV (ce.res x) = true, ce.res x, M⟩
          | none => .no
        | none => .no
      | _ => .no
    | _ => opA P tm M o
  | _ => opA P tm M o
/-- slices whose elements hold no slices -/
def flatEl (P : Program) (t : TypeId) : Bool := match P.underlying t with
  | some (.slice e) => match tyOf P 8 e with
    | some tt => tt.flat
    | none => false
  | _ => false
/-- slices that end a row or are cleared; clear itself -/
def isCut {P : Program} (T : Tab P) (o : Oper) : Bool := match o.op with
  | .slice _ _ _ _ none => (match o.dst with | some d => T.cut.any (Nat.beq d) | none => false)
  | .call c => (match c.callee with | .builtin .clear => true | _ => false)
  | .makeMap _ none => true
  | .lookup _ _ _ false => true
  | .mapUpdate _ _ _ _ => true
  | .buildSlice _ _ _ => (match o.dst with | some d => T.cut.any (Nat.beq d) | none => false)
  | _ => false
/-- the values of a literal none of whose cells is ours -/
def forPs (M : Mem) (t : Ty) : Nat → List (Nat × AV) → Option (List t.den)
  | _, [] => some []
  | k, (i, x) :: r => bif Nat.beq i k then (match cellsA x with
    | some l => bif l.any ownC then none else (match decT M t l with
      | some (y, []) => (match forPs M t (k + 1) r with
        | some ys => some (y :: ys)
        | none => none)
      | _ => none)
    | none => none) else none
/-- a literal that is only read from now on: nobody's memory -/
def forA (P : Program) (M : Mem) (t : TypeId) (len : Nat) (ps : List (Nat × AV)) : OR := match P.underlying t with
  | some (.slice e) => match tyOf P 8 e with
    | some tt => match forPs M tt 0 ps with
      | some ys => bif (rowTy P e tt.n && Nat.ble (len * tt.n) 16777216) && (Nat.beq len ps.length && Nat.ble 1 len) then ⟨True, .c (.hs .no tt ys), M⟩ else .no
      | none => .no
    | none => .no
  | _ => .no
def cutA (P : Program) (M : Mem) (t : TypeId) (x : AV) (lo hi : Option AV) : OR :=
  match P.underlying t, x with
  | some (.slice e), .w (.c (.row i v)) => match rowAt M i v with
    | some r => bif Nat.beq (sizeT P e) r.t.n then (match lo, hi with
      | none, some (.w (.c (.int .i64 h))) => ⟨0 ≤ h ∧ h ≤ (r.xs.length : Int), .c (.row M.length 0), killM M [i] ++ [.row r.t (r.xs.take h.toNat) 0 0 none]⟩
      | some (.w (.c (.int .i64 l))), none => ⟨0 ≤ l ∧ l ≤ (r.xs.length : Int), .c (.tl i v r.t.n l.toNat), M⟩
      | _, _ => .no) else .no
    | none => .no
  | _, _ => .no
def clearA (P : Program) (M : Mem) (t : TypeId) (x : AV) : OR :=
  match P.underlying t, x with
  | some (.slice e), .w (.c (.tl i v n k)) => match rowAt M i v, (P.info? e).bind (·.zero) with
    | some r, some z => bif (z.cells.toList.all absOk && rowTy P e r.t.n) && Nat.beq n r.t.n then (match ownWhole M r.t (z.cells.toList.map absC) with
      | some (d, []) => ⟨True, .any, M.set i (.row r.t (r.xs.take k ++ List.replicate (r.xs.length - k) d) v (r.c + 1) none)⟩
      | _ => .no) else .no
    | _, _ => .no
  | _, _ => .no
def isI64 (P : Program) (t : TypeId) : Bool := match P.underlying t with
  | some (.int .i64) => true
  | _ => false
def isBoolT (P : Program) (t : TypeId) : Bool := match (P.info? t).bind (·.zero) with
  | some (.bool false) => true
  | _ => false
/-- is a number among some -/
def memI (n : Int) (xs : List Int) : Bool := xs.any (fun y => decide (y = n))
def insI (n : Int) (xs : List Int) : List Int := bif memI n xs then xs else xs ++ [n]
def lookA (P : Program) (M : Mem) (t : TypeId) (x k : AV) : OR :=
  match P.underlying t, x, k with
  | some (.map kt et), .w (.c (.mp i)), .w (.c (.int .i64 n)) => match M[i]? with
    | some (.mp xs) => bif isI64 P kt && isBoolT P et then ⟨True, .c (.bool (memI n xs)), M⟩ else .no
    | _ => .no
  | _, _, _ => .no
def updA (P : Program) (M : Mem) (t : TypeId) (x k v : AV) : OR :=
  match P.underlying t, x, k, v with
  | some (.map kt _), .w (.c (.mp i)), .w (.c (.int .i64 n)), .w (.c (.bool true)) => match M[i]? with
    | some (.mp xs) => bif isI64 P kt then ⟨True, .any, M.set i (.mp (insI n xs))⟩ else .no
    | _ => .no
  | _, _, _, _ => .no
def cutS {P : Program} (tm : List AV) (M : Mem) (o : Oper) : OR := match o.op with
  | .slice t x lo hi none => cutA P M t (evalA tm x) (lo.map (evalA tm)) (hi.map (evalA tm))
  | .call c => (match c.callee with
    | .builtin .clear => (match c.argTypes.toList, c.args.toList with
      | [t], [x] => clearA P M t (evalA tm x)
      | _, _ => .no)
    | _ => .no)
  | .makeMap _ none => ⟨True, .c (.mp M.length), M ++ [.mp []]⟩
  | .lookup t m k false => lookA P M t (evalA tm m) (evalA tm k)
  | .mapUpdate t m k v => updA P M t (evalA tm m) (evalA tm k) (evalA tm v)
  | .buildSlice t len parts => forA P M t len (parts.toList.map fun p => (p.1, evalA tm p.2))
  | _ => .no
/-- 0: reads only; 1: makes memory, leaves what there is; 2: writes -/
def cls0 {P : Program} (T : Tab P) (o : Oper) : Nat :=
  match o.op with
  | .alloc _ => 1
  | .box _ _ => 1
  | .store _ _ _ => 2
  | .buildSlice t _ _ => bif flatEl P t then 1 else 2
  | .makeSlice _ _ _ => 1
  | .call c => match c.callee with
    | .value (.func f) => (match findM f T.G with | some _ => 2 | none => 1)
    | .value _ => 2
    | .builtin .len => 0
    | .builtin .min => 0
    | .builtin .max => 0
    | _ => 2
  | _ => 0
def clsO {P : Program} (T : Tab P) (o : Oper) : Nat := bif isCut T o then 2 else cls0 T o
/-- operation j waits for operation i -/
def depT (ops : Array Oper) : Nat → Nat → Nat → Bool
  | 0, _, _ => false
  | n + 1, i, j => match ops[j]? with
    | some o => o.after.any fun e => Region.binds .any e && (Nat.beq e.on i || (Nat.blt i e.on && depT ops n i e.on))
    | none => false
/-- reads no memory -/
def pureO (o : Oper) : Bool := match o.op with
  | .move _ => true
  | _ => false
def freeA {P : Program} (T : Tab P) (ops : Array Oper) (listed : Array Bool) (i : Nat) : Bool :=
  match ops[i]? with
  | some oi => (List.range ops.size).all fun j => Nat.beq j i || (listed.getD j true || ((match ops[j]? with
    | some oj => Nat.beq (clsO T oi) 0 && (oi.apart ops oj && (Nat.ble (clsO T oj) 1 || pureO oi))
    | none => true) || depT ops ops.size i j))
  | none => false
def stepA {P : Program} (T : Tab P) (tm : List AV) (M : Mem) (o : Oper) : OR :=
  bif Nat.beq (clsO T o) 2 then (bif isCut T o then cutS (P := P) tm M o else (let g := preG T tm M o
    let r := step0 T g.1 g.2 o
    ⟨r.need, r.val, closeAll r.mem⟩)) else step0 T tm M o
/-- the orders of a region that are to be walked -/
inductive Tr where
  | nil
  | one (i : Nat) (t : Tr)
  | alt (t u : Tr)
def Tr.heads : Tr → List Nat
  | .nil => []
  | .one i _ => [i]
  | .alt t u => t.heads ++ u.heads
def Tr.len : Tr → Nat
  | .nil => 0
  | .one _ t => t.len + 1
  | .alt t u => max t.len u.len
/-- orders that stand for all; b: what else may come first is walked beside -/
def okA {P : Program} (T : Tab P) (ops : Array Oper) : Tr → Bool → Array Bool → Bool
  | .nil, b, listed => !b && (Region.ready .any ops listed).isEmpty
  | .one i t, b, listed => ((Region.ready .any ops listed).any (Nat.beq · i)) && ((b || freeA T ops listed i) && okA T ops t false (listed.setIfInBounds i true))
  | .alt t u, b, listed => (b || (Region.ready .any ops listed).all fun i => (t.heads ++ u.heads).any (Nat.beq · i)) && (okA T ops t true listed && okA T ops u true listed)
def isRead {P : Program} (T : Tab P) (ops : Array Oper) (i : Nat) : Bool := match ops[i]? with
  | some o => Nat.beq (clsO T o) 0
  | none => false
def altT : List Tr → Tr
  | [] => .nil
  | [t] => t
  | t :: ts => .alt t (altT ts)
def schedA {P : Program} (T : Tab P) (ops : Array Oper) : Nat → Array Bool → Tr
  | 0, _ => .nil
  | n + 1, listed => match (Region.ready .any ops listed).find? (fun i => isRead T ops i && freeA T ops listed i) with
    | some i => .one i (schedA T ops n (listed.setIfInBounds i true))
    | none => altT ((Region.ready .any ops listed).map fun i => .one i (schedA T ops n (listed.setIfInBounds i true)))
def putA (tm : List AV) (dst : Option Tmp) (v : AV) : List AV :=
  match dst with
  | some d => tm.set d v
  | none => tm
def undefA : AV := .tp []
/-- a row that an operation has written gets a name -/
def genRow (M : Mem) : List Nat → Mem → (Mem → Prop) → Prop
  | [], M', K => K M'
  | i :: l, M', K => match M[i]?, M'[i]? with
    | some (.row _ _ _ c none), some (.row t xs v c' none) => bif Nat.beq c c' then genRow M l M' K else ∀ ys : List t.den, ys = xs → genRow M l (M'.set i (.row t ys v c' none)) K
    | _, _ => genRow M l M' K
def genG (o : Oper) (M M' : Mem) (K : Mem → Prop) : Prop :=
  match o.op with
  | .store _ _ _ => genRow M (List.range M.length) M' K
  | .call c => match c.callee with
    | .value _ => genRow M (List.range M.length) M' K
    | _ => K M'
  | _ => K M'
theorem genRow_elim {M : Mem} {K : Mem → Prop} : ∀ {l : List Nat} {M' : Mem}, genRow M l M' K → K M'
  | [], _, h => h
  | i :: l, M', h => by
    unfold genRow at h
    split at h
    · rename_i t xs v c' h1 h2
      cases hc : Nat.beq _ c' with
      | true => rw [hc] at h; exact genRow_elim h
      | false =>
        rw [hc] at h
        have h3 := genRow_elim (h _ rfl)
        have hs : M'.set i (.row t xs v c' none) = M' := by
          obtain ⟨hi, e⟩ := List.getElem?_eq_some_iff.1 h2
          rw [← e]
          exact List.set_getElem_self hi
        rwa [hs] at h3
    · exact genRow_elim h
theorem genG_elim {o : Oper} {M M' : Mem} {K : Mem → Prop} (h : genG o M M' K) : K M' := by
  unfold genG at h
  split at h
  · exact genRow_elim h
  · split at h
    · exact genRow_elim h
    · exact h
  · exact h
/-- a slice is held against nil: what the answer tells -/
def nilQ (P : Program) (tm : List AV) (M : Mem) (o : Oper) : Option (Bool → Prop) :=
  match o.op with
  | .binOp op t x (.const (.slice none 0 0)) _ => match P.underlying t, evalA tm x with
    | some (.slice _), .w (.c c) => match readL M c with
      | some (_, q) => match op with
        | .eql => some fun b => b = true → q.xs.length = 0
        | .neq => some fun b => b = false → q.xs.length = 0
        | _ => none
      | none => none
    | _, _ => none
  | _ => none
/-- what an operation asks, and what follows; an operation that the machine does not know stands for 'False' -/
def andR (r : OR) (K : Prop) : Prop := match r.val with
  | .tp [.ag []] => False
  | _ => r.need ∧ K
theorem andR_elim {r : OR} {K : Prop} (h : andR r K) : r.need ∧ K := by
  unfold andR at h
  split at h
  · exact h.elim
  · exact h
def vcOps {P : Program} (T : Tab P) (all : List Oper) : List Oper → List AV → Mem → (List AV → Mem → Prop) → Prop
  | [], tm, M, K => K tm M
  | o :: os, tm, M, K =>
    match o.guard with
    | none => match nilQ P tm M o with
      | some q => ∀ b : Bool, q b → vcOps T all os (putA tm o.dst (.c (.bool b))) M K
      | none => let r := stepA T tm M o; andR r (genG o M r.mem (fun M' => vcOps T all os (putA tm o.dst r.val) M' K))
    | some (j, want) => match (all[j]?).bind (·.dst) with
      | some d => match tm.getD d .any with
        | .w (.c (.bool g)) => match want with
          | true => bif g then (let tm := tm.set d (.c (.bool true)); let r := stepA T tm M o; andR r (genG o M r.mem (fun M' => vcOps T all os (putA tm o.dst r.val) M' K)))
              else vcOps T all os (putA (tm.set d (.c (.bool false))) o.dst undefA) M K
          | false => bif g then vcOps T all os (putA (tm.set d (.c (.bool true))) o.dst undefA) M K
              else (let tm := tm.set d (.c (.bool false)); let r := stepA T tm M o; andR r (genG o M r.mem (fun M' => vcOps T all os (putA tm o.dst r.val) M' K)))
        | .tp _ => vcOps T all os (putA tm o.dst undefA) M K
        | _ => False
      | none => False
/-- one operation of a region that draws its order -/
def vcOp1 {P : Program} (T : Tab P) (ops : Array Oper) (i : Nat) (tm : List AV) (M : Mem) (K : List AV → Mem → Prop) : Prop :=
  match ops[i]? with
  | none => False
  | some o => match o.guard with
    | none => let r := stepA T tm M o; andR r (genG o M r.mem (fun M' => K (putA tm o.dst r.val) M'))
    | some (j, want) => match (ops[j]?).bind (·.dst) with
      | some d => match tm.getD d .any with
        | .w (.c (.bool g)) => match want with
          | true => bif g then (let tm := tm.set d (.c (.bool true)); let r := stepA T tm M o; andR r (genG o M r.mem (fun M' => K (putA tm o.dst r.val) M')))
              else K (putA (tm.set d (.c (.bool false))) o.dst undefA) M
          | false => bif g then K (putA (tm.set d (.c (.bool true))) o.dst undefA) M
              else (let tm := tm.set d (.c (.bool false)); let r := stepA T tm M o; andR r (genG o M r.mem (fun M' => K (putA tm o.dst r.val) M')))
        | .tp _ => K (putA tm o.dst undefA) M
        | _ => False
      | none => False
/-- a region that draws its order, in orders that stand for all -/
def vcOpsD {P : Program} (T : Tab P) (ops : Array Oper) : Tr → List AV → Mem → (List AV → Mem → Prop) → Prop
  | .nil, tm, M, K => K tm M
  | .one i t, tm, M, K => vcOp1 T ops i tm M (fun tm M => vcOpsD T ops t tm M K)
  | .alt t u, tm, M, K => vcOpsD T ops t tm M K ∧ vcOpsD T ops u tm M K
/-- a loop's head: what the slots and the own blocks hold, by a value of the prover's own -/
structure LoopA where
  α : Type
  hd : α → List AV × Mem
  inv : α → Prop
  μ : α → Nat
def leL : List AC → List AC → Prop
  | [], [] => True
  | x :: xs, y :: ys => leC x y ∧ leL xs ys
  | _, _ => False
def leV : AV → AV → Prop
  | _, .any => True
  | .w (.c x), .w (.c y) => leC x y
  | .w (.ag x), .w (.ag y) => leL x y
  | x, y => x = y
def leT : List AV → List AV → Prop
  | [], [] => True
  | x :: xs, y :: ys => leV x y ∧ leT xs ys
  | _, _ => False
def leB : Blk → Blk → Prop
  | .box l, .box k => leL l k
  | .row t xs v c none, .row t' ys v' c' none => (v = v' ∧ c = c') ∧ ∃ h : t = t', h ▸ xs = ys
  | x, y => x = y
def leM : Mem → Mem → Prop
  | _, [] => True
  | x :: xs, y :: ys => leB x y ∧ leM xs ys
  | _, _ => False
/-- names blocks below n alone -/
def okC (n : Nat) : AC → Bool
  | .bp i _ => Nat.blt i n
  | .row i _ => Nat.blt i n
  | .rp i _ _ _ _ => Nat.blt i n
  | .hs (.at i _ _) _ _ => Nat.blt i n
  | .ep (.at i _ _) _ _ _ _ => Nat.blt i n
  | .sl i _ _ _ _ _ => Nat.blt i n
  | .sp i _ _ _ _ _ _ _ _ => Nat.blt i n
  | .tl i _ _ _ => Nat.blt i n
  | .mp i => Nat.blt i n
  | .fn _ l => l.all (Nat.blt · n)
  | _ => true
def okW (n : Nat) : AW → Bool
  | .c a => okC n a
  | .ag l => l.all (okC n)
def okV (n : Nat) : AV → Bool
  | .w x => okW n x
  | .tp l => l.all (okW n)
  | .any => true
def okB (n : Nat) : Blk → Bool
  | .box l => l.all (okC n)
  | .row _ _ _ _ (some _) => false
  | _ => true
/-- nothing is taken out -/
def noHoles (M : Mem) : Bool := M.all fun b => match b with
  | .row _ _ _ _ (some _) => false
  | _ => true
def leS (n0 : Nat) (inp : List Nat) (tm : List AV) (M : Mem) (tm' : List AV) (M' : Mem) (h : List AV × Mem) : Prop := leT tm' h.1 ∧ leM M' h.2 ∧ ((h.1.all (okV h.2.length) && h.2.all (okB h.2.length)) && (Nat.ble n0 h.2.length && (inpOk M inp && noHoles M))) = true
def pro1 (tm : List AV) (M : Mem) (p : Pro) : List AV × Mem :=
  match p.b with
  | none => bif isNilV (tm.getD p.i .any) then (tm.set p.i (.c (.row M.length 0)), M ++ [.row p.t [] 0 0 none]) else (tm, M)
  | some b => match M[b]? with
    | some (.box l) => bif isNilC (l.getD p.i .junk) then (tm, M.set b (.box (l.set p.i (.row M.length 0))) ++ [.row p.t [] 0 0 none]) else (tm, M)
    | _ => (tm, M)
def proA (tm : List AV) (M : Mem) : List Pro → List AV × Mem
  | [] => (tm, M)
  | p :: l => let q := pro1 tm M p; proA q.1 q.2 l
/-- box b's cell c names a new row; it is to name row k: row k takes over what the new one holds -/
def steal1 (M : Mem) (b c k : Nat) : Mem := match M[b]? with
  | some (.box l) => match l[c]? with
    | some (.row j v) => bif Nat.beq j k then M else (match M[j]?, M[k]? with
      | some (.row t ys vj _ none), some (.row t' _ vk ck none) => bif Nat.beq v vj then (if t' = t then ((killM M [j]).set k (.row t ys (vk + 1) (ck + 1) none)).set b (.box (l.set c (.row k (vk + 1)))) else M) else M
      | _, _ => M)
    | _ => M
  | _ => M
def stealL (M : Mem) (b : Nat) : Nat → List AC → Mem
  | _, [] => M
  | c, .row k _ :: l => stealL (steal1 M b c k) b (c + 1) l
  | c, _ :: l => stealL M b (c + 1) l
/-- as the head has it -/
def stealA (M : Mem) : Nat → Mem → Mem
  | _, [] => M
  | b, .box l :: h => stealA (stealL M b 0 l) (b + 1) h
  | b, _ :: h => stealA M (b + 1) h
/-- temporary i names a new row; it is to name row k -/
def steal1T (q : List AV × Mem) (i k : Nat) : List AV × Mem := match q.1[i]? with
  | some (.w (.c (.row j v))) => bif Nat.beq j k then q else (match q.2[j]?, q.2[k]? with
    | some (.row t ys vj _ none), some (.row t' _ vk ck none) => bif Nat.beq v vj then (if t' = t then (q.1.set i (.c (.row k (vk + 1))), (killM q.2 [j]).set k (.row t ys (vk + 1) (ck + 1) none)) else q) else q
    | _, _ => q)
  | _ => q
def stealT (q : List AV × Mem) : Nat → List AV → List AV × Mem
  | _, [] => q
  | i, .w (.c (.row k _)) :: h => stealT (steal1T q i k) (i + 1) h
  | i, _ :: h => stealT q (i + 1) h
/-- versions set back -/
def setLnd (M : Mem) (L : Lnd) (x : AC) (y : Lnd → AC) : AC := match L with
  | .no => x
  | .at i v c => bif liveAt M i v c then y (.at i 0 0) else .junk
def backC (M : Mem) : AC → AC
  | .row i v => bif (rowAt M i v).isSome then .row i 0 else .junk
  | .rp i v n k o => bif (rowAt M i v).isSome then .rp i 0 n k o else .junk
  | .hs L t xs => setLnd M L (.hs L t xs) (fun L => .hs L t xs)
  | .ep L t xs k o => setLnd M L (.ep L t xs k o) (fun L => .ep L t xs k o)
  | .sl i v c n k o => bif liveAt M i v c then .sl i 0 0 n k o else .junk
  | .sp i v c n k o m x q => bif liveAt M i v c then .sp i 0 0 n k o m x q else .junk
  | .tl _ _ _ _ => .junk
  | c => c
def backW (M : Mem) : AW → AW
  | .c a => .c (backC M a)
  | .ag l => .ag (l.map (backC M))
def backV (M : Mem) : AV → AV
  | .w x => .w (backW M x)
  | .tp l => .tp (l.map (backW M))
  | .any => .any
def backB (M : Mem) : Blk → Blk
  | .box l => .box (l.map (backC M))
  | .row t xs _ _ none => .row t xs 0 0 none
  | b => b
/-- some slots turned -/
def setA (tm : List AV) : List (Nat × AV) → List AV
  | [] => tm
  | p :: l => setA (tm.set p.1 p.2) l
def firstReg : Code → Nat
  | .region id _ _ => id
  | .seq a _ => firstReg a
  | .cond _ a _ => firstReg a
  | .block _ a => firstReg a
  | .loop a => firstReg a
  | .scope a => firstReg a
  | _ => 0
def isPanic (o : Oper) : Bool := match o.op with | .panic _ => true | _ => false
/-- where two branches meet again in one state (a condition marked by T.pro) -/
def joinK {P : Program} (T : Tab P) (A : LoopA) (K : Exit → List AV → Mem → Prop) : Exit → List AV → Mem → Prop
  | .normal, tm, M => ∃ q, A.inv q ∧ (let p := stealT (tm, stealA M 0 (A.hd q).2) 0 (A.hd q).1; leS T.n0 T.inp p.1 p.2 (p.1.map (backV p.2)) (p.2.map (backB p.2)) (A.hd q))
  | e, tm, M => K e tm M
/-- the condition of a piece of code -/
def vcCode {P : Program} (T : Tab P) (L : Nat → List AV → Mem → LoopA) : Code → List AV → Mem → (Exit → List AV → Mem → Prop) → Prop
  | .skip, tm, M, K => K .normal tm M
  | .region id ops draw, tm, M, K => bif ops.toList.any isPanic then False else bif draw then (P.follows .mixedOrders = true ∧ okA T ops (schedA T ops ops.size (Array.replicate ops.size false)) false (Array.replicate ops.size false) = true) ∧ vcOpsD T ops (schedA T ops ops.size (Array.replicate ops.size false)) tm M (fun tm M => K .normal tm M)
      else (match T.pro (id + 2000000) with | [] => vcOps T ops.toList ops.toList tm M (fun tm M => K .normal tm M) | _ :: _ => let A := L (id + 2000000) (tm.map (backV M)) (M.map (backB M)); vcOps T ops.toList ops.toList tm M (fun tm M => joinK T A K .normal tm M) ∧ ∀ q, A.inv q → K .normal (A.hd q).1 (A.hd q).2)
  | .seq x y, tm, M, K => vcCode T L x tm M (fun e tm M => match e with | .normal => vcCode T L y tm M K | e => K e tm M)
  | .cond c x y, tm, M, K => match T.pro (firstReg x + 1000000) with
    | [] => (match c with
      | .tmp t => match tm.getD t .any with
        | .w (.c (.bool g)) => bif g then vcCode T L x (tm.set t (.c (.bool true))) M K else vcCode T L y (tm.set t (.c (.bool false))) M K
        | _ => False
      | .const (.bool g) => bif g then vcCode T L x tm M K else vcCode T L y tm M K
      | _ => False)
    | _ :: _ => let A := L (firstReg x + 1000000) (tm.map (backV M)) (M.map (backB M))
      (match c with
      | .tmp t => match tm.getD t .any with
        | .w (.c (.bool g)) => bif g then vcCode T L x (tm.set t (.c (.bool true))) M (joinK T A K) else vcCode T L y (tm.set t (.c (.bool false))) M (joinK T A K)
        | _ => False
      | _ => False) ∧ ∀ q, A.inv q → K .normal (A.hd q).1 (A.hd q).2
  | .block id x, tm, M, K => match T.pro (id + 3000000) with
    | [] => vcCode T L x tm M (fun e tm M => match e with | .exit id' => (bif Nat.beq id' id then K .normal tm M else K (.exit id') tm M) | e => K e tm M)
    | _ :: _ => let A := L (id + 3000000) (tm.map (backV M)) (M.map (backB M))
      vcCode T L x tm M (fun e tm M => match e with | .exit id' => (bif Nat.beq id' id then joinK T A K .normal tm M else K (.exit id') tm M) | e => joinK T A K e tm M) ∧ ∀ q, A.inv q → K .normal (A.hd q).1 (A.hd q).2
  | .loop x, tm, M, K => let p := proA tm M (T.pro (firstReg x))
    let A := L (firstReg x) (p.1.map (backV p.2)) (p.2.map (backB p.2))
    (∃ y, A.inv y ∧ leS T.n0 T.inp p.1 p.2 (p.1.map (backV p.2)) (p.2.map (backB p.2)) (A.hd y)) ∧
    ∀ y, A.inv y → vcCode T L x (A.hd y).1 (A.hd y).2 (fun e tm' M' => match e with | .normal => ∃ y', A.inv y' ∧ A.μ y' < A.μ y ∧ (let p := stealT (tm', stealA M' 0 (A.hd y).2) 0 (A.hd y).1; leS T.n0 T.inp p.1 p.2 (p.1.map (backV p.2)) (p.2.map (backB p.2)) (A.hd y')) | e => K e tm' M')
  | .exit id, tm, M, K => K (.exit id) tm M
  | .label _, tm, M, K => K .normal tm M
  | .ret, tm, M, K => K .ret tm M
  | _, _, _, _ => False
/-- what the function hands back -/
def resW (P : Program) (tm : List AV) (M : Mem) : ResultVar → Option AW
  | .tmp t => match tm.getD t .any with
    | .w x => some x
    | _ => none
  | .cell a t => match tm.getD a .any with
    | .w (.c (.bp i o)) => match M[i]? with
      | some (.box l) => match loadA P t l o with
        | some (.w x) => some x
        | _ => none
      | _ => none
    | _ => none
def resA (P : Program) (tm : List AV) (M : Mem) : List ResultVar → Option (List AW)
  | [] => some []
  | r :: l => match resW P tm M r with
    | some x => match resA P tm M l with
      | some xs => some (x :: xs)
      | none => none
    | none => none
def tupA : List AW → AV
  | [x] => .w x
  | l => .tp l
def initT (n : Nat) (args : List AW) : List AV := args.map .w ++ List.replicate (n - args.length) undefA
/-- the condition of a function's body: what it hands back meets Q -/
def vcFun {P : Program} (T : Tab P) (L : Nat → List AV → Mem → LoopA) (fn : Func) (args : List AW) (M0 : Mem) (Q : AV → Mem → Prop) : Prop :=
  match fn.body with
  | some c => vcCode T L c (initT fn.ntmps args) M0 (fun e tm M => match e with
    | .normal => (match resA P tm M fn.results.toList with | some l => Q (tupA l) M | none => False)
    | .ret => (match resA P tm M fn.results.toList with | some l => Q (tupA l) M | none => False)
    | _ => False)
  | none => False
/-- a result that points to a variable of ours hands it over -/
def matchR (M new : Mem) : AV → AV → MR
  | .w a, .w b => matchP M new [] a b
  | r, res => matchV M new [] r res
/-- at the end: the answer r, our memory M; the contract says res, new -/
def endA (res : AV) (new : Mem) (r : AV) (M : Mem) : Prop := let m := matchR M new r res
  m.need ∧ (Nat.beq m.used.length new.length && distinct (somes m.used)) = true
end Go.Proofs.YtoigkpkafgjeaaaGreatDoor
set_option linter.unusedSimpArgs false
set_option linter.unusedVariables false
namespace Go.Proofs.YtoigkpkafgjeaaaGreatDoor
open Go.ChangeShapes Go.WideShapes Go.ChangeAt Go.RowKit Go.Joins Go.Deep
open GoRep (rep bulk)

section
variable {P : Program} {X : List Nat} {W : World} {E : Env} {M : Mem} {a : Act} {tm : List AV} {o : Oper}
theorem readL_no {c : AC} {L : Lnd} {q : RowC} (h : readL M c = some (L, q)) (ho : ownC c = false) : L = .no := by
  cases c with
  | hs L' t xs =>
    cases L' with
    | no => obtain ⟨rfl, _⟩ := Prod.mk.inj (Option.some.inj (show some (Lnd.no, (⟨t, xs, 0⟩ : RowC)) = some (L, q) from h)); rfl
    | «at» i v c => cases ho
  | row i v => cases ho
  | sl i v c n k o => cases ho
  | _ => cases h
theorem decT_out (hM : RepM X W E M) : ∀ (t : Ty) {l : List AC} {x : t.den} {rest : List AC} {vs : List Value}, decT M t l = some (x, rest) → RepL X W E M l vs →
    ∃ cs us F, vs = cs ++ us ∧ rep W x cs F ∧ RepL X W E M rest us ∧ (∀ b ∈ F, (b ∉ X ∧ b < W.heap.size) ∧ (l.any ownC = false → b ∉ foots E)) ∧ (l.any ownC = false → rest.any ownC = false)
  | .int k, l, x, rest, vs, h, hr => by
    have h : decInt k l = some (x, rest) := h
    unfold decInt at h
    split at h
    · split at h
      · rename_i hk
        subst hk
        obtain ⟨rfl, rfl⟩ := Prod.mk.inj (Option.some.inj h)
        obtain ⟨v, r, rfl, h1, h2⟩ := hr
        exact ⟨[v], r, [], rfl, ⟨by rw [h1.1], h1.2, rfl⟩, h2, by simp, fun h => by rw [List.any_cons, Bool.or_eq_false_iff] at h; exact h.2⟩
      · cases h
    · cases h
  | .bool, l, x, rest, vs, h, hr => by
    have h : decBool l = some (x, rest) := h
    unfold decBool at h
    split at h
    · obtain ⟨rfl, rfl⟩ := Prod.mk.inj (Option.some.inj h)
      obtain ⟨v, r, rfl, h1, h2⟩ := hr
      exact ⟨[v], r, [], rfl, ⟨by rw [show v = _ from h1], rfl⟩, h2, by simp, fun h => by rw [List.any_cons, Bool.or_eq_false_iff] at h; exact h.2⟩
    · cases h
  | .opq, l, x, rest, vs, h, hr => by
    have h : decOpq l = some (x, rest) := h
    unfold decOpq at h
    split at h
    · obtain ⟨rfl, rfl⟩ := Prod.mk.inj (Option.some.inj h)
      obtain ⟨v, r, rfl, h1, h2⟩ := hr
      exact ⟨[v], r, [], rfl, ⟨congrArg (fun z => [z]) h1.1, h1.2, rfl⟩, h2, by simp, fun h => by rw [List.any_cons, Bool.or_eq_false_iff] at h; exact h.2⟩
    · cases h
  | .str, l, x, rest, vs, h, hr => by
    have h : decStr l = some (x, rest) := h
    unfold decStr at h
    split at h
    · obtain ⟨rfl, rfl⟩ := Prod.mk.inj (Option.some.inj h)
      obtain ⟨v, r, rfl, h1, h2⟩ := hr
      exact ⟨[v], r, [], rfl, ⟨by rw [h1.1], h1.2, rfl⟩, h2, by simp, fun h => by rw [List.any_cons, Bool.or_eq_false_iff] at h; exact h.2⟩
    · cases h
  | .prod a b, l, x, rest, vs, h, hr => by
    unfold decT at h
    cases ha : decT M a l with
    | none => rw [ha] at h; cases h
    | some q =>
      obtain ⟨y, l1⟩ := q
      rw [ha] at h
      simp only at h
      cases hb : decT M b l1 with
      | none => rw [hb] at h; cases h
      | some q =>
        obtain ⟨z, r2⟩ := q
        rw [hb] at h
        obtain ⟨rfl, rfl⟩ := Prod.mk.inj (Option.some.inj h)
        obtain ⟨c1, u1, F1, rfl, p1, p2, p3, p4⟩ := decT_out hM a ha hr
        obtain ⟨c2, u2, F2, rfl, q1, q2, q3, q4⟩ := decT_out hM b hb p2
        refine ⟨c1 ++ c2, u2, F1 ++ F2, by simp, ⟨c1, c2, F1, F2, p1, q1, rfl, rfl⟩, q2, fun b hb => ?_, fun h => q4 (p4 h)⟩
        rcases List.mem_append.1 hb with hb | hb
        · exact p3 b hb
        · exact ⟨(q3 b hb).1, fun h => (q3 b hb).2 (p4 h)⟩
  | .list a, l, x, rest, vs, h, hr => by
    have h : decList M a l = some (x, rest) := h
    unfold decList at h
    split at h
    · obtain ⟨rfl, rfl⟩ := Prod.mk.inj (Option.some.inj h)
      obtain ⟨v, r, rfl, h1, h2⟩ := hr
      refine ⟨[v], r, [], rfl, ?_, h2, by simp, fun h => by rw [List.any_cons, Bool.or_eq_false_iff] at h; exact h.2⟩
      rw [h1.1]
      exact ⟨none, 0, rfl, Nat.le_refl _, Nat.zero_le _, .inl ⟨rfl, rfl⟩⟩
    · rename_i c l' _ _
      obtain ⟨v, r, rfl, h1, h2⟩ := hr
      cases hq : readL M c with
      | none => rw [hq] at h; cases h
      | some q =>
        obtain ⟨L, q⟩ := q
        rw [hq] at h
        simp only at h
        split at h
        · rename_i ht
          obtain ⟨rfl, rfl⟩ := Prod.mk.inj (Option.some.inj h)
          obtain ⟨A, cap, F, e1, e2, e3⟩ := read_of hM hq h1
          obtain ⟨qt, qxs, qc⟩ := q
          simp only at ht e1 e2
          subst ht
          refine ⟨[v], r, F, rfl, ⟨A, cap, by rw [e1], e2⟩, h2, fun b hb => ⟨e3.av hM b hb, fun ho => ?_⟩, fun h => by rw [List.any_cons, Bool.or_eq_false_iff] at h; exact h.2⟩
          rw [List.any_cons, Bool.or_eq_false_iff] at ho
          have hno : L = .no := readL_no hq ho.1
          subst hno
          exact (e3 b hb).1.1
        · cases h
    · cases h
theorem decT_one {t : Ty} {l : List AC} {x : t.den} {vs : List Value} (hM : RepM X W E M) (h : decT M t l = some (x, [])) (hr : RepL X W E M l vs) :
    ∃ F, rep W x vs F ∧ ∀ b ∈ F, (b ∉ X ∧ b < W.heap.size) ∧ (l.any ownC = false → b ∉ foots E) := by
  obtain ⟨cs, us, F, rfl, h1, h2, h3, _⟩ := decT_out hM t h hr
  obtain rfl : us = [] := h2
  rw [List.append_nil]
  exact ⟨F, h1, h3⟩
/-- typed cells, seen by a callee that must not touch what is ours -/
theorem repL_out {X' : List Nat} {t : Ty} {l : List AC} {x : t.den} {vs : List Value} (hM : RepM X W E M) (hX : ∀ b, b ∈ X' → b ∈ X ∨ (b ∈ foots E ∧ l.any ownC = false)) (h : decT M t l = some (x, [])) (hr : RepL X W E M l vs) : RepL X' W [] [] (cellsOf t x) vs := by
  obtain ⟨F, h1, h2⟩ := decT_one hM h hr
  exact repL_of_rep (L := .no) t h1 (fun b hb => ⟨⟨by simp [foots], fun hx => (hX b hx).elim (h2 b hb).1.1 (fun k => (h2 b hb).2 k.2 k.1)⟩, (h2 b hb).1.2⟩)
theorem rowRep_one {t : Ty} {b o : Nat} {x : t.den} {cs : List Value} {F : List Nat} (h1 : rep W x cs F) (h2 : CellsAt W b o cs) : RowRep W b o [x] F := ⟨cs, F, [], h1, h2, rfl, by simp⟩
theorem cellsAt_blk {b : Nat} {cs : Array Value} {T : TypeId} (hg : W.heap[b]? = some (.cells cs T (0, 0))) : CellsAt W b 0 cs.toList := fun j u hj => by
  rw [Nat.zero_add, cell_of_row W b j cs T (0, 0) hg, frozen_of_row W b j cs T hg]
  exact ⟨by simpa using hj, rfl⟩
theorem decJ_rep {X' : List Nat} : ∀ (t : Ty) {l : List AC} {x : t.den} {rest : List AC} {vs : List Value}, decJ t l = some (x, rest) → RepL X W E M l vs →
    ∃ cs us, vs = cs ++ us ∧ RepL X' W [] [] (cellsJ t x) cs ∧ RepL X W E M rest us
  | .int k, l, x, rest, vs, h, hr => by
    have h : decInt k l = some (x, rest) := h
    unfold decInt at h
    split at h
    · split at h
      · rename_i e
        subst e
        obtain ⟨rfl, rfl⟩ := Prod.mk.inj (Option.some.inj h)
        obtain ⟨v, r, rfl, h1, h2⟩ := hr
        exact ⟨[v], r, rfl, ⟨v, [], rfl, h1, rfl⟩, h2⟩
      · cases h
    · cases h
  | .bool, l, x, rest, vs, h, hr => by
    have h : decBool l = some (x, rest) := h
    unfold decBool at h
    split at h
    · obtain ⟨rfl, rfl⟩ := Prod.mk.inj (Option.some.inj h)
      obtain ⟨v, r, rfl, h1, h2⟩ := hr
      exact ⟨[v], r, rfl, ⟨v, [], rfl, h1, rfl⟩, h2⟩
    · cases h
  | .opq, l, x, rest, vs, h, hr => by
    have h : decOpq l = some (x, rest) := h
    unfold decOpq at h
    split at h
    · obtain ⟨rfl, rfl⟩ := Prod.mk.inj (Option.some.inj h)
      obtain ⟨v, r, rfl, h1, h2⟩ := hr
      exact ⟨[v], r, rfl, ⟨v, [], rfl, h1, rfl⟩, h2⟩
    · cases h
  | .str, l, x, rest, vs, h, hr => by
    have h : decStr l = some (x, rest) := h
    unfold decStr at h
    split at h
    · obtain ⟨rfl, rfl⟩ := Prod.mk.inj (Option.some.inj h)
      obtain ⟨v, r, rfl, h1, h2⟩ := hr
      exact ⟨[v], r, rfl, ⟨v, [], rfl, h1, rfl⟩, h2⟩
    · cases h
  | .prod a b, l, x, rest, vs, h, hr => by
    unfold decJ at h
    cases ha : decJ a l with
    | none => rw [ha] at h; cases h
    | some q =>
      obtain ⟨y, l1⟩ := q
      rw [ha] at h
      simp only at h
      cases hb : decJ b l1 with
      | none => rw [hb] at h; cases h
      | some q =>
        obtain ⟨z, r2⟩ := q
        rw [hb] at h
        obtain ⟨rfl, rfl⟩ := Prod.mk.inj (Option.some.inj h)
        obtain ⟨c1, u1, rfl, p1, p2⟩ := decJ_rep (X' := X') a ha hr
        obtain ⟨c2, u2, rfl, q1, q2⟩ := decJ_rep (X' := X') b hb p2
        exact ⟨c1 ++ c2, u2, by simp, RepL.append p1 q1, q2⟩
  | .list a, [], _, _, _, h, _ => by cases h
  | .list a, c :: l, x, rest, vs, h, hr => by
    obtain ⟨rfl, rfl⟩ := Prod.mk.inj (Option.some.inj h)
    obtain ⟨v, r, rfl, h1, h2⟩ := hr
    exact ⟨[v], r, rfl, ⟨v, [], rfl, RepC.one h1, rfl⟩, h2⟩
theorem decQ_rep {X' : List Nat} {t : Ty} {l : List AC} {d : t.den} {v : Value} (h : (bif l.any slC then (match decJ t l with | some (x, []) => some x | _ => none) else none) = some d) (hr : RepV X W E M (.w (.ag l)) v) :
    RepW X' W [] [] (.ag (cellsJ t d)) v := by
  cases hs : l.any slC with
  | false => rw [hs] at h; cases h
  | true =>
    rw [hs] at h
    simp only [cond_true] at h
    split at h
    · rename_i z hz
      obtain rfl : z = d := Option.some.inj h
      obtain ⟨cs, e, h2⟩ := (hr : ∃ cs, v = .agg cs.toArray ∧ RepL X W E M l cs)
      obtain ⟨c1, us, rfl, h3, h4⟩ := decJ_rep (X' := X') t hz h2
      obtain rfl : us = [] := h4
      rw [List.append_nil] at e
      exact ⟨c1, e, h3⟩
    · cases h
theorem decA1_rep {X' : List Nat} {y : ATy} {x : AV} {d : y.ty.den} {v : Value} (hM : RepM X W E M) (hX : ∀ b, b ∈ X' → b ∈ X ∨ (b ∈ foots E ∧ (match y with | .p _ => False | _ => True) ∧ ownAV x = false)) (h : decA1 M y x = some d) (hr : RepV X W E M x v) :
    RepW X' W [] [] (encA1 y d) v := by
  unfold decA1 at h
  split at h
  · rename_i t c
    split at h
    · rename_i z hz
      obtain rfl : z = d := Option.some.inj h
      have h1 := repL_out (X' := X') hM (fun b hb => (hX b hb).imp id (fun k => ⟨k.1, by rw [List.any_cons, List.any_nil, Bool.or_false]; exact k.2.2⟩)) hz (⟨v, [], rfl, hr, rfl⟩ : RepL X W E M [c] [v])
      show RepC X' W [] [] (enc1 t z) v
      unfold enc1
      have hl := h1.len
      cases hc : cellsOf t z with
      | nil => rw [hc] at hl; simp at hl
      | cons q qs =>
        rw [hc] at h1
        obtain ⟨v', r, e, q1, _⟩ := h1
        simp at e
        rw [e.1]
        exact q1
    · cases h
  · rename_i t l
    split at h
    · rename_i z hz
      obtain rfl : z = d := Option.some.inj h
      obtain ⟨cs, e, h2⟩ := (hr : ∃ cs, v = .agg cs.toArray ∧ RepL X W E M l cs)
      exact ⟨cs, e, repL_out hM (fun b hb => (hX b hb).imp id (fun k => ⟨k.1, k.2.2⟩)) hz h2⟩
    · cases h
  · rename_i t i
    split at h
    · rename_i l hb
      split at h
      · rename_i z hz
        obtain rfl : z = d := Option.some.inj h
        obtain ⟨e, he, hv⟩ := (hr : boxAt E i v 0)
        obtain ⟨hf, cs, T, hg, hl⟩ := hM.at_ i _ e hb he
        obtain ⟨F, h1, h2⟩ := decT_one hM hz hl
        have hX' : ∀ b ∈ X', b ∈ X := fun b hb => (hX b hb).elim id (fun h => h.2.1.elim)
        have hblk : e.blk ∈ foots E := mem_foots.2 ⟨e, List.mem_of_getElem? he, by simp [hf]⟩
        refine ⟨by rw [hv]; rfl, e.blk :: F, ⟨e.blk, 0, F, rfl, by rw [hv]; simp, by simp, rowRep_one h1 (cellsAt_blk hg)⟩, fun g hg' => ⟨⟨by simp [foots], fun hx => ?_⟩, ?_⟩⟩
        · rcases List.mem_cons.1 hg' with rfl | hg'
          · exact hM.xlt _ (hX' _ hx) hblk
          · exact (h2 g hg').1.1 (hX' g hx)
        · rcases List.mem_cons.1 hg' with rfl | hg'
          · exact hM.lt _ hblk
          · exact (h2 g hg').1.2
      · cases h
    · cases h
  · rename_i t L t' xs k
    cases hL : liveL M L with
    | false => rw [hL] at h; cases h
    | true =>
      rw [hL] at h
      simp only [cond_true] at h
      split at h
      · rename_i ht
        subst ht
        obtain rfl : nth t' xs k = d := Option.some.inj h
        obtain ⟨b, off, cs, Gk, e, h1, h2, h3⟩ := ep_of hL hr
        obtain ⟨F, ⟨b', off', G', rfl, e', hk, hr'⟩, hF⟩ := lend_live hL (hr : RepC X W E M (.ep L t' xs k 0) v).2
        have hX' : ∀ b ∈ X', b ∈ X := fun b hb => (hX b hb).elim id (fun h => h.2.1.elim)
        have hav := hF.av hM
        have hav2 := h2.av hM
        have hbb : b = b' ∧ off + k * t'.n = off' + k * t'.n := by
          rw [e] at e'
          injection e' with e'
          injection e' with e'
          injection e' with a1 a2
          exact ⟨a1, by simpa using a2⟩
        refine ⟨RepC.one (show RepC X W E M (.ep L t' xs k 0) v from hr), b :: Gk, ⟨b, off + k * t'.n, Gk, rfl, by rw [e]; simp, by simp, rowRep_one h1 h3⟩, fun g hg => ?_⟩
        rcases List.mem_cons.1 hg with rfl | hg
        · have := hav b' (by simp)
          rw [← hbb.1] at this
          exact ⟨⟨by simp [foots], fun hx => this.1 (hX' _ hx)⟩, this.2⟩
        · exact ⟨⟨by simp [foots], fun hx => (hav2 g hg).1 (hX' g hx)⟩, (hav2 g hg).2⟩
      · cases h
  · exact decQ_rep h hr
  · cases h
theorem decA_rep {X' : List Nat} (hM : RepM X W E M) : ∀ {l : List ATy} {xs : List AV} {d : AD l} {vs : List Value}, (∀ b, b ∈ X' → b ∈ X ∨ (b ∈ foots E ∧ hasP l = false ∧ xs.any ownAV = false)) → decA M l xs = some d → RepT X W E M xs vs → RepWs X' W [] [] (encA l d) vs
  | [], [], _, _, _, _, hr => hr
  | [], _ :: _, _, _, _, h, _ => by simp [decA] at h
  | _ :: _, [], _, _, _, h, _ => by simp [decA] at h
  | y :: l, x :: xs, d, vs, hX, h, ⟨v, r, e, h1, h2⟩ => by
    unfold decA at h
    cases hq : decA1 M y x with
    | none => rw [hq] at h; cases h
    | some z =>
      rw [hq] at h
      simp only at h
      cases hz : decA M l xs with
      | none => rw [hz] at h; cases h
      | some ys =>
        rw [hz] at h
        obtain rfl : (z, ys) = d := Option.some.inj h
        refine ⟨v, r, e, decA1_rep hM (fun b hb => (hX b hb).imp id (fun h => ⟨h.1, ?_, ?_⟩)) hq h1, decA_rep hM (fun b hb => (hX b hb).imp id (fun h => ⟨h.1, ?_, ?_⟩)) hz h2⟩
        · cases y <;> first | trivial | (simp [hasP] at h)
        · have := h.2.2; rw [List.any_cons, Bool.or_eq_false_iff] at this; exact this.1
        · cases y <;> first | (simpa [hasP] using h.2.1) | (simp [hasP] at h)
        · have := h.2.2; rw [List.any_cons, Bool.or_eq_false_iff] at this; exact this.2
theorem scalC_rep {X' : List Nat} {W' : World} {E' : Env} {M' : Mem} {c : AC} {v : Value} (h : scalC c = true) (hr : RepC X W E M c v) : RepC X' W' E' M' c v := by
  cases c <;> first | exact hr | cases h
theorem scalL_rep {X' : List Nat} {W' : World} {E' : Env} {M' : Mem} : ∀ {l : List AC} {vs : List Value}, l.all scalC = true → RepL X W E M l vs → RepL X' W' E' M' l vs
  | [], _, _, h => h
  | _ :: _, _, h, ⟨v, r, e, h1, h2⟩ => by
    rw [List.all_cons, Bool.and_eq_true] at h
    exact ⟨v, r, e, scalC_rep h.1 h1, scalL_rep h.2 h2⟩
theorem scalW_rep {X' : List Nat} {W' : World} {E' : Env} {M' : Mem} {x : AW} {v : Value} (h : scalW x = true) (hr : RepW X W E M x v) : RepW X' W' E' M' x v := by
  cases x with
  | c a => exact scalC_rep h hr
  | ag l => obtain ⟨cs, e, h2⟩ := hr; exact ⟨cs, e, scalL_rep h h2⟩
theorem scalWs_rep {X' : List Nat} {W' : World} {E' : Env} {M' : Mem} : ∀ {l : List AW} {vs : List Value}, l.all scalW = true → RepWs X W E M l vs → RepWs X' W' E' M' l vs
  | [], _, _, h => h
  | _ :: _, _, h, ⟨v, r, e, h1, h2⟩ => by
    rw [List.all_cons, Bool.and_eq_true] at h
    exact ⟨v, r, e, scalW_rep h.1 h1, scalWs_rep h.2 h2⟩
theorem scalV_rep {X' : List Nat} {W' : World} {E' : Env} {M' : Mem} {x : AV} {v : Value} (h : scalV x = true) (hr : RepV X W E M x v) : RepV X' W' E' M' x v := by
  cases x with
  | w x => exact scalW_rep h hr
  | tp l => obtain ⟨vs, e, h2⟩ := hr; exact ⟨vs, e, scalWs_rep h h2⟩
  | any => trivial
end
section
variable {X : List Nat} {W W' : World} {E E' : Env} {M N : Mem}
theorem boxAt_shift (hl : M.length = E.length) {i q : Nat} {v : Value} (h : boxAt E' i v q) : boxAt (E ++ E') (i + M.length) v q := by
  obtain ⟨e, h1, h2⟩ := h
  exact ⟨e, by rw [hl, Nat.add_comm, List.getElem?_append_right (by omega), Nat.add_sub_cancel_left]; exact h1, h2⟩
theorem capsAt_shift (hl : M.length = E.length) : ∀ {is : List Nat} {vs : List Value}, capsAt E' is vs → capsAt (E ++ E') (is.map (· + M.length)) vs
  | [], _, h => h
  | _ :: _, _, ⟨v, r, e, h1, h2⟩ => ⟨v, r, e, boxAt_shift hl h1, capsAt_shift hl h2⟩
theorem shift_get (hl : M.length = E.length) (i : Nat) : (M ++ N)[i + M.length]? = N[i]? ∧ (E ++ E')[i + M.length]? = E'[i]? :=
  ⟨by rw [Nat.add_comm, List.getElem?_append_right (by omega), Nat.add_sub_cancel_left], by rw [hl, Nat.add_comm, List.getElem?_append_right (by omega), Nat.add_sub_cancel_left]⟩
theorem lendQ_shift {X' : List Nat} {Q : List Nat → Prop} (hl : M.length = E.length) (hX : ∀ b ∈ X, b ∈ X') (hc : ∀ b ∈ foots E, b ∈ X') : ∀ {L : Lnd}, lendQ X' W' E' N L Q → lendQ X W' (E ++ E') (M ++ N) (shiftL M.length L) Q
  | .no, ⟨F, h1, h2⟩ => ⟨F, h1, fun b hb => by
      have := h2 b hb
      rw [foots_append, List.mem_append]
      exact ⟨⟨fun h => h.elim (fun h => this.1.2 (hc b h)) this.1.1, fun h => this.1.2 (hX b h)⟩, this.2⟩⟩
  | .at i v c, h => by
    have h : lendAt E' N i v c Q := h
    show lendAt (E ++ E') (M ++ N) (i + M.length) v c Q
    unfold lendAt at h ⊢
    rw [(shift_get (E' := E') hl i).1, (shift_get (N := N) hl i).2]
    exact h
theorem inRow_shift (hl : M.length = E.length) {i ver c n k o : Nat} {u : Value} (h : inRow W' E' N i ver c n k o u) : inRow W' (E ++ E') (M ++ N) (i + M.length) ver c n k o u := by
  obtain ⟨b, h1, h2⟩ := h
  refine ⟨b, ?_, ?_⟩
  · unfold atRow at h1 ⊢
    rw [(shift_get (E' := E') hl i).1, (shift_get (N := N) hl i).2]
    exact h1
  · unfold lendAt at h2 ⊢
    rw [(shift_get (E' := E') hl i).1, (shift_get (N := N) hl i).2]
    exact h2
theorem shiftC_rep {X' : List Nat} (hl : M.length = E.length) (hX : ∀ b ∈ X, b ∈ X') : ∀ {c : AC} {v : Value}, (memC c = true ∨ ∀ b ∈ foots E, b ∈ X') → RepC X' W' E' N c v → RepC X W' (E ++ E') (M ++ N) (shiftC M.length c) v
  | .int _ _, _, _, h => h
  | .bool _, _, _, h => h
  | .str _, _, _, h => h
  | .opq _, _, _, h => h
  | .hs L t xs, v, hc, h => ⟨h.1, lendQ_shift hl hX (hc.resolve_left (by simp [memC])) h.2⟩
  | .bp _ _, _, _, h => boxAt_shift hl h
  | .ep L t xs k o, v, hc, h => ⟨h.1, lendQ_shift hl hX (hc.resolve_left (by simp [memC])) h.2⟩
  | .row i ver, v, _, h => by
    refine ⟨h.1, ?_⟩
    have h2 := h.2
    unfold atRow at h2 ⊢
    rw [(shift_get (E' := E') hl i).1, (shift_get (N := N) hl i).2]
    exact h2
  | .rp i ver n k o, v, _, h => by
    refine ⟨h.1, ?_⟩
    have h2 := h.2
    unfold atRow at h2 ⊢
    rw [(shift_get (E' := E') hl i).1, (shift_get (N := N) hl i).2]
    exact h2
  | .sl i ver c n k o, v, _, h => ⟨h.1, inRow_shift hl h.2⟩
  | .sp i ver c n k o m x q, v, _, ⟨h0, b, l, cap, h1, h2⟩ => ⟨h0, b, l, cap, inRow_shift hl h1, h2⟩
  | .tl i ver n k, v, _, h => by
    refine ⟨h.1, ?_⟩
    have h2 := h.2
    unfold atRow at h2 ⊢
    rw [(shift_get (E' := E') hl i).1, (shift_get (N := N) hl i).2]
    exact h2
  | .mp i, v, _, ⟨e, h1, h2⟩ => ⟨e, by rw [(shift_get (N := N) hl i).2]; exact h1, h2⟩
  | .fn f caps, v, _, ⟨vs, e, h⟩ => ⟨vs, e, capsAt_shift hl h⟩
  | .raw _, _, _, h => h
  | .junk, _, _, h => h
theorem shiftL_rep {X' : List Nat} (hl : M.length = E.length) (hX : ∀ b ∈ X, b ∈ X') : ∀ {l : List AC} {vs : List Value}, (l.all memC = true ∨ ∀ b ∈ foots E, b ∈ X') → RepL X' W' E' N l vs → RepL X W' (E ++ E') (M ++ N) (l.map (shiftC M.length)) vs
  | [], _, _, h => h
  | _ :: _, _, hc, ⟨v, r, e, h1, h2⟩ => ⟨v, r, e, shiftC_rep hl hX (hc.imp (fun h => by rw [List.all_cons, Bool.and_eq_true] at h; exact h.1) id) h1, shiftL_rep hl hX (hc.imp (fun h => by rw [List.all_cons, Bool.and_eq_true] at h; exact h.2) id) h2⟩
theorem shiftW_rep {X' : List Nat} (hl : M.length = E.length) (hX : ∀ b ∈ X, b ∈ X') : ∀ {x : AW} {v : Value}, (memW x = true ∨ ∀ b ∈ foots E, b ∈ X') → RepW X' W' E' N x v → RepW X W' (E ++ E') (M ++ N) (shiftW M.length x) v
  | .c _, _, hc, h => shiftC_rep hl hX hc h
  | .ag _, _, hc, ⟨cs, e, h⟩ => ⟨cs, e, shiftL_rep hl hX hc h⟩
theorem shiftWs_rep {X' : List Nat} (hl : M.length = E.length) (hX : ∀ b ∈ X, b ∈ X') : ∀ {l : List AW} {vs : List Value}, (l.all memW = true ∨ ∀ b ∈ foots E, b ∈ X') → RepWs X' W' E' N l vs → RepWs X W' (E ++ E') (M ++ N) (l.map (shiftW M.length)) vs
  | [], _, _, h => h
  | _ :: _, _, hc, ⟨v, r, e, h1, h2⟩ => ⟨v, r, e, shiftW_rep hl hX (hc.imp (fun h => by rw [List.all_cons, Bool.and_eq_true] at h; exact h.1) id) h1, shiftWs_rep hl hX (hc.imp (fun h => by rw [List.all_cons, Bool.and_eq_true] at h; exact h.2) id) h2⟩
theorem shiftV_rep {X' : List Nat} (hl : M.length = E.length) (hX : ∀ b ∈ X, b ∈ X') {x : AV} {v : Value} (hc : memV x = true ∨ ∀ b ∈ foots E, b ∈ X') (h : RepV X' W' E' N x v) : RepV X W' (E ++ E') (M ++ N) (shiftV M.length x) v := by
  cases x with
  | w x => exact shiftW_rep hl hX hc h
  | tp l => obtain ⟨vs, e, h⟩ := h; exact ⟨vs, e, shiftWs_rep hl hX hc h⟩
  | any => trivial
/-- our own blocks stand behind a call that made only new memory -/
theorem grow_call (g : Grow W [] W' E') (hM : RepM X W E M) : Grow W E W' (E ++ E') where
  os := g.os
  tape := g.tape
  output := g.output
  size := g.size
  keep b hb _ := g.keep b hb (by simp [foots])
  new b hb := by
    rw [foots_append, List.mem_append] at hb
    exact hb.elim .inl (fun h => .inr ((g.new b h).elim (fun h => by simp [foots] at h) id))
  blk i e he := ⟨e, by rw [List.getElem?_append_left (List.getElem?_eq_some_iff.1 he).1]; exact he, rfl⟩
theorem forL_shift {n : Nat} : ∀ {l : List AC}, l.all forC = true → l.map (shiftC n) = l
  | [], _ => rfl
  | c :: l, h => by
    rw [List.all_cons, Bool.and_eq_true] at h
    rw [List.map_cons, forL_shift h.2]
    have : shiftC n c = c := by
      cases c <;> first | rfl | skip
      case hs L t xs => cases L <;> first | rfl | exact absurd h.1 (by simp [forC, scalC])
      all_goals exact absurd h.1 (by simp [forC, scalC])
    rw [this]
theorem repM_call {X' : List Nat} (g : Grow W [] W' E') (hX : ∀ b ∈ X, b ∈ X') (hM : RepM X W E M) (hN : RepM X' W' E' N) (hrow : N.all rowB = true ∨ N.all newB = true ∧ ∀ b ∈ foots E, b ∈ X') : MemOk W E M W' (E ++ E') (M ++ N) ∧ RepM X W' (E ++ E') (M ++ N) := by
  have hg := grow_call g hM
  have hkeep : ∀ b ∈ foots E, W'.heap[b]? = W.heap[b]? := fun b hb => g.keep b (hM.lt b hb) (by simp [foots])
  have hm : MemOk W E M W' (E ++ E') (M ++ N) := memOk_append (W := W) (W' := W') ⟨g.os, g.tape, g.output, g.size, fun b hb _ => g.keep b hb (by simp [foots]), fun b hb => .inl hb, fun _ e h => ⟨e, h, rfl⟩⟩ hM hkeep N E'
  refine ⟨hm, ⟨by simp [hM.len, hN.len], nodup_app_fresh hM.nodup hN.nodup hM.lt (fun b hb => (g.new b hb).elim (fun h => by simp [foots] at h) id), fun i b e hb he => ?_, fun b hb => ?_, fun b hb hf => ?_, fun b hb => Nat.lt_of_lt_of_le (hM.xsz b hb) g.size⟩⟩
  · by_cases hi : i < M.length
    · rw [List.getElem?_append_left hi] at hb
      rw [List.getElem?_append_left (by rw [← hM.len]; exact hi)] at he
      exact (hM.at_ i b e hb he).keep hg hm hM.len (fun q hq => hkeep q (mem_foots.2 ⟨e, List.mem_of_getElem? he, hq⟩))
    · rw [List.getElem?_append_right (by omega)] at hb
      rw [List.getElem?_append_right (by rw [← hM.len]; omega), ← hM.len] at he
      have h1 := hN.at_ _ b e hb he
      rcases hrow with hrow | ⟨hrow, hE⟩
      · have hr := List.all_eq_true.1 hrow b (List.mem_of_getElem? hb)
        cases b with
        | row t xs v c hh =>
          cases hh with
          | none => exact h1
          | some _ => cases hr
        | box l => cases hr
        | mp _ => cases hr
        | dead => cases hr
      · have hr := List.all_eq_true.1 hrow b (List.mem_of_getElem? hb)
        cases b with
        | row t xs v c hh =>
          cases hh with
          | none => exact h1
          | some _ => cases hr
        | box l =>
          obtain ⟨hf, cs, T, hw, hl⟩ := h1
          refine ⟨hf, cs, T, hw, ?_⟩
          have := shiftL_rep (M := M) (E := E) hM.len hX (.inr hE) hl
          rwa [forL_shift hr] at this
        | mp _ => cases hr
        | dead => cases hr
  · rw [foots_append, List.mem_append] at hb
    exact hb.elim (fun h => Nat.lt_of_lt_of_le (hM.lt b h) g.size) (hN.lt b)
  · rw [foots_append, List.mem_append] at hf
    exact hf.elim (hM.xlt b hb) (hN.xlt b (hX b hb))
end
end Go.Proofs.YtoigkpkafgjeaaaGreatDoor
set_option linter.unusedSimpArgs false
set_option linter.unusedVariables false
namespace Go.Proofs.YtoigkpkafgjeaaaGreatDoor
open Go.ChangeShapes Go.WideShapes Go.ChangeAt Go.RowKit Go.Joins Go.Deep
open GoRep (rep bulk)

section
variable {P : Program} {X : List Nat} {W : World} {E : Env} {M : Mem} {a : Act} {tm : List AV} {o : Oper} {T : Tab P}
/-- the operation is carried out, and what follows finds what the abstract one says -/
def DoesW (X : List Nat) (P : Program) (o : Oper) (a : Act) (W : World) (E : Env) (M : Mem) (v : AV) (M' : Mem) : Prop :=
  ∀ (next : Act → World → Prop) (Q : Exit → Act → World → Prop), (∀ u W' E', Grow W E W' E' → MemOk W E M W' E' M' → RepM X W' E' M' → RepV X W' E' M' v u → next (a.put o.dst u) W') → o.wp P a W next Q
theorem Does.toW {v : AV} {M' : Mem} (h : Does X P o a W E M v M') : DoesW X P o a W E M v M' := fun next Q hK => by
  obtain ⟨u, W', E', h1, g, m, r, hv⟩ := h
  unfold Oper.wp
  rcases h1 with h1 | ⟨h1, rfl⟩
  · rw [h1]; exact hK _ _ _ g m r hv
  · rw [h1]; exact hK _ _ _ g m r hv
theorem exec_call {fn : Operand} {args : Array Operand} {ts : Array TypeId} {f : FuncId} {caps : Array Value} (ho : o.op = .call ⟨.value fn, args, ts⟩) (hf : a.eval fn = .func (.func f) #[] caps)
    (hent : ∀ args w, (callFunc f args).run P w = .ok (.enter f args) w) : (execOp a.eval o).run P W = .ok (.enter f (args.map a.eval ++ caps)) W := by
  unfold execOp
  simp only [ho, resolve, hf, Deferred.ofValue, Sem.run_bind, Sem.run_pure, Result.andThen_ok, invoke, Array.empty_append, hent]
theorem doesW_call {fn : Operand} {args : Array Operand} {ts : Array TypeId} {f : FuncId} {caps : List Value} {v : AV} {M' : Mem} (ho : o.op = .call ⟨.value fn, args, ts⟩) (hf : a.eval fn = .func (.func f) #[] caps.toArray)
    (hent : ∀ args w, (callFunc f args).run P w = .ok (.enter f args) w)
    (hc : Calls P f (args.toList.map a.eval ++ caps).toArray W (fun e W' => ∃ u E', e = .returned u ∧ Grow W E W' E' ∧ MemOk W E M W' E' M' ∧ RepM X W' E' M' ∧ RepV X W' E' M' v u)) : DoesW X P o a W E M v M' := fun next Q hK => by
  unfold Oper.wp
  rw [exec_call ho hf hent, Oper.upon_enter]
  have e1 : args.map a.eval ++ caps.toArray = (args.toList.map a.eval ++ caps).toArray := by
    rw [← List.append_toArray, ← Array.toList_map]
  rw [e1]
  refine hc.mono fun e W' h => ?_
  obtain ⟨u, E', rfl, g, m, r, hv⟩ := h
  exact hK u W' E' g m r hv
theorem findE_eq {f : FuncId} : ∀ {l : List (Entry P)} {e : Entry P}, findE f l = some e → e.f = f
  | [], _, h => by cases h
  | d :: l, e, h => by
    unfold findE at h
    cases hb : Nat.beq d.f f with
    | true => rw [hb] at h; obtain rfl := Option.some.inj h; exact Nat.eq_of_beq_eq_true hb
    | false => rw [hb] at h; exact findE_eq h
theorem findH_eq {f : FuncId} : ∀ {l : List (HEntry P)} {e : HEntry P}, findH f l = some e → e.f = f
  | [], _, h => by cases h
  | d :: l, e, h => by
    unfold findH at h
    cases hb : Nat.beq d.f f with
    | true => rw [hb] at h; obtain rfl := Option.some.inj h; exact Nat.eq_of_beq_eq_true hb
    | false => rw [hb] at h; exact findH_eq h
theorem findH2_eq {f : FuncId} : ∀ {l : List (HEntry2 P)} {e : HEntry2 P}, findH2 f l = some e → e.f = f
  | [], _, h => by cases h
  | d :: l, e, h => by
    unfold findH2 at h
    cases hb : Nat.beq d.f f with
    | true => rw [hb] at h; obtain rfl := Option.some.inj h; exact Nat.eq_of_beq_eq_true hb
    | false => rw [hb] at h; exact findH2_eq h
theorem bps_rep : ∀ {ids : List Nat} {vs : List Value}, capsAt E ids vs → RepT X W E M (ids.map (fun i => .c (.bp i 0))) vs
  | [], _, h => h
  | _ :: _, _, ⟨v, r, e, h1, h2⟩ => ⟨v, r, e, h1, bps_rep h2⟩
theorem RepT.append : ∀ {l k : List AV} {vs us : List Value}, RepT X W E M l vs → RepT X W E M k us → RepT X W E M (l ++ k) (vs ++ us)
  | [], _, _, _, h, h2 => by rw [show _ = _ from h]; exact h2
  | _ :: _, _, _, _, ⟨v, r, e, h1, h3⟩, h2 => by rw [e]; exact ⟨v, _, rfl, h1, RepT.append h3 h2⟩
def rawC : AC → Bool
  | .raw _ => true
  | .bp _ _ => true
  | .ep _ _ _ _ _ => true
  | .row _ _ => true
  | .rp _ _ _ _ _ => true
  | .sl _ _ _ _ _ _ => true
  | .sp _ _ _ _ _ _ _ _ _ => true
  | .tl _ _ _ _ => true
  | .mp _ => true
  | .junk => true
  | .hs (.at _ _ _) _ _ => true
  | .fn _ _ => true
  | _ => false
theorem cellsOf_raw : ∀ (t : Ty) (x : t.den), ∀ c ∈ cellsOf t x, rawC c = false
  | .int _, _, c, h => by obtain rfl := List.mem_singleton.1 h; rfl
  | .bool, _, c, h => by obtain rfl := List.mem_singleton.1 h; rfl
  | .str, _, c, h => by obtain rfl := List.mem_singleton.1 h; rfl
  | .opq, _, c, h => by obtain rfl := List.mem_singleton.1 h; rfl
  | .prod a b, x, c, h => (List.mem_append.1 h).elim (cellsOf_raw a _ c) (cellsOf_raw b _ c)
  | .list _, _, c, h => by obtain rfl := List.mem_singleton.1 h; rfl
theorem decT_eq : ∀ (t : Ty) {l : List AC} {x : t.den} {rest : List AC}, (∀ c ∈ l, rawC c = false) → decT M t l = some (x, rest) → l = cellsOf t x ++ rest
  | .int k, l, x, rest, hl, h => by
    have h : decInt k l = some (x, rest) := h
    unfold decInt at h
    split at h
    · split at h
      · rename_i hk
        subst hk
        obtain ⟨rfl, rfl⟩ := Prod.mk.inj (Option.some.inj h)
        rfl
      · cases h
    · cases h
  | .bool, l, x, rest, hl, h => by
    have h : decBool l = some (x, rest) := h
    unfold decBool at h
    split at h
    · obtain ⟨rfl, rfl⟩ := Prod.mk.inj (Option.some.inj h)
      rfl
    · cases h
  | .opq, l, x, rest, hl, h => by
    have h : decOpq l = some (x, rest) := h
    unfold decOpq at h
    split at h
    · obtain ⟨rfl, rfl⟩ := Prod.mk.inj (Option.some.inj h)
      rfl
    · cases h
  | .str, l, x, rest, hl, h => by
    have h : decStr l = some (x, rest) := h
    unfold decStr at h
    split at h
    · obtain ⟨rfl, rfl⟩ := Prod.mk.inj (Option.some.inj h)
      rfl
    · cases h
  | .prod a b, l, x, rest, hl, h => by
    unfold decT at h
    cases ha : decT M a l with
    | none => rw [ha] at h; cases h
    | some q =>
      obtain ⟨y, l1⟩ := q
      rw [ha] at h
      simp only at h
      cases hb : decT M b l1 with
      | none => rw [hb] at h; cases h
      | some q =>
        obtain ⟨z, r2⟩ := q
        rw [hb] at h
        obtain ⟨rfl, rfl⟩ := Prod.mk.inj (Option.some.inj h)
        have h1 := decT_eq a hl ha
        have h2 := decT_eq b (fun c hc => hl c (by rw [h1]; simp [hc])) hb
        rw [h1, h2]
        show _ = (cellsOf a y ++ cellsOf b z) ++ r2
        rw [List.append_assoc]
  | .list a, l, x, rest, hl, h => by
    have h : decList M a l = some (x, rest) := h
    cases l with
    | nil => cases h
    | cons c l =>
      have hc := hl c List.mem_cons_self
      cases c with
      | hs L t xs =>
        cases L with
        | no =>
          have h : (if h : t = a then some (h ▸ xs, l) else none) = some (x, rest) := h
          split at h
          · rename_i hk
            subst hk
            obtain ⟨rfl, rfl⟩ := Prod.mk.inj (Option.some.inj h)
            rfl
          · cases h
        | «at» i v c => cases hc
      | int k x => cases h
      | bool b => cases h
      | str s => cases h
      | opq s => cases h
      | bp i o => cases h
      | fn f l => cases hc
      | raw v => cases hc
      | _ => cases hc
theorem enc1_raw {t : Ty} {x : t.den} : rawC (enc1 t x) = false := by
  unfold enc1
  have h := cellsOf_raw t x
  cases hc : cellsOf t x with
  | nil => rfl
  | cons c l => rw [hc] at h; exact h c List.mem_cons_self
theorem cellsOf_sl : ∀ (t : Ty) (x : t.den), (cellsOf t x).any slC = false
  | .int _, _ => rfl
  | .bool, _ => rfl
  | .str, _ => rfl
  | .opq, _ => rfl
  | .prod a b, x => by
    show (cellsOf a x.1 ++ cellsOf b x.2).any slC = false
    rw [List.any_append, cellsOf_sl a, cellsOf_sl b]
    rfl
  | .list _, _ => rfl
theorem decA1_el {agg : Bool} {t : Ty} {x : t.den} {y : ATy} {d : y.ty.den} (h : decA1 M y (encEl agg t x) = some d) : encEl agg t x = .w (encA1 y d) := by
  cases agg with
  | true =>
    have he : encEl true t x = .w (.ag (cellsOf t x)) := rfl
    rw [he] at h ⊢
    cases y with
    | v t' => cases h
    | p t' => cases h
    | q t' =>
      have h : (bif (cellsOf t x).any slC then (match decJ t' (cellsOf t x) with | some (x, []) => some x | _ => none) else none) = some d := h
      rw [cellsOf_sl] at h
      cases h
    | s t' =>
      have h : (match decT M t' (cellsOf t x) with | some (x, []) => some x | _ => none) = some d := h
      split at h
      · rename_i z hz
        obtain rfl := Option.some.inj h
        have := decT_eq t' (cellsOf_raw t x) hz
        rw [List.append_nil] at this
        rw [this]
        rfl
      · cases h
  | false =>
    have he : encEl false t x = .w (.c (enc1 t x)) := rfl
    have hr := enc1_raw (t := t) (x := x)
    rw [he] at h ⊢
    cases y with
    | s t' => cases h
    | q t' => cases h
    | p t' =>
      revert h hr
      generalize enc1 t x = c
      intro hr h
      cases c <;> first | (simp [rawC] at hr; done) | (simp [decA1] at h; done)
    | v t' =>
      have h : (match decT M t' [enc1 t x] with | some (x, []) => some x | _ => none) = some d := h
      split at h
      · rename_i z hz
        obtain rfl := Option.some.inj h
        have := decT_eq t' (fun c hc => by obtain rfl := List.mem_singleton.1 hc; exact hr) hz
        rw [List.append_nil] at this
        show _ = AV.w (.c (enc1 t' z))
        unfold enc1 at this ⊢
        rw [← this]
        rfl
      · cases h
theorem decT_bp {i : Nat} : ∀ t : Ty, decT M t [.bp i 0] = none
  | .int _ => rfl
  | .bool => rfl
  | .str => rfl
  | .opq => rfl
  | .prod a b => by unfold decT; rw [decT_bp a]
  | .list _ => rfl
def cvsOf : (l : List ATy) → AD l → List CV
  | [], _ => []
  | a :: l, d => ⟨a.ty, d.1⟩ :: cvsOf l d.2
theorem decA_caps (hM : RepM X W E M) : ∀ {l : List ATy} {ids : List Nat} {d : AD l} {vs : List Value}, decA M l (ids.map (fun i => .c (.bp i 0))) = some d → capsAt E ids vs →
    encA l d = (cvsOf l d).map CV.arg ∧ capsV X W (cvsOf l d) vs
  | [], [], _, _, _, h => ⟨rfl, h⟩
  | [], _ :: _, _, _, h, _ => by simp [decA] at h
  | _ :: _, [], _, _, h, _ => by simp [decA] at h
  | y :: l, i :: ids, d, vs, h, ⟨v, r, e, h1, h2⟩ => by
    rw [List.map_cons] at h
    unfold decA at h
    cases hq : decA1 M y (.c (.bp i 0)) with
    | none => rw [hq] at h; cases h
    | some z =>
      rw [hq] at h
      simp only at h
      cases hz : decA M l (ids.map (fun i => .c (.bp i 0))) with
      | none => rw [hz] at h; cases h
      | some ys =>
        rw [hz] at h
        obtain rfl : (z, ys) = d := Option.some.inj h
        obtain ⟨k1, k2⟩ := decA_caps hM hz h2
        have hrep := decA1_rep (X' := X) (W := W) hM (fun b hb => .inl hb) hq (show RepV X W E M (.c (.bp i 0)) v from h1)
        have hshape : encA1 y z = CV.arg ⟨y.ty, z⟩ := by
          cases y with
          | v t =>
            exfalso
            have hq : (match decT M t [.bp i 0] with | some (x, []) => some x | _ => none) = some z := hq
            rw [decT_bp] at hq
            cases hq
          | s t => cases hq
          | q t => cases hq
          | p t => rfl
        refine ⟨?_, v, r, e, ?_, k2⟩
        · show encA1 y z :: encA l ys = CV.arg ⟨y.ty, z⟩ :: (cvsOf l ys).map CV.arg
          rw [hshape, k1]
        · rw [hshape] at hrep
          exact hrep
end
end Go.Proofs.YtoigkpkafgjeaaaGreatDoor
