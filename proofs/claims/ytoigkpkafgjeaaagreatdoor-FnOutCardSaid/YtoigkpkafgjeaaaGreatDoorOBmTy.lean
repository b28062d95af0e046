/-
  The program's types, as codes.
  No condition. Printed by vcgen.py.
-/
import Derived.Test.YtoigkpkafgjeaaaGreatDoorOBmFr
import Derived.Test.YtoigkpkafgjeaaaGreatDoorOLists
import Derived.IntWalk
namespace Go.Proofs.YtoigkpkafgjeaaaGreatDoor
open Go.ChangeShapes Go.WideShapes Go.ChangeAt Go.RowKit Go.Joins Go.Deep

def tyInt : Ty := .int .i64
def tyBool : Ty := .bool
def tyStr : Ty := .str
def tyToken : Ty := (.prod tyInt tyStr)
def tySpan : Ty := (.prod tyInt tyInt)
def tyScope : Ty := (.prod tyInt (.prod (.list tyStr) tyInt))
def tyFilter : Ty := (.prod tyBool (.list tyScope))
def tyCommand : Ty := (.prod tyStr (.prod tyInt (.prod tyStr (.prod tyStr (.prod tyBool (.prod (.list tySpan) (.prod tyInt (.prod tyInt (.prod tyStr tyFilter)))))))))
def tyMsg : Ty := (.prod tyInt (.prod tyInt tyStr))
def tyBox : Ty := (.prod tyStr (.prod tyInt (.prod tyInt (.list tyMsg))))
def tyCommit : Ty := (.prod tyInt (.prod tyInt (.prod tyInt (.prod tyInt (.prod tyStr tyStr)))))
def tyStore : Ty := (.prod (.list tyBox) (.prod (.list tyCommit) tyInt))
def tyClient : Ty := (.prod tyBool (.prod tyStr (.prod tyInt (.prod tyInt (.prod (.list tySpan) tyBool)))))
def tyNote : Ty := (.prod tyInt (.prod tyInt (.prod tyInt tyStr)))
def tyQueue : Ty := (.prod (.list tyNote) (.prod tyBool tyBool))
def tyOut : Ty := (.prod tyStr tyStr)
def tyIn : Ty := (.prod tyStr tyBool)
def tySession : Ty := (.prod tyBool (.prod tyInt (.prod tyInt (.prod tyInt (.prod (.list tySpan) (.prod tyFilter (.prod tyStr (.prod tyStr (.prod tyQueue (.prod tyIn (.prod tyOut tyInt)))))))))))
def tyServer : Ty := (.prod tyStore (.list tySession))
def tyOutcome : Ty := (.prod tyInt (.prod tyStr tyInt))
def L0 : Nat → List AV → Mem → LoopA := fun _ _ _ => ⟨Unit, fun _ => ([], []), fun _ => False, fun _ => 0⟩
def setM (M : Mem) : List (Nat × Blk) → Mem
  | [] => M
  | p :: l => setM (M.set p.1 p.2) l
theorem leV_any {x : AV} : leV x .any = True := by unfold leV; split <;> simp_all
theorem leV_int {k : IntKind} {x y : Int} : leV (.w (.c (.int k x))) (.w (.c (.int k y))) = (x = y) := by simp [leV, leC]
theorem leV_bool {x y : Bool} : leV (.w (.c (.bool x))) (.w (.c (.bool y))) = (x = y) := by simp [leV, leC]
theorem leV_str {x y : ByteArray} : leV (.w (.c (.str x))) (.w (.c (.str y))) = (x = y) := by simp [leV, leC]
theorem leC_refl : ∀ {x : AC}, leC x x
  | .int _ _ => ⟨rfl, rfl⟩
  | .bool _ => rfl
  | .str _ => rfl
  | .opq _ => rfl
  | .hs _ _ _ => ⟨rfl, rfl, rfl⟩
  | .bp _ _ => rfl
  | .ep _ _ _ _ _ => rfl
  | .row _ _ => rfl
  | .rp _ _ _ _ _ => rfl
  | .sl _ _ _ _ _ _ => rfl
  | .sp _ _ _ _ _ _ _ _ _ => rfl
  | .tl _ _ _ _ => rfl
  | .mp _ => rfl
  | .fn _ _ => rfl
  | .raw _ => rfl
  | .junk => rfl
theorem leL_refl : ∀ {x : List AC}, leL x x
  | [] => trivial
  | _ :: _ => ⟨leC_refl, leL_refl⟩
theorem leV_refl {x : AV} : leV x x = True := by
  cases x with
  | any => simp [leV_any]
  | tp l => simp [leV]
  | w x =>
    cases x with
    | c a => exact eq_true (leC_refl (x := a))
    | ag l => exact eq_true (leL_refl (x := l))
theorem leB_refl {x : Blk} : leB x x = True := by
  cases x with
  | box l => exact eq_true (leL_refl (x := l))
  | row t xs v c h => cases h with
    | none => exact eq_true ⟨⟨rfl, rfl⟩, rfl, rfl⟩
    | some _ => simp [leB]
  | _ => simp [leB]
def TN : Nat → Prop → Prop
  | 0, p => p
  | n + 1, p => True ∧ TN n p
theorem TN_eq {p : Prop} : ∀ {n : Nat}, TN n p = p
  | 0 => rfl
  | n + 1 => by
    show (True ∧ TN n p) = p
    rw [TN_eq (n := n), true_and]
def lxs : List AV → Prop → Prop
  | [], p => p
  | x :: l, p => leV x x ∧ lxs l p
theorem lxs_eq {p : Prop} : ∀ {l : List AV}, lxs l p = p
  | [] => rfl
  | x :: l => by
    show (leV x x ∧ lxs l p) = p
    rw [lxs_eq (l := l), leV_refl, true_and]
def lb (x : Blk) : Prop := leB x x
theorem lb_true {x : Blk} : lb x = True := leB_refl
def anyR : List AV → Nat → Nat → List AV
  | tm, _, 0 => tm
  | tm, i, n + 1 => anyR (tm.set i .any) (i + 1) n
theorem leC_int {k : IntKind} {x y : Int} : leC (.int k x) (.int k y) = (x = y) := by simp [leC]
theorem leC_bool {x y : Bool} : leC (.bool x) (.bool y) = (x = y) := by simp [leC]
theorem leC_str {x y : ByteArray} : leC (.str x) (.str y) = (x = y) := by simp [leC]
theorem leC_hs {L : Lnd} {t : Ty} {x y : List t.den} : leC (.hs L t x) (.hs L t y) = (x = y) := by simp [leC]
theorem leB_row {t : Ty} {x y : List t.den} {v c : Nat} : leB (.row t x v c none) (.row t y v c none) = (x = y) := by simp [leB]
theorem leB_mp {x y : List Int} : leB (.mp x) (.mp y) = (x = y) := by simp [leB]
def rB (x y : Bool) : Prop := (true = true ∧ leC (.bool x) (.bool y)) ∧ true = true
theorem rB_eq {x y : Bool} : rB x y = (x = y) := by simp [rB, leC_bool]
def rI (x y : Int) : Prop := (true = true ∧ leC (.int .i64 x) (.int .i64 y)) ∧ true = true
theorem rI_eq {x y : Int} : rI x y = (x = y) := by simp [rI, leC_int]
def rS (x y : ByteArray) : Prop := (true = true ∧ leC (.str x) (.str y)) ∧ true = true
theorem rS_eq {x y : ByteArray} : rS x y = (x = y) := by simp [rS, leC_str]
theorem bc0 {P : Program} (Γ : List (Entry P)) (H : List (HEntry P)) (H2 : List (HEntry2 P)) (G : List (MEntry P)) (L : Nat → List AV → Mem → LoopA) {f : FuncId} {fn : Func} {args : List AW} {res : AV} {new : Mem} (hf : P.funcs[f]? = some fn) (h : WfA args → vcFun ⟨Γ, H, H2, G, none, fun _ => [], 0, [], []⟩ L fn args [] (endA res new)) : BCalls P f args res new := bcalls_of hf ⟨⟨rfl, rfl⟩, rfl⟩ h
theorem wrapN {k : Nat} (h : k + 1 ≤ maxLen) : IntKind.wrap .i64 (((k : Nat) : Int) + 1) = ((k + 1 : Nat) : Int) := by
  have : IntKind.i64.wrap (((k : Nat) : Int) + 1) = ((k : Nat) : Int) + 1 := IntWalk.i64_in _ (by unfold maxLen at h; omega)
  rw [this]
  rfl
theorem nth_getElem? {t : Ty} {xs : List t.den} {k : Nat} (h : k < xs.length) : xs[k]? = some (nth t xs k) := by
  unfold nth
  rw [List.getD_eq_getElem?_getD, List.getElem?_eq_getElem h]
  rfl
theorem allN_step {P : Nat → Prop} {k : Nat} (h : ∀ j, j < k → P j) (hk : P k) : ∀ j, j < k + 1 → P j := fun j hj => by
  rcases Nat.lt_or_ge j k with h1 | h1
  · exact h j h1
  · obtain rfl : j = k := by omega
    exact hk
theorem allN_zero {P : Nat → Prop} : ∀ j, j < 0 → P j := fun j hj => absurd hj (Nat.not_lt_zero j)
theorem any_of_nth {t : Ty} {xs : List t.den} {p : t.den → Bool} (h : ∀ j, j < xs.length → p (nth t xs j) = false) : xs.any p = false := by
  rw [List.any_eq_false]
  intro x hx
  obtain ⟨j, hj, rfl⟩ := List.mem_iff_getElem.1 hx
  have h1 := h j hj
  have h2 := nth_getElem? hj
  rw [List.getElem?_eq_getElem hj] at h2
  rw [← Option.some.inj h2] at h1
  simp [h1]
theorem any_at_nth {t : Ty} {xs : List t.den} {p : t.den → Bool} {k : Nat} (hk : k < xs.length) (h : p (nth t xs k) = true) : xs.any p = true := any_at (nth_getElem? hk) h
theorem take_any {t : Ty} {xs : List t.den} {p : t.den → Bool} {k : Nat} (hk : k ≤ xs.length) (h : ∀ j, j < k → p (nth t xs j) = false) : (xs.take k).any p = false := by
  rw [List.any_eq_false]
  intro x hx
  obtain ⟨j, hj, rfl⟩ := List.mem_take_iff_getElem.1 hx
  have h1 := h j (by omega)
  have h2 := nth_getElem? (t := t) (xs := xs) (k := j) (by omega)
  rw [List.getElem?_eq_getElem (by omega)] at h2
  rw [← Option.some.inj h2] at h1
  simp [h1]
theorem idxL_nth {t : Ty} {xs : List t.den} {p : t.den → Bool} {k : Nat} (hk : k < xs.length) (h : ∀ j, j < k → p (nth t xs j) = false) (hp : p (nth t xs k) = true) : idxL p xs = ((k : Nat) : Int) := idxL_at (take_any (by omega) h) (nth_getElem? hk) hp
theorem idxL_nth_none {t : Ty} {xs : List t.den} {p : t.den → Bool} (h : ∀ j, j < xs.length → p (nth t xs j) = false) : idxL p xs = -1 := idxL_none (any_of_nth h)
theorem eqc_int (x y : Int) (b : Bool) : ((x == y) && b) = true ↔ x = y ∧ b = true := by simp
theorem eqc_bool (x y b : Bool) : ((x == y) && b) = true ↔ x = y ∧ b = true := by simp
theorem eqc_str (x y : ByteArray) (b : Bool) : (decide (x = y) && b) = true ↔ x = y ∧ b = true := by simp
/-- no slice, nothing unknown inside -/
def Ty.plain : Ty → Bool
  | .prod a b => a.plain && b.plain
  | .list _ => false
  | .opq => false
  | _ => true
theorem eqCells_app : ∀ (t : Ty), t.plain = true → ∀ (x y : t.den) (l k : List AC), eqCells (cellsOf t x ++ l) (cellsOf t y ++ k) = true ↔ x = y ∧ eqCells l k = true
  | .int _, _, x, y, l, k => eqc_int x y _
  | .bool, _, x, y, l, k => eqc_bool x y _
  | .str, _, x, y, l, k => eqc_str x y _
  | .prod a b, h, x, y, l, k => by
    have h' : (a.plain && b.plain) = true := h
    rw [Bool.and_eq_true] at h'
    show eqCells ((cellsOf a x.1 ++ cellsOf b x.2) ++ l) ((cellsOf a y.1 ++ cellsOf b y.2) ++ k) = true ↔ _
    rw [List.append_assoc, List.append_assoc, eqCells_app a h'.1, eqCells_app b h'.2]
    constructor
    · rintro ⟨h1, h2, h3⟩
      exact ⟨Prod.ext h1 h2, h3⟩
    · rintro ⟨rfl, h3⟩
      exact ⟨rfl, rfl, h3⟩
  | .list _, h, _, _, _, _ => by cases h
  | .opq, h, _, _, _, _ => by cases h
theorem eqCells_true {t : Ty} (h : t.plain = true) {x y : t.den} : eqCells (cellsOf t x) (cellsOf t y) = true ↔ x = y := by
  have := eqCells_app t h x y [] []
  rw [List.append_nil, List.append_nil] at this
  rw [this]
  exact ⟨fun h => h.1, fun h => ⟨h, rfl⟩⟩
theorem eqCells_false {t : Ty} (h : t.plain = true) {x y : t.den} : eqCells (cellsOf t x) (cellsOf t y) = false ↔ ¬ x = y := by
  rw [← eqCells_true h]
  simp
def eqI (a b : Int) : Bool := a == b
def neI (a b : Int) : Bool := a != b
def ltI (a b : Int) : Bool := decide (a < b)
def leI (a b : Int) : Bool := decide (a ≤ b)
def gtI (a b : Int) : Bool := decide (a > b)
def geI (a b : Int) : Bool := decide (a ≥ b)
def eqS (a b : ByteArray) : Bool := decide (a = b)
def eqO (a b : Bool) : Bool := a == b
section
variable {a b : Int} {x y : ByteArray} {p q : Bool}
theorem eqI_true : eqI a b = true ↔ a = b := by simp [eqI]
theorem eqI_false : eqI a b = false ↔ ¬ a = b := by simp [eqI]
theorem neI_true : neI a b = true ↔ ¬ a = b := by simp [neI]
theorem neI_false : neI a b = false ↔ a = b := by simp [neI]
theorem ltI_true : ltI a b = true ↔ a < b := by simp [ltI]
theorem ltI_false : ltI a b = false ↔ ¬ a < b := by simp [ltI]
theorem leI_true : leI a b = true ↔ a ≤ b := by simp [leI]
theorem leI_false : leI a b = false ↔ ¬ a ≤ b := by simp [leI]
theorem gtI_true : gtI a b = true ↔ b < a := by simp [gtI]
theorem gtI_false : gtI a b = false ↔ ¬ b < a := by simp [gtI]
theorem geI_true : geI a b = true ↔ b ≤ a := by simp [geI]
theorem geI_false : geI a b = false ↔ ¬ b ≤ a := by simp [geI]
theorem eqS_true : eqS x y = true ↔ x = y := by simp [eqS]
theorem eqS_false : eqS x y = false ↔ ¬ x = y := by simp [eqS]
theorem eqO_true : eqO p q = true ↔ p = q := by simp [eqO]
theorem eqO_false : eqO p q = false ↔ ¬ p = q := by simp [eqO]
end

def eqT_Token (x y : GToken) : Bool := eqB x y
theorem eqT_Token_true {x y : GToken} : eqT_Token x y = true ↔ x = y := eqB_true
theorem eqT_Token_false {x y : GToken} : eqT_Token x y = false ↔ ¬ x = y := eqB_false
def eqT_LToken (x y : List GToken) : Bool := eqB x y
theorem eqT_LToken_true {x y : List GToken} : eqT_LToken x y = true ↔ x = y := eqB_true
theorem eqT_LToken_false {x y : List GToken} : eqT_LToken x y = false ↔ ¬ x = y := eqB_false
def eqC_Token (x y : GToken) : Bool := eqCells (cellsOf tyToken x) (cellsOf tyToken y)
theorem eqC_Token_true {x y : GToken} : eqC_Token x y = true ↔ x = y := eqCells_true (t := tyToken) rfl
theorem eqC_Token_false {x y : GToken} : eqC_Token x y = false ↔ ¬ x = y := eqCells_false (t := tyToken) rfl
def eqT_Span (x y : GSpan) : Bool := eqB x y
theorem eqT_Span_true {x y : GSpan} : eqT_Span x y = true ↔ x = y := eqB_true
theorem eqT_Span_false {x y : GSpan} : eqT_Span x y = false ↔ ¬ x = y := eqB_false
def eqT_LSpan (x y : List GSpan) : Bool := eqB x y
theorem eqT_LSpan_true {x y : List GSpan} : eqT_LSpan x y = true ↔ x = y := eqB_true
theorem eqT_LSpan_false {x y : List GSpan} : eqT_LSpan x y = false ↔ ¬ x = y := eqB_false
def eqC_Span (x y : GSpan) : Bool := eqCells (cellsOf tySpan x) (cellsOf tySpan y)
theorem eqC_Span_true {x y : GSpan} : eqC_Span x y = true ↔ x = y := eqCells_true (t := tySpan) rfl
theorem eqC_Span_false {x y : GSpan} : eqC_Span x y = false ↔ ¬ x = y := eqCells_false (t := tySpan) rfl
def nth_Span (xs : List GSpan) (k : Nat) : GSpan := nth tySpan xs k
def eqT_Scope (x y : GScope) : Bool := eqB x y
theorem eqT_Scope_true {x y : GScope} : eqT_Scope x y = true ↔ x = y := eqB_true
theorem eqT_Scope_false {x y : GScope} : eqT_Scope x y = false ↔ ¬ x = y := eqB_false
def eqT_LScope (x y : List GScope) : Bool := eqB x y
theorem eqT_LScope_true {x y : List GScope} : eqT_LScope x y = true ↔ x = y := eqB_true
theorem eqT_LScope_false {x y : List GScope} : eqT_LScope x y = false ↔ ¬ x = y := eqB_false
def eqT_Filter (x y : GFilter) : Bool := eqB x y
theorem eqT_Filter_true {x y : GFilter} : eqT_Filter x y = true ↔ x = y := eqB_true
theorem eqT_Filter_false {x y : GFilter} : eqT_Filter x y = false ↔ ¬ x = y := eqB_false
def eqT_LFilter (x y : List GFilter) : Bool := eqB x y
theorem eqT_LFilter_true {x y : List GFilter} : eqT_LFilter x y = true ↔ x = y := eqB_true
theorem eqT_LFilter_false {x y : List GFilter} : eqT_LFilter x y = false ↔ ¬ x = y := eqB_false
def eqT_Command (x y : GCommand) : Bool := eqB x y
theorem eqT_Command_true {x y : GCommand} : eqT_Command x y = true ↔ x = y := eqB_true
theorem eqT_Command_false {x y : GCommand} : eqT_Command x y = false ↔ ¬ x = y := eqB_false
def eqT_LCommand (x y : List GCommand) : Bool := eqB x y
theorem eqT_LCommand_true {x y : List GCommand} : eqT_LCommand x y = true ↔ x = y := eqB_true
theorem eqT_LCommand_false {x y : List GCommand} : eqT_LCommand x y = false ↔ ¬ x = y := eqB_false
def eqT_Msg (x y : GMsg) : Bool := eqB x y
theorem eqT_Msg_true {x y : GMsg} : eqT_Msg x y = true ↔ x = y := eqB_true
theorem eqT_Msg_false {x y : GMsg} : eqT_Msg x y = false ↔ ¬ x = y := eqB_false
def eqT_LMsg (x y : List GMsg) : Bool := eqB x y
theorem eqT_LMsg_true {x y : List GMsg} : eqT_LMsg x y = true ↔ x = y := eqB_true
theorem eqT_LMsg_false {x y : List GMsg} : eqT_LMsg x y = false ↔ ¬ x = y := eqB_false
def eqC_Msg (x y : GMsg) : Bool := eqCells (cellsOf tyMsg x) (cellsOf tyMsg y)
theorem eqC_Msg_true {x y : GMsg} : eqC_Msg x y = true ↔ x = y := eqCells_true (t := tyMsg) rfl
theorem eqC_Msg_false {x y : GMsg} : eqC_Msg x y = false ↔ ¬ x = y := eqCells_false (t := tyMsg) rfl
def nth_Msg (xs : List GMsg) (k : Nat) : GMsg := nth tyMsg xs k
def eqT_Box (x y : GBox) : Bool := eqB x y
theorem eqT_Box_true {x y : GBox} : eqT_Box x y = true ↔ x = y := eqB_true
theorem eqT_Box_false {x y : GBox} : eqT_Box x y = false ↔ ¬ x = y := eqB_false
def eqT_LBox (x y : List GBox) : Bool := eqB x y
theorem eqT_LBox_true {x y : List GBox} : eqT_LBox x y = true ↔ x = y := eqB_true
theorem eqT_LBox_false {x y : List GBox} : eqT_LBox x y = false ↔ ¬ x = y := eqB_false
def nth_Box (xs : List GBox) (k : Nat) : GBox := nth tyBox xs k
def eqT_Commit (x y : GCommit) : Bool := eqB x y
theorem eqT_Commit_true {x y : GCommit} : eqT_Commit x y = true ↔ x = y := eqB_true
theorem eqT_Commit_false {x y : GCommit} : eqT_Commit x y = false ↔ ¬ x = y := eqB_false
def eqT_LCommit (x y : List GCommit) : Bool := eqB x y
theorem eqT_LCommit_true {x y : List GCommit} : eqT_LCommit x y = true ↔ x = y := eqB_true
theorem eqT_LCommit_false {x y : List GCommit} : eqT_LCommit x y = false ↔ ¬ x = y := eqB_false
def eqC_Commit (x y : GCommit) : Bool := eqCells (cellsOf tyCommit x) (cellsOf tyCommit y)
theorem eqC_Commit_true {x y : GCommit} : eqC_Commit x y = true ↔ x = y := eqCells_true (t := tyCommit) rfl
theorem eqC_Commit_false {x y : GCommit} : eqC_Commit x y = false ↔ ¬ x = y := eqCells_false (t := tyCommit) rfl
def nth_Commit (xs : List GCommit) (k : Nat) : GCommit := nth tyCommit xs k
def eqT_Store (x y : GStore) : Bool := eqB x y
theorem eqT_Store_true {x y : GStore} : eqT_Store x y = true ↔ x = y := eqB_true
theorem eqT_Store_false {x y : GStore} : eqT_Store x y = false ↔ ¬ x = y := eqB_false
def eqT_LStore (x y : List GStore) : Bool := eqB x y
theorem eqT_LStore_true {x y : List GStore} : eqT_LStore x y = true ↔ x = y := eqB_true
theorem eqT_LStore_false {x y : List GStore} : eqT_LStore x y = false ↔ ¬ x = y := eqB_false
def eqT_Client (x y : GClient) : Bool := eqB x y
theorem eqT_Client_true {x y : GClient} : eqT_Client x y = true ↔ x = y := eqB_true
theorem eqT_Client_false {x y : GClient} : eqT_Client x y = false ↔ ¬ x = y := eqB_false
def eqT_LClient (x y : List GClient) : Bool := eqB x y
theorem eqT_LClient_true {x y : List GClient} : eqT_LClient x y = true ↔ x = y := eqB_true
theorem eqT_LClient_false {x y : List GClient} : eqT_LClient x y = false ↔ ¬ x = y := eqB_false
def eqT_Note (x y : GNote) : Bool := eqB x y
theorem eqT_Note_true {x y : GNote} : eqT_Note x y = true ↔ x = y := eqB_true
theorem eqT_Note_false {x y : GNote} : eqT_Note x y = false ↔ ¬ x = y := eqB_false
def eqT_LNote (x y : List GNote) : Bool := eqB x y
theorem eqT_LNote_true {x y : List GNote} : eqT_LNote x y = true ↔ x = y := eqB_true
theorem eqT_LNote_false {x y : List GNote} : eqT_LNote x y = false ↔ ¬ x = y := eqB_false
def eqC_Note (x y : GNote) : Bool := eqCells (cellsOf tyNote x) (cellsOf tyNote y)
theorem eqC_Note_true {x y : GNote} : eqC_Note x y = true ↔ x = y := eqCells_true (t := tyNote) rfl
theorem eqC_Note_false {x y : GNote} : eqC_Note x y = false ↔ ¬ x = y := eqCells_false (t := tyNote) rfl
def eqT_Queue (x y : GQueue) : Bool := eqB x y
theorem eqT_Queue_true {x y : GQueue} : eqT_Queue x y = true ↔ x = y := eqB_true
theorem eqT_Queue_false {x y : GQueue} : eqT_Queue x y = false ↔ ¬ x = y := eqB_false
def eqT_LQueue (x y : List GQueue) : Bool := eqB x y
theorem eqT_LQueue_true {x y : List GQueue} : eqT_LQueue x y = true ↔ x = y := eqB_true
theorem eqT_LQueue_false {x y : List GQueue} : eqT_LQueue x y = false ↔ ¬ x = y := eqB_false
def eqT_Out (x y : GOut) : Bool := eqB x y
theorem eqT_Out_true {x y : GOut} : eqT_Out x y = true ↔ x = y := eqB_true
theorem eqT_Out_false {x y : GOut} : eqT_Out x y = false ↔ ¬ x = y := eqB_false
def eqT_LOut (x y : List GOut) : Bool := eqB x y
theorem eqT_LOut_true {x y : List GOut} : eqT_LOut x y = true ↔ x = y := eqB_true
theorem eqT_LOut_false {x y : List GOut} : eqT_LOut x y = false ↔ ¬ x = y := eqB_false
def eqC_Out (x y : GOut) : Bool := eqCells (cellsOf tyOut x) (cellsOf tyOut y)
theorem eqC_Out_true {x y : GOut} : eqC_Out x y = true ↔ x = y := eqCells_true (t := tyOut) rfl
theorem eqC_Out_false {x y : GOut} : eqC_Out x y = false ↔ ¬ x = y := eqCells_false (t := tyOut) rfl
def eqT_In (x y : GIn) : Bool := eqB x y
theorem eqT_In_true {x y : GIn} : eqT_In x y = true ↔ x = y := eqB_true
theorem eqT_In_false {x y : GIn} : eqT_In x y = false ↔ ¬ x = y := eqB_false
def eqT_LIn (x y : List GIn) : Bool := eqB x y
theorem eqT_LIn_true {x y : List GIn} : eqT_LIn x y = true ↔ x = y := eqB_true
theorem eqT_LIn_false {x y : List GIn} : eqT_LIn x y = false ↔ ¬ x = y := eqB_false
def eqC_In (x y : GIn) : Bool := eqCells (cellsOf tyIn x) (cellsOf tyIn y)
theorem eqC_In_true {x y : GIn} : eqC_In x y = true ↔ x = y := eqCells_true (t := tyIn) rfl
theorem eqC_In_false {x y : GIn} : eqC_In x y = false ↔ ¬ x = y := eqCells_false (t := tyIn) rfl
def eqT_Session (x y : GSession) : Bool := eqB x y
theorem eqT_Session_true {x y : GSession} : eqT_Session x y = true ↔ x = y := eqB_true
theorem eqT_Session_false {x y : GSession} : eqT_Session x y = false ↔ ¬ x = y := eqB_false
def eqT_LSession (x y : List GSession) : Bool := eqB x y
theorem eqT_LSession_true {x y : List GSession} : eqT_LSession x y = true ↔ x = y := eqB_true
theorem eqT_LSession_false {x y : List GSession} : eqT_LSession x y = false ↔ ¬ x = y := eqB_false
def eqT_Server (x y : GServer) : Bool := eqB x y
theorem eqT_Server_true {x y : GServer} : eqT_Server x y = true ↔ x = y := eqB_true
theorem eqT_Server_false {x y : GServer} : eqT_Server x y = false ↔ ¬ x = y := eqB_false
def eqT_LServer (x y : List GServer) : Bool := eqB x y
theorem eqT_LServer_true {x y : List GServer} : eqT_LServer x y = true ↔ x = y := eqB_true
theorem eqT_LServer_false {x y : List GServer} : eqT_LServer x y = false ↔ ¬ x = y := eqB_false
def eqT_Outcome (x y : GOutcome) : Bool := eqB x y
theorem eqT_Outcome_true {x y : GOutcome} : eqT_Outcome x y = true ↔ x = y := eqB_true
theorem eqT_Outcome_false {x y : GOutcome} : eqT_Outcome x y = false ↔ ¬ x = y := eqB_false
def eqT_LOutcome (x y : List GOutcome) : Bool := eqB x y
theorem eqT_LOutcome_true {x y : List GOutcome} : eqT_LOutcome x y = true ↔ x = y := eqB_true
theorem eqT_LOutcome_false {x y : List GOutcome} : eqT_LOutcome x y = false ↔ ¬ x = y := eqB_false
def eqC_Outcome (x y : GOutcome) : Bool := eqCells (cellsOf tyOutcome x) (cellsOf tyOutcome y)
theorem eqC_Outcome_true {x y : GOutcome} : eqC_Outcome x y = true ↔ x = y := eqCells_true (t := tyOutcome) rfl
theorem eqC_Outcome_false {x y : GOutcome} : eqC_Outcome x y = false ↔ ¬ x = y := eqCells_false (t := tyOutcome) rfl
theorem leB_rowInt {x y : List Int} {v c : Nat} : leB (.row tyInt x v c none) (.row tyInt y v c none) = (x = y) := leB_row (t := tyInt)
theorem leB_rowStr {x y : List ByteArray} {v c : Nat} : leB (.row tyStr x v c none) (.row tyStr y v c none) = (x = y) := leB_row (t := tyStr)
theorem leB_rowBool {x y : List Bool} {v c : Nat} : leB (.row tyBool x v c none) (.row tyBool y v c none) = (x = y) := leB_row (t := tyBool)
theorem leB_rowToken {x y : List GToken} {v c : Nat} : leB (.row tyToken x v c none) (.row tyToken y v c none) = (x = y) := leB_row (t := tyToken)
theorem leB_rowSpan {x y : List GSpan} {v c : Nat} : leB (.row tySpan x v c none) (.row tySpan y v c none) = (x = y) := leB_row (t := tySpan)
theorem leB_rowScope {x y : List GScope} {v c : Nat} : leB (.row tyScope x v c none) (.row tyScope y v c none) = (x = y) := leB_row (t := tyScope)
theorem leB_rowFilter {x y : List GFilter} {v c : Nat} : leB (.row tyFilter x v c none) (.row tyFilter y v c none) = (x = y) := leB_row (t := tyFilter)
theorem leB_rowCommand {x y : List GCommand} {v c : Nat} : leB (.row tyCommand x v c none) (.row tyCommand y v c none) = (x = y) := leB_row (t := tyCommand)
theorem leB_rowMsg {x y : List GMsg} {v c : Nat} : leB (.row tyMsg x v c none) (.row tyMsg y v c none) = (x = y) := leB_row (t := tyMsg)
theorem leB_rowBox {x y : List GBox} {v c : Nat} : leB (.row tyBox x v c none) (.row tyBox y v c none) = (x = y) := leB_row (t := tyBox)
theorem leB_rowCommit {x y : List GCommit} {v c : Nat} : leB (.row tyCommit x v c none) (.row tyCommit y v c none) = (x = y) := leB_row (t := tyCommit)
theorem leB_rowStore {x y : List GStore} {v c : Nat} : leB (.row tyStore x v c none) (.row tyStore y v c none) = (x = y) := leB_row (t := tyStore)
theorem leB_rowClient {x y : List GClient} {v c : Nat} : leB (.row tyClient x v c none) (.row tyClient y v c none) = (x = y) := leB_row (t := tyClient)
theorem leB_rowNote {x y : List GNote} {v c : Nat} : leB (.row tyNote x v c none) (.row tyNote y v c none) = (x = y) := leB_row (t := tyNote)
theorem leB_rowQueue {x y : List GQueue} {v c : Nat} : leB (.row tyQueue x v c none) (.row tyQueue y v c none) = (x = y) := leB_row (t := tyQueue)
theorem leB_rowOut {x y : List GOut} {v c : Nat} : leB (.row tyOut x v c none) (.row tyOut y v c none) = (x = y) := leB_row (t := tyOut)
theorem leB_rowIn {x y : List GIn} {v c : Nat} : leB (.row tyIn x v c none) (.row tyIn y v c none) = (x = y) := leB_row (t := tyIn)
theorem leB_rowSession {x y : List GSession} {v c : Nat} : leB (.row tySession x v c none) (.row tySession y v c none) = (x = y) := leB_row (t := tySession)
theorem leB_rowServer {x y : List GServer} {v c : Nat} : leB (.row tyServer x v c none) (.row tyServer y v c none) = (x = y) := leB_row (t := tyServer)
theorem leB_rowOutcome {x y : List GOutcome} {v c : Nat} : leB (.row tyOutcome x v c none) (.row tyOutcome y v c none) = (x = y) := leB_row (t := tyOutcome)
def z_Box : GBox := Ty.dflt tyBox
abbrev GBoxQ := ByteArray × Int × Int × Value
def tyBoxQ : Ty := .prod tyStr (.prod tyInt (.prod tyInt .opq))
def nth_BoxQ (xs : List GBoxQ) (k : Nat) : GBoxQ := nth tyBoxQ xs k
def nth_Int (xs : List Int) (k : Nat) : Int := nth tyInt xs k
def nth_String (xs : List ByteArray) (k : Nat) : ByteArray := nth tyStr xs k
def eqT_LString (x y : List ByteArray) : Bool := eqB x y
theorem eqT_LString_true {x y : List ByteArray} : eqT_LString x y = true ↔ x = y := eqB_true
theorem eqT_LString_false {x y : List ByteArray} : eqT_LString x y = false ↔ ¬ x = y := eqB_false
def eqT_LInt (x y : List Int) : Bool := eqB x y
theorem eqT_LInt_true {x y : List Int} : eqT_LInt x y = true ↔ x = y := eqB_true
theorem eqT_LInt_false {x y : List Int} : eqT_LInt x y = false ↔ ¬ x = y := eqB_false
def T2 (p : Prop) : Prop := True ∧ (True ∧ p)
def T3 (p : Prop) : Prop := True ∧ (True ∧ (True ∧ p))
def T4 (p : Prop) : Prop := True ∧ (True ∧ (True ∧ (True ∧ p)))
def T5 (p : Prop) : Prop := True ∧ (True ∧ (True ∧ (True ∧ (True ∧ p))))
def T6 (p : Prop) : Prop := True ∧ (True ∧ (True ∧ (True ∧ (True ∧ (True ∧ p)))))
def T7 (p : Prop) : Prop := True ∧ (True ∧ (True ∧ (True ∧ (True ∧ (True ∧ (True ∧ p))))))
def T8 (p : Prop) : Prop := True ∧ (True ∧ (True ∧ (True ∧ (True ∧ (True ∧ (True ∧ (True ∧ p)))))))
def T9 (p : Prop) : Prop := True ∧ (True ∧ (True ∧ (True ∧ (True ∧ (True ∧ (True ∧ (True ∧ (True ∧ p))))))))
def T10 (p : Prop) : Prop := True ∧ (True ∧ (True ∧ (True ∧ (True ∧ (True ∧ (True ∧ (True ∧ (True ∧ (True ∧ p)))))))))
def T11 (p : Prop) : Prop := True ∧ (True ∧ (True ∧ (True ∧ (True ∧ (True ∧ (True ∧ (True ∧ (True ∧ (True ∧ (True ∧ p))))))))))
def T12 (p : Prop) : Prop := True ∧ (True ∧ (True ∧ (True ∧ (True ∧ (True ∧ (True ∧ (True ∧ (True ∧ (True ∧ (True ∧ (True ∧ p)))))))))))
theorem T2_eq {p : Prop} : T2 p = p := by simp [T2]
theorem T3_eq {p : Prop} : T3 p = p := by simp [T3]
theorem T4_eq {p : Prop} : T4 p = p := by simp [T4]
theorem T5_eq {p : Prop} : T5 p = p := by simp [T5]
theorem T6_eq {p : Prop} : T6 p = p := by simp [T6]
theorem T7_eq {p : Prop} : T7 p = p := by simp [T7]
theorem T8_eq {p : Prop} : T8 p = p := by simp [T8]
theorem T9_eq {p : Prop} : T9 p = p := by simp [T9]
theorem T10_eq {p : Prop} : T10 p = p := by simp [T10]
theorem T11_eq {p : Prop} : T11 p = p := by simp [T11]
theorem T12_eq {p : Prop} : T12 p = p := by simp [T12]
def ix (j : Nat) (x : Int) (n : Nat) : Prop := j = j ∧ (0 : Int) ≤ x ∧ x < (n : Int)
theorem ix_eq {j n : Nat} {x : Int} : ix j x n = ((0 : Int) ≤ x ∧ x < (n : Int)) := by simp [ix]
def vI (x y : Int) : Prop := leV (.c (.int .i64 x)) (.c (.int .i64 y))
theorem vI_eq {x y : Int} : vI x y = (x = y) := leV_int
def cI (x y : Int) : Prop := true = true ∧ leC (.int .i64 x) (.int .i64 y)
theorem cI_eq {x y : Int} : cI x y = (x = y) := by simp [cI, leC_int]
def cB (x y : Bool) : Prop := true = true ∧ leC (.bool x) (.bool y)
theorem cB_eq {x y : Bool} : cB x y = (x = y) := by simp [cB, leC_bool]
def cS (x y : ByteArray) : Prop := true = true ∧ leC (.str x) (.str y)
theorem cS_eq {x y : ByteArray} : cS x y = (x = y) := by simp [cS, leC_str]
def w64 (x : Int) : Int := IntKind.wrap .i64 x
theorem w64_eq {x : Int} : w64 x = IntKind.wrap .i64 x := rfl
def tpn (n : Nat) (p : Prop) : Prop := lxs (List.replicate n (.tp [])) p
theorem tpn_eq {n : Nat} {p : Prop} : tpn n p = p := lxs_eq
def ci (x : Int) : AV := .c (.int .i64 x)
theorem ci_eq {x : Int} : ci x = .c (.int .i64 x) := rfl
def hn (t : Ty) (x : List t.den) : AV := .c (.hs .no t x)
theorem hn_eq {t : Ty} {x : List t.den} : hn t x = .c (.hs .no t x) := rfl
def pt (p : Prop) : Prop := p ∧ true = true
theorem pt_eq {p : Prop} : pt p = p := by simp [pt]
theorem SIA : type_of% (And.intro @ix_eq (And.intro @vI_eq (And.intro @cI_eq (And.intro @cB_eq (And.intro @cS_eq (And.intro @w64_eq (And.intro @tpn_eq (And.intro @ci_eq (And.intro @hn_eq (And.intro @pt_eq (And.intro @T2_eq (And.intro @T3_eq (And.intro @T4_eq (And.intro @T5_eq (And.intro @T6_eq (And.intro @T7_eq (And.intro @T8_eq (And.intro @T9_eq (And.intro @T10_eq (And.intro @T11_eq (And.intro @T12_eq (And.intro @TN_eq (And.intro @lxs_eq (And.intro @lb_true (And.intro @rB_eq (And.intro @rI_eq (And.intro @rS_eq (And.intro @leB_mp (And.intro @true_and (And.intro @and_true (And.intro @cond_iff (And.intro @eqI_true (And.intro @eqI_false (And.intro @neI_true (And.intro @neI_false (And.intro @ltI_true (And.intro @ltI_false (And.intro @leI_true (And.intro @leI_false (And.intro @gtI_true (And.intro @gtI_false (And.intro @geI_true (And.intro @geI_false (And.intro @eqS_true (And.intro @eqS_false (And.intro @eqO_true (And.intro @eqO_false (And.intro @not_true (And.intro @not_false (And.intro @Bool.not_eq_true' (And.intro @Bool.not_eq_false' (And.intro @leV_any (And.intro @leV_int (And.intro @leV_bool (And.intro @leV_str (And.intro @leV_refl (And.intro @leB_refl (And.intro @leC_int (And.intro @leC_bool (And.intro @leC_str (And.intro @leC_hs (And.intro @leB_row (@Int.toNat_natCast))))))))))))))))))))))))))))))))))))))))))))))))))))))))))))))) := And.intro @ix_eq (And.intro @vI_eq (And.intro @cI_eq (And.intro @cB_eq (And.intro @cS_eq (And.intro @w64_eq (And.intro @tpn_eq (And.intro @ci_eq (And.intro @hn_eq (And.intro @pt_eq (And.intro @T2_eq (And.intro @T3_eq (And.intro @T4_eq (And.intro @T5_eq (And.intro @T6_eq (And.intro @T7_eq (And.intro @T8_eq (And.intro @T9_eq (And.intro @T10_eq (And.intro @T11_eq (And.intro @T12_eq (And.intro @TN_eq (And.intro @lxs_eq (And.intro @lb_true (And.intro @rB_eq (And.intro @rI_eq (And.intro @rS_eq (And.intro @leB_mp (And.intro @true_and (And.intro @and_true (And.intro @cond_iff (And.intro @eqI_true (And.intro @eqI_false (And.intro @neI_true (And.intro @neI_false (And.intro @ltI_true (And.intro @ltI_false (And.intro @leI_true (And.intro @leI_false (And.intro @gtI_true (And.intro @gtI_false (And.intro @geI_true (And.intro @geI_false (And.intro @eqS_true (And.intro @eqS_false (And.intro @eqO_true (And.intro @eqO_false (And.intro @not_true (And.intro @not_false (And.intro @Bool.not_eq_true' (And.intro @Bool.not_eq_false' (And.intro @leV_any (And.intro @leV_int (And.intro @leV_bool (And.intro @leV_str (And.intro @leV_refl (And.intro @leB_refl (And.intro @leC_int (And.intro @leC_bool (And.intro @leC_str (And.intro @leC_hs (And.intro @leB_row (@Int.toNat_natCast))))))))))))))))))))))))))))))))))))))))))))))))))))))))))))))
theorem SI2A : type_of% (And.intro @ix_eq (And.intro @vI_eq (And.intro @cI_eq (And.intro @cB_eq (And.intro @cS_eq (And.intro @w64_eq (And.intro @tpn_eq (And.intro @ci_eq (And.intro @hn_eq (And.intro @pt_eq (And.intro @T2_eq (And.intro @T3_eq (And.intro @T4_eq (And.intro @T5_eq (And.intro @T6_eq (And.intro @T7_eq (And.intro @T8_eq (And.intro @T9_eq (And.intro @T10_eq (And.intro @T11_eq (And.intro @T12_eq (And.intro @TN_eq (And.intro @lxs_eq (And.intro @lb_true (And.intro @rB_eq (And.intro @rI_eq (And.intro @rS_eq (And.intro @leB_mp (And.intro @true_and (And.intro @and_true (And.intro @cond_iff (And.intro @eqI_true (And.intro @eqI_false (And.intro @neI_true (And.intro @neI_false (And.intro @ltI_true (And.intro @ltI_false (And.intro @leI_true (And.intro @leI_false (And.intro @gtI_true (And.intro @gtI_false (And.intro @geI_true (And.intro @geI_false (And.intro @eqS_true (And.intro @eqS_false (And.intro @eqO_true (And.intro @eqO_false (And.intro @not_true (And.intro @not_false (And.intro @Bool.not_eq_true' (And.intro @Bool.not_eq_false' (And.intro @leV_any (And.intro @leV_int (And.intro @leV_bool (And.intro @leV_str (And.intro @leV_refl (And.intro @leB_refl (And.intro @leC_int (And.intro @leC_bool (And.intro @leC_str (And.intro @leC_hs (And.intro @leB_row (And.intro @leB_rowInt (And.intro @leB_rowStr (And.intro @leB_rowBool (And.intro @leB_rowToken (And.intro @leB_rowSpan (And.intro @leB_rowScope (And.intro @leB_rowFilter (And.intro @leB_rowCommand (And.intro @leB_rowMsg (And.intro @leB_rowBox (And.intro @leB_rowCommit (And.intro @leB_rowStore (And.intro @leB_rowClient (And.intro @leB_rowNote (And.intro @leB_rowQueue (And.intro @leB_rowOut (And.intro @leB_rowIn (And.intro @leB_rowSession (And.intro @leB_rowServer (And.intro @leB_rowOutcome (@Int.toNat_natCast))))))))))))))))))))))))))))))))))))))))))))))))))))))))))))))))))))))))))))))))))) := And.intro @ix_eq (And.intro @vI_eq (And.intro @cI_eq (And.intro @cB_eq (And.intro @cS_eq (And.intro @w64_eq (And.intro @tpn_eq (And.intro @ci_eq (And.intro @hn_eq (And.intro @pt_eq (And.intro @T2_eq (And.intro @T3_eq (And.intro @T4_eq (And.intro @T5_eq (And.intro @T6_eq (And.intro @T7_eq (And.intro @T8_eq (And.intro @T9_eq (And.intro @T10_eq (And.intro @T11_eq (And.intro @T12_eq (And.intro @TN_eq (And.intro @lxs_eq (And.intro @lb_true (And.intro @rB_eq (And.intro @rI_eq (And.intro @rS_eq (And.intro @leB_mp (And.intro @true_and (And.intro @and_true (And.intro @cond_iff (And.intro @eqI_true (And.intro @eqI_false (And.intro @neI_true (And.intro @neI_false (And.intro @ltI_true (And.intro @ltI_false (And.intro @leI_true (And.intro @leI_false (And.intro @gtI_true (And.intro @gtI_false (And.intro @geI_true (And.intro @geI_false (And.intro @eqS_true (And.intro @eqS_false (And.intro @eqO_true (And.intro @eqO_false (And.intro @not_true (And.intro @not_false (And.intro @Bool.not_eq_true' (And.intro @Bool.not_eq_false' (And.intro @leV_any (And.intro @leV_int (And.intro @leV_bool (And.intro @leV_str (And.intro @leV_refl (And.intro @leB_refl (And.intro @leC_int (And.intro @leC_bool (And.intro @leC_str (And.intro @leC_hs (And.intro @leB_row (And.intro @leB_rowInt (And.intro @leB_rowStr (And.intro @leB_rowBool (And.intro @leB_rowToken (And.intro @leB_rowSpan (And.intro @leB_rowScope (And.intro @leB_rowFilter (And.intro @leB_rowCommand (And.intro @leB_rowMsg (And.intro @leB_rowBox (And.intro @leB_rowCommit (And.intro @leB_rowStore (And.intro @leB_rowClient (And.intro @leB_rowNote (And.intro @leB_rowQueue (And.intro @leB_rowOut (And.intro @leB_rowIn (And.intro @leB_rowSession (And.intro @leB_rowServer (And.intro @leB_rowOutcome (@Int.toNat_natCast))))))))))))))))))))))))))))))))))))))))))))))))))))))))))))))))))))))))))))))))))
theorem EQA : type_of% (And.intro @eqT_Token_true (And.intro @eqT_Token_false (And.intro @eqT_LToken_true (And.intro @eqT_LToken_false (And.intro @eqC_Token_true (And.intro @eqC_Token_false (And.intro @eqT_Span_true (And.intro @eqT_Span_false (And.intro @eqT_LSpan_true (And.intro @eqT_LSpan_false (And.intro @eqC_Span_true (And.intro @eqC_Span_false (And.intro @eqT_Scope_true (And.intro @eqT_Scope_false (And.intro @eqT_LScope_true (And.intro @eqT_LScope_false (And.intro @eqT_Filter_true (And.intro @eqT_Filter_false (And.intro @eqT_LFilter_true (And.intro @eqT_LFilter_false (And.intro @eqT_Command_true (And.intro @eqT_Command_false (And.intro @eqT_LCommand_true (And.intro @eqT_LCommand_false (And.intro @eqT_Msg_true (And.intro @eqT_Msg_false (And.intro @eqT_LMsg_true (And.intro @eqT_LMsg_false (And.intro @eqC_Msg_true (And.intro @eqC_Msg_false (And.intro @eqT_Box_true (And.intro @eqT_Box_false (And.intro @eqT_LBox_true (And.intro @eqT_LBox_false (And.intro @eqT_Commit_true (And.intro @eqT_Commit_false (And.intro @eqT_LCommit_true (And.intro @eqT_LCommit_false (And.intro @eqC_Commit_true (And.intro @eqC_Commit_false (And.intro @eqT_Store_true (And.intro @eqT_Store_false (And.intro @eqT_LStore_true (And.intro @eqT_LStore_false (And.intro @eqT_Client_true (And.intro @eqT_Client_false (And.intro @eqT_LClient_true (And.intro @eqT_LClient_false (And.intro @eqT_Note_true (And.intro @eqT_Note_false (And.intro @eqT_LNote_true (And.intro @eqT_LNote_false (And.intro @eqC_Note_true (And.intro @eqC_Note_false (And.intro @eqT_Queue_true (And.intro @eqT_Queue_false (And.intro @eqT_LQueue_true (And.intro @eqT_LQueue_false (And.intro @eqT_Out_true (And.intro @eqT_Out_false (And.intro @eqT_LOut_true (And.intro @eqT_LOut_false (And.intro @eqC_Out_true (And.intro @eqC_Out_false (And.intro @eqT_In_true (And.intro @eqT_In_false (And.intro @eqT_LIn_true (And.intro @eqT_LIn_false (And.intro @eqC_In_true (And.intro @eqC_In_false (And.intro @eqT_Session_true (And.intro @eqT_Session_false (And.intro @eqT_LSession_true (And.intro @eqT_LSession_false (And.intro @eqT_Server_true (And.intro @eqT_Server_false (And.intro @eqT_LServer_true (And.intro @eqT_LServer_false (And.intro @eqT_Outcome_true (And.intro @eqT_Outcome_false (And.intro @eqT_LOutcome_true (And.intro @eqT_LOutcome_false (And.intro @eqC_Outcome_true (And.intro @eqC_Outcome_false (And.intro @eqT_LString_true (And.intro @eqT_LString_false (And.intro @eqT_LInt_true (And.intro @eqT_LInt_false (And.intro @eqI_true (And.intro @eqI_false (And.intro @neI_true (And.intro @neI_false (And.intro @ltI_true (And.intro @ltI_false (And.intro @leI_true (And.intro @leI_false (And.intro @gtI_true (And.intro @gtI_false (And.intro @geI_true (And.intro @geI_false (And.intro @eqS_true (And.intro @eqS_false (And.intro @eqO_true (@eqO_false)))))))))))))))))))))))))))))))))))))))))))))))))))))))))))))))))))))))))))))))))))))))))))))))))))))))) := And.intro @eqT_Token_true (And.intro @eqT_Token_false (And.intro @eqT_LToken_true (And.intro @eqT_LToken_false (And.intro @eqC_Token_true (And.intro @eqC_Token_false (And.intro @eqT_Span_true (And.intro @eqT_Span_false (And.intro @eqT_LSpan_true (And.intro @eqT_LSpan_false (And.intro @eqC_Span_true (And.intro @eqC_Span_false (And.intro @eqT_Scope_true (And.intro @eqT_Scope_false (And.intro @eqT_LScope_true (And.intro @eqT_LScope_false (And.intro @eqT_Filter_true (And.intro @eqT_Filter_false (And.intro @eqT_LFilter_true (And.intro @eqT_LFilter_false (And.intro @eqT_Command_true (And.intro @eqT_Command_false (And.intro @eqT_LCommand_true (And.intro @eqT_LCommand_false (And.intro @eqT_Msg_true (And.intro @eqT_Msg_false (And.intro @eqT_LMsg_true (And.intro @eqT_LMsg_false (And.intro @eqC_Msg_true (And.intro @eqC_Msg_false (And.intro @eqT_Box_true (And.intro @eqT_Box_false (And.intro @eqT_LBox_true (And.intro @eqT_LBox_false (And.intro @eqT_Commit_true (And.intro @eqT_Commit_false (And.intro @eqT_LCommit_true (And.intro @eqT_LCommit_false (And.intro @eqC_Commit_true (And.intro @eqC_Commit_false (And.intro @eqT_Store_true (And.intro @eqT_Store_false (And.intro @eqT_LStore_true (And.intro @eqT_LStore_false (And.intro @eqT_Client_true (And.intro @eqT_Client_false (And.intro @eqT_LClient_true (And.intro @eqT_LClient_false (And.intro @eqT_Note_true (And.intro @eqT_Note_false (And.intro @eqT_LNote_true (And.intro @eqT_LNote_false (And.intro @eqC_Note_true (And.intro @eqC_Note_false (And.intro @eqT_Queue_true (And.intro @eqT_Queue_false (And.intro @eqT_LQueue_true (And.intro @eqT_LQueue_false (And.intro @eqT_Out_true (And.intro @eqT_Out_false (And.intro @eqT_LOut_true (And.intro @eqT_LOut_false (And.intro @eqC_Out_true (And.intro @eqC_Out_false (And.intro @eqT_In_true (And.intro @eqT_In_false (And.intro @eqT_LIn_true (And.intro @eqT_LIn_false (And.intro @eqC_In_true (And.intro @eqC_In_false (And.intro @eqT_Session_true (And.intro @eqT_Session_false (And.intro @eqT_LSession_true (And.intro @eqT_LSession_false (And.intro @eqT_Server_true (And.intro @eqT_Server_false (And.intro @eqT_LServer_true (And.intro @eqT_LServer_false (And.intro @eqT_Outcome_true (And.intro @eqT_Outcome_false (And.intro @eqT_LOutcome_true (And.intro @eqT_LOutcome_false (And.intro @eqC_Outcome_true (And.intro @eqC_Outcome_false (And.intro @eqT_LString_true (And.intro @eqT_LString_false (And.intro @eqT_LInt_true (And.intro @eqT_LInt_false (And.intro @eqI_true (And.intro @eqI_false (And.intro @neI_true (And.intro @neI_false (And.intro @ltI_true (And.intro @ltI_false (And.intro @leI_true (And.intro @leI_false (And.intro @gtI_true (And.intro @gtI_false (And.intro @geI_true (And.intro @geI_false (And.intro @eqS_true (And.intro @eqS_false (And.intro @eqO_true (@eqO_false)))))))))))))))))))))))))))))))))))))))))))))))))))))))))))))))))))))))))))))))))))))))))))))))))))))))
end Go.Proofs.YtoigkpkafgjeaaaGreatDoor
