/-
  The notes for a commit.
  No condition but what the arguments' cells hold. Printed by vcgen.py.
-/
import Derived.Test.YtigebfhekmjhmaaGreatXBlAdm
set_option linter.unusedSimpArgs false
set_option linter.unusedVariables false
namespace Go.Proofs.YtigebfhekmjhmaaGreat
open Go.ChangeShapes Go.WideShapes Go.ChangeAt Go.RowKit Go.Joins Go.Deep
open GoRep (rep bulk)

def evOf (m : GCommit) : Int := if m.1 = 1 ∨ m.1 = 2 ∨ m.1 = 3 then 8 else if m.1 = 4 then 1 else if m.1 = 5 then 4 else if m.1 = 6 then 2 else 0
def uidF (m : GCommit) : Int := if m.1 = 5 then m.2.2.1 else 0
def noteF (m : GCommit) (n : Int) : GNote := (1, n, uidF m, (⟨#[]⟩ : ByteArray))
def namedL (f : GFilter) (kind : Int) (name : ByteArray) (ev : Int) : List GNote := if name = (⟨#[]⟩ : ByteArray) ∨ admitsB f (⟨#[]⟩ : ByteArray) name ev = false then [] else [(kind, 0, 0, name)]
def addN (out : List GNote) (s : GSession) (m : GCommit) (kind : Int) (name : ByteArray) : List GNote := out ++ namedL s.2.2.2.2.2.1 kind name (evOf m)
def notesL (st : GStore) (s : GSession) (n : Int) : List GNote :=
  if ¬ (0 ≤ n ∧ n ≤ ((List.length st.2.1 : Nat) : Int) - 1) ∨ s.1 = false ∨ (¬ s.2.1 = 2 ∧ ¬ s.2.1 = 3) then []
  else if (nth_Commit st.2.1 (Int.toNat n)).1 = 4 ∨ (nth_Commit st.2.1 (Int.toNat n)).1 = 5 ∨ (nth_Commit st.2.1 (Int.toNat n)).1 = 6 then
    if s.2.1 = 3 ∧ s.2.2.1 = (nth_Commit st.2.1 (Int.toNat n)).2.1 then [noteF (nth_Commit st.2.1 (Int.toNat n)) n]
    else namedL s.2.2.2.2.2.1 2 (bxAt st (nth_Commit st.2.1 (Int.toNat n)).2.1 (IntKind.wrap .i64 (n + 1))).1.1 (evOf (nth_Commit st.2.1 (Int.toNat n)))
  else if (nth_Commit st.2.1 (Int.toNat n)).1 = 1 then namedL s.2.2.2.2.2.1 3 (nth_Commit st.2.1 (Int.toNat n)).2.2.2.2.1 8
  else if (nth_Commit st.2.1 (Int.toNat n)).1 = 2 then namedL s.2.2.2.2.2.1 4 (bxAt st (nth_Commit st.2.1 (Int.toNat n)).2.1 n).1.1 8
  else if (nth_Commit st.2.1 (Int.toNat n)).1 = 3 then namedL s.2.2.2.2.2.1 4 (bxAt st (nth_Commit st.2.1 (Int.toNat n)).2.1 n).1.1 8 ++ namedL s.2.2.2.2.2.1 3 (nth_Commit st.2.1 (Int.toNat n)).2.2.2.2.1 8
  else []
theorem nf_nil1 {st : GStore} {s : GSession} {n : Int} (h : ¬ (0 ≤ n ∧ n ≤ ((List.length st.2.1 : Nat) : Int) - 1)) : notesL st s n = [] := if_pos (.inl h)
theorem nf_nil2 {st : GStore} {s : GSession} {n : Int} (h : s.1 = false) : notesL st s n = [] := if_pos (.inr (.inl h))
theorem nf_nil3 {st : GStore} {s : GSession} {n : Int} (h : ¬ s.2.1 = 2 ∧ ¬ s.2.1 = 3) : notesL st s n = [] := if_pos (.inr (.inr h))
theorem nf_go {st : GStore} {s : GSession} {n : Int} (h : 0 ≤ n ∧ n ≤ ((List.length st.2.1 : Nat) : Int) - 1) (hl : s.1 = true) (hs : s.2.1 = 2 ∨ s.2.1 = 3) : notesL st s n =
  if (nth_Commit st.2.1 (Int.toNat n)).1 = 4 ∨ (nth_Commit st.2.1 (Int.toNat n)).1 = 5 ∨ (nth_Commit st.2.1 (Int.toNat n)).1 = 6 then
    if s.2.1 = 3 ∧ s.2.2.1 = (nth_Commit st.2.1 (Int.toNat n)).2.1 then [noteF (nth_Commit st.2.1 (Int.toNat n)) n]
    else namedL s.2.2.2.2.2.1 2 (bxAt st (nth_Commit st.2.1 (Int.toNat n)).2.1 (IntKind.wrap .i64 (n + 1))).1.1 (evOf (nth_Commit st.2.1 (Int.toNat n)))
  else if (nth_Commit st.2.1 (Int.toNat n)).1 = 1 then namedL s.2.2.2.2.2.1 3 (nth_Commit st.2.1 (Int.toNat n)).2.2.2.2.1 8
  else if (nth_Commit st.2.1 (Int.toNat n)).1 = 2 then namedL s.2.2.2.2.2.1 4 (bxAt st (nth_Commit st.2.1 (Int.toNat n)).2.1 n).1.1 8
  else if (nth_Commit st.2.1 (Int.toNat n)).1 = 3 then namedL s.2.2.2.2.2.1 4 (bxAt st (nth_Commit st.2.1 (Int.toNat n)).2.1 n).1.1 8 ++ namedL s.2.2.2.2.2.1 3 (nth_Commit st.2.1 (Int.toNat n)).2.2.2.2.1 8
  else [] := if_neg (by
    rintro (h1 | h1 | h1)
    · exact h1 h
    · rw [hl] at h1; cases h1
    · omega)
theorem ev8 {m : GCommit} (h : m.1 = 1 ∨ m.1 = 2 ∨ m.1 = 3) : evOf m = 8 := if_pos h
theorem cntNo : ∀ l : List GNote, cntL l = 4 * List.length l
  | [] => rfl
  | x :: xs => by
    have ih := cntNo xs
    show 4 + cntL xs = 4 * (List.length xs + 1)
    omega
theorem namedL_len (f : GFilter) (kind : Int) (name : ByteArray) (ev : Int) : (namedL f kind name ev).length ≤ 1 := by
  unfold namedL
  split <;> simp
theorem notesL_len (st : GStore) (s : GSession) (n : Int) : (notesL st s n).length ≤ 2 := by
  unfold notesL
  repeat' split
  all_goals first
    | exact Nat.zero_le _
    | exact Nat.le_succ _
    | exact Nat.le_trans (namedL_len _ _ _ _) (Nat.le_succ _)
    | (rw [List.length_append]; exact Nat.add_le_add (namedL_len _ _ _ _) (namedL_len _ _ _ _))
set_option maxRecDepth 100000 in
set_option maxHeartbeats 400000 in
theorem b_i_EventOf (m : GCommit) : BCalls Tryz.prog 85 [.ag (cellsOf tyCommit m)] (.c (.int .i64 (evOf m))) [] := by
  refine bcalls_of (T := ⟨[], [], [], [], none, fun _ => [], 0, [], []⟩) (L := L0) Tryz.func85 ⟨⟨rfl, rfl⟩, rfl⟩ (fun hwf => ?_)
  refine Eq.mpr (β := (T6 (bif (eqI m.1 1) then (True ∧ ((true = true ∧ leC (.int .i64 8) (.int .i64 (evOf m))) ∧ true = true)) else (T2 (bif (eqI m.1 2) then (True ∧ ((true = true ∧ leC (.int .i64 8) (.int .i64 (evOf m))) ∧ true = true)) else (T2 (bif (eqI m.1 3) then (True ∧ ((true = true ∧ leC (.int .i64 8) (.int .i64 (evOf m))) ∧ true = true)) else (T2 (bif (eqI m.1 4) then (True ∧ ((true = true ∧ leC (.int .i64 1) (.int .i64 (evOf m))) ∧ true = true)) else (T2 (bif (eqI m.1 5) then (True ∧ ((true = true ∧ leC (.int .i64 4) (.int .i64 (evOf m))) ∧ true = true)) else (T2 (bif (eqI m.1 6) then (True ∧ ((true = true ∧ leC (.int .i64 2) (.int .i64 (evOf m))) ∧ true = true)) else (True ∧ ((true = true ∧ leC (.int .i64 0) (.int .i64 (evOf m))) ∧ true = true))))))))))))))) (by kernel_rfl) ?_
  unfold T2 T6
  simp only [btw_iff, btw_not, flagsOk, Bool.not_true, Bool.not_false, SI2A, eq_self]
  repeat' (first | apply And.intro | intro _)
  all_goals first
    | trivial
    | omega
    | contradiction
    | exact ⟨rfl, rfl⟩
    | (show _ + 1 ≤ rowMax; unfold rowMax; omega)
    | (simp only [evOf, *, eq_self, if_true, if_false, and_true, true_and, and_self, not_true, not_false, false_and, and_false, or_true, true_or, or_false, false_or, or_self, Bool.false_eq_true, reduceCtorEq, reduceIte, Int.reduceEq, not_false_eq_true, not_true_eq_false, ite_true, ite_false, Bool.and_true, Bool.true_and, Bool.and_false, Bool.false_and, Bool.or_true, Bool.true_or, Bool.or_false, Bool.false_or, Bool.not_true, Bool.not_false]; done)
    | (simp_all [evOf, eqI, neI, geI, eqS]; done)
def e_i_EventOf : Entry Tryz.prog := ⟨85, [.s tyCommit], fun x => True, fun x => .c (.int .i64 (evOf x.1)), fun _ => [], fun x hx => b_i_EventOf x.1, Tryz.call85⟩
set_option maxRecDepth 100000 in
set_option maxHeartbeats 400000 in
theorem b_s_EventOf (m : GCommit) : BCalls Tryz.prog 81 [.ag (cellsOf tyCommit m)] (.c (.int .i64 (evOf m))) [] := by
  refine bcalls_of (T := ⟨[], [], [], [], none, fun _ => [], 0, [], []⟩) (L := L0) Tryz.func81 ⟨⟨rfl, rfl⟩, rfl⟩ (fun hwf => ?_)
  refine Eq.mpr (β := (T6 (bif (eqI m.1 1) then (True ∧ ((true = true ∧ leC (.int .i64 8) (.int .i64 (evOf m))) ∧ true = true)) else (T2 (bif (eqI m.1 2) then (True ∧ ((true = true ∧ leC (.int .i64 8) (.int .i64 (evOf m))) ∧ true = true)) else (T2 (bif (eqI m.1 3) then (True ∧ ((true = true ∧ leC (.int .i64 8) (.int .i64 (evOf m))) ∧ true = true)) else (T2 (bif (eqI m.1 4) then (True ∧ ((true = true ∧ leC (.int .i64 1) (.int .i64 (evOf m))) ∧ true = true)) else (T2 (bif (eqI m.1 5) then (True ∧ ((true = true ∧ leC (.int .i64 4) (.int .i64 (evOf m))) ∧ true = true)) else (T2 (bif (eqI m.1 6) then (True ∧ ((true = true ∧ leC (.int .i64 2) (.int .i64 (evOf m))) ∧ true = true)) else (True ∧ ((true = true ∧ leC (.int .i64 0) (.int .i64 (evOf m))) ∧ true = true))))))))))))))) (by kernel_rfl) ?_
  unfold T2 T6
  simp only [btw_iff, btw_not, flagsOk, Bool.not_true, Bool.not_false, SI2A, eq_self]
  repeat' (first | apply And.intro | intro _)
  all_goals first
    | trivial
    | omega
    | contradiction
    | exact ⟨rfl, rfl⟩
    | (show _ + 1 ≤ rowMax; unfold rowMax; omega)
    | (simp only [evOf, *, eq_self, if_true, if_false, and_true, true_and, and_self, not_true, not_false, false_and, and_false, or_true, true_or, or_false, false_or, or_self, Bool.false_eq_true, reduceCtorEq, reduceIte, Int.reduceEq, not_false_eq_true, not_true_eq_false, ite_true, ite_false, Bool.and_true, Bool.true_and, Bool.and_false, Bool.false_and, Bool.or_true, Bool.true_or, Bool.or_false, Bool.false_or, Bool.not_true, Bool.not_false]; done)
    | (simp_all [evOf, eqI, neI, geI, eqS]; done)
def e_s_EventOf : Entry Tryz.prog := ⟨81, [.s tyCommit], fun x => True, fun x => .c (.int .i64 (evOf x.1)), fun _ => [], fun x hx => b_s_EventOf x.1, Tryz.call81⟩
set_option maxRecDepth 100000 in
set_option maxHeartbeats 400000 in
theorem b_i_noteFor (m : GCommit) (n : Int) : BCalls Tryz.prog 86 [.ag (cellsOf tyCommit m), .c (.int .i64 n)] (.ag [.int .i64 (noteF m n).1, .int .i64 (noteF m n).2.1, .int .i64 (noteF m n).2.2.1, .str (noteF m n).2.2.2]) [] := by
  refine bcalls_of (T := ⟨[], [], [], [], none, fun _ => [], 0, [], []⟩) (L := L0) Tryz.func86 ⟨⟨rfl, rfl⟩, rfl⟩ (fun hwf => ?_)
  refine Eq.mpr (β := (T9 (bif (eqI m.1 5) then (T6 ((((true = true ∧ leC (.int .i64 1) (.int .i64 (noteF m n).1)) ∧ (true = true ∧ leC (.int .i64 n) (.int .i64 (noteF m n).2.1)) ∧ (true = true ∧ leC (.int .i64 m.2.2.1) (.int .i64 (noteF m n).2.2.1)) ∧ (true = true ∧ leC (.str (⟨#[]⟩ : ByteArray)) (.str (noteF m n).2.2.2)) ∧ True)) ∧ true = true)) else (T2 ((((true = true ∧ leC (.int .i64 1) (.int .i64 (noteF m n).1)) ∧ (true = true ∧ leC (.int .i64 n) (.int .i64 (noteF m n).2.1)) ∧ (true = true ∧ leC (.int .i64 0) (.int .i64 (noteF m n).2.2.1)) ∧ (true = true ∧ leC (.str (⟨#[]⟩ : ByteArray)) (.str (noteF m n).2.2.2)) ∧ True)) ∧ true = true))))) (by kernel_rfl) ?_
  unfold T2 T6 T9
  simp only [btw_iff, btw_not, flagsOk, Bool.not_true, Bool.not_false, SI2A, eq_self]
  repeat' (first | apply And.intro | intro _)
  all_goals first
    | trivial
    | omega
    | contradiction
    | exact ⟨rfl, rfl⟩
    | (show _ + 1 ≤ rowMax; unfold rowMax; omega)
    | (simp only [noteF, uidF, *, eq_self, if_true, if_false, and_true, true_and, and_self, not_true, not_false, false_and, and_false, or_true, true_or, or_false, false_or, or_self, Bool.false_eq_true, reduceCtorEq, reduceIte, Int.reduceEq, not_false_eq_true, not_true_eq_false, ite_true, ite_false, Bool.and_true, Bool.true_and, Bool.and_false, Bool.false_and, Bool.or_true, Bool.true_or, Bool.or_false, Bool.false_or, Bool.not_true, Bool.not_false]; done)
    | (simp_all [noteF, uidF, eqI, neI, geI, eqS]; done)
def e_i_noteFor : Entry Tryz.prog := ⟨86, [.s tyCommit, .v tyInt], fun x => True, fun x => .ag [.int .i64 (noteF x.1 x.2.1).1, .int .i64 (noteF x.1 x.2.1).2.1, .int .i64 (noteF x.1 x.2.1).2.2.1, .str (noteF x.1 x.2.1).2.2.2], fun _ => [], fun x hx => b_i_noteFor x.1 x.2.1, Tryz.call86⟩
set_option maxRecDepth 100000 in
set_option maxHeartbeats 400000 in
theorem b_s_l20Uid (m : GCommit) : BCalls Tryz.prog 80 [.ag (cellsOf tyCommit m)] (.c (.int .i64 (uidF m))) [] := by
  refine bcalls_of (T := ⟨[], [], [], [], none, fun _ => [], 0, [], []⟩) (L := L0) Tryz.func80 ⟨⟨rfl, rfl⟩, rfl⟩ (fun hwf => ?_)
  refine Eq.mpr (β := (True ∧ (True ∧ (True ∧ (True ∧ (True ∧ (bif (eqI m.1 5) then (True ∧ (True ∧ (True ∧ ((true = true ∧ leC (.int .i64 m.2.2.1) (.int .i64 (uidF m))) ∧ true = true)))) else (True ∧ ((true = true ∧ leC (.int .i64 0) (.int .i64 (uidF m))) ∧ true = true))))))))) (by kernel_rfl) ?_
  simp only [btw_iff, btw_not, flagsOk, Bool.not_true, Bool.not_false, SI2A, eq_self]
  repeat' (first | apply And.intro | intro _)
  all_goals first
    | trivial
    | omega
    | contradiction
    | exact ⟨rfl, rfl⟩
    | (show _ + 1 ≤ rowMax; unfold rowMax; omega)
    | (simp only [uidF, *, eq_self, if_true, if_false, and_true, true_and, and_self, not_true, not_false, false_and, and_false, or_true, true_or, or_false, false_or, or_self, Bool.false_eq_true, reduceCtorEq, reduceIte, Int.reduceEq, not_false_eq_true, not_true_eq_false, ite_true, ite_false, Bool.and_true, Bool.true_and, Bool.and_false, Bool.false_and, Bool.or_true, Bool.true_or, Bool.or_false, Bool.false_or, Bool.not_true, Bool.not_false]; done)
    | (simp_all [uidF, eqI, neI, geI, eqS]; done)
def e_s_l20Uid : Entry Tryz.prog := ⟨80, [.s tyCommit], fun x => True, fun x => .c (.int .i64 (uidF x.1)), fun _ => [], fun x hx => b_s_l20Uid x.1, Tryz.call80⟩
def k01lits (s : GSession) : Prop := ((true = true ∧ leC (.bool s.1) (.bool s.1)) ∧ (true = true ∧ leC (.int .i64 s.2.1) (.int .i64 s.2.1)) ∧ (true = true ∧ leC (.int .i64 s.2.2.1) (.int .i64 s.2.2.1)) ∧ (true = true ∧ leC (.int .i64 s.2.2.2.1) (.int .i64 s.2.2.2.1)) ∧ (true = true ∧ leC (.hs .no tySpan s.2.2.2.2.1) (.hs .no tySpan s.2.2.2.2.1)) ∧ (true = true ∧ leC (.bool s.2.2.2.2.2.1.1) (.bool s.2.2.2.2.2.1.1)) ∧ (true = true ∧ leC (.hs .no tyScope s.2.2.2.2.2.1.2) (.hs .no tyScope s.2.2.2.2.2.1.2)) ∧ (true = true ∧ leC (.str s.2.2.2.2.2.2.1) (.str s.2.2.2.2.2.2.1)) ∧ (true = true ∧ leC (.str s.2.2.2.2.2.2.2.1) (.str s.2.2.2.2.2.2.2.1)) ∧ (true = true ∧ leC (.hs .no tyNote s.2.2.2.2.2.2.2.2.1.1) (.hs .no tyNote s.2.2.2.2.2.2.2.2.1.1)) ∧ (true = true ∧ leC (.bool s.2.2.2.2.2.2.2.2.1.2.1) (.bool s.2.2.2.2.2.2.2.2.1.2.1)) ∧ (true = true ∧ leC (.bool s.2.2.2.2.2.2.2.2.1.2.2) (.bool s.2.2.2.2.2.2.2.2.1.2.2)) ∧ (true = true ∧ leC (.str s.2.2.2.2.2.2.2.2.2.1.1) (.str s.2.2.2.2.2.2.2.2.2.1.1)) ∧ (true = true ∧ leC (.bool s.2.2.2.2.2.2.2.2.2.1.2) (.bool s.2.2.2.2.2.2.2.2.2.1.2)) ∧ (true = true ∧ leC (.str s.2.2.2.2.2.2.2.2.2.2.1.1) (.str s.2.2.2.2.2.2.2.2.2.2.1.1)) ∧ (true = true ∧ leC (.str s.2.2.2.2.2.2.2.2.2.2.1.2) (.str s.2.2.2.2.2.2.2.2.2.2.1.2)) ∧ (true = true ∧ leC (.int .i64 s.2.2.2.2.2.2.2.2.2.2.2) (.int .i64 s.2.2.2.2.2.2.2.2.2.2.2)) ∧ True)
def k11lits (m : GCommit) : Prop := ((true = true ∧ leC (.int .i64 m.1) (.int .i64 m.1)) ∧ (true = true ∧ leC (.int .i64 m.2.1) (.int .i64 m.2.1)) ∧ (true = true ∧ leC (.int .i64 m.2.2.1) (.int .i64 m.2.2.1)) ∧ (true = true ∧ leC (.int .i64 m.2.2.2.1) (.int .i64 m.2.2.2.1)) ∧ (true = true ∧ leC (.str m.2.2.2.2.1) (.str m.2.2.2.2.1)) ∧ (true = true ∧ leC (.str m.2.2.2.2.2) (.str m.2.2.2.2.2)) ∧ True)
set_option maxRecDepth 100000 in
set_option maxHeartbeats 400000 in
theorem m_i_NotesFor_1 (kind : Int) (name : ByteArray) (s : GSession) (m : GCommit) (out : List GNote) (hpre : List.length out ≤ 1048576) : MCalls Tryz.prog 83 (argsM 0 [(.a (.v tyInt)), (.a (.v tyStr)), (.b tySession), (.b tyCommit), (.m (.list tyNote))] (kind, name, s, m, out, ())) (preM 0 [(.a (.v tyInt)), (.a (.v tyStr)), (.b tySession), (.b tyCommit), (.m (.list tyNote))] (kind, name, s, m, out, ())) (postM 0 [(.a (.v tyInt)), (.a (.v tyStr)), (.b tySession), (.b tyCommit), (.m (.list tyNote))] (kind, name, s, m, addN out s m kind name, ()) ++ []) (inpM 0 [(.a (.v tyInt)), (.a (.v tyStr)), (.b tySession), (.b tyCommit), (.m (.list tyNote))]) (.tp []) := by
  refine mcalls_of (T := ⟨[e_i_EventOf, e_i_Admits], [], [], [], none, fun _ => [], 4, [], []⟩) (L := L0) Tryz.func83 rfl rfl rfl (by kernel_rfl) (fun hwf hwm => ?_)
  refine Eq.mpr (β := ((true = true ∧ true = true) ∧ (T3 (bif (!eqS name (⟨#[]⟩ : ByteArray)) then (T4 ((True ∧ true = true) ∧ ((True ∧ true = true) ∧ (True ∧ (bif admitsB s.2.2.2.2.2.1 (⟨#[]⟩ : ByteArray) name (evOf m) then (T5 ((True ∧ List.length out + List.length ([(kind, (0, (0, name)))]) ≤ rowMax) ∧ (True ∧ (((((k01lits s)) ∧ ((k11lits m)) ∧ ((((out ++ [(kind, (0, (0, name)))]) = (addN out s m kind name)) ∧ True)) ∧ True) ∧ ((True))) ∧ true = true)))) else (((((k01lits s)) ∧ ((k11lits m)) ∧ (((out = (addN out s m kind name)) ∧ True)) ∧ True) ∧ ((True))) ∧ true = true)))))) else (True ∧ (((((k01lits s)) ∧ ((k11lits m)) ∧ (((out = (addN out s m kind name)) ∧ True)) ∧ True) ∧ ((True))) ∧ true = true)))))) (by kernel_rfl) ?_
  unfold k11lits k01lits T3 T4 T5
  simp only [btw_iff, btw_not, flagsOk, Bool.not_true, Bool.not_false, SI2A, eq_self]
  repeat' (first | apply And.intro | intro _)
  all_goals first
    | trivial
    | omega
    | contradiction
    | exact ⟨rfl, rfl⟩
    | (show _ + 1 ≤ rowMax; unfold rowMax; omega)
    | (simp only [addN, namedL, *, eq_self, if_true, if_false, and_true, true_and, and_self, not_true, not_false, false_and, and_false, or_true, true_or, or_false, false_or, or_self, Bool.false_eq_true, reduceCtorEq, reduceIte, Int.reduceEq, not_false_eq_true, not_true_eq_false, ite_true, ite_false, Bool.and_true, Bool.true_and, Bool.and_false, Bool.false_and, Bool.or_true, Bool.true_or, Bool.or_false, Bool.false_or, Bool.not_true, Bool.not_false]; done)
    | (simp_all [addN, namedL, eqI, neI, geI, eqS]; done)
def e_i_NotesFor_1 : MEntry Tryz.prog := ⟨83, [(.a (.v tyInt)), (.a (.v tyStr)), (.b tySession), (.b tyCommit), (.m (.list tyNote))], fun x => List.length x.2.2.2.2.1 ≤ 1048576, fun x => (x.1, x.2.1, x.2.2.1, x.2.2.2.1, addN x.2.2.2.2.1 x.2.2.1 x.2.2.2.1 x.1 x.2.1, ()), fun x => .tp [], fun _ => [], fun x hx => m_i_NotesFor_1 x.1 x.2.1 x.2.2.1 x.2.2.2.1 x.2.2.2.2.1 hx, Tryz.call83⟩
set_option maxRecDepth 100000 in
set_option maxHeartbeats 400000 in
theorem b_s_l21Named (f : GFilter) (kind : Int) (name : ByteArray) (ev : Int) : BCalls Tryz.prog 79 [.ag [.bool f.1, .hs .no tyScope f.2], .c (.int .i64 kind), .c (.str name), .c (.int .i64 ev)] (.c (.row 0 0)) [.row tyNote (namedL f kind name ev) 0 0 none] := by
  refine bcalls_of (T := ⟨[e_s_Admits], [], [], [], none, fun _ => [], 0, [], []⟩) (L := L0) Tryz.func79 ⟨⟨rfl, rfl⟩, rfl⟩ (fun hwf => ?_)
  refine Eq.mpr (β := (True ∧ (True ∧ (True ∧ (True ∧ (True ∧ (bif (eqS name (⟨#[]⟩ : ByteArray)) then (True ∧ (True ∧ (True ∧ ((([] : List GNote) = (namedL f kind name ev)) ∧ true = true)))) else (True ∧ (True ∧ (True ∧ ((True ∧ true = true) ∧ (True ∧ (True ∧ (bif (!(admitsB f (⟨#[]⟩ : ByteArray) name ev)) then (True ∧ (True ∧ ((([] : List GNote) = (namedL f kind name ev)) ∧ true = true))) else (True ∧ (True ∧ (True ∧ (True ∧ (True ∧ ((([(kind, (0, (0, name)))]) = (namedL f kind name ev)) ∧ true = true)))))))))))))))))))) (by kernel_rfl) ?_
  simp only [btw_iff, btw_not, flagsOk, Bool.not_true, Bool.not_false, SI2A, eq_self]
  repeat' (first | apply And.intro | intro _)
  all_goals first
    | trivial
    | omega
    | contradiction
    | exact ⟨rfl, rfl⟩
    | (show _ + 1 ≤ rowMax; unfold rowMax; omega)
    | (simp only [namedL, *, eq_self, if_true, if_false, and_true, true_and, and_self, not_true, not_false, false_and, and_false, or_true, true_or, or_false, false_or, or_self, Bool.false_eq_true, reduceCtorEq, reduceIte, Int.reduceEq, not_false_eq_true, not_true_eq_false, ite_true, ite_false, Bool.and_true, Bool.true_and, Bool.and_false, Bool.false_and, Bool.or_true, Bool.true_or, Bool.or_false, Bool.false_or, Bool.not_true, Bool.not_false]; done)
    | (simp_all [namedL, eqI, neI, geI, eqS]; done)
def e_s_l21Named : Entry Tryz.prog := ⟨79, [.s tyFilter, .v tyInt, .v tyStr, .v tyInt], fun x => True, fun x => .c (.row 0 0), fun x => [.row tyNote (namedL x.1 x.2.1 x.2.2.1 x.2.2.2.1) 0 0 none], fun x hx => b_s_l21Named x.1 x.2.1 x.2.2.1 x.2.2.2.1, Tryz.call79⟩
def k3mj0he (s : GSession) : Prop := ((true = true ∧ leC (.bool s.1) (.bool s.1)) ∧ (true = true ∧ leC (.int .i64 s.2.1) (.int .i64 s.2.1)) ∧ (true = true ∧ leC (.int .i64 s.2.2.1) (.int .i64 s.2.2.1)) ∧ (true = true ∧ leC (.int .i64 s.2.2.2.1) (.int .i64 s.2.2.2.1)) ∧ (true = true ∧ leC (.hs .no tySpan s.2.2.2.2.1) (.hs .no tySpan s.2.2.2.2.1)) ∧ (true = true ∧ leC (.bool s.2.2.2.2.2.1.1) (.bool s.2.2.2.2.2.1.1)) ∧ (true = true ∧ leC (.hs .no tyScope s.2.2.2.2.2.1.2) (.hs .no tyScope s.2.2.2.2.2.1.2)) ∧ (true = true ∧ leC (.str s.2.2.2.2.2.2.1) (.str s.2.2.2.2.2.2.1)) ∧ (true = true ∧ leC (.str s.2.2.2.2.2.2.2.1) (.str s.2.2.2.2.2.2.2.1)) ∧ (true = true ∧ leC (.hs .no tyNote s.2.2.2.2.2.2.2.2.1.1) (.hs .no tyNote s.2.2.2.2.2.2.2.2.1.1)) ∧ (true = true ∧ leC (.bool s.2.2.2.2.2.2.2.2.1.2.1) (.bool s.2.2.2.2.2.2.2.2.1.2.1)) ∧ (true = true ∧ leC (.bool s.2.2.2.2.2.2.2.2.1.2.2) (.bool s.2.2.2.2.2.2.2.2.1.2.2)) ∧ (true = true ∧ leC (.str s.2.2.2.2.2.2.2.2.2.1.1) (.str s.2.2.2.2.2.2.2.2.2.1.1)) ∧ (true = true ∧ leC (.bool s.2.2.2.2.2.2.2.2.2.1.2) (.bool s.2.2.2.2.2.2.2.2.2.1.2)) ∧ (true = true ∧ leC (.str s.2.2.2.2.2.2.2.2.2.2.1.1) (.str s.2.2.2.2.2.2.2.2.2.2.1.1)) ∧ (true = true ∧ leC (.str s.2.2.2.2.2.2.2.2.2.2.1.2) (.str s.2.2.2.2.2.2.2.2.2.2.1.2)) ∧ (true = true ∧ leC (.int .i64 s.2.2.2.2.2.2.2.2.2.2.2) (.int .i64 s.2.2.2.2.2.2.2.2.2.2.2)) ∧ True)
def k4mj0he (st : GStore) (n : Int) : Prop := ((true = true ∧ leC (.int .i64 (nth_Commit st.2.1 (Int.toNat n)).1) (.int .i64 (nth_Commit st.2.1 (Int.toNat n)).1)) ∧ (true = true ∧ leC (.int .i64 (nth_Commit st.2.1 (Int.toNat n)).2.1) (.int .i64 (nth_Commit st.2.1 (Int.toNat n)).2.1)) ∧ (true = true ∧ leC (.int .i64 (nth_Commit st.2.1 (Int.toNat n)).2.2.1) (.int .i64 (nth_Commit st.2.1 (Int.toNat n)).2.2.1)) ∧ (true = true ∧ leC (.int .i64 (nth_Commit st.2.1 (Int.toNat n)).2.2.2.1) (.int .i64 (nth_Commit st.2.1 (Int.toNat n)).2.2.2.1)) ∧ (true = true ∧ leC (.str (nth_Commit st.2.1 (Int.toNat n)).2.2.2.2.1) (.str (nth_Commit st.2.1 (Int.toNat n)).2.2.2.2.1)) ∧ (true = true ∧ leC (.str (nth_Commit st.2.1 (Int.toNat n)).2.2.2.2.2) (.str (nth_Commit st.2.1 (Int.toNat n)).2.2.2.2.2)) ∧ True)
def k0mj0he (s : GSession) (st : GStore) (n : Int) : Prop := ((List.length ([] : List GNote) ≤ 1048576 ∧ (((k3mj0he s)) ∧ ((k4mj0he st n)) ∧ (((([] : List GNote) = ([] : List GNote)) ∧ True)) ∧ True)) ∧ true = true)
def k5mj0he (s : GSession) (st : GStore) (n : Int) : Prop := (T6 ((True ∧ true = true) ∧ ((k0mj0he s st n) ∧ ∀ r0 : List GNote, r0 = addN ([] : List GNote) s (nth_Commit st.2.1 (Int.toNat n)) 2 (bxAt st (nth_Commit st.2.1 (Int.toNat n)).2.1 (IntKind.wrap .i64 (n + 1))).1.1 → (T2 ((r0 = (notesL st s n)) ∧ true = true)))))
def k2mj0he (s : GSession) (st : GStore) (n : Int) : Prop := (T4 (bif (eqI s.2.1 3) then (T6 (bif (eqI s.2.2.1 (nth_Commit st.2.1 (Int.toNat n)).2.1) then (T2 ((True ∧ true = true) ∧ (T2 ((([(noteF (nth_Commit st.2.1 (Int.toNat n)) n)]) = (notesL st s n)) ∧ true = true)))) else (k5mj0he s st n))) else (True ∧ (k5mj0he s st n))))
def k1mj0he (n : Int) (st : GStore) (s : GSession) : Prop := (T3 (((6 : Nat) = 6 ∧ (0 : Int) ≤ n ∧ (n : Int) < ((List.length st.2.1 : Nat) : Int)) ∧ (T12 (bif (eqI (nth_Commit st.2.1 (Int.toNat n)).1 4) then (k2mj0he s st n) else (T2 (bif (eqI (nth_Commit st.2.1 (Int.toNat n)).1 5) then (k2mj0he s st n) else (T2 (bif (eqI (nth_Commit st.2.1 (Int.toNat n)).1 6) then (k2mj0he s st n) else (T2 (bif (eqI (nth_Commit st.2.1 (Int.toNat n)).1 1) then (T3 ((k0mj0he s st n) ∧ ∀ r0 : List GNote, r0 = addN ([] : List GNote) s (nth_Commit st.2.1 (Int.toNat n)) 3 (nth_Commit st.2.1 (Int.toNat n)).2.2.2.2.1 → (T2 ((r0 = (notesL st s n)) ∧ true = true)))) else (T2 (bif (eqI (nth_Commit st.2.1 (Int.toNat n)).1 2) then (T5 ((True ∧ true = true) ∧ ((k0mj0he s st n) ∧ ∀ r0 : List GNote, r0 = addN ([] : List GNote) s (nth_Commit st.2.1 (Int.toNat n)) 4 (bxAt st (nth_Commit st.2.1 (Int.toNat n)).2.1 n).1.1 → (T2 ((r0 = (notesL st s n)) ∧ true = true))))) else (T2 (bif (eqI (nth_Commit st.2.1 (Int.toNat n)).1 3) then (T5 ((True ∧ true = true) ∧ ((k0mj0he s st n) ∧ ∀ r0 : List GNote, r0 = addN ([] : List GNote) s (nth_Commit st.2.1 (Int.toNat n)) 4 (bxAt st (nth_Commit st.2.1 (Int.toNat n)).2.1 n).1.1 → (T3 (((List.length r0 ≤ 1048576 ∧ (((k3mj0he s)) ∧ ((k4mj0he st n)) ∧ (((r0 = r0) ∧ True)) ∧ True)) ∧ true = true) ∧ ∀ r1 : List GNote, r1 = addN r0 s (nth_Commit st.2.1 (Int.toNat n)) 3 (nth_Commit st.2.1 (Int.toNat n)).2.2.2.2.1 → (T2 ((r1 = (notesL st s n)) ∧ true = true))))))) else (T2 ((([] : List GNote) = (notesL st s n)) ∧ true = true))))))))))))))))
set_option maxRecDepth 100000 in
set_option maxHeartbeats 400000 in
theorem b_i_NotesFor (st : GStore) (s : GSession) (n : Int) : BCalls Tryz.prog 23 [.ag (cellsOf tyStore st), .ag (cellsOf tySession s), .c (.int .i64 n)] (.c (.row 0 0)) [.row tyNote (notesL st s n) 0 0 none] := by
  refine bcalls_of (T := ⟨[e_i_within, e_i_noteFor, e_i_NameAt], [], [], [e_i_NotesFor_1], none, fun _ => [], 0, [], []⟩) (L := L0) Tryz.func23 ⟨⟨rfl, rfl⟩, rfl⟩ (fun hwf => ?_)
  refine Eq.mpr (β := (T8 ((True ∧ true = true) ∧ (T2 (bif (!(btw n 0 (IntKind.wrap .i64 (((List.length st.2.1 : Nat) : Int) - 1)))) then (T4 ((notesL st s n = []) ∧ true = true)) else (T5 (bif (!s.1) then (T2 ((notesL st s n = []) ∧ true = true)) else (T4 (bif (neI s.2.1 2) then (T5 (bif (neI s.2.1 3) then (True ∧ ((notesL st s n = []) ∧ true = true)) else (k1mj0he n st s))) else (T2 (k1mj0he n st s))))))))))) (by kernel_rfl) ?_
  unfold k1mj0he k2mj0he k5mj0he k0mj0he k4mj0he k3mj0he T12 T2 T3 T4 T5 T6 T8
  have hm : List.length st.2.1 ≤ maxLen := hwf.1.2.1.1
  have hw : IntKind.wrap .i64 (((List.length st.2.1 : Nat) : Int) - 1) = ((List.length st.2.1 : Nat) : Int) - 1 := wrapA (by omega) (by unfold maxLen at hm; omega)
  simp only [hw]
  simp only [btw_iff, btw_not, flagsOk, Bool.not_true, Bool.not_false, SI2A, eq_self]
  repeat' (first | apply And.intro | intro _)
  all_goals first
    | trivial
    | omega
    | exact (nf_nil1 (by omega)).symm
    | exact nf_nil1 (by omega)
    | exact (nf_nil2 (by assumption)).symm
    | exact nf_nil2 (by assumption)
    | exact (nf_nil3 (by omega)).symm
    | exact nf_nil3 (by omega)
    | exact Nat.le_trans (Nat.add_le_add (namedL_len _ _ _ _) (namedL_len _ _ _ _)) (by unfold rowMax; omega)
    | (show List.length _ ≤ 1048576; exact Nat.zero_le _)
    | (subst_vars; show List.length (_ ++ _) ≤ 1048576; rw [List.length_append]; exact Nat.le_trans (Nat.add_le_add (Nat.le_refl 0) (namedL_len _ _ _ _)) (by decide))
    | (rw [nf_go (st := st) (s := s) (n := n) (by omega) (by assumption) (by omega)]
       try subst_vars
       try unfold addN
       first
         | (rw [if_pos (by omega), if_pos (by omega)]; first | done | rfl)
         | (rw [if_pos (by omega), if_neg (by omega)]; first | done | exact List.nil_append _)
         | (rw [if_neg (by omega), if_pos (by omega)]; first | done | (rw [ev8 (by omega)]; exact List.nil_append _))
         | (rw [if_neg (by omega), if_neg (by omega), if_pos (by omega)]; first | done | (rw [ev8 (by omega)]; exact List.nil_append _))
         | (rw [if_neg (by omega), if_neg (by omega), if_neg (by omega), if_pos (by omega)]; first | done | (rw [ev8 (by omega), List.nil_append]; done))
         | (rw [if_neg (by omega), if_neg (by omega), if_neg (by omega), if_neg (by omega)]; done))
    | trivial
    | omega
    | contradiction
    | exact ⟨rfl, rfl⟩
    | (show _ + 1 ≤ rowMax; unfold rowMax; omega)
    | (simp only [notesL, *, eq_self, if_true, if_false, and_true, true_and, and_self, not_true, not_false, false_and, and_false, or_true, true_or, or_false, false_or, or_self, Bool.false_eq_true, reduceCtorEq, reduceIte, Int.reduceEq, not_false_eq_true, not_true_eq_false, ite_true, ite_false, Bool.and_true, Bool.true_and, Bool.and_false, Bool.false_and, Bool.or_true, Bool.true_or, Bool.or_false, Bool.false_or, Bool.not_true, Bool.not_false]; done)
    | (simp_all [notesL, eqI, neI, geI, eqS]; done)
def e_i_NotesFor : Entry Tryz.prog := ⟨23, [.s tyStore, .s tySession, .v tyInt], fun x => True, fun x => .c (.row 0 0), fun x => [.row tyNote (notesL x.1 x.2.1 x.2.2.1) 0 0 none], fun x hx => b_i_NotesFor x.1 x.2.1 x.2.2.1, Tryz.call23⟩
def k2w5pn4 (s : GSession) (st : GStore) (n : Int) : Prop := ((true = true ∧ true = true) ∧ (T8 ((True ∧ true = true) ∧ ((True ∧ true = true) ∧ ((True ∧ true = true) ∧ (True ∧ (((namedL s.2.2.2.2.2.1 2 (bxAt st (nth_Commit st.2.1 (Int.toNat n)).2.1 (IntKind.wrap .i64 (n + 1))).1.1 (evOf (nth_Commit st.2.1 (Int.toNat n)))) = (notesL st s n)) ∧ true = true)))))))
def k0w5pn4 (s : GSession) (st : GStore) (n : Int) : Prop := (T4 (bif (eqI s.2.1 3) then (T6 (bif (eqI s.2.2.1 (nth_Commit st.2.1 (Int.toNat n)).2.1) then (T2 ((True ∧ true = true) ∧ (T3 ((([(1, (n, (uidF (nth_Commit st.2.1 (Int.toNat n)), (⟨#[]⟩ : ByteArray))))]) = (notesL st s n)) ∧ true = true)))) else (k2w5pn4 s st n))) else (True ∧ (k2w5pn4 s st n))))
def k3w5pn4 (st : GStore) (s : GSession) (n : Int) : Prop := (T2 ((([] : List GNote) = (notesL st s n)) ∧ true = true))
def k1w5pn4 (n : Int) (st : GStore) (s : GSession) : Prop := (T3 (((6 : Nat) = 6 ∧ (0 : Int) ≤ n ∧ (n : Int) < ((List.length st.2.1 : Nat) : Int)) ∧ (T7 (bif (eqI (nth_Commit st.2.1 (Int.toNat n)).1 1) then (T4 ((True ∧ true = true) ∧ (True ∧ (((namedL s.2.2.2.2.2.1 3 (nth_Commit st.2.1 (Int.toNat n)).2.2.2.2.1 8) = (notesL st s n)) ∧ true = true)))) else (T2 (bif (eqI (nth_Commit st.2.1 (Int.toNat n)).1 2) then ((true = true ∧ true = true) ∧ (T6 ((True ∧ true = true) ∧ ((True ∧ true = true) ∧ (True ∧ (((namedL s.2.2.2.2.2.1 4 (bxAt st (nth_Commit st.2.1 (Int.toNat n)).2.1 n).1.1 8) = (notesL st s n)) ∧ true = true)))))) else (T2 (bif (eqI (nth_Commit st.2.1 (Int.toNat n)).1 3) then ((true = true ∧ true = true) ∧ (T6 ((True ∧ true = true) ∧ ((True ∧ true = true) ∧ (T6 ((True ∧ true = true) ∧ ((True ∧ List.length (namedL s.2.2.2.2.2.1 4 (bxAt st (nth_Commit st.2.1 (Int.toNat n)).2.1 n).1.1 8) + List.length (namedL s.2.2.2.2.2.1 3 (nth_Commit st.2.1 (Int.toNat n)).2.2.2.2.1 8) ≤ rowMax) ∧ (True ∧ (((namedL s.2.2.2.2.2.1 4 (bxAt st (nth_Commit st.2.1 (Int.toNat n)).2.1 n).1.1 8 ++ namedL s.2.2.2.2.2.1 3 (nth_Commit st.2.1 (Int.toNat n)).2.2.2.2.1 8) = (notesL st s n)) ∧ true = true))))))))) else (T2 (bif (eqI (nth_Commit st.2.1 (Int.toNat n)).1 4) then (k0w5pn4 s st n) else (T2 (bif (eqI (nth_Commit st.2.1 (Int.toNat n)).1 5) then (k0w5pn4 s st n) else (T2 (bif (eqI (nth_Commit st.2.1 (Int.toNat n)).1 6) then (k0w5pn4 s st n) else (k3w5pn4 st s n)))))))))))))))
set_option maxRecDepth 100000 in
set_option maxHeartbeats 400000 in
theorem b_s_NotesFor (st : GStore) (s : GSession) (n : Int) : BCalls Tryz.prog 22 [.ag (cellsOf tyStore st), .ag (cellsOf tySession s), .c (.int .i64 n)] (.c (.row 0 0)) [.row tyNote (notesL st s n) 0 0 none] := by
  refine bcalls_of (T := ⟨[e_s_l1In, e_s_l21Named, e_s_NameAt, e_s_l20Uid, e_s_EventOf], [], [], [], none, fun _ => [], 0, [], []⟩) (L := L0) Tryz.func22 ⟨⟨rfl, rfl⟩, rfl⟩ (fun hwf => ?_)
  refine Eq.mpr (β := (T8 ((True ∧ true = true) ∧ (T2 (bif (!(btw n 0 (IntKind.wrap .i64 (((List.length st.2.1 : Nat) : Int) - 1)))) then (T3 (k3w5pn4 st s n)) else (T5 (bif (!s.1) then (True ∧ (k3w5pn4 st s n)) else (T4 (bif (neI s.2.1 2) then (T5 (bif (neI s.2.1 3) then (k3w5pn4 st s n) else (k1w5pn4 n st s))) else (T2 (k1w5pn4 n st s))))))))))) (by kernel_rfl) ?_
  unfold k1w5pn4 k3w5pn4 k0w5pn4 k2w5pn4 T2 T3 T4 T5 T6 T7 T8
  have hm : List.length st.2.1 ≤ maxLen := hwf.1.2.1.1
  have hw : IntKind.wrap .i64 (((List.length st.2.1 : Nat) : Int) - 1) = ((List.length st.2.1 : Nat) : Int) - 1 := wrapA (by omega) (by unfold maxLen at hm; omega)
  simp only [hw]
  simp only [btw_iff, btw_not, flagsOk, Bool.not_true, Bool.not_false, SI2A, eq_self]
  repeat' (first | apply And.intro | intro _)
  all_goals first
    | trivial
    | omega
    | exact (nf_nil1 (by omega)).symm
    | exact nf_nil1 (by omega)
    | exact (nf_nil2 (by assumption)).symm
    | exact nf_nil2 (by assumption)
    | exact (nf_nil3 (by omega)).symm
    | exact nf_nil3 (by omega)
    | exact Nat.le_trans (Nat.add_le_add (namedL_len _ _ _ _) (namedL_len _ _ _ _)) (by unfold rowMax; omega)
    | (show List.length _ ≤ 1048576; exact Nat.zero_le _)
    | (subst_vars; show List.length (_ ++ _) ≤ 1048576; rw [List.length_append]; exact Nat.le_trans (Nat.add_le_add (Nat.le_refl 0) (namedL_len _ _ _ _)) (by decide))
    | (rw [nf_go (st := st) (s := s) (n := n) (by omega) (by assumption) (by omega)]
       try subst_vars
       try unfold addN
       first
         | (rw [if_pos (by omega), if_pos (by omega)]; first | done | rfl)
         | (rw [if_pos (by omega), if_neg (by omega)]; first | done | exact List.nil_append _)
         | (rw [if_neg (by omega), if_pos (by omega)]; first | done | (rw [ev8 (by omega)]; exact List.nil_append _))
         | (rw [if_neg (by omega), if_neg (by omega), if_pos (by omega)]; first | done | (rw [ev8 (by omega)]; exact List.nil_append _))
         | (rw [if_neg (by omega), if_neg (by omega), if_neg (by omega), if_pos (by omega)]; first | done | (rw [ev8 (by omega), List.nil_append]; done))
         | (rw [if_neg (by omega), if_neg (by omega), if_neg (by omega), if_neg (by omega)]; done))
    | trivial
    | omega
    | contradiction
    | exact ⟨rfl, rfl⟩
    | (show _ + 1 ≤ rowMax; unfold rowMax; omega)
    | (simp only [notesL, *, eq_self, if_true, if_false, and_true, true_and, and_self, not_true, not_false, false_and, and_false, or_true, true_or, or_false, false_or, or_self, Bool.false_eq_true, reduceCtorEq, reduceIte, Int.reduceEq, not_false_eq_true, not_true_eq_false, ite_true, ite_false, Bool.and_true, Bool.true_and, Bool.and_false, Bool.false_and, Bool.or_true, Bool.true_or, Bool.or_false, Bool.false_or, Bool.not_true, Bool.not_false]; done)
    | (simp_all [notesL, eqI, neI, geI, eqS]; done)
def e_s_NotesFor : Entry Tryz.prog := ⟨22, [.s tyStore, .s tySession, .v tyInt], fun x => True, fun x => .c (.row 0 0), fun x => [.row tyNote (notesL x.1 x.2.1 x.2.2.1) 0 0 none], fun x hx => b_s_NotesFor x.1 x.2.1 x.2.2.1, Tryz.call22⟩
end Go.Proofs.YtigebfhekmjhmaaGreat
