/-
  The laws' functions szX.
  No condition but what the arguments' cells hold. Printed by vcgen.py.
-/
import Derived.Test.YtbpapaponnfagaaMLawA
set_option linter.unusedSimpArgs false
set_option linter.unusedVariables false
set_option maxRecDepth 100000
set_option maxHeartbeats 4000000
namespace Go.Proofs.Ytbpapaponnfagaa
open Go.ChangeShapes Go.WideShapes Go.ChangeAt Go.RowKit Go.Joins Go.Deep
open GoRep (rep bulk)

theorem b_l_szToken (a : GToken) (left : Int) (hpre : szP left) : BCalls Try.prog 28 [.ag [.int .i64 a.1, .str a.2], .c (.int .i64 left)] (.c (.int .i64 (szT left (bulk a)))) [] := by
  refine bc0 [] [] [] [] L0 Try.func28 (fun hwf => ?_)
  refine Eq.mpr (β := (True ∧ (True ∧ (True ∧ (True ∧ (True ∧ (True ∧ (True ∧ (True ∧ (True ∧ (True ∧ (bif (ltI (IntKind.wrap .i64 (left - ((ByteArray.size a.2 : Nat) : Int))) 0) then (True ∧ (rI (-1) (szT left (bulk a)))) else (True ∧ (True ∧ (rI (IntKind.wrap .i64 (left - ((ByteArray.size a.2 : Nat) : Int))) (szT left (bulk a))))))))))))))))) (by kernel_rfl) ?_
  obtain ⟨hp0, hp1⟩ := hpre
  have H0 := szT_cases left (bulk a)
  have hb : bulk a = ByteArray.size a.2 := by
    have e : bulk a = 0 + (ByteArray.size a.2) := rfl
    omega
  have m1 : ByteArray.size a.2 ≤ maxLen := hwf.1.2.1
  have w1 := wrapD (left - ((ByteArray.size a.2 : Nat) : Int))
  try unfold maxLen at *
  simp only [SIA, eq_self]
  repeat' (first | apply And.intro | intro _)
  all_goals (first | trivial | omega)
def e_l_szToken : Entry Try.prog := ⟨28, [.s tyToken, .v tyInt], fun x => szP x.2.1, fun x => .c (.int .i64 (szT x.2.1 (bulk x.1))), fun _ => [], fun x hx => b_l_szToken x.1 x.2.1 hx, Try.call28⟩
def L_l_szTokenS (a : List GToken) (left : Int) : Nat → List AV → Mem → LoopA
  | 5, tm, M => ⟨Nat, fun y => (anyR (setA tm [(1, .c (.int .i64 (left - ((List.length a : Nat) : Int) - ((bulkL (List.take y a) : Nat) : Int)))), (4, .any), (5, .c (.int .i64 ((y : Nat) : Int)))]) 12 14, M), fun y => (y ≤ List.length a ∧ ((List.length a : Nat) : Int) + ((bulkL (List.take y a) : Nat) : Int) ≤ left), fun y => (List.length a - y)⟩
  | _, _, _ => ⟨Unit, fun _ => ([], []), fun _ => False, fun _ => 0⟩
theorem b_l_szTokenS (a : List GToken) (left : Int) (hpre : szP left) : BCalls Try.prog 6 [.c (.hs .no tyToken a), .c (.int .i64 left)] (.c (.int .i64 (szT left (bulk a)))) [] := by
  refine bc0 [e_l_szToken] [] [] [] (L_l_szTokenS a left) Try.func6 (fun hwf => ?_)
  refine Eq.mpr (β := (T8 (bif (ltI (IntKind.wrap .i64 (left - ((List.length a : Nat) : Int))) 0) then (True ∧ (rI (-1) (szT left (bulk a)))) else (True ∧ ((∃ q : Nat, (q ≤ List.length a ∧ ((List.length a : Nat) : Int) + ((bulkL (List.take q a) : Nat) : Int) ≤ left) ∧ ((lxs [.c (.hs .no tyToken a)] (leV (.c (.int .i64 (IntKind.wrap .i64 (left - ((List.length a : Nat) : Int))))) (.c (.int .i64 (left - ((List.length a : Nat) : Int) - ((bulkL (List.take q a) : Nat) : Int)))) ∧ lxs [.tp [], .tp []] (True ∧ leV (.c (.int .i64 0)) (.c (.int .i64 ((q : Nat) : Int))) ∧ lxs [.c (.int .i64 left), .c (.hs .no tyToken a), .c (.int .i64 ((List.length a : Nat) : Int)), .c (.int .i64 (IntKind.wrap .i64 (left - ((List.length a : Nat) : Int)))), .c (.int .i64 (IntKind.wrap .i64 (left - ((List.length a : Nat) : Int)))), .c (.bool false)] (TN 14 (lxs [.tp []] True))))) ∧ (True) ∧ true = true)) ∧ ∀ y0 : Nat, (y0 ≤ List.length a ∧ ((List.length a : Nat) : Int) + ((bulkL (List.take y0 a) : Nat) : Int) ≤ left) → (T4 (bif (ltI ((y0 : Nat) : Int) ((List.length a : Nat) : Int)) then (T2 (((2 : Nat) = 2 ∧ (0 : Int) ≤ ((y0 : Nat) : Int) ∧ (((y0 : Nat) : Int) : Int) < ((List.length a : Nat) : Int)) ∧ (T2 ((szP (left - ((List.length a : Nat) : Int) - ((bulkL (List.take y0 a) : Nat) : Int)) ∧ true = true) ∧ (T3 (bif (ltI (szT (left - ((List.length a : Nat) : Int) - ((bulkL (List.take y0 a) : Nat) : Int)) (bulk (nth_Token a (Int.toNat ((y0 : Nat) : Int))))) 0) then (True ∧ (rI (-1) (szT left (bulk a)))) else (T3 (∃ y0' : Nat, (y0' ≤ List.length a ∧ ((List.length a : Nat) : Int) + ((bulkL (List.take y0' a) : Nat) : Int) ≤ left) ∧ (List.length a - y0') < (List.length a - y0) ∧ ((lxs [.c (.hs .no tyToken a)] (leV (.c (.int .i64 (szT (left - ((List.length a : Nat) : Int) - ((bulkL (List.take y0 a) : Nat) : Int)) (bulk (nth_Token a (Int.toNat ((y0 : Nat) : Int))))))) (.c (.int .i64 (left - ((List.length a : Nat) : Int) - ((bulkL (List.take y0' a) : Nat) : Int)))) ∧ lxs [.tp [], .tp []] (True ∧ leV (.c (.int .i64 (IntKind.wrap .i64 (((y0 : Nat) : Int) + 1)))) (.c (.int .i64 ((y0' : Nat) : Int))) ∧ lxs [.c (.int .i64 left), .c (.hs .no tyToken a), .c (.int .i64 ((List.length a : Nat) : Int)), .c (.int .i64 (IntKind.wrap .i64 (left - ((List.length a : Nat) : Int)))), .c (.int .i64 (IntKind.wrap .i64 (left - ((List.length a : Nat) : Int)))), .c (.bool false)] (TN 14 (lxs [.tp []] True))))) ∧ (True) ∧ true = true))))))))) else (T2 (rI (left - ((List.length a : Nat) : Int) - ((bulkL (List.take y0 a) : Nat) : Int)) (szT left (bulk a))))))))))) (by kernel_rfl) ?_
  unfold T2 T3 T4 T8
  obtain ⟨hp0, hp1⟩ := hpre
  have hm : a.length ≤ maxLen := hwf.1.1
  have H0 := szT_cases left (bulk a)
  have hb : bulk a = a.length + bulkL a := rfl
  have w0 := wrapD (left - ((List.length a : Nat) : Int))
  unfold maxLen at hm
  have z0 : bulkL (List.take 0 a) = 0 := rfl
  have z1 : bulkL (List.take a.length a) = bulkL a := by rw [List.take_length]
  simp only [SIA, eq_self]
  refine ⟨fun h => by omega, fun h => ⟨⟨0, ⟨Nat.zero_le _, by omega⟩, ?_⟩, fun k hk => ⟨fun hlt => ?_, fun hge => ?_⟩⟩⟩
  · first | (refine ⟨?_, ?_⟩ <;> omega) | omega
  · have hlt : k < a.length := by omega
    have hk := nth_getElem? (t := tyToken) hlt
    have s1 : bulkL (List.take (k + 1) a) = bulkL (List.take k a) + bulk (nth_Token a k) := bulkL_snoc hk
    have s2 : bulkL (List.take (k + 1) a) ≤ bulkL a := bulkL_le a (k + 1)
    have k1 := wrapN (k := k) (by unfold maxLen; omega)
    have w1 := szT_cases (left - ((List.length a : Nat) : Int) - ((bulkL (List.take k a) : Nat) : Int)) (bulk (nth_Token a k))
    (try unfold maxLen at *)
    repeat' (first | apply And.intro | intro _)
    all_goals (first | trivial | omega | (refine ⟨k + 1, ⟨by omega, by omega⟩, by omega, ?_⟩; first | (refine ⟨?_, ?_⟩ <;> omega) | omega))
  · obtain rfl : k = a.length := by omega
    omega
def e_l_szTokenS : Entry Try.prog := ⟨6, [.v (.list tyToken), .v tyInt], fun x => szP x.2.1, fun x => .c (.int .i64 (szT x.2.1 (bulk x.1))), fun _ => [], fun x hx => b_l_szTokenS x.1 x.2.1 hx, Try.call6⟩
end Go.Proofs.Ytbpapaponnfagaa
