/-
  The law on filters.
  No condition but what the arguments' cells hold. Printed by vcgen.py.
-/
import Derived.Test.YtoigkpkafgjeaaaABlFil
import Derived.Test.YtoigkpkafgjeaaaABlFL
set_option linter.unusedSimpArgs false
set_option linter.unusedVariables false
set_option maxRecDepth 100000
set_option maxHeartbeats 4000000
namespace Go.Proofs.Ytoigkpkafgjeaaa
open Go.ChangeShapes Go.WideShapes Go.ChangeAt Go.RowKit Go.Joins Go.Deep
open GoRep (rep bulk)

theorem b_l_big (code : List Int) : BCalls Try.prog 5 [.c (.hs .no (.int .u8) code)] (.c (.bool (gtI ((List.length code : Nat) : Int) 1048576))) [] := by
  refine bc0 [] [] [] [] L0 Try.func5 (fun hwf => ?_)
  refine Eq.mpr (β := (True ∧ (True ∧ (True ∧ (True ∧ (True ∧ (rB (gtI ((List.length code : Nat) : Int) 1048576) (gtI ((List.length code : Nat) : Int) 1048576)))))))) (by kernel_rfl) ?_
  simp only [SI2A, eq_self]
  repeat' (with_reducible first | exact trivial | apply And.intro | intro _)
  all_goals first
    | (with_reducible trivial)
    | omega
    | (with_reducible assumption)
def e_l_big : Entry Try.prog := ⟨5, [.v (.list (.int .u8))], fun x => True, fun x => .c (.bool (gtI ((List.length x.1 : Nat) : Int) 1048576)), fun _ => [], fun x hx => b_l_big x.1, Try.call5⟩
def L_l_sameTokens (a : List GToken) (b : List GToken) : Nat → List AV → Mem → LoopA
  | 4, tm, M => ⟨Nat, fun y => (anyR (setA tm [(4, .any), (5, .c (.int .i64 ((y : Nat) : Int)))]) 11 15, M), fun y => (y ≤ List.length a ∧ ∀ j, j < y → nth_Token a j = nth_Token b j), fun y => (List.length a - y)⟩
  | _, _, _ => ⟨Unit, fun _ => ([], []), fun _ => False, fun _ => 0⟩
theorem b_l_sameTokens (a : List GToken) (b : List GToken) : BCalls Try.prog 16 [.c (.hs .no tyToken a), .c (.hs .no tyToken b)] (.c (.bool (eqT_LToken a b))) [] := by
  refine bc0 [] [] [] [] (L_l_sameTokens a b) Try.func16 (fun hwf => ?_)
  refine Eq.mpr (β := (T6 (bif (neI ((List.length a : Nat) : Int) ((List.length b : Nat) : Int)) then (True ∧ (rB false (eqT_LToken a b))) else (True ∧ ((∃ q : Nat, (q ≤ List.length a ∧ ∀ j, j < q → nth_Token a j = nth_Token b j) ∧ ((lxs [.c (.hs .no tyToken a), .c (.hs .no tyToken b), .tp [], .tp []] (True ∧ leV (.c (.int .i64 0)) (.c (.int .i64 ((q : Nat) : Int))) ∧ lxs [.c (.hs .no tyToken a), .c (.int .i64 ((List.length a : Nat) : Int)), .c (.hs .no tyToken b), .c (.int .i64 ((List.length b : Nat) : Int)), .c (.bool false)] (TN 15 True))) ∧ (True) ∧ true = true)) ∧ ∀ y0 : Nat, (y0 ≤ List.length a ∧ ∀ j, j < y0 → nth_Token a j = nth_Token b j) → (T4 (bif (ltI ((y0 : Nat) : Int) ((List.length a : Nat) : Int)) then ((true = true ∧ true = true) ∧ (T2 (((2 : Nat) = 2 ∧ (0 : Int) ≤ ((y0 : Nat) : Int) ∧ (((y0 : Nat) : Int) : Int) < ((List.length a : Nat) : Int)) ∧ (T3 (((2 : Nat) = 2 ∧ (0 : Int) ≤ ((y0 : Nat) : Int) ∧ (((y0 : Nat) : Int) : Int) < ((List.length b : Nat) : Int)) ∧ (True ∧ (true = true ∧ (bif (!(eqC_Token (nth_Token a (Int.toNat ((y0 : Nat) : Int))) (nth_Token b (Int.toNat ((y0 : Nat) : Int))))) then (True ∧ (rB false (eqT_LToken a b))) else (T3 (∃ y0' : Nat, (y0' ≤ List.length a ∧ ∀ j, j < y0' → nth_Token a j = nth_Token b j) ∧ (List.length a - y0') < (List.length a - y0) ∧ ((lxs [.c (.hs .no tyToken a), .c (.hs .no tyToken b), .tp [], .tp []] (True ∧ leV (.c (.int .i64 (IntKind.wrap .i64 (((y0 : Nat) : Int) + 1)))) (.c (.int .i64 ((y0' : Nat) : Int))) ∧ lxs [.c (.hs .no tyToken a), .c (.int .i64 ((List.length a : Nat) : Int)), .c (.hs .no tyToken b), .c (.int .i64 ((List.length b : Nat) : Int)), .c (.bool false)] (TN 15 True))) ∧ (True) ∧ true = true))))))))))) else (True ∧ (rB true (eqT_LToken a b)))))))))) (by kernel_rfl) ?_
  unfold T2 T3 T4 T6
  simp only [SIA, eq_self]
  have hm : List.length a ≤ maxLen := hwf.1.1
  refine ⟨fun hl => ?_, fun hl => ⟨⟨0, ⟨Nat.zero_le _, allN_zero⟩, rfl⟩, fun k hk => ⟨fun hlt => ⟨by omega, by omega, fun hp => ?_, fun hp => ?_⟩, fun hge => ?_⟩⟩⟩
  · exact (eqT_LToken_false.2 (fun e => hl (by rw [e]))).symm
  · exact (eqT_LToken_false.2 (fun e => eqC_Token_false.1 hp (by rw [e]))).symm
  · exact ⟨k + 1, ⟨by omega, allN_step hk.2 (eqC_Token_true.1 hp)⟩, by omega, wrapN (by omega)⟩
  · obtain rfl : k = List.length a := by omega
    have hl' : List.length a = List.length b := by omega
    exact (eqT_LToken_true.2 (eq_of_nth (t := tyToken) hl' hk.2)).symm
def e_l_sameTokens : Entry Try.prog := ⟨16, [.v (.list tyToken), .v (.list tyToken)], fun x => True, fun x => .c (.bool (eqT_LToken x.1 x.2.1)), fun _ => [], fun x hx => b_l_sameTokens x.1 x.2.1, Try.call16⟩
def k0b5s7b (code : List Int) : Prop := (T2 ((True ∧ true = true ∧ true = true) ∧ ((True ∧ true = true ∧ true = true) ∧ (True ∧ (bif eqT_LToken (filTok (drawFT code)) (filTok (drawFT code)) then (T2 ((True ∧ true = true ∧ true = true) ∧ (some TypeDesc.bool = some TypeDesc.bool ∧ (T2 (bif (eqO (rdB (filTok (drawFT code))) (filterOk (drawFT code))) then (T3 (bif (!(rdB (filTok (drawFT code)))) then (T3 (rB true true)) else (T2 ((True ∧ true = true ∧ true = true) ∧ (True ∧ (bif eqT_Filter (drawFT code) (rdI (filTok (drawFT code))) then (T2 ((True ∧ true = true ∧ true = true) ∧ (T4 (rB (eqT_Filter (drawFT code) (rdI (filTok (drawFT code)))) true)))) else (T4 (rB false true)))))))) else (T2 (rB false true))))))) else (T4 (rB false true)))))))
theorem b_l_FnFilter (code : List Int) : BCalls Try.prog 4 [.c (.hs .no (.int .u8) code)] (.c (.bool true)) [] := by
  refine bc0 [e_l_big, e_s_DrawFilterTokens, e_i_FilterTokens, e_i_ReadFilter, e_s_DrawReadFilter, e_s_ReadFilter, e_s_FilterOk, e_s_FilterTokens, e_l_sameTokens, e_s_SameFilter, e_i_SameFilter] [] [] [] L0 Try.func4 (fun hwf => ?_)
  refine Eq.mpr (β := (T2 ((True ∧ true = true) ∧ (bif gtI ((List.length code : Nat) : Int) 1048576 then (True ∧ (rB true true)) else (True ∧ ((True ∧ true = true) ∧ (T3 ((True ∧ true = true ∧ true = true) ∧ (T2 ((List.length (filTok (drawFT code)) ≤ 1048576 ∧ true = true ∧ true = true) ∧ (T7 ((True ∧ true = true) ∧ (T2 ((List.length (drawRF code) ≤ 1048576 ∧ true = true ∧ true = true) ∧ (T7 ((List.length (drawRF code) ≤ 1048576 ∧ true = true ∧ true = true) ∧ (T8 (some TypeDesc.bool = some TypeDesc.bool ∧ (True ∧ (bif (!eqO (rdB (drawRF code)) (ok6B (drawRF code))) then (T2 (rB false true)) else (T2 (bif (rdB (drawRF code)) then (True ∧ ((True ∧ true = true ∧ true = true) ∧ (T3 (bif (!(filterOk (rdI (drawRF code)))) then (True ∧ (rB false true)) else (k0b5s7b code))))) else (T2 (k0b5s7b code)))))))))))))))))))))))) (by kernel_rfl) ?_
  unfold k0b5s7b T2 T3 T4 T7 T8
  have hl := drawRF_len code
  have hf := filTok_len (drawFT code)
  obtain ⟨h3, h4⟩ := rd_tok (drawFT code)
  obtain ⟨h1, h2⟩ := rd_same (l := drawRF code) (by omega)
  have h5 := rd_right (l := drawRF code)
  have e1 : ∀ l : List GToken, eqT_LToken l l = true := fun l => eqT_LToken_true.2 rfl
  have e2 : ∀ f : GFilter, eqT_Filter f f = true := fun f => eqT_Filter_true.2 rfl
  rw [← h2]
  generalize drawFT code = f at *
  generalize drawRF code = t at *
  generalize rdB t = b at *
  generalize rdI t = h at *
  rw [h3]
  simp only [SI2A, eq_self]
  repeat' (with_reducible first | exact trivial | apply And.intro | intro _)
  all_goals first
    | (with_reducible trivial)
    | omega
    | (with_reducible assumption)
    | exact e1 _
    | exact e2 _
    | (rw [h4 (by assumption)]; exact e2 _)
    | exact h5 (by assumption)
    | (exfalso; contradiction)
    | (exfalso; have q := (by with_reducible assumption : eqT_Filter f (rdI (filTok f)) = false); rw [h4 (by assumption), e2] at q; cases q)
    | (clear h1 h2 hwf hf hl; simp_all; done)
end Go.Proofs.Ytoigkpkafgjeaaa
