/-
  Several texts in one.
-/
import Derived.Test.YtoigkpkafgjeaaaGreatDoorOBlOutD
import Derived.Test.YtoigkpkafgjeaaaGreatDoorOBlFits
set_option linter.unusedSimpArgs false
set_option linter.unusedVariables false
set_option maxRecDepth 100000
set_option maxHeartbeats 4000000
namespace Go.Proofs.YtoigkpkafgjeaaaGreatDoor
open Go.ChangeShapes Go.WideShapes Go.ChangeAt Go.RowKit Go.Joins Go.Deep
open GoRep (rep bulk)

def drC (o : GOut) (n : Int) : Int := if outOk o = true ∧ 0 ≤ n then min n (min (o.1.size : Int) (20000 - (o.2.size : Int))) else 0
def drO (o : GOut) (n : Int) : GOut := if outOk o = true ∧ 0 ≤ n then (o.1.extract (drC o n).toNat o.1.size, o.2 ++ o.1.extract 0 (drC o n).toNat) else o
theorem wA {x : Int} (h0 : -9223372036854775808 ≤ x) (h1 : x ≤ 9223372036854775807) : IntKind.wrap .i64 x = x := IntWalk.i64_in _ (by omega)
theorem ifmin {a b : Int} : (if b < a then b else a) = min a b := by omega
theorem extAll (s : ByteArray) : ByteArray.extract s 0 s.size = s := by
  apply ByteArray.ext
  rw [ByteArray.data_extract]
  exact Array.extract_size
theorem extNil (a b : ByteArray) : a ++ ByteArray.extract b 0 0 = a := by
  apply ByteArray.ext
  rw [ByteArray.data_append, ByteArray.data_extract]
  simp
theorem outOk_iff {o : GOut} : outOk o = true ↔ o.1.size ≤ 1200 ∧ o.2.size ≤ 20000 := by
  unfold outOk
  rw [Bool.and_eq_true, leI_true, leI_true]
  omega
theorem i64W {x : Int} (h : (Lit.int .i64 x).wf = true) : -9223372036854775808 ≤ x ∧ x ≤ 9223372036854775807 := by
  rw [lit_wf] at h
  have hmm : IntKind.i64.min = -9223372036854775808 ∧ IntKind.i64.max = 9223372036854775807 := by decide
  omega
def k0v88q5 (o : GOut) (n : Int) : Prop := (T3 ((((((true = true ∧ leC (.str o.1) (.str (drO o n).1)) ∧ (true = true ∧ leC (.str o.2) (.str (drO o n).2)) ∧ True)) ∧ (true = true ∧ leC (.int .i64 0) (.int .i64 (drC o n))) ∧ True)) ∧ true = true))
theorem b_i_Drained (o : GOut) (n : Int) : BCalls Tryz.prog 10 [.ag [.str o.1, .str o.2], .c (.int .i64 n)] (.tp [.ag [.str (drO o n).1, .str (drO o n).2], .c (.int .i64 (drC o n))]) [] := by
  refine bc0 [e_i_OutOk] [] [] [] L0 Tryz.func10 (fun hwf => ?_)
  refine Eq.mpr (β := (T4 ((True ∧ true = true) ∧ (T2 (bif (!(outOk o)) then (True ∧ (k0v88q5 o n)) else (T3 (bif (ltI n 0) then (k0v88q5 o n) else (T8 ((IntKind.i64 = IntKind.i64 ∧ IntKind.i64 = IntKind.i64) ∧ (True ∧ ((true = true ∧ true = true) ∧ (T3 (((0 : Int) ≤ (if ((IntKind.wrap .i64 (20000 - ((ByteArray.size o.2 : Nat) : Int))) : Int) < (if (((ByteArray.size o.1 : Nat) : Int) : Int) < n then ((ByteArray.size o.1 : Nat) : Int) else n) then (IntKind.wrap .i64 (20000 - ((ByteArray.size o.2 : Nat) : Int))) else (if (((ByteArray.size o.1 : Nat) : Int) : Int) < n then ((ByteArray.size o.1 : Nat) : Int) else n)) ∧ ((if ((IntKind.wrap .i64 (20000 - ((ByteArray.size o.2 : Nat) : Int))) : Int) < (if (((ByteArray.size o.1 : Nat) : Int) : Int) < n then ((ByteArray.size o.1 : Nat) : Int) else n) then (IntKind.wrap .i64 (20000 - ((ByteArray.size o.2 : Nat) : Int))) else (if (((ByteArray.size o.1 : Nat) : Int) : Int) < n then ((ByteArray.size o.1 : Nat) : Int) else n)) : Int) ≤ ((ByteArray.size o.1 : Nat) : Int) ∧ (((ByteArray.size o.1 : Nat) : Int) : Int) ≤ ((ByteArray.size o.1 : Nat) : Int)) ∧ (T5 (((0 : Int) ≤ 0 ∧ (0 : Int) ≤ (if ((IntKind.wrap .i64 (20000 - ((ByteArray.size o.2 : Nat) : Int))) : Int) < (if (((ByteArray.size o.1 : Nat) : Int) : Int) < n then ((ByteArray.size o.1 : Nat) : Int) else n) then (IntKind.wrap .i64 (20000 - ((ByteArray.size o.2 : Nat) : Int))) else (if (((ByteArray.size o.1 : Nat) : Int) : Int) < n then ((ByteArray.size o.1 : Nat) : Int) else n)) ∧ ((if ((IntKind.wrap .i64 (20000 - ((ByteArray.size o.2 : Nat) : Int))) : Int) < (if (((ByteArray.size o.1 : Nat) : Int) : Int) < n then ((ByteArray.size o.1 : Nat) : Int) else n) then (IntKind.wrap .i64 (20000 - ((ByteArray.size o.2 : Nat) : Int))) else (if (((ByteArray.size o.1 : Nat) : Int) : Int) < n then ((ByteArray.size o.1 : Nat) : Int) else n)) : Int) ≤ ((ByteArray.size o.1 : Nat) : Int)) ∧ (ByteArray.size o.2 + ByteArray.size (ByteArray.extract o.1 (Int.toNat 0) (Int.toNat (if ((IntKind.wrap .i64 (20000 - ((ByteArray.size o.2 : Nat) : Int))) : Int) < (if (((ByteArray.size o.1 : Nat) : Int) : Int) < n then ((ByteArray.size o.1 : Nat) : Int) else n) then (IntKind.wrap .i64 (20000 - ((ByteArray.size o.2 : Nat) : Int))) else (if (((ByteArray.size o.1 : Nat) : Int) : Int) < n then ((ByteArray.size o.1 : Nat) : Int) else n)))) ≤ maxLen ∧ (T4 ((((((true = true ∧ leC (.str (ByteArray.extract o.1 (Int.toNat (if ((IntKind.wrap .i64 (20000 - ((ByteArray.size o.2 : Nat) : Int))) : Int) < (if (((ByteArray.size o.1 : Nat) : Int) : Int) < n then ((ByteArray.size o.1 : Nat) : Int) else n) then (IntKind.wrap .i64 (20000 - ((ByteArray.size o.2 : Nat) : Int))) else (if (((ByteArray.size o.1 : Nat) : Int) : Int) < n then ((ByteArray.size o.1 : Nat) : Int) else n))) (Int.toNat ((ByteArray.size o.1 : Nat) : Int)))) (.str (drO o n).1)) ∧ (true = true ∧ leC (.str (o.2 ++ (ByteArray.extract o.1 (Int.toNat 0) (Int.toNat (if ((IntKind.wrap .i64 (20000 - ((ByteArray.size o.2 : Nat) : Int))) : Int) < (if (((ByteArray.size o.1 : Nat) : Int) : Int) < n then ((ByteArray.size o.1 : Nat) : Int) else n) then (IntKind.wrap .i64 (20000 - ((ByteArray.size o.2 : Nat) : Int))) else (if (((ByteArray.size o.1 : Nat) : Int) : Int) < n then ((ByteArray.size o.1 : Nat) : Int) else n)))))) (.str (drO o n).2)) ∧ True)) ∧ (true = true ∧ leC (.int .i64 (if ((IntKind.wrap .i64 (20000 - ((ByteArray.size o.2 : Nat) : Int))) : Int) < (if (((ByteArray.size o.1 : Nat) : Int) : Int) < n then ((ByteArray.size o.1 : Nat) : Int) else n) then (IntKind.wrap .i64 (20000 - ((ByteArray.size o.2 : Nat) : Int))) else (if (((ByteArray.size o.1 : Nat) : Int) : Int) < n then ((ByteArray.size o.1 : Nat) : Int) else n))) (.int .i64 (drC o n))) ∧ True)) ∧ true = true)))))))))))))))))) (by kernel_rfl) ?_
  unfold k0v88q5 T2 T3 T4 T5 T8
  try simp only [SI2A]
  have h1 : ByteArray.size o.1 ≤ maxLen := hwf.1.1
  have h2 : ByteArray.size o.2 ≤ maxLen := hwf.1.2.1
  have hn : -9223372036854775808 ≤ n ∧ n ≤ 9223372036854775807 := i64W hwf.2.1
  unfold maxLen at h1 h2
  cases ho : outOk o with
  | false =>
    have hf : ¬ (outOk o = true ∧ 0 ≤ n) := fun q => by rw [ho] at q; cases q.1
    have E : drO o n = o := if_neg hf
    have EN : drC o n = 0 := if_neg hf
    rw [E, EN]
    simp only [ho, forall_eq, Bool.true_eq_false, Bool.false_eq_true, false_implies, true_implies, not_true_eq_false, not_false_eq_true, Bool.not_true, Bool.not_false, Bool.and_true, Bool.and_false, Bool.true_and, Bool.false_and, List.length_set, List.set_set, and_true, true_and, and_self, btw_iff, btw_not, SI2A, eq_self]
    repeat' (with_reducible first | exact trivial | apply And.intro | intro _)
    all_goals first | omega | (with_reducible rfl) | (with_reducible assumption) | (with_reducible exact ⟨by omega, by omega⟩) | (exfalso; omega) | (exfalso; contradiction)
  | true =>
    obtain ⟨q1, q2⟩ := outOk_iff.1 ho
    have w : IntKind.wrap .i64 (20000 - ((ByteArray.size o.2 : Nat) : Int)) = 20000 - ((ByteArray.size o.2 : Nat) : Int) := wA (by omega) (by omega)
    have e0 : Int.toNat 0 = 0 := rfl
    rw [w]
    by_cases h0 : 0 ≤ n
    · have hl : ltI n 0 = false := ltI_false.2 (by omega)
      have hp : outOk o = true ∧ 0 ≤ n := ⟨ho, h0⟩
      have c1 : min (min n ((ByteArray.size o.1 : Nat) : Int)) (20000 - ((ByteArray.size o.2 : Nat) : Int)) = drC o n := by unfold drC; rw [if_pos hp]; omega
      have c2 : max 0 (min n (min ((ByteArray.size o.1 : Nat) : Int) (20000 - ((ByteArray.size o.2 : Nat) : Int)))) = drC o n := by unfold drC; rw [if_pos hp]; omega
      have c3 : 0 ≤ drC o n ∧ drC o n ≤ ((ByteArray.size o.1 : Nat) : Int) ∧ drC o n ≤ 20000 - ((ByteArray.size o.2 : Nat) : Int) := by rw [← c1]; omega
      have E : drO o n = (o.1.extract (drC o n).toNat o.1.size, o.2 ++ o.1.extract 0 (drC o n).toNat) := if_pos hp
      have hz : ByteArray.size (ByteArray.extract o.1 0 (drC o n).toNat) ≤ 1200 := by rw [ByteArray.size_extract]; omega
      rw [E]
      simp only [ho, hl, ifmin, c1, c2, e0, Int.toNat_natCast, forall_eq, Bool.true_eq_false, Bool.false_eq_true, false_implies, true_implies, not_true_eq_false, not_false_eq_true, Bool.not_true, Bool.not_false, Bool.and_true, Bool.and_false, Bool.true_and, Bool.false_and, List.length_set, List.set_set, and_true, true_and, and_self, btw_iff, btw_not, SI2A, eq_self]
      repeat' (with_reducible first | exact trivial | apply And.intro | intro _)
      all_goals first | omega | (with_reducible rfl) | (with_reducible assumption) | (unfold maxLen; omega) | (with_reducible exact ⟨by omega, by omega⟩) | (exfalso; omega) | (exfalso; contradiction)
    · have hl : ltI n 0 = true := ltI_true.2 (by omega)
      have hf : ¬ (outOk o = true ∧ 0 ≤ n) := fun q => h0 q.2
      have c2 : max 0 (min n (min ((ByteArray.size o.1 : Nat) : Int) (20000 - ((ByteArray.size o.2 : Nat) : Int)))) = 0 := by omega
      have E : drO o n = o := if_neg hf
      have EN : drC o n = 0 := if_neg hf
      have hz : ByteArray.size (ByteArray.extract o.1 0 0) ≤ 1200 := by rw [ByteArray.size_extract]; omega
      rw [E, EN]
      simp only [ho, hl, c2, e0, extAll, extNil, Int.toNat_natCast, forall_eq, Bool.true_eq_false, Bool.false_eq_true, false_implies, true_implies, not_true_eq_false, not_false_eq_true, Bool.not_true, Bool.not_false, Bool.and_true, Bool.and_false, Bool.true_and, Bool.false_and, List.length_set, List.set_set, and_true, true_and, and_self, btw_iff, btw_not, SI2A, eq_self]
      repeat' (with_reducible first | exact trivial | apply And.intro | intro _)
      all_goals first | omega | (with_reducible rfl) | (with_reducible assumption) | (unfold maxLen; omega) | exact (extAll _).symm | (with_reducible exact ⟨by omega, by omega⟩) | (exfalso; omega) | (exfalso; contradiction)
def e_i_Drained : Entry Tryz.prog := ⟨10, [.s tyOut, .v tyInt], fun x => True, fun x => .tp [.ag [.str (drO x.1 x.2.1).1, .str (drO x.1 x.2.1).2], .c (.int .i64 (drC x.1 x.2.1))], fun _ => [], fun x hx => b_i_Drained x.1 x.2.1, Tryz.call10⟩
end Go.Proofs.YtoigkpkafgjeaaaGreatDoor
set_option linter.unusedSimpArgs false
set_option linter.unusedVariables false
set_option maxRecDepth 100000
set_option maxHeartbeats 4000000
namespace Go.Proofs.YtoigkpkafgjeaaaGreatDoor
open Go.ChangeShapes Go.WideShapes Go.ChangeAt Go.RowKit Go.Joins Go.Deep
open GoRep (rep bulk)

def codeB (code : List Int) (k : Nat) : Int := nth (.int .u8) code k
def codeOk (code : List Int) : Prop := ∀ k, k < code.length → 0 ≤ codeB code k ∧ codeB code k < 256
def at0I (code : List Int) (n : Nat) : Int := if n < code.length then codeB code n else Int.tmod ((n * 7 + code.length : Nat) : Int) 256
theorem at0_b {code : List Int} (h : codeOk code) (n : Nat) : 0 ≤ at0I code n ∧ at0I code n < 256 := by
  unfold at0I
  split
  · exact h n (by assumption)
  · exact ⟨Int.tmod_nonneg _ (Int.natCast_nonneg _), Int.tmod_lt_of_pos _ (by decide)⟩
def at0P (code : List Int) (i : Int) : Prop := codeOk code ∧ (code.length ≤ 1048576 ∧ (0 ≤ i ∧ i ≤ 100000))
theorem b_l_at0 (code : List Int) (i : Int) (hpre : at0P code i) : BCalls Tryz.prog 9 [.c (.hs .no (.int .u8) code), .c (.int .i64 i)] (.c (.int .i64 (at0I code (Int.toNat i)))) [] := by
  refine bc0 [] [] [] [] L0 Tryz.func9 (fun hwf => ?_)
  refine Eq.mpr (β := (True ∧ (True ∧ (True ∧ (True ∧ (True ∧ (bif (ltI i ((List.length code : Nat) : Int)) then (True ∧ (True ∧ (((1 : Nat) = 1 ∧ (0 : Int) ≤ i ∧ (i : Int) < ((List.length code : Nat) : Int)) ∧ (True ∧ (true = true ∧ (True ∧ (rI (IntKind.wrap .i64 (nth (.int .u8) code (Int.toNat i))) (at0I code (Int.toNat i))))))))) else (True ∧ (True ∧ (True ∧ (True ∧ (True ∧ ((256 : Int) ≠ 0 ∧ (True ∧ (rI (Int.tmod (IntKind.wrap .i64 ((IntKind.wrap .i64 (i * 7)) + ((List.length code : Nat) : Int))) 256) (at0I code (Int.toNat i))))))))))))))))) (by kernel_rfl) ?_
  obtain ⟨h1, h2, h3, h4⟩ := hpre
  simp only [SI2A, eq_self]
  repeat' (with_reducible first | exact trivial | apply And.intro | intro _)
  all_goals first
    | (with_reducible trivial)
    | omega
    | (with_reducible assumption)
    | (rename_i h; have hb := h1 (Int.toNat i) (by omega); show IntKind.i64.wrap (codeB code i.toNat) = _; rw [w64i (by omega) (by omega)]; exact (if_pos (by omega)).symm)
    | (rename_i h; have e : at0I code i.toNat = Int.tmod ((i.toNat * 7 + code.length : Nat) : Int) 256 := if_neg (by omega); rw [e, w64i (x := i * 7) (by omega) (by omega), w64i (x := i * 7 + ((code.length : Nat) : Int)) (by omega) (by omega), show ((i.toNat * 7 + code.length : Nat) : Int) = i * 7 + ((code.length : Nat) : Int) by omega])
    | decide
def e_l_at0 : Entry Tryz.prog := ⟨9, [.v (.list (.int .u8)), .v tyInt], fun x => at0P x.1 x.2.1, fun x => .c (.int .i64 (at0I x.1 (Int.toNat x.2.1))), fun _ => [], fun x hx => b_l_at0 x.1 x.2.1 hx, Tryz.call9⟩
theorem by_list {s t : ByteArray} (h : s.data.toList = t.data.toList) : s = t := ByteArray.ext (Array.ext' h)
theorem tk_dr {α : Type} {l : List α} {n a : Nat} (h : l.length = n) : List.take (n - a) (List.drop a l) = List.drop a l := List.take_of_length_le (by rw [List.length_drop]; omega)
theorem cut_join {s : ByteArray} {a : Nat} (h : a ≤ s.size) : ByteArray.extract s 0 a ++ ByteArray.extract s a s.size = s := by
  have hl := toList_size s
  apply by_list
  rw [ByteArray.data_append, Array.toList_append, ext_list, ext_list, List.drop_zero, Nat.sub_zero, tk_dr hl, List.take_append_drop]
theorem dr_same {o : GOut} {n : Int} : (drO o n).2 ++ (drO o n).1 = o.2 ++ o.1 := by
  unfold drO
  split
  · rename_i h
    have h1 := outOk_iff.1 h.1
    have hc : 0 ≤ drC o n ∧ drC o n ≤ ((o.1.size : Nat) : Int) := by
      unfold drC
      rw [if_pos h]
      omega
    show (o.2 ++ ByteArray.extract o.1 0 (drC o n).toNat) ++ ByteArray.extract o.1 (drC o n).toNat o.1.size = o.2 ++ o.1
    rw [ByteArray.append_assoc]
    congr 1
    exact cut_join (by omega)
  · rfl
theorem drC_in {o : GOut} {n : Int} (ho : outOk o = true) (h : 0 ≤ n) : drC o n = min n (min (o.1.size : Int) (20000 - (o.2.size : Int))) := if_pos ⟨ho, h⟩
theorem drC_no {o : GOut} {n : Int} (ho : outOk o = false) : drC o n = 0 ∧ drO o n = o := ⟨if_neg (fun q => by rw [ho] at q; cases q.1), if_neg (fun q => by rw [ho] at q; cases q.1)⟩
theorem drO_in {o : GOut} {n : Int} (ho : outOk o = true) (h : 0 ≤ n) : drO o n = (ByteArray.extract o.1 (drC o n).toNat o.1.size, o.2 ++ ByteArray.extract o.1 0 (drC o n).toNat) := if_pos ⟨ho, h⟩
theorem dr_size (o : GOut) (n : Int) : (0 ≤ drC o n ∧ drC o n ≤ 1200) ∧ (drO o n).1.size + (drO o n).2.size = o.1.size + o.2.size := by
  refine ⟨?_, ?_⟩
  · cases ho : outOk o with
    | false =>
      rw [(drC_no ho).1]
      exact ⟨Int.le_refl _, by decide⟩
    | true =>
      have h1 := outOk_iff.1 ho
      unfold drC
      split <;> omega
  · have h := congrArg ByteArray.size (dr_same (o := o) (n := n))
    rw [ByteArray.size_append, ByteArray.size_append] at h
    omega
theorem put_same {o : GOut} {l : List GReply} (h : fitO o l = true) : (putB o l).2 ++ (putB o l).1 = o.2 ++ o.1 ++ linesT l := by
  rw [putB_y h]
  exact (ByteArray.append_assoc).symm
theorem put_ok {o : GOut} {l : List GReply} (h : fitO o l = true) : outOk (putB o l) = true := by
  have h1 := fits_size h
  have h2 : outOk o = true := by
    unfold fitO at h
    rw [Bool.and_eq_true] at h
    exact h.1
  have h3 := outOk_iff.1 h2
  refine outOk_iff.2 ?_
  rw [putB_y h]
  refine ⟨?_, h3.2⟩
  show (o.1 ++ linesT l).size ≤ 1200
  rw [ByteArray.size_append]
  exact h1
theorem dr_ok {o : GOut} {n : Int} (h : outOk o = true) (hn : 0 ≤ n) : outOk (drO o n) = true ∧ (0 ≤ drC o n ∧ drC o n ≤ n) ∧ (((drO o n).2.size : Nat) : Int) = ((o.2.size : Nat) : Int) + drC o n := by
  have h1 := outOk_iff.1 h
  have e := drC_in h hn
  have e2 := drO_in h hn
  obtain ⟨a, ha⟩ : ∃ a : Nat, (a : Int) = drC o n := ⟨(drC o n).toNat, by rw [e]; omega⟩
  have haN : (drC o n).toNat = a := by omega
  rw [haN] at e2
  have hs1 : (ByteArray.extract o.1 a o.1.size).size = o.1.size - a := by rw [ByteArray.size_extract]; omega
  have hs2 : (o.2 ++ ByteArray.extract o.1 0 a).size = o.2.size + a := by rw [ByteArray.size_append, ByteArray.size_extract]; omega
  rw [e2]
  refine ⟨outOk_iff.2 ⟨?_, ?_⟩, ⟨by omega, by omega⟩, ?_⟩
  · show (ByteArray.extract o.1 a o.1.size).size ≤ 1200
    omega
  · show (o.2 ++ ByteArray.extract o.1 0 a).size ≤ 20000
    omega
  · show (((o.2 ++ ByteArray.extract o.1 0 a).size : Nat) : Int) = _
    omega
theorem b_l_big (code : List Int) : BCalls Tryz.prog 4 [.c (.hs .no (.int .u8) code)] (.c (.bool (gtI ((List.length code : Nat) : Int) 1048576))) [] := by
  refine bc0 [] [] [] [] L0 Tryz.func4 (fun hwf => ?_)
  refine Eq.mpr (β := (True ∧ (True ∧ (True ∧ (True ∧ (True ∧ (rB (gtI ((List.length code : Nat) : Int) 1048576) (gtI ((List.length code : Nat) : Int) 1048576)))))))) (by kernel_rfl) ?_
  simp only [SI2A, eq_self]
  repeat' (with_reducible first | exact trivial | apply And.intro | intro _)
  all_goals first
    | (with_reducible trivial)
    | omega
    | (with_reducible assumption)
def e_l_big : Entry Tryz.prog := ⟨4, [.v (.list (.int .u8))], fun x => True, fun x => .c (.bool (gtI ((List.length x.1 : Nat) : Int) 1048576)), fun _ => [], fun x hx => b_l_big x.1, Tryz.call4⟩
def k0hpb83 : Prop := (T6 (rB false true))
def k1hpb83 (code : List Int) : Prop := (List.length (draw17 code).2 ≤ 1048576 ∧ true = true ∧ true = true)
theorem b_l_FnOut (code : List Int) (hpre : codeOk code) : BCalls Tryz.prog 3 [.c (.hs .no (.int .u8) code)] (.c (.bool true)) [] := by
  refine bc0 [e_l_big, e_s_DrawPutOut, e_i_PutOut, e_s_PutOut, e_i_FitsOut, e_l_at0, e_i_Drained, e_i_OutOk, e_s_LinesText] [] [] [] L0 Tryz.func3 (fun hwf => ?_)
  refine Eq.mpr (β := (T2 ((True ∧ true = true) ∧ (bif gtI ((List.length code : Nat) : Int) 1048576 then (True ∧ (rB true true)) else (True ∧ ((True ∧ true = true) ∧ (T8 ((k1hpb83 code) ∧ (T8 ((k1hpb83 code) ∧ (T8 (some TypeDesc.bool = some TypeDesc.bool ∧ (True ∧ (bif (!eqO (fitO (draw17 code).1 (draw17 code).2) (fitO (draw17 code).1 (draw17 code).2)) then (T2 (rB false true)) else (T2 ((k1hpb83 code) ∧ (True ∧ (some TypeDesc.bool = some TypeDesc.bool ∧ (True ∧ (bif (!eqO (fitO (draw17 code).1 (draw17 code).2) (fitO (draw17 code).1 (draw17 code).2)) then (True ∧ (rB false true)) else (T2 (bif (!(fitO (draw17 code).1 (draw17 code).2)) then (T2 (true = true ∧ (True ∧ (rB (eqC_Out (putB (draw17 code).1 (draw17 code).2) (draw17 code).1) true)))) else (True ∧ ((at0P code 2 ∧ true = true) ∧ (T3 ((True ∧ true = true) ∧ (T6 ((true = true ∧ true = true) ∧ (True ∧ ((True ∧ true = true) ∧ (True ∧ (bif outOk (putB (draw17 code).1 (draw17 code).2) then (True ∧ ((True ∧ true = true) ∧ (T2 (bif outOk (drO (putB (draw17 code).1 (draw17 code).2) (at0I code (Int.toNat 2))) then (T4 (ByteArray.size (putB (draw17 code).1 (draw17 code).2).2 + ByteArray.size (putB (draw17 code).1 (draw17 code).2).1 ≤ maxLen ∧ (T4 (ByteArray.size (draw17 code).1.2 + ByteArray.size (draw17 code).1.1 ≤ maxLen ∧ (True ∧ ((k1hpb83 code) ∧ (ByteArray.size ((draw17 code).1.2 ++ (draw17 code).1.1) + ByteArray.size (linesT (draw17 code).2) ≤ maxLen ∧ (T3 (bif (eqS ((putB (draw17 code).1 (draw17 code).2).2 ++ (putB (draw17 code).1 (draw17 code).2).1) (((draw17 code).1.2 ++ (draw17 code).1.1) ++ (linesT (draw17 code).2))) then (T4 (ByteArray.size (drO (putB (draw17 code).1 (draw17 code).2) (at0I code (Int.toNat 2))).2 + ByteArray.size (drO (putB (draw17 code).1 (draw17 code).2) (at0I code (Int.toNat 2))).1 ≤ maxLen ∧ (T4 (ByteArray.size (putB (draw17 code).1 (draw17 code).2).2 + ByteArray.size (putB (draw17 code).1 (draw17 code).2).1 ≤ maxLen ∧ (T3 (bif (eqS ((drO (putB (draw17 code).1 (draw17 code).2) (at0I code (Int.toNat 2))).2 ++ (drO (putB (draw17 code).1 (draw17 code).2) (at0I code (Int.toNat 2))).1) ((putB (draw17 code).1 (draw17 code).2).2 ++ (putB (draw17 code).1 (draw17 code).2).1)) then (T4 (bif (geI (drC (putB (draw17 code).1 (draw17 code).2) (at0I code (Int.toNat 2))) 0) then (T5 (bif (leI (drC (putB (draw17 code).1 (draw17 code).2) (at0I code (Int.toNat 2))) (at0I code (Int.toNat 2))) then (T11 (rB (eqI ((ByteArray.size (drO (putB (draw17 code).1 (draw17 code).2) (at0I code (Int.toNat 2))).2 : Nat) : Int) (IntKind.wrap .i64 (((ByteArray.size (putB (draw17 code).1 (draw17 code).2).2 : Nat) : Int) + drC (putB (draw17 code).1 (draw17 code).2) (at0I code (Int.toNat 2))))) true)) else (T2 (rB false true)))) else (T4 (rB false true)))) else k0hpb83)))))) else (T2 k0hpb83)))))))))) else (T4 k0hpb83))))) else (T6 k0hpb83))))))))))))))))))))))))))))))))) (by kernel_rfl) ?_
  unfold k1hpb83 k0hpb83 T11 T2 T3 T4 T5 T6 T8
  obtain ⟨d0, d1, d2⟩ := draw17_size code
  have hk := at0_b hpre 2
  have hs := fun k => dr_same (o := putB (draw17 code).1 (draw17 code).2) (n := k)
  have hz := fun (q : Int) => (dr_size (putB (draw17 code).1 (draw17 code).2) q).2
  have hd := fun k q1 q2 => dr_ok (o := putB (draw17 code).1 (draw17 code).2) (n := k) q1 q2
  have hl := linesT_size (l := (draw17 code).2) (by omega)
  have hk2 : at0I code (Int.toNat 2) = at0I code 2 := rfl
  cases hf : fitO (draw17 code).1 (draw17 code).2 with
  | false =>
    have hn := putB_n hf
    simp only [hf, hk2]
    simp only [SI2A, eq_self]
    repeat' (with_reducible first | exact trivial | apply And.intro | intro _)
    all_goals first
      | (with_reducible trivial)
      | omega
      | (with_reducible assumption)
      | exact ⟨hpre, by omega, by decide, by decide⟩
      | (unfold maxLen; omega)
      | exact eqC_Out_true.2 hn
  | true =>
    have hp := put_ok hf
    have he := put_same hf
    have hq := out_size hp
    have hf2 := fits_size hf
    have hkk : 0 ≤ at0I code 2 := by omega
    obtain ⟨g1, g2, g3⟩ := hd _ hp hkk
    have g4 := out_size g1
    simp only [hf, hk2]
    simp only [SI2A, eq_self]
    generalize putB (draw17 code).1 (draw17 code).2 = x at *
    generalize (draw17 code).1 = o at *
    generalize (draw17 code).2 = l at *
    repeat' (with_reducible first | exact trivial | apply And.intro | intro _)
    all_goals first
      | (with_reducible trivial)
      | omega
      | (with_reducible assumption)
      | exact ⟨hpre, by omega, by decide, by decide⟩
      | exact hs _
      | exact hp
      | exact g1
      | exact he
      | ((try simp only [ByteArray.size_append]); have q := hz (at0I code 2); unfold maxLen; omega)
      | (rw [w64i (by omega) (by omega)]; exact g3)
      | exact absurd (hs _) (by assumption)
      | exact absurd (hp.symm.trans (by assumption)) (by decide)
      | exact absurd (g1.symm.trans (by assumption)) (by decide)
      | exact absurd he (by assumption)
      | (exfalso; omega)
end Go.Proofs.YtoigkpkafgjeaaaGreatDoor
