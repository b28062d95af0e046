/-
  The law on outputs that are drained.
  No condition but what the arguments' cells hold. Printed by vcgen.py.
-/
import Derived.Test.YtoigkpkafgjeaaaBBlL15j
set_option linter.unusedSimpArgs false
set_option linter.unusedVariables false
set_option maxRecDepth 100000
set_option maxHeartbeats 4000000
namespace Go.Proofs.Ytoigkpkafgjeaaa
open Go.ChangeShapes Go.WideShapes Go.ChangeAt Go.RowKit Go.Joins Go.Deep
open GoRep (rep bulk)

def codeB (code : List Int) (k : Nat) : Int := nth (.int .u8) code k
def codeOk (code : List Int) : Prop := ∀ k, k < code.length → 0 ≤ codeB code k ∧ codeB code k < 256
def at0I (code : List Int) (n : Nat) : Int := if n < code.length then codeB code n else Int.tmod ((n * 7 + code.length : Nat) : Int) 256
theorem at0_b {code : List Int} (h : codeOk code) (n : Nat) : 0 ≤ at0I code n ∧ at0I code n < 256 := by
  unfold at0I
  split
  · exact h n (by assumption)
  · exact ⟨Int.tmod_nonneg _ (Int.natCast_nonneg _), Int.tmod_lt_of_pos _ (by decide)⟩
def at0P (code : List Int) (i : Int) : Prop := codeOk code ∧ (code.length ≤ 1048576 ∧ (0 ≤ i ∧ i ≤ 100000))
theorem b_l_at0 (code : List Int) (i : Int) (hpre : at0P code i) : BCalls Try.prog 9 [.c (.hs .no (.int .u8) code), .c (.int .i64 i)] (.c (.int .i64 (at0I code (Int.toNat i)))) [] := by
  refine bc0 [] [] [] [] L0 Try.func9 (fun hwf => ?_)
  refine Eq.mpr (β := (True ∧ (True ∧ (True ∧ (True ∧ (True ∧ (bif (ltI i ((List.length code : Nat) : Int)) then (True ∧ (True ∧ (((1 : Nat) = 1 ∧ (0 : Int) ≤ i ∧ (i : Int) < ((List.length code : Nat) : Int)) ∧ (True ∧ (true = true ∧ (True ∧ (rI (IntKind.wrap .i64 (nth (.int .u8) code (Int.toNat i))) (at0I code (Int.toNat i))))))))) else (True ∧ (True ∧ (True ∧ (True ∧ (True ∧ ((256 : Int) ≠ 0 ∧ (True ∧ (rI (Int.tmod (IntKind.wrap .i64 ((IntKind.wrap .i64 (i * 7)) + ((List.length code : Nat) : Int))) 256) (at0I code (Int.toNat i))))))))))))))))) (by kernel_rfl) ?_
  obtain ⟨h1, h2, h3, h4⟩ := hpre
  simp only [SI2A, eq_self]
  repeat' (with_reducible first | exact trivial | apply And.intro | intro _)
  all_goals first
    | (with_reducible trivial)
    | omega
    | (with_reducible assumption)
    | (rename_i h; have hb := h1 (Int.toNat i) (by omega); show IntKind.i64.wrap (codeB code i.toNat) = _; rw [w64i (by omega) (by omega)]; exact (if_pos (by omega)).symm)
    | (rename_i h; have e : at0I code i.toNat = Int.tmod ((i.toNat * 7 + code.length : Nat) : Int) 256 := if_neg (by omega); rw [e, w64i (x := i * 7) (by omega) (by omega), w64i (x := i * 7 + ((code.length : Nat) : Int)) (by omega) (by omega), show ((i.toNat * 7 + code.length : Nat) : Int) = i * 7 + ((code.length : Nat) : Int) by omega])
    | decide
def e_l_at0 : Entry Try.prog := ⟨9, [.v (.list (.int .u8)), .v tyInt], fun x => at0P x.1 x.2.1, fun x => .c (.int .i64 (at0I x.1 (Int.toNat x.2.1))), fun _ => [], fun x hx => b_l_at0 x.1 x.2.1 hx, Try.call9⟩
theorem by_list {s t : ByteArray} (h : s.data.toList = t.data.toList) : s = t := ByteArray.ext (Array.ext' h)
theorem tk_dr {α : Type} {l : List α} {n a : Nat} (h : l.length = n) : List.take (n - a) (List.drop a l) = List.drop a l := List.take_of_length_le (by rw [List.length_drop]; omega)
theorem cut_join {s : ByteArray} {a : Nat} (h : a ≤ s.size) : ByteArray.extract s 0 a ++ ByteArray.extract s a s.size = s := by
  have hl := toList_size s
  apply by_list
  rw [ByteArray.data_append, Array.toList_append, ext_list, ext_list, List.drop_zero, Nat.sub_zero, tk_dr hl, List.take_append_drop]
theorem ext_ext1 {s : ByteArray} {a b : Nat} (h : a + b ≤ s.size) : ByteArray.extract (ByteArray.extract s a s.size) b (s.size - a) = ByteArray.extract s (a + b) s.size := by
  have hl := toList_size s
  apply by_list
  rw [ext_list, ext_list, ext_list, tk_dr hl, List.drop_drop, tk_dr hl, show s.size - a - b = s.size - (a + b) by omega, tk_dr hl]
theorem ext_ext2 {s : ByteArray} {a b : Nat} (h : a + b ≤ s.size) : ByteArray.extract s 0 a ++ ByteArray.extract (ByteArray.extract s a s.size) 0 b = ByteArray.extract s 0 (a + b) := by
  have hl := toList_size s
  apply by_list
  rw [ByteArray.data_append, Array.toList_append, ext_list, ext_list, ext_list, ext_list]
  simp only [List.drop_zero, Nat.sub_zero]
  rw [tk_dr hl, ← List.take_add]
theorem dr_same {o : GOut} {n : Int} : (drO o n).2 ++ (drO o n).1 = o.2 ++ o.1 := by
  unfold drO
  split
  · rename_i h
    have h1 := outOk_iff.1 h.1
    have hc : 0 ≤ drC o n ∧ drC o n ≤ ((o.1.size : Nat) : Int) := by
      unfold drC
      rw [if_pos h]
      omega
    show (o.2 ++ ByteArray.extract o.1 0 (drC o n).toNat) ++ ByteArray.extract o.1 (drC o n).toNat o.1.size = o.2 ++ o.1
    rw [ByteArray.append_assoc]
    congr 1
    exact cut_join (by omega)
  · rfl
theorem drC_in {o : GOut} {n : Int} (ho : outOk o = true) (h : 0 ≤ n) : drC o n = min n (min (o.1.size : Int) (20000 - (o.2.size : Int))) := if_pos ⟨ho, h⟩
theorem drC_no {o : GOut} {n : Int} (ho : outOk o = false) : drC o n = 0 ∧ drO o n = o := ⟨if_neg (fun q => by rw [ho] at q; cases q.1), if_neg (fun q => by rw [ho] at q; cases q.1)⟩
theorem drO_in {o : GOut} {n : Int} (ho : outOk o = true) (h : 0 ≤ n) : drO o n = (ByteArray.extract o.1 (drC o n).toNat o.1.size, o.2 ++ ByteArray.extract o.1 0 (drC o n).toNat) := if_pos ⟨ho, h⟩
theorem dr_size (o : GOut) (n : Int) : (0 ≤ drC o n ∧ drC o n ≤ 1200) ∧ (drO o n).1.size + (drO o n).2.size = o.1.size + o.2.size := by
  refine ⟨?_, ?_⟩
  · cases ho : outOk o with
    | false =>
      rw [(drC_no ho).1]
      exact ⟨Int.le_refl _, by decide⟩
    | true =>
      have h1 := outOk_iff.1 ho
      unfold drC
      split <;> omega
  · have h := congrArg ByteArray.size (dr_same (o := o) (n := n))
    rw [ByteArray.size_append, ByteArray.size_append] at h
    omega
/-- what is taken in two rows is what is taken in one -/
theorem dr_two {o : GOut} {k n : Int} (hk : 0 ≤ k) (hn : k ≤ n) : drC o k + drC (drO o k) (n - k) = drC o n ∧ drO (drO o k) (n - k) = drO o n := by
  cases ho : outOk o with
  | false =>
    obtain ⟨a1, a2⟩ := drC_no (n := k) ho
    obtain ⟨b1, b2⟩ := drC_no (n := n) ho
    obtain ⟨c1, c2⟩ := drC_no (n := n - k) ho
    rw [a1, a2, b1, b2, c1, c2]
    exact ⟨rfl, rfl⟩
  | true =>
    have h1 := outOk_iff.1 ho
    have e1 := drC_in ho hk
    have e2 := drC_in (n := n) ho (by omega)
    have e3 := drO_in (n := k) ho hk
    have e4 := drO_in (n := n) ho (by omega)
    obtain ⟨a, ha⟩ : ∃ a : Nat, (a : Int) = drC o k := ⟨(drC o k).toNat, by rw [e1]; omega⟩
    have haN : (drC o k).toNat = a := by omega
    rw [haN] at e3
    have hs1 : (ByteArray.extract o.1 a o.1.size).size = o.1.size - a := by rw [ByteArray.size_extract]; omega
    have hs2 : (o.2 ++ ByteArray.extract o.1 0 a).size = o.2.size + a := by rw [ByteArray.size_append, ByteArray.size_extract]; omega
    have ho2 : outOk (drO o k) = true := outOk_iff.2 (by
      rw [e3]
      show (ByteArray.extract o.1 a o.1.size).size ≤ 1200 ∧ (o.2 ++ ByteArray.extract o.1 0 a).size ≤ 20000
      rw [hs1, hs2]
      omega)
    have e5 := drC_in (n := n - k) ho2 (by omega)
    have e6 := drO_in (n := n - k) ho2 (by omega)
    rw [e3] at e5
    have e5 : drC (drO o k) (n - k) = min (n - k) (min ((ByteArray.extract o.1 a o.1.size).size : Int) (20000 - ((o.2 ++ ByteArray.extract o.1 0 a).size : Int))) := by rw [e3]; exact e5
    rw [hs1, hs2] at e5
    have hsum : drC o k + drC (drO o k) (n - k) = drC o n := by rw [e5, e1, e2]; omega
    refine ⟨hsum, ?_⟩
    obtain ⟨b, hb⟩ : ∃ b : Nat, (b : Int) = drC (drO o k) (n - k) := ⟨(drC (drO o k) (n - k)).toNat, by rw [e5]; omega⟩
    have hbN : (drC (drO o k) (n - k)).toNat = b := by omega
    have hc : (drC o n).toNat = a + b := by omega
    have hle : a + b ≤ o.1.size := by omega
    rw [e6, hbN, e3, e4, hc]
    show (ByteArray.extract (ByteArray.extract o.1 a o.1.size) b (ByteArray.extract o.1 a o.1.size).size, (o.2 ++ ByteArray.extract o.1 0 a) ++ ByteArray.extract (ByteArray.extract o.1 a o.1.size) 0 b) = (ByteArray.extract o.1 (a + b) o.1.size, o.2 ++ ByteArray.extract o.1 0 (a + b))
    rw [hs1]
    rw [ext_ext1 (by omega), ByteArray.append_assoc, ext_ext2 (by omega)]
theorem b_l_big (code : List Int) : BCalls Try.prog 5 [.c (.hs .no (.int .u8) code)] (.c (.bool (gtI ((List.length code : Nat) : Int) 1048576))) [] := by
  refine bc0 [] [] [] [] L0 Try.func5 (fun hwf => ?_)
  refine Eq.mpr (β := (True ∧ (True ∧ (True ∧ (True ∧ (True ∧ (rB (gtI ((List.length code : Nat) : Int) 1048576) (gtI ((List.length code : Nat) : Int) 1048576)))))))) (by kernel_rfl) ?_
  simp only [SI2A, eq_self]
  repeat' (with_reducible first | exact trivial | apply And.intro | intro _)
  all_goals first
    | (with_reducible trivial)
    | omega
    | (with_reducible assumption)
def e_l_big : Entry Try.prog := ⟨5, [.v (.list (.int .u8))], fun x => True, fun x => .c (.bool (gtI ((List.length x.1 : Nat) : Int) 1048576)), fun _ => [], fun x hx => b_l_big x.1, Try.call5⟩
def k0yzp3s (code : List Int) : Prop := (T4 (ByteArray.size (drO (drawDr code).1 (drawDr code).2).2 + ByteArray.size (drO (drawDr code).1 (drawDr code).2).1 ≤ maxLen ∧ (T4 (ByteArray.size (drawDr code).1.2 + ByteArray.size (drawDr code).1.1 ≤ maxLen ∧ (T2 (rB (eqS ((drO (drawDr code).1 (drawDr code).2).2 ++ (drO (drawDr code).1 (drawDr code).2).1) ((drawDr code).1.2 ++ (drawDr code).1.1)) true))))))
theorem b_l_FnDrained (code : List Int) (hpre : codeOk code) : BCalls Try.prog 3 [.c (.hs .no (.int .u8) code)] (.c (.bool true)) [] := by
  refine bc0 [e_l_big, e_s_DrawDrained, e_i_Drained, e_s_Drained, e_l_at0] [] [] [] L0 Try.func3 (fun hwf => ?_)
  refine Eq.mpr (β := (T2 ((True ∧ true = true) ∧ (bif gtI ((List.length code : Nat) : Int) 1048576 then (True ∧ (rB true true)) else (True ∧ ((True ∧ true = true) ∧ (T8 ((True ∧ true = true) ∧ (T8 ((True ∧ true = true) ∧ (T9 (bif (neI (drC (drawDr code).1 (drawDr code).2) (drC (drawDr code).1 (drawDr code).2)) then (True ∧ (rB false true)) else (True ∧ ((at0P code 2 ∧ true = true) ∧ (T5 (bif (ltI (drawDr code).2 (at0I code (Int.toNat 2))) then (True ∧ (k0yzp3s code)) else (T3 (bif (gtI (drawDr code).2 5000) then (k0yzp3s code) else (T2 ((True ∧ true = true) ∧ (T10 ((True ∧ true = true) ∧ (T12 (bif (eqI (IntKind.wrap .i64 (drC (drawDr code).1 (at0I code (Int.toNat 2)) + drC (drO (drawDr code).1 (at0I code (Int.toNat 2))) (IntKind.wrap .i64 ((drawDr code).2 - at0I code (Int.toNat 2))))) (drC (drawDr code).1 (drawDr code).2)) then (T2 (true = true ∧ (T2 (rB (eqC_Out (drO (drO (drawDr code).1 (at0I code (Int.toNat 2))) (IntKind.wrap .i64 ((drawDr code).2 - at0I code (Int.toNat 2)))) (drO (drawDr code).1 (drawDr code).2)) true)))) else (T2 (rB false true)))))))))))))))))))))))))) (by kernel_rfl) ?_
  unfold k0yzp3s T10 T12 T2 T3 T4 T5 T8 T9
  obtain ⟨d1, d2⟩ := drawDr_size code
  have hk := at0_b hpre 2
  have hs := fun k => dr_same (o := (drawDr code).1) (n := k)
  have h2 := fun k q1 q2 => dr_two (o := (drawDr code).1) (k := k) (n := (drawDr code).2) q1 q2
  have hz := fun q => dr_size q
  simp only [SI2A, eq_self]
  generalize (drawDr code).1 = o at *
  generalize (drawDr code).2 = n at *
  repeat' (with_reducible first | exact trivial | apply And.intro | intro _)
  all_goals first
    | (with_reducible trivial)
    | omega
    | (with_reducible assumption)
    | exact ⟨hpre, by omega, by decide, by decide⟩
    | (have q := (hz o n).2; unfold maxLen; omega)
    | exact hs _
    | (unfold maxLen; omega)
    | (have hk2 : at0I code (Int.toNat 2) = at0I code 2 := rfl; rw [w64i (by omega) (by omega)]; exact eqC_Out_true.2 (h2 _ (by omega) (by omega)).2)
    | (exfalso; contradiction)
    | (exfalso; rename_i q; have hk2 : at0I code (Int.toNat 2) = at0I code 2 := rfl; have g1 := (h2 (at0I code 2) (by omega) (by omega)).1; have g2 := (hz o (at0I code 2)).1; have g3 := (hz (drO o (at0I code 2)) (n - at0I code 2)).1; rw [hk2, w64i (x := n - at0I code 2) (by omega) (by omega), w64i (by omega) (by omega)] at q; omega)
end Go.Proofs.Ytoigkpkafgjeaaa
