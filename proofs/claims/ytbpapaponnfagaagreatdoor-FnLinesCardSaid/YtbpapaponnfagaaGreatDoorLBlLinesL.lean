/-
  The law on lines.
  No condition but what the arguments' cells hold. Printed by vcgen.py.
-/
import Derived.Test.YtbpapaponnfagaaGreatDoorLLineCr
import Derived.Test.YtbpapaponnfagaaGreatDoorLBlAddB
set_option linter.unusedSimpArgs false
set_option linter.unusedVariables false
set_option maxRecDepth 100000
set_option maxHeartbeats 4000000
namespace Go.Proofs.YtbpapaponnfagaaGreatDoor
open Go.ChangeShapes Go.WideShapes Go.ChangeAt Go.RowKit Go.Joins Go.Deep
open GoRep (rep bulk)

def codeB (code : List Int) (k : Nat) : Int := nth (.int .u8) code k
def codeOk (code : List Int) : Prop := ∀ k, k < code.length → 0 ≤ codeB code k ∧ codeB code k < 256
def at0I (code : List Int) (n : Nat) : Int := if n < code.length then codeB code n else Int.tmod ((n * 7 + code.length : Nat) : Int) 256
theorem at0_b {code : List Int} (h : codeOk code) (n : Nat) : 0 ≤ at0I code n ∧ at0I code n < 256 := by
  unfold at0I
  split
  · exact h n (by assumption)
  · exact ⟨Int.tmod_nonneg _ (Int.natCast_nonneg _), Int.tmod_lt_of_pos _ (by decide)⟩
def at0P (code : List Int) (i : Int) : Prop := codeOk code ∧ (code.length ≤ 1048576 ∧ (0 ≤ i ∧ i ≤ 100000))
theorem b_l_at0 (code : List Int) (i : Int) (hpre : at0P code i) : BCalls Tryz.prog 17 [.c (.hs .no (.int .u8) code), .c (.int .i64 i)] (.c (.int .i64 (at0I code (Int.toNat i)))) [] := by
  refine bc0 [] [] [] [] L0 Tryz.func17 (fun hwf => ?_)
  refine Eq.mpr (β := (True ∧ (True ∧ (True ∧ (True ∧ (True ∧ (bif (ltI i ((List.length code : Nat) : Int)) then (True ∧ (True ∧ (((1 : Nat) = 1 ∧ (0 : Int) ≤ i ∧ (i : Int) < ((List.length code : Nat) : Int)) ∧ (True ∧ (true = true ∧ (True ∧ (rI (IntKind.wrap .i64 (nth (.int .u8) code (Int.toNat i))) (at0I code (Int.toNat i))))))))) else (True ∧ (True ∧ (True ∧ (True ∧ (True ∧ ((256 : Int) ≠ 0 ∧ (True ∧ (rI (Int.tmod (IntKind.wrap .i64 ((IntKind.wrap .i64 (i * 7)) + ((List.length code : Nat) : Int))) 256) (at0I code (Int.toNat i))))))))))))))))) (by kernel_rfl) ?_
  obtain ⟨h1, h2, h3, h4⟩ := hpre
  simp only [SI2A, eq_self]
  repeat' (with_reducible first | exact trivial | apply And.intro | intro _)
  all_goals first
    | (with_reducible trivial)
    | omega
    | (with_reducible assumption)
    | (rename_i h; have hb := h1 (Int.toNat i) (by omega); show IntKind.i64.wrap (codeB code i.toNat) = _; rw [w64i (by omega) (by omega)]; exact (if_pos (by omega)).symm)
    | (rename_i h; have e : at0I code i.toNat = Int.tmod ((i.toNat * 7 + code.length : Nat) : Int) 256 := if_neg (by omega); rw [e, w64i (x := i * 7) (by omega) (by omega), w64i (x := i * 7 + ((code.length : Nat) : Int)) (by omega) (by omega), show ((i.toNat * 7 + code.length : Nat) : Int) = i * 7 + ((code.length : Nat) : Int) by omega])
    | decide
def e_l_at0 : Entry Tryz.prog := ⟨17, [.v (.list (.int .u8)), .v tyInt], fun x => at0P x.1 x.2.1, fun x => .c (.int .i64 (at0I x.1 (Int.toNat x.2.1))), fun _ => [], fun x hx => b_l_at0 x.1 x.2.1 hx, Tryz.call17⟩
def drawLE (code : List Int) : ByteArray := (in18 (newC code)).1.1
theorem b_s_DrawLineEnd (code : List Int) : BCalls Tryz.prog 11 [.c (.hs .no (.int .u8) code)] (.c (.str (drawLE code))) [] := by
  refine bc0 [e_s_l1New] [] [] [e_s_l18In] L0 Tryz.func11 (fun hwf => ?_)
  refine Eq.mpr (β := (True ∧ (True ∧ ((True ∧ true = true) ∧ (True ∧ (True ∧ ((cu (newC code)) ∧ (True ∧ (True ∧ (rS (in18 (newC code)).1.1 (drawLE code))))))))))) (by kernel_rfl) ?_
  haveI := newC_ok (code := code) hwf.1.1
  simp only [SIU, cuE_eq, cu_eq, eq_self]
  repeat' (with_reducible first | exact trivial | apply And.intro | apply bifI | intro _)
  all_goals first
    | (with_reducible trivial)
    | omega
    | (with_reducible infer_instance)
    | (simp only [drawLE, cond_true, cond_false, Int.toNat_natCast, *]; done)
    | (subst_vars; simp only [drawLE, cond_true, cond_false, Int.toNat_natCast, *]; done)
    | (simp only [drawLE, cond_true, cond_false, *]; exact leC_refl)
def e_s_DrawLineEnd : Entry Tryz.prog := ⟨11, [.v (.list (.int .u8))], fun x => True, fun x => .c (.str (drawLE x.1)), fun _ => [], fun x hx => b_s_DrawLineEnd x.1, Tryz.call11⟩
theorem drawLE_cr (code : List Int) : crN (drawLE code) ≤ 132 := in18_cr _
theorem drawLE_size (code : List Int) : (drawLE code).size ≤ 2000200 := in18_size _
theorem add_fit {i : GIn} {s : ByteArray} (h : i.1.size + s.size ≤ 600) : (addIn i s).1 = (i.1 ++ s, i.2) := by
  have e : addIn i s = ((i.1 ++ ByteArray.extract s 0 (min s.size (600 - i.1.size)), i.2), ((min s.size (600 - i.1.size) : Nat) : Int)) := if_pos (by omega)
  rw [e, show min s.size (600 - i.1.size) = s.size by omega, show ByteArray.extract s 0 s.size = s from ByteArray.extract_zero_size]
theorem add_first {s : ByteArray} (h : s.size ≤ 600) : (addIn ((⟨#[]⟩ : ByteArray), false) s).1 = (s, false) := by
  rw [add_fit (by show 0 + s.size ≤ 600; omega)]
  exact Prod.ext ByteArray.empty_append rfl
/-- a text is being emptied: k lines so far -/
def ivA (t : ByteArray) (k : Nat) (g : GIn) (a : ByteArray) : Prop := (k + potN g ≤ 199 ∧ a.size + 300 * potN g ≤ 100000) ∧ ∀ j o, Dr g a j o → Dr (t, false) (⟨#[]⟩ : ByteArray) j o
theorem ivA_go {t : ByteArray} {k : Nat} {g : GIn} {a : ByteArray} (h : ivA t k g a) (hk : (takeF g).2.2 ≠ 0) : ivA t (k + 1) (takeF g).1 (a ++ segT (takeF g)) := by
  have h1 := pot_step hk
  have h2 := seg_size g
  refine ⟨⟨by have := h.1.1; omega, by have := h.1.2; rw [size_app]; omega⟩, fun j o hd => h.2 j o (.step hk hd)⟩
theorem ivA_end {t : ByteArray} {k : Nat} {g : GIn} {a : ByteArray} (h : ivA t k g a) (hk : (takeF g).2.2 = 0) : Dr (t, false) (⟨#[]⟩ : ByteArray) (takeF g).1 a := h.2 _ _ (.stop hk)
theorem ivA_0 {t : ByteArray} (h : crN t ≤ 132) : ivA t 0 (t, false) (⟨#[]⟩ : ByteArray) := by
  refine ⟨⟨?_, ?_⟩, fun j o hd => hd⟩
  · show 0 + (crN t + 1) ≤ 199; omega
  · show 0 + 300 * (crN t + 1) ≤ 100000; omega
/-- the first n bytes have come and are emptied -/
def ivO (t : ByteArray) (n : Nat) (g : GIn) (a : ByteArray) : Prop := n ≤ t.size ∧ Dr (ByteArray.extract t 0 n, false) (⟨#[]⟩ : ByteArray) g a
theorem ivO_0 (t : ByteArray) : ivO t 0 ((⟨#[]⟩ : ByteArray), false) (⟨#[]⟩ : ByteArray) := by
  refine ⟨Nat.zero_le _, ?_⟩
  rw [show ByteArray.extract t 0 0 = (⟨#[]⟩ : ByteArray) from ext_none t]
  have e : takeF ((⟨#[]⟩ : ByteArray), false) = (((⟨#[]⟩ : ByteArray), false), (⟨#[]⟩ : ByteArray), 0) := by decide +kernel
  have h : Dr ((⟨#[]⟩ : ByteArray), false) (⟨#[]⟩ : ByteArray) (takeF ((⟨#[]⟩ : ByteArray), false)).1 (⟨#[]⟩ : ByteArray) := .stop (by rw [e])
  rw [e] at h
  exact h
theorem ext_join (t : ByteArray) {n m : Nat} (h : n ≤ m) : ByteArray.extract t 0 n ++ ByteArray.extract t n m = ByteArray.extract t 0 m := by
  apply ByteArray.ext
  apply Array.ext'
  rw [ByteArray.data_append, ByteArray.data_extract, ByteArray.data_extract, ByteArray.data_extract, Array.toList_append, Array.toList_extract, Array.toList_extract, Array.toList_extract, List.extract_eq_take_drop, List.extract_eq_take_drop, List.extract_eq_take_drop, List.drop_zero, Nat.sub_zero, Nat.sub_zero]
  obtain ⟨d, rfl⟩ : ∃ d, m = n + d := ⟨m - n, by omega⟩
  rw [List.take_add, show n + d - n = d by omega]
theorem ivO_in {t : ByteArray} {n m : Nat} {g : GIn} {a : ByteArray} (h : ivO t n g a) (h6 : t.size ≤ 600) (hc : crN t ≤ 132) (hn : n ≤ m) (hm : m ≤ t.size) : (addIn g (ByteArray.extract t n m)).1 = (g.1 ++ ByteArray.extract t n m, g.2) ∧ ivA (ByteArray.extract t 0 m) 0 (g.1 ++ ByteArray.extract t n m, g.2) a := by
  have hs := h.2.size
  have hp := h.2.pot
  have e1 : (ByteArray.extract t 0 n).size = n := size_pre h.1
  have e2 : (ByteArray.extract t n m).size = m - n := by rw [ByteArray.size_extract]; omega
  have hs' : g.1.size ≤ n := by rw [← e1]; exact hs
  have c1 := crN_ext t 0 n
  have c2 := crN_ext t n m
  have hp' : a.size + 300 * potN g ≤ 0 + 300 * (crN (ByteArray.extract t 0 n) + 1) := hp
  have hq : crN g.1 ≤ potN g := Nat.le_add_right _ _
  have hr : potN (g.1 ++ ByteArray.extract t n m, g.2) = potN g + crN (ByteArray.extract t n m) := by
    unfold potN
    show crN (g.1 ++ ByteArray.extract t n m) + (if g.2 = true then 0 else 1) = _
    rw [crN_app]
    omega
  have c3 : crN (ByteArray.extract t 0 n) + crN (ByteArray.extract t n m) ≤ crN t := by
    rw [← crN_app, ext_join t hn]
    exact crN_ext t 0 m
  refine ⟨add_fit (by omega), ⟨by omega, by omega⟩, fun j o hd => ?_⟩
  have := h.2.app (ByteArray.extract t n m) (by show (ByteArray.extract t 0 n).size + _ ≤ 600; omega) hd
  rw [show ((ByteArray.extract t 0 n, false) : GIn).1 ++ ByteArray.extract t n m = ByteArray.extract t 0 m from ext_join t hn] at this
  exact this
theorem ivO_end {t : ByteArray} {n : Nat} {g : GIn} {a : ByteArray} (h : ivO t n g a) (hn : t.size ≤ n) {j : GIn} {o : ByteArray} (hd : Dr (t, false) (⟨#[]⟩ : ByteArray) j o) : j = g ∧ o = a := by
  have h2 := h.2
  rw [show n = t.size by have := h.1; omega, show ByteArray.extract t 0 t.size = t from ByteArray.extract_zero_size] at h2
  exact hd.det h2
theorem leB_in {a a' : ByteArray} {b b' : Bool} : leB (.box [.str a, .bool b]) (.box [.str a', .bool b']) = ((a, b) = (a', b')) := by
  refine propext ⟨fun h => ?_, fun h => ?_⟩
  · have h := leB_eq h
    injection h with h
    injection h with h1 h
    injection h with h2 _
    injection h1 with h1
    injection h2 with h2
    exact Prod.ext h1 h2
  · cases h
    exact Eq.mpr leB_refl trivial
def linesP (code : List Int) : Prop := codeOk code
def chK (code : List Int) (t : ByteArray) (n : Nat) : Nat := min (1 + (Int.tmod (at0I code (n + 3)) 9).toNat) (t.size - n)
theorem chK_b (code : List Int) {t : ByteArray} {n : Nat} (h : n < t.size) : 1 ≤ chK code t n ∧ n + chK code t n ≤ t.size := by
  unfold chK
  omega
theorem c60 : (⟨#[60]⟩ : ByteArray).size = 1 := rfl
theorem c62 : (⟨#[62]⟩ : ByteArray).size = 1 := rfl
theorem seg_parts (g : GIn) : 2 + (⟨(Lib.itoa (takeF g).2.2).toArray⟩ : ByteArray).size + (takeF g).2.1.size ≤ 203 := by
  have := seg_size g
  unfold segT at this
  simp only [size_app, c60, c62] at this
  omega
section
variable {t : ByteArray} {k : Nat} {g : GIn} {a : ByteArray}
theorem sz1 (hy : ivA t k g a) : a.size + (⟨#[60]⟩ : ByteArray).size ≤ maxLen := by
  have := hy.1.2
  rw [c60]
  unfold maxLen
  omega
theorem sz2 (hy : ivA t k g a) : (a ++ (⟨#[60]⟩ : ByteArray)).size + (⟨(Lib.itoa (takeF g).2.2).toArray⟩ : ByteArray).size ≤ maxLen := by
  have := hy.1.2
  have := seg_parts g
  rw [size_app, c60]
  unfold maxLen
  omega
theorem sz3 (hy : ivA t k g a) : (a ++ (⟨#[60]⟩ : ByteArray) ++ (⟨(Lib.itoa (takeF g).2.2).toArray⟩ : ByteArray)).size + (takeF g).2.1.size ≤ maxLen := by
  have := hy.1.2
  have := seg_parts g
  rw [size_app, size_app, c60]
  unfold maxLen
  omega
theorem sz4 (hy : ivA t k g a) : (a ++ (⟨#[60]⟩ : ByteArray) ++ (⟨(Lib.itoa (takeF g).2.2).toArray⟩ : ByteArray) ++ (takeF g).2.1).size + (⟨#[62]⟩ : ByteArray).size ≤ maxLen := by
  have := hy.1.2
  have := seg_parts g
  rw [size_app, size_app, size_app, c60, c62]
  unfold maxLen
  omega
theorem take_nn (g : GIn) : nonneg (takeF g).2.2 := by
  rcases take_kind g with h | h | h <;> (unfold nonneg; omega)
theorem ln_go (hy : ivA t k g a) (h : ((k : Nat) : Int) < 200) (hk : ¬ (takeF g).2.2 = 0) : ∃ y : Nat × GIn × ByteArray, ivA t y.1 y.2.1 y.2.2 ∧ 200 - y.1 < 200 - k ∧
    (a ++ (⟨#[60]⟩ : ByteArray) ++ (⟨(Lib.itoa (takeF g).2.2).toArray⟩ : ByteArray) ++ (takeF g).2.1 ++ (⟨#[62]⟩ : ByteArray) = y.2.2 ∧ IntKind.wrap .i64 (((k : Nat) : Int) + 1) = ((y.1 : Nat) : Int)) ∧ ((takeF g).1.1, (takeF g).1.2) = (y.2.1.1, y.2.1.2) := by
  refine ⟨(k + 1, (takeF g).1, a ++ segT (takeF g)), ivA_go hy hk, ?_, ⟨?_, wrapN (by unfold maxLen; omega)⟩, rfl⟩
  · show 200 - (k + 1) < 200 - k; omega
  · unfold segT
    simp only [ByteArray.append_assoc]
theorem ln_br (hy : ivA t k g a) (hk : (takeF g).2.2 = 0) : ∃ q : GIn × ByteArray, Dr (t, false) (⟨#[]⟩ : ByteArray) q.1 q.2 ∧ a = q.2 ∧ ((takeF g).1.1, (takeF g).1.2) = (q.1.1, q.1.2) :=
  ⟨((takeF g).1, a), ivA_end hy hk, rfl, rfl⟩
theorem ln_no (hy : ivA t k g a) (h : ¬ ((k : Nat) : Int) < 200) : False := by
  have := hy.1.1
  omega
theorem ln_0 (hc : crN t ≤ 132) (h6 : ¬ (600 : Int) < ((t.size : Nat) : Int)) : ∃ q : Nat × GIn × ByteArray, ivA t q.1 q.2.1 q.2.2 ∧ ((⟨#[]⟩ : ByteArray) = q.2.2 ∧ (0 : Int) = ((q.1 : Nat) : Int)) ∧ ((addIn ((⟨#[]⟩ : ByteArray), false) t).1.1, (addIn ((⟨#[]⟩ : ByteArray), false) t).1.2) = (q.2.1.1, q.2.1.2) :=
  ⟨(0, (t, false), (⟨#[]⟩ : ByteArray)), ivA_0 hc, ⟨rfl, rfl⟩, add_first (by omega)⟩
theorem ln_o0 (t : ByteArray) : ∃ q : Nat × GIn × ByteArray, ivO t q.1 q.2.1 q.2.2 ∧ ((⟨#[]⟩ : ByteArray) = q.2.2 ∧ (0 : Int) = ((q.1 : Nat) : Int)) ∧ ((⟨#[]⟩ : ByteArray), false) = (q.2.1.1, q.2.1.2) :=
  ⟨(0, ((⟨#[]⟩ : ByteArray), false), (⟨#[]⟩ : ByteArray)), ivO_0 t, ⟨rfl, rfl⟩, rfl⟩
variable {code : List Int} {n : Nat}
theorem ln_at (hcd : codeOk code) (hl : ¬ (1048576 : Int) < ((code.length : Nat) : Int)) (h6 : ¬ (600 : Int) < ((t.size : Nat) : Int)) (h : ((n : Nat) : Int) < ((t.size : Nat) : Int)) : at0P code (IntKind.wrap .i64 (((n : Nat) : Int) + 3)) := by
  rw [w64i (by omega) (by omega)]
  exact ⟨hcd, by omega, by omega, by omega⟩
theorem ln_k (hcd : codeOk code) (h6 : ¬ (600 : Int) < ((t.size : Nat) : Int)) (h : ((n : Nat) : Int) < ((t.size : Nat) : Int)) : ∃ d : Nat, d < 9 ∧ IntKind.wrap .i64 (1 + Int.tmod (at0I code (Int.toNat (IntKind.wrap .i64 (((n : Nat) : Int) + 3)))) 9) = ((1 + d : Nat) : Int) ∧ chK code t n = min (1 + d) (t.size - n) := by
  have hb := at0_b hcd (n + 3)
  rw [w64i (x := ((n : Nat) : Int) + 3) (by omega) (by omega), show Int.toNat (((n : Nat) : Int) + 3) = n + 3 by omega]
  have h1 := Int.tmod_nonneg 9 hb.1
  have h2 := Int.tmod_lt_of_pos (at0I code (n + 3)) (show (0 : Int) < 9 by decide)
  refine ⟨(Int.tmod (at0I code (n + 3)) 9).toNat, by omega, ?_, rfl⟩
  rw [w64i (by omega) (by omega)]
  omega
theorem ln_k1 (hcd : codeOk code) (h6 : ¬ (600 : Int) < ((t.size : Nat) : Int)) (h : ((n : Nat) : Int) < ((t.size : Nat) : Int)) (hq : ((t.size : Nat) : Int) < IntKind.wrap .i64 (((n : Nat) : Int) + IntKind.wrap .i64 (1 + Int.tmod (at0I code (Int.toNat (IntKind.wrap .i64 (((n : Nat) : Int) + 3)))) 9))) :
    ∃ _ : Unit, IntKind.wrap .i64 (((t.size : Nat) : Int) - ((n : Nat) : Int)) = ((chK code t n : Nat) : Int) := by
  obtain ⟨d, hd, e, ec⟩ := ln_k (t := t) hcd h6 h
  rw [e, w64i (by omega) (by omega)] at hq
  exact ⟨(), by rw [w64i (by omega) (by omega), ec]; omega⟩
theorem ln_k2 (hcd : codeOk code) (h6 : ¬ (600 : Int) < ((t.size : Nat) : Int)) (h : ((n : Nat) : Int) < ((t.size : Nat) : Int)) (hq : ¬ ((t.size : Nat) : Int) < IntKind.wrap .i64 (((n : Nat) : Int) + IntKind.wrap .i64 (1 + Int.tmod (at0I code (Int.toNat (IntKind.wrap .i64 (((n : Nat) : Int) + 3)))) 9))) :
    ∃ _ : Unit, IntKind.wrap .i64 (1 + Int.tmod (at0I code (Int.toNat (IntKind.wrap .i64 (((n : Nat) : Int) + 3)))) 9) = ((chK code t n : Nat) : Int) := by
  obtain ⟨d, hd, e, ec⟩ := ln_k (t := t) hcd h6 h
  rw [e, w64i (by omega) (by omega)] at hq
  exact ⟨(), by rw [e, ec]; omega⟩
theorem ln_w (h6 : ¬ (600 : Int) < ((t.size : Nat) : Int)) (h : ((n : Nat) : Int) < ((t.size : Nat) : Int)) : IntKind.wrap .i64 (((n : Nat) : Int) + ((chK code t n : Nat) : Int)) = ((n + chK code t n : Nat) : Int) ∧ 1 ≤ chK code t n ∧ n + chK code t n ≤ t.size := by
  have := chK_b code (t := t) (n := n) (by omega)
  rw [w64i (by omega) (by omega)]
  exact ⟨by omega, this⟩
theorem ln_in (hc : crN t ≤ 132) (h6 : ¬ (600 : Int) < ((t.size : Nat) : Int)) (ho : ivO t n g a) (h : ((n : Nat) : Int) < ((t.size : Nat) : Int)) : ∃ q : Nat × GIn × ByteArray, ivA (ByteArray.extract t 0 (Int.toNat (IntKind.wrap .i64 (((n : Nat) : Int) + ((chK code t n : Nat) : Int))))) q.1 q.2.1 q.2.2 ∧ (a = q.2.2 ∧ (0 : Int) = ((q.1 : Nat) : Int)) ∧
    ((addIn g (ByteArray.extract t n (Int.toNat (IntKind.wrap .i64 (((n : Nat) : Int) + ((chK code t n : Nat) : Int)))))).1.1, (addIn g (ByteArray.extract t n (Int.toNat (IntKind.wrap .i64 (((n : Nat) : Int) + ((chK code t n : Nat) : Int)))))).1.2) = (q.2.1.1, q.2.1.2) := by
  obtain ⟨e, h1, h2⟩ := ln_w (code := code) h6 h
  rw [e, Int.toNat_natCast]
  obtain ⟨e1, e2⟩ := ivO_in ho (by omega) hc (m := n + chK code t n) (by omega) h2
  exact ⟨(0, (g.1 ++ ByteArray.extract t n (n + chK code t n), g.2), a), e2, ⟨rfl, rfl⟩, e1⟩
theorem ln_out {g' : GIn} {a' : ByteArray} (h6 : ¬ (600 : Int) < ((t.size : Nat) : Int)) (h : ((n : Nat) : Int) < ((t.size : Nat) : Int)) (hy : ivA (ByteArray.extract t 0 (Int.toNat (IntKind.wrap .i64 (((n : Nat) : Int) + ((chK code t n : Nat) : Int))))) k g' a') (hk : (takeF g').2.2 = 0) :
    ∃ y : Nat × GIn × ByteArray, ivO t y.1 y.2.1 y.2.2 ∧ t.size - y.1 < t.size - n ∧ (a' = y.2.2 ∧ IntKind.wrap .i64 (((n : Nat) : Int) + ((chK code t n : Nat) : Int)) = ((y.1 : Nat) : Int)) ∧ ((takeF g').1.1, (takeF g').1.2) = (y.2.1.1, y.2.1.2) := by
  obtain ⟨e, h1, h2⟩ := ln_w (code := code) h6 h
  rw [e, Int.toNat_natCast] at hy
  refine ⟨(n + chK code t n, (takeF g').1, a'), ⟨h2, ivA_end hy hk⟩, ?_, ⟨rfl, e⟩, rfl⟩
  show t.size - (n + chK code t n) < t.size - n
  omega
theorem ln_b1 (h6 : ¬ (600 : Int) < ((t.size : Nat) : Int)) (h : ((n : Nat) : Int) < ((t.size : Nat) : Int)) : ((n : Nat) : Int) ≤ IntKind.wrap .i64 (((n : Nat) : Int) + ((chK code t n : Nat) : Int)) := by
  obtain ⟨e, h1, h2⟩ := ln_w (code := code) h6 h
  omega
theorem ln_b2 (h6 : ¬ (600 : Int) < ((t.size : Nat) : Int)) (h : ((n : Nat) : Int) < ((t.size : Nat) : Int)) : IntKind.wrap .i64 (((n : Nat) : Int) + ((chK code t n : Nat) : Int)) ≤ ((t.size : Nat) : Int) := by
  obtain ⟨e, h1, h2⟩ := ln_w (code := code) h6 h
  omega
theorem ln_s1 (h6 : ¬ (600 : Int) < ((t.size : Nat) : Int)) (ho : ivO t n g a) : g.1.size ≤ 4000000 := by
  have h1 := ho.2.size
  have h2 := size_pre ho.1
  have h3 := ho.1
  have h4 : g.1.size ≤ (ByteArray.extract t 0 n).size := h1
  omega
theorem ln_s2 (h6 : ¬ (600 : Int) < ((t.size : Nat) : Int)) {i j : Nat} : (ByteArray.extract t i j).size ≤ 4000000 := by
  rw [ByteArray.size_extract]
  omega
theorem ln_fin (ho : ivO t n g a) (hn : ¬ ((n : Nat) : Int) < ((t.size : Nat) : Int)) {y : GIn × ByteArray} (hd : Dr (t, false) (⟨#[]⟩ : ByteArray) y.1 y.2) : y.1 = g ∧ y.2 = a := ivO_end ho (by omega) hd
end
def L_l_FnLines (code : List Int) : Nat → List AV → Mem → LoopA
  | 3000000, tm, M => ⟨GIn × ByteArray, fun y => (anyR (anyR (setA tm [(2, .any), (6, .c (.str y.2))]) 7 7) 39 35, setM M [(0, .box [.str y.1.1, .bool y.1.2])]), fun y => (Dr ((drawLE code), false) (⟨#[]⟩ : ByteArray) y.1 y.2), fun _ => 0⟩
  | 9, tm, M => ⟨Nat × GIn × ByteArray, fun y => (anyR (anyR (setA tm [(2, .any), (6, .c (.str y.2.2)), (7, .c (.int .i64 ((y.1 : Nat) : Int)))]) 8 6) 39 35, setM M [(0, .box [.str y.2.1.1, .bool y.2.1.2])]), fun y => (ivA (drawLE code) y.1 y.2.1 y.2.2), fun y => (200 - y.1)⟩
  | 21, tm, M => ⟨Nat × GIn × ByteArray, fun y => (anyR (anyR (setA tm [(15, .c (.str y.2.2)), (16, .c (.int .i64 ((y.1 : Nat) : Int)))]) 17 5) 75 55, setM M [(1, .box [.str y.2.1.1, .bool y.2.1.2])]), fun y => (ivO (drawLE code) y.1 y.2.1 y.2.2), fun y => (ByteArray.size (drawLE code) - y.1)⟩
  | 1000024, tm, M => ⟨Unit, fun _ => (anyR (setA tm [(17, .c (.int .i64 ((chK code (drawLE code) (Int.toNat (tmI tm 16)) : Nat) : Int)))]) 90 5, M), fun _ => True, fun _ => 0⟩
  | 28, tm, M => ⟨Nat × GIn × ByteArray, fun y => (anyR (anyR (setA tm [(15, .c (.str y.2.2)), (18, .c (.int .i64 ((y.1 : Nat) : Int)))]) 19 3) 109 21, setM M [(1, .box [.str y.2.1.1, .bool y.2.1.2])]), fun y => (ivA (ByteArray.extract (drawLE code) 0 (Int.toNat (tmI tm 16))) y.1 y.2.1 y.2.2), fun y => (200 - y.1)⟩
  | _, _, _ => ⟨Unit, fun _ => ([], []), fun _ => False, fun _ => 0⟩
def k1wv2ow (code : List Int) : List AC := [.str (addIn ((⟨#[]⟩ : ByteArray), false) (drawLE code)).1.1, .bool (addIn ((⟨#[]⟩ : ByteArray), false) (drawLE code)).1.2]
def k2wv2ow (y1 : Nat × GIn × ByteArray) (code : List Int) : List AC := [.str (addIn y1.2.1 (ByteArray.extract (drawLE code) (Int.toNat ((y1.1 : Nat) : Int)) (Int.toNat (IntKind.wrap .i64 (((y1.1 : Nat) : Int) + ((chK code (drawLE code) (Int.toNat ((y1.1 : Nat) : Int)) : Nat) : Int)))))).1.1, .bool (addIn y1.2.1 (ByteArray.extract (drawLE code) (Int.toNat ((y1.1 : Nat) : Int)) (Int.toNat (IntKind.wrap .i64 (((y1.1 : Nat) : Int) + ((chK code (drawLE code) (Int.toNat ((y1.1 : Nat) : Int)) : Nat) : Int)))))).1.2]
def k5wv2ow : List AC := [.str (⟨#[]⟩ : ByteArray), .bool false]
def k4wv2ow (code : List Int) (y0 : GIn × ByteArray) (y2 : Nat × GIn × ByteArray) (y1' : Nat × GIn × ByteArray) (y1 : Nat × GIn × ByteArray) : Prop := (True ∧ lxs [.c (.str (drawLE code)), .c (.bp 0 0), .c (.int .i64 (addIn ((⟨#[]⟩ : ByteArray), false) (drawLE code)).2), .c (.str y0.2)] (TN 7 (lxs [.c (.bp 1 0)] (leV (.c (.str y2.2.2)) (.c (.str y1'.2.2)) ∧ leV (.c (.int .i64 (IntKind.wrap .i64 (((y1.1 : Nat) : Int) + ((chK code (drawLE code) (Int.toNat ((y1.1 : Nat) : Int)) : Nat) : Int))))) (.c (.int .i64 ((y1'.1 : Nat) : Int))) ∧ TN 5 (lxs [.c (.hs .no (.int .u8) code), .c (.bool false), .c (.hs .no (.int .u8) code), .c (.str (drawLE code)), .c (.str (drawLE code)), .c (.int .i64 ((ByteArray.size (drawLE code) : Nat) : Int)), .c (.bool false), .tp [], .tp [], .tp [], .tp [], .tp [.ag (k1wv2ow code), .c (.int .i64 (addIn ((⟨#[]⟩ : ByteArray), false) (drawLE code)).2)], .ag k5wv2ow, .c (.str (drawLE code)), .tp [.ag (k1wv2ow code), .c (.int .i64 (addIn ((⟨#[]⟩ : ByteArray), false) (drawLE code)).2)], .ag (k1wv2ow code), .c (.int .i64 (addIn ((⟨#[]⟩ : ByteArray), false) (drawLE code)).2)] (TN 35 (lxs [.ag k5wv2ow] (TN 55 (lxs [.tp [], .tp [], .tp [], .tp [], .tp [], .tp [], .tp [], .tp [], .tp [], .tp [], .tp [], .tp [], .tp [], .tp [], .tp [], .tp [], .tp []] True)))))))))
def k0wv2ow (code : List Int) (y1 : Nat × GIn × ByteArray) (y0 : GIn × ByteArray) : Prop := (T7 ((∃ q : Nat × GIn × ByteArray, (ivA (ByteArray.extract (drawLE code) 0 (Int.toNat (IntKind.wrap .i64 (((y1.1 : Nat) : Int) + ((chK code (drawLE code) (Int.toNat ((y1.1 : Nat) : Int)) : Nat) : Int))))) q.1 q.2.1 q.2.2) ∧ ((lxs [.c (.hs .no (.int .u8) code), .tp []] (True ∧ lxs [.c (.str (drawLE code)), .c (.bp 0 0), .c (.int .i64 (addIn ((⟨#[]⟩ : ByteArray), false) (drawLE code)).2), .c (.str y0.2)] (TN 7 (lxs [.c (.bp 1 0)] (leV (.c (.str y1.2.2)) (.c (.str q.2.2)) ∧ lxs [.c (.int .i64 (IntKind.wrap .i64 (((y1.1 : Nat) : Int) + ((chK code (drawLE code) (Int.toNat ((y1.1 : Nat) : Int)) : Nat) : Int)))), .c (.int .i64 ((chK code (drawLE code) (Int.toNat ((y1.1 : Nat) : Int)) : Nat) : Int))] (leV (.c (.int .i64 0)) (.c (.int .i64 ((q.1 : Nat) : Int))) ∧ TN 3 (lxs [.c (.hs .no (.int .u8) code), .c (.bool false), .c (.hs .no (.int .u8) code), .c (.str (drawLE code)), .c (.str (drawLE code)), .c (.int .i64 ((ByteArray.size (drawLE code) : Nat) : Int)), .c (.bool false), .tp [], .tp [], .tp [], .tp [], .tp [.ag (k1wv2ow code), .c (.int .i64 (addIn ((⟨#[]⟩ : ByteArray), false) (drawLE code)).2)], .ag k5wv2ow, .c (.str (drawLE code)), .tp [.ag (k1wv2ow code), .c (.int .i64 (addIn ((⟨#[]⟩ : ByteArray), false) (drawLE code)).2)], .ag (k1wv2ow code), .c (.int .i64 (addIn ((⟨#[]⟩ : ByteArray), false) (drawLE code)).2)] (TN 35 (lxs [.ag k5wv2ow, .c (.int .i64 ((y1.1 : Nat) : Int)), .c (.str (drawLE code)), .c (.int .i64 ((ByteArray.size (drawLE code) : Nat) : Int)), .c (.bool true), .c (.hs .no (.int .u8) code), .c (.int .i64 ((y1.1 : Nat) : Int)), .c (.int .i64 (IntKind.wrap .i64 (((y1.1 : Nat) : Int) + 3))), .c (.int .i64 (at0I code (Int.toNat (IntKind.wrap .i64 (((y1.1 : Nat) : Int) + 3))))), .c (.int .i64 (Int.tmod (at0I code (Int.toNat (IntKind.wrap .i64 (((y1.1 : Nat) : Int) + 3)))) 9)), .c (.int .i64 (IntKind.wrap .i64 (1 + (Int.tmod (at0I code (Int.toNat (IntKind.wrap .i64 (((y1.1 : Nat) : Int) + 3)))) 9)))), .c (.int .i64 ((y1.1 : Nat) : Int)), .c (.int .i64 (IntKind.wrap .i64 (1 + (Int.tmod (at0I code (Int.toNat (IntKind.wrap .i64 (((y1.1 : Nat) : Int) + 3)))) 9)))), .c (.int .i64 (IntKind.wrap .i64 (((y1.1 : Nat) : Int) + (IntKind.wrap .i64 (1 + (Int.tmod (at0I code (Int.toNat (IntKind.wrap .i64 (((y1.1 : Nat) : Int) + 3)))) 9)))))), .c (.str (drawLE code)), .c (.int .i64 ((ByteArray.size (drawLE code) : Nat) : Int))] (TN 5 (lxs [.tp [.ag (k2wv2ow y1 code), .c (.int .i64 (addIn y1.2.1 (ByteArray.extract (drawLE code) (Int.toNat ((y1.1 : Nat) : Int)) (Int.toNat (IntKind.wrap .i64 (((y1.1 : Nat) : Int) + ((chK code (drawLE code) (Int.toNat ((y1.1 : Nat) : Int)) : Nat) : Int)))))).2)], .ag [.str y1.2.1.1, .bool y1.2.1.2], .c (.str (drawLE code)), .c (.int .i64 ((y1.1 : Nat) : Int)), .c (.int .i64 ((y1.1 : Nat) : Int)), .c (.int .i64 ((chK code (drawLE code) (Int.toNat ((y1.1 : Nat) : Int)) : Nat) : Int)), .c (.int .i64 (IntKind.wrap .i64 (((y1.1 : Nat) : Int) + ((chK code (drawLE code) (Int.toNat ((y1.1 : Nat) : Int)) : Nat) : Int)))), .c (.str (ByteArray.extract (drawLE code) (Int.toNat ((y1.1 : Nat) : Int)) (Int.toNat (IntKind.wrap .i64 (((y1.1 : Nat) : Int) + ((chK code (drawLE code) (Int.toNat ((y1.1 : Nat) : Int)) : Nat) : Int)))))), .tp [.ag (k2wv2ow y1 code), .c (.int .i64 (addIn y1.2.1 (ByteArray.extract (drawLE code) (Int.toNat ((y1.1 : Nat) : Int)) (Int.toNat (IntKind.wrap .i64 (((y1.1 : Nat) : Int) + ((chK code (drawLE code) (Int.toNat ((y1.1 : Nat) : Int)) : Nat) : Int)))))).2)], .ag (k2wv2ow y1 code), .c (.int .i64 (addIn y1.2.1 (ByteArray.extract (drawLE code) (Int.toNat ((y1.1 : Nat) : Int)) (Int.toNat (IntKind.wrap .i64 (((y1.1 : Nat) : Int) + ((chK code (drawLE code) (Int.toNat ((y1.1 : Nat) : Int)) : Nat) : Int)))))).2), .c (.int .i64 ((y1.1 : Nat) : Int)), .c (.int .i64 ((chK code (drawLE code) (Int.toNat ((y1.1 : Nat) : Int)) : Nat) : Int)), .c (.int .i64 (IntKind.wrap .i64 (((y1.1 : Nat) : Int) + ((chK code (drawLE code) (Int.toNat ((y1.1 : Nat) : Int)) : Nat) : Int))))] (TN 21 (lxs [.tp [], .tp [], .tp [], .tp [], .tp [], .tp [], .tp [], .tp [], .tp [], .tp [], .tp [], .tp [], .tp [], .tp [], .tp [], .tp [], .tp []] True))))))))))))) ∧ (lb (.box [.str y0.1.1, .bool y0.1.2]) ∧ leB (.box (k2wv2ow y1 code)) (.box [.str q.2.1.1, .bool q.2.1.2]) ∧ True) ∧ true = true)) ∧ ∀ y2 : Nat × GIn × ByteArray, (ivA (ByteArray.extract (drawLE code) 0 (Int.toNat (IntKind.wrap .i64 (((y1.1 : Nat) : Int) + ((chK code (drawLE code) (Int.toNat ((y1.1 : Nat) : Int)) : Nat) : Int))))) y2.1 y2.2.1 y2.2.2) → (T2 (bif (ltI ((y2.1 : Nat) : Int) 200) then (True ∧ ((True ∧ true = true) ∧ (T12 (bif (eqI (takeF y2.2.1).2.2 0) then (∃ y1' : Nat × GIn × ByteArray, (ivO (drawLE code) y1'.1 y1'.2.1 y1'.2.2) ∧ (ByteArray.size (drawLE code) - y1'.1) < (ByteArray.size (drawLE code) - y1.1) ∧ ((lxs [.c (.hs .no (.int .u8) code), .tp []] (k4wv2ow code y0 y2 y1' y1)) ∧ (lb (.box [.str y0.1.1, .bool y0.1.2]) ∧ leB (.box [.str (takeF y2.2.1).1.1, .bool (takeF y2.2.1).1.2]) (.box [.str y1'.2.1.1, .bool y1'.2.1.2]) ∧ True) ∧ true = true)) else (True ∧ (ByteArray.size y2.2.2 + ByteArray.size (⟨#[60]⟩ : ByteArray) ≤ maxLen ∧ (True ∧ ((nonneg (takeF y2.2.1).2.2 ∧ true = true) ∧ (ByteArray.size (y2.2.2 ++ (⟨#[60]⟩ : ByteArray)) + ByteArray.size (⟨(Lib.itoa (takeF y2.2.1).2.2).toArray⟩ : ByteArray) ≤ maxLen ∧ (True ∧ (ByteArray.size ((y2.2.2 ++ (⟨#[60]⟩ : ByteArray)) ++ (⟨(Lib.itoa (takeF y2.2.1).2.2).toArray⟩ : ByteArray)) + ByteArray.size (takeF y2.2.1).2.1 ≤ maxLen ∧ (ByteArray.size (((y2.2.2 ++ (⟨#[60]⟩ : ByteArray)) ++ (⟨(Lib.itoa (takeF y2.2.1).2.2).toArray⟩ : ByteArray)) ++ (takeF y2.2.1).2.1) + ByteArray.size (⟨#[62]⟩ : ByteArray) ≤ maxLen ∧ (T4 (∃ y2' : Nat × GIn × ByteArray, (ivA (ByteArray.extract (drawLE code) 0 (Int.toNat (IntKind.wrap .i64 (((y1.1 : Nat) : Int) + ((chK code (drawLE code) (Int.toNat ((y1.1 : Nat) : Int)) : Nat) : Int))))) y2'.1 y2'.2.1 y2'.2.2) ∧ (200 - y2'.1) < (200 - y2.1) ∧ ((lxs [.c (.hs .no (.int .u8) code), .tp []] (True ∧ lxs [.c (.str (drawLE code)), .c (.bp 0 0), .c (.int .i64 (addIn ((⟨#[]⟩ : ByteArray), false) (drawLE code)).2), .c (.str y0.2)] (TN 7 (lxs [.c (.bp 1 0)] (leV (.c (.str ((((y2.2.2 ++ (⟨#[60]⟩ : ByteArray)) ++ (⟨(Lib.itoa (takeF y2.2.1).2.2).toArray⟩ : ByteArray)) ++ (takeF y2.2.1).2.1) ++ (⟨#[62]⟩ : ByteArray)))) (.c (.str y2'.2.2)) ∧ lxs [.c (.int .i64 (IntKind.wrap .i64 (((y1.1 : Nat) : Int) + ((chK code (drawLE code) (Int.toNat ((y1.1 : Nat) : Int)) : Nat) : Int)))), .c (.int .i64 ((chK code (drawLE code) (Int.toNat ((y1.1 : Nat) : Int)) : Nat) : Int))] (leV (.c (.int .i64 (IntKind.wrap .i64 (((y2.1 : Nat) : Int) + 1)))) (.c (.int .i64 ((y2'.1 : Nat) : Int))) ∧ TN 3 (lxs [.c (.hs .no (.int .u8) code), .c (.bool false), .c (.hs .no (.int .u8) code), .c (.str (drawLE code)), .c (.str (drawLE code)), .c (.int .i64 ((ByteArray.size (drawLE code) : Nat) : Int)), .c (.bool false), .tp [], .tp [], .tp [], .tp [], .tp [.ag (k1wv2ow code), .c (.int .i64 (addIn ((⟨#[]⟩ : ByteArray), false) (drawLE code)).2)], .ag k5wv2ow, .c (.str (drawLE code)), .tp [.ag (k1wv2ow code), .c (.int .i64 (addIn ((⟨#[]⟩ : ByteArray), false) (drawLE code)).2)], .ag (k1wv2ow code), .c (.int .i64 (addIn ((⟨#[]⟩ : ByteArray), false) (drawLE code)).2)] (TN 35 (lxs [.ag k5wv2ow, .c (.int .i64 ((y1.1 : Nat) : Int)), .c (.str (drawLE code)), .c (.int .i64 ((ByteArray.size (drawLE code) : Nat) : Int)), .c (.bool true), .c (.hs .no (.int .u8) code), .c (.int .i64 ((y1.1 : Nat) : Int)), .c (.int .i64 (IntKind.wrap .i64 (((y1.1 : Nat) : Int) + 3))), .c (.int .i64 (at0I code (Int.toNat (IntKind.wrap .i64 (((y1.1 : Nat) : Int) + 3))))), .c (.int .i64 (Int.tmod (at0I code (Int.toNat (IntKind.wrap .i64 (((y1.1 : Nat) : Int) + 3)))) 9)), .c (.int .i64 (IntKind.wrap .i64 (1 + (Int.tmod (at0I code (Int.toNat (IntKind.wrap .i64 (((y1.1 : Nat) : Int) + 3)))) 9)))), .c (.int .i64 ((y1.1 : Nat) : Int)), .c (.int .i64 (IntKind.wrap .i64 (1 + (Int.tmod (at0I code (Int.toNat (IntKind.wrap .i64 (((y1.1 : Nat) : Int) + 3)))) 9)))), .c (.int .i64 (IntKind.wrap .i64 (((y1.1 : Nat) : Int) + (IntKind.wrap .i64 (1 + (Int.tmod (at0I code (Int.toNat (IntKind.wrap .i64 (((y1.1 : Nat) : Int) + 3)))) 9)))))), .c (.str (drawLE code)), .c (.int .i64 ((ByteArray.size (drawLE code) : Nat) : Int))] (TN 5 (lxs [.tp [.ag (k2wv2ow y1 code), .c (.int .i64 (addIn y1.2.1 (ByteArray.extract (drawLE code) (Int.toNat ((y1.1 : Nat) : Int)) (Int.toNat (IntKind.wrap .i64 (((y1.1 : Nat) : Int) + ((chK code (drawLE code) (Int.toNat ((y1.1 : Nat) : Int)) : Nat) : Int)))))).2)], .ag [.str y1.2.1.1, .bool y1.2.1.2], .c (.str (drawLE code)), .c (.int .i64 ((y1.1 : Nat) : Int)), .c (.int .i64 ((y1.1 : Nat) : Int)), .c (.int .i64 ((chK code (drawLE code) (Int.toNat ((y1.1 : Nat) : Int)) : Nat) : Int)), .c (.int .i64 (IntKind.wrap .i64 (((y1.1 : Nat) : Int) + ((chK code (drawLE code) (Int.toNat ((y1.1 : Nat) : Int)) : Nat) : Int)))), .c (.str (ByteArray.extract (drawLE code) (Int.toNat ((y1.1 : Nat) : Int)) (Int.toNat (IntKind.wrap .i64 (((y1.1 : Nat) : Int) + ((chK code (drawLE code) (Int.toNat ((y1.1 : Nat) : Int)) : Nat) : Int)))))), .tp [.ag (k2wv2ow y1 code), .c (.int .i64 (addIn y1.2.1 (ByteArray.extract (drawLE code) (Int.toNat ((y1.1 : Nat) : Int)) (Int.toNat (IntKind.wrap .i64 (((y1.1 : Nat) : Int) + ((chK code (drawLE code) (Int.toNat ((y1.1 : Nat) : Int)) : Nat) : Int)))))).2)], .ag (k2wv2ow y1 code), .c (.int .i64 (addIn y1.2.1 (ByteArray.extract (drawLE code) (Int.toNat ((y1.1 : Nat) : Int)) (Int.toNat (IntKind.wrap .i64 (((y1.1 : Nat) : Int) + ((chK code (drawLE code) (Int.toNat ((y1.1 : Nat) : Int)) : Nat) : Int)))))).2), .c (.int .i64 ((y1.1 : Nat) : Int)), .c (.int .i64 ((chK code (drawLE code) (Int.toNat ((y1.1 : Nat) : Int)) : Nat) : Int)), .c (.int .i64 (IntKind.wrap .i64 (((y1.1 : Nat) : Int) + ((chK code (drawLE code) (Int.toNat ((y1.1 : Nat) : Int)) : Nat) : Int))))] (TN 21 (lxs [.tp [], .tp [], .tp [], .tp [], .tp [], .tp [], .tp [], .tp [], .tp [], .tp [], .tp [], .tp [], .tp [], .tp [], .tp [], .tp [], .tp []] True))))))))))))) ∧ (lb (.box [.str y0.1.1, .bool y0.1.2]) ∧ leB (.box [.str (takeF y2.2.1).1.1, .bool (takeF y2.2.1).1.2]) (.box [.str y2'.2.1.1, .bool y2'.2.1.2]) ∧ True) ∧ true = true))))))))))))))) else (∃ y1' : Nat × GIn × ByteArray, (ivO (drawLE code) y1'.1 y1'.2.1 y1'.2.2) ∧ (ByteArray.size (drawLE code) - y1'.1) < (ByteArray.size (drawLE code) - y1.1) ∧ ((lxs [.c (.hs .no (.int .u8) code), .tp []] (k4wv2ow code y0 y2 y1' y1)) ∧ (lb (.box [.str y0.1.1, .bool y0.1.2]) ∧ leB (.box [.str y2.2.1.1, .bool y2.2.1.2]) (.box [.str y1'.2.1.1, .bool y1'.2.1.2]) ∧ True) ∧ true = true))))))
def k3wv2ow (code : List Int) (y1 : Nat × GIn × ByteArray) (q1 : GIn × ByteArray) : Prop := (True ∧ lxs [.c (.str (drawLE code)), .c (.bp 0 0), .c (.int .i64 (addIn ((⟨#[]⟩ : ByteArray), false) (drawLE code)).2)] (leV (.c (.str y1.2.2)) (.c (.str q1.2)) ∧ TN 7 (lxs [.tp [], .tp [], .tp [], .tp [], .tp [], .tp [], .tp [], .tp [], .c (.hs .no (.int .u8) code), .c (.bool false), .c (.hs .no (.int .u8) code), .c (.str (drawLE code)), .c (.str (drawLE code)), .c (.int .i64 ((ByteArray.size (drawLE code) : Nat) : Int)), .c (.bool false), .tp [], .tp [], .tp [], .tp [], .tp [.ag (k1wv2ow code), .c (.int .i64 (addIn ((⟨#[]⟩ : ByteArray), false) (drawLE code)).2)], .ag k5wv2ow, .c (.str (drawLE code)), .tp [.ag (k1wv2ow code), .c (.int .i64 (addIn ((⟨#[]⟩ : ByteArray), false) (drawLE code)).2)], .ag (k1wv2ow code), .c (.int .i64 (addIn ((⟨#[]⟩ : ByteArray), false) (drawLE code)).2)] (TN 35 (lxs [.tp [], .tp [], .tp [], .tp [], .tp [], .tp [], .tp [], .tp [], .tp [], .tp [], .tp [], .tp [], .tp [], .tp [], .tp [], .tp [], .tp [], .tp [], .tp [], .tp [], .tp [], .tp [], .tp [], .tp [], .tp [], .tp [], .tp [], .tp [], .tp [], .tp [], .tp [], .tp [], .tp [], .tp [], .tp [], .tp [], .tp [], .tp [], .tp [], .tp [], .tp [], .tp [], .tp [], .tp [], .tp [], .tp [], .tp [], .tp [], .tp [], .tp [], .tp [], .tp [], .tp [], .tp [], .tp [], .tp [], .tp [], .tp [], .tp [], .tp [], .tp [], .tp [], .tp [], .tp [], .tp [], .tp [], .tp [], .tp [], .tp [], .tp [], .tp [], .tp [], .tp []] True)))))
theorem b_l_FnLines (code : List Int) (hpre : linesP code) : BCalls Tryz.prog 3 [.c (.hs .no (.int .u8) code)] (.c (.bool true)) [] := by
  refine bcalls_of (T := ⟨[e_l_big, e_s_DrawLineEnd, e_i_InOk, e_i_AddBytes, e_i_TakeLine, e_s_TakeLine, e_s_Digits, e_l_at0], [], [], [], none, fun i => match i with | 3000000 => [⟨some 0, 0, tyBool⟩] | 1000024 => [⟨some 0, 0, tyBool⟩] | _ => [], 0, [], []⟩) (L := (L_l_FnLines code)) Tryz.func3 ⟨⟨rfl, rfl⟩, rfl⟩ (fun hwf => ?_)
  refine Eq.mpr (β := (T2 ((True ∧ true = true) ∧ (bif gtI ((List.length code : Nat) : Int) 1048576 then (True ∧ (rB true true)) else (True ∧ ((True ∧ true = true) ∧ (T4 (bif (gtI ((ByteArray.size (drawLE code) : Nat) : Int) 600) then (T2 ((True ∧ true = true) ∧ (T2 (rB (!(inOk ((drawLE code), false))) true)))) else (T2 (((ByteArray.size ((⟨#[]⟩ : ByteArray), false).1 ≤ 4000000 ∧ ByteArray.size (drawLE code) ≤ 4000000) ∧ true = true) ∧ (T8 (((∃ q : Nat × GIn × ByteArray, (ivA (drawLE code) q.1 q.2.1 q.2.2) ∧ ((lxs [.c (.hs .no (.int .u8) code), .tp []] (True ∧ lxs [.c (.str (drawLE code)), .c (.bp 0 0), .c (.int .i64 (addIn ((⟨#[]⟩ : ByteArray), false) (drawLE code)).2)] (leV (.c (.str (⟨#[]⟩ : ByteArray))) (.c (.str q.2.2)) ∧ leV (.c (.int .i64 0)) (.c (.int .i64 ((q.1 : Nat) : Int))) ∧ TN 6 (lxs [.tp [], .tp [], .tp [], .tp [], .tp [], .tp [], .tp [], .tp [], .c (.hs .no (.int .u8) code), .c (.bool false), .c (.hs .no (.int .u8) code), .c (.str (drawLE code)), .c (.str (drawLE code)), .c (.int .i64 ((ByteArray.size (drawLE code) : Nat) : Int)), .c (.bool false), .tp [], .tp [], .tp [], .tp [], .tp [.ag (k1wv2ow code), .c (.int .i64 (addIn ((⟨#[]⟩ : ByteArray), false) (drawLE code)).2)], .ag k5wv2ow, .c (.str (drawLE code)), .tp [.ag (k1wv2ow code), .c (.int .i64 (addIn ((⟨#[]⟩ : ByteArray), false) (drawLE code)).2)], .ag (k1wv2ow code), .c (.int .i64 (addIn ((⟨#[]⟩ : ByteArray), false) (drawLE code)).2)] (TN 35 (lxs [.tp [], .tp [], .tp [], .tp [], .tp [], .tp [], .tp [], .tp [], .tp [], .tp [], .tp [], .tp [], .tp [], .tp [], .tp [], .tp [], .tp [], .tp [], .tp [], .tp [], .tp [], .tp [], .tp [], .tp [], .tp [], .tp [], .tp [], .tp [], .tp [], .tp [], .tp [], .tp [], .tp [], .tp [], .tp [], .tp [], .tp [], .tp [], .tp [], .tp [], .tp [], .tp [], .tp [], .tp [], .tp [], .tp [], .tp [], .tp [], .tp [], .tp [], .tp [], .tp [], .tp [], .tp [], .tp [], .tp [], .tp [], .tp [], .tp [], .tp [], .tp [], .tp [], .tp [], .tp [], .tp [], .tp [], .tp [], .tp [], .tp [], .tp [], .tp [], .tp [], .tp []] True)))))) ∧ (leB (.box (k1wv2ow code)) (.box [.str q.2.1.1, .bool q.2.1.2]) ∧ True) ∧ true = true)) ∧ ∀ y1 : Nat × GIn × ByteArray, (ivA (drawLE code) y1.1 y1.2.1 y1.2.2) → (T2 (bif (ltI ((y1.1 : Nat) : Int) 200) then (True ∧ ((True ∧ true = true) ∧ (T9 ((True ∧ true = true) ∧ (T12 (bif (!eqS (takeF y1.2.1).2.1 (takeF y1.2.1).2.1) then (T2 (rB false true)) else (T4 (bif (neI (takeF y1.2.1).2.2 (takeF y1.2.1).2.2) then (True ∧ (rB false true)) else (T4 (bif (eqI (takeF y1.2.1).2.2 0) then (∃ q1 : GIn × ByteArray, (Dr ((drawLE code), false) (⟨#[]⟩ : ByteArray) q1.1 q1.2) ∧ ((lxs [.c (.hs .no (.int .u8) code), .tp []] (k3wv2ow code y1 q1)) ∧ (leB (.box [.str (takeF y1.2.1).1.1, .bool (takeF y1.2.1).1.2]) (.box [.str q1.1.1, .bool q1.1.2]) ∧ True) ∧ true = true)) else (True ∧ (ByteArray.size y1.2.2 + ByteArray.size (⟨#[60]⟩ : ByteArray) ≤ maxLen ∧ (True ∧ ((nonneg (takeF y1.2.1).2.2 ∧ true = true) ∧ (ByteArray.size (y1.2.2 ++ (⟨#[60]⟩ : ByteArray)) + ByteArray.size (⟨(Lib.itoa (takeF y1.2.1).2.2).toArray⟩ : ByteArray) ≤ maxLen ∧ (True ∧ (ByteArray.size ((y1.2.2 ++ (⟨#[60]⟩ : ByteArray)) ++ (⟨(Lib.itoa (takeF y1.2.1).2.2).toArray⟩ : ByteArray)) + ByteArray.size (takeF y1.2.1).2.1 ≤ maxLen ∧ (ByteArray.size (((y1.2.2 ++ (⟨#[60]⟩ : ByteArray)) ++ (⟨(Lib.itoa (takeF y1.2.1).2.2).toArray⟩ : ByteArray)) ++ (takeF y1.2.1).2.1) + ByteArray.size (⟨#[62]⟩ : ByteArray) ≤ maxLen ∧ (T4 (∃ y1' : Nat × GIn × ByteArray, (ivA (drawLE code) y1'.1 y1'.2.1 y1'.2.2) ∧ (200 - y1'.1) < (200 - y1.1) ∧ ((lxs [.c (.hs .no (.int .u8) code), .tp []] (True ∧ lxs [.c (.str (drawLE code)), .c (.bp 0 0), .c (.int .i64 (addIn ((⟨#[]⟩ : ByteArray), false) (drawLE code)).2)] (leV (.c (.str ((((y1.2.2 ++ (⟨#[60]⟩ : ByteArray)) ++ (⟨(Lib.itoa (takeF y1.2.1).2.2).toArray⟩ : ByteArray)) ++ (takeF y1.2.1).2.1) ++ (⟨#[62]⟩ : ByteArray)))) (.c (.str y1'.2.2)) ∧ leV (.c (.int .i64 (IntKind.wrap .i64 (((y1.1 : Nat) : Int) + 1)))) (.c (.int .i64 ((y1'.1 : Nat) : Int))) ∧ TN 6 (lxs [.tp [], .tp [], .tp [], .tp [], .tp [], .tp [], .tp [], .tp [], .c (.hs .no (.int .u8) code), .c (.bool false), .c (.hs .no (.int .u8) code), .c (.str (drawLE code)), .c (.str (drawLE code)), .c (.int .i64 ((ByteArray.size (drawLE code) : Nat) : Int)), .c (.bool false), .tp [], .tp [], .tp [], .tp [], .tp [.ag (k1wv2ow code), .c (.int .i64 (addIn ((⟨#[]⟩ : ByteArray), false) (drawLE code)).2)], .ag k5wv2ow, .c (.str (drawLE code)), .tp [.ag (k1wv2ow code), .c (.int .i64 (addIn ((⟨#[]⟩ : ByteArray), false) (drawLE code)).2)], .ag (k1wv2ow code), .c (.int .i64 (addIn ((⟨#[]⟩ : ByteArray), false) (drawLE code)).2)] (TN 35 (lxs [.tp [], .tp [], .tp [], .tp [], .tp [], .tp [], .tp [], .tp [], .tp [], .tp [], .tp [], .tp [], .tp [], .tp [], .tp [], .tp [], .tp [], .tp [], .tp [], .tp [], .tp [], .tp [], .tp [], .tp [], .tp [], .tp [], .tp [], .tp [], .tp [], .tp [], .tp [], .tp [], .tp [], .tp [], .tp [], .tp [], .tp [], .tp [], .tp [], .tp [], .tp [], .tp [], .tp [], .tp [], .tp [], .tp [], .tp [], .tp [], .tp [], .tp [], .tp [], .tp [], .tp [], .tp [], .tp [], .tp [], .tp [], .tp [], .tp [], .tp [], .tp [], .tp [], .tp [], .tp [], .tp [], .tp [], .tp [], .tp [], .tp [], .tp [], .tp [], .tp [], .tp []] True)))))) ∧ (leB (.box [.str (takeF y1.2.1).1.1, .bool (takeF y1.2.1).1.2]) (.box [.str y1'.2.1.1, .bool y1'.2.1.2]) ∧ True) ∧ true = true))))))))))))))))))))) else (∃ q1 : GIn × ByteArray, (Dr ((drawLE code), false) (⟨#[]⟩ : ByteArray) q1.1 q1.2) ∧ ((lxs [.c (.hs .no (.int .u8) code), .tp []] (k3wv2ow code y1 q1)) ∧ (leB (.box [.str y1.2.1.1, .bool y1.2.1.2]) (.box [.str q1.1.1, .bool q1.1.2]) ∧ True) ∧ true = true))))) ∧ ∀ y0 : GIn × ByteArray, (Dr ((drawLE code), false) (⟨#[]⟩ : ByteArray) y0.1 y0.2) → (T5 ((∃ q : Nat × GIn × ByteArray, (ivO (drawLE code) q.1 q.2.1 q.2.2) ∧ ((lxs [.c (.hs .no (.int .u8) code), .tp []] (True ∧ lxs [.c (.str (drawLE code)), .c (.bp 0 0), .c (.int .i64 (addIn ((⟨#[]⟩ : ByteArray), false) (drawLE code)).2), .c (.str y0.2)] (TN 7 (lxs [.c (.bp 1 0)] (leV (.c (.str (⟨#[]⟩ : ByteArray))) (.c (.str q.2.2)) ∧ leV (.c (.int .i64 0)) (.c (.int .i64 ((q.1 : Nat) : Int))) ∧ TN 5 (lxs [.c (.hs .no (.int .u8) code), .c (.bool false), .c (.hs .no (.int .u8) code), .c (.str (drawLE code)), .c (.str (drawLE code)), .c (.int .i64 ((ByteArray.size (drawLE code) : Nat) : Int)), .c (.bool false), .tp [], .tp [], .tp [], .tp [], .tp [.ag (k1wv2ow code), .c (.int .i64 (addIn ((⟨#[]⟩ : ByteArray), false) (drawLE code)).2)], .ag k5wv2ow, .c (.str (drawLE code)), .tp [.ag (k1wv2ow code), .c (.int .i64 (addIn ((⟨#[]⟩ : ByteArray), false) (drawLE code)).2)], .ag (k1wv2ow code), .c (.int .i64 (addIn ((⟨#[]⟩ : ByteArray), false) (drawLE code)).2)] (TN 35 (lxs [.ag k5wv2ow] (TN 55 (lxs [.tp [], .tp [], .tp [], .tp [], .tp [], .tp [], .tp [], .tp [], .tp [], .tp [], .tp [], .tp [], .tp [], .tp [], .tp [], .tp [], .tp []] True)))))))))) ∧ (lb (.box [.str y0.1.1, .bool y0.1.2]) ∧ leB (.box k5wv2ow) (.box [.str q.2.1.1, .bool q.2.1.2]) ∧ True) ∧ true = true)) ∧ ∀ y1 : Nat × GIn × ByteArray, (ivO (drawLE code) y1.1 y1.2.1 y1.2.2) → (T4 (bif (ltI ((y1.1 : Nat) : Int) ((ByteArray.size (drawLE code) : Nat) : Int)) then (T3 ((at0P code (IntKind.wrap .i64 (((y1.1 : Nat) : Int) + 3)) ∧ true = true) ∧ ((9 : Int) ≠ 0 ∧ (T8 ((bif (gtI (IntKind.wrap .i64 (((y1.1 : Nat) : Int) + (IntKind.wrap .i64 (1 + (Int.tmod (at0I code (Int.toNat (IntKind.wrap .i64 (((y1.1 : Nat) : Int) + 3)))) 9))))) ((ByteArray.size (drawLE code) : Nat) : Int)) then (T5 (∃ _ : Unit, True ∧ ((lxs [.c (.hs .no (.int .u8) code), .tp []] (True ∧ lxs [.c (.str (drawLE code)), .c (.bp 0 0), .c (.int .i64 (addIn ((⟨#[]⟩ : ByteArray), false) (drawLE code)).2), .c (.str y0.2)] (TN 7 (lxs [.c (.bp 1 0), .c (.str y1.2.2), .c (.int .i64 ((y1.1 : Nat) : Int))] (leV (.c (.int .i64 (IntKind.wrap .i64 (((ByteArray.size (drawLE code) : Nat) : Int) - ((y1.1 : Nat) : Int))))) (.c (.int .i64 ((chK code (drawLE code) (Int.toNat ((y1.1 : Nat) : Int)) : Nat) : Int))) ∧ TN 4 (lxs [.c (.hs .no (.int .u8) code), .c (.bool false), .c (.hs .no (.int .u8) code), .c (.str (drawLE code)), .c (.str (drawLE code)), .c (.int .i64 ((ByteArray.size (drawLE code) : Nat) : Int)), .c (.bool false), .tp [], .tp [], .tp [], .tp [], .tp [.ag (k1wv2ow code), .c (.int .i64 (addIn ((⟨#[]⟩ : ByteArray), false) (drawLE code)).2)], .ag k5wv2ow, .c (.str (drawLE code)), .tp [.ag (k1wv2ow code), .c (.int .i64 (addIn ((⟨#[]⟩ : ByteArray), false) (drawLE code)).2)], .ag (k1wv2ow code), .c (.int .i64 (addIn ((⟨#[]⟩ : ByteArray), false) (drawLE code)).2)] (TN 35 (lxs [.ag k5wv2ow, .c (.int .i64 ((y1.1 : Nat) : Int)), .c (.str (drawLE code)), .c (.int .i64 ((ByteArray.size (drawLE code) : Nat) : Int)), .c (.bool true), .c (.hs .no (.int .u8) code), .c (.int .i64 ((y1.1 : Nat) : Int)), .c (.int .i64 (IntKind.wrap .i64 (((y1.1 : Nat) : Int) + 3))), .c (.int .i64 (at0I code (Int.toNat (IntKind.wrap .i64 (((y1.1 : Nat) : Int) + 3))))), .c (.int .i64 (Int.tmod (at0I code (Int.toNat (IntKind.wrap .i64 (((y1.1 : Nat) : Int) + 3)))) 9)), .c (.int .i64 (IntKind.wrap .i64 (1 + (Int.tmod (at0I code (Int.toNat (IntKind.wrap .i64 (((y1.1 : Nat) : Int) + 3)))) 9)))), .c (.int .i64 ((y1.1 : Nat) : Int)), .c (.int .i64 (IntKind.wrap .i64 (1 + (Int.tmod (at0I code (Int.toNat (IntKind.wrap .i64 (((y1.1 : Nat) : Int) + 3)))) 9)))), .c (.int .i64 (IntKind.wrap .i64 (((y1.1 : Nat) : Int) + (IntKind.wrap .i64 (1 + (Int.tmod (at0I code (Int.toNat (IntKind.wrap .i64 (((y1.1 : Nat) : Int) + 3)))) 9)))))), .c (.str (drawLE code)), .c (.int .i64 ((ByteArray.size (drawLE code) : Nat) : Int))] (TN 40 (lxs [.tp [], .tp [], .tp [], .tp [], .tp [], .tp [], .tp [], .tp [], .tp [], .tp [], .tp [], .tp [], .tp [], .tp [], .tp [], .tp [], .tp []] True)))))))))) ∧ (lb (.box [.str y0.1.1, .bool y0.1.2]) ∧ lb (.box [.str y1.2.1.1, .bool y1.2.1.2]) ∧ True) ∧ true = true))) else (∃ _ : Unit, True ∧ ((lxs [.c (.hs .no (.int .u8) code), .tp []] (True ∧ lxs [.c (.str (drawLE code)), .c (.bp 0 0), .c (.int .i64 (addIn ((⟨#[]⟩ : ByteArray), false) (drawLE code)).2), .c (.str y0.2)] (TN 7 (lxs [.c (.bp 1 0), .c (.str y1.2.2), .c (.int .i64 ((y1.1 : Nat) : Int))] (leV (.c (.int .i64 (IntKind.wrap .i64 (1 + (Int.tmod (at0I code (Int.toNat (IntKind.wrap .i64 (((y1.1 : Nat) : Int) + 3)))) 9))))) (.c (.int .i64 ((chK code (drawLE code) (Int.toNat ((y1.1 : Nat) : Int)) : Nat) : Int))) ∧ TN 4 (lxs [.c (.hs .no (.int .u8) code), .c (.bool false), .c (.hs .no (.int .u8) code), .c (.str (drawLE code)), .c (.str (drawLE code)), .c (.int .i64 ((ByteArray.size (drawLE code) : Nat) : Int)), .c (.bool false), .tp [], .tp [], .tp [], .tp [], .tp [.ag (k1wv2ow code), .c (.int .i64 (addIn ((⟨#[]⟩ : ByteArray), false) (drawLE code)).2)], .ag k5wv2ow, .c (.str (drawLE code)), .tp [.ag (k1wv2ow code), .c (.int .i64 (addIn ((⟨#[]⟩ : ByteArray), false) (drawLE code)).2)], .ag (k1wv2ow code), .c (.int .i64 (addIn ((⟨#[]⟩ : ByteArray), false) (drawLE code)).2)] (TN 35 (lxs [.ag k5wv2ow, .c (.int .i64 ((y1.1 : Nat) : Int)), .c (.str (drawLE code)), .c (.int .i64 ((ByteArray.size (drawLE code) : Nat) : Int)), .c (.bool true), .c (.hs .no (.int .u8) code), .c (.int .i64 ((y1.1 : Nat) : Int)), .c (.int .i64 (IntKind.wrap .i64 (((y1.1 : Nat) : Int) + 3))), .c (.int .i64 (at0I code (Int.toNat (IntKind.wrap .i64 (((y1.1 : Nat) : Int) + 3))))), .c (.int .i64 (Int.tmod (at0I code (Int.toNat (IntKind.wrap .i64 (((y1.1 : Nat) : Int) + 3)))) 9)), .c (.int .i64 (IntKind.wrap .i64 (1 + (Int.tmod (at0I code (Int.toNat (IntKind.wrap .i64 (((y1.1 : Nat) : Int) + 3)))) 9)))), .c (.int .i64 ((y1.1 : Nat) : Int)), .c (.int .i64 (IntKind.wrap .i64 (1 + (Int.tmod (at0I code (Int.toNat (IntKind.wrap .i64 (((y1.1 : Nat) : Int) + 3)))) 9)))), .c (.int .i64 (IntKind.wrap .i64 (((y1.1 : Nat) : Int) + (IntKind.wrap .i64 (1 + (Int.tmod (at0I code (Int.toNat (IntKind.wrap .i64 (((y1.1 : Nat) : Int) + 3)))) 9)))))), .c (.str (drawLE code)), .c (.int .i64 ((ByteArray.size (drawLE code) : Nat) : Int))] (TN 40 (lxs [.tp [], .tp [], .tp [], .tp [], .tp [], .tp [], .tp [], .tp [], .tp [], .tp [], .tp [], .tp [], .tp [], .tp [], .tp [], .tp [], .tp []] True)))))))))) ∧ (lb (.box [.str y0.1.1, .bool y0.1.2]) ∧ lb (.box [.str y1.2.1.1, .bool y1.2.1.2]) ∧ True) ∧ true = true))) ∧ ∀ _ : Unit, True → ((true = true ∧ true = true) ∧ (T6 (((0 : Int) ≤ ((y1.1 : Nat) : Int) ∧ (((y1.1 : Nat) : Int) : Int) ≤ (IntKind.wrap .i64 (((y1.1 : Nat) : Int) + ((chK code (drawLE code) (Int.toNat ((y1.1 : Nat) : Int)) : Nat) : Int))) ∧ ((IntKind.wrap .i64 (((y1.1 : Nat) : Int) + ((chK code (drawLE code) (Int.toNat ((y1.1 : Nat) : Int)) : Nat) : Int))) : Int) ≤ ((ByteArray.size (drawLE code) : Nat) : Int)) ∧ (((ByteArray.size y1.2.1.1 ≤ 4000000 ∧ ByteArray.size (ByteArray.extract (drawLE code) (Int.toNat ((y1.1 : Nat) : Int)) (Int.toNat (IntKind.wrap .i64 (((y1.1 : Nat) : Int) + ((chK code (drawLE code) (Int.toNat ((y1.1 : Nat) : Int)) : Nat) : Int))))) ≤ 4000000) ∧ true = true) ∧ (T2 ((k0wv2ow code y1 y0) ∧ ((k0wv2ow code y1 y0))))))))))))) else (T4 (bif (eqS y0.2 y1.2.2) then (T4 (some TypeDesc.bool = some TypeDesc.bool ∧ (T2 (bif (eqO y0.1.2 y1.2.1.2) then (T7 (rB (eqS y0.1.1 y1.2.1.1) true)) else (T2 (rB false true)))))) else (T4 (rB false true)))))))))))))))))))) (by kernel_rfl) ?_
  unfold k3wv2ow k0wv2ow k4wv2ow k5wv2ow k2wv2ow k1wv2ow T12 T2 T3 T4 T5 T6 T7 T8 T9
  have hcd : codeOk code := hpre
  have hc := drawLE_cr code
  have hz := drawLE_size code
  simp only [leB_in, SI2A, eq_self]
  repeat' (with_reducible first | exact trivial | apply And.intro | intro _)
  all_goals first
    | (with_reducible trivial)
    | omega
    | (with_reducible assumption)
    | (with_reducible exact sz1 (by with_reducible assumption))
    | (with_reducible exact sz2 (by with_reducible assumption))
    | (with_reducible exact sz3 (by with_reducible assumption))
    | (with_reducible exact sz4 (by with_reducible assumption))
    | (with_reducible exact take_nn _)
    | (with_reducible exact ln_b1 (by with_reducible assumption) (by with_reducible assumption))
    | (with_reducible exact ln_b2 (by with_reducible assumption) (by with_reducible assumption))
    | (with_reducible exact ln_s1 (by with_reducible assumption) (by with_reducible assumption))
    | (with_reducible exact ln_s2 (by with_reducible assumption))
    | (with_reducible exact ln_at hcd (by with_reducible assumption) (by with_reducible assumption) (by with_reducible assumption))
    | (with_reducible exact ln_go (by with_reducible assumption) (by with_reducible assumption) (by with_reducible assumption))
    | (with_reducible exact ln_br (by with_reducible assumption) (by with_reducible assumption))
    | (with_reducible exact (ln_no (by with_reducible assumption) (by with_reducible assumption)).elim)
    | (with_reducible exact ln_out (by with_reducible assumption) (by with_reducible assumption) (by with_reducible assumption) (by with_reducible assumption))
    | (with_reducible exact ln_in hc (by with_reducible assumption) (by with_reducible assumption) (by with_reducible assumption))
    | (with_reducible exact ln_k1 hcd (by with_reducible assumption) (by with_reducible assumption) (by with_reducible assumption))
    | (with_reducible exact ln_k2 hcd (by with_reducible assumption) (by with_reducible assumption) (by with_reducible assumption))
    | (with_reducible exact ln_o0 _)
    | (with_reducible exact ln_0 hc (by with_reducible assumption))
    | (with_reducible exact congrArg Prod.fst (ln_fin (by with_reducible assumption) (by with_reducible assumption) (by with_reducible assumption)).1)
    | (with_reducible exact absurd (congrArg Prod.snd (ln_fin (by with_reducible assumption) (by with_reducible assumption) (by with_reducible assumption)).1) (by with_reducible assumption))
    | (with_reducible exact absurd (ln_fin (by with_reducible assumption) (by with_reducible assumption) (by with_reducible assumption)).2 (by with_reducible assumption))
    | (show 0 ≤ 4000000; decide)
    | (rename_i h; exact leI_false.2 (by show ¬ ((drawLE code).size : Int) ≤ 600; omega))
end Go.Proofs.YtbpapaponnfagaaGreatDoor
