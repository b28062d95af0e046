/-
  What a filter admits.
  No condition but what the arguments' cells hold. Printed by vcgen.py.
-/
import Derived.Test.YtigebfhekmjhmaaGreatXBlName
set_option linter.unusedSimpArgs false
set_option linter.unusedVariables false
namespace Go.Proofs.YtigebfhekmjhmaaGreat
open Go.ChangeShapes Go.WideShapes Go.ChangeAt Go.RowKit Go.Joins Go.Deep
open GoRep (rep bulk)

theorem ba_ext {a b : ByteArray} : a = b ↔ a.data.toList = b.data.toList := by
  constructor
  · rintro rfl; rfl
  · intro h
    exact ByteArray.ext (Array.toList_inj.1 h)
theorem ba_take (s : ByteArray) (n : Nat) : (ByteArray.extract s 0 n).data.toList = s.data.toList.take n := by
  rw [ByteArray.data_extract, Array.toList_extract]
  simp [List.extract]
theorem ba_app (a b : ByteArray) : (a ++ b).data.toList = a.data.toList ++ b.data.toList := by
  rw [ByteArray.data_append, Array.toList_append]
theorem ba_len (s : ByteArray) : s.data.toList.length = s.size := rfl
theorem pre_slash (name top : ByteArray) : (top.size + 1 ≤ name.size ∧ ByteArray.extract name 0 (top.size + 1) = top ++ (⟨#[47]⟩ : ByteArray)) ↔ (top.size < name.size ∧ ByteArray.extract name 0 top.size = top ∧ byteAt name top.size = 47) := by
  simp only [ba_ext, ba_take, ba_app]
  constructor
  · rintro ⟨h1, h2⟩
    have hl : top.size < name.data.toList.length := by rw [ba_len]; omega
    rw [List.take_succ_eq_append_getElem hl] at h2
    have h3 := List.append_inj h2 (by rw [List.length_take, ba_len, ba_len]; omega)
    refine ⟨by omega, h3.1, ?_⟩
    unfold byteAt
    rw [List.getD_eq_getElem?_getD, List.getElem?_eq_getElem hl]
    have : name.data.toList[top.size] = 47 := by simpa using h3.2
    rw [Option.getD_some, this]
    rfl
  · rintro ⟨h1, h2, h3⟩
    have hl : top.size < name.data.toList.length := by rw [ba_len]; omega
    refine ⟨by omega, ?_⟩
    rw [List.take_succ_eq_append_getElem hl, h2]
    congr 1
    unfold byteAt at h3
    rw [List.getD_eq_getElem?_getD, List.getElem?_eq_getElem hl, Option.getD_some] at h3
    have h4 : (name.data.toList[top.size]).toNat = 47 := by omega
    have h5 : name.data.toList[top.size] = 47 := UInt8.toNat_inj.1 h4
    rw [h5]
def hasPre (s p : ByteArray) : Bool := decide (p.size ≤ s.size) && eqS (ByteArray.extract s 0 p.size) p
def underB (name top : ByteArray) : Bool := nameOk name && (nameOk top && (eqS name top || hasPre name (top ++ (⟨#[47]⟩ : ByteArray))))
theorem hasPre_slash (name top : ByteArray) : hasPre name (top ++ (⟨#[47]⟩ : ByteArray)) = (decide (top.size < name.size) && (eqS (ByteArray.extract name 0 top.size) top && eqI (byteAt name top.size) 47)) := by
  have hs : (top ++ (⟨#[47]⟩ : ByteArray)).size = top.size + 1 := by rw [ByteArray.size_append]; rfl
  rw [Bool.eq_iff_iff]
  unfold hasPre
  simp only [Bool.and_eq_true, decide_eq_true_eq, eqS_true, eqI_true, hs]
  exact pre_slash name top
def coversB (s : GScope) (sel name : ByteArray) : Bool :=
  if s.1 = 1 then eqS name sel && !eqS name (⟨#[]⟩ : ByteArray)
  else if s.1 = 2 then nameOk name
  else if s.1 = 3 then List.any s.2.1 (fun z0 : ByteArray => underB name z0)
  else if s.1 = 4 then List.any s.2.1 (fun z0 : ByteArray => eqS name z0)
  else false
def admitsB (f : GFilter) (sel name : ByteArray) (ev : Int) : Bool := f.1 && List.any f.2 (fun z0 : GScope => coversB z0 sel name && neI (IntKind.wrap .i64 (((BitVec.ofInt (IntKind.bits .i64) z0.2.2 &&& BitVec.ofInt (IntKind.bits .i64) ev).toNat : Nat))) 0)
set_option maxRecDepth 100000 in
set_option maxHeartbeats 400000 in
theorem b_internal_stringslite_HasPrefix (s : ByteArray) (p : ByteArray) : BCalls Tryz.prog 290 [.c (.str s), .c (.str p)] (.c (.bool (hasPre s p))) [] := by
  refine bcalls_of (T := ⟨[], [], [], [], none, fun _ => [], 0, [], []⟩) (L := L0) Tryz.func290 ⟨⟨rfl, rfl⟩, rfl⟩ (fun hwf => ?_)
  refine Eq.mpr (β := (True ∧ (True ∧ (True ∧ (True ∧ (True ∧ (True ∧ (True ∧ (bif (geI ((ByteArray.size s : Nat) : Int) ((ByteArray.size p : Nat) : Int)) then (True ∧ (True ∧ (True ∧ (((0 : Int) ≤ 0 ∧ (0 : Int) ≤ ((ByteArray.size p : Nat) : Int) ∧ (((ByteArray.size p : Nat) : Int) : Int) ≤ ((ByteArray.size s : Nat) : Int)) ∧ (True ∧ (True ∧ (True ∧ (True ∧ ((true = true ∧ leC (.bool (eqS (ByteArray.extract s (Int.toNat 0) (Int.toNat ((ByteArray.size p : Nat) : Int))) p)) (.bool (hasPre s p))) ∧ true = true))))))))) else (True ∧ (True ∧ ((true = true ∧ leC (.bool false) (.bool (hasPre s p))) ∧ true = true)))))))))))) (by kernel_rfl) ?_
  simp only [SI2A, eq_self]
  repeat' (first | apply And.intro | intro _)
  all_goals first
    | trivial
    | omega
    | (unfold hasPre; rw [decide_eq_false (by omega)]; rfl)
    | (unfold hasPre; rw [decide_eq_true (by omega)]; simp_all [eqS]; done)
def e_internal_stringslite_HasPrefix : Entry Tryz.prog := ⟨290, [.v tyStr, .v tyStr], fun x => True, fun x => .c (.bool (hasPre x.1 x.2.1)), fun _ => [], fun x hx => b_internal_stringslite_HasPrefix x.1 x.2.1, Tryz.call290⟩
set_option maxRecDepth 100000 in
set_option maxHeartbeats 400000 in
theorem b_strings_HasPrefix (s : ByteArray) (p : ByteArray) : BCalls Tryz.prog 259 [.c (.str s), .c (.str p)] (.c (.bool (hasPre s p))) [] := by
  refine bcalls_of (T := ⟨[e_internal_stringslite_HasPrefix], [], [], [], none, fun _ => [], 0, [], []⟩) (L := L0) Tryz.func259 ⟨⟨rfl, rfl⟩, rfl⟩ (fun hwf => ?_)
  refine Eq.mpr (β := (True ∧ (True ∧ (True ∧ ((True ∧ true = true) ∧ (True ∧ ((true = true ∧ leC (.bool (hasPre s p)) (.bool (hasPre s p))) ∧ true = true))))))) (by kernel_rfl) ?_
  simp only [SI2A, eq_self]
  repeat' (first | apply And.intro | intro _)
  all_goals first
    | trivial
    | omega
    | (unfold hasPre; rw [decide_eq_false (by omega)]; rfl)
    | (unfold hasPre; rw [decide_eq_true (by omega)]; simp_all [eqS]; done)
def e_strings_HasPrefix : Entry Tryz.prog := ⟨259, [.v tyStr, .v tyStr], fun x => True, fun x => .c (.bool (hasPre x.1 x.2.1)), fun _ => [], fun x hx => b_strings_HasPrefix x.1 x.2.1, Tryz.call259⟩
set_option maxRecDepth 100000 in
set_option maxHeartbeats 400000 in
theorem b_i_Under (name : ByteArray) (top : ByteArray) : BCalls Tryz.prog 207 [.c (.str name), .c (.str top)] (.c (.bool (underB name top))) [] := by
  refine bcalls_of (T := ⟨[e_i_NameOk, e_strings_HasPrefix], [], [], [], none, fun _ => [], 0, [], []⟩) (L := L0) Tryz.func207 ⟨⟨rfl, rfl⟩, rfl⟩ (fun hwf => ?_)
  refine Eq.mpr (β := (T2 ((True ∧ true = true) ∧ (True ∧ (bif nameOk name then (True ∧ ((True ∧ true = true) ∧ (T2 (bif nameOk top then (T4 (bif (eqS name top) then (T3 ((true = true ∧ leC (.bool true) (.bool (underB name top))) ∧ true = true)) else (T2 (ByteArray.size top + ByteArray.size (⟨#[47]⟩ : ByteArray) ≤ maxLen ∧ ((True ∧ true = true) ∧ (T3 ((true = true ∧ leC (.bool (hasPre name (top ++ (⟨#[47]⟩ : ByteArray)))) (.bool (underB name top))) ∧ true = true))))))) else (T2 ((true = true ∧ leC (.bool false) (.bool (underB name top))) ∧ true = true)))))) else (T4 ((true = true ∧ leC (.bool false) (.bool (underB name top))) ∧ true = true))))))) (by kernel_rfl) ?_
  unfold T2 T3 T4
  have hm2 : ∀ s : ByteArray, nameOk s = true → s.size ≤ 12 := fun s h => (of_decide_eq_true h).2.2
  have hm3 : (top ++ (⟨#[47]⟩ : ByteArray)).size = top.size + 1 := by rw [ByteArray.size_append]; rfl
  simp only [btw_iff, btw_not, flagsOk, Bool.not_true, Bool.not_false, SI2A, eq_self]
  repeat' (first | apply And.intro | intro _)
  all_goals first
    | trivial
    | omega
    | (have hm4 := hm2 top (by assumption); show top.size + 1 ≤ maxLen; unfold maxLen; omega)
    | (simp_all [underB, eqS]; done)
def e_i_Under : Entry Tryz.prog := ⟨207, [.v tyStr, .v tyStr], fun x => True, fun x => .c (.bool (underB x.1 x.2.1)), fun _ => [], fun x hx => b_i_Under x.1 x.2.1, Tryz.call207⟩
def k0xrln0 (name : ByteArray) (top : ByteArray) : Prop := (True ∧ ((true = true ∧ leC (.bool false) (.bool (underB name top))) ∧ true = true))
set_option maxRecDepth 100000 in
set_option maxHeartbeats 400000 in
theorem b_s_Under (name : ByteArray) (top : ByteArray) : BCalls Tryz.prog 255 [.c (.str name), .c (.str top)] (.c (.bool (underB name top))) [] := by
  refine bcalls_of (T := ⟨[e_s_NameOk], [], [], [], none, fun _ => [], 0, [], []⟩) (L := L0) Tryz.func255 ⟨⟨rfl, rfl⟩, rfl⟩ (fun hwf => ?_)
  refine Eq.mpr (β := (T2 ((True ∧ true = true) ∧ (T2 (bif (!(nameOk name)) then (True ∧ (k0xrln0 name top)) else (True ∧ ((True ∧ true = true) ∧ (T2 (bif (!(nameOk top)) then (k0xrln0 name top) else (T4 (bif (eqS name top) then (T2 ((true = true ∧ leC (.bool true) (.bool (underB name top))) ∧ true = true)) else (T6 (bif (gtI ((ByteArray.size name : Nat) : Int) ((ByteArray.size top : Nat) : Int)) then (T3 (((0 : Int) ≤ 0 ∧ (0 : Int) ≤ ((ByteArray.size top : Nat) : Int) ∧ (((ByteArray.size top : Nat) : Int) : Int) ≤ ((ByteArray.size name : Nat) : Int)) ∧ (T4 (bif (eqS (ByteArray.extract name (Int.toNat 0) (Int.toNat ((ByteArray.size top : Nat) : Int))) top) then (T3 (((0 : Int) ≤ ((ByteArray.size top : Nat) : Int) ∧ (((ByteArray.size top : Nat) : Int) : Int) < ((ByteArray.size name : Nat) : Int)) ∧ (T4 ((true = true ∧ leC (.bool (eqI (byteAt name (Int.toNat ((ByteArray.size top : Nat) : Int))) 47)) (.bool (underB name top))) ∧ true = true)))) else (T2 (k0xrln0 name top)))))) else (T4 (k0xrln0 name top))))))))))))))) (by kernel_rfl) ?_
  unfold k0xrln0 T2 T3 T4 T6
  simp only [btw_iff, btw_not, flagsOk, Bool.not_true, Bool.not_false, SI2A, eq_self]
  repeat' (first | apply And.intro | intro _)
  all_goals first
    | trivial
    | omega
    | (simp_all [underB, hasPre_slash, eqS]; done)
    | (simp_all [underB, hasPre_slash, eqS]; omega)
def e_s_Under : Entry Tryz.prog := ⟨255, [.v tyStr, .v tyStr], fun x => True, fun x => .c (.bool (underB x.1 x.2.1)), fun _ => [], fun x hx => b_s_Under x.1 x.2.1, Tryz.call255⟩
def L_slices_Index_string_string (s : List ByteArray) (v : ByteArray) : Nat → List AV → Mem → LoopA
  | 2, tm, M => ⟨Nat, fun y => (setA tm [(4, .any), (5, .any), (8, .c (.int .i64 ((y : Nat) : Int))), (9, .any), (10, .any), (11, .any), (12, .any), (13, .any), (14, .any), (15, .any), (16, .any), (17, .any), (18, .any)], M), fun y => (y ≤ List.length s ∧ ∀ j, j < y → eqS v (nth_String s j) = false), fun y => (List.length s - y)⟩
  | _, _, _ => ⟨Unit, fun _ => ([], []), fun _ => False, fun _ => 0⟩
set_option maxRecDepth 100000 in
set_option maxHeartbeats 400000 in
theorem b_slices_Index_string_string (s : List ByteArray) (v : ByteArray) : BCalls Tryz.prog 260 [.c (.hs .no tyStr s), .c (.str v)] (.c (.int .i64 (idxL (fun z0 : ByteArray => eqS v z0) s))) [] := by
  refine bcalls_of (T := ⟨[], [], [], [], none, fun _ => [], 0, [], []⟩) (L := (L_slices_Index_string_string s v)) Tryz.func260 ⟨⟨rfl, rfl⟩, rfl⟩ (fun hwf => ?_)
  refine Eq.mpr (β := (T4 ((∃ q : Nat, (q ≤ List.length s ∧ ∀ j, j < q → eqS v (nth_String s j) = false) ∧ ((leV (.c (.hs .no tyStr s)) (.c (.hs .no tyStr s)) ∧ leV (.c (.str v)) (.c (.str v)) ∧ leV (.tp []) (.tp []) ∧ leV (.tp []) (.tp []) ∧ True ∧ True ∧ leV (.c (.hs .no tyStr s)) (.c (.hs .no tyStr s)) ∧ leV (.c (.int .i64 ((List.length s : Nat) : Int))) (.c (.int .i64 ((List.length s : Nat) : Int))) ∧ leV (.c (.int .i64 0)) (.c (.int .i64 ((q : Nat) : Int))) ∧ True ∧ True ∧ True ∧ True ∧ True ∧ True ∧ True ∧ True ∧ True ∧ True ∧ True) ∧ (True) ∧ true = true)) ∧ ∀ y0 : Nat, (y0 ≤ List.length s ∧ ∀ j, j < y0 → eqS v (nth_String s j) = false) → (True ∧ (bif (ltI ((y0 : Nat) : Int) ((List.length s : Nat) : Int)) then (T5 (((1 : Nat) = 1 ∧ (0 : Int) ≤ ((y0 : Nat) : Int) ∧ (((y0 : Nat) : Int) : Int) < ((List.length s : Nat) : Int)) ∧ (T2 (bif (eqS v (nth_String s (Int.toNat ((y0 : Nat) : Int)))) then (T2 ((true = true ∧ leC (.int .i64 ((y0 : Nat) : Int)) (.int .i64 (idxL (fun z0 : ByteArray => eqS v z0) s))) ∧ true = true)) else (T2 (∃ y0' : Nat, (y0' ≤ List.length s ∧ ∀ j, j < y0' → eqS v (nth_String s j) = false) ∧ (List.length s - y0') < (List.length s - y0) ∧ ((leV (.c (.hs .no tyStr s)) (.c (.hs .no tyStr s)) ∧ leV (.c (.str v)) (.c (.str v)) ∧ leV (.tp []) (.tp []) ∧ leV (.tp []) (.tp []) ∧ True ∧ True ∧ leV (.c (.hs .no tyStr s)) (.c (.hs .no tyStr s)) ∧ leV (.c (.int .i64 ((List.length s : Nat) : Int))) (.c (.int .i64 ((List.length s : Nat) : Int))) ∧ leV (.c (.int .i64 (IntKind.wrap .i64 (((y0 : Nat) : Int) + 1)))) (.c (.int .i64 ((y0' : Nat) : Int))) ∧ True ∧ True ∧ True ∧ True ∧ True ∧ True ∧ True ∧ True ∧ True ∧ True ∧ True) ∧ (True) ∧ true = true))))))) else (True ∧ ((true = true ∧ leC (.int .i64 (-1)) (.int .i64 (idxL (fun z0 : ByteArray => eqS v z0) s))) ∧ true = true))))))) (by kernel_rfl) ?_
  unfold T2 T4 T5
  simp only [SI2A, eq_self]
  have hm : List.length s ≤ maxLen := hwf.1.1
  refine ⟨⟨0, ⟨Nat.zero_le _, allN_zero⟩, rfl⟩, fun k hk => ⟨fun hlt => ⟨by omega, fun hp => ?_, fun hp => ?_⟩, fun hge => ?_⟩⟩
  · have hk' : k < s.length := by omega
    exact (idxL_nth (t := tyStr) (p := fun z0 : ByteArray => eqS v z0) (xs := s) hk' (fun j hj => eqS_false.2 (hk.2 j hj)) (eqS_true.2 hp)).symm
  · exact ⟨k + 1, ⟨by omega, allN_step hk.2 hp⟩, by omega, wrapN (by omega)⟩
  · obtain rfl : k = s.length := by omega
    exact (idxL_nth_none (t := tyStr) (p := fun z0 : ByteArray => eqS v z0) (fun j hj => eqS_false.2 (hk.2 j hj))).symm
def e_slices_Index_string_string : Entry Tryz.prog := ⟨260, [.v (.list tyStr), .v tyStr], fun x => True, fun x => .c (.int .i64 (idxL (fun z0 : ByteArray => eqS x.2.1 z0) x.1)), fun _ => [], fun x hx => b_slices_Index_string_string x.1 x.2.1, Tryz.call260⟩
set_option maxRecDepth 100000 in
set_option maxHeartbeats 400000 in
theorem b_slices_Contains_string_string (s : List ByteArray) (v : ByteArray) : BCalls Tryz.prog 208 [.c (.hs .no tyStr s), .c (.str v)] (.c (.bool (List.any s (fun z0 : ByteArray => eqS v z0)))) [] := by
  refine bcalls_of (T := ⟨[e_slices_Index_string_string], [], [], [], none, fun _ => [], 0, [], []⟩) (L := L0) Tryz.func208 ⟨⟨rfl, rfl⟩, rfl⟩ (fun hwf => ?_)
  refine Eq.mpr (β := (True ∧ (True ∧ (True ∧ ((True ∧ true = true) ∧ (True ∧ (True ∧ ((true = true ∧ leC (.bool (geI (idxL (fun z0 : ByteArray => eqS v z0) s) 0)) (.bool (List.any s (fun z0 : ByteArray => eqS v z0)))) ∧ true = true)))))))) (by kernel_rfl) ?_
  simp only [SI2A, eq_self]
  first | exact (by rw [Bool.eq_iff_iff, geI_true]; exact idxL_ge s) | exact ⟨trivial, by rw [Bool.eq_iff_iff, geI_true]; exact idxL_ge s⟩
def e_slices_Contains_string_string : Entry Tryz.prog := ⟨208, [.v (.list tyStr), .v tyStr], fun x => True, fun x => .c (.bool (List.any x.1 (fun z0 : ByteArray => eqS x.2.1 z0))), fun _ => [], fun x hx => b_slices_Contains_string_string x.1 x.2.1, Tryz.call208⟩
set_option maxRecDepth 100000 in
set_option maxHeartbeats 400000 in
theorem b_i_Covers_1 (top : ByteArray) (name : ByteArray) : BCalls Tryz.prog 206 [.c (.str top), .c (.ep .no tyStr ([name]) 0 0)] (.c (.bool (underB name top))) [] := by
  refine bcalls_of (T := ⟨[e_i_Under], [], [], [], none, fun _ => [], 0, [], []⟩) (L := L0) Tryz.func206 ⟨⟨rfl, rfl⟩, rfl⟩ (fun hwf => ?_)
  refine Eq.mpr (β := (True ∧ (True ∧ (True ∧ ((True ∧ true = true) ∧ (True ∧ ((true = true ∧ leC (.bool (underB name top)) (.bool (underB name top))) ∧ true = true))))))) (by kernel_rfl) ?_
  simp only [SIA, eq_self]
  repeat' (first | apply And.intro | intro _)
  all_goals (first
    | trivial
    | omega
    | (rw [Bool.eq_iff_iff]; simp_all [Prod.ext_iff, EQA]; done)
    | (simp_all [Prod.ext_iff, EQA]; done))
def e_i_Covers_1 : Entry Tryz.prog := ⟨206, [.v tyStr, .p tyStr], fun x => True, fun x => .c (.bool (underB x.2.1 x.1)), fun _ => [], fun x hx => b_i_Covers_1 x.1 x.2.1, Tryz.call206⟩
set_option maxRecDepth 100000 in
set_option maxHeartbeats 400000 in
theorem b_i_Covers (s : GScope) (sel : ByteArray) (name : ByteArray) : BCalls Tryz.prog 144 [.ag [.int .i64 s.1, .hs .no tyStr s.2.1, .int .i64 s.2.2], .c (.str sel), .c (.str name)] (.c (.bool (coversB s sel name))) [] := by
  refine bcalls_of (T := ⟨[e_i_NameOk, e_i_Covers_1, e_slices_Contains_string_string], [e_slices_ContainsFunc_string_string], [], [], none, fun _ => [], 0, [], []⟩) (L := L0) Tryz.func144 ⟨⟨rfl, rfl⟩, rfl⟩ (fun hwf => ?_)
  refine Eq.mpr (β := (T7 (bif (eqI s.1 1) then (T4 (bif (eqS name sel) then (T4 ((true = true ∧ leC (.bool (!eqS name (⟨#[]⟩ : ByteArray))) (.bool (coversB s sel name))) ∧ true = true)) else (T2 ((true = true ∧ leC (.bool false) (.bool (coversB s sel name))) ∧ true = true)))) else (T2 (bif (eqI s.1 2) then (True ∧ ((True ∧ true = true) ∧ (True ∧ ((true = true ∧ leC (.bool (nameOk name)) (.bool (coversB s sel name))) ∧ true = true)))) else (T2 (bif (eqI s.1 3) then (T3 (((∀ z0 : ByteArray, True ∧ True) ∧ ∀ (_ : ByteArray → Bool) (_ : List ByteArray), true = true) ∧ (True ∧ ((true = true ∧ leC (.bool (List.any s.2.1 (fun z0 : ByteArray => underB name z0))) (.bool (coversB s sel name))) ∧ true = true)))) else (T2 (bif (eqI s.1 4) then (T3 ((True ∧ true = true) ∧ (True ∧ ((true = true ∧ leC (.bool (List.any s.2.1 (fun z0 : ByteArray => eqS name z0))) (.bool (coversB s sel name))) ∧ true = true)))) else (True ∧ ((true = true ∧ leC (.bool false) (.bool (coversB s sel name))) ∧ true = true))))))))))) (by kernel_rfl) ?_
  unfold T2 T3 T4 T7
  simp only [btw_iff, btw_not, flagsOk, Bool.not_true, Bool.not_false, SI2A, eq_self]
  repeat' (first | apply And.intro | intro _)
  all_goals first
    | trivial
    | omega
    | contradiction
    | exact ⟨rfl, rfl⟩
    | (show _ + 1 ≤ rowMax; unfold rowMax; omega)
    | (simp only [coversB, *, eq_self, if_true, if_false, and_true, true_and, and_self, not_true, not_false, false_and, and_false, or_true, true_or, or_false, false_or, or_self, Bool.false_eq_true, reduceCtorEq, reduceIte, Int.reduceEq, not_false_eq_true, not_true_eq_false, ite_true, ite_false, Bool.and_true, Bool.true_and, Bool.and_false, Bool.false_and, Bool.or_true, Bool.true_or, Bool.or_false, Bool.false_or, Bool.not_true, Bool.not_false]; done)
    | (simp_all [coversB, eqI, neI, geI, eqS]; done)
def e_i_Covers : Entry Tryz.prog := ⟨144, [.s tyScope, .v tyStr, .v tyStr], fun x => True, fun x => .c (.bool (coversB x.1 x.2.1 x.2.2.1)), fun _ => [], fun x hx => b_i_Covers x.1 x.2.1 x.2.2.1, Tryz.call144⟩
def L_s_l1Has (list : List ByteArray) (v : ByteArray) : Nat → List AV → Mem → LoopA
  | 2, tm, M => ⟨Nat, fun y => (setA tm [(4, .any), (5, .c (.int .i64 ((y : Nat) : Int))), (6, .any), (7, .any), (8, .any), (9, .any), (10, .any), (11, .any), (12, .any), (13, .any), (14, .any), (15, .any), (16, .any), (17, .any)], M), fun y => (y ≤ List.length list ∧ ∀ j, j < y → eqS (nth_String list j) v = false), fun y => (List.length list - y)⟩
  | _, _, _ => ⟨Unit, fun _ => ([], []), fun _ => False, fun _ => 0⟩
set_option maxRecDepth 100000 in
set_option maxHeartbeats 400000 in
theorem b_s_l1Has (list : List ByteArray) (v : ByteArray) : BCalls Tryz.prog 256 [.c (.hs .no tyStr list), .c (.str v)] (.c (.bool (List.any list (fun z0 : ByteArray => eqS z0 v)))) [] := by
  refine bcalls_of (T := ⟨[], [], [], [], none, fun _ => [], 0, [], []⟩) (L := (L_s_l1Has list v)) Tryz.func256 ⟨⟨rfl, rfl⟩, rfl⟩ (fun hwf => ?_)
  refine Eq.mpr (β := (T2 ((∃ q : Nat, (q ≤ List.length list ∧ ∀ j, j < q → eqS (nth_String list j) v = false) ∧ ((leV (.c (.hs .no tyStr list)) (.c (.hs .no tyStr list)) ∧ leV (.c (.str v)) (.c (.str v)) ∧ leV (.tp []) (.tp []) ∧ leV (.tp []) (.tp []) ∧ True ∧ leV (.c (.int .i64 0)) (.c (.int .i64 ((q : Nat) : Int))) ∧ True ∧ True ∧ True ∧ True ∧ True ∧ True ∧ True ∧ True ∧ True ∧ True ∧ True ∧ True ∧ True) ∧ (True) ∧ true = true)) ∧ ∀ y0 : Nat, (y0 ≤ List.length list ∧ ∀ j, j < y0 → eqS (nth_String list j) v = false) → (T4 (bif (ltI ((y0 : Nat) : Int) ((List.length list : Nat) : Int)) then (T2 (((1 : Nat) = 1 ∧ (0 : Int) ≤ ((y0 : Nat) : Int) ∧ (((y0 : Nat) : Int) : Int) < ((List.length list : Nat) : Int)) ∧ (T3 (bif (eqS (nth_String list (Int.toNat ((y0 : Nat) : Int))) v) then (True ∧ ((true = true ∧ leC (.bool true) (.bool (List.any list (fun z0 : ByteArray => eqS z0 v)))) ∧ true = true)) else (T3 (∃ y0' : Nat, (y0' ≤ List.length list ∧ ∀ j, j < y0' → eqS (nth_String list j) v = false) ∧ (List.length list - y0') < (List.length list - y0) ∧ ((leV (.c (.hs .no tyStr list)) (.c (.hs .no tyStr list)) ∧ leV (.c (.str v)) (.c (.str v)) ∧ leV (.tp []) (.tp []) ∧ leV (.tp []) (.tp []) ∧ True ∧ leV (.c (.int .i64 (IntKind.wrap .i64 (((y0 : Nat) : Int) + 1)))) (.c (.int .i64 ((y0' : Nat) : Int))) ∧ True ∧ True ∧ True ∧ True ∧ True ∧ True ∧ True ∧ True ∧ True ∧ True ∧ True ∧ True ∧ True) ∧ (True) ∧ true = true))))))) else (True ∧ ((true = true ∧ leC (.bool false) (.bool (List.any list (fun z0 : ByteArray => eqS z0 v)))) ∧ true = true))))))) (by kernel_rfl) ?_
  unfold T2 T3 T4
  simp only [btw_iff, btw_not, flagsOk, Bool.not_true, Bool.not_false, SI2A, eq_self]
  have hm : List.length list ≤ maxLen := hwf.1.1
  refine ⟨⟨0, ⟨Nat.zero_le _, allN_zero⟩, rfl⟩, fun k hk => ⟨fun hlt => ⟨by omega, fun hp => ?_, fun hp => ?_⟩, fun hge => ?_⟩⟩
  · exact (any_at_nth (t := tyStr) (p := fun z0 : ByteArray => eqS z0 v) (Int.ofNat_lt.1 hlt) (eqS_true.2 hp)).symm
  · exact ⟨k + 1, ⟨by omega, allN_step hk.2 hp⟩, by omega, wrapN (by omega)⟩
  · obtain rfl : k = list.length := by omega
    exact (any_of_nth (t := tyStr) (p := fun z0 : ByteArray => eqS z0 v) (fun j hj => eqS_false.2 (hk.2 j hj))).symm
def e_s_l1Has : Entry Tryz.prog := ⟨256, [.v (.list tyStr), .v tyStr], fun x => True, fun x => .c (.bool (List.any x.1 (fun z0 : ByteArray => eqS z0 x.2.1))), fun _ => [], fun x hx => b_s_l1Has x.1 x.2.1, Tryz.call256⟩
theorem cov3 {s : GScope} {sel name : ByteArray} (h : s.1 = 3) : coversB s sel name = List.any s.2.1 (fun z0 : ByteArray => underB name z0) := by
  unfold coversB
  rw [if_neg (by omega), if_neg (by omega), if_pos h]
theorem cov4 {s : GScope} {sel name : ByteArray} (h : s.1 = 4) : coversB s sel name = List.any s.2.1 (fun z0 : ByteArray => eqS z0 name) := by
  unfold coversB
  rw [if_neg (by omega), if_neg (by omega), if_neg (by omega), if_pos h]
  congr 1
  funext z
  unfold eqS
  rw [decide_eq_decide]
  exact ⟨Eq.symm, Eq.symm⟩
def L_s_Covers (s : GScope) (sel : ByteArray) (name : ByteArray) : Nat → List AV → Mem → LoopA
  | 8, tm, M => ⟨Nat, fun y => (setA tm [(6, .any), (7, .c (.int .i64 ((y : Nat) : Int))), (25, .any), (26, .any), (27, .any), (28, .any), (29, .any), (30, .any), (31, .any), (32, .any), (33, .any), (34, .any), (35, .any), (36, .any), (37, .any), (38, .any)], M), fun y => (y ≤ List.length s.2.1 ∧ ∀ j, j < y → underB name (nth_String s.2.1 j) = false), fun y => (List.length s.2.1 - y)⟩
  | _, _, _ => ⟨Unit, fun _ => ([], []), fun _ => False, fun _ => 0⟩
def k0soupk (s : GScope) : List AC := [.int .i64 s.1, .hs .no tyStr s.2.1, .int .i64 s.2.2]
set_option maxRecDepth 100000 in
set_option maxHeartbeats 400000 in
theorem b_s_Covers (s : GScope) (sel : ByteArray) (name : ByteArray) : BCalls Tryz.prog 202 [.ag [.int .i64 s.1, .hs .no tyStr s.2.1, .int .i64 s.2.2], .c (.str sel), .c (.str name)] (.c (.bool (coversB s sel name))) [] := by
  refine bcalls_of (T := ⟨[e_s_NameOk, e_s_Under, e_s_l1Has], [], [], [], none, fun _ => [], 0, [], []⟩) (L := (L_s_Covers s sel name)) Tryz.func202 ⟨⟨rfl, rfl⟩, rfl⟩ (fun hwf => ?_)
  refine Eq.mpr (β := (T6 (bif (eqI s.1 1) then (T4 (bif (eqS name sel) then (T4 ((true = true ∧ leC (.bool (!eqS name (⟨#[]⟩ : ByteArray))) (.bool (coversB s sel name))) ∧ true = true)) else (T2 ((true = true ∧ leC (.bool false) (.bool (coversB s sel name))) ∧ true = true)))) else (T2 (bif (eqI s.1 2) then (True ∧ ((True ∧ true = true) ∧ (True ∧ ((true = true ∧ leC (.bool (nameOk name)) (.bool (coversB s sel name))) ∧ true = true)))) else (T2 (bif (eqI s.1 3) then (True ∧ ((∃ q : Nat, (q ≤ List.length s.2.1 ∧ ∀ j, j < q → underB name (nth_String s.2.1 j) = false) ∧ ((leV (.ag (k0soupk s)) (.ag (k0soupk s)) ∧ leV (.c (.str sel)) (.c (.str sel)) ∧ leV (.c (.str name)) (.c (.str name)) ∧ leV (.c (.bp 0 0)) (.c (.bp 0 0)) ∧ leV (.tp []) (.tp []) ∧ leV (.tp []) (.tp []) ∧ True ∧ leV (.c (.int .i64 0)) (.c (.int .i64 ((q : Nat) : Int))) ∧ leV (.c (.bp 0 0)) (.c (.bp 0 0)) ∧ leV (.c (.int .i64 s.1)) (.c (.int .i64 s.1)) ∧ leV (.c (.bool false)) (.c (.bool false)) ∧ leV (.c (.bool (eqI s.1 1))) (.c (.bool (eqI s.1 1))) ∧ leV (.tp []) (.tp []) ∧ leV (.tp []) (.tp []) ∧ leV (.tp []) (.tp []) ∧ leV (.tp []) (.tp []) ∧ leV (.tp []) (.tp []) ∧ leV (.tp []) (.tp []) ∧ leV (.tp []) (.tp []) ∧ leV (.c (.bool false)) (.c (.bool false)) ∧ leV (.c (.bool (eqI s.1 2))) (.c (.bool (eqI s.1 2))) ∧ leV (.tp []) (.tp []) ∧ leV (.tp []) (.tp []) ∧ leV (.c (.bool true)) (.c (.bool true)) ∧ leV (.c (.bool (eqI s.1 3))) (.c (.bool (eqI s.1 3))) ∧ True ∧ True ∧ True ∧ True ∧ True ∧ True ∧ True ∧ True ∧ True ∧ True ∧ True ∧ True ∧ True ∧ True ∧ leV (.tp []) (.tp []) ∧ leV (.tp []) (.tp []) ∧ leV (.tp []) (.tp []) ∧ leV (.tp []) (.tp []) ∧ leV (.tp []) (.tp []) ∧ leV (.tp []) (.tp []) ∧ True) ∧ (leB (.box (k0soupk s)) (.box (k0soupk s)) ∧ True) ∧ true = true)) ∧ ∀ y0 : Nat, (y0 ≤ List.length s.2.1 ∧ ∀ j, j < y0 → underB name (nth_String s.2.1 j) = false) → (T5 (bif (ltI ((y0 : Nat) : Int) ((List.length s.2.1 : Nat) : Int)) then (T4 (((1 : Nat) = 1 ∧ (0 : Int) ≤ ((y0 : Nat) : Int) ∧ (((y0 : Nat) : Int) : Int) < ((List.length s.2.1 : Nat) : Int)) ∧ (True ∧ ((True ∧ true = true) ∧ (bif underB name (nth_String s.2.1 (Int.toNat ((y0 : Nat) : Int))) then (True ∧ ((true = true ∧ leC (.bool true) (.bool (coversB s sel name))) ∧ true = true)) else (T3 (∃ y0' : Nat, (y0' ≤ List.length s.2.1 ∧ ∀ j, j < y0' → underB name (nth_String s.2.1 j) = false) ∧ (List.length s.2.1 - y0') < (List.length s.2.1 - y0) ∧ ((leV (.ag (k0soupk s)) (.ag (k0soupk s)) ∧ leV (.c (.str sel)) (.c (.str sel)) ∧ leV (.c (.str name)) (.c (.str name)) ∧ leV (.c (.bp 0 0)) (.c (.bp 0 0)) ∧ leV (.tp []) (.tp []) ∧ leV (.tp []) (.tp []) ∧ True ∧ leV (.c (.int .i64 (IntKind.wrap .i64 (((y0 : Nat) : Int) + 1)))) (.c (.int .i64 ((y0' : Nat) : Int))) ∧ leV (.c (.bp 0 0)) (.c (.bp 0 0)) ∧ leV (.c (.int .i64 s.1)) (.c (.int .i64 s.1)) ∧ leV (.c (.bool false)) (.c (.bool false)) ∧ leV (.c (.bool (eqI s.1 1))) (.c (.bool (eqI s.1 1))) ∧ leV (.tp []) (.tp []) ∧ leV (.tp []) (.tp []) ∧ leV (.tp []) (.tp []) ∧ leV (.tp []) (.tp []) ∧ leV (.tp []) (.tp []) ∧ leV (.tp []) (.tp []) ∧ leV (.tp []) (.tp []) ∧ leV (.c (.bool false)) (.c (.bool false)) ∧ leV (.c (.bool (eqI s.1 2))) (.c (.bool (eqI s.1 2))) ∧ leV (.tp []) (.tp []) ∧ leV (.tp []) (.tp []) ∧ leV (.c (.bool true)) (.c (.bool true)) ∧ leV (.c (.bool (eqI s.1 3))) (.c (.bool (eqI s.1 3))) ∧ True ∧ True ∧ True ∧ True ∧ True ∧ True ∧ True ∧ True ∧ True ∧ True ∧ True ∧ True ∧ True ∧ True ∧ leV (.tp []) (.tp []) ∧ leV (.tp []) (.tp []) ∧ leV (.tp []) (.tp []) ∧ leV (.tp []) (.tp []) ∧ leV (.tp []) (.tp []) ∧ leV (.tp []) (.tp []) ∧ True) ∧ (leB (.box (k0soupk s)) (.box (k0soupk s)) ∧ True) ∧ true = true)))))))) else (True ∧ ((true = true ∧ leC (.bool false) (.bool (coversB s sel name))) ∧ true = true)))))) else (T2 (bif (eqI s.1 4) then (T3 ((True ∧ true = true) ∧ (True ∧ ((true = true ∧ leC (.bool (List.any s.2.1 (fun z0 : ByteArray => eqS z0 name))) (.bool (coversB s sel name))) ∧ true = true)))) else (True ∧ ((true = true ∧ leC (.bool false) (.bool (coversB s sel name))) ∧ true = true))))))))))) (by kernel_rfl) ?_
  unfold k0soupk T2 T3 T4 T5 T6
  have hm : List.length s.2.1 ≤ maxLen := hwf.1.2.1.1
  simp only [btw_iff, btw_not, flagsOk, Bool.not_true, Bool.not_false, SI2A, eq_self]
  repeat' (first | apply And.intro | intro _)
  all_goals first
    | trivial
    | omega
    | exact ⟨0, ⟨Nat.zero_le _, allN_zero⟩, rfl⟩
    | (rename_i h3 y hy hlt hp; rw [cov3 h3]; exact (any_at_nth (t := tyStr) (p := fun z0 : ByteArray => underB name z0) (k := y) (Int.ofNat_lt.1 hlt) hp).symm)
    | (rename_i y hy hlt hp; exact ⟨y + 1, ⟨by omega, allN_step hy.2 hp⟩, by omega, wrapN (by omega)⟩)
    | (rename_i h3 y hy hge; obtain rfl : y = List.length s.2.1 := (by omega); rw [cov3 h3]; exact (any_of_nth (t := tyStr) (p := fun z0 : ByteArray => underB name z0) hy.2).symm)
    | (rename_i h4; rw [cov4 h4])
    | contradiction
    | exact ⟨rfl, rfl⟩
    | (show _ + 1 ≤ rowMax; unfold rowMax; omega)
    | (simp only [coversB, *, eq_self, if_true, if_false, and_true, true_and, and_self, not_true, not_false, false_and, and_false, or_true, true_or, or_false, false_or, or_self, Bool.false_eq_true, reduceCtorEq, reduceIte, Int.reduceEq, not_false_eq_true, not_true_eq_false, ite_true, ite_false, Bool.and_true, Bool.true_and, Bool.and_false, Bool.false_and, Bool.or_true, Bool.true_or, Bool.or_false, Bool.false_or, Bool.not_true, Bool.not_false]; done)
    | (simp_all [coversB, eqI, neI, geI, eqS]; done)
def e_s_Covers : Entry Tryz.prog := ⟨202, [.s tyScope, .v tyStr, .v tyStr], fun x => True, fun x => .c (.bool (coversB x.1 x.2.1 x.2.2.1)), fun _ => [], fun x hx => b_s_Covers x.1 x.2.1 x.2.2.1, Tryz.call202⟩
set_option maxRecDepth 100000 in
set_option maxHeartbeats 400000 in
theorem b_i_Admits_1 (s : GScope) (sel : ByteArray) (name : ByteArray) (ev : Int) : BCalls Tryz.prog 143 [.ag [.int .i64 s.1, .hs .no tyStr s.2.1, .int .i64 s.2.2], .c (.ep .no tyStr ([sel]) 0 0), .c (.ep .no tyStr ([name]) 0 0), .c (.ep .no tyInt ([ev]) 0 0)] (.c (.bool (coversB s sel name && neI (IntKind.wrap .i64 (((BitVec.ofInt (IntKind.bits .i64) s.2.2 &&& BitVec.ofInt (IntKind.bits .i64) ev).toNat : Nat))) 0))) [] := by
  refine bcalls_of (T := ⟨[e_i_Covers], [], [], [], none, fun _ => [], 0, [], []⟩) (L := L0) Tryz.func143 ⟨⟨rfl, rfl⟩, rfl⟩ (fun hwf => ?_)
  refine Eq.mpr (β := (T5 ((True ∧ true = true) ∧ (True ∧ (bif coversB s sel name then (T7 ((true = true ∧ leC (.bool (neI (IntKind.wrap .i64 (((BitVec.ofInt (IntKind.bits .i64) s.2.2 &&& BitVec.ofInt (IntKind.bits .i64) ev).toNat : Nat))) 0)) (.bool (coversB s sel name && neI (IntKind.wrap .i64 (((BitVec.ofInt (IntKind.bits .i64) s.2.2 &&& BitVec.ofInt (IntKind.bits .i64) ev).toNat : Nat))) 0))) ∧ true = true)) else (T2 ((true = true ∧ leC (.bool false) (.bool (coversB s sel name && neI (IntKind.wrap .i64 (((BitVec.ofInt (IntKind.bits .i64) s.2.2 &&& BitVec.ofInt (IntKind.bits .i64) ev).toNat : Nat))) 0))) ∧ true = true))))))) (by kernel_rfl) ?_
  unfold T2 T5 T7
  simp only [btw_iff, btw_not, flagsOk, Bool.not_true, Bool.not_false, SI2A, eq_self]
  repeat' (first | apply And.intro | intro _)
  all_goals first
    | trivial
    | omega
    | contradiction
    | exact ⟨rfl, rfl⟩
    | (show _ + 1 ≤ rowMax; unfold rowMax; omega)
    | (simp only [Bool.true_and, *, eq_self, if_true, if_false, and_true, true_and, and_self, not_true, not_false, false_and, and_false, or_true, true_or, or_false, false_or, or_self, Bool.false_eq_true, reduceCtorEq, reduceIte, Int.reduceEq, not_false_eq_true, not_true_eq_false, ite_true, ite_false, Bool.and_true, Bool.true_and, Bool.and_false, Bool.false_and, Bool.or_true, Bool.true_or, Bool.or_false, Bool.false_or, Bool.not_true, Bool.not_false]; done)
    | (simp_all [Bool.true_and, eqI, neI, geI, eqS]; done)
def e_i_Admits_1 : Entry Tryz.prog := ⟨143, [.s tyScope, .p tyStr, .p tyStr, .p tyInt], fun x => True, fun x => .c (.bool (coversB x.1 x.2.1 x.2.2.1 && neI (IntKind.wrap .i64 (((BitVec.ofInt (IntKind.bits .i64) x.1.2.2 &&& BitVec.ofInt (IntKind.bits .i64) x.2.2.2.1).toNat : Nat))) 0)), fun _ => [], fun x hx => b_i_Admits_1 x.1 x.2.1 x.2.2.1 x.2.2.2.1, Tryz.call143⟩
set_option maxRecDepth 100000 in
set_option maxHeartbeats 400000 in
theorem b_i_Admits (f : GFilter) (sel : ByteArray) (name : ByteArray) (ev : Int) : BCalls Tryz.prog 84 [.ag [.bool f.1, .hs .no tyScope f.2], .c (.str sel), .c (.str name), .c (.int .i64 ev)] (.c (.bool (admitsB f sel name ev))) [] := by
  refine bcalls_of (T := ⟨[e_i_Admits_1], [e_slices_ContainsFunc_i_Scope_i_Scope], [], [], none, fun _ => [], 0, [], []⟩) (L := L0) Tryz.func84 ⟨⟨rfl, rfl⟩, rfl⟩ (fun hwf => ?_)
  refine Eq.mpr (β := (True ∧ (True ∧ (True ∧ (True ∧ (True ∧ (True ∧ (True ∧ (True ∧ (bif f.1 then (True ∧ (True ∧ (True ∧ (((∀ z0 : GScope, True ∧ True) ∧ ∀ (_ : GScope → Bool) (_ : List GScope), true = true) ∧ (True ∧ (True ∧ ((true = true ∧ leC (.bool (List.any f.2 (fun z0 : GScope => (coversB z0 sel name && neI (IntKind.wrap .i64 (((BitVec.ofInt (IntKind.bits .i64) z0.2.2 &&& BitVec.ofInt (IntKind.bits .i64) ev).toNat : Nat))) 0)))) (.bool (admitsB f sel name ev))) ∧ true = true))))))) else (True ∧ (True ∧ ((true = true ∧ leC (.bool false) (.bool (admitsB f sel name ev))) ∧ true = true))))))))))))) (by kernel_rfl) ?_
  simp only [btw_iff, btw_not, flagsOk, Bool.not_true, Bool.not_false, SI2A, eq_self]
  repeat' (first | apply And.intro | intro _)
  all_goals first
    | trivial
    | omega
    | contradiction
    | exact ⟨rfl, rfl⟩
    | (show _ + 1 ≤ rowMax; unfold rowMax; omega)
    | (simp only [admitsB, *, eq_self, if_true, if_false, and_true, true_and, and_self, not_true, not_false, false_and, and_false, or_true, true_or, or_false, false_or, or_self, Bool.false_eq_true, reduceCtorEq, reduceIte, Int.reduceEq, not_false_eq_true, not_true_eq_false, ite_true, ite_false, Bool.and_true, Bool.true_and, Bool.and_false, Bool.false_and, Bool.or_true, Bool.true_or, Bool.or_false, Bool.false_or, Bool.not_true, Bool.not_false]; done)
    | (simp_all [admitsB, eqI, neI, geI, eqS]; done)
def e_i_Admits : Entry Tryz.prog := ⟨84, [.s tyFilter, .v tyStr, .v tyStr, .v tyInt], fun x => True, fun x => .c (.bool (admitsB x.1 x.2.1 x.2.2.1 x.2.2.2.1)), fun _ => [], fun x hx => b_i_Admits x.1 x.2.1 x.2.2.1 x.2.2.2.1, Tryz.call84⟩
def L_s_Admits (f : GFilter) (sel : ByteArray) (name : ByteArray) (ev : Int) : Nat → List AV → Mem → LoopA
  | 2, tm, M => ⟨Nat, fun y => (setA tm [(8, .any), (9, .c (.int .i64 ((y : Nat) : Int))), (10, .any), (11, .any), (12, .any), (13, .any), (14, .any), (15, .any), (16, .any), (17, .any), (18, .any), (19, .any), (20, .any), (21, .any), (22, .any), (23, .any), (24, .any), (25, .any), (26, .any), (27, .any), (28, .any), (29, .any), (30, .any), (31, .any), (32, .any), (33, .any), (34, .any), (35, .any), (36, .any), (37, .any), (38, .any), (39, .any)], M), fun y => (y ≤ List.length f.2 ∧ ∀ j, j < y → (coversB (nth_Scope f.2 j) sel name && neI (IntKind.wrap .i64 (((BitVec.ofInt (IntKind.bits .i64) (nth_Scope f.2 j).2.2 &&& BitVec.ofInt (IntKind.bits .i64) ev).toNat : Nat))) 0) = false), fun y => (List.length f.2 - y)⟩
  | _, _, _ => ⟨Unit, fun _ => ([], []), fun _ => False, fun _ => 0⟩
def k0ti95a (f : GFilter) (sel : ByteArray) (name : ByteArray) (ev : Int) (y0 : Nat) : Prop := (T3 (∃ y0' : Nat, (y0' ≤ List.length f.2 ∧ ∀ j, j < y0' → (coversB (nth_Scope f.2 j) sel name && neI (IntKind.wrap .i64 (((BitVec.ofInt (IntKind.bits .i64) (nth_Scope f.2 j).2.2 &&& BitVec.ofInt (IntKind.bits .i64) ev).toNat : Nat))) 0) = false) ∧ (List.length f.2 - y0') < (List.length f.2 - y0) ∧ ((leV (.ag [.bool f.1, .hs .no tyScope f.2]) (.ag [.bool f.1, .hs .no tyScope f.2]) ∧ leV (.c (.str sel)) (.c (.str sel)) ∧ leV (.c (.str name)) (.c (.str name)) ∧ leV (.c (.int .i64 ev)) (.c (.int .i64 ev)) ∧ leV (.c (.bp 0 0)) (.c (.bp 0 0)) ∧ leV (.tp []) (.tp []) ∧ leV (.tp []) (.tp []) ∧ leV (.tp []) (.tp []) ∧ True ∧ leV (.c (.int .i64 (IntKind.wrap .i64 (((y0 : Nat) : Int) + 1)))) (.c (.int .i64 ((y0' : Nat) : Int))) ∧ True ∧ True ∧ True ∧ True ∧ True ∧ True ∧ True ∧ True ∧ True ∧ True ∧ True ∧ True ∧ True ∧ True ∧ True ∧ True ∧ True ∧ True ∧ True ∧ True ∧ True ∧ True ∧ True ∧ True ∧ True ∧ True ∧ True ∧ True ∧ True ∧ True ∧ True) ∧ (leB (.box [.bool f.1, .hs .no tyScope f.2]) (.box [.bool f.1, .hs .no tyScope f.2]) ∧ True) ∧ true = true)))
set_option maxRecDepth 100000 in
set_option maxHeartbeats 400000 in
theorem b_s_Admits (f : GFilter) (sel : ByteArray) (name : ByteArray) (ev : Int) : BCalls Tryz.prog 141 [.ag [.bool f.1, .hs .no tyScope f.2], .c (.str sel), .c (.str name), .c (.int .i64 ev)] (.c (.bool (admitsB f sel name ev))) [] := by
  refine bcalls_of (T := ⟨[e_s_Covers], [], [], [], none, fun _ => [], 0, [], []⟩) (L := (L_s_Admits f sel name ev)) Tryz.func141 ⟨⟨rfl, rfl⟩, rfl⟩ (fun hwf => ?_)
  refine Eq.mpr (β := (T3 ((∃ q : Nat, (q ≤ List.length f.2 ∧ ∀ j, j < q → (coversB (nth_Scope f.2 j) sel name && neI (IntKind.wrap .i64 (((BitVec.ofInt (IntKind.bits .i64) (nth_Scope f.2 j).2.2 &&& BitVec.ofInt (IntKind.bits .i64) ev).toNat : Nat))) 0) = false) ∧ ((leV (.ag [.bool f.1, .hs .no tyScope f.2]) (.ag [.bool f.1, .hs .no tyScope f.2]) ∧ leV (.c (.str sel)) (.c (.str sel)) ∧ leV (.c (.str name)) (.c (.str name)) ∧ leV (.c (.int .i64 ev)) (.c (.int .i64 ev)) ∧ leV (.c (.bp 0 0)) (.c (.bp 0 0)) ∧ leV (.tp []) (.tp []) ∧ leV (.tp []) (.tp []) ∧ leV (.tp []) (.tp []) ∧ True ∧ leV (.c (.int .i64 0)) (.c (.int .i64 ((q : Nat) : Int))) ∧ True ∧ True ∧ True ∧ True ∧ True ∧ True ∧ True ∧ True ∧ True ∧ True ∧ True ∧ True ∧ True ∧ True ∧ True ∧ True ∧ True ∧ True ∧ True ∧ True ∧ True ∧ True ∧ True ∧ True ∧ True ∧ True ∧ True ∧ True ∧ True ∧ True ∧ True) ∧ (leB (.box [.bool f.1, .hs .no tyScope f.2]) (.box [.bool f.1, .hs .no tyScope f.2]) ∧ True) ∧ true = true)) ∧ ∀ y0 : Nat, (y0 ≤ List.length f.2 ∧ ∀ j, j < y0 → (coversB (nth_Scope f.2 j) sel name && neI (IntKind.wrap .i64 (((BitVec.ofInt (IntKind.bits .i64) (nth_Scope f.2 j).2.2 &&& BitVec.ofInt (IntKind.bits .i64) ev).toNat : Nat))) 0) = false) → (T6 (bif (ltI ((y0 : Nat) : Int) ((List.length f.2 : Nat) : Int)) then (T3 (bif f.1 then (T3 (((3 : Nat) = 3 ∧ (0 : Int) ≤ ((y0 : Nat) : Int) ∧ (((y0 : Nat) : Int) : Int) < ((List.length f.2 : Nat) : Int)) ∧ (T6 (bif (neI (IntKind.wrap .i64 (((BitVec.ofInt (IntKind.bits .i64) (nth_Scope f.2 (Int.toNat ((y0 : Nat) : Int))).2.2 &&& BitVec.ofInt (IntKind.bits .i64) ev).toNat : Nat))) 0) then (T3 (((3 : Nat) = 3 ∧ (0 : Int) ≤ ((y0 : Nat) : Int) ∧ (((y0 : Nat) : Int) : Int) < ((List.length f.2 : Nat) : Int)) ∧ (T3 ((True ∧ true = true) ∧ (True ∧ (bif coversB (nth_Scope f.2 (Int.toNat ((y0 : Nat) : Int))) sel name then (True ∧ ((true = true ∧ leC (.bool true) (.bool (admitsB f sel name ev))) ∧ true = true)) else (k0ti95a f sel name ev y0))))))) else (True ∧ (k0ti95a f sel name ev y0)))))) else (True ∧ ((true = true ∧ leC (.bool false) (.bool (admitsB f sel name ev))) ∧ true = true)))) else (T2 ((true = true ∧ leC (.bool false) (.bool (admitsB f sel name ev))) ∧ true = true))))))) (by kernel_rfl) ?_
  unfold k0ti95a T2 T3 T6
  have hm : List.length f.2 ≤ maxLen := hwf.1.2.1.1
  simp only [btw_iff, btw_not, flagsOk, Bool.not_true, Bool.not_false, SI2A, eq_self]
  repeat' (first | apply And.intro | intro _)
  all_goals first
    | trivial
    | omega
    | exact ⟨0, ⟨Nat.zero_le _, allN_zero⟩, rfl⟩
    | (rename_i y hy hlt hon hev hc; have hh : (coversB (nth_Scope f.2 y) sel name && neI (IntKind.wrap .i64 (((BitVec.ofInt (IntKind.bits .i64) (nth_Scope f.2 y).2.2 &&& BitVec.ofInt (IntKind.bits .i64) ev).toNat : Nat))) 0) = true := (by rw [hc, neI_true.2 hev]; rfl); unfold admitsB; rw [hon]; exact (any_at_nth (t := tyScope) (p := fun z0 : GScope => coversB z0 sel name && neI (IntKind.wrap .i64 (((BitVec.ofInt (IntKind.bits .i64) z0.2.2 &&& BitVec.ofInt (IntKind.bits .i64) ev).toNat : Nat))) 0) (k := y) (Int.ofNat_lt.1 hlt) hh).symm)
    | (rename_i y hy hlt hon hev hc; have hh : (coversB (nth_Scope f.2 y) sel name && neI (IntKind.wrap .i64 (((BitVec.ofInt (IntKind.bits .i64) (nth_Scope f.2 y).2.2 &&& BitVec.ofInt (IntKind.bits .i64) ev).toNat : Nat))) 0) = false := (by rw [hc]; rfl); exact ⟨y + 1, ⟨by omega, allN_step hy.2 hh⟩, by omega, wrapN (by omega)⟩)
    | (rename_i y hy hlt hon hev; have hh : (coversB (nth_Scope f.2 y) sel name && neI (IntKind.wrap .i64 (((BitVec.ofInt (IntKind.bits .i64) (nth_Scope f.2 y).2.2 &&& BitVec.ofInt (IntKind.bits .i64) ev).toNat : Nat))) 0) = false := (by rw [neI_false.2 hev]; exact Bool.and_false _); exact ⟨y + 1, ⟨by omega, allN_step hy.2 hh⟩, by omega, wrapN (by omega)⟩)
    | (rename_i hon; unfold admitsB; rw [hon]; rfl)
    | (rename_i y hy hge; obtain rfl : y = List.length f.2 := (by omega); have ha : List.any f.2 (fun z0 : GScope => coversB z0 sel name && neI (IntKind.wrap .i64 (((BitVec.ofInt (IntKind.bits .i64) z0.2.2 &&& BitVec.ofInt (IntKind.bits .i64) ev).toNat : Nat))) 0) = false := any_of_nth (t := tyScope) (p := fun z0 : GScope => coversB z0 sel name && neI (IntKind.wrap .i64 (((BitVec.ofInt (IntKind.bits .i64) z0.2.2 &&& BitVec.ofInt (IntKind.bits .i64) ev).toNat : Nat))) 0) hy.2; unfold admitsB; rw [ha]; exact (Bool.and_false _).symm)
def e_s_Admits : Entry Tryz.prog := ⟨141, [.s tyFilter, .v tyStr, .v tyStr, .v tyInt], fun x => True, fun x => .c (.bool (admitsB x.1 x.2.1 x.2.2.1 x.2.2.2.1)), fun _ => [], fun x hx => b_s_Admits x.1 x.2.1 x.2.2.1 x.2.2.2.1, Tryz.call141⟩
end Go.Proofs.YtigebfhekmjhmaaGreat
