/-
  Draws of lines.
  No condition but what the arguments' cells hold. Printed by vcgen.py.
-/
import Derived.Test.YtoigkpkafgjeaaaBBlL15c
set_option linter.unusedSimpArgs false
set_option linter.unusedVariables false
set_option maxRecDepth 100000
set_option maxHeartbeats 4000000
namespace Go.Proofs.Ytoigkpkafgjeaaa
open Go.ChangeShapes Go.WideShapes Go.ChangeAt Go.RowKit Go.Joins Go.Deep
open GoRep (rep bulk)

theorem smallB_of {l : List GBox} (h1 : l.length ≤ 5) (h2 : ∀ x ∈ l, x.2.2.2.length ≤ 7) : smallB l := ⟨by omega, fun x hx => by have := h2 x hx; omega⟩
theorem smallB_perf {l : List GBox} {m : GCommit} (h : appl l m = true) : smallB (perfB l m) := by
  obtain ⟨h4, h6⟩ := appl_small h
  have hx : ∀ x ∈ l, x.2.2.2.length ≤ 6 := fun x hx => by
    obtain ⟨k, hk, rfl⟩ := List.mem_iff_getElem.1 hx
    have := h6 k
    rwa [show nth_Box l k = l[k] from nth_of_get (t := tyBox) (List.getElem?_eq_getElem hk)] at this
  have hlay : ∀ (k : List GBox) (b : GBox), k.length ≤ 4 → (∀ x ∈ k, x.2.2.2.length ≤ 6) → b.2.2.2.length ≤ 7 → smallB (layB k b) := fun k b h1 h2 h3 => smallB_of (by rw [(lay_perm k b).length_eq, List.length_cons]; omega) (fun x hx => by
    rcases lay_mem.1 hx with rfl | hx
    · exact h3
    · have := h2 x hx; omega)
  have hset : ∀ (k : Nat) (b : GBox), b.2.2.2.length ≤ 7 → smallB (l.set k b) := fun k b h3 => smallB_of (by rw [List.length_set]; omega) (fun x hx' => by
    rcases List.mem_or_eq_of_mem_set hx' with hx' | rfl
    · have := hx x hx'; omega
    · exact h3)
  have hso : ∀ k x, x ∈ outB l k → x.2.2.2.length ≤ 6 := fun k x hx' => hx x ((outB_sub l k).mem hx')
  have hlo : ∀ k, (outB l k).length ≤ 4 := fun k => Nat.le_trans (outB_sub l k).length_le h4
  have hb := h6 (bxK l m)
  unfold perfB
  split
  · exact hlay l _ h4 hx (Nat.zero_le _)
  · split
    · exact smallB_of (by have := hlo (bxK l m); omega) (fun x hx' => by have := hso _ x hx'; omega)
    · split
      · exact hlay _ _ (hlo _) (hso _) (by show (bxB l m).2.2.2.length ≤ 7; exact Nat.le_trans hb (by omega))
      · split
        · exact hset _ _ (by show (_ ++ _ : List GMsg).length ≤ 7; rw [List.length_append]; exact Nat.add_le_add hb (Nat.le_refl 1))
        · split
          · exact hset _ _ (by show (List.set _ _ _ : List GMsg).length ≤ 7; rw [List.length_set]; exact Nat.le_trans hb (by omega))
          · refine hset _ _ ?_
            show (outM _ _).length ≤ 7
            have : (outM (bxB l m).2.2.2 (placeO (bxB l m).2.2.2 m.2.2.1).toNat).length ≤ (bxB l m).2.2.2.length := by
              unfold outM
              rw [List.length_append, List.length_take, List.length_drop]
              omega
            exact Nat.le_trans this (Nat.le_trans hb (by omega))
abbrev GL15 := List GReply × GBox × List GSeen × GCur
def c15 (s : GL15) : GCommit × GCur := com10 s.2.2.2 [s.2.1]
def go15 (s : GL15) : Bool := appl [s.2.1] (c15 s).1 && (eqI ((List.length (apB [s.2.1] (c15 s).1) : Nat) : Int) 1 && geI (c15 s).1.1 4)
def st15 (s : GL15) : GL15 := if go15 s = true then (s.1 ++ tellL s.2.2.1 (c15 s).1, nth_Box (apB [s.2.1] (c15 s).1) 0, (folV s.2.2.1 (c15 s).1).1, (c15 s).2) else (s.1, s.2.1, s.2.2.1, (c15 s).2)
def b15 (c : GCur) : GBox × GCur := box9 c (⟨#[97]⟩ : ByteArray) 2
def ln15 (c : GCur) : Nat → GL15
  | 0 => (selL (b15 c).1, (b15 c).1, viewOf (b15 c).1, (below (b15 c).2 5).2)
  | k + 1 => st15 (ln15 c k)
def n15 (c : GCur) : Int := (below (b15 c).2 5).1
def e15 (c : GCur) : GL15 := ln15 c (Int.toNat (n15 c))
def o15 (c : GCur) : Bool × GCur := once (e15 c).2.2.2 4
def k15 (c : GCur) : Int × GCur := below (o15 c).2 (IntKind.wrap .i64 (((List.length (e15 c).1 : Nat) : Int) + 1))
def lin15 (c : GCur) : List GReply × GCur := if (o15 c).1 = true then (List.take (Int.toNat (k15 c).1) (e15 c).1 ++ [(right14 (k15 c).2).1] ++ List.drop (Int.toNat (k15 c).1) (e15 c).1, (right14 (k15 c).2).2) else ((e15 c).1, (o15 c).2)
instance b15_ok (c : GCur) [CurOk c] : CurOk (b15 c).2 := by unfold b15; infer_instance
instance c15_ok (s : GL15) [CurOk s.2.2.2] : CurOk (c15 s).2 := by unfold c15; infer_instance
instance ln15_ok (c : GCur) [CurOk c] : ∀ k, CurOk (ln15 c k).2.2.2
  | 0 => by unfold ln15; infer_instance
  | k + 1 => by
    have := ln15_ok c k
    show CurOk (st15 (ln15 c k)).2.2.2
    unfold st15
    split <;> exact c15_ok (ln15 c k)
instance e15_ok (c : GCur) [CurOk c] : CurOk (e15 c).2.2.2 := ln15_ok c _
instance o15_ok (c : GCur) [CurOk c] : CurOk (o15 c).2 := by unfold o15; infer_instance
instance k15_ok (c : GCur) [CurOk c] : CurOk (k15 c).2 := by unfold k15; infer_instance
instance lin15_ok (c : GCur) [CurOk c] : CurOk (lin15 c).2 := by
  unfold lin15
  split
  · exact right14_ok (k15 c).2
  · exact o15_ok c
theorem tellL_len (v : List GSeen) (m : GCommit) : (tellL v m).length ≤ 2 := by
  unfold tellL
  simp only [bif_if]
  repeat' split
  all_goals first | exact Nat.zero_le _ | exact Nat.le_refl _ | (show 1 ≤ 2; decide)
theorem folV_len (v : List GSeen) (m : GCommit) (hp : v.length ≤ 1048576) : (folV v m).1.length ≤ v.length + 1 := by
  have hs := seqOf_b v m.2.2.1
  have w1 : IntKind.wrap .i64 (seqOf v m.2.2.1 - 1) = seqOf v m.2.2.1 - 1 := w64i (by omega) (by omega)
  have w2 : IntKind.wrap .i64 (seqOf v m.2.2.1 - 1 + 1) = seqOf v m.2.2.1 - 1 + 1 := w64i (by omega) (by omega)
  unfold folV
  simp only [w1, w2]
  simp only [bif_if]
  repeat' split
  all_goals ((try simp only [List.length_append, List.length_set, List.length_drop, List.length_take, List.length_cons, List.length_nil]); omega)
theorem viewOf_len (b : GBox) : (viewOf b).length = b.2.2.2.length := List.length_map _
theorem one_small {b : GBox} (h : b.2.2.2.length ≤ 1048576) : smallB [b] := ⟨(show 1 ≤ 1048576 by decide), fun x hx => by rw [List.mem_singleton.1 hx]; exact h⟩
theorem ln15_b (c : GCur) : ∀ k, k ≤ 10 → (ln15 c k).1.length ≤ 9 + 2 * k ∧ (ln15 c k).2.1.2.2.2.length ≤ 1048576 ∧ (ln15 c k).2.2.1.length ≤ 5 + k
  | 0, _ => by
    have h := box9_len c (⟨#[97]⟩ : ByteArray) 2
    refine ⟨selL_len _, Nat.le_trans h (by decide), ?_⟩
    show (viewOf (b15 c).1).length ≤ 5
    rw [viewOf_len]
    exact h
  | k + 1, hk => by
    obtain ⟨h1, h2, h3⟩ := ln15_b c k (by omega)
    show (st15 (ln15 c k)).1.length ≤ _ ∧ _ ∧ _
    show (st15 (ln15 c k)).1.length ≤ 9 + 2 * (k + 1) ∧ (st15 (ln15 c k)).2.1.2.2.2.length ≤ 1048576 ∧ (st15 (ln15 c k)).2.2.1.length ≤ 5 + (k + 1)
    unfold st15
    split
    · rename_i hg
      unfold go15 at hg
      rw [Bool.and_eq_true] at hg
      have h4 := tellL_len (ln15 c k).2.2.1 (c15 (ln15 c k)).1
      have h5 := folV_len (ln15 c k).2.2.1 (c15 (ln15 c k)).1 (by omega)
      refine ⟨?_, ?_, ?_⟩
      · show (_ ++ _ : List GReply).length ≤ _
        rw [List.length_append]
        omega
      · show (nth_Box (apB [(ln15 c k).2.1] (c15 (ln15 c k)).1) 0).2.2.2.length ≤ 1048576
        have e : apB [(ln15 c k).2.1] (c15 (ln15 c k)).1 = perfB [(ln15 c k).2.1] (c15 (ln15 c k)).1 := by unfold apB; rw [hg.1]; rfl
        rw [e]
        exact smallB_nth (smallB_perf hg.1) 0
      · show (folV _ _).1.length ≤ _
        omega
    · exact ⟨by show (ln15 c k).1.length ≤ _; omega, h2, by show (ln15 c k).2.2.1.length ≤ _; omega⟩
theorem n15_b (c : GCur) : 0 ≤ n15 c ∧ n15 c < 5 := below_b (by decide)
theorem e15_b (c : GCur) : (e15 c).1.length ≤ 20 := by
  have h2 := n15_b c
  have h1 := (ln15_b c (Int.toNat (n15 c)) (by omega)).1
  show (ln15 c (Int.toNat (n15 c))).1.length ≤ 20
  omega
theorem k15_b (c : GCur) : 0 ≤ (k15 c).1 ∧ (k15 c).1 ≤ (((e15 c).1.length : Nat) : Int) := by
  have h := e15_b c
  have w : IntKind.wrap .i64 ((((e15 c).1.length : Nat) : Int) + 1) = (((e15 c).1.length : Nat) : Int) + 1 := w64i (by omega) (by omega)
  have hb := below_b (c := (o15 c).2) (n := IntKind.wrap .i64 ((((e15 c).1.length : Nat) : Int) + 1)) (by omega)
  show 0 ≤ (below _ _).1 ∧ (below _ _).1 ≤ _
  omega
theorem lin15_len (c : GCur) : (lin15 c).1.length ≤ 100 := by
  have h := e15_b c
  unfold lin15
  split
  · show (_ ++ _ ++ _ : List GReply).length ≤ 100
    rw [List.length_append, List.length_append, List.length_take, List.length_drop, List.length_singleton]
    omega
  · exact Nat.le_trans h (by decide)
theorem st15_y {s : GL15} (h1 : appl [s.2.1] (c15 s).1 = true) (h2 : ((List.length (apB [s.2.1] (c15 s).1) : Nat) : Int) = 1) (h3 : 4 ≤ (c15 s).1.1) : st15 s = (s.1 ++ tellL s.2.2.1 (c15 s).1, nth_Box (apB [s.2.1] (c15 s).1) 0, (folV s.2.2.1 (c15 s).1).1, (c15 s).2) := by
  unfold st15 go15
  rw [h1, eqI_true.2 h2, geI_true.2 h3]
  rfl
theorem st15_n {s : GL15} (h : appl [s.2.1] (c15 s).1 = false ∨ ¬ ((List.length (apB [s.2.1] (c15 s).1) : Nat) : Int) = 1 ∨ ¬ 4 ≤ (c15 s).1.1) : st15 s = (s.1, s.2.1, s.2.2.1, (c15 s).2) := by
  unfold st15 go15
  rcases h with h | h | h
  · rw [h]; rfl
  · rw [eqI_false.2 h, Bool.false_and, Bool.and_false]; rfl
  · rw [geI_false.2 h, Bool.and_false, Bool.and_false]; rfl
theorem lin15_y {c : GCur} (h : (o15 c).1 = true) : lin15 c = (List.take (Int.toNat (k15 c).1) (e15 c).1 ++ [(right14 (k15 c).2).1] ++ List.drop (Int.toNat (k15 c).1) (e15 c).1, (right14 (k15 c).2).2) := if_pos h
theorem lin15_n {c : GCur} (h : (o15 c).1 = false) : lin15 c = ((e15 c).1, (o15 c).2) := if_neg (by rw [h]; decide)
def L_s_l15Lines (c : GCur) : Nat → List AV → Mem → LoopA
  | 6, tm, M => ⟨Nat, fun y => (anyR (anyR (setA tm [(4, .c (.row 2 0)), (7, .c (.int .i64 ((y : Nat) : Int))), (16, .any)]) 8 3) 21 41, setM M [(0, .box [.hs .no (.int .u8) (ln15 c y).2.2.2.1, .int .i64 (ln15 c y).2.2.2.2.1, .int .i64 (ln15 c y).2.2.2.2.2]), (1, .box [.str (ln15 c y).2.1.1, .int .i64 (ln15 c y).2.1.2.1, .int .i64 (ln15 c y).2.1.2.2.1, .hs .no tyMsg (ln15 c y).2.1.2.2.2]), (2, .row tyCommit (ln15 c y).1 0 0 none), (3, .box [.hs .no tySpan (ln15 c y).2.2.1])]), fun y => (y ≤ Int.toNat (n15 c)), fun y => (Int.toNat (n15 c) - y)⟩
  | _, _, _ => ⟨Unit, fun _ => ([], []), fun _ => False, fun _ => 0⟩
def k3xbykz (c : GCur) (y0 : Nat) : List AC := [.hs .no (.int .u8) (com10 (ln15 c y0).2.2.2 ([(ln15 c y0).2.1])).2.1, .int .i64 (com10 (ln15 c y0).2.2.2 ([(ln15 c y0).2.1])).2.2.1, .int .i64 (com10 (ln15 c y0).2.2.2 ([(ln15 c y0).2.1])).2.2.2]
def k1xbykz (c : GCur) : List AC := [.str (box9 c (⟨#[97]⟩ : ByteArray) 2).1.1, .int .i64 (box9 c (⟨#[97]⟩ : ByteArray) 2).1.2.1, .int .i64 (box9 c (⟨#[97]⟩ : ByteArray) 2).1.2.2.1, .hs .no tyMsg (box9 c (⟨#[97]⟩ : ByteArray) 2).1.2.2.2]
def k2xbykz (c : GCur) : Prop := (True ∧ lxs [.ag (k1xbykz c), .ag [.hs .no tySpan (viewOf (box9 c (⟨#[97]⟩ : ByteArray) 2).1)], .c (.bp 0 0), .c (.int .i64 (below (box9 c (⟨#[97]⟩ : ByteArray) 2).2 5).1)] (TN 41 (lxs [.tp [], .tp [], .tp [], .tp [], .tp [], .tp [], .tp [], .tp [], .tp [], .tp [], .tp [], .tp [], .tp [], .tp [], .tp [], .tp [], .tp [], .tp [], .tp [], .tp [], .tp [], .tp []] True)))
def k4xbykz (y0 : Nat) (y0' : Nat) (c : GCur) : Prop := (leV (.c (.int .i64 (IntKind.wrap .i64 (((y0 : Nat) : Int) + 1)))) (.c (.int .i64 ((y0' : Nat) : Int))) ∧ TN 3 (lxs [.tp [], .tp [], .c (.bp 0 0), .ag (k1xbykz c), .ag (k1xbykz c)] (k2xbykz c)))
def k0xbykz (c : GCur) (y0 : Nat) : Prop := (T3 (∃ y0' : Nat, (y0' ≤ Int.toNat (n15 c)) ∧ (Int.toNat (n15 c) - y0') < (Int.toNat (n15 c) - y0) ∧ ((lxs [.c (.bp 0 0), .tp [], .c (.raw (.slice none 0 0)), .c (.bp 1 0), .c (.row 2 0), .c (.bp 3 0), .c (.int .i64 (below (box9 c (⟨#[97]⟩ : ByteArray) 2).2 5).1)] (k4xbykz y0 y0' c)) ∧ (leB (.box (k3xbykz c y0)) (.box [.hs .no (.int .u8) (ln15 c y0').2.2.2.1, .int .i64 (ln15 c y0').2.2.2.2.1, .int .i64 (ln15 c y0').2.2.2.2.2]) ∧ leB (.box [.str (ln15 c y0).2.1.1, .int .i64 (ln15 c y0).2.1.2.1, .int .i64 (ln15 c y0).2.1.2.2.1, .hs .no tyMsg (ln15 c y0).2.1.2.2.2]) (.box [.str (ln15 c y0').2.1.1, .int .i64 (ln15 c y0').2.1.2.1, .int .i64 (ln15 c y0').2.1.2.2.1, .hs .no tyMsg (ln15 c y0').2.1.2.2.2]) ∧ leB (.row tyCommit (ln15 c y0).1 0 0 none) (.row tyCommit (ln15 c y0').1 0 0 none) ∧ leB (.box [.hs .no tySpan (ln15 c y0).2.2.1]) (.box [.hs .no tySpan (ln15 c y0').2.2.1]) ∧ True) ∧ true = true)))
theorem m_s_l15Lines (c : GCur) (hpre : CurOk c) : MCalls Try.prog 78 (argsM 0 [(.b tyCur)] (c, ())) (preM 0 [(.b tyCur)] (c, ())) (postM 0 [(.b tyCur)] ((lin15 c).2, ()) ++ [.row tyCommit (lin15 c).1 0 0 none]) (inpM 0 [(.b tyCur)]) (.c (.row 1 0)) := by
  refine mcalls_of (T := ⟨[e_s_Selecting, (freeE e_s_ViewOf), (freeE e_s_Applied), e_s_Telling, (freeE e_s_Followed)], [], [], [(freeM e_s_l9Box (fun _ _ => rfl) (fun _ => rfl) (fun _ _ h => absurd (show _ ∈ ([] : List Nat) from h) (by simp))), e_s_l1Below, e_s_l10Commit, e_s_l1Once, e_s_l14Right], none, fun _ => [], 1, [], [28, 32]⟩) (L := (L_s_l15Lines c)) Try.func78 rfl rfl rfl (by kernel_rfl) (fun hwf hwm => ?_)
  refine Eq.mpr (β := (T2 ((cu c) ∧ (T3 ((True ∧ true = true) ∧ (T2 ((List.length (box9 c (⟨#[97]⟩ : ByteArray) 2).1.2.2.2 ≤ 1048576 ∧ true = true) ∧ (T3 ((cu (box9 c (⟨#[97]⟩ : ByteArray) 2).2) ∧ (T2 ((∃ q : Nat, (q ≤ Int.toNat (n15 c)) ∧ ((lxs [.c (.bp 0 0), .tp [], .c (.raw (.slice none 0 0)), .c (.bp 1 0), .c (.row 2 0), .c (.bp 3 0), .c (.int .i64 (below (box9 c (⟨#[97]⟩ : ByteArray) 2).2 5).1)] (leV (.c (.int .i64 0)) (.c (.int .i64 ((q : Nat) : Int))) ∧ TN 3 (lxs [.tp [], .tp [], .c (.bp 0 0), .ag (k1xbykz c), .ag (k1xbykz c)] (k2xbykz c)))) ∧ (leB (.box [.hs .no (.int .u8) (below (box9 c (⟨#[97]⟩ : ByteArray) 2).2 5).2.1, .int .i64 (below (box9 c (⟨#[97]⟩ : ByteArray) 2).2 5).2.2.1, .int .i64 (below (box9 c (⟨#[97]⟩ : ByteArray) 2).2 5).2.2.2]) (.box [.hs .no (.int .u8) (ln15 c q).2.2.2.1, .int .i64 (ln15 c q).2.2.2.2.1, .int .i64 (ln15 c q).2.2.2.2.2]) ∧ leB (.box (k1xbykz c)) (.box [.str (ln15 c q).2.1.1, .int .i64 (ln15 c q).2.1.2.1, .int .i64 (ln15 c q).2.1.2.2.1, .hs .no tyMsg (ln15 c q).2.1.2.2.2]) ∧ leB (.row tyCommit (selL (box9 c (⟨#[97]⟩ : ByteArray) 2).1) 0 0 none) (.row tyCommit (ln15 c q).1 0 0 none) ∧ leB (.box [.hs .no tySpan (viewOf (box9 c (⟨#[97]⟩ : ByteArray) 2).1)]) (.box [.hs .no tySpan (ln15 c q).2.2.1]) ∧ True) ∧ true = true)) ∧ ∀ y0 : Nat, (y0 ≤ Int.toNat (n15 c)) → (T3 (bif (ltI ((y0 : Nat) : Int) (below (box9 c (⟨#[97]⟩ : ByteArray) 2).2 5).1) then (T3 ((((CurOk (ln15 c y0).2.2.2 ∧ List.length ([(ln15 c y0).2.1]) = 1) ∧ (((cuE (ln15 c y0).2.2.2 (ln15 c y0).2.2.2)) ∧ True)) ∧ true = true) ∧ (T5 ((preP ([(ln15 c y0).2.1]) (com10 (ln15 c y0).2.2.2 ([(ln15 c y0).2.1])).1 ∧ true = true) ∧ (T7 (bif appl ([(ln15 c y0).2.1]) (com10 (ln15 c y0).2.2.2 ([(ln15 c y0).2.1])).1 then (T5 (bif (eqI ((List.length (apB ([(ln15 c y0).2.1]) (com10 (ln15 c y0).2.2.2 ([(ln15 c y0).2.1])).1) : Nat) : Int) 1) then (T4 (bif (geI (com10 (ln15 c y0).2.2.2 ([(ln15 c y0).2.1])).1.1 4) then (T3 ((List.length (ln15 c y0).2.2.1 ≤ 1048576 ∧ true = true) ∧ ((True ∧ List.length (ln15 c y0).1 + List.length (tellL (ln15 c y0).2.2.1 (com10 (ln15 c y0).2.2.2 ([(ln15 c y0).2.1])).1) ≤ rowMax) ∧ (T2 (((4 : Nat) = 4 ∧ (0 : Int) ≤ 0 ∧ (0 : Int) < ((List.length (apB ([(ln15 c y0).2.1]) (com10 (ln15 c y0).2.2.2 ([(ln15 c y0).2.1])).1) : Nat) : Int)) ∧ (T4 ((List.length (ln15 c y0).2.2.1 ≤ 1048576 ∧ true = true) ∧ (T7 (∃ y0' : Nat, (y0' ≤ Int.toNat (n15 c)) ∧ (Int.toNat (n15 c) - y0') < (Int.toNat (n15 c) - y0) ∧ ((lxs [.c (.bp 0 0), .tp [], .c (.raw (.slice none 0 0)), .c (.bp 1 0), .c (.row 2 0), .c (.bp 3 0), .c (.int .i64 (below (box9 c (⟨#[97]⟩ : ByteArray) 2).2 5).1)] (k4xbykz y0 y0' c)) ∧ (leB (.box (k3xbykz c y0)) (.box [.hs .no (.int .u8) (ln15 c y0').2.2.2.1, .int .i64 (ln15 c y0').2.2.2.2.1, .int .i64 (ln15 c y0').2.2.2.2.2]) ∧ leB (.box [.str (nth_Box (apB ([(ln15 c y0).2.1]) (com10 (ln15 c y0).2.2.2 ([(ln15 c y0).2.1])).1) (Int.toNat 0)).1, .int .i64 (nth_Box (apB ([(ln15 c y0).2.1]) (com10 (ln15 c y0).2.2.2 ([(ln15 c y0).2.1])).1) (Int.toNat 0)).2.1, .int .i64 (nth_Box (apB ([(ln15 c y0).2.1]) (com10 (ln15 c y0).2.2.2 ([(ln15 c y0).2.1])).1) (Int.toNat 0)).2.2.1, .hs .no tyMsg (nth_Box (apB ([(ln15 c y0).2.1]) (com10 (ln15 c y0).2.2.2 ([(ln15 c y0).2.1])).1) (Int.toNat 0)).2.2.2]) (.box [.str (ln15 c y0').2.1.1, .int .i64 (ln15 c y0').2.1.2.1, .int .i64 (ln15 c y0').2.1.2.2.1, .hs .no tyMsg (ln15 c y0').2.1.2.2.2]) ∧ leB (.row tyCommit ((ln15 c y0).1 ++ (tellL (ln15 c y0).2.2.1 (com10 (ln15 c y0).2.2.2 ([(ln15 c y0).2.1])).1)) 0 0 none) (.row tyCommit (ln15 c y0').1 0 0 none) ∧ leB (.box [.hs .no tySpan (folV (ln15 c y0).2.2.1 (com10 (ln15 c y0).2.2.2 ([(ln15 c y0).2.1])).1).1]) (.box [.hs .no tySpan (ln15 c y0').2.2.1]) ∧ True) ∧ true = true)))))))))) else (k0xbykz c y0))) else (True ∧ (k0xbykz c y0)))) else (T3 (k0xbykz c y0)))))))) else (True ∧ ((cu (ln15 c y0).2.2.2) ∧ (bif (once (ln15 c y0).2.2.2 4).1 then (T4 ((cu (once (ln15 c y0).2.2.2 4).2) ∧ (T4 (((6 : Nat) = 6 ∧ ((0 : Int) ≤ 0 ∧ (0 : Int) ≤ (below (once (ln15 c y0).2.2.2 4).2 (IntKind.wrap .i64 (((List.length (ln15 c y0).1 : Nat) : Int) + 1))).1 ∧ ((below (once (ln15 c y0).2.2.2 4).2 (IntKind.wrap .i64 (((List.length (ln15 c y0).1 : Nat) : Int) + 1))).1 : Int) ≤ ((List.length (ln15 c y0).1 : Nat) : Int))) ∧ ((True ∧ List.length ([] : List GCommit) + List.length (List.drop (Int.toNat 0) (List.take (Int.toNat (below (once (ln15 c y0).2.2.2 4).2 (IntKind.wrap .i64 (((List.length (ln15 c y0).1 : Nat) : Int) + 1))).1) (ln15 c y0).1)) ≤ rowMax) ∧ (True ∧ ((cu (below (once (ln15 c y0).2.2.2 4).2 (IntKind.wrap .i64 (((List.length (ln15 c y0).1 : Nat) : Int) + 1))).2) ∧ (True ∧ ((True ∧ List.length (([] : List GCommit) ++ (List.drop (Int.toNat 0) (List.take (Int.toNat (below (once (ln15 c y0).2.2.2 4).2 (IntKind.wrap .i64 (((List.length (ln15 c y0).1 : Nat) : Int) + 1))).1) (ln15 c y0).1))) + List.length ([(right14 (below (once (ln15 c y0).2.2.2 4).2 (IntKind.wrap .i64 (((List.length (ln15 c y0).1 : Nat) : Int) + 1))).2).1]) ≤ rowMax) ∧ (T4 (((6 : Nat) = 6 ∧ ((0 : Int) ≤ (below (once (ln15 c y0).2.2.2 4).2 (IntKind.wrap .i64 (((List.length (ln15 c y0).1 : Nat) : Int) + 1))).1 ∧ ((below (once (ln15 c y0).2.2.2 4).2 (IntKind.wrap .i64 (((List.length (ln15 c y0).1 : Nat) : Int) + 1))).1 : Int) ≤ ((List.length (ln15 c y0).1 : Nat) : Int) ∧ (((List.length (ln15 c y0).1 : Nat) : Int) : Int) ≤ ((List.length (ln15 c y0).1 : Nat) : Int))) ∧ ((True ∧ List.length ((([] : List GCommit) ++ (List.drop (Int.toNat 0) (List.take (Int.toNat (below (once (ln15 c y0).2.2.2 4).2 (IntKind.wrap .i64 (((List.length (ln15 c y0).1 : Nat) : Int) + 1))).1) (ln15 c y0).1))) ++ [(right14 (below (once (ln15 c y0).2.2.2 4).2 (IntKind.wrap .i64 (((List.length (ln15 c y0).1 : Nat) : Int) + 1))).2).1]) + List.length (List.drop (Int.toNat (below (once (ln15 c y0).2.2.2 4).2 (IntKind.wrap .i64 (((List.length (ln15 c y0).1 : Nat) : Int) + 1))).1) (List.take (Int.toNat ((List.length (ln15 c y0).1 : Nat) : Int)) (ln15 c y0).1)) ≤ rowMax) ∧ (T3 (((((cuE (right14 (below (once (ln15 c y0).2.2.2 4).2 (IntKind.wrap .i64 (((List.length (ln15 c y0).1 : Nat) : Int) + 1))).2).2 (lin15 c).2)) ∧ True) ∧ ((((([] : List GCommit) ++ (List.drop (Int.toNat 0) (List.take (Int.toNat (below (once (ln15 c y0).2.2.2 4).2 (IntKind.wrap .i64 (((List.length (ln15 c y0).1 : Nat) : Int) + 1))).1) (ln15 c y0).1))) ++ [(right14 (below (once (ln15 c y0).2.2.2 4).2 (IntKind.wrap .i64 (((List.length (ln15 c y0).1 : Nat) : Int) + 1))).2).1]) ++ (List.drop (Int.toNat (below (once (ln15 c y0).2.2.2 4).2 (IntKind.wrap .i64 (((List.length (ln15 c y0).1 : Nat) : Int) + 1))).1) (List.take (Int.toNat ((List.length (ln15 c y0).1 : Nat) : Int)) (ln15 c y0).1))) = (lin15 c).1)) ∧ true = true)))))))))))))) else (T2 (((((cuE (once (ln15 c y0).2.2.2 4).2 (lin15 c).2)) ∧ True) ∧ ((ln15 c y0).1 = (lin15 c).1)) ∧ true = true)))))))))))))))))) (by kernel_rfl) ?_
  unfold k0xbykz k4xbykz k2xbykz k1xbykz k3xbykz T2 T3 T4 T5 T7
  have hn := n15_b c
  have hB := ln15_b c
  have hE := e15_b c
  have hK := k15_b c
  have e5 : (below (box9 c (⟨#[97]⟩ : ByteArray) 2).2 5).1 = n15 c := rfl
  have hE2 : (ln15 c (Int.toNat (n15 c))).1.length ≤ 20 := hE
  simp only [cuE_eq, cu_eq, leB_cur, SI2A, eq_self]
  repeat' (with_reducible first | exact trivial | apply And.intro | intro _)
  all_goals first
    | (with_reducible trivial)
    | omega
    | (with_reducible assumption)
    | infer_instance
    | exact Nat.le_trans (box9_len _ _ _) (by decide)
    | exact ⟨0, Nat.zero_le _, rfl, rfl, Eq.mpr leB_refl trivial, rfl, Eq.mpr leB_refl trivial⟩
    | rfl
    | exact one_small (hB _ (by omega)).2.1
    | exact Nat.le_trans (hB _ (by omega)).2.2 (by omega)
    | exact Nat.le_trans (Nat.add_le_add (hB _ (by omega)).1 (tellL_len _ _)) (by unfold rowMax; omega)
    | (rename_i y hy hlt h1 h2 h3; have e : ln15 c (y + 1) = _ := st15_y (s := ln15 c y) h1 h2 h3
       refine ⟨y + 1, by omega, by omega, wrapN (by unfold maxLen; omega), ?_⟩
       rw [e]
       exact ⟨rfl, Eq.mpr leB_refl trivial, rfl, Eq.mpr leB_refl trivial⟩)
    | (rename_i y hy hlt h1 h2 h3; have e : ln15 c (y + 1) = _ := st15_n (s := ln15 c y) (.inr (.inr h3))
       refine ⟨y + 1, by omega, by omega, wrapN (by unfold maxLen; omega), ?_⟩
       rw [e]
       exact ⟨rfl, Eq.mpr leB_refl trivial, rfl, Eq.mpr leB_refl trivial⟩)
    | (rename_i y hy hlt h1 h2; have e : ln15 c (y + 1) = _ := st15_n (s := ln15 c y) (.inr (.inl h2))
       refine ⟨y + 1, by omega, by omega, wrapN (by unfold maxLen; omega), ?_⟩
       rw [e]
       exact ⟨rfl, Eq.mpr leB_refl trivial, rfl, Eq.mpr leB_refl trivial⟩)
    | (rename_i y hy hlt h1; have e : ln15 c (y + 1) = _ := st15_n (s := ln15 c y) (.inl h1)
       refine ⟨y + 1, by omega, by omega, wrapN (by unfold maxLen; omega), ?_⟩
       rw [e]
       exact ⟨rfl, Eq.mpr leB_refl trivial, rfl, Eq.mpr leB_refl trivial⟩)
    | (rename_i y hy hge ho; obtain rfl : y = Int.toNat (n15 c) := by omega
       first | exact hK.1 | exact hK.2 | (rw [lin15_y ho]; rfl) | (rw [lin15_n ho]; rfl) | (rw [lin15_y ho]; simp only [List.nil_append, Int.toNat_zero, List.drop_zero, List.take_length]; rfl) | ((try simp only [List.length_append, List.length_drop, List.length_take, List.length_cons, List.length_nil]); unfold rowMax; omega))
def e_s_l15Lines : MEntry Try.prog := ⟨78, [(.b tyCur)], fun x => CurOk x.1, fun x => ((lin15 x.1).2, ()), fun x => .c (.row 1 0), fun x => [.row tyCommit (lin15 x.1).1 0 0 none], fun x hx => m_s_l15Lines x.1 hx, Try.call78⟩
end Go.Proofs.Ytoigkpkafgjeaaa
