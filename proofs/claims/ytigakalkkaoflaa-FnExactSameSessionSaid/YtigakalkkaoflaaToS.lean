/-
  The contract of the law's function toSession.
  No condition but what the arguments' cells hold. Printed by gen_types.py.
-/
import Derived.Test.YtigakalkkaoflaaTo
namespace Go.Proofs.Ytigakalkkaoflaa
open Go.ChangeShapes Go.WideShapes Go.ChangeAt Go.RowKit Go.Joins Go.Deep
open GoRep (rep bulk)
open GoMark (mrk cnt mrkI cntI)

set_option maxRecDepth 100000 in
set_option maxHeartbeats 2000000 in
theorem l_toSession (x : GSession) (cs : List Value) (w : World) (h : Held w x cs) (hb : bulk x ≤ 1048576) :
    Calls Try.prog 25 #[.agg cs.toArray] w (RN mkA x w) := by
  obtain ⟨F, h⟩ := h
  obtain ⟨x1, x2, x3, x4, x5, ⟨x6, x7⟩, x8, x9, ⟨x10, x11, x12⟩, ⟨x13, x14⟩, ⟨x15, x16⟩, x17⟩ := x
  obtain ⟨_, _, _, _, qx1, h', rfl, rfl⟩ := h
  obtain ⟨rfl, rfl⟩ := qx1
  obtain ⟨_, _, _, _, qx2, h'', rfl, rfl⟩ := h'
  obtain ⟨rfl, ix2, rfl⟩ := qx2
  obtain ⟨_, _, _, _, qx3, h''', rfl, rfl⟩ := h''
  obtain ⟨rfl, ix3, rfl⟩ := qx3
  obtain ⟨_, _, _, _, qx4, h'''', rfl, rfl⟩ := h'''
  obtain ⟨rfl, ix4, rfl⟩ := qx4
  obtain ⟨_, _, _, _, qView_x5, h''''', rfl, rfl⟩ := h''''
  have RView_x5 := Lib.hid (Held.mk qView_x5)
  obtain ⟨Ax5, cx5, rfl, Sx5⟩ := qView_x5
  obtain ⟨_, _, _, _, qFilter_x6, h'''''', rfl, rfl⟩ := h'''''
  have RFilter_x6 := Lib.hid (Held.mk qFilter_x6)
  obtain ⟨_, _, _, _, ⟨rfl, rfl⟩, ⟨Ax7, cx7, rfl, Sx7⟩, rfl, rfl⟩ := qFilter_x6
  obtain ⟨_, _, _, _, qx8, h''''''', rfl, rfl⟩ := h''''''
  obtain ⟨rfl, gx8, rfl⟩ := qx8
  obtain ⟨_, _, _, _, qx9, h'''''''', rfl, rfl⟩ := h'''''''
  obtain ⟨rfl, gx9, rfl⟩ := qx9
  obtain ⟨_, _, _, _, qQueue_x10, h''''''''', rfl, rfl⟩ := h''''''''
  have RQueue_x10 := Lib.hid (Held.mk qQueue_x10)
  obtain ⟨_, _, _, _, ⟨Ax10, cx10, rfl, Sx10⟩, ⟨_, _, _, _, ⟨rfl, rfl⟩, ⟨rfl, rfl⟩, rfl, rfl⟩, rfl, rfl⟩ := qQueue_x10
  obtain ⟨_, _, _, _, qIn_x13, h'''''''''', rfl, rfl⟩ := h'''''''''
  have RIn_x13 := Lib.hid (Held.mk qIn_x13)
  obtain ⟨_, _, _, _, ⟨rfl, gx13, rfl⟩, ⟨rfl, rfl⟩, rfl, rfl⟩ := qIn_x13
  obtain ⟨_, _, _, _, qOut_x15, h''''''''''', rfl, rfl⟩ := h''''''''''
  have ROut_x15 := Lib.hid (Held.mk qOut_x15)
  obtain ⟨_, _, _, _, ⟨rfl, gx15, rfl⟩, ⟨rfl, gx16, rfl⟩, rfl, rfl⟩ := qOut_x15
  obtain ⟨rfl, ix17, rfl⟩ := h'''''''''''
  change Calls Try.prog 25 #[.agg #[.bool x1, .int .i64 x2, .int .i64 x3, .int .i64 x4, .slice Ax5 x5.length cx5, .bool x6, .slice Ax7 x7.length cx7, .string x8, .string x9, .slice Ax10 x10.length cx10, .bool x11, .bool x12, .string x13, .bool x14, .string x15, .string x16, .int .i64 x17]] w _
  have hb' : 0 + (0 + (0 + (0 + (bulk (x5 : GView) + (bulk ((x6, x7) : GFilter) + (x8.size + (x9.size + (bulk ((x10, x11, x12) : GQueue) + (bulk ((x13, x14) : GIn) + (bulk ((x15, x16) : GOut) + (0))))))))))) ≤ 1048576 := hb
  have hb4 : bulk (x5 : GView) ≤ 1048576 := by omega
  have hb5 : bulk ((x6, x7) : GFilter) ≤ 1048576 := by omega
  have hb8 : bulk ((x10, x11, x12) : GQueue) ≤ 1048576 := by omega
  have hb9 : bulk ((x13, x14) : GIn) ≤ 1048576 := by omega
  have hb10 : bulk ((x15, x16) : GOut) ≤ 1048576 := by omega
  have HB4 := Lib.hid hb4
  have HB5 := Lib.hid hb5
  have HB8 := Lib.hid hb8
  have HB9 := Lib.hid hb9
  have HB10 := Lib.hid hb10
  clear hb hb' hb4 hb5 hb8 hb9 hb10
  have HIx2 := Lib.hid ix2
  have HIx3 := Lib.hid ix3
  have HIx4 := Lib.hid ix4
  have HSx8 := Lib.hid gx8
  have HSx9 := Lib.hid gx9
  have HSx13 := Lib.hid gx13
  have HSx15 := Lib.hid gx15
  have HSx16 := Lib.hid gx16
  have HIx17 := Lib.hid ix17
  clear ix2 ix3 ix4 gx8 gx9 gx13 gx15 gx16 ix17
  go_enter Try.func25, Try.ntmps25
  go_wp2_with (first | (go_at_call 47; refine (l_toView (x5 : GView) _ _ (by repeat (first | exact RView_x5.out | with_reducible refine held_alloc ?_ _ | with_reducible refine held_ext ?_ _ _)) HB4.out).mono ?_; rintro e _ ⟨cs, F4, E4, d4, rfl, rfl, r4, n4, f4⟩; have HR4 := Lib.hid r4; have HN4 := Lib.hid n4; have HF4 := Lib.hid f4; clear n4 f4; obtain ⟨Ax5n, cx5n, rfl, Sx5n⟩ := r4; simp only [mkA]) | (go_at_call 93; refine (l_toFilter ((x6, x7) : GFilter) _ _ (by repeat (first | exact RFilter_x6.out | with_reducible refine held_alloc ?_ _ | with_reducible refine held_ext ?_ _ _)) HB5.out).mono ?_; rintro e _ ⟨cs, F5, E5, d5, rfl, rfl, r5, n5, f5⟩; have HR5 := Lib.hid r5; have HN5 := Lib.hid n5; have HF5 := Lib.hid f5; clear n5 f5; obtain ⟨_, _, _, _, ⟨rfl, rfl⟩, ⟨Ax7n, cx7n, rfl, Sx7n⟩, rfl, rfl⟩ := r5; simp only [mkA, List.cons_append, List.nil_append]) | (go_at_call 33; refine (l_toQueue ((x10, x11, x12) : GQueue) _ _ (by repeat (first | exact RQueue_x10.out | with_reducible refine held_alloc ?_ _ | with_reducible refine held_ext ?_ _ _)) HB8.out).mono ?_; rintro e _ ⟨cs, F8, E8, d8, rfl, rfl, r8, n8, f8⟩; have HR8 := Lib.hid r8; have HN8 := Lib.hid n8; have HF8 := Lib.hid f8; clear n8 f8; obtain ⟨_, _, _, _, ⟨Ax10n, cx10n, rfl, Sx10n⟩, ⟨_, _, _, _, ⟨rfl, rfl⟩, ⟨rfl, rfl⟩, rfl, rfl⟩, rfl, rfl⟩ := r8; simp only [mkA, List.cons_append, List.nil_append]) | (go_at_call 94; refine (l_toIn ((x13, x14) : GIn) _ _ (by repeat (first | exact RIn_x13.out | with_reducible refine held_alloc ?_ _ | with_reducible refine held_ext ?_ _ _)) HB9.out).mono ?_; rintro e _ ⟨cs, F9, E9, d9, rfl, rfl, r9, n9, f9⟩; have HR9 := Lib.hid r9; have HN9 := Lib.hid n9; have HF9 := Lib.hid f9; clear n9 f9; obtain ⟨_, _, _, _, ⟨rfl, gx13, rfl⟩, ⟨rfl, rfl⟩, rfl, rfl⟩ := r9; simp only [mkA, List.cons_append, List.nil_append]) | (go_at_call 95; refine (l_toOut ((x15, x16) : GOut) _ _ (by repeat (first | exact ROut_x15.out | with_reducible refine held_alloc ?_ _ | with_reducible refine held_ext ?_ _ _)) HB10.out).mono ?_; rintro e _ ⟨cs, F10, E10, d10, rfl, rfl, r10, n10, f10⟩; have HR10 := Lib.hid r10; have HN10 := Lib.hid n10; have HF10 := Lib.hid f10; clear n10 f10; obtain ⟨_, _, _, _, ⟨rfl, gx15, rfl⟩, ⟨rfl, gx16, rfl⟩, rfl, rfl⟩ := r10; simp only [mkA, List.cons_append, List.nil_append]))
  refine bodyPost_ret (v := .agg #[.bool x1, .int .i64 x2, .int .i64 x3, .int .i64 x4, .slice Ax5n x5.length cx5n, .bool x6, .slice Ax7n x7.length cx7n, .string x8, .string x9, .slice Ax10n x10.length cx10n, .bool x11, .bool x12, .string x13, .bool x14, .string x15, .string x16, .int .i64 x17]) (by as_aux_lemma => simp [results, Try.results25, go_sem]) rfl (RN.fin (by as_aux_lemma => repeat (first | exact Below.refl _ _ | refine bl_al ?_ _ | refine bl_ext ?_ _ _ | refine Below.drew ?_)) (cs := [.bool x1, .int .i64 x2, .int .i64 x3, .int .i64 x4, .slice Ax5n x5.length cx5n, .bool x6, .slice Ax7n x7.length cx7n, .string x8, .string x9, .slice Ax10n x10.length cx10n, .bool x11, .bool x12, .string x13, .bool x14, .string x15, .string x16, .int .i64 x17]) (by as_aux_lemma => exact ⟨_, _, _, _, ⟨rfl, rfl⟩, ⟨_, _, _, _, ⟨rfl, HIx2.out, rfl⟩, ⟨_, _, _, _, ⟨rfl, HIx3.out, rfl⟩, ⟨_, _, _, _, ⟨rfl, HIx4.out, rfl⟩, ⟨_, _, _, _, (rep_ext (rep_ext (rep_ext (rep_ext (rep_swap1 HR4.out (fun b hb => by have := HF4.out b hb; simp at this; (try simp); omega) (by simp)) E5 d5) E8 d8) E9 d9) E10 d10), ⟨_, _, _, _, (rep_ext (rep_ext (rep_ext (rep_swap2 HR5.out (fun b hb => by have := HF5.out b hb; simp at this; (try simp); omega) (by simp)) E8 d8) E9 d9) E10 d10), ⟨_, _, _, _, ⟨rfl, HSx8.out, rfl⟩, ⟨_, _, _, _, ⟨rfl, HSx9.out, rfl⟩, ⟨_, _, _, _, (rep_ext (rep_ext (rep_swap3 HR8.out (fun b hb => by have := HF8.out b hb; simp at this; (try simp); omega) (by simp)) E9 d9) E10 d10), ⟨_, _, _, _, (rep_ext (rep_swap4 HR9.out (fun b hb => by simp at hb) (by simp)) E10 d10), ⟨_, _, _, _, (rep_swap5 HR10.out (fun b hb => by simp at hb) (by simp)), ⟨rfl, HIx17.out, rfl⟩, rfl, rfl⟩, rfl, rfl⟩, rfl, rfl⟩, rfl, rfl⟩, rfl, rfl⟩, rfl, rfl⟩, rfl, rfl⟩, rfl, rfl⟩, rfl, rfl⟩, rfl, rfl⟩, rfl, rfl⟩) ?_ ?_ rfl)
  · have hlt : ∀ a b : Nat, a ≤ b → a ≤ b := fun _ _ h => h
    clear hlt
    have t5 := nodup_app HN5.out HN8.out (fun b hb => GoRep.lt HR5.out b hb) (fun b hb => by
      (try simp only [List.append_nil] at hb)
      (try simp only [List.nil_append] at hb)
      (try simp only [List.mem_append] at hb)
      have := HF8.out b (by simp [hb]); simp at this ⊢; omega)
    have t4 := nodup_app HN4.out t5 (fun b hb => GoRep.lt HR4.out b hb) (fun b hb => by
      (try simp only [List.append_nil] at hb)
      (try simp only [List.nil_append] at hb)
      (try simp only [List.mem_append] at hb)
      rcases hb with hb | hb <;> first | (have := HF5.out b (by simp [*]); simp at this ⊢; omega) | (have := HF8.out b (by simp [*]); simp at this ⊢; omega))
    simpa using t4
  · exact (fa_app (fun b hb => by simp at hb) (fa_app (fun b hb => by simp at hb) (fa_app (fun b hb => by simp at hb) (fa_app (fun b hb => by simp at hb) (fa_app (fun b hb => by have := HF4.out b hb; simp at this; omega) (fa_app (fun b hb => by have := HF5.out b hb; simp at this; omega) (fa_app (fun b hb => by simp at hb) (fa_app (fun b hb => by simp at hb) (fa_app (fun b hb => by have := HF8.out b hb; simp at this; omega) (fa_app (fun b hb => by simp at hb) (fa_app (fun b hb => by simp at hb) (fun b hb => by simp at hb))))))))))))

end Go.Proofs.Ytigakalkkaoflaa
