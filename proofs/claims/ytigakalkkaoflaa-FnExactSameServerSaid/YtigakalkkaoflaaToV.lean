/-
  The contracts of the laws' functions toSessionS, toServer.
  No condition but what the arguments' cells hold. Printed by gen_types.py.
-/
import Derived.Test.YtigakalkkaoflaaToS
set_option linter.unusedSimpArgs false
namespace Go.Proofs.Ytigakalkkaoflaa
open Go.ChangeShapes Go.WideShapes Go.ChangeAt Go.RowKit Go.Joins Go.Deep
open GoRep (rep bulk)
open GoMark (mrk cnt mrkI cntI)

theorem info_SessionS : (Try.prog.info? 68).map (fun i => (i.zero, i.size, i.bytes)) = some (some (.agg #[.bool false, .int .i64 0, .int .i64 0, .int .i64 0, .slice none 0 0, .bool false, .slice none 0 0, .string ⟨#[]⟩, .string ⟨#[]⟩, .slice none 0 0, .bool false, .bool false, .string ⟨#[]⟩, .bool false, .string ⟨#[]⟩, .string ⟨#[]⟩, .int .i64 0]), 17, 216) := by kernel_rfl
set_option maxRecDepth 100000 in
set_option maxHeartbeats 8000000 in
theorem l_toSessionS (xs : (List GSession)) (v : Value) (w : World) (h : Held w xs [v]) (hb : bulk xs ≤ 1048576) :
    Calls Try.prog 149 #[v] w (RN mk1 xs w) := by
  obtain ⟨F, A, c, e, S⟩ := h
  obtain rfl : v = .slice A xs.length c := by simpa using e
  have hl : xs.length ≤ c := S.1
  have hm := le63 S.2.1
  have hn : xs.length ≤ 1048576 := Nat.le_trans (len_bulk xs) hb
  have HS := Lib.hid S
  have HB := Lib.hid hb
  clear S e hb
  obtain ⟨i0, hi0, hz0, hz1, hz2⟩ := info_parts info_SessionS
  have hmk := mk_row (P := Try.prog) Try.underlying120 hi0 hz0 hz1 hz2 xs.length hn (by omega)
  clear hi0 hz0 hz1 hz2
  go_enter Try.func149, Try.ntmps149
  go_wp2
  clear hmk
  go_loopw [4] (fun i wr => ∃ (k : Nat) (arr : Array Value) (G : List Nat) (E : Array Obj) (d : Nat), k ≤ xs.length ∧ i = .int .i64 k ∧ wr = ext (w.alloc (.cells arr 68)) E d ∧ arr.size = xs.length * 17 ∧
    RowRep wr w.heap.size 0 (xs.take k) G ∧ G.Nodup ∧ (∀ g ∈ G, w.heap.size < g)) (fun i _ => xs.length - (intOf i).toNat)
  case atStart => exact ⟨0, _, [], #[], w.drawn, by omega, rfl, by simp [ext]; rfl, by rw [zrow_size], rfl, by simp, by simp⟩
  case round =>
    obtain ⟨k, arr, G, E, d, hk, rfl, rfl, hsz, hrow, hnd, hfr⟩ := hrel
    have HROW := Lib.hid hrow
    have HND := Lib.hid hnd
    have HFR := Lib.hid hfr
    have HSZ := Lib.hid hsz
    clear hrow hnd hfr
    by_cases hlt : k < xs.length
    · obtain ⟨b, off, x, cs, Gk, rfl, hx, hr, _, _, hb, hC⟩ := HS.out.at_ hlt
      have HX := Lib.hid hx
      clear hx
      have HR := Lib.hid (Held.mk hr)
      obtain ⟨x1, x2, x3, x4, x5, ⟨x6, x7⟩, x8, x9, ⟨x10, x11, x12⟩, ⟨x13, x14⟩, ⟨x15, x16⟩, x17⟩ := x
      have hbx : bulk ((x1, x2, x3, x4, x5, (x6, x7), x8, x9, (x10, x11, x12), (x13, x14), (x15, x16), x17) : GSession) ≤ 1048576 := by
        have h1 := bulkL_at HX.out
        have h2 : bulk xs = xs.length + bulkL xs := rfl
        have h3 := HB.out
        omega
      have HBX := Lib.hid hbx
      clear hbx
      obtain ⟨_, _, _, _, qx1, hr', rfl, rfl⟩ := hr
      obtain ⟨rfl, rfl⟩ := qx1
      obtain ⟨_, _, _, _, qx2, hr'', rfl, rfl⟩ := hr'
      obtain ⟨rfl, ix2, rfl⟩ := qx2
      obtain ⟨_, _, _, _, qx3, hr''', rfl, rfl⟩ := hr''
      obtain ⟨rfl, ix3, rfl⟩ := qx3
      obtain ⟨_, _, _, _, qx4, hr'''', rfl, rfl⟩ := hr'''
      obtain ⟨rfl, ix4, rfl⟩ := qx4
      obtain ⟨_, _, _, _, qView_x5, hr''''', rfl, rfl⟩ := hr''''
      have RView_x5 := Lib.hid (Held.mk qView_x5)
      obtain ⟨Ax5, cx5, rfl, Sx5⟩ := qView_x5
      obtain ⟨_, _, _, _, qFilter_x6, hr'''''', rfl, rfl⟩ := hr'''''
      have RFilter_x6 := Lib.hid (Held.mk qFilter_x6)
      obtain ⟨_, _, _, _, ⟨rfl, rfl⟩, ⟨Ax7, cx7, rfl, Sx7⟩, rfl, rfl⟩ := qFilter_x6
      obtain ⟨_, _, _, _, qx8, hr''''''', rfl, rfl⟩ := hr''''''
      obtain ⟨rfl, gx8, rfl⟩ := qx8
      obtain ⟨_, _, _, _, qx9, hr'''''''', rfl, rfl⟩ := hr'''''''
      obtain ⟨rfl, gx9, rfl⟩ := qx9
      obtain ⟨_, _, _, _, qQueue_x10, hr''''''''', rfl, rfl⟩ := hr''''''''
      have RQueue_x10 := Lib.hid (Held.mk qQueue_x10)
      obtain ⟨_, _, _, _, ⟨Ax10, cx10, rfl, Sx10⟩, ⟨_, _, _, _, ⟨rfl, rfl⟩, ⟨rfl, rfl⟩, rfl, rfl⟩, rfl, rfl⟩ := qQueue_x10
      obtain ⟨_, _, _, _, qIn_x13, hr'''''''''', rfl, rfl⟩ := hr'''''''''
      have RIn_x13 := Lib.hid (Held.mk qIn_x13)
      obtain ⟨_, _, _, _, ⟨rfl, gx13, rfl⟩, ⟨rfl, rfl⟩, rfl, rfl⟩ := qIn_x13
      obtain ⟨_, _, _, _, qOut_x15, hr''''''''''', rfl, rfl⟩ := hr''''''''''
      have ROut_x15 := Lib.hid (Held.mk qOut_x15)
      obtain ⟨_, _, _, _, ⟨rfl, gx15, rfl⟩, ⟨rfl, gx16, rfl⟩, rfl, rfl⟩ := qOut_x15
      obtain ⟨rfl, ix17, rfl⟩ := hr'''''''''''
      have p0 : w.cell? ⟨b, off + k * 17, none⟩ = some (.bool x1) := (hC 0 _ rfl).1
      have p1 : w.cell? ⟨b, off + k * 17 + 1, none⟩ = some (.int .i64 x2) := (hC 1 _ rfl).1
      have p2 : w.cell? ⟨b, off + k * 17 + 2, none⟩ = some (.int .i64 x3) := (hC 2 _ rfl).1
      have p3 : w.cell? ⟨b, off + k * 17 + 3, none⟩ = some (.int .i64 x4) := (hC 3 _ rfl).1
      have p4 : w.cell? ⟨b, off + k * 17 + 4, none⟩ = some (.slice Ax5 x5.length cx5) := (hC 4 _ rfl).1
      have p5 : w.cell? ⟨b, off + k * 17 + 5, none⟩ = some (.bool x6) := (hC 5 _ rfl).1
      have p6 : w.cell? ⟨b, off + k * 17 + 6, none⟩ = some (.slice Ax7 x7.length cx7) := (hC 6 _ rfl).1
      have p7 : w.cell? ⟨b, off + k * 17 + 7, none⟩ = some (.string x8) := (hC 7 _ rfl).1
      have p8 : w.cell? ⟨b, off + k * 17 + 8, none⟩ = some (.string x9) := (hC 8 _ rfl).1
      have p9 : w.cell? ⟨b, off + k * 17 + 9, none⟩ = some (.slice Ax10 x10.length cx10) := (hC 9 _ rfl).1
      have p10 : w.cell? ⟨b, off + k * 17 + 10, none⟩ = some (.bool x11) := (hC 10 _ rfl).1
      have p11 : w.cell? ⟨b, off + k * 17 + 11, none⟩ = some (.bool x12) := (hC 11 _ rfl).1
      have p12 : w.cell? ⟨b, off + k * 17 + 12, none⟩ = some (.string x13) := (hC 12 _ rfl).1
      have p13 : w.cell? ⟨b, off + k * 17 + 13, none⟩ = some (.bool x14) := (hC 13 _ rfl).1
      have p14 : w.cell? ⟨b, off + k * 17 + 14, none⟩ = some (.string x15) := (hC 14 _ rfl).1
      have p15 : w.cell? ⟨b, off + k * 17 + 15, none⟩ = some (.string x16) := (hC 15 _ rfl).1
      have p16 : w.cell? ⟨b, off + k * 17 + 16, none⟩ = some (.int .i64 x17) := (hC 16 _ rfl).1
      have a0 : arr[k * 17]? = some arr[k * 17] := Array.getElem?_eq_getElem (by omega)
      have a1 : arr[k * 17 + 1]? = some arr[k * 17 + 1] := Array.getElem?_eq_getElem (by omega)
      have a2 : arr[k * 17 + 2]? = some arr[k * 17 + 2] := Array.getElem?_eq_getElem (by omega)
      have a3 : arr[k * 17 + 3]? = some arr[k * 17 + 3] := Array.getElem?_eq_getElem (by omega)
      have a4 : arr[k * 17 + 4]? = some arr[k * 17 + 4] := Array.getElem?_eq_getElem (by omega)
      have a5 : arr[k * 17 + 5]? = some arr[k * 17 + 5] := Array.getElem?_eq_getElem (by omega)
      have a6 : arr[k * 17 + 6]? = some arr[k * 17 + 6] := Array.getElem?_eq_getElem (by omega)
      have a7 : arr[k * 17 + 7]? = some arr[k * 17 + 7] := Array.getElem?_eq_getElem (by omega)
      have a8 : arr[k * 17 + 8]? = some arr[k * 17 + 8] := Array.getElem?_eq_getElem (by omega)
      have a9 : arr[k * 17 + 9]? = some arr[k * 17 + 9] := Array.getElem?_eq_getElem (by omega)
      have a10 : arr[k * 17 + 10]? = some arr[k * 17 + 10] := Array.getElem?_eq_getElem (by omega)
      have a11 : arr[k * 17 + 11]? = some arr[k * 17 + 11] := Array.getElem?_eq_getElem (by omega)
      have a12 : arr[k * 17 + 12]? = some arr[k * 17 + 12] := Array.getElem?_eq_getElem (by omega)
      have a13 : arr[k * 17 + 13]? = some arr[k * 17 + 13] := Array.getElem?_eq_getElem (by omega)
      have a14 : arr[k * 17 + 14]? = some arr[k * 17 + 14] := Array.getElem?_eq_getElem (by omega)
      have a15 : arr[k * 17 + 15]? = some arr[k * 17 + 15] := Array.getElem?_eq_getElem (by omega)
      have a16 : arr[k * 17 + 16]? = some arr[k * 17 + 16] := Array.getElem?_eq_getElem (by omega)
      generalize arr[k * 17] = u0 at a0
      generalize arr[k * 17 + 1] = u1 at a1
      generalize arr[k * 17 + 2] = u2 at a2
      generalize arr[k * 17 + 3] = u3 at a3
      generalize arr[k * 17 + 4] = u4 at a4
      generalize arr[k * 17 + 5] = u5 at a5
      generalize arr[k * 17 + 6] = u6 at a6
      generalize arr[k * 17 + 7] = u7 at a7
      generalize arr[k * 17 + 8] = u8 at a8
      generalize arr[k * 17 + 9] = u9 at a9
      generalize arr[k * 17 + 10] = u10 at a10
      generalize arr[k * 17 + 11] = u11 at a11
      generalize arr[k * 17 + 12] = u12 at a12
      generalize arr[k * 17 + 13] = u13 at a13
      generalize arr[k * 17 + 14] = u14 at a14
      generalize arr[k * 17 + 15] = u15 at a15
      generalize arr[k * 17 + 16] = u16 at a16
      clear hC hsz
      go_wp2_with (go_at_call 25; refine (l_toSession (x1, x2, x3, x4, x5, (x6, x7), x8, x9, (x10, x11, x12), (x13, x14), (x15, x16), x17) _ _ (by repeat (first | exact HR.out | with_reducible refine held_alloc ?_ _ | with_reducible refine held_ext ?_ _ _)) HBX.out).mono ?_; rintro e _ ⟨cs, F1, E1, d1, rfl, rfl, hr1, hn1, hf1⟩; have HR1 := Lib.hid hr1; have HN1 := Lib.hid hn1; have HF1 := Lib.hid hf1; clear hn1 hf1; obtain ⟨_, _, _, _, ⟨rfl, rfl⟩, ⟨_, _, _, _, ⟨rfl, ix2, rfl⟩, ⟨_, _, _, _, ⟨rfl, ix3, rfl⟩, ⟨_, _, _, _, ⟨rfl, ix4, rfl⟩, ⟨_, _, _, _, ⟨Ax5n, cx5n, rfl, Sx5n⟩, ⟨_, _, _, _, ⟨_, _, _, _, ⟨rfl, rfl⟩, ⟨Ax7n, cx7n, rfl, Sx7n⟩, rfl, rfl⟩, ⟨_, _, _, _, ⟨rfl, gx8, rfl⟩, ⟨_, _, _, _, ⟨rfl, gx9, rfl⟩, ⟨_, _, _, _, ⟨_, _, _, _, ⟨Ax10n, cx10n, rfl, Sx10n⟩, ⟨_, _, _, _, ⟨rfl, rfl⟩, ⟨rfl, rfl⟩, rfl, rfl⟩, rfl, rfl⟩, ⟨_, _, _, _, ⟨_, _, _, _, ⟨rfl, gx13, rfl⟩, ⟨rfl, rfl⟩, rfl, rfl⟩, ⟨_, _, _, _, ⟨_, _, _, _, ⟨rfl, gx15, rfl⟩, ⟨rfl, gx16, rfl⟩, rfl, rfl⟩, ⟨rfl, ix17, rfl⟩, rfl, rfl⟩, rfl, rfl⟩, rfl, rfl⟩, rfl, rfl⟩, rfl, rfl⟩, rfl, rfl⟩, rfl, rfl⟩, rfl, rfl⟩, rfl, rfl⟩, rfl, rfl⟩, rfl, rfl⟩ := hr1; simp only [mkA, List.cons_append, List.nil_append])
      go_roundw
      case rel =>
        obtain ⟨r1, r2, r3⟩ := row_step w arr 68 E E1 d d1 k xs _ _ G _ HX.out HSZ.out HROW.out HND.out HFR.out HR1.out HN1.out HF1.out
        exact ⟨k + 1, _, _, E ++ E1, d1, by omega, by go_num, ext_ext _ _ _ _ _, by rw [← HSZ.out]; simp only [Array.size_setIfInBounds], by rw [ext_ext]; rw [show k * GoRep.n GSession = k * 17 from rfl] at r1; simp only [setRow, Nat.add_assoc, Nat.reduceAdd] at r1 ⊢; exact r1, r2, r3⟩
      case measure => simp [intOf]; omega
    · have hkk : k = xs.length := by omega
      subst hkk
      have _ := HB
      go_wp2
      go_ret
      have hrow := HROW.out
      rw [List.take_length] at hrow
      exact row_done hrow HND.out HFR.out hn

set_option maxRecDepth 100000 in
set_option maxHeartbeats 2000000 in
theorem l_toServer (x : GServer) (cs : List Value) (w : World) (h : Held w x cs) (hb : bulk x ≤ 1048576) :
    Calls Try.prog 71 #[.agg cs.toArray] w (RN mkA x w) := by
  obtain ⟨F, h⟩ := h
  obtain ⟨⟨x1, x2, x3⟩, x4⟩ := x
  obtain ⟨_, _, _, _, qStore_x1, h', rfl, rfl⟩ := h
  have RStore_x1 := Lib.hid (Held.mk qStore_x1)
  obtain ⟨_, _, _, _, ⟨Ax1, cx1, rfl, Sx1⟩, ⟨_, _, _, _, ⟨Ax2, cx2, rfl, Sx2⟩, ⟨rfl, ix3, rfl⟩, rfl, rfl⟩, rfl, rfl⟩ := qStore_x1
  have Rx4 := Lib.hid (Held.mk h')
  obtain ⟨Ax4, cx4, rfl, Sx4⟩ := h'
  change Calls Try.prog 71 #[.agg #[.slice Ax1 x1.length cx1, .slice Ax2 x2.length cx2, .int .i64 x3, .slice Ax4 x4.length cx4]] w _
  have hb' : bulk ((x1, x2, x3) : GStore) + (bulk x4) ≤ 1048576 := hb
  have hb0 : bulk ((x1, x2, x3) : GStore) ≤ 1048576 := by omega
  have hb1 : bulk x4 ≤ 1048576 := by omega
  have HB0 := Lib.hid hb0
  have HB1 := Lib.hid hb1
  clear hb hb' hb0 hb1
  have HIx3 := Lib.hid ix3
  clear ix3
  go_enter Try.func71, Try.ntmps71
  go_wp2_with (first | (go_at_call 16; refine (l_toStore ((x1, x2, x3) : GStore) _ _ (by repeat (first | exact RStore_x1.out | with_reducible refine held_alloc ?_ _ | with_reducible refine held_ext ?_ _ _)) HB0.out).mono ?_; rintro e _ ⟨cs, F0, E0, d0, rfl, rfl, r0, n0, f0⟩; have HR0 := Lib.hid r0; have HN0 := Lib.hid n0; have HF0 := Lib.hid f0; clear n0 f0; obtain ⟨_, _, _, _, ⟨Ax1n, cx1n, rfl, Sx1n⟩, ⟨_, _, _, _, ⟨Ax2n, cx2n, rfl, Sx2n⟩, ⟨rfl, ix3, rfl⟩, rfl, rfl⟩, rfl, rfl⟩ := r0; simp only [mkA, List.cons_append, List.nil_append]) | (go_at_call 149; refine (l_toSessionS x4 _ _ (by repeat (first | exact Rx4.out | with_reducible refine held_alloc ?_ _ | with_reducible refine held_ext ?_ _ _)) HB1.out).mono ?_; rintro e _ ⟨cs, F1, E1, d1, rfl, rfl, r1, n1, f1⟩; have HR1 := Lib.hid r1; have HN1 := Lib.hid n1; have HF1 := Lib.hid f1; clear n1 f1; obtain ⟨Ax4n, cx4n, rfl, Sx4n⟩ := r1; simp only [mk1, List.headD_cons]))
  refine bodyPost_ret (v := .agg #[.slice Ax1n x1.length cx1n, .slice Ax2n x2.length cx2n, .int .i64 x3, .slice Ax4n x4.length cx4n]) (by simp [results, Try.results71, go_sem]) rfl (RN.fin (by repeat (first | exact Below.refl _ _ | refine bl_al ?_ _ | refine bl_ext ?_ _ _ | refine Below.drew ?_ | assumption | refine bl_tr ?_ (by assumption))) (cs := [.slice Ax1n x1.length cx1n, .slice Ax2n x2.length cx2n, .int .i64 x3, .slice Ax4n x4.length cx4n]) ⟨_, _, _, _, (rep_ext (rep_swap1 HR0.out (fun b hb => by have := HF0.out b hb; simp at this; (try simp); omega) (by simp)) E1 d1), (rep_swap2 HR1.out (fun b hb => by have := HF1.out b hb; simp at this; (try simp); omega) (by simp)), rfl, rfl⟩ ?_ ?_ rfl)
  · have hlt : ∀ a b : Nat, a ≤ b → a ≤ b := fun _ _ h => h
    clear hlt
    have t0 := nodup_app HN0.out HN1.out (fun b hb => GoRep.lt HR0.out b hb) (fun b hb => by
      (try simp only [List.append_nil] at hb)
      (try simp only [List.nil_append] at hb)
      (try simp only [List.mem_append] at hb)
      have := HF1.out b (by simp [hb]); simp at this ⊢; omega)
    simpa using t0
  · exact (fa_app (fun b hb => by have := HF0.out b hb; simp at this; omega) (fun b hb => by have := HF1.out b hb; simp at this; omega))

end Go.Proofs.Ytigakalkkaoflaa
