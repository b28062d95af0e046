/-
  Contracts of the laws' functions toX: a copy of a value in new memory.
  No condition but what the arguments' cells hold. Printed by gen_types.py.
-/
import Derived.Test.YtigakalkkaoflaaTypes
namespace Go.Proofs.Ytigakalkkaoflaa
open Go.ChangeShapes Go.WideShapes Go.ChangeAt Go.RowKit Go.Joins Go.Deep
open GoRep (rep bulk)
open GoMark (mrk cnt mrkI cntI)

theorem info_StringS : (Try.prog.info? 9).map (fun i => (i.zero, i.size, i.bytes)) = some (some (.string ⟨#[]⟩), 1, 16) := by kernel_rfl
set_option maxRecDepth 100000 in
set_option maxHeartbeats 8000000 in
theorem l_toStringS (xs : (List ByteArray)) (v : Value) (w : World) (h : Held w xs [v]) (hb : bulk xs ≤ 1048576) :
    Calls Try.prog 252 #[v] w (RN mk1 xs w) := by
  obtain ⟨F, A, c, e, S⟩ := h
  obtain rfl : v = .slice A xs.length c := by simpa using e
  have hl : xs.length ≤ c := S.1
  have hm := le63 S.2.1
  have hn : xs.length ≤ 1048576 := Nat.le_trans (len_bulk xs) hb
  have HS := Lib.hid S
  have HB := Lib.hid hb
  clear S e hb
  obtain ⟨i0, hi0, hz0, hz1, hz2⟩ := info_parts info_StringS
  have hmk := mk_row (P := Try.prog) Try.underlying148 hi0 hz0 hz1 hz2 xs.length hn (by omega)
  clear hi0 hz0 hz1 hz2
  go_enter Try.func252, Try.ntmps252
  go_wp2
  clear hmk
  go_loopw [4] (fun i wr => ∃ (k : Nat) (arr : Array Value) (G : List Nat) (E : Array Obj) (d : Nat), k ≤ xs.length ∧ i = .int .i64 k ∧ wr = ext (w.alloc (.cells arr 9)) E d ∧ arr.size = xs.length ∧
    RowRep wr w.heap.size 0 (xs.take k) G ∧ G.Nodup ∧ (∀ g ∈ G, w.heap.size < g)) (fun i _ => xs.length - (intOf i).toNat)
  case atStart => exact ⟨0, _, [], #[], w.drawn, by omega, rfl, by simp [ext]; rfl, by rw [zrow_size], rfl, by simp, by simp⟩
  case round =>
    obtain ⟨k, arr, G, E, d, hk, rfl, rfl, hsz, hrow, hnd, hfr⟩ := hrel
    have HROW := Lib.hid hrow
    have HND := Lib.hid hnd
    have HFR := Lib.hid hfr
    have HSZ := Lib.hid hsz
    clear hrow hnd hfr
    by_cases hlt : k < xs.length
    · obtain ⟨b, off, x, cs, Gk, rfl, hx, hr, _, _, hb, hC⟩ := HS.out.at_ hlt
      have HX := Lib.hid hx
      clear hx
      have HR := Lib.hid hr
      have c0 : w.cell? ⟨b, off + k, none⟩ = some (.string x) := by
        obtain ⟨rfl, _⟩ := hr
        have := (hC 0 _ rfl).1
        rwa [show off + k * GoRep.n ByteArray + 0 = off + k from by show off + k * 1 + 0 = off + k; omega] at this
      have a0 : arr[k]? = some arr[k] := Array.getElem?_eq_getElem (by omega)
      generalize arr[k] = u0 at a0
      obtain ⟨rfl, _⟩ := hr
      clear hC hsz
      go_wp2
      go_roundw
      case rel =>
        obtain ⟨r1, r2, r3⟩ := row_step w arr 9 E #[] d d k xs _ _ G _ HX.out (HSZ.out.trans (Nat.mul_one _).symm) HROW.out HND.out HFR.out (GoRep.keep HR.out (fun g hg => by rw [show Gk = [] from HR.out.2.2] at hg; simp at hg)) (by rw [show Gk = [] from HR.out.2.2]; simp) (by rw [show Gk = [] from HR.out.2.2]; simp)
        have e1 : k * GoRep.n ByteArray = k := by show k * 1 = k; omega
        rw [e1] at r1
        exact ⟨k + 1, _, _, E, d, by omega, by go_num, rfl, by rw [← HSZ.out]; exact setRow_size [_] arr k, by simpa [setRow] using r1, r2, r3⟩
      case measure => simp [intOf]; omega
    · have hkk : k = xs.length := by omega
      subst hkk
      have _ := HB
      go_wp2
      go_ret
      have hrow := HROW.out
      rw [List.take_length] at hrow
      exact row_done hrow HND.out HFR.out hn


set_option maxRecDepth 100000 in
set_option maxHeartbeats 2000000 in
theorem l_toToken (x : GToken) (cs : List Value) (w : World) (h : Held w x cs) (hb : bulk x ≤ 1048576) :
    Calls Try.prog 137 #[.agg cs.toArray] w (RN mkA x w) := by
  obtain ⟨F, h⟩ := h
  obtain ⟨x1, x2⟩ := x
  obtain ⟨_, _, _, _, qx1, h', rfl, rfl⟩ := h
  obtain ⟨rfl, ix1, rfl⟩ := qx1
  obtain ⟨rfl, gx2, rfl⟩ := h'
  change Calls Try.prog 137 #[.agg #[.int .i64 x1, .string x2]] w _
  have hb' : 0 + (x2.size) ≤ 1048576 := hb
  clear hb hb'
  have HIx1 := Lib.hid ix1
  have HSx2 := Lib.hid gx2
  clear ix1 gx2
  go_enter Try.func137, Try.ntmps137
  go_wp2
  refine bodyPost_ret (v := .agg #[.int .i64 x1, .string x2]) (by simp [results, Try.results137, go_sem]) rfl (RN.fin (by repeat (first | exact Below.refl _ _ | refine bl_al ?_ _ | refine bl_ext ?_ _ _ | refine Below.drew ?_ | assumption | refine bl_tr ?_ (by assumption))) (cs := [.int .i64 x1, .string x2]) ⟨_, _, _, _, ⟨rfl, HIx1.out, rfl⟩, ⟨rfl, HSx2.out, rfl⟩, rfl, rfl⟩ ?_ ?_ rfl)
  · simp
  · simp

theorem info_TokenS : (Try.prog.info? 193).map (fun i => (i.zero, i.size, i.bytes)) = some (some (.agg #[.int .i64 0, .string ⟨#[]⟩]), 2, 24) := by kernel_rfl
set_option maxRecDepth 100000 in
set_option maxHeartbeats 8000000 in
theorem l_toTokenS (xs : (List GToken)) (v : Value) (w : World) (h : Held w xs [v]) (hb : bulk xs ≤ 1048576) :
    Calls Try.prog 58 #[v] w (RN mk1 xs w) := by
  obtain ⟨F, A, c, e, S⟩ := h
  obtain rfl : v = .slice A xs.length c := by simpa using e
  have hl : xs.length ≤ c := S.1
  have hm := le63 S.2.1
  have hn : xs.length ≤ 1048576 := Nat.le_trans (len_bulk xs) hb
  have HS := Lib.hid S
  have HB := Lib.hid hb
  clear S e hb
  obtain ⟨i0, hi0, hz0, hz1, hz2⟩ := info_parts info_TokenS
  have hmk := mk_row (P := Try.prog) Try.underlying106 hi0 hz0 hz1 hz2 xs.length hn (by omega)
  clear hi0 hz0 hz1 hz2
  go_enter Try.func58, Try.ntmps58
  go_wp2
  clear hmk
  go_loopw [4] (fun i wr => ∃ (k : Nat) (arr : Array Value) (G : List Nat) (E : Array Obj) (d : Nat), k ≤ xs.length ∧ i = .int .i64 k ∧ wr = ext (w.alloc (.cells arr 193)) E d ∧ arr.size = xs.length * 2 ∧
    RowRep wr w.heap.size 0 (xs.take k) G ∧ G.Nodup ∧ (∀ g ∈ G, w.heap.size < g)) (fun i _ => xs.length - (intOf i).toNat)
  case atStart => exact ⟨0, _, [], #[], w.drawn, by omega, rfl, by simp [ext]; rfl, by rw [zrow_size], rfl, by simp, by simp⟩
  case round =>
    obtain ⟨k, arr, G, E, d, hk, rfl, rfl, hsz, hrow, hnd, hfr⟩ := hrel
    have HROW := Lib.hid hrow
    have HND := Lib.hid hnd
    have HFR := Lib.hid hfr
    have HSZ := Lib.hid hsz
    clear hrow hnd hfr
    by_cases hlt : k < xs.length
    · obtain ⟨b, off, x, cs, Gk, rfl, hx, hr, _, _, hb, hC⟩ := HS.out.at_ hlt
      have HX := Lib.hid hx
      clear hx
      have HR := Lib.hid (Held.mk hr)
      obtain ⟨x1, x2⟩ := x
      have hbx : bulk ((x1, x2) : GToken) ≤ 1048576 := by
        have h1 := bulkL_at HX.out
        have h2 : bulk xs = xs.length + bulkL xs := rfl
        have h3 := HB.out
        omega
      have HBX := Lib.hid hbx
      clear hbx
      obtain ⟨_, _, _, _, qx1, hr', rfl, rfl⟩ := hr
      obtain ⟨rfl, ix1, rfl⟩ := qx1
      obtain ⟨rfl, gx2, rfl⟩ := hr'
      have p0 : w.cell? ⟨b, off + k * 2, none⟩ = some (.int .i64 x1) := (hC 0 _ rfl).1
      have p1 : w.cell? ⟨b, off + k * 2 + 1, none⟩ = some (.string x2) := (hC 1 _ rfl).1
      have a0 : arr[k * 2]? = some arr[k * 2] := Array.getElem?_eq_getElem (by omega)
      have a1 : arr[k * 2 + 1]? = some arr[k * 2 + 1] := Array.getElem?_eq_getElem (by omega)
      generalize arr[k * 2] = u0 at a0
      generalize arr[k * 2 + 1] = u1 at a1
      clear hC hsz
      go_wp2_with (go_at_call 137; refine (l_toToken (x1, x2) _ _ (by repeat (first | exact HR.out | with_reducible refine held_alloc ?_ _ | with_reducible refine held_ext ?_ _ _)) HBX.out).mono ?_; rintro e _ ⟨cs, F1, E1, d1, rfl, rfl, hr1, hn1, hf1⟩; have HR1 := Lib.hid hr1; have HN1 := Lib.hid hn1; have HF1 := Lib.hid hf1; clear hn1 hf1; obtain ⟨_, _, _, _, ⟨rfl, ix1, rfl⟩, ⟨rfl, gx2, rfl⟩, rfl, rfl⟩ := hr1; simp only [mkA, List.cons_append, List.nil_append])
      go_roundw
      case rel =>
        obtain ⟨r1, r2, r3⟩ := row_step w arr 193 E E1 d d1 k xs _ _ G _ HX.out HSZ.out HROW.out HND.out HFR.out HR1.out HN1.out HF1.out
        exact ⟨k + 1, _, _, E ++ E1, d1, by omega, by go_num, ext_ext _ _ _ _ _, by rw [← HSZ.out]; exact setRow_size [_, _] arr (k * 2), by rw [ext_ext]; exact r1, r2, r3⟩
      case measure => simp [intOf]; omega
    · have hkk : k = xs.length := by omega
      subst hkk
      have _ := HB
      go_wp2
      go_ret
      have hrow := HROW.out
      rw [List.take_length] at hrow
      exact row_done hrow HND.out HFR.out hn

set_option maxRecDepth 100000 in
set_option maxHeartbeats 2000000 in
theorem l_toSpan (x : GSpan) (cs : List Value) (w : World) (h : Held w x cs) (hb : bulk x ≤ 1048576) :
    Calls Try.prog 196 #[.agg cs.toArray] w (RN mkA x w) := by
  obtain ⟨F, h⟩ := h
  obtain ⟨x1, x2⟩ := x
  obtain ⟨_, _, _, _, qx1, h', rfl, rfl⟩ := h
  obtain ⟨rfl, ix1, rfl⟩ := qx1
  obtain ⟨rfl, ix2, rfl⟩ := h'
  change Calls Try.prog 196 #[.agg #[.int .i64 x1, .int .i64 x2]] w _
  have hb' : 0 + (0) ≤ 1048576 := hb
  clear hb hb'
  have HIx1 := Lib.hid ix1
  have HIx2 := Lib.hid ix2
  clear ix1 ix2
  go_enter Try.func196, Try.ntmps196
  go_wp2
  refine bodyPost_ret (v := .agg #[.int .i64 x1, .int .i64 x2]) (by simp [results, Try.results196, go_sem]) rfl (RN.fin (by repeat (first | exact Below.refl _ _ | refine bl_al ?_ _ | refine bl_ext ?_ _ _ | refine Below.drew ?_ | assumption | refine bl_tr ?_ (by assumption))) (cs := [.int .i64 x1, .int .i64 x2]) ⟨_, _, _, _, ⟨rfl, HIx1.out, rfl⟩, ⟨rfl, HIx2.out, rfl⟩, rfl, rfl⟩ ?_ ?_ rfl)
  · simp
  · simp

theorem info_SpanS : (Try.prog.info? 247).map (fun i => (i.zero, i.size, i.bytes)) = some (some (.agg #[.int .i64 0, .int .i64 0]), 2, 16) := by kernel_rfl
set_option maxRecDepth 100000 in
set_option maxHeartbeats 8000000 in
theorem l_toSpanS (xs : (List GSpan)) (v : Value) (w : World) (h : Held w xs [v]) (hb : bulk xs ≤ 1048576) :
    Calls Try.prog 121 #[v] w (RN mk1 xs w) := by
  obtain ⟨F, A, c, e, S⟩ := h
  obtain rfl : v = .slice A xs.length c := by simpa using e
  have hl : xs.length ≤ c := S.1
  have hm := le63 S.2.1
  have hn : xs.length ≤ 1048576 := Nat.le_trans (len_bulk xs) hb
  have HS := Lib.hid S
  have HB := Lib.hid hb
  clear S e hb
  obtain ⟨i0, hi0, hz0, hz1, hz2⟩ := info_parts info_SpanS
  have hmk := mk_row (P := Try.prog) Try.underlying90 hi0 hz0 hz1 hz2 xs.length hn (by omega)
  clear hi0 hz0 hz1 hz2
  go_enter Try.func121, Try.ntmps121
  go_wp2
  clear hmk
  go_loopw [4] (fun i wr => ∃ (k : Nat) (arr : Array Value) (G : List Nat) (E : Array Obj) (d : Nat), k ≤ xs.length ∧ i = .int .i64 k ∧ wr = ext (w.alloc (.cells arr 247)) E d ∧ arr.size = xs.length * 2 ∧
    RowRep wr w.heap.size 0 (xs.take k) G ∧ G.Nodup ∧ (∀ g ∈ G, w.heap.size < g)) (fun i _ => xs.length - (intOf i).toNat)
  case atStart => exact ⟨0, _, [], #[], w.drawn, by omega, rfl, by simp [ext]; rfl, by rw [zrow_size], rfl, by simp, by simp⟩
  case round =>
    obtain ⟨k, arr, G, E, d, hk, rfl, rfl, hsz, hrow, hnd, hfr⟩ := hrel
    have HROW := Lib.hid hrow
    have HND := Lib.hid hnd
    have HFR := Lib.hid hfr
    have HSZ := Lib.hid hsz
    clear hrow hnd hfr
    by_cases hlt : k < xs.length
    · obtain ⟨b, off, x, cs, Gk, rfl, hx, hr, _, _, hb, hC⟩ := HS.out.at_ hlt
      have HX := Lib.hid hx
      clear hx
      have HR := Lib.hid (Held.mk hr)
      obtain ⟨x1, x2⟩ := x
      have hbx : bulk ((x1, x2) : GSpan) ≤ 1048576 := by
        have h1 := bulkL_at HX.out
        have h2 : bulk xs = xs.length + bulkL xs := rfl
        have h3 := HB.out
        omega
      have HBX := Lib.hid hbx
      clear hbx
      obtain ⟨_, _, _, _, qx1, hr', rfl, rfl⟩ := hr
      obtain ⟨rfl, ix1, rfl⟩ := qx1
      obtain ⟨rfl, ix2, rfl⟩ := hr'
      have p0 : w.cell? ⟨b, off + k * 2, none⟩ = some (.int .i64 x1) := (hC 0 _ rfl).1
      have p1 : w.cell? ⟨b, off + k * 2 + 1, none⟩ = some (.int .i64 x2) := (hC 1 _ rfl).1
      have a0 : arr[k * 2]? = some arr[k * 2] := Array.getElem?_eq_getElem (by omega)
      have a1 : arr[k * 2 + 1]? = some arr[k * 2 + 1] := Array.getElem?_eq_getElem (by omega)
      generalize arr[k * 2] = u0 at a0
      generalize arr[k * 2 + 1] = u1 at a1
      clear hC hsz
      go_wp2_with (go_at_call 196; refine (l_toSpan (x1, x2) _ _ (by repeat (first | exact HR.out | with_reducible refine held_alloc ?_ _ | with_reducible refine held_ext ?_ _ _)) HBX.out).mono ?_; rintro e _ ⟨cs, F1, E1, d1, rfl, rfl, hr1, hn1, hf1⟩; have HR1 := Lib.hid hr1; have HN1 := Lib.hid hn1; have HF1 := Lib.hid hf1; clear hn1 hf1; obtain ⟨_, _, _, _, ⟨rfl, ix1, rfl⟩, ⟨rfl, ix2, rfl⟩, rfl, rfl⟩ := hr1; simp only [mkA, List.cons_append, List.nil_append])
      go_roundw
      case rel =>
        obtain ⟨r1, r2, r3⟩ := row_step w arr 247 E E1 d d1 k xs _ _ G _ HX.out HSZ.out HROW.out HND.out HFR.out HR1.out HN1.out HF1.out
        exact ⟨k + 1, _, _, E ++ E1, d1, by omega, by go_num, ext_ext _ _ _ _ _, by rw [← HSZ.out]; exact setRow_size [_, _] arr (k * 2), by rw [ext_ext]; exact r1, r2, r3⟩
      case measure => simp [intOf]; omega
    · have hkk : k = xs.length := by omega
      subst hkk
      have _ := HB
      go_wp2
      go_ret
      have hrow := HROW.out
      rw [List.take_length] at hrow
      exact row_done hrow HND.out HFR.out hn

set_option maxRecDepth 100000 in
set_option maxHeartbeats 2000000 in
theorem l_toScope (x : GScope) (cs : List Value) (w : World) (h : Held w x cs) (hb : bulk x ≤ 1048576) :
    Calls Try.prog 233 #[.agg cs.toArray] w (RN mkA x w) := by
  obtain ⟨F, h⟩ := h
  obtain ⟨x1, x2, x3⟩ := x
  obtain ⟨_, _, _, _, qx1, h', rfl, rfl⟩ := h
  obtain ⟨rfl, ix1, rfl⟩ := qx1
  obtain ⟨_, _, _, _, qx2, h'', rfl, rfl⟩ := h'
  have Rx2 := Lib.hid (Held.mk qx2)
  obtain ⟨Ax2, cx2, rfl, Sx2⟩ := qx2
  obtain ⟨rfl, ix3, rfl⟩ := h''
  change Calls Try.prog 233 #[.agg #[.int .i64 x1, .slice Ax2 x2.length cx2, .int .i64 x3]] w _
  have hb' : 0 + (bulk x2 + (0)) ≤ 1048576 := hb
  have hb1 : bulk x2 ≤ 1048576 := by omega
  have HB1 := Lib.hid hb1
  clear hb hb' hb1
  have HIx1 := Lib.hid ix1
  have HIx3 := Lib.hid ix3
  clear ix1 ix3
  go_enter Try.func233, Try.ntmps233
  go_wp2_with (first | (go_at_call 252; refine (l_toStringS x2 _ _ (by repeat (first | exact Rx2.out | with_reducible refine held_alloc ?_ _ | with_reducible refine held_ext ?_ _ _)) HB1.out).mono ?_; rintro e _ ⟨cs, F1, E1, d1, rfl, rfl, r1, n1, f1⟩; have HR1 := Lib.hid r1; have HN1 := Lib.hid n1; have HF1 := Lib.hid f1; clear n1 f1; obtain ⟨Ax2n, cx2n, rfl, Sx2n⟩ := r1; simp only [mk1, List.headD_cons]))
  refine bodyPost_ret (v := .agg #[.int .i64 x1, .slice Ax2n x2.length cx2n, .int .i64 x3]) (by simp [results, Try.results233, go_sem]) rfl (RN.fin (by repeat (first | exact Below.refl _ _ | refine bl_al ?_ _ | refine bl_ext ?_ _ _ | refine Below.drew ?_ | assumption | refine bl_tr ?_ (by assumption))) (cs := [.int .i64 x1, .slice Ax2n x2.length cx2n, .int .i64 x3]) ⟨_, _, _, _, ⟨rfl, HIx1.out, rfl⟩, ⟨_, _, _, _, (rep_swap1 HR1.out (fun b hb => by have := HF1.out b hb; simp at this; (try simp); omega) (by simp)), ⟨rfl, HIx3.out, rfl⟩, rfl, rfl⟩, rfl, rfl⟩ ?_ ?_ rfl)
  · first | exact HN1.out | simpa using HN1.out
  · exact (fa_app (fun b hb => by simp at hb) (fa_app (fun b hb => by have := HF1.out b hb; simp at this; omega) (fun b hb => by simp at hb)))

theorem info_ScopeS : (Try.prog.info? 150).map (fun i => (i.zero, i.size, i.bytes)) = some (some (.agg #[.int .i64 0, .slice none 0 0, .int .i64 0]), 3, 40) := by kernel_rfl
set_option maxRecDepth 100000 in
set_option maxHeartbeats 8000000 in
theorem l_toScopeS (xs : (List GScope)) (v : Value) (w : World) (h : Held w xs [v]) (hb : bulk xs ≤ 1048576) :
    Calls Try.prog 174 #[v] w (RN mk1 xs w) := by
  obtain ⟨F, A, c, e, S⟩ := h
  obtain rfl : v = .slice A xs.length c := by simpa using e
  have hl : xs.length ≤ c := S.1
  have hm := le63 S.2.1
  have hn : xs.length ≤ 1048576 := Nat.le_trans (len_bulk xs) hb
  have HS := Lib.hid S
  have HB := Lib.hid hb
  clear S e hb
  obtain ⟨i0, hi0, hz0, hz1, hz2⟩ := info_parts info_ScopeS
  have hmk := mk_row (P := Try.prog) Try.underlying59 hi0 hz0 hz1 hz2 xs.length hn (by omega)
  clear hi0 hz0 hz1 hz2
  go_enter Try.func174, Try.ntmps174
  go_wp2
  clear hmk
  go_loopw [4] (fun i wr => ∃ (k : Nat) (arr : Array Value) (G : List Nat) (E : Array Obj) (d : Nat), k ≤ xs.length ∧ i = .int .i64 k ∧ wr = ext (w.alloc (.cells arr 150)) E d ∧ arr.size = xs.length * 3 ∧
    RowRep wr w.heap.size 0 (xs.take k) G ∧ G.Nodup ∧ (∀ g ∈ G, w.heap.size < g)) (fun i _ => xs.length - (intOf i).toNat)
  case atStart => exact ⟨0, _, [], #[], w.drawn, by omega, rfl, by simp [ext]; rfl, by rw [zrow_size], rfl, by simp, by simp⟩
  case round =>
    obtain ⟨k, arr, G, E, d, hk, rfl, rfl, hsz, hrow, hnd, hfr⟩ := hrel
    have HROW := Lib.hid hrow
    have HND := Lib.hid hnd
    have HFR := Lib.hid hfr
    have HSZ := Lib.hid hsz
    clear hrow hnd hfr
    by_cases hlt : k < xs.length
    · obtain ⟨b, off, x, cs, Gk, rfl, hx, hr, _, _, hb, hC⟩ := HS.out.at_ hlt
      have HX := Lib.hid hx
      clear hx
      have HR := Lib.hid (Held.mk hr)
      obtain ⟨x1, x2, x3⟩ := x
      have hbx : bulk ((x1, x2, x3) : GScope) ≤ 1048576 := by
        have h1 := bulkL_at HX.out
        have h2 : bulk xs = xs.length + bulkL xs := rfl
        have h3 := HB.out
        omega
      have HBX := Lib.hid hbx
      clear hbx
      obtain ⟨_, _, _, _, qx1, hr', rfl, rfl⟩ := hr
      obtain ⟨rfl, ix1, rfl⟩ := qx1
      obtain ⟨_, _, _, _, qx2, hr'', rfl, rfl⟩ := hr'
      have Rx2 := Lib.hid (Held.mk qx2)
      obtain ⟨Ax2, cx2, rfl, Sx2⟩ := qx2
      obtain ⟨rfl, ix3, rfl⟩ := hr''
      have p0 : w.cell? ⟨b, off + k * 3, none⟩ = some (.int .i64 x1) := (hC 0 _ rfl).1
      have p1 : w.cell? ⟨b, off + k * 3 + 1, none⟩ = some (.slice Ax2 x2.length cx2) := (hC 1 _ rfl).1
      have p2 : w.cell? ⟨b, off + k * 3 + 2, none⟩ = some (.int .i64 x3) := (hC 2 _ rfl).1
      have a0 : arr[k * 3]? = some arr[k * 3] := Array.getElem?_eq_getElem (by omega)
      have a1 : arr[k * 3 + 1]? = some arr[k * 3 + 1] := Array.getElem?_eq_getElem (by omega)
      have a2 : arr[k * 3 + 2]? = some arr[k * 3 + 2] := Array.getElem?_eq_getElem (by omega)
      generalize arr[k * 3] = u0 at a0
      generalize arr[k * 3 + 1] = u1 at a1
      generalize arr[k * 3 + 2] = u2 at a2
      clear hC hsz
      go_wp2_with (go_at_call 233; refine (l_toScope (x1, x2, x3) _ _ (by repeat (first | exact HR.out | with_reducible refine held_alloc ?_ _ | with_reducible refine held_ext ?_ _ _)) HBX.out).mono ?_; rintro e _ ⟨cs, F1, E1, d1, rfl, rfl, hr1, hn1, hf1⟩; have HR1 := Lib.hid hr1; have HN1 := Lib.hid hn1; have HF1 := Lib.hid hf1; clear hn1 hf1; obtain ⟨_, _, _, _, ⟨rfl, ix1, rfl⟩, ⟨_, _, _, _, ⟨Ax2n, cx2n, rfl, Sx2n⟩, ⟨rfl, ix3, rfl⟩, rfl, rfl⟩, rfl, rfl⟩ := hr1; simp only [mkA, List.cons_append, List.nil_append])
      go_roundw
      case rel =>
        obtain ⟨r1, r2, r3⟩ := row_step w arr 150 E E1 d d1 k xs _ _ G _ HX.out HSZ.out HROW.out HND.out HFR.out HR1.out HN1.out HF1.out
        exact ⟨k + 1, _, _, E ++ E1, d1, by omega, by go_num, ext_ext _ _ _ _ _, by rw [← HSZ.out]; exact setRow_size [_, _, _] arr (k * 3), by rw [ext_ext]; exact r1, r2, r3⟩
      case measure => simp [intOf]; omega
    · have hkk : k = xs.length := by omega
      subst hkk
      have _ := HB
      go_wp2
      go_ret
      have hrow := HROW.out
      rw [List.take_length] at hrow
      exact row_done hrow HND.out HFR.out hn

set_option maxRecDepth 100000 in
set_option maxHeartbeats 2000000 in
theorem l_toFilter (x : GFilter) (cs : List Value) (w : World) (h : Held w x cs) (hb : bulk x ≤ 1048576) :
    Calls Try.prog 93 #[.agg cs.toArray] w (RN mkA x w) := by
  obtain ⟨F, h⟩ := h
  obtain ⟨x1, x2⟩ := x
  obtain ⟨_, _, _, _, qx1, h', rfl, rfl⟩ := h
  obtain ⟨rfl, rfl⟩ := qx1
  have Rx2 := Lib.hid (Held.mk h')
  obtain ⟨Ax2, cx2, rfl, Sx2⟩ := h'
  change Calls Try.prog 93 #[.agg #[.bool x1, .slice Ax2 x2.length cx2]] w _
  have hb' : 0 + (bulk x2) ≤ 1048576 := hb
  have hb1 : bulk x2 ≤ 1048576 := by omega
  have HB1 := Lib.hid hb1
  clear hb hb' hb1
  go_enter Try.func93, Try.ntmps93
  go_wp2_with (first | (go_at_call 174; refine (l_toScopeS x2 _ _ (by repeat (first | exact Rx2.out | with_reducible refine held_alloc ?_ _ | with_reducible refine held_ext ?_ _ _)) HB1.out).mono ?_; rintro e _ ⟨cs, F1, E1, d1, rfl, rfl, r1, n1, f1⟩; have HR1 := Lib.hid r1; have HN1 := Lib.hid n1; have HF1 := Lib.hid f1; clear n1 f1; obtain ⟨Ax2n, cx2n, rfl, Sx2n⟩ := r1; simp only [mk1, List.headD_cons]))
  refine bodyPost_ret (v := .agg #[.bool x1, .slice Ax2n x2.length cx2n]) (by simp [results, Try.results93, go_sem]) rfl (RN.fin (by repeat (first | exact Below.refl _ _ | refine bl_al ?_ _ | refine bl_ext ?_ _ _ | refine Below.drew ?_ | assumption | refine bl_tr ?_ (by assumption))) (cs := [.bool x1, .slice Ax2n x2.length cx2n]) ⟨_, _, _, _, ⟨rfl, rfl⟩, (rep_swap1 HR1.out (fun b hb => by have := HF1.out b hb; simp at this; (try simp); omega) (by simp)), rfl, rfl⟩ ?_ ?_ rfl)
  · first | exact HN1.out | simpa using HN1.out
  · exact (fa_app (fun b hb => by simp at hb) (fun b hb => by have := HF1.out b hb; simp at this; omega))

set_option maxRecDepth 100000 in
set_option maxHeartbeats 2000000 in
theorem l_toMsg (x : GMsg) (cs : List Value) (w : World) (h : Held w x cs) (hb : bulk x ≤ 1048576) :
    Calls Try.prog 249 #[.agg cs.toArray] w (RN mkA x w) := by
  obtain ⟨F, h⟩ := h
  obtain ⟨x1, x2, x3⟩ := x
  obtain ⟨_, _, _, _, qx1, h', rfl, rfl⟩ := h
  obtain ⟨rfl, ix1, rfl⟩ := qx1
  obtain ⟨_, _, _, _, qx2, h'', rfl, rfl⟩ := h'
  obtain ⟨rfl, ix2, rfl⟩ := qx2
  obtain ⟨rfl, gx3, rfl⟩ := h''
  change Calls Try.prog 249 #[.agg #[.int .i64 x1, .int .i64 x2, .string x3]] w _
  have hb' : 0 + (0 + (x3.size)) ≤ 1048576 := hb
  clear hb hb'
  have HIx1 := Lib.hid ix1
  have HIx2 := Lib.hid ix2
  have HSx3 := Lib.hid gx3
  clear ix1 ix2 gx3
  go_enter Try.func249, Try.ntmps249
  go_wp2
  refine bodyPost_ret (v := .agg #[.int .i64 x1, .int .i64 x2, .string x3]) (by simp [results, Try.results249, go_sem]) rfl (RN.fin (by repeat (first | exact Below.refl _ _ | refine bl_al ?_ _ | refine bl_ext ?_ _ _ | refine Below.drew ?_ | assumption | refine bl_tr ?_ (by assumption))) (cs := [.int .i64 x1, .int .i64 x2, .string x3]) ⟨_, _, _, _, ⟨rfl, HIx1.out, rfl⟩, ⟨_, _, _, _, ⟨rfl, HIx2.out, rfl⟩, ⟨rfl, HSx3.out, rfl⟩, rfl, rfl⟩, rfl, rfl⟩ ?_ ?_ rfl)
  · simp
  · simp

theorem info_MsgS : (Try.prog.info? 273).map (fun i => (i.zero, i.size, i.bytes)) = some (some (.agg #[.int .i64 0, .int .i64 0, .string ⟨#[]⟩]), 3, 32) := by kernel_rfl
set_option maxRecDepth 100000 in
set_option maxHeartbeats 8000000 in
theorem l_toMsgS (xs : (List GMsg)) (v : Value) (w : World) (h : Held w xs [v]) (hb : bulk xs ≤ 1048576) :
    Calls Try.prog 230 #[v] w (RN mk1 xs w) := by
  obtain ⟨F, A, c, e, S⟩ := h
  obtain rfl : v = .slice A xs.length c := by simpa using e
  have hl : xs.length ≤ c := S.1
  have hm := le63 S.2.1
  have hn : xs.length ≤ 1048576 := Nat.le_trans (len_bulk xs) hb
  have HS := Lib.hid S
  have HB := Lib.hid hb
  clear S e hb
  obtain ⟨i0, hi0, hz0, hz1, hz2⟩ := info_parts info_MsgS
  have hmk := mk_row (P := Try.prog) Try.underlying132 hi0 hz0 hz1 hz2 xs.length hn (by omega)
  clear hi0 hz0 hz1 hz2
  go_enter Try.func230, Try.ntmps230
  go_wp2
  clear hmk
  go_loopw [4] (fun i wr => ∃ (k : Nat) (arr : Array Value) (G : List Nat) (E : Array Obj) (d : Nat), k ≤ xs.length ∧ i = .int .i64 k ∧ wr = ext (w.alloc (.cells arr 273)) E d ∧ arr.size = xs.length * 3 ∧
    RowRep wr w.heap.size 0 (xs.take k) G ∧ G.Nodup ∧ (∀ g ∈ G, w.heap.size < g)) (fun i _ => xs.length - (intOf i).toNat)
  case atStart => exact ⟨0, _, [], #[], w.drawn, by omega, rfl, by simp [ext]; rfl, by rw [zrow_size], rfl, by simp, by simp⟩
  case round =>
    obtain ⟨k, arr, G, E, d, hk, rfl, rfl, hsz, hrow, hnd, hfr⟩ := hrel
    have HROW := Lib.hid hrow
    have HND := Lib.hid hnd
    have HFR := Lib.hid hfr
    have HSZ := Lib.hid hsz
    clear hrow hnd hfr
    by_cases hlt : k < xs.length
    · obtain ⟨b, off, x, cs, Gk, rfl, hx, hr, _, _, hb, hC⟩ := HS.out.at_ hlt
      have HX := Lib.hid hx
      clear hx
      have HR := Lib.hid (Held.mk hr)
      obtain ⟨x1, x2, x3⟩ := x
      have hbx : bulk ((x1, x2, x3) : GMsg) ≤ 1048576 := by
        have h1 := bulkL_at HX.out
        have h2 : bulk xs = xs.length + bulkL xs := rfl
        have h3 := HB.out
        omega
      have HBX := Lib.hid hbx
      clear hbx
      obtain ⟨_, _, _, _, qx1, hr', rfl, rfl⟩ := hr
      obtain ⟨rfl, ix1, rfl⟩ := qx1
      obtain ⟨_, _, _, _, qx2, hr'', rfl, rfl⟩ := hr'
      obtain ⟨rfl, ix2, rfl⟩ := qx2
      obtain ⟨rfl, gx3, rfl⟩ := hr''
      have p0 : w.cell? ⟨b, off + k * 3, none⟩ = some (.int .i64 x1) := (hC 0 _ rfl).1
      have p1 : w.cell? ⟨b, off + k * 3 + 1, none⟩ = some (.int .i64 x2) := (hC 1 _ rfl).1
      have p2 : w.cell? ⟨b, off + k * 3 + 2, none⟩ = some (.string x3) := (hC 2 _ rfl).1
      have a0 : arr[k * 3]? = some arr[k * 3] := Array.getElem?_eq_getElem (by omega)
      have a1 : arr[k * 3 + 1]? = some arr[k * 3 + 1] := Array.getElem?_eq_getElem (by omega)
      have a2 : arr[k * 3 + 2]? = some arr[k * 3 + 2] := Array.getElem?_eq_getElem (by omega)
      generalize arr[k * 3] = u0 at a0
      generalize arr[k * 3 + 1] = u1 at a1
      generalize arr[k * 3 + 2] = u2 at a2
      clear hC hsz
      go_wp2_with (go_at_call 249; refine (l_toMsg (x1, x2, x3) _ _ (by repeat (first | exact HR.out | with_reducible refine held_alloc ?_ _ | with_reducible refine held_ext ?_ _ _)) HBX.out).mono ?_; rintro e _ ⟨cs, F1, E1, d1, rfl, rfl, hr1, hn1, hf1⟩; have HR1 := Lib.hid hr1; have HN1 := Lib.hid hn1; have HF1 := Lib.hid hf1; clear hn1 hf1; obtain ⟨_, _, _, _, ⟨rfl, ix1, rfl⟩, ⟨_, _, _, _, ⟨rfl, ix2, rfl⟩, ⟨rfl, gx3, rfl⟩, rfl, rfl⟩, rfl, rfl⟩ := hr1; simp only [mkA, List.cons_append, List.nil_append])
      go_roundw
      case rel =>
        obtain ⟨r1, r2, r3⟩ := row_step w arr 273 E E1 d d1 k xs _ _ G _ HX.out HSZ.out HROW.out HND.out HFR.out HR1.out HN1.out HF1.out
        exact ⟨k + 1, _, _, E ++ E1, d1, by omega, by go_num, ext_ext _ _ _ _ _, by rw [← HSZ.out]; exact setRow_size [_, _, _] arr (k * 3), by rw [ext_ext]; exact r1, r2, r3⟩
      case measure => simp [intOf]; omega
    · have hkk : k = xs.length := by omega
      subst hkk
      have _ := HB
      go_wp2
      go_ret
      have hrow := HROW.out
      rw [List.take_length] at hrow
      exact row_done hrow HND.out HFR.out hn

set_option maxRecDepth 100000 in
set_option maxHeartbeats 2000000 in
theorem l_toBox (x : GBox) (cs : List Value) (w : World) (h : Held w x cs) (hb : bulk x ≤ 1048576) :
    Calls Try.prog 166 #[.agg cs.toArray] w (RN mkA x w) := by
  obtain ⟨F, h⟩ := h
  obtain ⟨x1, x2, x3, x4⟩ := x
  obtain ⟨_, _, _, _, qx1, h', rfl, rfl⟩ := h
  obtain ⟨rfl, gx1, rfl⟩ := qx1
  obtain ⟨_, _, _, _, qx2, h'', rfl, rfl⟩ := h'
  obtain ⟨rfl, ix2, rfl⟩ := qx2
  obtain ⟨_, _, _, _, qx3, h''', rfl, rfl⟩ := h''
  obtain ⟨rfl, ix3, rfl⟩ := qx3
  have Rx4 := Lib.hid (Held.mk h''')
  obtain ⟨Ax4, cx4, rfl, Sx4⟩ := h'''
  change Calls Try.prog 166 #[.agg #[.string x1, .int .i64 x2, .int .i64 x3, .slice Ax4 x4.length cx4]] w _
  have hb' : x1.size + (0 + (0 + (bulk x4))) ≤ 1048576 := hb
  have hb3 : bulk x4 ≤ 1048576 := by omega
  have HB3 := Lib.hid hb3
  clear hb hb' hb3
  have HSx1 := Lib.hid gx1
  have HIx2 := Lib.hid ix2
  have HIx3 := Lib.hid ix3
  clear gx1 ix2 ix3
  go_enter Try.func166, Try.ntmps166
  go_wp2_with (first | (go_at_call 230; refine (l_toMsgS x4 _ _ (by repeat (first | exact Rx4.out | with_reducible refine held_alloc ?_ _ | with_reducible refine held_ext ?_ _ _)) HB3.out).mono ?_; rintro e _ ⟨cs, F3, E3, d3, rfl, rfl, r3, n3, f3⟩; have HR3 := Lib.hid r3; have HN3 := Lib.hid n3; have HF3 := Lib.hid f3; clear n3 f3; obtain ⟨Ax4n, cx4n, rfl, Sx4n⟩ := r3; simp only [mk1, List.headD_cons]))
  refine bodyPost_ret (v := .agg #[.string x1, .int .i64 x2, .int .i64 x3, .slice Ax4n x4.length cx4n]) (by simp [results, Try.results166, go_sem]) rfl (RN.fin (by repeat (first | exact Below.refl _ _ | refine bl_al ?_ _ | refine bl_ext ?_ _ _ | refine Below.drew ?_ | assumption | refine bl_tr ?_ (by assumption))) (cs := [.string x1, .int .i64 x2, .int .i64 x3, .slice Ax4n x4.length cx4n]) ⟨_, _, _, _, ⟨rfl, HSx1.out, rfl⟩, ⟨_, _, _, _, ⟨rfl, HIx2.out, rfl⟩, ⟨_, _, _, _, ⟨rfl, HIx3.out, rfl⟩, (rep_swap1 HR3.out (fun b hb => by have := HF3.out b hb; simp at this; (try simp); omega) (by simp)), rfl, rfl⟩, rfl, rfl⟩, rfl, rfl⟩ ?_ ?_ rfl)
  · first | exact HN3.out | simpa using HN3.out
  · exact (fa_app (fun b hb => by simp at hb) (fa_app (fun b hb => by simp at hb) (fa_app (fun b hb => by simp at hb) (fun b hb => by have := HF3.out b hb; simp at this; omega))))

theorem info_BoxS : (Try.prog.info? 134).map (fun i => (i.zero, i.size, i.bytes)) = some (some (.agg #[.string ⟨#[]⟩, .int .i64 0, .int .i64 0, .slice none 0 0]), 4, 56) := by kernel_rfl
set_option maxRecDepth 100000 in
set_option maxHeartbeats 8000000 in
theorem l_toBoxS (xs : (List GBox)) (v : Value) (w : World) (h : Held w xs [v]) (hb : bulk xs ≤ 1048576) :
    Calls Try.prog 81 #[v] w (RN mk1 xs w) := by
  obtain ⟨F, A, c, e, S⟩ := h
  obtain rfl : v = .slice A xs.length c := by simpa using e
  have hl : xs.length ≤ c := S.1
  have hm := le63 S.2.1
  have hn : xs.length ≤ 1048576 := Nat.le_trans (len_bulk xs) hb
  have HS := Lib.hid S
  have HB := Lib.hid hb
  clear S e hb
  obtain ⟨i0, hi0, hz0, hz1, hz2⟩ := info_parts info_BoxS
  have hmk := mk_row (P := Try.prog) Try.underlying29 hi0 hz0 hz1 hz2 xs.length hn (by omega)
  clear hi0 hz0 hz1 hz2
  go_enter Try.func81, Try.ntmps81
  go_wp2
  clear hmk
  go_loopw [4] (fun i wr => ∃ (k : Nat) (arr : Array Value) (G : List Nat) (E : Array Obj) (d : Nat), k ≤ xs.length ∧ i = .int .i64 k ∧ wr = ext (w.alloc (.cells arr 134)) E d ∧ arr.size = xs.length * 4 ∧
    RowRep wr w.heap.size 0 (xs.take k) G ∧ G.Nodup ∧ (∀ g ∈ G, w.heap.size < g)) (fun i _ => xs.length - (intOf i).toNat)
  case atStart => exact ⟨0, _, [], #[], w.drawn, by omega, rfl, by simp [ext]; rfl, by rw [zrow_size], rfl, by simp, by simp⟩
  case round =>
    obtain ⟨k, arr, G, E, d, hk, rfl, rfl, hsz, hrow, hnd, hfr⟩ := hrel
    have HROW := Lib.hid hrow
    have HND := Lib.hid hnd
    have HFR := Lib.hid hfr
    have HSZ := Lib.hid hsz
    clear hrow hnd hfr
    by_cases hlt : k < xs.length
    · obtain ⟨b, off, x, cs, Gk, rfl, hx, hr, _, _, hb, hC⟩ := HS.out.at_ hlt
      have HX := Lib.hid hx
      clear hx
      have HR := Lib.hid (Held.mk hr)
      obtain ⟨x1, x2, x3, x4⟩ := x
      have hbx : bulk ((x1, x2, x3, x4) : GBox) ≤ 1048576 := by
        have h1 := bulkL_at HX.out
        have h2 : bulk xs = xs.length + bulkL xs := rfl
        have h3 := HB.out
        omega
      have HBX := Lib.hid hbx
      clear hbx
      obtain ⟨_, _, _, _, qx1, hr', rfl, rfl⟩ := hr
      obtain ⟨rfl, gx1, rfl⟩ := qx1
      obtain ⟨_, _, _, _, qx2, hr'', rfl, rfl⟩ := hr'
      obtain ⟨rfl, ix2, rfl⟩ := qx2
      obtain ⟨_, _, _, _, qx3, hr''', rfl, rfl⟩ := hr''
      obtain ⟨rfl, ix3, rfl⟩ := qx3
      have Rx4 := Lib.hid (Held.mk hr''')
      obtain ⟨Ax4, cx4, rfl, Sx4⟩ := hr'''
      have p0 : w.cell? ⟨b, off + k * 4, none⟩ = some (.string x1) := (hC 0 _ rfl).1
      have p1 : w.cell? ⟨b, off + k * 4 + 1, none⟩ = some (.int .i64 x2) := (hC 1 _ rfl).1
      have p2 : w.cell? ⟨b, off + k * 4 + 2, none⟩ = some (.int .i64 x3) := (hC 2 _ rfl).1
      have p3 : w.cell? ⟨b, off + k * 4 + 3, none⟩ = some (.slice Ax4 x4.length cx4) := (hC 3 _ rfl).1
      have a0 : arr[k * 4]? = some arr[k * 4] := Array.getElem?_eq_getElem (by omega)
      have a1 : arr[k * 4 + 1]? = some arr[k * 4 + 1] := Array.getElem?_eq_getElem (by omega)
      have a2 : arr[k * 4 + 2]? = some arr[k * 4 + 2] := Array.getElem?_eq_getElem (by omega)
      have a3 : arr[k * 4 + 3]? = some arr[k * 4 + 3] := Array.getElem?_eq_getElem (by omega)
      generalize arr[k * 4] = u0 at a0
      generalize arr[k * 4 + 1] = u1 at a1
      generalize arr[k * 4 + 2] = u2 at a2
      generalize arr[k * 4 + 3] = u3 at a3
      clear hC hsz
      go_wp2_with (go_at_call 166; refine (l_toBox (x1, x2, x3, x4) _ _ (by repeat (first | exact HR.out | with_reducible refine held_alloc ?_ _ | with_reducible refine held_ext ?_ _ _)) HBX.out).mono ?_; rintro e _ ⟨cs, F1, E1, d1, rfl, rfl, hr1, hn1, hf1⟩; have HR1 := Lib.hid hr1; have HN1 := Lib.hid hn1; have HF1 := Lib.hid hf1; clear hn1 hf1; obtain ⟨_, _, _, _, ⟨rfl, gx1, rfl⟩, ⟨_, _, _, _, ⟨rfl, ix2, rfl⟩, ⟨_, _, _, _, ⟨rfl, ix3, rfl⟩, ⟨Ax4n, cx4n, rfl, Sx4n⟩, rfl, rfl⟩, rfl, rfl⟩, rfl, rfl⟩ := hr1; simp only [mkA, List.cons_append, List.nil_append])
      go_roundw
      case rel =>
        obtain ⟨r1, r2, r3⟩ := row_step w arr 134 E E1 d d1 k xs _ _ G _ HX.out HSZ.out HROW.out HND.out HFR.out HR1.out HN1.out HF1.out
        exact ⟨k + 1, _, _, E ++ E1, d1, by omega, by go_num, ext_ext _ _ _ _ _, by rw [← HSZ.out]; exact setRow_size [_, _, _, _] arr (k * 4), by rw [ext_ext]; exact r1, r2, r3⟩
      case measure => simp [intOf]; omega
    · have hkk : k = xs.length := by omega
      subst hkk
      have _ := HB
      go_wp2
      go_ret
      have hrow := HROW.out
      rw [List.take_length] at hrow
      exact row_done hrow HND.out HFR.out hn

set_option maxRecDepth 100000 in
set_option maxHeartbeats 2000000 in
theorem l_toCommit (x : GCommit) (cs : List Value) (w : World) (h : Held w x cs) (hb : bulk x ≤ 1048576) :
    Calls Try.prog 167 #[.agg cs.toArray] w (RN mkA x w) := by
  obtain ⟨F, h⟩ := h
  obtain ⟨x1, x2, x3, x4, x5, x6⟩ := x
  obtain ⟨_, _, _, _, qx1, h', rfl, rfl⟩ := h
  obtain ⟨rfl, ix1, rfl⟩ := qx1
  obtain ⟨_, _, _, _, qx2, h'', rfl, rfl⟩ := h'
  obtain ⟨rfl, ix2, rfl⟩ := qx2
  obtain ⟨_, _, _, _, qx3, h''', rfl, rfl⟩ := h''
  obtain ⟨rfl, ix3, rfl⟩ := qx3
  obtain ⟨_, _, _, _, qx4, h'''', rfl, rfl⟩ := h'''
  obtain ⟨rfl, ix4, rfl⟩ := qx4
  obtain ⟨_, _, _, _, qx5, h''''', rfl, rfl⟩ := h''''
  obtain ⟨rfl, gx5, rfl⟩ := qx5
  obtain ⟨rfl, gx6, rfl⟩ := h'''''
  change Calls Try.prog 167 #[.agg #[.int .i64 x1, .int .i64 x2, .int .i64 x3, .int .i64 x4, .string x5, .string x6]] w _
  have hb' : 0 + (0 + (0 + (0 + (x5.size + (x6.size))))) ≤ 1048576 := hb
  clear hb hb'
  have HIx1 := Lib.hid ix1
  have HIx2 := Lib.hid ix2
  have HIx3 := Lib.hid ix3
  have HIx4 := Lib.hid ix4
  have HSx5 := Lib.hid gx5
  have HSx6 := Lib.hid gx6
  clear ix1 ix2 ix3 ix4 gx5 gx6
  go_enter Try.func167, Try.ntmps167
  go_wp2
  refine bodyPost_ret (v := .agg #[.int .i64 x1, .int .i64 x2, .int .i64 x3, .int .i64 x4, .string x5, .string x6]) (by simp [results, Try.results167, go_sem]) rfl (RN.fin (by repeat (first | exact Below.refl _ _ | refine bl_al ?_ _ | refine bl_ext ?_ _ _ | refine Below.drew ?_ | assumption | refine bl_tr ?_ (by assumption))) (cs := [.int .i64 x1, .int .i64 x2, .int .i64 x3, .int .i64 x4, .string x5, .string x6]) ⟨_, _, _, _, ⟨rfl, HIx1.out, rfl⟩, ⟨_, _, _, _, ⟨rfl, HIx2.out, rfl⟩, ⟨_, _, _, _, ⟨rfl, HIx3.out, rfl⟩, ⟨_, _, _, _, ⟨rfl, HIx4.out, rfl⟩, ⟨_, _, _, _, ⟨rfl, HSx5.out, rfl⟩, ⟨rfl, HSx6.out, rfl⟩, rfl, rfl⟩, rfl, rfl⟩, rfl, rfl⟩, rfl, rfl⟩, rfl, rfl⟩ ?_ ?_ rfl)
  · simp
  · simp

theorem info_CommitS : (Try.prog.info? 212).map (fun i => (i.zero, i.size, i.bytes)) = some (some (.agg #[.int .i64 0, .int .i64 0, .int .i64 0, .int .i64 0, .string ⟨#[]⟩, .string ⟨#[]⟩]), 6, 64) := by kernel_rfl
set_option maxRecDepth 100000 in
set_option maxHeartbeats 8000000 in
theorem l_toCommitS (xs : (List GCommit)) (v : Value) (w : World) (h : Held w xs [v]) (hb : bulk xs ≤ 1048576) :
    Calls Try.prog 82 #[v] w (RN mk1 xs w) := by
  obtain ⟨F, A, c, e, S⟩ := h
  obtain rfl : v = .slice A xs.length c := by simpa using e
  have hl : xs.length ≤ c := S.1
  have hm := le63 S.2.1
  have hn : xs.length ≤ 1048576 := Nat.le_trans (len_bulk xs) hb
  have HS := Lib.hid S
  have HB := Lib.hid hb
  clear S e hb
  obtain ⟨i0, hi0, hz0, hz1, hz2⟩ := info_parts info_CommitS
  have hmk := mk_row (P := Try.prog) Try.underlying30 hi0 hz0 hz1 hz2 xs.length hn (by omega)
  clear hi0 hz0 hz1 hz2
  go_enter Try.func82, Try.ntmps82
  go_wp2
  clear hmk
  go_loopw [4] (fun i wr => ∃ (k : Nat) (arr : Array Value) (G : List Nat) (E : Array Obj) (d : Nat), k ≤ xs.length ∧ i = .int .i64 k ∧ wr = ext (w.alloc (.cells arr 212)) E d ∧ arr.size = xs.length * 6 ∧
    RowRep wr w.heap.size 0 (xs.take k) G ∧ G.Nodup ∧ (∀ g ∈ G, w.heap.size < g)) (fun i _ => xs.length - (intOf i).toNat)
  case atStart => exact ⟨0, _, [], #[], w.drawn, by omega, rfl, by simp [ext]; rfl, by rw [zrow_size], rfl, by simp, by simp⟩
  case round =>
    obtain ⟨k, arr, G, E, d, hk, rfl, rfl, hsz, hrow, hnd, hfr⟩ := hrel
    have HROW := Lib.hid hrow
    have HND := Lib.hid hnd
    have HFR := Lib.hid hfr
    have HSZ := Lib.hid hsz
    clear hrow hnd hfr
    by_cases hlt : k < xs.length
    · obtain ⟨b, off, x, cs, Gk, rfl, hx, hr, _, _, hb, hC⟩ := HS.out.at_ hlt
      have HX := Lib.hid hx
      clear hx
      have HR := Lib.hid (Held.mk hr)
      obtain ⟨x1, x2, x3, x4, x5, x6⟩ := x
      have hbx : bulk ((x1, x2, x3, x4, x5, x6) : GCommit) ≤ 1048576 := by
        have h1 := bulkL_at HX.out
        have h2 : bulk xs = xs.length + bulkL xs := rfl
        have h3 := HB.out
        omega
      have HBX := Lib.hid hbx
      clear hbx
      obtain ⟨_, _, _, _, qx1, hr', rfl, rfl⟩ := hr
      obtain ⟨rfl, ix1, rfl⟩ := qx1
      obtain ⟨_, _, _, _, qx2, hr'', rfl, rfl⟩ := hr'
      obtain ⟨rfl, ix2, rfl⟩ := qx2
      obtain ⟨_, _, _, _, qx3, hr''', rfl, rfl⟩ := hr''
      obtain ⟨rfl, ix3, rfl⟩ := qx3
      obtain ⟨_, _, _, _, qx4, hr'''', rfl, rfl⟩ := hr'''
      obtain ⟨rfl, ix4, rfl⟩ := qx4
      obtain ⟨_, _, _, _, qx5, hr''''', rfl, rfl⟩ := hr''''
      obtain ⟨rfl, gx5, rfl⟩ := qx5
      obtain ⟨rfl, gx6, rfl⟩ := hr'''''
      have p0 : w.cell? ⟨b, off + k * 6, none⟩ = some (.int .i64 x1) := (hC 0 _ rfl).1
      have p1 : w.cell? ⟨b, off + k * 6 + 1, none⟩ = some (.int .i64 x2) := (hC 1 _ rfl).1
      have p2 : w.cell? ⟨b, off + k * 6 + 2, none⟩ = some (.int .i64 x3) := (hC 2 _ rfl).1
      have p3 : w.cell? ⟨b, off + k * 6 + 3, none⟩ = some (.int .i64 x4) := (hC 3 _ rfl).1
      have p4 : w.cell? ⟨b, off + k * 6 + 4, none⟩ = some (.string x5) := (hC 4 _ rfl).1
      have p5 : w.cell? ⟨b, off + k * 6 + 5, none⟩ = some (.string x6) := (hC 5 _ rfl).1
      have a0 : arr[k * 6]? = some arr[k * 6] := Array.getElem?_eq_getElem (by omega)
      have a1 : arr[k * 6 + 1]? = some arr[k * 6 + 1] := Array.getElem?_eq_getElem (by omega)
      have a2 : arr[k * 6 + 2]? = some arr[k * 6 + 2] := Array.getElem?_eq_getElem (by omega)
      have a3 : arr[k * 6 + 3]? = some arr[k * 6 + 3] := Array.getElem?_eq_getElem (by omega)
      have a4 : arr[k * 6 + 4]? = some arr[k * 6 + 4] := Array.getElem?_eq_getElem (by omega)
      have a5 : arr[k * 6 + 5]? = some arr[k * 6 + 5] := Array.getElem?_eq_getElem (by omega)
      generalize arr[k * 6] = u0 at a0
      generalize arr[k * 6 + 1] = u1 at a1
      generalize arr[k * 6 + 2] = u2 at a2
      generalize arr[k * 6 + 3] = u3 at a3
      generalize arr[k * 6 + 4] = u4 at a4
      generalize arr[k * 6 + 5] = u5 at a5
      clear hC hsz
      go_wp2_with (go_at_call 167; refine (l_toCommit (x1, x2, x3, x4, x5, x6) _ _ (by repeat (first | exact HR.out | with_reducible refine held_alloc ?_ _ | with_reducible refine held_ext ?_ _ _)) HBX.out).mono ?_; rintro e _ ⟨cs, F1, E1, d1, rfl, rfl, hr1, hn1, hf1⟩; have HR1 := Lib.hid hr1; have HN1 := Lib.hid hn1; have HF1 := Lib.hid hf1; clear hn1 hf1; obtain ⟨_, _, _, _, ⟨rfl, ix1, rfl⟩, ⟨_, _, _, _, ⟨rfl, ix2, rfl⟩, ⟨_, _, _, _, ⟨rfl, ix3, rfl⟩, ⟨_, _, _, _, ⟨rfl, ix4, rfl⟩, ⟨_, _, _, _, ⟨rfl, gx5, rfl⟩, ⟨rfl, gx6, rfl⟩, rfl, rfl⟩, rfl, rfl⟩, rfl, rfl⟩, rfl, rfl⟩, rfl, rfl⟩ := hr1; simp only [mkA, List.cons_append, List.nil_append])
      go_roundw
      case rel =>
        obtain ⟨r1, r2, r3⟩ := row_step w arr 212 E E1 d d1 k xs _ _ G _ HX.out HSZ.out HROW.out HND.out HFR.out HR1.out HN1.out HF1.out
        exact ⟨k + 1, _, _, E ++ E1, d1, by omega, by go_num, ext_ext _ _ _ _ _, by rw [← HSZ.out]; exact setRow_size [_, _, _, _, _, _] arr (k * 6), by rw [ext_ext]; exact r1, r2, r3⟩
      case measure => simp [intOf]; omega
    · have hkk : k = xs.length := by omega
      subst hkk
      have _ := HB
      go_wp2
      go_ret
      have hrow := HROW.out
      rw [List.take_length] at hrow
      exact row_done hrow HND.out HFR.out hn

set_option maxRecDepth 100000 in
set_option maxHeartbeats 2000000 in
theorem l_toStore (x : GStore) (cs : List Value) (w : World) (h : Held w x cs) (hb : bulk x ≤ 1048576) :
    Calls Try.prog 16 #[.agg cs.toArray] w (RN mkA x w) := by
  obtain ⟨F, h⟩ := h
  obtain ⟨x1, x2, x3⟩ := x
  obtain ⟨_, _, _, _, qx1, h', rfl, rfl⟩ := h
  have Rx1 := Lib.hid (Held.mk qx1)
  obtain ⟨Ax1, cx1, rfl, Sx1⟩ := qx1
  obtain ⟨_, _, _, _, qx2, h'', rfl, rfl⟩ := h'
  have Rx2 := Lib.hid (Held.mk qx2)
  obtain ⟨Ax2, cx2, rfl, Sx2⟩ := qx2
  obtain ⟨rfl, ix3, rfl⟩ := h''
  change Calls Try.prog 16 #[.agg #[.slice Ax1 x1.length cx1, .slice Ax2 x2.length cx2, .int .i64 x3]] w _
  have hb' : bulk x1 + (bulk x2 + (0)) ≤ 1048576 := hb
  have hb0 : bulk x1 ≤ 1048576 := by omega
  have hb1 : bulk x2 ≤ 1048576 := by omega
  have HB0 := Lib.hid hb0
  have HB1 := Lib.hid hb1
  clear hb hb' hb0 hb1
  have HIx3 := Lib.hid ix3
  clear ix3
  go_enter Try.func16, Try.ntmps16
  go_wp2_with (first | (go_at_call 81; refine (l_toBoxS x1 _ _ (by repeat (first | exact Rx1.out | with_reducible refine held_alloc ?_ _ | with_reducible refine held_ext ?_ _ _)) HB0.out).mono ?_; rintro e _ ⟨cs, F0, E0, d0, rfl, rfl, r0, n0, f0⟩; have HR0 := Lib.hid r0; have HN0 := Lib.hid n0; have HF0 := Lib.hid f0; clear n0 f0; obtain ⟨Ax1n, cx1n, rfl, Sx1n⟩ := r0; simp only [mk1, List.headD_cons]) | (go_at_call 82; refine (l_toCommitS x2 _ _ (by repeat (first | exact Rx2.out | with_reducible refine held_alloc ?_ _ | with_reducible refine held_ext ?_ _ _)) HB1.out).mono ?_; rintro e _ ⟨cs, F1, E1, d1, rfl, rfl, r1, n1, f1⟩; have HR1 := Lib.hid r1; have HN1 := Lib.hid n1; have HF1 := Lib.hid f1; clear n1 f1; obtain ⟨Ax2n, cx2n, rfl, Sx2n⟩ := r1; simp only [mk1, List.headD_cons]))
  refine bodyPost_ret (v := .agg #[.slice Ax1n x1.length cx1n, .slice Ax2n x2.length cx2n, .int .i64 x3]) (by simp [results, Try.results16, go_sem]) rfl (RN.fin (by repeat (first | exact Below.refl _ _ | refine bl_al ?_ _ | refine bl_ext ?_ _ _ | refine Below.drew ?_ | assumption | refine bl_tr ?_ (by assumption))) (cs := [.slice Ax1n x1.length cx1n, .slice Ax2n x2.length cx2n, .int .i64 x3]) ⟨_, _, _, _, (rep_ext (rep_swap1 HR0.out (fun b hb => by have := HF0.out b hb; simp at this; (try simp); omega) (by simp)) E1 d1), ⟨_, _, _, _, (rep_swap2 HR1.out (fun b hb => by have := HF1.out b hb; simp at this; (try simp); omega) (by simp)), ⟨rfl, HIx3.out, rfl⟩, rfl, rfl⟩, rfl, rfl⟩ ?_ ?_ rfl)
  · have hlt : ∀ a b : Nat, a ≤ b → a ≤ b := fun _ _ h => h
    clear hlt
    have t0 := nodup_app HN0.out HN1.out (fun b hb => GoRep.lt HR0.out b hb) (fun b hb => by
      (try simp only [List.append_nil, List.nil_append, List.mem_append] at hb)
      have := HF1.out b (by simp [hb]); simp at this ⊢; omega)
    simpa using t0
  · exact (fa_app (fun b hb => by have := HF0.out b hb; simp at this; omega) (fa_app (fun b hb => by have := HF1.out b hb; simp at this; omega) (fun b hb => by simp at hb)))

set_option maxRecDepth 100000 in
set_option maxHeartbeats 2000000 in
theorem l_toSeen (x : GSeen) (cs : List Value) (w : World) (h : Held w x cs) (hb : bulk x ≤ 1048576) :
    Calls Try.prog 197 #[.agg cs.toArray] w (RN mkA x w) := by
  obtain ⟨F, h⟩ := h
  obtain ⟨x1, x2⟩ := x
  obtain ⟨_, _, _, _, qx1, h', rfl, rfl⟩ := h
  obtain ⟨rfl, ix1, rfl⟩ := qx1
  obtain ⟨rfl, ix2, rfl⟩ := h'
  change Calls Try.prog 197 #[.agg #[.int .i64 x1, .int .i64 x2]] w _
  have hb' : 0 + (0) ≤ 1048576 := hb
  clear hb hb'
  have HIx1 := Lib.hid ix1
  have HIx2 := Lib.hid ix2
  clear ix1 ix2
  go_enter Try.func197, Try.ntmps197
  go_wp2
  refine bodyPost_ret (v := .agg #[.int .i64 x1, .int .i64 x2]) (by simp [results, Try.results197, go_sem]) rfl (RN.fin (by repeat (first | exact Below.refl _ _ | refine bl_al ?_ _ | refine bl_ext ?_ _ _ | refine Below.drew ?_ | assumption | refine bl_tr ?_ (by assumption))) (cs := [.int .i64 x1, .int .i64 x2]) ⟨_, _, _, _, ⟨rfl, HIx1.out, rfl⟩, ⟨rfl, HIx2.out, rfl⟩, rfl, rfl⟩ ?_ ?_ rfl)
  · simp
  · simp

theorem info_SeenS : (Try.prog.info? 173).map (fun i => (i.zero, i.size, i.bytes)) = some (some (.agg #[.int .i64 0, .int .i64 0]), 2, 16) := by kernel_rfl
set_option maxRecDepth 100000 in
set_option maxHeartbeats 8000000 in
theorem l_toSeenS (xs : (List GSeen)) (v : Value) (w : World) (h : Held w xs [v]) (hb : bulk xs ≤ 1048576) :
    Calls Try.prog 122 #[v] w (RN mk1 xs w) := by
  obtain ⟨F, A, c, e, S⟩ := h
  obtain rfl : v = .slice A xs.length c := by simpa using e
  have hl : xs.length ≤ c := S.1
  have hm := le63 S.2.1
  have hn : xs.length ≤ 1048576 := Nat.le_trans (len_bulk xs) hb
  have HS := Lib.hid S
  have HB := Lib.hid hb
  clear S e hb
  obtain ⟨i0, hi0, hz0, hz1, hz2⟩ := info_parts info_SeenS
  have hmk := mk_row (P := Try.prog) Try.underlying56 hi0 hz0 hz1 hz2 xs.length hn (by omega)
  clear hi0 hz0 hz1 hz2
  go_enter Try.func122, Try.ntmps122
  go_wp2
  clear hmk
  go_loopw [4] (fun i wr => ∃ (k : Nat) (arr : Array Value) (G : List Nat) (E : Array Obj) (d : Nat), k ≤ xs.length ∧ i = .int .i64 k ∧ wr = ext (w.alloc (.cells arr 173)) E d ∧ arr.size = xs.length * 2 ∧
    RowRep wr w.heap.size 0 (xs.take k) G ∧ G.Nodup ∧ (∀ g ∈ G, w.heap.size < g)) (fun i _ => xs.length - (intOf i).toNat)
  case atStart => exact ⟨0, _, [], #[], w.drawn, by omega, rfl, by simp [ext]; rfl, by rw [zrow_size], rfl, by simp, by simp⟩
  case round =>
    obtain ⟨k, arr, G, E, d, hk, rfl, rfl, hsz, hrow, hnd, hfr⟩ := hrel
    have HROW := Lib.hid hrow
    have HND := Lib.hid hnd
    have HFR := Lib.hid hfr
    have HSZ := Lib.hid hsz
    clear hrow hnd hfr
    by_cases hlt : k < xs.length
    · obtain ⟨b, off, x, cs, Gk, rfl, hx, hr, _, _, hb, hC⟩ := HS.out.at_ hlt
      have HX := Lib.hid hx
      clear hx
      have HR := Lib.hid (Held.mk hr)
      obtain ⟨x1, x2⟩ := x
      have hbx : bulk ((x1, x2) : GSeen) ≤ 1048576 := by
        have h1 := bulkL_at HX.out
        have h2 : bulk xs = xs.length + bulkL xs := rfl
        have h3 := HB.out
        omega
      have HBX := Lib.hid hbx
      clear hbx
      obtain ⟨_, _, _, _, qx1, hr', rfl, rfl⟩ := hr
      obtain ⟨rfl, ix1, rfl⟩ := qx1
      obtain ⟨rfl, ix2, rfl⟩ := hr'
      have p0 : w.cell? ⟨b, off + k * 2, none⟩ = some (.int .i64 x1) := (hC 0 _ rfl).1
      have p1 : w.cell? ⟨b, off + k * 2 + 1, none⟩ = some (.int .i64 x2) := (hC 1 _ rfl).1
      have a0 : arr[k * 2]? = some arr[k * 2] := Array.getElem?_eq_getElem (by omega)
      have a1 : arr[k * 2 + 1]? = some arr[k * 2 + 1] := Array.getElem?_eq_getElem (by omega)
      generalize arr[k * 2] = u0 at a0
      generalize arr[k * 2 + 1] = u1 at a1
      clear hC hsz
      go_wp2_with (go_at_call 197; refine (l_toSeen (x1, x2) _ _ (by repeat (first | exact HR.out | with_reducible refine held_alloc ?_ _ | with_reducible refine held_ext ?_ _ _)) HBX.out).mono ?_; rintro e _ ⟨cs, F1, E1, d1, rfl, rfl, hr1, hn1, hf1⟩; have HR1 := Lib.hid hr1; have HN1 := Lib.hid hn1; have HF1 := Lib.hid hf1; clear hn1 hf1; obtain ⟨_, _, _, _, ⟨rfl, ix1, rfl⟩, ⟨rfl, ix2, rfl⟩, rfl, rfl⟩ := hr1; simp only [mkA, List.cons_append, List.nil_append])
      go_roundw
      case rel =>
        obtain ⟨r1, r2, r3⟩ := row_step w arr 173 E E1 d d1 k xs _ _ G _ HX.out HSZ.out HROW.out HND.out HFR.out HR1.out HN1.out HF1.out
        exact ⟨k + 1, _, _, E ++ E1, d1, by omega, by go_num, ext_ext _ _ _ _ _, by rw [← HSZ.out]; exact setRow_size [_, _] arr (k * 2), by rw [ext_ext]; exact r1, r2, r3⟩
      case measure => simp [intOf]; omega
    · have hkk : k = xs.length := by omega
      subst hkk
      have _ := HB
      go_wp2
      go_ret
      have hrow := HROW.out
      rw [List.take_length] at hrow
      exact row_done hrow HND.out HFR.out hn

set_option maxRecDepth 100000 in
set_option maxHeartbeats 2000000 in
theorem l_toView (x : GView) (cs : List Value) (w : World) (h : Held w x cs) (hb : bulk x ≤ 1048576) :
    Calls Try.prog 47 #[.agg cs.toArray] w (RN mkA x w) := by
  obtain ⟨F, h⟩ := h
  obtain ⟨x1, rfl⟩ : ∃ y, y = x := ⟨_, rfl⟩
  have Rx1 := Lib.hid (Held.mk h)
  obtain ⟨Ax1, cx1, rfl, Sx1⟩ := h
  change Calls Try.prog 47 #[.agg #[.slice Ax1 x1.length cx1]] w _
  have hb' : bulk x1 ≤ 1048576 := hb
  have hb0 : bulk x1 ≤ 1048576 := by omega
  have HB0 := Lib.hid hb0
  clear hb hb' hb0
  go_enter Try.func47, Try.ntmps47
  go_wp2_with (first | (go_at_call 122; refine (l_toSeenS x1 _ _ (by repeat (first | exact Rx1.out | with_reducible refine held_alloc ?_ _ | with_reducible refine held_ext ?_ _ _)) HB0.out).mono ?_; rintro e _ ⟨cs, F0, E0, d0, rfl, rfl, r0, n0, f0⟩; have HR0 := Lib.hid r0; have HN0 := Lib.hid n0; have HF0 := Lib.hid f0; clear n0 f0; obtain ⟨Ax1n, cx1n, rfl, Sx1n⟩ := r0; simp only [mk1, List.headD_cons]))
  refine bodyPost_ret (v := .agg #[.slice Ax1n x1.length cx1n]) (by simp [results, Try.results47, go_sem]) rfl (RN.fin (by repeat (first | exact Below.refl _ _ | refine bl_al ?_ _ | refine bl_ext ?_ _ _ | refine Below.drew ?_ | assumption | refine bl_tr ?_ (by assumption))) (cs := [.slice Ax1n x1.length cx1n]) (rep_swap1 HR0.out (fun b hb => by have := HF0.out b hb; simp at this; (try simp); omega) (by simp)) ?_ ?_ rfl)
  · first | exact HN0.out | simpa using HN0.out
  · exact (fun b hb => by have := HF0.out b hb; simp at this; omega)



set_option maxRecDepth 100000 in
set_option maxHeartbeats 2000000 in
theorem l_toNote (x : GNote) (cs : List Value) (w : World) (h : Held w x cs) (hb : bulk x ≤ 1048576) :
    Calls Try.prog 105 #[.agg cs.toArray] w (RN mkA x w) := by
  obtain ⟨F, h⟩ := h
  obtain ⟨x1, x2, x3, x4⟩ := x
  obtain ⟨_, _, _, _, qx1, h', rfl, rfl⟩ := h
  obtain ⟨rfl, ix1, rfl⟩ := qx1
  obtain ⟨_, _, _, _, qx2, h'', rfl, rfl⟩ := h'
  obtain ⟨rfl, ix2, rfl⟩ := qx2
  obtain ⟨_, _, _, _, qx3, h''', rfl, rfl⟩ := h''
  obtain ⟨rfl, ix3, rfl⟩ := qx3
  obtain ⟨rfl, gx4, rfl⟩ := h'''
  change Calls Try.prog 105 #[.agg #[.int .i64 x1, .int .i64 x2, .int .i64 x3, .string x4]] w _
  have hb' : 0 + (0 + (0 + (x4.size))) ≤ 1048576 := hb
  clear hb hb'
  have HIx1 := Lib.hid ix1
  have HIx2 := Lib.hid ix2
  have HIx3 := Lib.hid ix3
  have HSx4 := Lib.hid gx4
  clear ix1 ix2 ix3 gx4
  go_enter Try.func105, Try.ntmps105
  go_wp2
  refine bodyPost_ret (v := .agg #[.int .i64 x1, .int .i64 x2, .int .i64 x3, .string x4]) (by simp [results, Try.results105, go_sem]) rfl (RN.fin (by repeat (first | exact Below.refl _ _ | refine bl_al ?_ _ | refine bl_ext ?_ _ _ | refine Below.drew ?_ | assumption | refine bl_tr ?_ (by assumption))) (cs := [.int .i64 x1, .int .i64 x2, .int .i64 x3, .string x4]) ⟨_, _, _, _, ⟨rfl, HIx1.out, rfl⟩, ⟨_, _, _, _, ⟨rfl, HIx2.out, rfl⟩, ⟨_, _, _, _, ⟨rfl, HIx3.out, rfl⟩, ⟨rfl, HSx4.out, rfl⟩, rfl, rfl⟩, rfl, rfl⟩, rfl, rfl⟩ ?_ ?_ rfl)
  · simp
  · simp

theorem info_NoteS : (Try.prog.info? 164).map (fun i => (i.zero, i.size, i.bytes)) = some (some (.agg #[.int .i64 0, .int .i64 0, .int .i64 0, .string ⟨#[]⟩]), 4, 40) := by kernel_rfl
set_option maxRecDepth 100000 in
set_option maxHeartbeats 8000000 in
theorem l_toNoteS (xs : (List GNote)) (v : Value) (w : World) (h : Held w xs [v]) (hb : bulk xs ≤ 1048576) :
    Calls Try.prog 34 #[v] w (RN mk1 xs w) := by
  obtain ⟨F, A, c, e, S⟩ := h
  obtain rfl : v = .slice A xs.length c := by simpa using e
  have hl : xs.length ≤ c := S.1
  have hm := le63 S.2.1
  have hn : xs.length ≤ 1048576 := Nat.le_trans (len_bulk xs) hb
  have HS := Lib.hid S
  have HB := Lib.hid hb
  clear S e hb
  obtain ⟨i0, hi0, hz0, hz1, hz2⟩ := info_parts info_NoteS
  have hmk := mk_row (P := Try.prog) Try.underlying62 hi0 hz0 hz1 hz2 xs.length hn (by omega)
  clear hi0 hz0 hz1 hz2
  go_enter Try.func34, Try.ntmps34
  go_wp2
  clear hmk
  go_loopw [4] (fun i wr => ∃ (k : Nat) (arr : Array Value) (G : List Nat) (E : Array Obj) (d : Nat), k ≤ xs.length ∧ i = .int .i64 k ∧ wr = ext (w.alloc (.cells arr 164)) E d ∧ arr.size = xs.length * 4 ∧
    RowRep wr w.heap.size 0 (xs.take k) G ∧ G.Nodup ∧ (∀ g ∈ G, w.heap.size < g)) (fun i _ => xs.length - (intOf i).toNat)
  case atStart => exact ⟨0, _, [], #[], w.drawn, by omega, rfl, by simp [ext]; rfl, by rw [zrow_size], rfl, by simp, by simp⟩
  case round =>
    obtain ⟨k, arr, G, E, d, hk, rfl, rfl, hsz, hrow, hnd, hfr⟩ := hrel
    have HROW := Lib.hid hrow
    have HND := Lib.hid hnd
    have HFR := Lib.hid hfr
    have HSZ := Lib.hid hsz
    clear hrow hnd hfr
    by_cases hlt : k < xs.length
    · obtain ⟨b, off, x, cs, Gk, rfl, hx, hr, _, _, hb, hC⟩ := HS.out.at_ hlt
      have HX := Lib.hid hx
      clear hx
      have HR := Lib.hid (Held.mk hr)
      obtain ⟨x1, x2, x3, x4⟩ := x
      have hbx : bulk ((x1, x2, x3, x4) : GNote) ≤ 1048576 := by
        have h1 := bulkL_at HX.out
        have h2 : bulk xs = xs.length + bulkL xs := rfl
        have h3 := HB.out
        omega
      have HBX := Lib.hid hbx
      clear hbx
      obtain ⟨_, _, _, _, qx1, hr', rfl, rfl⟩ := hr
      obtain ⟨rfl, ix1, rfl⟩ := qx1
      obtain ⟨_, _, _, _, qx2, hr'', rfl, rfl⟩ := hr'
      obtain ⟨rfl, ix2, rfl⟩ := qx2
      obtain ⟨_, _, _, _, qx3, hr''', rfl, rfl⟩ := hr''
      obtain ⟨rfl, ix3, rfl⟩ := qx3
      obtain ⟨rfl, gx4, rfl⟩ := hr'''
      have p0 : w.cell? ⟨b, off + k * 4, none⟩ = some (.int .i64 x1) := (hC 0 _ rfl).1
      have p1 : w.cell? ⟨b, off + k * 4 + 1, none⟩ = some (.int .i64 x2) := (hC 1 _ rfl).1
      have p2 : w.cell? ⟨b, off + k * 4 + 2, none⟩ = some (.int .i64 x3) := (hC 2 _ rfl).1
      have p3 : w.cell? ⟨b, off + k * 4 + 3, none⟩ = some (.string x4) := (hC 3 _ rfl).1
      have a0 : arr[k * 4]? = some arr[k * 4] := Array.getElem?_eq_getElem (by omega)
      have a1 : arr[k * 4 + 1]? = some arr[k * 4 + 1] := Array.getElem?_eq_getElem (by omega)
      have a2 : arr[k * 4 + 2]? = some arr[k * 4 + 2] := Array.getElem?_eq_getElem (by omega)
      have a3 : arr[k * 4 + 3]? = some arr[k * 4 + 3] := Array.getElem?_eq_getElem (by omega)
      generalize arr[k * 4] = u0 at a0
      generalize arr[k * 4 + 1] = u1 at a1
      generalize arr[k * 4 + 2] = u2 at a2
      generalize arr[k * 4 + 3] = u3 at a3
      clear hC hsz
      go_wp2_with (go_at_call 105; refine (l_toNote (x1, x2, x3, x4) _ _ (by repeat (first | exact HR.out | with_reducible refine held_alloc ?_ _ | with_reducible refine held_ext ?_ _ _)) HBX.out).mono ?_; rintro e _ ⟨cs, F1, E1, d1, rfl, rfl, hr1, hn1, hf1⟩; have HR1 := Lib.hid hr1; have HN1 := Lib.hid hn1; have HF1 := Lib.hid hf1; clear hn1 hf1; obtain ⟨_, _, _, _, ⟨rfl, ix1, rfl⟩, ⟨_, _, _, _, ⟨rfl, ix2, rfl⟩, ⟨_, _, _, _, ⟨rfl, ix3, rfl⟩, ⟨rfl, gx4, rfl⟩, rfl, rfl⟩, rfl, rfl⟩, rfl, rfl⟩ := hr1; simp only [mkA, List.cons_append, List.nil_append])
      go_roundw
      case rel =>
        obtain ⟨r1, r2, r3⟩ := row_step w arr 164 E E1 d d1 k xs _ _ G _ HX.out HSZ.out HROW.out HND.out HFR.out HR1.out HN1.out HF1.out
        exact ⟨k + 1, _, _, E ++ E1, d1, by omega, by go_num, ext_ext _ _ _ _ _, by rw [← HSZ.out]; exact setRow_size [_, _, _, _] arr (k * 4), by rw [ext_ext]; exact r1, r2, r3⟩
      case measure => simp [intOf]; omega
    · have hkk : k = xs.length := by omega
      subst hkk
      have _ := HB
      go_wp2
      go_ret
      have hrow := HROW.out
      rw [List.take_length] at hrow
      exact row_done hrow HND.out HFR.out hn

set_option maxRecDepth 100000 in
set_option maxHeartbeats 2000000 in
theorem l_toQueue (x : GQueue) (cs : List Value) (w : World) (h : Held w x cs) (hb : bulk x ≤ 1048576) :
    Calls Try.prog 33 #[.agg cs.toArray] w (RN mkA x w) := by
  obtain ⟨F, h⟩ := h
  obtain ⟨x1, x2, x3⟩ := x
  obtain ⟨_, _, _, _, qx1, h', rfl, rfl⟩ := h
  have Rx1 := Lib.hid (Held.mk qx1)
  obtain ⟨Ax1, cx1, rfl, Sx1⟩ := qx1
  obtain ⟨_, _, _, _, qx2, h'', rfl, rfl⟩ := h'
  obtain ⟨rfl, rfl⟩ := qx2
  obtain ⟨rfl, rfl⟩ := h''
  change Calls Try.prog 33 #[.agg #[.slice Ax1 x1.length cx1, .bool x2, .bool x3]] w _
  have hb' : bulk x1 + (0 + (0)) ≤ 1048576 := hb
  have hb0 : bulk x1 ≤ 1048576 := by omega
  have HB0 := Lib.hid hb0
  clear hb hb' hb0
  go_enter Try.func33, Try.ntmps33
  go_wp2_with (first | (go_at_call 34; refine (l_toNoteS x1 _ _ (by repeat (first | exact Rx1.out | with_reducible refine held_alloc ?_ _ | with_reducible refine held_ext ?_ _ _)) HB0.out).mono ?_; rintro e _ ⟨cs, F0, E0, d0, rfl, rfl, r0, n0, f0⟩; have HR0 := Lib.hid r0; have HN0 := Lib.hid n0; have HF0 := Lib.hid f0; clear n0 f0; obtain ⟨Ax1n, cx1n, rfl, Sx1n⟩ := r0; simp only [mk1, List.headD_cons]))
  refine bodyPost_ret (v := .agg #[.slice Ax1n x1.length cx1n, .bool x2, .bool x3]) (by simp [results, Try.results33, go_sem]) rfl (RN.fin (by repeat (first | exact Below.refl _ _ | refine bl_al ?_ _ | refine bl_ext ?_ _ _ | refine Below.drew ?_ | assumption | refine bl_tr ?_ (by assumption))) (cs := [.slice Ax1n x1.length cx1n, .bool x2, .bool x3]) ⟨_, _, _, _, (rep_swap1 HR0.out (fun b hb => by have := HF0.out b hb; simp at this; (try simp); omega) (by simp)), ⟨_, _, _, _, ⟨rfl, rfl⟩, ⟨rfl, rfl⟩, rfl, rfl⟩, rfl, rfl⟩ ?_ ?_ rfl)
  · first | exact HN0.out | simpa using HN0.out
  · exact (fa_app (fun b hb => by have := HF0.out b hb; simp at this; omega) (fa_app (fun b hb => by simp at hb) (fun b hb => by simp at hb)))

set_option maxRecDepth 100000 in
set_option maxHeartbeats 2000000 in
theorem l_toIn (x : GIn) (cs : List Value) (w : World) (h : Held w x cs) (hb : bulk x ≤ 1048576) :
    Calls Try.prog 94 #[.agg cs.toArray] w (RN mkA x w) := by
  obtain ⟨F, h⟩ := h
  obtain ⟨x1, x2⟩ := x
  obtain ⟨_, _, _, _, qx1, h', rfl, rfl⟩ := h
  obtain ⟨rfl, gx1, rfl⟩ := qx1
  obtain ⟨rfl, rfl⟩ := h'
  change Calls Try.prog 94 #[.agg #[.string x1, .bool x2]] w _
  have hb' : x1.size + (0) ≤ 1048576 := hb
  clear hb hb'
  have HSx1 := Lib.hid gx1
  clear gx1
  go_enter Try.func94, Try.ntmps94
  go_wp2
  refine bodyPost_ret (v := .agg #[.string x1, .bool x2]) (by simp [results, Try.results94, go_sem]) rfl (RN.fin (by repeat (first | exact Below.refl _ _ | refine bl_al ?_ _ | refine bl_ext ?_ _ _ | refine Below.drew ?_ | assumption | refine bl_tr ?_ (by assumption))) (cs := [.string x1, .bool x2]) ⟨_, _, _, _, ⟨rfl, HSx1.out, rfl⟩, ⟨rfl, rfl⟩, rfl, rfl⟩ ?_ ?_ rfl)
  · simp
  · simp

set_option maxRecDepth 100000 in
set_option maxHeartbeats 2000000 in
theorem l_toOut (x : GOut) (cs : List Value) (w : World) (h : Held w x cs) (hb : bulk x ≤ 1048576) :
    Calls Try.prog 95 #[.agg cs.toArray] w (RN mkA x w) := by
  obtain ⟨F, h⟩ := h
  obtain ⟨x1, x2⟩ := x
  obtain ⟨_, _, _, _, qx1, h', rfl, rfl⟩ := h
  obtain ⟨rfl, gx1, rfl⟩ := qx1
  obtain ⟨rfl, gx2, rfl⟩ := h'
  change Calls Try.prog 95 #[.agg #[.string x1, .string x2]] w _
  have hb' : x1.size + (x2.size) ≤ 1048576 := hb
  clear hb hb'
  have HSx1 := Lib.hid gx1
  have HSx2 := Lib.hid gx2
  clear gx1 gx2
  go_enter Try.func95, Try.ntmps95
  go_wp2
  refine bodyPost_ret (v := .agg #[.string x1, .string x2]) (by simp [results, Try.results95, go_sem]) rfl (RN.fin (by repeat (first | exact Below.refl _ _ | refine bl_al ?_ _ | refine bl_ext ?_ _ _ | refine Below.drew ?_ | assumption | refine bl_tr ?_ (by assumption))) (cs := [.string x1, .string x2]) ⟨_, _, _, _, ⟨rfl, HSx1.out, rfl⟩, ⟨rfl, HSx2.out, rfl⟩, rfl, rfl⟩ ?_ ?_ rfl)
  · simp
  · simp




end Go.Proofs.Ytigakalkkaoflaa
