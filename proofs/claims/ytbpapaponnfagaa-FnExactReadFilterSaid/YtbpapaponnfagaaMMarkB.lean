/-
  Several texts in one.
-/
import Derived.Test.YtbpapaponnfagaaMTypes
import Derived.Laws.BytesArg
import Derived.Test.YtbpapaponnfagaaMLawA
namespace Go.Proofs.Ytbpapaponnfagaa
open Go.ChangeShapes Go.WideShapes Go.ChangeAt Go.RowKit Go.Joins Go.Deep
open GoRep (rep bulk)
open GoMark (mrk cnt mrkI cntI)
theorem one_byte (W : World) (b : Nat) (hb : b = W.heap.size) (m : Int) (h0 : 0 ≤ m) :
    (convert 36 9 (.slice (some ⟨b, 0, none⟩) 1 1)).run Try.prog (W.alloc (.cells #[.int .u8 (48 + m % 10)] 5)) =
      .ok (.string ⟨#[dgt m.toNat]⟩) (W.alloc (.cells #[.int .u8 (48 + m % 10)] 5)) := by
  subst hb
  have h := run_convert_bytes_arg (P := Try.prog) (W.alloc (.cells #[.int .u8 (48 + m % 10)] 5)) 36 5 Try.underlying36 Try.underlying5 W.heap.size 0 1 1 [48 + m % 10] rfl
    (fun i hi => by
      obtain rfl : i = 0 := by omega
      simp) 9 Try.underlying9
  have e : strOfNums [48 + m % 10] = ⟨#[dgt m.toNat]⟩ := by
    unfold strOfNums dgt
    have e1 : (48 + m % 10).toNat = 48 + m.toNat % 10 := by omega
    simp only [List.map_cons, List.map_nil, e1]
  rw [h, e]
set_option maxRecDepth 100000 in
set_option maxHeartbeats 400000 in
theorem l_markText (k : Int) (w : World) (h0 : 0 ≤ k) (h1 : k ≤ 4611686018427387904) :
    Calls Try.prog 41 #[.int .i64 k] w (RV (.string (markT k)) w) := by
  by_cases hk : k ≤ 0
  · have H := Lib.hid (show markT k = ⟨#[109, 48]⟩ by simp [markT, hk])
    go_enter Try.func41, Try.ntmps41
    go_wp2
    go_ret
    exact RV.mk (ret_str H.out.symm) (by repeat (first | exact Below.refl _ _ | refine bl_al ?_ _ | refine bl_ext ?_ _ _ | refine Below.drew ?_ | assumption | refine bl_tr ?_ (by assumption)))
  · go_enter Try.func41, Try.ntmps41
    go_wp2
    go_loopw [0, 3] (fun i s wr => ∃ (m : Int) (l : List UInt8) (E : Array Obj) (d : Nat), 0 ≤ m ∧ m ≤ k ∧ decL k.toNat = decL m.toNat ++ l ∧ i = .int .i64 m ∧ s = .string ⟨l.toArray⟩ ∧ wr = ext w E d) (fun i _ _ => (intOf i).toNat)
    case atStart => exact ⟨k, [], #[], w.drawn, h0, by omega, by simp, rfl, rfl, by simp [ext]⟩
    case round =>
      obtain ⟨m, l, E, d, hm0, hmk, hd, rfl, rfl, rfl⟩ := hrel
      have HD := Lib.hid hd
      clear hd
      by_cases hlt : 0 < m
      · have hcv := one_byte (ext w E d) (w.heap.size + E.size) (by simp) m hm0
        have HP := Lib.hid (decL_pos (k := m.toNat) (by omega))
        have hll : l.length ≤ 4611686018427387904 := by
          have h2 := congrArg List.length HD.out
          have h3 := decL_len k.toNat
          rw [List.length_append] at h2
          omega
        have HK := Lib.hid (show decL k.toNat = decL (m / 10).toNat ++ (dgt m.toNat :: l) by
          rw [HD.out, HP.out, show (m / 10).toNat = m.toNat / 10 from by omega]; simp)
        go_wp2
        go_roundw
        case rel => exact ⟨m / 10, dgt m.toNat :: l, _, d, by omega, by omega, HK.out, rfl, congrArg Value.string (bytes_app [dgt m.toNat] l), ext_alloc _ _ _ _⟩
        case measure => simp [intOf]; omega
      · have hm : m = 0 := by omega
        subst hm
        have HM := Lib.hid (show markT k = ⟨(109 :: l).toArray⟩ by unfold markT; rw [if_neg (by omega), HD.out]; simp [decL_zero])
        have hll : l.length ≤ 4611686018427387904 := by
          have h2 := congrArg List.length HD.out
          have h3 := decL_len k.toNat
          rw [List.length_append] at h2
          omega
        go_wp2
        go_ret
        refine RV.mk (ret_str ?_) (by repeat (first | exact Below.refl _ _ | refine bl_al ?_ _ | refine bl_ext ?_ _ _ | refine Below.drew ?_ | assumption | refine bl_tr ?_ (by assumption)))
        rw [HM.out]
        exact bytes_app [109] l
end Go.Proofs.Ytbpapaponnfagaa
set_option linter.unusedSimpArgs false
set_option linter.unusedVariables false
namespace Go.Proofs.Ytbpapaponnfagaa
open Go.ChangeShapes Go.WideShapes Go.ChangeAt Go.RowKit Go.Joins Go.Deep
open GoRep (rep bulk)
open GoMark (mrk cnt mrkI cntI)

abbrev markP (k : Int) : Prop := 0 ≤ k ∧ k ≤ 4611686018427387904
theorem grow_of_ext (W : World) (E : Array Obj) (d : Nat) : Grow W [] (ext W E d) [] := by
  have h := bl_ext (Below.refl W.heap.size W) E d
  exact ⟨h.os, h.tape, h.output, h.size, fun k hk _ => h.block k hk, fun b hb => by simp [foots] at hb, fun i e he => by simp at he⟩
theorem b_l_markText (k : Int) (h : markP k) : BCalls Try.prog 41 [.c (.int .i64 k)] (.c (.str (markT k))) [] := by
  intro X W vs hX _ hr
  obtain ⟨v, r, rfl, ⟨rfl, hw⟩, hn⟩ := hr
  obtain rfl : r = [] := hn
  refine (l_markText k W h.1 h.2).mono fun e W' he => ?_
  obtain ⟨rfl, E, d, rfl⟩ := he
  refine ⟨_, [], rfl, grow_of_ext W E d, ⟨rfl, by simp [foots], fun i b e hb => by simp at hb, by simp [foots], by simp [foots], fun b hb => Nat.lt_of_lt_of_le (hX b hb) (grow_of_ext W E d).size⟩, rfl, markT_size h.2⟩
def e_l_markText : Entry Try.prog := ⟨41, [.v tyInt], fun x => markP x.1, fun x => .c (.str (markT x.1)), fun _ => [], fun x hx => b_l_markText x.1 hx, Try.call41⟩
end Go.Proofs.Ytbpapaponnfagaa
