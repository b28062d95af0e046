/-
  Contracts of the library's functions on slices, at the program's types.
  No condition but what the arguments' cells hold. Printed by gen_slices.py.
-/
import Derived.Test.YtigakalkkaoflaaTypes
import Derived.Test.YtigakalkkaoflaaEqT
namespace Go.Proofs.Ytigakalkkaoflaa
open Go.ChangeShapes Go.WideShapes Go.ChangeAt Go.RowKit Go.Joins Go.Deep
open GoRep (rep bulk)

set_option maxRecDepth 100000 in
set_option maxHeartbeats 800000 in
theorem IndexFunc_Scope (p : GScope → Bool) (g : FuncId) (cap : Array Value) (xs : List GScope) (v : Value) (w : World) (h : Held w xs [v]) (hp : Pred Try.prog g cap mkA p w) :
    Calls Try.prog 175 #[v, .func (.func g) #[] cap] w (RV (.int .i64 (idxL p xs)) w) := by
  obtain ⟨F, A, c, e, S⟩ := h
  obtain rfl : v = .slice A xs.length c := by simpa using e
  have hl : xs.length ≤ c := S.1
  have hm := le63 S.2.1
  have HS := Lib.hid S
  clear S e
  obtain ⟨hent, hp⟩ := hp
  have HP := Lib.hid hp
  clear hp
  go_enter Try.func175, Try.ntmps175
  go_wp2
  go_loopw [8] (fun i wr => ∃ (k : Nat) (E : Array Obj) (d : Nat), k ≤ xs.length ∧ Hid ((xs.take k).any p = false) ∧ i = .int .i64 k ∧ wr = ext w E d) (fun i _ => xs.length - (intOf i).toNat)
  case atStart => exact ⟨0, #[], w.drawn, by omega, Lib.hid rfl, rfl, by simp [ext]⟩
  case round =>
    obtain ⟨k, E, d, hk, HA, rfl, rfl⟩ := hrel
    by_cases hlt : k < xs.length
    · skip
      obtain ⟨b, off, x, cs, Gk, rfl, hx, hr, _, _, hb, hC⟩ := HS.out.at_ hlt
      have HR := Lib.hid (Held.mk hr)
      obtain ⟨x1, x2, x3⟩ := x
      have HX := Lib.hid hx
      clear hx
      obtain ⟨_, _, _, _, ⟨rfl, _, rfl⟩, ⟨_, _, _, _, ⟨Ax2, cx2, rfl, Sx2⟩, ⟨rfl, _, rfl⟩, rfl, rfl⟩, rfl, rfl⟩ := hr
      have k0 : w.cell? ⟨b, off + k * 3, none⟩ = some (.int .i64 x1) := (hC 0 _ rfl).1
      have k1 : w.cell? ⟨b, off + k * 3 + 1, none⟩ = some (.slice Ax2 x2.length cx2) := (hC 1 _ rfl).1
      have k2 : w.cell? ⟨b, off + k * 3 + 2, none⟩ = some (.int .i64 x3) := (hC 2 _ rfl).1
      clear hC
      have Kx2 := Lib.hid (Held.ofS Sx2)
      clear Sx2
      by_cases hpx : p (x1, x2, x3) = true
      · go_wp2_with (refine (HP.out _ (by repeat (first | exact Abv.refl _ | refine Abv.ext ?_ _ _ | refine Abv.alloc ?_ _ | refine Abv.drew ?_ | refine Abv.drewN ?_ _)) (x1, x2, x3) [.int .i64 x1, .slice Ax2 x2.length cx2, .int .i64 x3] (by repeat (first | exact HR.out | with_reducible refine held_alloc ?_ _ | with_reducible refine held_ext ?_ _ _))).mono ?_; rintro e _ ⟨rfl, E1, d1, rfl⟩)
        go_ret
        exact RV.mk (ret_int (idxL_at HA.out HX.out hpx).symm) (by repeat (first | exact Below.refl _ _ | refine bl_al ?_ _ | refine bl_ext ?_ _ _ | refine Below.drew ?_ | assumption | refine bl_tr ?_ (by assumption)))
      · have hpx := Bool.eq_false_iff.2 hpx
        go_wp2_with (refine (HP.out _ (by repeat (first | exact Abv.refl _ | refine Abv.ext ?_ _ _ | refine Abv.alloc ?_ _ | refine Abv.drew ?_ | refine Abv.drewN ?_ _)) (x1, x2, x3) [.int .i64 x1, .slice Ax2 x2.length cx2, .int .i64 x3] (by repeat (first | exact HR.out | with_reducible refine held_alloc ?_ _ | with_reducible refine held_ext ?_ _ _))).mono ?_; rintro e _ ⟨rfl, E1, d1, rfl⟩)
        go_roundw
        case rel => exact ⟨k + 1, _, _, by omega, Lib.hid (any_snoc HA.out HX.out hpx), by go_num, ext_ext _ _ _ _ _⟩
        case measure => simp [intOf]; omega
    · have HN := Lib.hid (idxL_none (p := p) (xs := xs) (by have := HA.out; rwa [List.take_of_length_le (Nat.le_of_not_lt hlt)] at this))
      have _ := HP
      go_wp2
      go_ret
      exact RV.mk (ret_int HN.out.symm) (by repeat (first | exact Below.refl _ _ | refine bl_al ?_ _ | refine bl_ext ?_ _ _ | refine Below.drew ?_ | assumption | refine bl_tr ?_ (by assumption)))

set_option maxRecDepth 100000 in
set_option maxHeartbeats 800000 in
theorem ContainsFunc_Scope (p : GScope → Bool) (g : FuncId) (cap : Array Value) (xs : List GScope) (v : Value) (w : World) (h : Held w xs [v]) (hp : Pred Try.prog g cap mkA p w) :
    Calls Try.prog 96 #[v, .func (.func g) #[] cap] w (RV (.bool (xs.any p)) w) := by
  have HP := Lib.hid hp
  have HR := Lib.hid h
  have hlt := (idxL_lt (p := p) xs).1
  clear hp
  have hv : ∃ A n c, v = .slice A n c := by
    obtain ⟨F, A, c, e, S⟩ := h
    exact ⟨A, xs.length, c, by simpa using e⟩
  obtain ⟨A, n, c, rfl⟩ := hv
  clear h
  have hg := idxL_ge (p := p) xs
  cases hany : xs.any p
  · have hneg : idxL p xs < 0 := by
      rw [hany] at hg
      simp at hg
      exact hg
    clear hg hany
    go_enter Try.func96, Try.ntmps96
    go_wp2_with (go_at_call 175; refine (IndexFunc_Scope p g cap xs _ _ HR.out HP.out).mono ?_; rintro e _ ⟨rfl, E1, d1, rfl⟩)
    go_ret
    exact RV.mk (ret_bool (by first | rfl | (simp; omega))) (by repeat (first | exact Below.refl _ _ | refine bl_al ?_ _ | refine bl_ext ?_ _ _ | refine Below.drew ?_ | assumption | refine bl_tr ?_ (by assumption)))
  · have hpos : 0 ≤ idxL p xs := hg.2 hany
    clear hg hany
    go_enter Try.func96, Try.ntmps96
    go_wp2_with (go_at_call 175; refine (IndexFunc_Scope p g cap xs _ _ HR.out HP.out).mono ?_; rintro e _ ⟨rfl, E1, d1, rfl⟩)
    go_ret
    exact RV.mk (ret_bool (by first | rfl | (simp; omega))) (by repeat (first | exact Below.refl _ _ | refine bl_al ?_ _ | refine bl_ext ?_ _ _ | refine Below.drew ?_ | assumption | refine bl_tr ?_ (by assumption)))

set_option maxRecDepth 100000 in
set_option maxHeartbeats 800000 in
theorem IndexFunc_Box (p : GBox → Bool) (g : FuncId) (cap : Array Value) (xs : List GBox) (v : Value) (w : World) (h : Held w xs [v]) (hp : Pred Try.prog g cap mkA p w) :
    Calls Try.prog 168 #[v, .func (.func g) #[] cap] w (RV (.int .i64 (idxL p xs)) w) := by
  obtain ⟨F, A, c, e, S⟩ := h
  obtain rfl : v = .slice A xs.length c := by simpa using e
  have hl : xs.length ≤ c := S.1
  have hm := le63 S.2.1
  have HS := Lib.hid S
  clear S e
  obtain ⟨hent, hp⟩ := hp
  have HP := Lib.hid hp
  clear hp
  go_enter Try.func168, Try.ntmps168
  go_wp2
  go_loopw [8] (fun i wr => ∃ (k : Nat) (E : Array Obj) (d : Nat), k ≤ xs.length ∧ Hid ((xs.take k).any p = false) ∧ i = .int .i64 k ∧ wr = ext w E d) (fun i _ => xs.length - (intOf i).toNat)
  case atStart => exact ⟨0, #[], w.drawn, by omega, Lib.hid rfl, rfl, by simp [ext]⟩
  case round =>
    obtain ⟨k, E, d, hk, HA, rfl, rfl⟩ := hrel
    by_cases hlt : k < xs.length
    · skip
      obtain ⟨b, off, x, cs, Gk, rfl, hx, hr, _, _, hb, hC⟩ := HS.out.at_ hlt
      have HR := Lib.hid (Held.mk hr)
      obtain ⟨x1, x2, x3, x4⟩ := x
      have HX := Lib.hid hx
      clear hx
      obtain ⟨_, _, _, _, ⟨rfl, _, rfl⟩, ⟨_, _, _, _, ⟨rfl, _, rfl⟩, ⟨_, _, _, _, ⟨rfl, _, rfl⟩, ⟨Ax4, cx4, rfl, Sx4⟩, rfl, rfl⟩, rfl, rfl⟩, rfl, rfl⟩ := hr
      have k0 : w.cell? ⟨b, off + k * 4, none⟩ = some (.string x1) := (hC 0 _ rfl).1
      have k1 : w.cell? ⟨b, off + k * 4 + 1, none⟩ = some (.int .i64 x2) := (hC 1 _ rfl).1
      have k2 : w.cell? ⟨b, off + k * 4 + 2, none⟩ = some (.int .i64 x3) := (hC 2 _ rfl).1
      have k3 : w.cell? ⟨b, off + k * 4 + 3, none⟩ = some (.slice Ax4 x4.length cx4) := (hC 3 _ rfl).1
      clear hC
      have Kx4 := Lib.hid (Held.ofS Sx4)
      clear Sx4
      by_cases hpx : p (x1, x2, x3, x4) = true
      · go_wp2_with (refine (HP.out _ (by repeat (first | exact Abv.refl _ | refine Abv.ext ?_ _ _ | refine Abv.alloc ?_ _ | refine Abv.drew ?_ | refine Abv.drewN ?_ _)) (x1, x2, x3, x4) [.string x1, .int .i64 x2, .int .i64 x3, .slice Ax4 x4.length cx4] (by repeat (first | exact HR.out | with_reducible refine held_alloc ?_ _ | with_reducible refine held_ext ?_ _ _))).mono ?_; rintro e _ ⟨rfl, E1, d1, rfl⟩)
        go_ret
        exact RV.mk (ret_int (idxL_at HA.out HX.out hpx).symm) (by repeat (first | exact Below.refl _ _ | refine bl_al ?_ _ | refine bl_ext ?_ _ _ | refine Below.drew ?_ | assumption | refine bl_tr ?_ (by assumption)))
      · have hpx := Bool.eq_false_iff.2 hpx
        go_wp2_with (refine (HP.out _ (by repeat (first | exact Abv.refl _ | refine Abv.ext ?_ _ _ | refine Abv.alloc ?_ _ | refine Abv.drew ?_ | refine Abv.drewN ?_ _)) (x1, x2, x3, x4) [.string x1, .int .i64 x2, .int .i64 x3, .slice Ax4 x4.length cx4] (by repeat (first | exact HR.out | with_reducible refine held_alloc ?_ _ | with_reducible refine held_ext ?_ _ _))).mono ?_; rintro e _ ⟨rfl, E1, d1, rfl⟩)
        go_roundw
        case rel => exact ⟨k + 1, _, _, by omega, Lib.hid (any_snoc HA.out HX.out hpx), by go_num, ext_ext _ _ _ _ _⟩
        case measure => simp [intOf]; omega
    · have HN := Lib.hid (idxL_none (p := p) (xs := xs) (by have := HA.out; rwa [List.take_of_length_le (Nat.le_of_not_lt hlt)] at this))
      have _ := HP
      go_wp2
      go_ret
      exact RV.mk (ret_int HN.out.symm) (by repeat (first | exact Below.refl _ _ | refine bl_al ?_ _ | refine bl_ext ?_ _ _ | refine Below.drew ?_ | assumption | refine bl_tr ?_ (by assumption)))


set_option maxRecDepth 100000 in
set_option maxHeartbeats 800000 in
theorem IndexFunc_Note (p : GNote → Bool) (g : FuncId) (cap : Array Value) (xs : List GNote) (v : Value) (w : World) (h : Held w xs [v]) (hp : Pred Try.prog g cap mkA p w) :
    Calls Try.prog 176 #[v, .func (.func g) #[] cap] w (RV (.int .i64 (idxL p xs)) w) := by
  obtain ⟨F, A, c, e, S⟩ := h
  obtain rfl : v = .slice A xs.length c := by simpa using e
  have hl : xs.length ≤ c := S.1
  have hm := le63 S.2.1
  have HS := Lib.hid S
  clear S e
  obtain ⟨hent, hp⟩ := hp
  have HP := Lib.hid hp
  clear hp
  go_enter Try.func176, Try.ntmps176
  go_wp2
  go_loopw [8] (fun i wr => ∃ (k : Nat) (E : Array Obj) (d : Nat), k ≤ xs.length ∧ Hid ((xs.take k).any p = false) ∧ i = .int .i64 k ∧ wr = ext w E d) (fun i _ => xs.length - (intOf i).toNat)
  case atStart => exact ⟨0, #[], w.drawn, by omega, Lib.hid rfl, rfl, by simp [ext]⟩
  case round =>
    obtain ⟨k, E, d, hk, HA, rfl, rfl⟩ := hrel
    by_cases hlt : k < xs.length
    · skip
      obtain ⟨b, off, x, cs, Gk, rfl, hx, hr, _, _, hb, hC⟩ := HS.out.at_ hlt
      have HR := Lib.hid (Held.mk hr)
      obtain ⟨x1, x2, x3, x4⟩ := x
      have HX := Lib.hid hx
      clear hx
      obtain ⟨_, _, _, _, ⟨rfl, _, rfl⟩, ⟨_, _, _, _, ⟨rfl, _, rfl⟩, ⟨_, _, _, _, ⟨rfl, _, rfl⟩, ⟨rfl, _, rfl⟩, rfl, rfl⟩, rfl, rfl⟩, rfl, rfl⟩ := hr
      have k0 : w.cell? ⟨b, off + k * 4, none⟩ = some (.int .i64 x1) := (hC 0 _ rfl).1
      have k1 : w.cell? ⟨b, off + k * 4 + 1, none⟩ = some (.int .i64 x2) := (hC 1 _ rfl).1
      have k2 : w.cell? ⟨b, off + k * 4 + 2, none⟩ = some (.int .i64 x3) := (hC 2 _ rfl).1
      have k3 : w.cell? ⟨b, off + k * 4 + 3, none⟩ = some (.string x4) := (hC 3 _ rfl).1
      clear hC
      by_cases hpx : p (x1, x2, x3, x4) = true
      · go_wp2_with (refine (HP.out _ (by repeat (first | exact Abv.refl _ | refine Abv.ext ?_ _ _ | refine Abv.alloc ?_ _ | refine Abv.drew ?_ | refine Abv.drewN ?_ _)) (x1, x2, x3, x4) [.int .i64 x1, .int .i64 x2, .int .i64 x3, .string x4] (by repeat (first | exact HR.out | with_reducible refine held_alloc ?_ _ | with_reducible refine held_ext ?_ _ _))).mono ?_; rintro e _ ⟨rfl, E1, d1, rfl⟩)
        go_ret
        exact RV.mk (ret_int (idxL_at HA.out HX.out hpx).symm) (by repeat (first | exact Below.refl _ _ | refine bl_al ?_ _ | refine bl_ext ?_ _ _ | refine Below.drew ?_ | assumption | refine bl_tr ?_ (by assumption)))
      · have hpx := Bool.eq_false_iff.2 hpx
        go_wp2_with (refine (HP.out _ (by repeat (first | exact Abv.refl _ | refine Abv.ext ?_ _ _ | refine Abv.alloc ?_ _ | refine Abv.drew ?_ | refine Abv.drewN ?_ _)) (x1, x2, x3, x4) [.int .i64 x1, .int .i64 x2, .int .i64 x3, .string x4] (by repeat (first | exact HR.out | with_reducible refine held_alloc ?_ _ | with_reducible refine held_ext ?_ _ _))).mono ?_; rintro e _ ⟨rfl, E1, d1, rfl⟩)
        go_roundw
        case rel => exact ⟨k + 1, _, _, by omega, Lib.hid (any_snoc HA.out HX.out hpx), by go_num, ext_ext _ _ _ _ _⟩
        case measure => simp [intOf]; omega
    · have HN := Lib.hid (idxL_none (p := p) (xs := xs) (by have := HA.out; rwa [List.take_of_length_le (Nat.le_of_not_lt hlt)] at this))
      have _ := HP
      go_wp2
      go_ret
      exact RV.mk (ret_int HN.out.symm) (by repeat (first | exact Below.refl _ _ | refine bl_al ?_ _ | refine bl_ext ?_ _ _ | refine Below.drew ?_ | assumption | refine bl_tr ?_ (by assumption)))


set_option maxRecDepth 100000 in
set_option maxHeartbeats 800000 in
theorem IndexFunc_Span (p : GSpan → Bool) (g : FuncId) (cap : Array Value) (xs : List GSpan) (v : Value) (w : World) (h : Held w xs [v]) (hp : Pred Try.prog g cap mkA p w) :
    Calls Try.prog 255 #[v, .func (.func g) #[] cap] w (RV (.int .i64 (idxL p xs)) w) := by
  obtain ⟨F, A, c, e, S⟩ := h
  obtain rfl : v = .slice A xs.length c := by simpa using e
  have hl : xs.length ≤ c := S.1
  have hm := le63 S.2.1
  have HS := Lib.hid S
  clear S e
  obtain ⟨hent, hp⟩ := hp
  have HP := Lib.hid hp
  clear hp
  go_enter Try.func255, Try.ntmps255
  go_wp2
  go_loopw [8] (fun i wr => ∃ (k : Nat) (E : Array Obj) (d : Nat), k ≤ xs.length ∧ Hid ((xs.take k).any p = false) ∧ i = .int .i64 k ∧ wr = ext w E d) (fun i _ => xs.length - (intOf i).toNat)
  case atStart => exact ⟨0, #[], w.drawn, by omega, Lib.hid rfl, rfl, by simp [ext]⟩
  case round =>
    obtain ⟨k, E, d, hk, HA, rfl, rfl⟩ := hrel
    by_cases hlt : k < xs.length
    · skip
      obtain ⟨b, off, x, cs, Gk, rfl, hx, hr, _, _, hb, hC⟩ := HS.out.at_ hlt
      have HR := Lib.hid (Held.mk hr)
      obtain ⟨x1, x2⟩ := x
      have HX := Lib.hid hx
      clear hx
      obtain ⟨_, _, _, _, ⟨rfl, _, rfl⟩, ⟨rfl, _, rfl⟩, rfl, rfl⟩ := hr
      have k0 : w.cell? ⟨b, off + k * 2, none⟩ = some (.int .i64 x1) := (hC 0 _ rfl).1
      have k1 : w.cell? ⟨b, off + k * 2 + 1, none⟩ = some (.int .i64 x2) := (hC 1 _ rfl).1
      clear hC
      by_cases hpx : p (x1, x2) = true
      · go_wp2_with (refine (HP.out _ (by repeat (first | exact Abv.refl _ | refine Abv.ext ?_ _ _ | refine Abv.alloc ?_ _ | refine Abv.drew ?_ | refine Abv.drewN ?_ _)) (x1, x2) [.int .i64 x1, .int .i64 x2] (by repeat (first | exact HR.out | with_reducible refine held_alloc ?_ _ | with_reducible refine held_ext ?_ _ _))).mono ?_; rintro e _ ⟨rfl, E1, d1, rfl⟩)
        go_ret
        exact RV.mk (ret_int (idxL_at HA.out HX.out hpx).symm) (by repeat (first | exact Below.refl _ _ | refine bl_al ?_ _ | refine bl_ext ?_ _ _ | refine Below.drew ?_ | assumption | refine bl_tr ?_ (by assumption)))
      · have hpx := Bool.eq_false_iff.2 hpx
        go_wp2_with (refine (HP.out _ (by repeat (first | exact Abv.refl _ | refine Abv.ext ?_ _ _ | refine Abv.alloc ?_ _ | refine Abv.drew ?_ | refine Abv.drewN ?_ _)) (x1, x2) [.int .i64 x1, .int .i64 x2] (by repeat (first | exact HR.out | with_reducible refine held_alloc ?_ _ | with_reducible refine held_ext ?_ _ _))).mono ?_; rintro e _ ⟨rfl, E1, d1, rfl⟩)
        go_roundw
        case rel => exact ⟨k + 1, _, _, by omega, Lib.hid (any_snoc HA.out HX.out hpx), by go_num, ext_ext _ _ _ _ _⟩
        case measure => simp [intOf]; omega
    · have HN := Lib.hid (idxL_none (p := p) (xs := xs) (by have := HA.out; rwa [List.take_of_length_le (Nat.le_of_not_lt hlt)] at this))
      have _ := HP
      go_wp2
      go_ret
      exact RV.mk (ret_int HN.out.symm) (by repeat (first | exact Below.refl _ _ | refine bl_al ?_ _ | refine bl_ext ?_ _ _ | refine Below.drew ?_ | assumption | refine bl_tr ?_ (by assumption)))

set_option maxRecDepth 100000 in
set_option maxHeartbeats 800000 in
theorem ContainsFunc_Span (p : GSpan → Bool) (g : FuncId) (cap : Array Value) (xs : List GSpan) (v : Value) (w : World) (h : Held w xs [v]) (hp : Pred Try.prog g cap mkA p w) :
    Calls Try.prog 239 #[v, .func (.func g) #[] cap] w (RV (.bool (xs.any p)) w) := by
  have HP := Lib.hid hp
  have HR := Lib.hid h
  have hlt := (idxL_lt (p := p) xs).1
  clear hp
  have hv : ∃ A n c, v = .slice A n c := by
    obtain ⟨F, A, c, e, S⟩ := h
    exact ⟨A, xs.length, c, by simpa using e⟩
  obtain ⟨A, n, c, rfl⟩ := hv
  clear h
  have hg := idxL_ge (p := p) xs
  cases hany : xs.any p
  · have hneg : idxL p xs < 0 := by
      rw [hany] at hg
      simp at hg
      exact hg
    clear hg hany
    go_enter Try.func239, Try.ntmps239
    go_wp2_with (go_at_call 255; refine (IndexFunc_Span p g cap xs _ _ HR.out HP.out).mono ?_; rintro e _ ⟨rfl, E1, d1, rfl⟩)
    go_ret
    exact RV.mk (ret_bool (by first | rfl | (simp; omega))) (by repeat (first | exact Below.refl _ _ | refine bl_al ?_ _ | refine bl_ext ?_ _ _ | refine Below.drew ?_ | assumption | refine bl_tr ?_ (by assumption)))
  · have hpos : 0 ≤ idxL p xs := hg.2 hany
    clear hg hany
    go_enter Try.func239, Try.ntmps239
    go_wp2_with (go_at_call 255; refine (IndexFunc_Span p g cap xs _ _ HR.out HP.out).mono ?_; rintro e _ ⟨rfl, E1, d1, rfl⟩)
    go_ret
    exact RV.mk (ret_bool (by first | rfl | (simp; omega))) (by repeat (first | exact Below.refl _ _ | refine bl_al ?_ _ | refine bl_ext ?_ _ _ | refine Below.drew ?_ | assumption | refine bl_tr ?_ (by assumption)))





set_option maxRecDepth 100000 in
set_option maxHeartbeats 800000 in
theorem IndexFunc_string (p : ByteArray → Bool) (g : FuncId) (cap : Array Value) (xs : List ByteArray) (v : Value) (w : World) (h : Held w xs [v]) (hp : Pred Try.prog g cap mk1 p w) :
    Calls Try.prog 205 #[v, .func (.func g) #[] cap] w (RV (.int .i64 (idxL p xs)) w) := by
  obtain ⟨F, A, c, e, S⟩ := h
  obtain rfl : v = .slice A xs.length c := by simpa using e
  have hl : xs.length ≤ c := S.1
  have hm := le63 S.2.1
  have HS := Lib.hid S
  clear S e
  obtain ⟨hent, hp⟩ := hp
  have HP := Lib.hid hp
  clear hp
  go_enter Try.func205, Try.ntmps205
  go_wp2
  go_loopw [8] (fun i wr => ∃ (k : Nat) (E : Array Obj) (d : Nat), k ≤ xs.length ∧ Hid ((xs.take k).any p = false) ∧ i = .int .i64 k ∧ wr = ext w E d) (fun i _ => xs.length - (intOf i).toNat)
  case atStart => exact ⟨0, #[], w.drawn, by omega, Lib.hid rfl, rfl, by simp [ext]⟩
  case round =>
    obtain ⟨k, E, d, hk, HA, rfl, rfl⟩ := hrel
    by_cases hlt : k < xs.length
    · skip
      obtain ⟨b, off, x, cs, Gk, rfl, hx, hr, _, _, hb, hC⟩ := HS.out.at_ hlt
      have HR := Lib.hid (Held.mk hr)
      obtain ⟨x1, ex⟩ : ∃ y, y = x := ⟨_, rfl⟩
      subst ex
      have HX := Lib.hid hx
      clear hx
      obtain ⟨rfl, _⟩ := hr
      have k0 : w.cell? ⟨b, off + k, none⟩ = some (.string x1) := by have := (hC 0 _ rfl).1; rwa [show off + k * GoRep.n ByteArray + 0 = off + k from by show off + k * 1 + 0 = off + k; omega] at this
      clear hC
      by_cases hpx : p x1 = true
      · go_wp2_with (refine (HP.out _ (by repeat (first | exact Abv.refl _ | refine Abv.ext ?_ _ _ | refine Abv.alloc ?_ _ | refine Abv.drew ?_ | refine Abv.drewN ?_ _)) x1 [.string x1] (by repeat (first | exact HR.out | with_reducible refine held_alloc ?_ _ | with_reducible refine held_ext ?_ _ _))).mono ?_; rintro e _ ⟨rfl, E1, d1, rfl⟩)
        go_ret
        exact RV.mk (ret_int (idxL_at HA.out HX.out hpx).symm) (by repeat (first | exact Below.refl _ _ | refine bl_al ?_ _ | refine bl_ext ?_ _ _ | refine Below.drew ?_ | assumption | refine bl_tr ?_ (by assumption)))
      · have hpx := Bool.eq_false_iff.2 hpx
        go_wp2_with (refine (HP.out _ (by repeat (first | exact Abv.refl _ | refine Abv.ext ?_ _ _ | refine Abv.alloc ?_ _ | refine Abv.drew ?_ | refine Abv.drewN ?_ _)) x1 [.string x1] (by repeat (first | exact HR.out | with_reducible refine held_alloc ?_ _ | with_reducible refine held_ext ?_ _ _))).mono ?_; rintro e _ ⟨rfl, E1, d1, rfl⟩)
        go_roundw
        case rel => exact ⟨k + 1, _, _, by omega, Lib.hid (any_snoc HA.out HX.out hpx), by go_num, ext_ext _ _ _ _ _⟩
        case measure => simp [intOf]; omega
    · have HN := Lib.hid (idxL_none (p := p) (xs := xs) (by have := HA.out; rwa [List.take_of_length_le (Nat.le_of_not_lt hlt)] at this))
      have _ := HP
      go_wp2
      go_ret
      exact RV.mk (ret_int HN.out.symm) (by repeat (first | exact Below.refl _ _ | refine bl_al ?_ _ | refine bl_ext ?_ _ _ | refine Below.drew ?_ | assumption | refine bl_tr ?_ (by assumption)))

end Go.Proofs.Ytigakalkkaoflaa
