/-
  Contracts of Legal, the program's and the reference's, and of the search in a slice of integers that the program's leans on.
  No condition but what the slice's cells hold.
-/
import Derived.Test.YteepbpjgapmecaaNums
namespace Go.Proofs.Yteepbpjgapmecaa
open Go.ChangeShapes Go.WideShapes Go.ChangeAt Go.RowKit Go.Joins Go.Deep

def idxI : List Int → Int → Int
  | [], _ => -1
  | z :: zs, x => if x = z then 0 else if idxI zs x < 0 then -1 else idxI zs x + 1
theorem idxI_ge (zs : List Int) (x : Int) : -1 ≤ idxI zs x := by
  induction zs with
  | nil => simp [idxI]
  | cons z zs ih => unfold idxI; split; omega; split <;> omega
theorem idxI_le (zs : List Int) (x : Int) : idxI zs x < zs.length := by
  induction zs with
  | nil => simp [idxI]
  | cons z zs ih => unfold idxI; simp; split; omega; split <;> omega
theorem idxI_drop (zs : List Int) (x : Int) (k : Nat) (hk : k < zs.length) (hno : ∀ j, j < k → zs[j]?.getD 0 ≠ x) (hx : zs[k]?.getD 0 = x) : idxI zs x = k := by
  induction zs generalizing k with
  | nil => simp at hk
  | cons z zs ih =>
    cases k with
    | zero => simp at hx; simp [idxI, hx]
    | succ k =>
      have h0 := hno 0 (by omega)
      simp at h0
      have := ih k (by simpa using hk) (fun j hj => by simpa using hno (j + 1) (by omega)) (by simpa using hx)
      unfold idxI
      rw [if_neg (fun h => h0 h.symm), this, if_neg (by omega)]
      omega
theorem idxI_no (zs : List Int) (x : Int) (hno : ∀ j, j < zs.length → zs[j]?.getD 0 ≠ x) : idxI zs x = -1 := by
  induction zs with
  | nil => rfl
  | cons z zs ih =>
    have h0 := hno 0 (by simp)
    simp at h0
    have := ih (fun j hj => by simpa using hno (j + 1) (by simpa using hj))
    unfold idxI
    rw [if_neg (fun h => h0 h.symm), this]
    simp
theorem idxI_mem (zs : List Int) (x : Int) : 0 ≤ idxI zs x ↔ x ∈ zs := by
  induction zs with
  | nil => simp [idxI]
  | cons z zs ih =>
    unfold idxI
    by_cases h : x = z
    · simp [h]
    · rw [if_neg h]
      simp only [List.mem_cons, h, false_or, ← ih]
      split <;> omega

def hasI (zs : List Int) (x : Int) : Bool := zs.contains x
theorem ints_of_alloc (w : World) (zs : List Int) (T : TypeId) : ∀ k, k < zs.length → (w.alloc (.cells (zs.map (Value.int .i64)).toArray T)).cell? ⟨w.heap.size, 0 + k, none⟩ = some (.int .i64 (zs[k]?.getD 0)) := by
  intro k hk
  rw [World.cell?_alloc_new]
  simp [hk]
set_option maxHeartbeats 400000 in
theorem g_IndexI (b off c : Nat) (zs : List Int) (x : Int) (w : World) (hl : zs.length ≤ 140737488355328) (hc : ∀ k, k < zs.length → w.cell? ⟨b, off + k, none⟩ = some (.int .i64 (zs[k]?.getD 0))) :
    Calls Try.prog 269 #[.slice (some ⟨b, off, none⟩) zs.length c, .int .i64 x] w fun e w' => e = .returned (.int .i64 (idxI zs x)) ∧ w = w' := by
  go_enter Try.func269, Try.ntmps269
  go_wp2
  go_loop [8] (fun i => ∃ k : Nat, k ≤ zs.length ∧ (∀ j, j < k → zs[j]?.getD 0 ≠ x) ∧ i = .int .i64 k) (fun i => zs.length - (intOf i).toNat)
  case atStart => exact ⟨0, Nat.zero_le _, fun j hj => by omega, rfl⟩
  case round =>
    obtain ⟨k, hk, hno, rfl⟩ := hrel
    have HN := Lib.hid hno
    clear hno
    by_cases hlt : k < zs.length
    · have hck := hc k hlt
      clear hc
      obtain ⟨z, hz⟩ : ∃ z, zs[k]?.getD 0 = z := ⟨_, rfl⟩
      rw [hz] at hck
      have HZ := Lib.hid hz
      clear hz
      by_cases hx : z = x
      · have e := idxI_drop zs x k hlt HN.out (by rw [HZ.out]; exact hx)
        have HE := Lib.hid e
        have hb : (x == z) = true := by simp [hx]
        clear e hx
        go_wp2
        go_ret
        exact ⟨ret_int HE.out.symm, rfl⟩
      · have hb : (x == z) = false := by simp; exact fun h => hx h.symm
        have HX := Lib.hid hx
        clear hx
        go_wp2
        go_round
        case rel => exact ⟨k + 1, by omega, fun j hj => by
          by_cases h : j = k
          · subst h; rw [HZ.out]; exact HX.out
          · exact HN.out j (by omega), by go_num⟩
        case measure => simp [intOf]; omega
    · have e := idxI_no zs x (fun j hj => HN.out j (by omega))
      have HE := Lib.hid e
      clear e hc
      go_wp2
      go_ret
      exact ⟨ret_int HE.out.symm, rfl⟩
set_option maxHeartbeats 400000 in
theorem g_ContainsI (b off c : Nat) (zs : List Int) (x : Int) (w : World) (hl : zs.length ≤ 140737488355328) (hc : ∀ k, k < zs.length → w.cell? ⟨b, off + k, none⟩ = some (.int .i64 (zs[k]?.getD 0))) :
    Calls Try.prog 249 #[.slice (some ⟨b, off, none⟩) zs.length c, .int .i64 x] w fun e w' => e = .returned (.bool (hasI zs x)) ∧ w = w' := by
  have HC := Lib.hid hc
  clear hc
  by_cases hx : x ∈ zs
  · have h0 := (idxI_mem zs x).2 hx
    have e : hasI zs x = true := by simpa [hasI] using hx
    have HE := Lib.hid e
    clear e hx
    go_enter Try.func249, Try.ntmps249
    go_wp2_with (go_at_call 269; refine (g_IndexI b off c zs x _ hl HC.out).mono ?_; rintro e w1 ⟨rfl, rfl⟩)
    go_ret
    exact ⟨ret_bool (by rw [HE.out]), rfl⟩
  · have h0 : idxI zs x < 0 := by
      have := mt (idxI_mem zs x).1 hx
      omega
    have e : hasI zs x = false := by simpa [hasI] using hx
    have HE := Lib.hid e
    clear e hx
    go_enter Try.func249, Try.ntmps249
    go_wp2_with (go_at_call 269; refine (g_IndexI b off c zs x _ hl HC.out).mono ?_; rintro e w1 ⟨rfl, rfl⟩)
    go_ret
    exact ⟨ret_bool (by rw [HE.out]; simpa using h0), rfl⟩
set_option maxHeartbeats 400000 in
theorem i_isOneOf (b off c : Nat) (zs : List Int) (x : Int) (w : World) (hl : zs.length ≤ 140737488355328) (hc : ∀ k, k < zs.length → w.cell? ⟨b, off + k, none⟩ = some (.int .i64 (zs[k]?.getD 0))) :
    Calls Try.prog 190 #[.int .i64 x, .slice (some ⟨b, off, none⟩) zs.length c] w fun e w' => e = .returned (.bool (hasI zs x)) ∧ w = w' := by
  have HC := Lib.hid hc
  clear hc
  go_enter Try.func190, Try.ntmps190
  go_wp2_with (go_at_call 249; refine (g_ContainsI b off c zs x _ hl HC.out).mono ?_; rintro e w1 ⟨rfl, rfl⟩)
  go_ret
  exact ⟨rfl, rfl⟩

def legal (s k : Int) : Bool :=
  if s = 1 then hasI [1, 4, 15] k else if s = 2 then hasI [2, 4, 6, 11, 12, 13, 14, 15] k else if s = 3 then btw k 2 15 else false
end Go.Proofs.Yteepbpjgapmecaa
