/-
  Words and events of a filter: what both readers make of them. Plain.
-/
import Derived.Test.YtoigkpkafgjeaaaABlR9
import Derived.Test.YtoigkpkafgjeaaaABlRf
set_option linter.unusedSimpArgs false
set_option linter.unusedVariables false
set_option maxRecDepth 100000
namespace Go.Proofs.Ytoigkpkafgjeaaa
open Go.ChangeShapes Go.WideShapes Go.ChangeAt Go.RowKit Go.Joins Go.Deep
open GoRep (rep bulk)

theorem kd_tab : ∀ k : Nat, k < 5 → 1 ≤ k → kd6 (upT (nth_String scW k)) 4 = ((k : Nat) : Int) ∧ idxL (fun z : ByteArray => eqS (upT z) (upT (nth_String scW k))) scW = ((k : Nat) : Int) := by decide +kernel
theorem ev_tab : ∀ k : Nat, k < 4 → idxL (fun z : ByteArray => eqS (upT z) (upT (nth_String evW k))) evW = ((k : Nat) : Int) ∧ (if eqS (upT (nth_String evW 3)) (upT (nth_String evW k)) = true then (3 : Int) else if eqS (upT (nth_String evW 2)) (upT (nth_String evW k)) = true then 2 else if eqS (upT (nth_String evW 1)) (upT (nth_String evW k)) = true then 1 else if eqS (upT (nth_String evW 0)) (upT (nth_String evW k)) = true then 0 else -1) = ((k : Nat) : Int) := by decide +kernel
theorem kd_of {w : ByteArray} {k : Int} (h : 1 ≤ k ∧ k ≤ 4) (e : upT w = upT (nth_String scW (Int.toNat k))) : kd6 (upT w) 4 = k ∧ wIx scW w = k := by
  have h1 := kd_tab (Int.toNat k) (by omega) (by omega)
  have h2 : ((Int.toNat k : Nat) : Int) = k := by omega
  unfold wIx
  rw [e]
  rw [h2] at h1
  exact h1
theorem kd_to {v : ByteArray} : ∀ {n : Nat}, 1 ≤ kd6 v n → v = upT (nth_String scW (Int.toNat (kd6 v n)))
  | 0, h => by
    have h : (1 : Int) ≤ 0 := h
    omega
  | n + 1, h => by
    unfold kd6 at h ⊢
    split
    · rename_i h1
      exact (eqS_true.1 h1).symm
    · rename_i h1
      rw [if_neg h1] at h
      exact kd_to h
theorem ev_of {w : ByteArray} {j : Nat} (h : j < 4) (e : upT w = upT (nth_String evW j)) : ev6 w 4 = ((j : Nat) : Int) ∧ wIx evW w = ((j : Nat) : Int) := by
  have h1 := ev_tab j h
  unfold wIx
  rw [e]
  refine ⟨?_, h1.1⟩
  rw [← h1.2]
  unfold ev6 ev6 ev6 ev6 ev6
  rw [e]
  rfl
theorem ev_to {w : ByteArray} : ∀ {n : Nat}, 0 ≤ ev6 w n → upT w = upT (nth_String evW (Int.toNat (ev6 w n)))
  | 0, h => by
    have h : (0 : Int) ≤ -1 := h
    omega
  | n + 1, h => by
    unfold ev6 at h ⊢
    split
    · rename_i h1
      exact (eqS_true.1 h1).symm
    · rename_i h1
      rw [if_neg h1] at h
      exact ev_to h
/-- these words are the events' words of these numbers -/
def F2 : List ByteArray → List Nat → Prop
  | [], [] => True
  | w :: ws, j :: js => (j < 4 ∧ upT w = upT (nth_String evW j)) ∧ F2 ws js
  | _, _ => False
def btJ : List Nat → Int → Int → Int × Bool
  | [], _, b => (b, true)
  | j :: js, l, b => if ((j : Nat) : Int) ≤ l then (0, false) else btJ js ((j : Nat) : Int) (orI b ((j : Nat) : Int))
def boJ : List Nat → Int → Int × Bool
  | [], b => (b, true)
  | j :: js, b => if bitI b ((j : Nat) : Int) = true then (0, false) else boJ js (orI b ((j : Nat) : Int))
theorem bt_J : ∀ {ws : List ByteArray} {js : List Nat} {l b : Int}, F2 ws js → bt6 ws l b = btJ js l b
  | [], [], _, _, _ => rfl
  | [], _ :: _, _, _, h => h.elim
  | _ :: _, [], _, _, h => h.elim
  | w :: ws, j :: js, l, b, h => by
    unfold bt6 btJ
    rw [(ev_of h.1.1 h.1.2).1]
    split
    · rfl
    · exact bt_J h.2
theorem bo_J : ∀ {ws : List ByteArray} {js : List Nat} {b : Int}, F2 ws js → boI evW ws b = boJ js b
  | [], [], _, _ => rfl
  | [], _ :: _, _, h => h.elim
  | _ :: _, [], _, h => h.elim
  | w :: ws, j :: js, b, h => by
    unfold boI boJ
    rw [(ev_of h.1.1 h.1.2).2, if_neg (by omega)]
    split
    · rfl
    · exact bo_J h.2
def incJ : Int → List Nat → Prop
  | _, [] => True
  | l, j :: js => (l < ((j : Nat) : Int) ∧ j < 4) ∧ incJ ((j : Nat) : Int) js
theorem bt_F : ∀ {ws : List ByteArray} {l b : Int}, -1 ≤ l → (bt6 ws l b).2 = true → ∃ js, F2 ws js ∧ incJ l js
  | [], _, _, _, _ => ⟨[], trivial, trivial⟩
  | w :: ws, l, b, hl, h => by
    unfold bt6 at h
    by_cases h1 : ev6 w 4 ≤ l
    · rw [if_pos h1] at h
      cases h
    · rw [if_neg h1] at h
      have h2 := ev6_b w 4
      obtain ⟨js, h3, h4⟩ := bt_F (l := ev6 w 4) (by omega) h
      have h5 : ((Int.toNat (ev6 w 4) : Nat) : Int) = ev6 w 4 := by omega
      refine ⟨Int.toNat (ev6 w 4) :: js, ⟨⟨by omega, ev_to (by omega)⟩, h3⟩, ⟨by omega, by omega⟩, ?_⟩
      rw [h5]
      exact h4
def sbJ : Nat → List (List Nat)
  | 0 => [[]]
  | k + 1 => sbJ k ++ (sbJ k).map (fun js => (3 - k) :: js)
theorem sb_nil : ∀ k, [] ∈ sbJ k
  | 0 => List.mem_singleton.2 rfl
  | k + 1 => List.mem_append_left _ (sb_nil k)
theorem sb_in : ∀ {k : Nat} {js : List Nat}, k ≤ 4 → incJ (3 - ((k : Nat) : Int)) js → js ∈ sbJ k
  | k, [], _, _ => sb_nil k
  | 0, j :: js, _, h => by
    have := h.1
    omega
  | k + 1, j :: js, hk, h => by
    have h1 := h.1
    by_cases hj : j = 3 - k
    · subst hj
      refine List.mem_append_right _ (List.mem_map.2 ⟨js, sb_in (by omega) ?_, rfl⟩)
      have h2 := h.2
      rw [show (((3 - k : Nat) : Nat) : Int) = 3 - ((k : Nat) : Int) by omega] at h2
      exact h2
    · exact List.mem_append_left _ (sb_in (by omega) ⟨⟨by omega, h1.2⟩, h.2⟩)
/-- the events of these bits -/
def evJ (b : Int) : List Nat := [0, 1, 2, 3].filter (fun k => bitB b k)
theorem sb_tab : ∀ js ∈ sbJ 4, evJ (btJ js (-1) 0).1 = js ∧ boJ js 0 = btJ js (-1) 0 := by decide +kernel
theorem ev_all : ∀ b : Nat, b < 16 → btJ (evJ ((b : Nat) : Int)) (-1) 0 = (((b : Nat) : Int), true) ∧ boJ (evJ ((b : Nat) : Int)) 0 = (((b : Nat) : Int), true) := by decide +kernel
theorem evs_n {ws : List ByteArray} (h : (bt6 ws (-1) 0).2 = true) : F2 ws (evJ (bt6 ws (-1) 0).1) := by
  obtain ⟨js, h1, h2⟩ := bt_F (Int.le_refl _) h
  have h3 := (sb_tab js (sb_in (Nat.le_refl _) h2)).1
  rw [bt_J h1, h3]
  exact h1
theorem evs_y {ws : List ByteArray} {b : Int} (hb : 0 ≤ b ∧ b < 16) (h : F2 ws (evJ b)) : bt6 ws (-1) 0 = (b, true) ∧ boI evW ws 0 = (b, true) := by
  have h1 := ev_all (Int.toNat b) (by omega)
  rw [show ((Int.toNat b : Nat) : Int) = b by omega] at h1
  rw [bt_J h, bo_J h]
  exact h1
def at1 (ws : List ByteArray) : List GToken := ws.map atomK
theorem evN_J {b : Int} : evN b 4 = at1 ((evJ b).map (nth_String evW)) := by
  unfold evN evN evN evN evN at1 evJ
  simp only [List.filter_cons, List.filter_nil]
  cases bitB b 0 <;> cases bitB b 1 <;> cases bitB b 2 <;> cases bitB b 3 <;> rfl
end Go.Proofs.Ytoigkpkafgjeaaa
