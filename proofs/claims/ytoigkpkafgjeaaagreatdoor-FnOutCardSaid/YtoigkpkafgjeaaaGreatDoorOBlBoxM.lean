/-
  Several texts in one.
-/
import Derived.Test.YtoigkpkafgjeaaaGreatDoorOBxPerf
import Derived.Test.YtoigkpkafgjeaaaGreatDoorOBmFr
set_option linter.unusedSimpArgs false
set_option linter.unusedVariables false
set_option maxRecDepth 100000
set_option maxHeartbeats 4000000
namespace Go.Proofs.YtoigkpkafgjeaaaGreatDoor
open Go.ChangeShapes Go.WideShapes Go.ChangeAt Go.RowKit Go.Joins Go.Deep
open GoRep (rep bulk)

abbrev outQ (l : List GBoxQ) (k : Nat) : List GBoxQ := l.take k ++ l.drop (k + 1)
def posQ : List GBoxQ → ByteArray → Nat
  | [], _ => 0
  | x :: l, n => if nmLt x.1 n = true then posQ l n + 1 else 0
theorem posQ_map : ∀ (l : List GBoxQ) (k : List GBox) (n : ByteArray), l.map (·.1) = k.map (·.1) → posQ l n = posN k n
  | [], [], _, _ => rfl
  | [], _ :: _, _, h => by simp at h
  | _ :: _, [], _, h => by simp at h
  | x :: l, y :: k, n, h => by
    simp only [List.map_cons, List.cons.injEq] at h
    unfold posQ posN
    rw [h.1, posQ_map l k n h.2]
theorem posQ_le : ∀ (l : List GBoxQ) (n : ByteArray), posQ l n ≤ l.length
  | [], _ => Nat.le_refl _
  | x :: l, n => by
    unfold posQ
    have := posQ_le l n
    split <;> simp <;> omega
theorem posQ_lt : ∀ (l : List GBoxQ) (n : ByteArray) (j : Nat), j < posQ l n → nmLt (nth_BoxQ l j).1 n = true
  | [], _, _, h => absurd h (Nat.not_lt_zero _)
  | x :: l, n, j, h => by
    unfold posQ at h
    split at h
    · rename_i hx
      cases j with
      | zero => exact hx
      | succ j => exact posQ_lt l n j (by omega)
    · omega
theorem posQ_ge : ∀ (l : List GBoxQ) (n : ByteArray), posQ l n < l.length → nmLt (nth_BoxQ l (posQ l n)).1 n = false
  | [], _, h => absurd h (Nat.not_lt_zero _)
  | x :: l, n, h => by
    unfold posQ at h ⊢
    split
    · rename_i hx
      rw [if_pos hx] at h
      exact posQ_ge l n (by simpa using h)
    · rename_i hx
      have : nmLt x.1 n = false := by simpa using hx
      exact this
theorem posQ_uniq {l : List GBoxQ} {n : ByteArray} {k : Nat} (hk : k ≤ l.length) (h1 : ∀ j, j < k → nmLt (nth_BoxQ l j).1 n = true) (h2 : k < l.length → nmLt (nth_BoxQ l k).1 n = false) : k = posQ l n := by
  rcases Nat.lt_trichotomy k (posQ l n) with h | h | h
  · have := posQ_lt l n k h
    have hp := posQ_le l n
    rw [h2 (by omega)] at this
    cases this
  · exact h
  · have := h1 _ h
    rw [posQ_ge l n (by omega)] at this
    cases this
def preW (qs : List GBoxQ) (k : Int) : Prop := 0 ≤ k ∧ k < ((List.length qs : Nat) : Int) ∧ List.length qs ≤ 1048576
def layQ (l : List GBoxQ) (b : GBoxQ) : List GBoxQ := l.take (posQ l b.1) ++ b :: l.drop (posQ l b.1)
def k04m7g0 (k : Int) (qs : List GBoxQ) : Prop := ((True ∧ List.length (([] : List GBoxQ) ++ (List.drop (Int.toNat 0) (List.take (Int.toNat k) qs))) + List.length (List.drop (Int.toNat (IntKind.wrap .i64 (k + 1))) (List.take (Int.toNat ((List.length qs : Nat) : Int)) qs)) ≤ rowMax) ∧ (True ∧ ((((([] : List GBoxQ) ++ (List.drop (Int.toNat 0) (List.take (Int.toNat k) qs))) ++ (List.drop (Int.toNat (IntKind.wrap .i64 (k + 1))) (List.take (Int.toNat ((List.length qs : Nat) : Int)) qs))) = (outQ qs (Int.toNat k))) ∧ true = true)))
def k24m7g0 (k : Int) (qs : List GBoxQ) : Prop := ((4 : Nat) = 4 ∧ ((0 : Int) ≤ (IntKind.wrap .i64 (k + 1)) ∧ ((IntKind.wrap .i64 (k + 1)) : Int) ≤ ((List.length qs : Nat) : Int) ∧ (((List.length qs : Nat) : Int) : Int) ≤ ((List.length qs : Nat) : Int)))
def k34m7g0 (k : Int) (qs : List GBoxQ) : Prop := (True ∧ List.length ([] : List GBoxQ) + List.length (List.drop (Int.toNat 0) (List.take (Int.toNat k) qs)) ≤ rowMax)
def k14m7g0 (k : Int) (qs : List GBoxQ) : Prop := (((k34m7g0 k qs) ∧ ((k24m7g0 k qs) ∧ (k04m7g0 k qs))) ∧ (((k24m7g0 k qs) ∧ ((k34m7g0 k qs) ∧ (k04m7g0 k qs)))))
def k44m7g0 (k : Int) (qs : List GBoxQ) : Prop := ((4 : Nat) = 4 ∧ ((0 : Int) ≤ 0 ∧ (0 : Int) ≤ k ∧ (k : Int) ≤ ((List.length qs : Nat) : Int)))
theorem b_l10WithoutQ (qs : List GBoxQ) (k : Int) (hpre : preW qs k) : BCalls Tryz.prog 94 [.c (.hs .no tyBoxQ qs), .c (.int .i64 k)] (.c (.row 0 0)) [.row tyBoxQ (outQ qs (Int.toNat k)) 0 0 none] := by
  refine bc0 [] [] [] [] L0 Tryz.func94 (fun hwf => ?_)
  refine Eq.mpr (β := (True ∧ ((true = true ∧ true = true) ∧ (T4 ((True ∧ ((k44m7g0 k qs) ∧ (((k34m7g0 k qs) ∧ (True ∧ ((k24m7g0 k qs) ∧ (k04m7g0 k qs)))) ∧ ((True ∧ (k14m7g0 k qs)))))) ∧ (((k44m7g0 k qs) ∧ ((True ∧ (((k34m7g0 k qs) ∧ (True ∧ ((k24m7g0 k qs) ∧ (k04m7g0 k qs)))) ∧ ((True ∧ (k14m7g0 k qs))))) ∧ ((True ∧ ((True ∧ (k14m7g0 k qs)) ∧ (((k24m7g0 k qs) ∧ (True ∧ ((k34m7g0 k qs) ∧ (k04m7g0 k qs)))))))))) ∧ ((True ∧ ((True ∧ ((k44m7g0 k qs) ∧ (k14m7g0 k qs))) ∧ (((k44m7g0 k qs) ∧ ((True ∧ (k14m7g0 k qs)) ∧ (((k24m7g0 k qs) ∧ (True ∧ ((k34m7g0 k qs) ∧ (k04m7g0 k qs))))))) ∧ (((k24m7g0 k qs) ∧ ((True ∧ ((k44m7g0 k qs) ∧ ((k34m7g0 k qs) ∧ (k04m7g0 k qs)))) ∧ (((k44m7g0 k qs) ∧ (True ∧ ((k34m7g0 k qs) ∧ (k04m7g0 k qs)))))))))))))))))) (by kernel_rfl) ?_
  unfold k44m7g0 k14m7g0 k34m7g0 k24m7g0 k04m7g0 T4
  obtain ⟨h0, h1, h2⟩ := hpre
  have w1 : IntKind.wrap .i64 (k + 1) = k + 1 := wrapA (by omega) (by omega)
  have e1 : Int.toNat (k + 1) = Int.toNat k + 1 := by omega
  have e2 : List.take (Int.toNat ((List.length qs : Nat) : Int)) qs = qs := by rw [Int.toNat_natCast, List.take_length]
  simp only [SI2A, eq_self]
  simp only [w1, e1, e2, List.nil_append, List.length_nil, Nat.zero_add, List.length_append, List.length_take, List.length_drop]
  repeat' (first | apply And.intro | intro _)
  all_goals first
    | trivial
    | omega
    | (unfold rowMax; omega)
    | (rw [List.take_length]; rfl)
def L_l10LayQ (qs : List GBoxQ) (b : GBoxQ) : Nat → List AV → Mem → LoopA
  | 2, tm, M => ⟨Nat, fun y => (anyR (setA tm [(5, .c (.int .i64 ((y : Nat) : Int)))]) 7 16, M), fun y => (y ≤ List.length qs ∧ ∀ j, j < y → nmLt (nth_BoxQ qs j).1 b.1 = true), fun y => (List.length qs - y)⟩
  | _, _, _ => ⟨Unit, fun _ => ([], []), fun _ => False, fun _ => 0⟩
def k0i9zl4 (y0 : Nat) (qs : List GBoxQ) (b : GBoxQ) : Prop := ((True ∧ List.length (([] : List GBoxQ) ++ (List.drop (Int.toNat 0) (List.take (Int.toNat ((y0 : Nat) : Int)) qs))) + List.length ([b]) ≤ rowMax) ∧ (T4 (((4 : Nat) = 4 ∧ ((0 : Int) ≤ ((y0 : Nat) : Int) ∧ (((y0 : Nat) : Int) : Int) ≤ ((List.length qs : Nat) : Int) ∧ (((List.length qs : Nat) : Int) : Int) ≤ ((List.length qs : Nat) : Int))) ∧ ((True ∧ List.length ((([] : List GBoxQ) ++ (List.drop (Int.toNat 0) (List.take (Int.toNat ((y0 : Nat) : Int)) qs))) ++ [b]) + List.length (List.drop (Int.toNat ((y0 : Nat) : Int)) (List.take (Int.toNat ((List.length qs : Nat) : Int)) qs)) ≤ rowMax) ∧ (True ∧ (((((([] : List GBoxQ) ++ (List.drop (Int.toNat 0) (List.take (Int.toNat ((y0 : Nat) : Int)) qs))) ++ [b]) ++ (List.drop (Int.toNat ((y0 : Nat) : Int)) (List.take (Int.toNat ((List.length qs : Nat) : Int)) qs))) = (layQ qs b)) ∧ true = true))))))
def k2i9zl4 (y0 : Nat) (qs : List GBoxQ) : Prop := (True ∧ List.length ([] : List GBoxQ) + List.length (List.drop (Int.toNat 0) (List.take (Int.toNat ((y0 : Nat) : Int)) qs)) ≤ rowMax)
def k3i9zl4 (y0 : Nat) (qs : List GBoxQ) : Prop := ((4 : Nat) = 4 ∧ ((0 : Int) ≤ 0 ∧ (0 : Int) ≤ ((y0 : Nat) : Int) ∧ (((y0 : Nat) : Int) : Int) ≤ ((List.length qs : Nat) : Int)))
def k4i9zl4 (y0 : Nat) (qs : List GBoxQ) (b : GBoxQ) : Prop := (((k2i9zl4 y0 qs) ∧ (True ∧ (k0i9zl4 y0 qs b))) ∧ ((True ∧ ((k2i9zl4 y0 qs) ∧ (k0i9zl4 y0 qs b)))))
def k1i9zl4 (y0 : Nat) (qs : List GBoxQ) (b : GBoxQ) : Prop := ((true = true ∧ true = true) ∧ (T2 ((True ∧ (((k3i9zl4 y0 qs) ∧ (((k2i9zl4 y0 qs) ∧ (T2 (k0i9zl4 y0 qs b))) ∧ ((True ∧ (k4i9zl4 y0 qs b))))) ∧ ((True ∧ (((k3i9zl4 y0 qs) ∧ (k4i9zl4 y0 qs b)) ∧ ((True ∧ ((k3i9zl4 y0 qs) ∧ ((k2i9zl4 y0 qs) ∧ (k0i9zl4 y0 qs b)))))))))) ∧ (((k3i9zl4 y0 qs) ∧ ((True ∧ (((k2i9zl4 y0 qs) ∧ (T2 (k0i9zl4 y0 qs b))) ∧ ((True ∧ (k4i9zl4 y0 qs b))))) ∧ ((True ∧ ((True ∧ (k4i9zl4 y0 qs b)) ∧ ((T2 ((k2i9zl4 y0 qs) ∧ (k0i9zl4 y0 qs b))))))))) ∧ ((True ∧ ((True ∧ (((k3i9zl4 y0 qs) ∧ (k4i9zl4 y0 qs b)) ∧ ((True ∧ ((k3i9zl4 y0 qs) ∧ ((k2i9zl4 y0 qs) ∧ (k0i9zl4 y0 qs b))))))) ∧ (((k3i9zl4 y0 qs) ∧ ((True ∧ (k4i9zl4 y0 qs b)) ∧ ((T2 ((k2i9zl4 y0 qs) ∧ (k0i9zl4 y0 qs b)))))) ∧ ((True ∧ ((True ∧ ((k3i9zl4 y0 qs) ∧ ((k2i9zl4 y0 qs) ∧ (k0i9zl4 y0 qs b)))) ∧ (((k3i9zl4 y0 qs) ∧ (True ∧ ((k2i9zl4 y0 qs) ∧ (k0i9zl4 y0 qs b))))))))))))))))
theorem b_l10LayQ (qs : List GBoxQ) (b : GBoxQ) (hpre : List.length qs ≤ 1048576) : BCalls Tryz.prog 93 [.c (.hs .no tyBoxQ qs), .ag (cellsOf tyBoxQ b)] (.c (.row 0 0)) [.row tyBoxQ (layQ qs b) 0 0 none] := by
  refine bc0 [] [] [] [] (L_l10LayQ qs b) Tryz.func93 (fun hwf => ?_)
  refine Eq.mpr (β := (T3 ((∃ q : Nat, (q ≤ List.length qs ∧ ∀ j, j < q → nmLt (nth_BoxQ qs j).1 b.1 = true) ∧ ((lxs [.c (.hs .no tyBoxQ qs), .ag [.str b.1, .int .i64 b.2.1, .int .i64 b.2.2.1, .opq b.2.2.2], .tp [], .c (.bp 0 0), .c (.raw (.slice none 0 0))] (leV (.c (.int .i64 0)) (.c (.int .i64 ((q : Nat) : Int))) ∧ lxs [.tp []] (TN 16 (lxs [.tp [], .tp [], .tp [], .tp [], .tp [], .tp [], .tp [], .tp [], .tp [], .tp [], .tp [], .tp [], .tp []] True)))) ∧ (lb (.box [.str b.1, .int .i64 b.2.1, .int .i64 b.2.2.1, .opq b.2.2.2]) ∧ True) ∧ true = true)) ∧ ∀ y0 : Nat, (y0 ≤ List.length qs ∧ ∀ j, j < y0 → nmLt (nth_BoxQ qs j).1 b.1 = true) → ((true = true ∧ true = true) ∧ (T5 (bif (ltI ((y0 : Nat) : Int) ((List.length qs : Nat) : Int)) then (T2 (((4 : Nat) = 4 ∧ (0 : Int) ≤ ((y0 : Nat) : Int) ∧ (((y0 : Nat) : Int) : Int) < ((List.length qs : Nat) : Int)) ∧ (T6 (bif (Op.bytesLess (nth_BoxQ qs (Int.toNat ((y0 : Nat) : Int))).1.toList b.1.toList) then (T3 (∃ y0' : Nat, (y0' ≤ List.length qs ∧ ∀ j, j < y0' → nmLt (nth_BoxQ qs j).1 b.1 = true) ∧ (List.length qs - y0') < (List.length qs - y0) ∧ ((lxs [.c (.hs .no tyBoxQ qs), .ag [.str b.1, .int .i64 b.2.1, .int .i64 b.2.2.1, .opq b.2.2.2], .tp [], .c (.bp 0 0), .c (.raw (.slice none 0 0))] (leV (.c (.int .i64 (IntKind.wrap .i64 (((y0 : Nat) : Int) + 1)))) (.c (.int .i64 ((y0' : Nat) : Int))) ∧ lxs [.tp []] (TN 16 (lxs [.tp [], .tp [], .tp [], .tp [], .tp [], .tp [], .tp [], .tp [], .tp [], .tp [], .tp [], .tp [], .tp []] True)))) ∧ (lb (.box [.str b.1, .int .i64 b.2.1, .int .i64 b.2.2.1, .opq b.2.2.2]) ∧ True) ∧ true = true))) else (k1i9zl4 y0 qs b))))) else (True ∧ (k1i9zl4 y0 qs b)))))))) (by kernel_rfl) ?_
  unfold k1i9zl4 k4i9zl4 k3i9zl4 k2i9zl4 k0i9zl4 T2 T3 T4 T5 T6
  have hm : List.length qs ≤ 1048576 := hpre
  have e2 : List.take (Int.toNat ((List.length qs : Nat) : Int)) qs = qs := by rw [Int.toNat_natCast, List.take_length]
  simp only [SI2A, eq_self]
  refine ⟨⟨0, ⟨Nat.zero_le _, allN_zero⟩, rfl⟩, fun k hk => ⟨fun hlt => ⟨by omega, fun hp => ?_, fun hp => ?_⟩, fun hge => ?_⟩⟩
  · exact ⟨k + 1, ⟨by omega, allN_step hk.2 hp⟩, by omega, wrapN (by unfold maxLen; omega)⟩
  all_goals
    have e : k = posQ qs b.1 := posQ_uniq hk.1 hk.2 (fun h => by first | exact hp | (exfalso; omega))
    unfold layQ
    rw [← e]
    simp only [List.nil_append, List.length_nil, List.length_cons, Nat.zero_add, List.length_append, List.length_take, List.length_drop, Int.toNat_zero, List.drop_zero]
    repeat' (first | apply And.intro | intro _)
    all_goals first
      | trivial
      | omega
      | (unfold rowMax; omega)
      | (rw [List.take_length, List.append_assoc]; rfl)
end Go.Proofs.YtoigkpkafgjeaaaGreatDoor
set_option linter.unusedSimpArgs false
set_option linter.unusedVariables false
namespace Go.Proofs.YtoigkpkafgjeaaaGreatDoor
open Go.ChangeShapes Go.WideShapes Go.ChangeAt Go.RowKit Go.Joins Go.Deep
open GoRep (rep bulk)
theorem names_q {W : World} {xs : List GBox} {qs : List GBoxQ} {G : List Nat} (h : QRows W tyBox xs qs G) : qs.map (·.1) = xs.map (·.1) :=
  QRows.map (t := tyBox) (fun x : GBox => x.1) (fun q : GBoxQ => q.1) (fun x q F ⟨_, _, h1, _, _⟩ => h1.1.symm) h
theorem one_env {X : List Nat} {W : World} {E : Env} {b : Blk} (hM : RepM X W E [b]) : ∃ e, E = [e] := by
  have hl : E.length = 1 := by rw [← hM.len]; rfl
  match E, hl with
  | [e], _ => exact ⟨e, rfl⟩
theorem two_env {X : List Nat} {W : World} {E : Env} {b c : Blk} (hM : RepM X W E [b, c]) : ∃ e f, E = [e, f] := by
  have hl : E.length = 2 := by rw [← hM.len]; rfl
  match E, hl with
  | [e, f], _ => exact ⟨e, f, rfl⟩
theorem row_val {W : World} {E : Env} {M : Mem} {X : List Nat} {i : Nat} {t : Ty} {xs : List t.den} {e : EB} {v : Value} (hv : RepC X W E M (.row i 0) v) (hi : M[i]? = some (.row t xs 0 0 none)) (he : E[i]? = some e) : v = e.val := by
  have h := hv.2
  unfold atRow at h
  rw [hi] at h
  obtain ⟨e', h1, h2⟩ := h.2 rfl
  obtain rfl := Option.some.inj (he.symm.trans h1)
  exact h2
def preB (xs : List GBox) (k : Int) : Prop := 0 ≤ k ∧ k < ((List.length xs : Nat) : Int) ∧ List.length xs ≤ 1048576
theorem m_s_l10Without (xs : List GBox) (k : Int) (hpre : preB xs k) : MCalls Tryz.prog 94 (argsM 0 [(.g false (.list tyBox)), (.a (.v tyInt))] (xs, k, ())) (preM 0 [(.g false (.list tyBox)), (.a (.v tyInt))] (xs, k, ())) (postM 0 [(.g false (.list tyBox)), (.a (.v tyInt))] (xs, k, ()) ++ [.row tyBox (outB xs (Int.toNat k)) 0 0 none]) (inpM 0 [(.g false (.list tyBox)), (.a (.v tyInt))]) (.c (.row 1 0)) := by
  intro X W E vs hgl hM hr
  have hM : RepM X W E [.row tyBox xs 0 0 none] := hM
  obtain ⟨v, r, rfl, hv, hr2⟩ := hr
  obtain ⟨kv, r3, rfl, hk, hn⟩ := hr2
  obtain rfl : r3 = [] := hn
  obtain ⟨e0, rfl⟩ := one_env hM
  have hv : RepC X W [e0] [.row tyBox xs 0 0 none] (.row 0 0) v := hv
  have hrow : OList W (ORep W tyBox) tyBox.n xs e0.val e0.foot := hM.row (i := 0) rfl rfl
  obtain rfl : v = e0.val := row_val hv rfl rfl
  obtain ⟨qs, G, hF, hq, hR⟩ := olist_quo hrow
  have hfoot : foots [e0] = e0.val.ownBlock.toList ++ G := by simp [foots, hF]
  have hnd := hM.nodup
  rw [hfoot, List.nodup_append] at hnd
  have hin : ∀ b ∈ G, b ∈ foots [e0] := fun b hb => by rw [hfoot]; exact List.mem_append_right _ hb
  have hlen : @List.length GBoxQ qs = @List.length GBox xs := hR.len
  obtain ⟨p0, p1, p2⟩ := hpre
  have hx : ∀ b ∈ e0.val.ownBlock.toList, b ∉ X ++ G := fun b hb hm => by
    rcases List.mem_append.1 hm with hm | hm
    · exact hM.xlt b hm (by rw [hfoot]; exact List.mem_append_left _ hb)
    · exact hnd.2.2 b hb b hm rfl
  have hc : RepC (X ++ G) W [] [] (.hs .no tyBoxQ qs) e0.val := repC_quo (t := tyBox) hq hx
  refine (b_l10WithoutQ qs k ⟨p0, by omega, by omega⟩ (X ++ G) W [e0.val, kv] (fun b hb => (List.mem_append.1 hb).elim (hM.xsz b) (fun h => hM.lt b (hin b h))) hgl.nil ⟨_, _, rfl, hc, _, _, rfl, hk, rfl⟩).mono fun e W' h => ?_
  obtain ⟨u, E', he, hg, hm, hu⟩ := h
  obtain ⟨G1, Gd, G3, e1, hqq⟩ := hR.out (Int.toNat k)
  obtain ⟨E2, g2, m2, c2⟩ := q_done (t := tyBox) (ts := [tyBox]) (X2 := X ++ G) hM hg hm hu (fun b hb => List.mem_append_left _ hb) hqq (by
    have hn2 := hnd.2.1
    rw [e1, List.nodup_append] at hn2
    have hn3 := hn2.2.1
    rw [List.nodup_append] at hn3
    rw [List.nodup_append]
    exact ⟨hn2.1, hn3.2.1, fun a ha b hb => hn2.2.2 a ha b (List.mem_append_right _ hb)⟩) (fun b hb => hin b (by
    rw [e1]
    rcases List.mem_append.1 hb with hb | hb
    · exact List.mem_append_left _ hb
    · exact List.mem_append_right _ (List.mem_append_right _ hb)))
  exact ⟨u, E2, he, g2, (fun i l e hi => by match i with | 0 => cases hi | n + 1 => cases hi), (fun i hi => by cases hi), m2, c2⟩
def e_s_l10Without : MEntry Tryz.prog := ⟨94, [(.g false (.list tyBox)), (.a (.v tyInt))], fun x => preB x.1 x.2.1, fun x => (x.1, x.2.1, ()), fun x => .c (.row 1 0), fun x => [.row tyBox (outB x.1 (Int.toNat x.2.1)) 0 0 none], fun x hx => m_s_l10Without x.1 x.2.1 hx, Tryz.call94⟩
def preY (xs : List GBox) : Prop := List.length xs ≤ 1048576
theorem m_s_l10Lay (xs : List GBox) (b : GBox) (hpre : preY xs) : MCalls Tryz.prog 93 (argsM 0 [(.g false (.list tyBox)), (.g true tyBox)] (xs, b, ())) (preM 0 [(.g false (.list tyBox)), (.g true tyBox)] (xs, b, ())) (postM 0 [(.g false (.list tyBox)), (.g true tyBox)] (xs, b, ()) ++ [.row tyBox (layB xs b) 0 0 none]) (inpM 0 [(.g false (.list tyBox)), (.g true tyBox)]) (.c (.row 2 0)) := by
  intro X W E vs hgl hM hr
  have hM : RepM X W E [.row tyBox xs 0 0 none, .row tyMsg b.2.2.2 0 0 none] := hM
  obtain ⟨v, r, rfl, hv, hr2⟩ := hr
  obtain ⟨bv, r3, rfl, hb, hn⟩ := hr2
  obtain rfl : r3 = [] := hn
  obtain ⟨e0, e1, rfl⟩ := two_env hM
  have hv : RepC X W [e0, e1] [.row tyBox xs 0 0 none, .row tyMsg b.2.2.2 0 0 none] (.row 0 0) v := hv
  obtain ⟨cs, rfl, u1, s1, rfl, c1, u2, s2, rfl, c2, u3, s3, rfl, c3, u4, s4, rfl, c4, hs4⟩ := hb
  obtain rfl : s4 = [] := hs4
  have c4 : RepC X W [e0, e1] [.row tyBox xs 0 0 none, .row tyMsg b.2.2.2 0 0 none] (.row 1 0) u4 := c4
  have hone := RepC.one c4
  have hrow : OList W (ORep W tyBox) tyBox.n xs e0.val e0.foot := hM.row (i := 0) rfl rfl
  have hrow1 : OList W (ORep W tyMsg) tyMsg.n b.2.2.2 e1.val e1.foot := hM.row (i := 1) rfl rfl
  obtain rfl : v = e0.val := row_val hv rfl rfl
  obtain rfl : u4 = e1.val := row_val c4 rfl rfl
  obtain ⟨qs, G, hF, hq, hR⟩ := olist_quo hrow
  have hfoot : foots [e0, e1] = e0.val.ownBlock.toList ++ (G ++ e1.foot) := by simp [foots, hF]
  have hnd := hM.nodup
  rw [hfoot, List.nodup_append] at hnd
  have hin : ∀ b ∈ G ++ e1.foot, b ∈ foots [e0, e1] := fun b hb => by rw [hfoot]; exact List.mem_append_right _ hb
  have hlen : @List.length GBoxQ qs = @List.length GBox xs := hR.len
  have hpre : List.length xs ≤ 1048576 := hpre
  have hx : ∀ b ∈ e0.val.ownBlock.toList, b ∉ X ++ (G ++ e1.foot) := fun b hb hm => by
    rcases List.mem_append.1 hm with hm | hm
    · exact hM.xlt b hm (by rw [hfoot]; exact List.mem_append_left _ hb)
    · exact hnd.2.2 b hb b hm rfl
  have hc : RepC (X ++ (G ++ e1.foot)) W [] [] (.hs .no tyBoxQ qs) e0.val := repC_quo (t := tyBox) hq hx
  have hbq : QRel W tyBox b (b.1, b.2.1, b.2.2.1, e1.val) e1.foot := ⟨[], e1.foot, ⟨rfl, rfl⟩, ⟨[], e1.foot, ⟨rfl, rfl⟩, ⟨[], e1.foot, ⟨rfl, rfl⟩, hrow1, rfl⟩, rfl⟩, rfl⟩
  refine (b_l10LayQ qs (b.1, b.2.1, b.2.2.1, e1.val) (by omega) (X ++ (G ++ e1.foot)) W [e0.val, .agg [u1, u2, u3, e1.val].toArray] (fun b hb => (List.mem_append.1 hb).elim (hM.xsz b) (fun h => hM.lt b (hin b h))) hgl.nil ⟨_, _, rfl, hc, _, _, rfl, ⟨_, rfl, _, _, rfl, c1, _, _, rfl, c2, _, _, rfl, c3, _, _, rfl, ⟨rfl, hone⟩, rfl⟩, rfl⟩).mono fun e W' h => ?_
  obtain ⟨u, E', he, hg, hm, hu⟩ := h
  have hp : posQ qs b.1 = posN xs b.1 := posQ_map qs xs b.1 (names_q hR)
  obtain ⟨G1, G2, e2, q1, q2⟩ := hR.split (posQ qs b.1)
  have hqq : QRows W tyBox (layB xs b) (layQ qs (b.1, b.2.1, b.2.2.1, e1.val)) (G1 ++ (e1.foot ++ G2)) := by
    rw [layB_pos, ← hp]
    exact q1.app ⟨e1.foot, G2, hbq, q2, rfl⟩
  have hperm : (G1 ++ (e1.foot ++ G2)).Perm (G ++ e1.foot) := by
    rw [e2, List.append_assoc]
    exact List.Perm.append_left _ List.perm_append_comm
  obtain ⟨E2, g2, m2, c2⟩ := q_done (t := tyBox) (ts := [tyBox, tyMsg]) (X2 := X ++ (G ++ e1.foot)) hM hg hm hu (fun b hb => List.mem_append_left _ hb) hqq (hperm.nodup_iff.2 hnd.2.1) (fun b hb => hin b (hperm.mem_iff.1 hb))
  exact ⟨u, E2, he, g2, (fun i l e hi => by match i with | 0 => cases hi | 1 => cases hi | n + 2 => cases hi), (fun i hi => by cases hi), m2, c2⟩
def e_s_l10Lay : MEntry Tryz.prog := ⟨93, [(.g false (.list tyBox)), (.g true tyBox)], fun x => preY x.1, fun x => (x.1, x.2.1, ()), fun x => .c (.row 2 0), fun x => [.row tyBox (layB x.1 x.2.1) 0 0 none], fun x hx => m_s_l10Lay x.1 x.2.1 hx, Tryz.call93⟩
end Go.Proofs.YtoigkpkafgjeaaaGreatDoor
