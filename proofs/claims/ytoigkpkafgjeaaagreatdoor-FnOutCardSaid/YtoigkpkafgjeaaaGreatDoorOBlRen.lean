/-
  The reference's Applied, of a commit that renames. Walked by hand.
-/
import Derived.Test.YtoigkpkafgjeaaaGreatDoorOBlApd
import Derived.Deep.RegionLaw
import Derived.Deep.RegionWith
import Derived.WalkKit
set_option linter.unusedSimpArgs false
set_option linter.unusedVariables false
namespace Go.Proofs.YtoigkpkafgjeaaaGreatDoor
open Go.Lib Go.ChangeShapes Go.WideShapes Go.ChangeAt Go.RowKit Go.Joins Go.Deep
open GoRep (rep bulk)
theorem alloc_grow (W : World) (o : Obj) : Grow W [] (W.alloc o) [] where
  os := rfl
  tape := rfl
  output := rfl
  size := by show W.heap.size ≤ (W.heap.push o).size; rw [Array.size_push]; omega
  keep b hb _ := by
    show (W.heap.push o)[b]? = _
    rw [Array.getElem?_push, if_neg (by omega)]
  new b hb := by simp [foots] at hb
  blk i e he := by simp at he
theorem growNil {W W' : World} {E' : Env} (h : Grow W [] W' E') : Grow W [] W' [] := ⟨h.os, h.tape, h.output, h.size, h.keep, fun b hb => by simp [foots] at hb, fun i e he => by simp at he⟩
theorem env_nil {X : List Nat} {W : World} {E : Env} (h : RepM X W E []) : E = [] := List.length_eq_zero_iff.1 h.len.symm
theorem memNil (W W' : World) (E' : Env) : MemOk W [] [] W' E' [] := fun i => by simp
theorem cellAt {W : World} {b o : Nat} {cur : Array Value} {T : TypeId} {v : Value} (h : W.heap[b]? = some (.cells cur T (0, 0))) (hv : cur[o]? = some v) : W.cell? ⟨b, o, none⟩ = some v := by
  rw [cell_of_row W b _ cur T (0, 0) h]
  simpa using hv
theorem wf_i64 {x : Int} (h1 : -9223372036854775808 ≤ x) (h2 : x ≤ 9223372036854775807) : (Lit.int .i64 x).wf = true := by
  rw [lit_wf]
  have hmm : IntKind.i64.min = -9223372036854775808 ∧ IntKind.i64.max = 9223372036854775807 := by decide
  omega
theorem lay_pre {qs : List GBoxQ} {l : List GBox} {k : Nat} (h : @List.length GBoxQ qs = @List.length GBox l) (hl : l.length ≤ 4) : List.length (outQ qs k) ≤ 1048576 := by
  have : List.length (outQ qs k) ≤ @List.length GBoxQ qs := by
    rw [List.length_append, List.length_take, List.length_drop]
    omega
  omega
theorem row_quo {X : List Nat} {W : World} {e : EB} {rs : List GBoxQ} (m : RepM X W [e] [.row tyBoxQ rs 0 0 none]) : RepC X W [] [] (.hs .no tyBoxQ rs) e.val := by
  obtain ⟨T6, c6, G6, r1, r2, r3⟩ : OList W (ORep W tyBoxQ) tyBoxQ.n rs e.val e.foot := m.row (i := 0) rfl rfl
  have h6 : G6 = [] := ORows.flat (t := tyBoxQ) rfl r2
  subst h6
  refine repC_quo (t := tyBox) ⟨T6, c6, [], r1, r2, by simp⟩ (fun b hb hm => m.xlt b hm ?_)
  have : foots [e] = e.val.ownBlock.toList := by simp [foots, r3]
  rw [this]
  exact hb
theorem QRows.at {W : World} {t : Ty} : ∀ (k : Nat) {xs : List t.den} {qs : List t.quo.den} {G : List Nat} {x : t.den} {q : t.quo.den}, QRows W t xs qs G → xs[k]? = some x → qs[k]? = some q →
    ∃ Ga Gd Gb, G = Ga ++ (Gd ++ Gb) ∧ QRel W t x q Gd ∧ QRows W t (xs.take k ++ xs.drop (k + 1)) (qs.take k ++ qs.drop (k + 1)) (Ga ++ Gb)
  | _, [], _, _, _, _, _, h, _ => by simp at h
  | _, _ :: _, [], _, _, _, h, _, _ => h.elim
  | 0, y :: ys, p :: ps, _, x, q, ⟨G1, G2, h1, h2, e⟩, hx, hq => by
    obtain rfl : y = x := by simpa using hx
    obtain rfl : p = q := by simpa using hq
    exact ⟨[], G1, G2, e, h1, by simpa using h2⟩
  | k + 1, y :: ys, p :: ps, _, x, q, ⟨G1, G2, h1, h2, e⟩, hx, hq => by
    obtain ⟨Ga, Gd, Gb, e2, h3, h4⟩ := QRows.at k h2 (by simpa using hx) (by simpa using hq)
    refine ⟨G1 ++ Ga, Gd, Gb, by rw [e, e2, List.append_assoc], h3, ⟨G1, Ga ++ Gb, h1, ?_, by rw [List.append_assoc]⟩⟩
    simpa using h4
theorem ren_end {X X7 : List Nat} {W W2 W7 : World} {e2 e7 : EB} {l : List GBox} {qs : List GBoxQ} {Ga Gd Gb : List Nat} {b : GBox} {qv : Value} {k : Nat}
    (m2 : RepM X W2 [e2] [.row tyBox l 0 0 none]) (g2 : Grow W [] W2 [e2]) (hF : e2.foot = e2.val.ownBlock.toList ++ (Ga ++ (Gd ++ Gb)))
    (ho : QRows W2 tyBox (outB l k) (outQ qs k) (Ga ++ Gb)) (hb : QRel W2 tyBox b (b.1, b.2.1, b.2.2.1, qv) Gd)
    (g7 : Grow W2 [] W7 [e7]) (m7 : RepM X7 W7 [e7] [.row tyBoxQ (layQ (outQ qs k) (b.1, b.2.1, b.2.2.1, qv)) 0 0 none]) (h7 : RepC X7 W7 [e7] [.row tyBoxQ (layQ (outQ qs k) (b.1, b.2.1, b.2.2.1, qv)) 0 0 none] (.row 0 0) e7.val) (hX : ∀ b ∈ X, b ∈ X7) :
    ∃ E2, Grow W [] W7 E2 ∧ RepM X W7 E2 [.row tyBox (layB (outB l k) b) 0 0 none] ∧ RepC X W7 E2 [.row tyBox (layB (outB l k) b) 0 0 none] (.row 0 0) e7.val := by
  have hfoot : foots [e2] = e2.val.ownBlock.toList ++ (Ga ++ (Gd ++ Gb)) := by simp [foots, hF]
  have hnd := m2.nodup
  rw [hfoot, List.nodup_append] at hnd
  have hp : posQ (outQ qs k) b.1 = posN (outB l k) b.1 := posQ_map (outQ qs k) (outB l k) b.1 (names_q ho)
  obtain ⟨G1, G2, eo, q1, q2⟩ := ho.split (posQ (outQ qs k) b.1)
  have hqq : QRows W2 tyBox (layB (outB l k) b) (layQ (outQ qs k) (b.1, b.2.1, b.2.2.1, qv)) (G1 ++ (Gd ++ G2)) := by
    rw [layB_pos, ← hp]
    exact q1.app ⟨Gd, G2, hb, q2, rfl⟩
  have hperm : (G1 ++ (Gd ++ G2)).Perm (Ga ++ (Gd ++ Gb)) := by
    have h1 : (G1 ++ (Gd ++ G2)).Perm (Gd ++ (G1 ++ G2)) := by
      rw [← List.append_assoc, ← List.append_assoc]
      exact List.Perm.append_right _ List.perm_append_comm
    have h2 : (Ga ++ (Gd ++ Gb)).Perm (Gd ++ (Ga ++ Gb)) := by
      rw [← List.append_assoc, ← List.append_assoc]
      exact List.Perm.append_right _ List.perm_append_comm
    rw [← eo] at h1
    exact h1.trans h2.symm
  obtain ⟨E2, x2, mm, cc⟩ := q_done (t := tyBox) (ts := []) (X2 := X7) m2 g7 m7 h7 hX hqq (hperm.nodup_iff.2 hnd.2.1) (fun b hb => by rw [hfoot]; exact List.mem_append_right _ (hperm.mem_iff.1 hb))
  have hge : ∀ b ∈ foots [e2], W.heap.size ≤ b := fun b hb => (g2.new b hb).resolve_left (by simp [foots])
  exact ⟨E2, ⟨x2.os.trans g2.os, x2.tape.trans g2.tape, x2.output.trans g2.output, Nat.le_trans g2.size x2.size,
    fun b hb hn => (x2.keep b (Nat.lt_of_lt_of_le hb g2.size) (fun hm => by have := hge b hm; omega)).trans (g2.keep b hb hn),
    fun b hb => .inr ((x2.new b hb).elim (hge b) (fun h => Nat.le_trans g2.size h)), fun i e he => by simp at he⟩, mm, cc⟩
set_option maxRecDepth 100000 in
set_option maxHeartbeats 4000000 in
theorem b_Applied_ren (l : List GBox) (m : GCommit) (hs : smallB l) (ha : appl l m = true) (h3 : m.1 = 3) : BCalls Tryz.prog 82 [.c (.hs .no tyBox l), .ag [.int .i64 m.1, .int .i64 m.2.1, .int .i64 m.2.2.1, .int .i64 m.2.2.2.1, .str m.2.2.2.2.1, .str m.2.2.2.2.2]] (.tp [.c (.row 0 0), .c (.bool (appl l m))]) [.row tyBox (apB l m) 0 0 none] := by
  intro X W vs hsz hgl hr
  obtain ⟨lv, r, rfl, hl, mv, r2, rfl, hm, hn⟩ := hr
  obtain rfl : r2 = [] := hn
  obtain ⟨cs, rfl, u1, s1, rfl, c1, u2, s2, rfl, c2, u3, s3, rfl, c3, u4, s4, rfl, c4, u5, s5, rfl, c5, u6, s6, rfl, c6, hs6⟩ := hm
  obtain rfl : s6 = [] := hs6
  obtain ⟨rfl, q1⟩ := c1
  obtain ⟨rfl, q2⟩ := c2
  obtain ⟨rfl, q3⟩ := c3
  obtain ⟨rfl, q4⟩ := c4
  obtain ⟨rfl, q5⟩ := c5
  obtain ⟨rfl, q6⟩ := c6
  show Calls _ _ #[lv, .agg #[.int .i64 m.1, .int .i64 m.2.1, .int .i64 m.2.2.1, .int .i64 m.2.2.2.1, .string m.2.2.2.2.1, .string m.2.2.2.2.2]] W _
  rw [h3]
  go_enter Tryz.func82, Tryz.ntmps82
  go_wp2_with fail
  obtain ⟨C, hC⟩ : ∃ C : Array Value, C = #[.int .i64 3, .int .i64 m.2.1, .int .i64 m.2.2.1, .int .i64 m.2.2.2.1, .string m.2.2.2.2.1, .string m.2.2.2.2.2] := ⟨_, rfl⟩
  rw [← hC]
  obtain ⟨W1, hW1⟩ : ∃ W1, W1 = W.alloc (.cells C 94 (0, 0)) := ⟨_, rfl⟩
  obtain ⟨b0, hb0⟩ : ∃ b0, b0 = W.heap.size := ⟨_, rfl⟩
  have g1 : Grow W [] W1 [] := by rw [hW1]; exact alloc_grow W _
  have k1 : W1.heap[b0]? = some (.cells C 94 (0, 0)) := by
    rw [hW1, hb0]
    show (W.heap.push _)[W.heap.size]? = _
    rw [Array.getElem?_push, if_pos rfl]
  have z1 : b0 < W1.heap.size := (Array.getElem?_eq_some_iff.1 k1).1
  rw [← hb0, ← hW1]
  refine (b_s_l9Copies l hs X W1 [lv] (fun b hb => Nat.lt_of_lt_of_le (hsz b hb) g1.size) (hgl.grow g1) ⟨_, _, rfl, hl.mono g1 (memNil _ _ _) rfl, rfl⟩).mono fun e W2 h => ?_
  obtain ⟨v2, E2, rfl, g2, m2, hv2⟩ := h
  obtain ⟨e2, rfl⟩ := one_env m2
  obtain rfl : v2 = e2.val := row_val (show RepC X W2 [e2] _ (.row 0 0) v2 from hv2) rfl rfl
  have hfit := fitsB_iff.1 (appl_facts ha).2.2.2.2
  have hw := boxW_lt l m.2.1
  obtain ⟨k, hk⟩ : ∃ k : Nat, boxW l m.2.1 = (k : Int) := ⟨(boxW l m.2.1).toNat, by omega⟩
  have hkl : k < l.length := by omega
  obtain ⟨qs, G, hF, hq, hR⟩ := olist_quo (t := tyBox) (show OList W2 (ORep W2 tyBox) tyBox.n l e2.val e2.foot from m2.row (i := 0) rfl rfl)
  obtain ⟨T, cells, Gz, w1, w2, w3⟩ := id hq
  have hlen : @List.length GBoxQ qs = @List.length GBox l := hR.len
  have w1 : W2.ownsRow 0 T 4 e2.val (@List.length GBoxQ qs) cells := w1
  rw [hlen] at w1
  have k2 : W2.heap[b0]? = some (.cells C 94 (0, 0)) := (g2.keep b0 z1 (by simp [foots])).trans k1
  have z2 : b0 < W2.heap.size := Nat.lt_of_lt_of_le z1 g2.size
  have l0 : W2.cell? ⟨b0, 0, none⟩ = some (.int .i64 3) := cellAt k2 (by rw [hC]; rfl)
  have l1 : W2.cell? ⟨b0, 1, none⟩ = some (.int .i64 m.2.1) := cellAt k2 (by rw [hC]; rfl)
  have l2 : W2.cell? ⟨b0, 2, none⟩ = some (.int .i64 m.2.2.1) := cellAt k2 (by rw [hC]; rfl)
  have l3 : W2.cell? ⟨b0, 3, none⟩ = some (.int .i64 m.2.2.2.1) := cellAt k2 (by rw [hC]; rfl)
  have l4 : W2.cell? ⟨b0, 4, none⟩ = some (.string m.2.2.2.2.1) := cellAt k2 (by rw [hC]; rfl)
  have l5 : W2.cell? ⟨b0, 5, none⟩ = some (.string m.2.2.2.2.2) := cellAt k2 (by rw [hC]; rfl)
  rcases w1.2 with ⟨_, j2⟩ | ⟨g, cap, cur, j1, j2, j3, j4, j5, j6, j7⟩
  · exact absurd j2 (show l.length ≠ 0 by omega)
  rw [j1]
  have hg2 : g < W2.heap.size := (Array.getElem?_eq_some_iff.1 j3).1
  have hxk : l[k]? = some (nth_Box l k) := nth_getElem? (t := tyBox) hkl
  have hqk : qs[k]? = some (nth_BoxQ qs k) := nth_getElem? (t := tyBoxQ) (show k < @List.length GBoxQ qs by omega)
  obtain ⟨Ga, Gd, Gb, eG, hqd, hqo⟩ := hR.at k hxk hqk
  obtain ⟨F1, F2, ⟨n1, rfl⟩, ⟨F3, F4, ⟨n2, rfl⟩, ⟨F5, F6, ⟨n3, rfl⟩, hms, rfl⟩, rfl⟩, rfl⟩ := id hqd
  obtain ⟨A, c, hA⟩ : ∃ A c, (nth_BoxQ qs k).2.2.2 = .slice A (nth_Box l k).2.2.2.length c := by
    obtain ⟨Tm, cm, Gm, r1, r2, r3⟩ := hms
    obtain ⟨A, c, r4, _⟩ := own_slice (t := tyMsg) r1
    exact ⟨A, c, r4⟩
  obtain ⟨c0, cx, cy, G0, G1, G2, y1, y2, y3, y4, y5, y6⟩ := w2.split (n := 4) (fun x cs F h => ORep.len tyBoxQ h) k hqk
  obtain ⟨ca, cb, Fa, Fb, ⟨rfl, -, rfl⟩, ⟨cc, cd, Fc, Fd, ⟨rfl, -, rfl⟩, ⟨ce, cf, Fe, Ff, ⟨rfl, -, rfl⟩, ⟨rfl, -, rfl⟩, rfl, rfl⟩, rfl, rfl⟩, rfl, rfl⟩ := y5
  have y3 : c0.length = k * 4 := y3
  have m1 : (nth_Box l k).1 = (nth_BoxQ qs k).1 := n1
  have m2' : (nth_Box l k).2.1 = (nth_BoxQ qs k).2.1 := n2
  have m3 : (nth_Box l k).2.2.1 = (nth_BoxQ qs k).2.2.1 := n3
  have hcur : ∀ q u, q < 4 → [Value.string (nth_Box l k).1, .int .i64 (nth_Box l k).2.1, .int .i64 (nth_Box l k).2.2.1, .slice A (nth_Box l k).2.2.2.length c][q]? = some u → W2.cell? ⟨g, k * 4 + q, none⟩ = some u := fun q u hq hu => by
    have h1 : (cur.toList.take (l.length * 4))[k * 4 + q]? = some u := by
      rw [m1, m2', m3, ← hA] at hu
      rw [show List.take (l.length * 4) cur.toList = cells from j7, y1, List.append_assoc, List.getElem?_append_right (by omega), y3, Nat.add_sub_cancel_left, List.getElem?_append_left (by show q < 4; exact hq)]
      exact hu
    rw [List.getElem?_take] at h1
    split at h1
    · exact cellAt j3 (by simpa using h1)
    · cases h1
  have H1 := Lib.hid hC
  have H2 := Lib.hid hW1
  have H3 := Lib.hid hb0
  have H4 := Lib.hid w1
  have H5 := Lib.hid w2
  have H6 := Lib.hid w3
  have H7 := Lib.hid k2
  have H8 := Lib.hid m2
  clear hC hW1 hb0 w1 w2 w3 k2 m2 hv2 k1
  have H9 := Lib.hid hcur
  have H10 := Lib.hid hqd
  have H13 := Lib.hid hqo
  have H14 := Lib.hid hq
  have H15 := Lib.hid hF
  have H16 := Lib.hid eG
  have H17 := Lib.hid hms
  have H18 := Lib.hid hA
  have H19 := Lib.hid j1
  have H20 := Lib.hid hlen
  have H21 := Lib.hid n1
  have H22 := Lib.hid n2
  have H23 := Lib.hid n3
  have H11 := Lib.hid j3
  have H12 := Lib.hid hfit
  clear hcur j3 hfit j2 j4 j5 j6 j7 y1 y3 y4 y6 hqd hqo hq hF eG hms hA hR n1 n2 n3 m1 m2' m3
  go_wp2_with fail
  have g3 := growNil (g1.trans g2)
  refine (b_s_Applies l m X W2 [lv, _] (fun b hb => Nat.lt_of_lt_of_le (hsz b hb) g3.size) (hgl.grow g3) ⟨_, _, rfl, hl.mono g3 (memNil _ _ _) rfl, _, _, rfl, ⟨_, rfl, _, _, rfl, ⟨by rw [h3], q1⟩, _, _, rfl, ⟨rfl, q2⟩, _, _, rfl, ⟨rfl, q3⟩, _, _, rfl, ⟨rfl, q4⟩, _, _, rfl, ⟨rfl, q5⟩, _, _, rfl, ⟨rfl, q6⟩, rfl⟩, rfl⟩).mono fun e W3 h => ?_
  obtain ⟨v3, E3, rfl, g4, m3, hv3⟩ := h
  obtain rfl := env_nil m3
  obtain rfl : v3 = .bool (appl l m) := hv3
  rw [ha]
  clear m3 l0 l1 l2 l3 l4 l5
  have k3 : W3.heap[b0]? = some (.cells C 94 (0, 0)) := (g4.keep b0 z2 (by simp [foots])).trans H7.out
  have z3 : b0 < W3.heap.size := Nat.lt_of_lt_of_le z2 g4.size
  have l1 : W3.cell? ⟨b0, 1, none⟩ = some (.int .i64 m.2.1) := cellAt k3 (by rw [H1.out]; rfl)
  have K3 := Lib.hid k3
  clear k3
  go_wp2_with fail
  have g5 := g3.trans g4
  refine (b_s_BoxWith l m.2.1 X W3 [lv, _] (fun b hb => Nat.lt_of_lt_of_le (hsz b hb) g5.size) (hgl.grow g5) ⟨_, _, rfl, hl.mono g5 (memNil _ _ _) rfl, _, _, rfl, ⟨rfl, q2⟩, rfl⟩).mono fun e W4 h => ?_
  obtain ⟨v4, E4, rfl, g6, m4, hv4⟩ := h
  obtain rfl := env_nil m4
  have hkw : (Lit.int .i64 (boxW l m.2.1)).wf = true := hv4.2
  obtain rfl : v4 = .int .i64 (boxW l m.2.1) := hv4.1
  rw [hk] at hkw
  rw [hk]
  clear m4 l1
  have k4 : W4.heap[b0]? = some (.cells C 94 (0, 0)) := (g6.keep b0 z3 (by simp [foots])).trans K3.out
  have z4 : b0 < W4.heap.size := Nat.lt_of_lt_of_le z3 g6.size
  have l0 : W4.cell? ⟨b0, 0, none⟩ = some (.int .i64 3) := cellAt k4 (by rw [H1.out]; rfl)
  have l4 : W4.cell? ⟨b0, 4, none⟩ = some (.string m.2.2.2.2.1) := cellAt k4 (by rw [H1.out]; rfl)
  have K4 := Lib.hid k4
  have g7 : Grow W2 [] W4 [] := g4.trans g6
  have n0 : W4.cell? ⟨g, k * 4, none⟩ = some (.string (nth_Box l k).1) := (cell?_congr (g7.keep g hg2 (by simp [foots]))).trans (H9.out 0 _ (by omega) rfl)
  have n1 : W4.cell? ⟨g, k * 4 + 1, none⟩ = some (.int .i64 (nth_Box l k).2.1) := (cell?_congr (g7.keep g hg2 (by simp [foots]))).trans (H9.out 1 _ (by omega) rfl)
  have n2 : W4.cell? ⟨g, k * 4 + 2, none⟩ = some (.int .i64 (nth_Box l k).2.2.1) := (cell?_congr (g7.keep g hg2 (by simp [foots]))).trans (H9.out 2 _ (by omega) rfl)
  have n3 : W4.cell? ⟨g, k * 4 + 3, none⟩ = some (.slice A (nth_Box l k).2.2.2.length c) := (cell?_congr (g7.keep g hg2 (by simp [foots]))).trans (H9.out 3 _ (by omega) rfl)
  have i0 : (0 : Int) ≤ (k : Int) := by omega
  have i1 : (k : Int) < (l.length : Int) := by omega
  clear k4
  go_wp2_with fail
  obtain ⟨D, hD⟩ : ∃ D : Array Value, D = #[.string m.2.2.2.2.1, .int .i64 (nth_Box l k).2.1, .int .i64 (nth_Box l k).2.2.1, .slice A (nth_Box l k).2.2.2.length c] := ⟨_, rfl⟩
  obtain ⟨bB, hbB⟩ : ∃ bB, bB = W4.heap.size := ⟨_, rfl⟩
  obtain ⟨W5, hW5⟩ : ∃ W5, W5 = W4.alloc (.cells D 86 (0, 0)) := ⟨_, rfl⟩
  have g8 : Grow W4 [] W5 [] := by rw [hW5]; exact alloc_grow W4 _
  have k5 : W5.heap[bB]? = some (.cells D 86 (0, 0)) := by
    rw [hW5, hbB]
    show (W4.heap.push _)[W4.heap.size]? = _
    rw [Array.getElem?_push, if_pos rfl]
  rw [← hD, ← hbB, ← hW5]
  have wfs : (Lit.int .i64 (nth_Box l k).2.1).wf = true ∧ (Lit.int .i64 (nth_Box l k).2.2.1).wf = true := by
    have := boxOk_iff.1 ((appl_facts ha).2.2.1 k hkl)
    exact ⟨wf_i64 (by omega) (by omega), wf_i64 (by omega) (by omega)⟩
  have mixed : Tryz.prog.follows .mixedOrders = true := by decide
  have gd : Grow W5 [] W5.drew [] := ⟨rfl, rfl, rfl, Nat.le_refl _, fun _ _ _ => rfl, fun b hb => by simp [foots] at hb, fun i e he => by simp at he⟩
  have g9 : Grow W2 [] W5.drew [] := (g7.trans g8).trans gd
  have g10 : Grow W [] W5.drew [] := g3.trans g9
  have hfoot : foots [e2] = e2.val.ownBlock.toList ++ G := by simp [foots, H15.out]
  have hnd := H8.out.nodup
  rw [hfoot, List.nodup_append] at hnd
  have hin : ∀ b ∈ G, b ∈ foots [e2] := fun b hb => by rw [hfoot]; exact List.mem_append_right _ hb
  have hX : ∀ b ∈ X ++ G, b < W5.drew.heap.size := fun b hb => (List.mem_append.1 hb).elim (fun h => Nat.lt_of_lt_of_le (hsz b h) g10.size) (fun h => Nat.lt_of_lt_of_le (H8.out.lt b (hin b h)) g9.size)
  have hc2 : RepC (X ++ G) W2 [] [] (.hs .no tyBoxQ qs) e2.val := repC_quo (t := tyBox) H14.out (fun b hb hm => by
    rcases List.mem_append.1 hm with hm | hm
    · exact H8.out.xlt b hm (by rw [hfoot]; exact List.mem_append_left _ hb)
    · exact hnd.2.2 b hb b hm rfl)
  have hc5 : RepC (X ++ G) W5.drew [] [] (.hs .no tyBoxQ qs) (.slice (some ⟨g, 0, none⟩) l.length cap) := by
    rw [← H19.out]
    exact RepC.mono g9 (memNil _ _ _) rfl hc2
  have hl4 := (appl_facts ha).2.1
  have hpre : preW qs (k : Int) := ⟨i0, by rw [H20.out]; exact i1, by rw [H20.out]; omega⟩
  have zB : bB < W5.drew.heap.size := (Array.getElem?_eq_some_iff.1 k5).1
  have p0 : W5.drew.cell? ⟨bB, 0, none⟩ = some (.string m.2.2.2.2.1) := cellAt (W := W5.drew) k5 (by rw [hD]; rfl)
  have p1 : W5.drew.cell? ⟨bB, 1, none⟩ = some (.int .i64 (nth_Box l k).2.1) := cellAt (W := W5.drew) k5 (by rw [hD]; rfl)
  have p2 : W5.drew.cell? ⟨bB, 2, none⟩ = some (.int .i64 (nth_Box l k).2.2.1) := cellAt (W := W5.drew) k5 (by rw [hD]; rfl)
  have p3 : W5.drew.cell? ⟨bB, 3, none⟩ = some (.slice A (nth_Box l k).2.2.2.length c) := cellAt (W := W5.drew) k5 (by rw [hD]; rfl)
  have P1 := Lib.hid k5
  have P2 := Lib.hid hD
  have P3 := Lib.hid hc5
  have P4 := Lib.hid hX
  have P5 := Lib.hid hnd
  clear hD hbB hW5 k5 hc2 hc5 hX hnd n0 n1 n2 n3 l0 l4
  go_region_with (first
    | (go_at_call 94
       refine (b_l10WithoutQ qs (k : Int) hpre (X ++ G) W5.drew [.slice (some ⟨g, 0, none⟩) l.length cap, .int .i64 (k : Int)] P4.out (hgl.grow g10) ⟨_, _, rfl, P3.out, _, _, rfl, ⟨rfl, hkw⟩, rfl⟩).mono ?_
       rintro e W6 ⟨v6, E6, rfl, g11, m6, hv6⟩
       obtain ⟨e6, rfl⟩ := one_env m6
       obtain rfl : v6 = e6.val := row_val (show RepC (X ++ G) W6 [e6] _ (.row 0 0) v6 from hv6) rfl rfl
       have P6 := Lib.hid m6
       have P7 := Lib.hid hv6
       have k6 := (g11.keep bB zB (by simp [foots])).trans P1.out
       have t0 : W6.cell? ⟨bB, 0, none⟩ = some (.string m.2.2.2.2.1) := cellAt k6 (by rw [P2.out]; rfl)
       have t1 : W6.cell? ⟨bB, 1, none⟩ = some (.int .i64 (nth_Box l k).2.1) := cellAt k6 (by rw [P2.out]; rfl)
       have t2 : W6.cell? ⟨bB, 2, none⟩ = some (.int .i64 (nth_Box l k).2.2.1) := cellAt k6 (by rw [P2.out]; rfl)
       have t3 : W6.cell? ⟨bB, 3, none⟩ = some (.slice A (nth_Box l k).2.2.2.length c) := cellAt k6 (by rw [P2.out]; rfl)
       clear m6 hv6 k6
       skip)
    | (go_at_call 93
       refine (b_l10LayQ (outQ qs k) (m.2.2.2.2.1, (nth_Box l k).2.1, (nth_Box l k).2.2.1, .slice A (nth_Box l k).2.2.2.length c) (lay_pre H20.out hl4) (X ++ G) W6 [e6.val, .agg #[.string m.2.2.2.2.1, .int .i64 (nth_Box l k).2.1, .int .i64 (nth_Box l k).2.2.1, .slice A (nth_Box l k).2.2.2.length c]] P6.out.xsz ((hgl.grow g10).grow g11).nil ⟨_, _, rfl, row_quo P6.out, _, _, rfl, ⟨_, rfl, _, _, rfl, ⟨rfl, q5⟩, _, _, rfl, ⟨rfl, wfs.1⟩, _, _, rfl, ⟨rfl, wfs.2⟩, _, _, rfl, ⟨rfl, rfl⟩, rfl⟩, rfl⟩).mono ?_
       rintro e W7 ⟨v7, E7, rfl, g12, m7, hv7⟩
       obtain ⟨e7, rfl⟩ := one_env m7
       obtain rfl : v7 = e7.val := row_val (show RepC (X ++ G) W7 [e7] _ (.row 0 0) v7 from hv7) rfl rfl
       have P8 := Lib.hid m7
       have P9 := Lib.hid hv7
       clear m7 hv7))
  all_goals
    go_wp2
    go_ret2
    have gW2 : Grow W [] W2 [e2] := g1.trans g2
    obtain ⟨F1', F2', a1, ⟨F3', F4', a2, ⟨F5', F6', a3, hms', e3'⟩, e2'⟩, e1'⟩ := H10.out
    rw [H18.out] at hms'
    have hbq := (show QRel W2 tyBox (m.2.2.2.2.1, (nth_Box l k).2.1, (nth_Box l k).2.2.1, (nth_Box l k).2.2.2) (m.2.2.2.2.1, (nth_Box l k).2.1, (nth_Box l k).2.2.1, .slice A (nth_Box l k).2.2.2.length c) _ from ⟨F1', F2', ⟨rfl, a1.2⟩, ⟨F3', F4', ⟨rfl, a2.2⟩, ⟨F5', F6', ⟨rfl, a3.2⟩, hms', e3'⟩, e2'⟩, e1'⟩)
    obtain ⟨E2, x1, x2, x3⟩ := ren_end (b := (m.2.2.2.2.1, (nth_Box l k).2.1, (nth_Box l k).2.2.1, (nth_Box l k).2.2.2)) H8.out gW2 (by rw [H15.out, H16.out]) H13.out hbq ((g9.trans (growNil g11)).trans g12) P8.out P9.out (fun b hb => List.mem_append_left _ hb)
    have hap : apB l m = layB (outB l k) (m.2.2.2.2.1, (nth_Box l k).2.1, (nth_Box l k).2.2.1, (nth_Box l k).2.2.2) := by
      unfold apB perfB
      rw [ha, if_neg (by omega), if_neg (by omega), if_pos h3]
      simp only [bxK, bxB, hk, Int.toNat_natCast, cond_true]
    rw [hap]
    exact ⟨_, E2, rfl, x1, x2, ⟨_, rfl, _, _, rfl, x3, _, _, rfl, (show Value.bool true = Value.bool (appl l m) by rw [ha]), rfl⟩⟩
def preP (l : List GBox) (m : GCommit) : Prop := smallB l
theorem b_s_Applied (l : List GBox) (m : GCommit) (hpre : preP l m) : BCalls Tryz.prog 82 [.c (.hs .no tyBox l), .ag [.int .i64 m.1, .int .i64 m.2.1, .int .i64 m.2.2.1, .int .i64 m.2.2.2.1, .str m.2.2.2.2.1, .str m.2.2.2.2.2]] (.tp [.c (.row 0 0), .c (.bool (appl l m))]) [.row tyBox (apB l m) 0 0 none] := by
  by_cases h : appl l m = true ∧ m.1 = 3
  · exact b_Applied_ren l m hpre h.1 h.2
  · exact b_Applied_no l m ⟨hpre, h⟩
def e_s_Applied : Entry Tryz.prog := ⟨82, [.v (.list tyBox), .s tyCommit], fun x => preP x.1 x.2.1, fun x => .tp [.c (.row 0 0), .c (.bool (appl x.1 x.2.1))], fun x => [.row tyBox (apB x.1 x.2.1) 0 0 none], fun x hx => b_s_Applied x.1 x.2.1 hx, Tryz.call82⟩
end Go.Proofs.YtoigkpkafgjeaaaGreatDoor
