/-
  Several texts in one.
-/
import Derived.Test.YtigebfhekmjhmaaGreatXBlAll
import Derived.Laws.ResultCell
set_option linter.unusedSimpArgs false
set_option linter.unusedVariables false
namespace Go.Proofs.YtigebfhekmjhmaaGreat
open Go.Lib Go.ChangeShapes Go.WideShapes Go.ChangeAt Go.RowKit Go.Joins Go.Deep
open GoRep (rep bulk)
def bxAt (st : GStore) (v n : Int) : GBox × Bool := if boxW (boxesAt st n) v < 0 then (z_Box, false) else (nth_Box (boxesAt st n) (Int.toNat (boxW (boxesAt st n) v)), true)
theorem hs_slice {X : List Nat} {W : World} {t : Ty} {xs : List t.den} {v : Value} (h : RepC X W [] [] (.hs .no t xs) v) : ∃ A n c, v = .slice A n c := by
  obtain ⟨_, F, ⟨A, c, e1, _⟩, _⟩ := h
  exact ⟨A, _, c, by simpa using e1⟩
/-- what is our own, seen as foreign -/
theorem repC_own {X : List Nat} {W : World} {t : Ty} {xs : List t.den} {v : Value} {F : List Nat} (h : OList W (ORep W t) t.n xs v F) (hx : ∀ b ∈ F, b ∉ X) : RepC X W [] [] (.hs .no t xs) v := by
  obtain ⟨F', ⟨A, c, e1, hs⟩, hF⟩ := ORep.rep (.list t) (x := xs) (cs := [v]) (F := F) ⟨v, rfl, h⟩
  have hlt := ORep.lt (.list t) (x := xs) (cs := [v]) (F := F) ⟨v, rfl, h⟩
  have e2 : v = .slice A xs.length c := by simpa using e1
  exact ⟨by rw [e2]; rfl, F', ⟨A, c, by rw [e2], hs⟩, fun b hb => ⟨⟨by simp [foots], hx b (hF b hb)⟩, hlt b (hF b hb)⟩⟩
theorem setc_heap {W : World} {b o : Nat} {v : Value} {q : Nat} (h : q ≠ b) : (W.setCell ⟨b, o, none⟩ v).heap[q]? = W.heap[q]? := by
  unfold World.setCell
  show (W.heap.modify b _)[q]? = _
  rw [Array.getElem?_modify, if_neg (fun e => h e.symm)]
theorem setc_grow {W W' : World} {b o : Nat} {v : Value} (g : Grow W [] W' []) (hb : W.heap.size ≤ b) : Grow W [] (W'.setCell ⟨b, o, none⟩ v) [] :=
  ⟨g.os, g.tape, g.output, by show _ ≤ (W'.heap.modify b _).size; rw [Array.size_modify]; exact g.size, fun q hq hn => (setc_heap (by omega)).trans (g.keep q hq hn), fun q hq => by simp [foots] at hq, fun i e he => by simp at he⟩
theorem box_world {W W4 : World} {b1 : Nat} {T : TypeId} {z0 z1 z2 z3 x0 x1 x2 x3 : Value} (k : W4.heap[b1]? = some (.cells #[z0, z1, z2, z3] T (0, 0))) (g : Grow W [] W4 []) (hb : W.heap.size ≤ b1) :
    ((((W4.setCell ⟨b1, 0, none⟩ x0).setCell ⟨b1, 1, none⟩ x1).setCell ⟨b1, 2, none⟩ x2).setCell ⟨b1, 3, none⟩ x3).heap[b1]? = some (.cells #[x0, x1, x2, x3] T (0, 0)) ∧
    Grow W [] ((((W4.setCell ⟨b1, 0, none⟩ x0).setCell ⟨b1, 1, none⟩ x1).setCell ⟨b1, 2, none⟩ x2).setCell ⟨b1, 3, none⟩ x3) [] ∧
    ∀ q, q ≠ b1 → ((((W4.setCell ⟨b1, 0, none⟩ x0).setCell ⟨b1, 1, none⟩ x1).setCell ⟨b1, 2, none⟩ x2).setCell ⟨b1, 3, none⟩ x3).heap[q]? = W4.heap[q]? := by
  refine ⟨?_, setc_grow (setc_grow (setc_grow (setc_grow g hb) hb) hb) hb, fun q hq => (setc_heap hq).trans ((setc_heap hq).trans ((setc_heap hq).trans (setc_heap hq)))⟩
  have k0 := setRow_heap W4 b1 _ #[x0, z1, z2, z3] T _ k
  have e0 : W4.setCell ⟨b1, 0, none⟩ x0 = W4.setRow b1 #[x0, z1, z2, z3] := setCell_eq_setRow W4 b1 0 _ T _ x0 k
  rw [← e0] at k0
  have k1 := setRow_heap _ b1 _ #[x0, x1, z2, z3] T _ k0
  have e1 : (W4.setCell ⟨b1, 0, none⟩ x0).setCell ⟨b1, 1, none⟩ x1 = (W4.setCell ⟨b1, 0, none⟩ x0).setRow b1 #[x0, x1, z2, z3] := setCell_eq_setRow _ b1 1 _ T _ x1 k0
  rw [← e1] at k1
  have k2 := setRow_heap _ b1 _ #[x0, x1, x2, z3] T _ k1
  have e2 : ((W4.setCell ⟨b1, 0, none⟩ x0).setCell ⟨b1, 1, none⟩ x1).setCell ⟨b1, 2, none⟩ x2 = ((W4.setCell ⟨b1, 0, none⟩ x0).setCell ⟨b1, 1, none⟩ x1).setRow b1 #[x0, x1, x2, z3] := setCell_eq_setRow _ b1 2 _ T _ x2 k1
  rw [← e2] at k2
  have k3 := setRow_heap _ b1 _ #[x0, x1, x2, x3] T _ k2
  have e3 : (((W4.setCell ⟨b1, 0, none⟩ x0).setCell ⟨b1, 1, none⟩ x1).setCell ⟨b1, 2, none⟩ x2).setCell ⟨b1, 3, none⟩ x3 = (((W4.setCell ⟨b1, 0, none⟩ x0).setCell ⟨b1, 1, none⟩ x1).setCell ⟨b1, 2, none⟩ x2).setRow b1 #[x0, x1, x2, x3] := setCell_eq_setRow _ b1 3 _ T _ x3 k2
  rw [← e3] at k3
  exact k3
theorem box_fin {X : List Nat} {W Wf : World} {ms : List GMsg} {sv : Value} {F : List Nat} (g : Grow W [] Wf []) (ho : OList Wf (ORep Wf tyMsg) tyMsg.n ms sv F) (hnd : F.Nodup) (hge : ∀ b ∈ F, W.heap.size ≤ b) (hX : ∀ b ∈ X, b < W.heap.size) :
    ∃ E', Grow W [] Wf E' ∧ RepM X Wf E' [.row tyMsg ms 0 0 none] ∧ RepC X Wf E' [.row tyMsg ms 0 0 none] (.row 0 0) sv := by
  have hf : foots [⟨0, sv, F⟩] = F := by simp [foots]
  refine ⟨[⟨0, sv, F⟩], ⟨g.os, g.tape, g.output, g.size, g.keep, fun b hb => .inr (hge b (by rwa [hf] at hb)), fun i e he => by simp at he⟩, ⟨rfl, by rw [hf]; exact hnd, fun i b e hb he => ?_, fun b hb => ?_, fun b hb hm => ?_, fun b hb => Nat.lt_of_lt_of_le (hX b hb) g.size⟩, ?_⟩
  · match i, hb, he with
    | 0, hb, he =>
      obtain rfl := Option.some.inj hb
      obtain rfl := Option.some.inj he
      exact ho
    | k + 1, hb, _ => cases hb
  · rw [hf] at hb
    exact ORep.lt (.list tyMsg) (x := ms) (cs := [sv]) (F := F) ⟨sv, rfl, ho⟩ b hb
  · rw [hf] at hm
    have := hX b hb
    have := hge b hm
    omega
  · obtain ⟨T, cells, G, h0, _⟩ := ho
    refine ⟨ownsRow_one h0, ?_⟩
    unfold atRow
    exact ⟨Nat.le_refl _, fun _ => ⟨_, rfl, rfl⟩⟩
set_option maxRecDepth 100000 in
set_option maxHeartbeats 4000000 in
theorem b_i_BoxAt (st : GStore) (v n : Int) : BCalls Tryz.prog 54 [.ag [.hs .no tyBox st.1, .hs .no tyCommit st.2.1, .int .i64 st.2.2], .c (.int .i64 v), .c (.int .i64 n)] (.tp [.ag [.str (bxAt st v n).1.1, .int .i64 (bxAt st v n).1.2.1, .int .i64 (bxAt st v n).1.2.2.1, .row 0 0], .c (.bool (bxAt st v n).2)]) [.row tyMsg (bxAt st v n).1.2.2.2 0 0 none] := by
  intro X W vs hsz hgl hr
  obtain ⟨sv, r, rfl, hst, vv, r2, rfl, hv, nv, r3, rfl, hn, h0⟩ := hr
  obtain rfl : r3 = [] := h0
  obtain ⟨cs, rfl, u1, s1, rfl, c1, u2, s2, rfl, c2, u3, s3, rfl, c3, hs3⟩ := hst
  obtain rfl : s3 = [] := hs3
  obtain ⟨rfl, q3⟩ := c3
  obtain ⟨rfl, qv⟩ := hv
  obtain ⟨rfl, qn⟩ := hn
  obtain ⟨A1, n1, a1, hu1⟩ := hs_slice c1
  obtain ⟨A2, n2, a2, hu2⟩ := hs_slice c2
  have C1 := Lib.hid c1
  have C2 := Lib.hid c2
  clear c1 c2
  subst hu1
  subst hu2
  go_enter Tryz.func54, Tryz.ntmps54
  go_wp2_with fail
  obtain ⟨b1, hb1⟩ : ∃ b1, b1 = W.heap.size + 1 := ⟨_, rfl⟩
  obtain ⟨W1, hW1⟩ : ∃ W1, W1 = W.alloc (.cells #[.slice A1 n1 a1, .slice A2 n2 a2, .int .i64 st.2.2] 31 (0, 0)) := ⟨_, rfl⟩
  obtain ⟨Z, hZ⟩ : ∃ Z : Array Value, Z = #[.string ⟨#[]⟩, .int .i64 0, .int .i64 0, .slice none 0 0] := ⟨_, rfl⟩
  obtain ⟨W2, hW2⟩ : ∃ W2, W2 = W1.alloc (.cells Z 102 (0, 0)) := ⟨_, rfl⟩
  have g2 : Grow W [] W2 [] := by
    rw [hW2]
    refine Grow.trans ?_ (alloc_grow W1 _)
    rw [hW1]
    exact alloc_grow W _
  have k2 : W2.heap[b1]? = some (.cells Z 102 (0, 0)) := by
    have h1 : W1.heap.size = b1 := by rw [hW1, hb1]; show (W.heap.push _).size = _; rw [Array.size_push]
    rw [hW2, ← h1]
    show (W1.heap.push _)[W1.heap.size]? = _
    rw [Array.getElem?_push, if_pos rfl]
  have z2 : b1 < W2.heap.size := (Array.getElem?_eq_some_iff.1 k2).1
  have zb : W.heap.size ≤ b1 := by omega
  rw [← hb1, ← hW1, ← hZ, ← hW2]
  obtain ⟨L, hL⟩ : ∃ L, L = boxesAt st n := ⟨_, rfl⟩
  have K2 := Lib.hid k2
  have KZ := Lib.hid hZ
  clear hb1 hW1 hW2 hZ k2
  refine (b_i_BoxesAt st n X W2 [.agg #[.slice A1 n1 a1, .slice A2 n2 a2, .int .i64 st.2.2], .int .i64 n] (fun b hb => Nat.lt_of_lt_of_le (hsz b hb) g2.size) (hgl.grow g2) ⟨_, _, rfl, ⟨_, rfl, _, _, rfl, RepC.mono g2 (memNil _ _ _) rfl C1.out, _, _, rfl, RepC.mono g2 (memNil _ _ _) rfl C2.out, _, _, rfl, ⟨rfl, q3⟩, rfl⟩, _, _, rfl, ⟨rfl, qn⟩, rfl⟩).mono fun e W3 h => ?_
  obtain ⟨w3, E3, rfl, g3, m3, hv3⟩ := h
  obtain ⟨e3, rfl⟩ := one_env m3
  obtain rfl : w3 = e3.val := row_val (show RepC X W3 [e3] _ (.row 0 0) w3 from hv3) rfl rfl
  have KL := Lib.hid hL
  rw [← hL] at m3
  have ho3 : OList W3 (ORep W3 tyBox) tyBox.n L e3.val e3.foot := m3.row (i := 0) rfl rfl
  obtain ⟨T, cells, G, w1, w2, w3⟩ := id ho3
  obtain ⟨A3, c3, j1, j2, j3, j4⟩ := own_slice (t := tyBox) w1
  have j1 : e3.val = .slice A3 (@List.length GBox L) c3 := j1
  rw [j1]
  have hc3 : RepC X W3 [] [] (.hs .no tyBox L) (.slice A3 (@List.length GBox L) c3) := by
    rw [← j1]
    exact repC_own ho3 (fun b hb hm => m3.xlt b hm (by simp [foots, hb]))
  have g4 := growNil (g2.trans g3)
  have H1 := Lib.hid m3
  have H2 := Lib.hid ho3
  have H3 := Lib.hid w1
  have H4 := Lib.hid w2
  have H5 := Lib.hid w3
  have H6 := Lib.hid j1
  have H7 := Lib.hid j4
  have H8 := Lib.hid hc3
  clear hL m3 ho3 w1 w2 w3 j1 j4 hc3 hv3 j2 j3
  go_wp2_with fail
  refine (b_i_BoxWith L v X W3 [_, _] (fun b hb => Nat.lt_of_lt_of_le (hsz b hb) g4.size) (hgl.grow g4) ⟨_, _, rfl, H8.out, _, _, rfl, ⟨rfl, qv⟩, rfl⟩).mono fun e W4 h => ?_
  obtain ⟨w4, E4, rfl, g5, m4, hv4⟩ := h
  obtain rfl := env_nil m4
  have hwf : (Lit.int .i64 (boxW L v)).wf = true := hv4.2
  obtain rfl : w4 = .int .i64 (boxW L v) := hv4.1
  have g6 := g4.trans g5
  have k4 : W4.heap[b1]? = some (.cells Z 102 (0, 0)) := (g5.keep b1 (Nat.lt_of_lt_of_le z2 g3.size) (by simp [foots])).trans ((g3.keep b1 z2 (by simp [foots])).trans K2.out)
  have l0 : W4.cell? ⟨b1, 0, none⟩ = some (.string ⟨#[]⟩) := cellAt k4 (by rw [KZ.out]; rfl)
  have l1 : W4.cell? ⟨b1, 1, none⟩ = some (.int .i64 0) := cellAt k4 (by rw [KZ.out]; rfl)
  have l2 : W4.cell? ⟨b1, 2, none⟩ = some (.int .i64 0) := cellAt k4 (by rw [KZ.out]; rfl)
  have l3 : W4.cell? ⟨b1, 3, none⟩ = some (.slice none 0 0) := cellAt k4 (by rw [KZ.out]; rfl)
  have fz : ∀ o, W4.frozen? ⟨b1, o, none⟩ = false := fun o => by simp [World.frozen?, k4]
  clear m4
  have K4 := Lib.hid k4
  clear k4
  by_cases hneg : boxW L v < 0
  · go_wp2_with fail
    obtain ⟨kf, gf, _⟩ := box_world (x0 := .string ⟨#[]⟩) (x1 := .int .i64 0) (x2 := .int .i64 0) (x3 := .slice none 0 0) (by have := K4.out; rw [KZ.out] at this; exact this) g6 zb
    obtain ⟨Wf, hWf⟩ : ∃ Wf, Wf = ((((W4.setCell ⟨b1, 0, none⟩ (.string ⟨#[]⟩)).setCell ⟨b1, 1, none⟩ (.int .i64 0)).setCell ⟨b1, 2, none⟩ (.int .i64 0)).setCell ⟨b1, 3, none⟩ (.slice none 0 0)) := ⟨_, rfl⟩
    rw [← hWf] at kf gf ⊢
    clear hWf l0 l1 l2 l3
    have l0 : Wf.cell? ⟨b1, 0, none⟩ = some (.string ⟨#[]⟩) := cellAt kf rfl
    have l1 : Wf.cell? ⟨b1, 1, none⟩ = some (.int .i64 0) := cellAt kf rfl
    have l2 : Wf.cell? ⟨b1, 2, none⟩ = some (.int .i64 0) := cellAt kf rfl
    have l3 : Wf.cell? ⟨b1, 3, none⟩ = some (.slice none 0 0) := cellAt kf rfl
    have hbx : bxAt st v n = (z_Box, false) := by
      unfold bxAt
      rw [← KL.out, if_pos hneg]
    rw [hbx]
    obtain ⟨E', x1, x2, x3⟩ := box_fin (X := X) (ms := []) (sv := .slice none 0 0) (F := []) gf ⟨0, [], [], World.ownsRow_nil _ 0 0 _, ⟨rfl, rfl⟩, rfl⟩ List.nodup_nil (fun b hb => by cases hb) hsz
    refine bodyPost_ret (v := .tuple #[.agg #[.string ⟨#[]⟩, .int .i64 0, .int .i64 0, .slice none 0 0], .bool false]) ?_ rfl ⟨_, E', rfl, x1, x2, ⟨_, rfl, _, _, rfl, ⟨_, rfl, _, _, rfl, ⟨rfl, Nat.zero_le _⟩, _, _, rfl, ⟨rfl, rfl⟩, _, _, rfl, ⟨rfl, rfl⟩, _, _, rfl, x3, rfl⟩, _, _, rfl, rfl, rfl⟩⟩
    rw [results_cell_tmp rfl]
    go_simp
  · have hw := boxW_lt L v
    obtain ⟨k, hk⟩ : ∃ k : Nat, boxW L v = (k : Int) := ⟨(boxW L v).toNat, by omega⟩
    have hkl : k < @List.length GBox L := by omega
    rcases H3.out.2 with ⟨_, y2⟩ | ⟨g, cap, cur, y1, y2, y3, y4, y5, y6, y7⟩
    · exact absurd y2 (show @List.length GBox L ≠ 0 by omega)
    obtain ⟨rfl, rfl⟩ : A3 = some ⟨g, 0, none⟩ ∧ c3 = cap := by
      have h := H6.out
      rw [y1] at h
      injection h with e1 e2 e3
      exact ⟨e1.symm, e3.symm⟩
    have hg3 : g < W3.heap.size := (Array.getElem?_eq_some_iff.1 y3).1
    have hxk : L[k]? = some (nth_Box L k) := nth_getElem? (t := tyBox) hkl
    obtain ⟨c0, cx, cy, G0, G1, G2, t1, t2, t3, t4, t5, t6⟩ := H4.out.split (n := tyBox.n) (fun x cs F h => ORep.len tyBox h) k hxk
    obtain ⟨ca, cb, Fa, Fb, ⟨rfl, wa, rfl⟩, ⟨cc, cd, Fc, Fd, ⟨rfl, wb, rfl⟩, ⟨ce, cf, Fe, Ff, ⟨rfl, wc, rfl⟩, ⟨sv, rfl, hsv⟩, rfl, rfl⟩, rfl, rfl⟩, rfl, rfl⟩ := t5
    have t3 : c0.length = k * 4 := t3
    have hcur : ∀ q u, q < 4 → [Value.string (nth_Box L k).1, .int .i64 (nth_Box L k).2.1, .int .i64 (nth_Box L k).2.2.1, sv][q]? = some u → W3.cell? ⟨g, k * 4 + q, none⟩ = some u := fun q u hq hu => by
      have h1 : (cur.toList.take (@List.length GBox L * 4))[k * 4 + q]? = some u := by
        rw [show List.take (@List.length GBox L * 4) cur.toList = cells from y7, t1, List.append_assoc, List.getElem?_append_right (by omega), t3, Nat.add_sub_cancel_left, List.getElem?_append_left (by show q < 4; exact hq)]
        exact hu
      rw [List.getElem?_take] at h1
      split at h1
      · exact cellAt y3 (by simpa using h1)
      · cases h1
    obtain ⟨As, ns, cs', hse⟩ : ∃ A n c, sv = .slice A n c := by
      obtain ⟨Tm, cm, Gm, r1, r2, r3⟩ := id hsv
      obtain ⟨A, c, r4, _⟩ := own_slice (t := tyMsg) r1
      exact ⟨A, _, c, r4⟩
    subst hse
    have n0 : W4.cell? ⟨g, k * 4, none⟩ = some (.string (nth_Box L k).1) := (cell?_congr (g5.keep g hg3 (by simp [foots]))).trans (hcur 0 _ (by omega) rfl)
    have n1 : W4.cell? ⟨g, k * 4 + 1, none⟩ = some (.int .i64 (nth_Box L k).2.1) := (cell?_congr (g5.keep g hg3 (by simp [foots]))).trans (hcur 1 _ (by omega) rfl)
    have n2 : W4.cell? ⟨g, k * 4 + 2, none⟩ = some (.int .i64 (nth_Box L k).2.2.1) := (cell?_congr (g5.keep g hg3 (by simp [foots]))).trans (hcur 2 _ (by omega) rfl)
    have n3 : W4.cell? ⟨g, k * 4 + 3, none⟩ = some (.slice As ns cs') := (cell?_congr (g5.keep g hg3 (by simp [foots]))).trans (hcur 3 _ (by omega) rfl)
    have i0 : (0 : Int) ≤ (k : Int) := by omega
    have i1 : (k : Int) < (@List.length GBox L : Int) := by omega
    have hfoot : foots [e3] = e3.val.ownBlock.toList ++ (G0 ++ G1 ++ G2) := by simp [foots, H5.out, t2]
    have hin : ∀ b ∈ G1, b ∈ foots [e3] := fun b hb => by rw [hfoot]; simp [hb]
    have hnf : G1.Nodup := by
      have := H1.out.nodup
      rw [hfoot, List.nodup_append] at this
      have := this.2.1
      rw [List.nodup_append] at this
      have := this.1
      rw [List.nodup_append] at this
      simpa using this.2.1
    have hge2 : ∀ b ∈ G1, W2.heap.size ≤ b := fun b hb => (g3.new b (hin b hb)).resolve_left (by simp [foots])
    have hlt3 : ∀ b ∈ G1, b < W3.heap.size := fun b hb => H1.out.lt b (hin b hb)
    have hneg2 : ¬ ((k : Int) < 0) := by omega
    have M1 := Lib.hid hk
    have M2 := Lib.hid hsv
    have M3 := Lib.hid hneg
    have M4 := Lib.hid hge2
    have M5 := Lib.hid hlt3
    rw [hk]
    clear hcur y1 y2 y3 y4 y5 y6 y7 t1 t2 t3 t4 t6 hfoot hin hk hsv hneg hge2 hlt3 hw
    go_wp2_with fail
    obtain ⟨kf, gf, hq⟩ := box_world (x0 := .string (nth_Box L k).1) (x1 := .int .i64 (nth_Box L k).2.1) (x2 := .int .i64 (nth_Box L k).2.2.1) (x3 := .slice As ns cs') (by have := K4.out; rw [KZ.out] at this; exact this) g6 zb
    obtain ⟨Wf, hWf⟩ : ∃ Wf, Wf = ((((W4.setCell ⟨b1, 0, none⟩ (.string (nth_Box L k).1)).setCell ⟨b1, 1, none⟩ (.int .i64 (nth_Box L k).2.1)).setCell ⟨b1, 2, none⟩ (.int .i64 (nth_Box L k).2.2.1)).setCell ⟨b1, 3, none⟩ (.slice As ns cs')) := ⟨_, rfl⟩
    rw [← hWf] at kf gf hq ⊢
    clear hWf l0 l1 l2 l3
    have l0 : Wf.cell? ⟨b1, 0, none⟩ = some (.string (nth_Box L k).1) := cellAt kf rfl
    have l1 : Wf.cell? ⟨b1, 1, none⟩ = some (.int .i64 (nth_Box L k).2.1) := cellAt kf rfl
    have l2 : Wf.cell? ⟨b1, 2, none⟩ = some (.int .i64 (nth_Box L k).2.2.1) := cellAt kf rfl
    have l3 : Wf.cell? ⟨b1, 3, none⟩ = some (.slice As ns cs') := cellAt kf rfl
    have hbx : bxAt st v n = (nth_Box L k, true) := by
      unfold bxAt
      rw [← KL.out, if_neg (Int.not_lt.2 M3.out), M1.out, Int.toNat_natCast]
    rw [hbx]
    have hof : OList Wf (ORep Wf tyMsg) tyMsg.n (nth_Box L k).2.2.2 (.slice As ns cs') G1 := by
      obtain ⟨v0, hv0, ho0⟩ := ORep.keep (W' := Wf) (.list tyMsg) (x := (nth_Box L k).2.2.2) (cs := [.slice As ns cs']) (F := G1) ⟨_, rfl, M2.out⟩ (fun b hb => (hq b (fun e => by have := M4.out b hb; omega)).trans (g5.keep b (M5.out b hb) (by simp [foots])))
      obtain rfl : _ = v0 := List.head_eq_of_cons_eq hv0
      exact ho0
    obtain ⟨E', x1, x2, x3⟩ := box_fin (X := X) (ms := (nth_Box L k).2.2.2) (sv := .slice As ns cs') (F := G1) gf hof hnf (fun b hb => Nat.le_trans g2.size (M4.out b hb)) hsz
    refine bodyPost_ret (v := .tuple #[.agg #[.string (nth_Box L k).1, .int .i64 (nth_Box L k).2.1, .int .i64 (nth_Box L k).2.2.1, .slice As ns cs'], .bool true]) ?_ rfl ⟨_, E', rfl, x1, x2, ⟨_, rfl, _, _, rfl, ⟨_, rfl, _, _, rfl, ⟨rfl, wa⟩, _, _, rfl, ⟨rfl, wb⟩, _, _, rfl, ⟨rfl, wc⟩, _, _, rfl, x3, rfl⟩, _, _, rfl, rfl, rfl⟩⟩
    rw [results_cell_tmp rfl]
    go_simp
def e_i_BoxAt : Entry Tryz.prog := ⟨54, [.s tyStore, .v tyInt, .v tyInt], fun x => True, fun x => .tp [.ag [.str (bxAt x.1 x.2.1 x.2.2.1).1.1, .int .i64 (bxAt x.1 x.2.1 x.2.2.1).1.2.1, .int .i64 (bxAt x.1 x.2.1 x.2.2.1).1.2.2.1, .row 0 0], .c (.bool (bxAt x.1 x.2.1 x.2.2.1).2)], fun x => [.row tyMsg (bxAt x.1 x.2.1 x.2.2.1).1.2.2.2 0 0 none], fun x hx => b_i_BoxAt x.1 x.2.1 x.2.2.1, Tryz.call54⟩
set_option maxRecDepth 100000 in
set_option maxHeartbeats 4000000 in
theorem b_s_BoxAt (st : GStore) (v n : Int) : BCalls Tryz.prog 51 [.ag [.hs .no tyBox st.1, .hs .no tyCommit st.2.1, .int .i64 st.2.2], .c (.int .i64 v), .c (.int .i64 n)] (.tp [.ag [.str (bxAt st v n).1.1, .int .i64 (bxAt st v n).1.2.1, .int .i64 (bxAt st v n).1.2.2.1, .row 0 0], .c (.bool (bxAt st v n).2)]) [.row tyMsg (bxAt st v n).1.2.2.2 0 0 none] := by
  intro X W vs hsz hgl hr
  obtain ⟨sv, r, rfl, hst, vv, r2, rfl, hv, nv, r3, rfl, hn, h0⟩ := hr
  obtain rfl : r3 = [] := h0
  obtain ⟨cs, rfl, u1, s1, rfl, c1, u2, s2, rfl, c2, u3, s3, rfl, c3, hs3⟩ := hst
  obtain rfl : s3 = [] := hs3
  obtain ⟨rfl, q3⟩ := c3
  obtain ⟨rfl, qv⟩ := hv
  obtain ⟨rfl, qn⟩ := hn
  obtain ⟨A1, n1, a1, hu1⟩ := hs_slice c1
  obtain ⟨A2, n2, a2, hu2⟩ := hs_slice c2
  have C1 := Lib.hid c1
  have C2 := Lib.hid c2
  clear c1 c2
  subst hu1
  subst hu2
  go_enter Tryz.func51, Tryz.ntmps51
  go_wp2_with fail
  obtain ⟨b1, hb1⟩ : ∃ b1, b1 = W.heap.size + 1 := ⟨_, rfl⟩
  obtain ⟨W1, hW1⟩ : ∃ W1, W1 = W.alloc (.cells #[.slice A1 n1 a1, .slice A2 n2 a2, .int .i64 st.2.2] 31 (0, 0)) := ⟨_, rfl⟩
  obtain ⟨Z, hZ⟩ : ∃ Z : Array Value, Z = #[.string ⟨#[]⟩, .int .i64 0, .int .i64 0, .slice none 0 0] := ⟨_, rfl⟩
  obtain ⟨W2, hW2⟩ : ∃ W2, W2 = W1.alloc (.cells Z 102 (0, 0)) := ⟨_, rfl⟩
  have g2 : Grow W [] W2 [] := by
    rw [hW2]
    refine Grow.trans ?_ (alloc_grow W1 _)
    rw [hW1]
    exact alloc_grow W _
  have k2 : W2.heap[b1]? = some (.cells Z 102 (0, 0)) := by
    have h1 : W1.heap.size = b1 := by rw [hW1, hb1]; show (W.heap.push _).size = _; rw [Array.size_push]
    rw [hW2, ← h1]
    show (W1.heap.push _)[W1.heap.size]? = _
    rw [Array.getElem?_push, if_pos rfl]
  have z2 : b1 < W2.heap.size := (Array.getElem?_eq_some_iff.1 k2).1
  have zb : W.heap.size ≤ b1 := by omega
  rw [← hb1, ← hW1, ← hZ, ← hW2]
  obtain ⟨L, hL⟩ : ∃ L, L = boxesAt st n := ⟨_, rfl⟩
  have K2 := Lib.hid k2
  have KZ := Lib.hid hZ
  clear hb1 hW1 hW2 hZ k2
  refine (b_s_BoxesAt st n X W2 [.agg #[.slice A1 n1 a1, .slice A2 n2 a2, .int .i64 st.2.2], .int .i64 n] (fun b hb => Nat.lt_of_lt_of_le (hsz b hb) g2.size) (hgl.grow g2) ⟨_, _, rfl, ⟨_, rfl, _, _, rfl, RepC.mono g2 (memNil _ _ _) rfl C1.out, _, _, rfl, RepC.mono g2 (memNil _ _ _) rfl C2.out, _, _, rfl, ⟨rfl, q3⟩, rfl⟩, _, _, rfl, ⟨rfl, qn⟩, rfl⟩).mono fun e W3 h => ?_
  obtain ⟨w3, E3, rfl, g3, m3, hv3⟩ := h
  obtain ⟨e3, rfl⟩ := one_env m3
  obtain rfl : w3 = e3.val := row_val (show RepC X W3 [e3] _ (.row 0 0) w3 from hv3) rfl rfl
  have KL := Lib.hid hL
  rw [← hL] at m3
  have ho3 : OList W3 (ORep W3 tyBox) tyBox.n L e3.val e3.foot := m3.row (i := 0) rfl rfl
  obtain ⟨T, cells, G, w1, w2, w3⟩ := id ho3
  obtain ⟨A3, c3, j1, j2, j3, j4⟩ := own_slice (t := tyBox) w1
  have j1 : e3.val = .slice A3 (@List.length GBox L) c3 := j1
  rw [j1]
  have hc3 : RepC X W3 [] [] (.hs .no tyBox L) (.slice A3 (@List.length GBox L) c3) := by
    rw [← j1]
    exact repC_own ho3 (fun b hb hm => m3.xlt b hm (by simp [foots, hb]))
  have g4 := growNil (g2.trans g3)
  have H1 := Lib.hid m3
  have H2 := Lib.hid ho3
  have H3 := Lib.hid w1
  have H4 := Lib.hid w2
  have H5 := Lib.hid w3
  have H6 := Lib.hid j1
  have H7 := Lib.hid j4
  have H8 := Lib.hid hc3
  clear hL m3 ho3 w1 w2 w3 j1 j4 hc3 hv3 j2 j3
  go_wp2_with fail
  refine (b_s_BoxWith L v X W3 [_, _] (fun b hb => Nat.lt_of_lt_of_le (hsz b hb) g4.size) (hgl.grow g4) ⟨_, _, rfl, H8.out, _, _, rfl, ⟨rfl, qv⟩, rfl⟩).mono fun e W4 h => ?_
  obtain ⟨w4, E4, rfl, g5, m4, hv4⟩ := h
  obtain rfl := env_nil m4
  have hwf : (Lit.int .i64 (boxW L v)).wf = true := hv4.2
  obtain rfl : w4 = .int .i64 (boxW L v) := hv4.1
  have g6 := g4.trans g5
  have k4 : W4.heap[b1]? = some (.cells Z 102 (0, 0)) := (g5.keep b1 (Nat.lt_of_lt_of_le z2 g3.size) (by simp [foots])).trans ((g3.keep b1 z2 (by simp [foots])).trans K2.out)
  have l0 : W4.cell? ⟨b1, 0, none⟩ = some (.string ⟨#[]⟩) := cellAt k4 (by rw [KZ.out]; rfl)
  have l1 : W4.cell? ⟨b1, 1, none⟩ = some (.int .i64 0) := cellAt k4 (by rw [KZ.out]; rfl)
  have l2 : W4.cell? ⟨b1, 2, none⟩ = some (.int .i64 0) := cellAt k4 (by rw [KZ.out]; rfl)
  have l3 : W4.cell? ⟨b1, 3, none⟩ = some (.slice none 0 0) := cellAt k4 (by rw [KZ.out]; rfl)
  have fz : ∀ o, W4.frozen? ⟨b1, o, none⟩ = false := fun o => by simp [World.frozen?, k4]
  clear m4
  have K4 := Lib.hid k4
  clear k4
  by_cases hneg : boxW L v < 0
  · go_wp2_with fail
    obtain ⟨kf, gf, _⟩ := box_world (x0 := .string ⟨#[]⟩) (x1 := .int .i64 0) (x2 := .int .i64 0) (x3 := .slice none 0 0) (by have := K4.out; rw [KZ.out] at this; exact this) g6 zb
    obtain ⟨Wf, hWf⟩ : ∃ Wf, Wf = ((((W4.setCell ⟨b1, 0, none⟩ (.string ⟨#[]⟩)).setCell ⟨b1, 1, none⟩ (.int .i64 0)).setCell ⟨b1, 2, none⟩ (.int .i64 0)).setCell ⟨b1, 3, none⟩ (.slice none 0 0)) := ⟨_, rfl⟩
    rw [← hWf] at kf gf ⊢
    clear hWf l0 l1 l2 l3
    have l0 : Wf.cell? ⟨b1, 0, none⟩ = some (.string ⟨#[]⟩) := cellAt kf rfl
    have l1 : Wf.cell? ⟨b1, 1, none⟩ = some (.int .i64 0) := cellAt kf rfl
    have l2 : Wf.cell? ⟨b1, 2, none⟩ = some (.int .i64 0) := cellAt kf rfl
    have l3 : Wf.cell? ⟨b1, 3, none⟩ = some (.slice none 0 0) := cellAt kf rfl
    have hbx : bxAt st v n = (z_Box, false) := by
      unfold bxAt
      rw [← KL.out, if_pos hneg]
    rw [hbx]
    obtain ⟨E', x1, x2, x3⟩ := box_fin (X := X) (ms := []) (sv := .slice none 0 0) (F := []) gf ⟨0, [], [], World.ownsRow_nil _ 0 0 _, ⟨rfl, rfl⟩, rfl⟩ List.nodup_nil (fun b hb => by cases hb) hsz
    refine bodyPost_ret (v := .tuple #[.agg #[.string ⟨#[]⟩, .int .i64 0, .int .i64 0, .slice none 0 0], .bool false]) ?_ rfl ⟨_, E', rfl, x1, x2, ⟨_, rfl, _, _, rfl, ⟨_, rfl, _, _, rfl, ⟨rfl, Nat.zero_le _⟩, _, _, rfl, ⟨rfl, rfl⟩, _, _, rfl, ⟨rfl, rfl⟩, _, _, rfl, x3, rfl⟩, _, _, rfl, rfl, rfl⟩⟩
    rw [results_cell_tmp rfl]
    go_simp
  · have hw := boxW_lt L v
    obtain ⟨k, hk⟩ : ∃ k : Nat, boxW L v = (k : Int) := ⟨(boxW L v).toNat, by omega⟩
    have hkl : k < @List.length GBox L := by omega
    rcases H3.out.2 with ⟨_, y2⟩ | ⟨g, cap, cur, y1, y2, y3, y4, y5, y6, y7⟩
    · exact absurd y2 (show @List.length GBox L ≠ 0 by omega)
    obtain ⟨rfl, rfl⟩ : A3 = some ⟨g, 0, none⟩ ∧ c3 = cap := by
      have h := H6.out
      rw [y1] at h
      injection h with e1 e2 e3
      exact ⟨e1.symm, e3.symm⟩
    have hg3 : g < W3.heap.size := (Array.getElem?_eq_some_iff.1 y3).1
    have hxk : L[k]? = some (nth_Box L k) := nth_getElem? (t := tyBox) hkl
    obtain ⟨c0, cx, cy, G0, G1, G2, t1, t2, t3, t4, t5, t6⟩ := H4.out.split (n := tyBox.n) (fun x cs F h => ORep.len tyBox h) k hxk
    obtain ⟨ca, cb, Fa, Fb, ⟨rfl, wa, rfl⟩, ⟨cc, cd, Fc, Fd, ⟨rfl, wb, rfl⟩, ⟨ce, cf, Fe, Ff, ⟨rfl, wc, rfl⟩, ⟨sv, rfl, hsv⟩, rfl, rfl⟩, rfl, rfl⟩, rfl, rfl⟩ := t5
    have t3 : c0.length = k * 4 := t3
    have hcur : ∀ q u, q < 4 → [Value.string (nth_Box L k).1, .int .i64 (nth_Box L k).2.1, .int .i64 (nth_Box L k).2.2.1, sv][q]? = some u → W3.cell? ⟨g, k * 4 + q, none⟩ = some u := fun q u hq hu => by
      have h1 : (cur.toList.take (@List.length GBox L * 4))[k * 4 + q]? = some u := by
        rw [show List.take (@List.length GBox L * 4) cur.toList = cells from y7, t1, List.append_assoc, List.getElem?_append_right (by omega), t3, Nat.add_sub_cancel_left, List.getElem?_append_left (by show q < 4; exact hq)]
        exact hu
      rw [List.getElem?_take] at h1
      split at h1
      · exact cellAt y3 (by simpa using h1)
      · cases h1
    obtain ⟨As, ns, cs', hse⟩ : ∃ A n c, sv = .slice A n c := by
      obtain ⟨Tm, cm, Gm, r1, r2, r3⟩ := id hsv
      obtain ⟨A, c, r4, _⟩ := own_slice (t := tyMsg) r1
      exact ⟨A, _, c, r4⟩
    subst hse
    have n0 : W4.cell? ⟨g, k * 4, none⟩ = some (.string (nth_Box L k).1) := (cell?_congr (g5.keep g hg3 (by simp [foots]))).trans (hcur 0 _ (by omega) rfl)
    have n1 : W4.cell? ⟨g, k * 4 + 1, none⟩ = some (.int .i64 (nth_Box L k).2.1) := (cell?_congr (g5.keep g hg3 (by simp [foots]))).trans (hcur 1 _ (by omega) rfl)
    have n2 : W4.cell? ⟨g, k * 4 + 2, none⟩ = some (.int .i64 (nth_Box L k).2.2.1) := (cell?_congr (g5.keep g hg3 (by simp [foots]))).trans (hcur 2 _ (by omega) rfl)
    have n3 : W4.cell? ⟨g, k * 4 + 3, none⟩ = some (.slice As ns cs') := (cell?_congr (g5.keep g hg3 (by simp [foots]))).trans (hcur 3 _ (by omega) rfl)
    have i0 : (0 : Int) ≤ (k : Int) := by omega
    have i1 : (k : Int) < (@List.length GBox L : Int) := by omega
    have hfoot : foots [e3] = e3.val.ownBlock.toList ++ (G0 ++ G1 ++ G2) := by simp [foots, H5.out, t2]
    have hin : ∀ b ∈ G1, b ∈ foots [e3] := fun b hb => by rw [hfoot]; simp [hb]
    have hnf : G1.Nodup := by
      have := H1.out.nodup
      rw [hfoot, List.nodup_append] at this
      have := this.2.1
      rw [List.nodup_append] at this
      have := this.1
      rw [List.nodup_append] at this
      simpa using this.2.1
    have hge2 : ∀ b ∈ G1, W2.heap.size ≤ b := fun b hb => (g3.new b (hin b hb)).resolve_left (by simp [foots])
    have hlt3 : ∀ b ∈ G1, b < W3.heap.size := fun b hb => H1.out.lt b (hin b hb)
    have hneg2 : ¬ ((k : Int) < 0) := by omega
    have M1 := Lib.hid hk
    have M2 := Lib.hid hsv
    have M3 := Lib.hid hneg
    have M4 := Lib.hid hge2
    have M5 := Lib.hid hlt3
    rw [hk]
    clear hcur y1 y2 y3 y4 y5 y6 y7 t1 t2 t3 t4 t6 hfoot hin hk hsv hneg hge2 hlt3 hw
    go_wp2_with fail
    obtain ⟨kf, gf, hq⟩ := box_world (x0 := .string (nth_Box L k).1) (x1 := .int .i64 (nth_Box L k).2.1) (x2 := .int .i64 (nth_Box L k).2.2.1) (x3 := .slice As ns cs') (by have := K4.out; rw [KZ.out] at this; exact this) g6 zb
    obtain ⟨Wf, hWf⟩ : ∃ Wf, Wf = ((((W4.setCell ⟨b1, 0, none⟩ (.string (nth_Box L k).1)).setCell ⟨b1, 1, none⟩ (.int .i64 (nth_Box L k).2.1)).setCell ⟨b1, 2, none⟩ (.int .i64 (nth_Box L k).2.2.1)).setCell ⟨b1, 3, none⟩ (.slice As ns cs')) := ⟨_, rfl⟩
    rw [← hWf] at kf gf hq ⊢
    clear hWf l0 l1 l2 l3
    have l0 : Wf.cell? ⟨b1, 0, none⟩ = some (.string (nth_Box L k).1) := cellAt kf rfl
    have l1 : Wf.cell? ⟨b1, 1, none⟩ = some (.int .i64 (nth_Box L k).2.1) := cellAt kf rfl
    have l2 : Wf.cell? ⟨b1, 2, none⟩ = some (.int .i64 (nth_Box L k).2.2.1) := cellAt kf rfl
    have l3 : Wf.cell? ⟨b1, 3, none⟩ = some (.slice As ns cs') := cellAt kf rfl
    have hbx : bxAt st v n = (nth_Box L k, true) := by
      unfold bxAt
      rw [← KL.out, if_neg (Int.not_lt.2 M3.out), M1.out, Int.toNat_natCast]
    rw [hbx]
    have hof : OList Wf (ORep Wf tyMsg) tyMsg.n (nth_Box L k).2.2.2 (.slice As ns cs') G1 := by
      obtain ⟨v0, hv0, ho0⟩ := ORep.keep (W' := Wf) (.list tyMsg) (x := (nth_Box L k).2.2.2) (cs := [.slice As ns cs']) (F := G1) ⟨_, rfl, M2.out⟩ (fun b hb => (hq b (fun e => by have := M4.out b hb; omega)).trans (g5.keep b (M5.out b hb) (by simp [foots])))
      obtain rfl : _ = v0 := List.head_eq_of_cons_eq hv0
      exact ho0
    obtain ⟨E', x1, x2, x3⟩ := box_fin (X := X) (ms := (nth_Box L k).2.2.2) (sv := .slice As ns cs') (F := G1) gf hof hnf (fun b hb => Nat.le_trans g2.size (M4.out b hb)) hsz
    refine bodyPost_ret (v := .tuple #[.agg #[.string (nth_Box L k).1, .int .i64 (nth_Box L k).2.1, .int .i64 (nth_Box L k).2.2.1, .slice As ns cs'], .bool true]) ?_ rfl ⟨_, E', rfl, x1, x2, ⟨_, rfl, _, _, rfl, ⟨_, rfl, _, _, rfl, ⟨rfl, wa⟩, _, _, rfl, ⟨rfl, wb⟩, _, _, rfl, ⟨rfl, wc⟩, _, _, rfl, x3, rfl⟩, _, _, rfl, rfl, rfl⟩⟩
    rw [results_cell_tmp rfl]
    go_simp
def e_s_BoxAt : Entry Tryz.prog := ⟨51, [.s tyStore, .v tyInt, .v tyInt], fun x => True, fun x => .tp [.ag [.str (bxAt x.1 x.2.1 x.2.2.1).1.1, .int .i64 (bxAt x.1 x.2.1 x.2.2.1).1.2.1, .int .i64 (bxAt x.1 x.2.1 x.2.2.1).1.2.2.1, .row 0 0], .c (.bool (bxAt x.1 x.2.1 x.2.2.1).2)], fun x => [.row tyMsg (bxAt x.1 x.2.1 x.2.2.1).1.2.2.2 0 0 none], fun x hx => b_s_BoxAt x.1 x.2.1 x.2.2.1, Tryz.call51⟩
end Go.Proofs.YtigebfhekmjhmaaGreat
set_option linter.unusedSimpArgs false
set_option linter.unusedVariables false
namespace Go.Proofs.YtigebfhekmjhmaaGreat
open Go.ChangeShapes Go.WideShapes Go.ChangeAt Go.RowKit Go.Joins Go.Deep
open GoRep (rep bulk)

theorem bxAt_no {st : GStore} {v n : Int} (h : (bxAt st v n).2 = false) : (bxAt st v n).1.1 = (⟨#[]⟩ : ByteArray) := by
  unfold bxAt at h ⊢
  split at h
  · rename_i h1
    rw [if_pos h1]
    rfl
  · cases h
set_option maxRecDepth 100000 in
set_option maxHeartbeats 400000 in
theorem b_i_NameAt (st : GStore) (v : Int) (n : Int) : BCalls Tryz.prog 15 [.ag (cellsOf tyStore st), .c (.int .i64 v), .c (.int .i64 n)] (.c (.str (bxAt st v n).1.1)) [] := by
  refine bcalls_of (T := ⟨[e_i_BoxAt], [], [], [], none, fun _ => [], 0, [], []⟩) (L := L0) Tryz.func15 ⟨⟨rfl, rfl⟩, rfl⟩ (fun hwf => ?_)
  refine Eq.mpr (β := (True ∧ (True ∧ (True ∧ (True ∧ (True ∧ ((True ∧ true = true) ∧ (True ∧ (True ∧ (True ∧ (True ∧ (True ∧ (True ∧ (True ∧ (True ∧ (bif (!(bxAt st v n).2) then (True ∧ ((true = true ∧ leC (.str (⟨#[]⟩ : ByteArray)) (.str (bxAt st v n).1.1)) ∧ true = true)) else (True ∧ (True ∧ (True ∧ ((true = true ∧ leC (.str ((bxAt st v n).1).1) (.str (bxAt st v n).1.1)) ∧ true = true)))))))))))))))))))) (by kernel_rfl) ?_
  simp only [btw_iff, btw_not, flagsOk, Bool.not_true, Bool.not_false, SI2A, eq_self]
  first
    | trivial
    | (refine ⟨fun h => ?_, fun h => ?_⟩ <;> first | trivial | (exact (bxAt_no h).symm) | (exact bxAt_no h))
def e_i_NameAt : Entry Tryz.prog := ⟨15, [.s tyStore, .v tyInt, .v tyInt], fun x => True, fun x => .c (.str (bxAt x.1 x.2.1 x.2.2.1).1.1), fun _ => [], fun x hx => b_i_NameAt x.1 x.2.1 x.2.2.1, Tryz.call15⟩
set_option maxRecDepth 100000 in
set_option maxHeartbeats 400000 in
theorem b_s_NameAt (st : GStore) (v : Int) (n : Int) : BCalls Tryz.prog 13 [.ag (cellsOf tyStore st), .c (.int .i64 v), .c (.int .i64 n)] (.c (.str (bxAt st v n).1.1)) [] := by
  refine bcalls_of (T := ⟨[e_s_BoxAt], [], [], [], none, fun _ => [], 0, [], []⟩) (L := L0) Tryz.func13 ⟨⟨rfl, rfl⟩, rfl⟩ (fun hwf => ?_)
  refine Eq.mpr (β := (True ∧ (True ∧ (True ∧ (True ∧ (True ∧ ((True ∧ true = true) ∧ (True ∧ (True ∧ (True ∧ (True ∧ (True ∧ (True ∧ (True ∧ (True ∧ (True ∧ ((true = true ∧ leC (.str ((bxAt st v n).1).1) (.str (bxAt st v n).1.1)) ∧ true = true))))))))))))))))) (by kernel_rfl) ?_
  simp only [btw_iff, btw_not, flagsOk, Bool.not_true, Bool.not_false, SI2A, eq_self]
def e_s_NameAt : Entry Tryz.prog := ⟨13, [.s tyStore, .v tyInt, .v tyInt], fun x => True, fun x => .c (.str (bxAt x.1 x.2.1 x.2.2.1).1.1), fun _ => [], fun x hx => b_s_NameAt x.1 x.2.1 x.2.2.1, Tryz.call13⟩
end Go.Proofs.YtigebfhekmjhmaaGreat
