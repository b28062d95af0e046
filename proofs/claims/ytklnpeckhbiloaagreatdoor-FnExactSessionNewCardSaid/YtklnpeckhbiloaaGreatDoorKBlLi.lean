/-
  The program's LinesText: the builder of strings. By hand.
  No condition but the number of lines.
-/
import Derived.Test.YtklnpeckhbiloaaGreatDoorKBlRl
import Derived.Test.YtklnpeckhbiloaaGreatDoorKRep
import Derived.Shelf.Strings.BuilderK
set_option linter.unusedSimpArgs false
set_option linter.unusedVariables false
set_option maxRecDepth 100000
namespace Go.Proofs.YtklnpeckhbiloaaGreatDoor
open Go.ChangeShapes Go.WideShapes Go.ChangeAt Go.RowKit Go.Joins Go.Deep
open GoRep (rep)
theorem builderB {T e : TypeId} {B b : Nat} {bs : List Value} {W W' : World} (h : Lib.IsBuilderF T e B b bs W) (hb : Below W.heap.size W W') : Lib.IsBuilderF T e B b bs W' := by
  have key : ∀ p, Lib.BuilderAtF T e B b p bs W → Lib.BuilderAtF T e B b p bs W' := fun p h => by
    have hlt := h.lt
    obtain ⟨hB, v, hv, hown, hne⟩ := h
    exact ⟨hB, v, (hb.block b hlt).trans hv, hown.kept (row := none) ⟨hb.os, hb.tape, hb.output, hb.size, fun k hk _ => hb.block k hk⟩ (Classical.em _), hne⟩
  exact h.elim (fun x => .inl (key _ x)) (fun x => .inr (key _ x))
theorem byteL_back (s : ByteArray) : (byteL s).map (fun n => UInt8.ofNat n.toNat) = s.data.toList := by
  unfold byteL
  rw [List.map_map]
  conv => rhs; rw [← List.map_id s.data.toList]
  refine List.map_congr_left fun b _ => ?_
  show UInt8.ofNat b.toNat = b
  exact UInt8.ofNat_toNat
def lnB (l : List GReply) (k : Nat) : List UInt8 := (linesN l k).map fun n => UInt8.ofNat n.toNat
theorem bld_write (B b : Nat) (bs : List Value) (s : ByteArray) (w : World) (h : Lib.IsBuilderF 69 5 B b bs w) (hlen : bs.length + s.size ≤ 140737488355328) (hBw : B ≤ w.heap.size) :
    Calls Tryz.prog 37 #[.pointer (some ⟨b, 0, none⟩), .string s] w fun e w' => e = .returned (.tuple #[.int .i64 s.size, .nilIface]) ∧ Lib.IsBuilderF 69 5 B b (bs ++ Lib.strCells s) w' ∧ Below B w w' :=
  (Any.Builder_WriteString_k lay_join_166 joinExtra B b bs s w h hlen hBw).mono fun e w' h => ⟨h.1, .inr h.2.1, h.2.2.1⟩
theorem bld_string (B b : Nat) (l : List UInt8) (w : World) (h : Lib.IsBuilderF 69 5 B b (Lib.byteCells l) w) (hBw : B ≤ w.heap.size) :
    Calls Tryz.prog 39 #[.pointer (some ⟨b, 0, none⟩)] w fun e w' => e = .returned (.string ⟨l.toArray⟩) ∧ Below B w w' :=
  (Any.Builder_String_any_k lay_join_169 joinExtra B b l w h hBw).mono fun e w' h => ⟨h.1, h.2.2.1⟩
theorem lnB_succ (l : List GReply) (k : Nat) : Lib.byteCells (lnB l k) ++ Lib.strCells (replyT (nth_Commit l k) ++ (⟨#[13, 10]⟩ : ByteArray)) = Lib.byteCells (lnB l (k + 1)) := by
  rw [Lib.strCells_eq, ← Lib.byteCells_append]
  congr 1
  show lnB l k ++ _ = (linesN l k ++ byteL (replyT (nth_Commit l k)) ++ [13, 10]).map _
  rw [List.map_append, List.map_append, byteL_back, ByteArray.data_append, Array.toList_append, List.append_assoc]
  rfl
set_option maxHeartbeats 4000000 in
theorem linesI_walk (l : List GReply) (A : Option Addr) (c : Nat) (w : World) (hgl : Glob w []) (hp : l.length ≤ 1048576)
    (hcell : ∀ (k : Nat), k < l.length → ∃ b o, A = some ⟨b, o, none⟩ ∧ b < w.heap.size ∧ CellsAt w b (o + k * 6) [.int .i64 (nth_Commit l k).1, .int .i64 (nth_Commit l k).2.1, .int .i64 (nth_Commit l k).2.2.1, .int .i64 (nth_Commit l k).2.2.2.1, .string (nth_Commit l k).2.2.2.2.1, .string (nth_Commit l k).2.2.2.2.2] ∧
      (Lit.int .i64 (nth_Commit l k).1).wf = true ∧ (Lit.int .i64 (nth_Commit l k).2.1).wf = true ∧ (Lit.int .i64 (nth_Commit l k).2.2.1).wf = true ∧ (Lit.int .i64 (nth_Commit l k).2.2.2.1).wf = true ∧ (nth_Commit l k).2.2.2.2.1.size ≤ maxLen ∧ (nth_Commit l k).2.2.2.2.2.size ≤ maxLen) :
    Calls Tryz.prog 19 #[.slice A l.length c] w fun e w' => e = .returned (.string (linesT l)) ∧ Below w.heap.size w w' := by
  have hi := Lib.fresh_isBuilder 69 5 w
  go_enter Tryz.func19, Tryz.ntmps19
  go_wp2_with fail
  go_loopw [9] (fun i wr => ∃ k : Nat, k ≤ l.length ∧ i = .int .i64 k ∧ Lib.IsBuilderF 69 5 w.heap.size w.heap.size (Lib.byteCells (lnB l k)) wr ∧ Below w.heap.size w wr) (fun i _ => l.length - (intOf i).toNat)
  case atStart => exact ⟨0, Nat.zero_le _, rfl, Lib.IsBuilderF.of hi, (Below.refl _ w).alloc (Nat.le_refl _) _⟩
  case round =>
    obtain ⟨k, hk, rfl, hI, hb⟩ := hrel
    by_cases hlt : k < l.length
    · obtain ⟨b, o, rfl, hbw, hc, q1, q2, q3, q4, q5, q6⟩ := hcell k hlt
      have kc : ∀ j u, ([.int .i64 (nth_Commit l k).1, .int .i64 (nth_Commit l k).2.1, .int .i64 (nth_Commit l k).2.2.1, .int .i64 (nth_Commit l k).2.2.2.1, .string (nth_Commit l k).2.2.2.2.1, .string (nth_Commit l k).2.2.2.2.2] : List Value)[j]? = some u → wr.cell? ⟨b, o + k * 6 + j, none⟩ = some u := fun j u h => ((bcell hb).1 b _ hbw).trans (hc j u h).1
      have c0 := kc 0 _ rfl
      have c1 := kc 1 _ rfl
      have c2 := kc 2 _ rfl
      have c3 := kc 3 _ rfl
      have c4 := kc 4 _ rfl
      have c5 := kc 5 _ rfl
      clear kc hc
      rw [Nat.add_zero] at c0
      go_wp2_with fail
      obtain ⟨W1, hW1⟩ : ∃ W1, W1 = wr.alloc (.cells #[.int .i64 (nth_Commit l k).1, .int .i64 (nth_Commit l k).2.1, .int .i64 (nth_Commit l k).2.2.1, .int .i64 (nth_Commit l k).2.2.2.1, .string (nth_Commit l k).2.2.2.2.1, .string (nth_Commit l k).2.2.2.2.2] 55) := ⟨_, rfl⟩
      have b1 : Below wr.heap.size wr W1 := by rw [hW1]; exact (Below.refl _ wr).alloc (Nat.le_refl _) _
      have hI1 : Lib.IsBuilderF 69 5 w.heap.size w.heap.size (Lib.byteCells (lnB l k)) W1 := by rw [hW1]; exact hI.alloc _
      rw [← hW1]
      have hg1 : Glob W1 [] := (hgl.grow (Grow.of_below hb)).grow (Grow.of_below b1)
      refine (b_i_ReplyText (nth_Commit l k) [] W1 [_] (fun b hb => by cases hb) hg1 ⟨_, _, rfl, ⟨_, rfl, _, _, rfl, ⟨rfl, q1⟩, _, _, rfl, ⟨rfl, q2⟩, _, _, rfl, ⟨rfl, q3⟩, _, _, rfl, ⟨rfl, q4⟩, _, _, rfl, ⟨rfl, q5⟩, _, _, rfl, ⟨rfl, q6⟩, rfl⟩, rfl⟩).mono fun e W2 h => ?_
      obtain ⟨v2, E2, rfl, g2, m2, rv2⟩ := h
      have b2 : Below W1.heap.size W1 W2 := ⟨g2.os, g2.tape, g2.output, g2.size, fun b hb => g2.keep b hb (by simp [foots])⟩
      have hI2 := builderB hI1 b2
      obtain ⟨rfl, hz⟩ := rv2
      have hr := replyT_size (nth_Commit l k)
      have hn := linesN_len l k
      have s1 : w.heap.size ≤ wr.heap.size := hb.size
      have s2 : wr.heap.size ≤ W1.heap.size := b1.size
      have s3 : W1.heap.size ≤ W2.heap.size := b2.size
      have b4 : Below w.heap.size w W2 := (hb.trans (b1.mono s1)).trans (b2.mono (by omega))
      have hsz : (Lib.byteCells (lnB l k)).length + (replyT (nth_Commit l k) ++ (⟨#[13, 10]⟩ : ByteArray)).size ≤ 140737488355328 := by
        rw [Lib.byteCells_length]
        unfold lnB
        rw [List.length_map, ByteArray.size_append]
        show _ + (_ + 2) ≤ _
        omega
      have h22 : w.heap.size ≤ W2.heap.size := by omega
      have hcall := Lib.hid (bld_write w.heap.size w.heap.size _ (replyT (nth_Commit l k) ++ ⟨#[13, 10]⟩) W2 hI2 hsz h22)
      clear hI2 hI1 hI hsz
      go_wp2_with fail
      refine hcall.out.mono ?_
      rintro e W3 ⟨rfl, h3, b3⟩
      rw [lnB_succ] at h3
      go_wp2_with fail
      refine ⟨⟨k + 1, hlt, rfl, h3, b4.trans b3⟩, ?_⟩
      show l.length - ((k : Int) + 1).toNat < l.length - ((k : Int)).toNat
      omega
    · obtain rfl : k = l.length := by omega
      have hcall := Lib.hid (bld_string w.heap.size w.heap.size (lnB l l.length) wr hI hb.size)
      clear hcell hI
      go_wp2_with fail
      refine hcall.out.mono ?_
      rintro e W3 ⟨rfl, b3⟩
      go_wp2_with fail
      rw [show (⟨(lnB l l.length).toArray⟩ : ByteArray) = linesT l from rfl]
      refine ⟨rfl, .string (linesT l), ?_, And.intro rfl (hb.trans b3)⟩
      exact (by simp [results, Tryz.results19, go_sem])
theorem linesT_size {l : List GReply} (hp : l.length ≤ 1048576) : (linesT l).size ≤ maxLen := by
  have := linesN_len l l.length
  unfold linesT
  rw [bytesOf_size]
  unfold maxLen
  omega
theorem b_i_LinesText (l : List GReply) (hpre : List.length l ≤ 1048576) : BCalls Tryz.prog 19 [.c (.hs .no tyCommit l)] (.c (.str (linesT l))) [] := by
  intro X W vs hX hgl hr
  obtain ⟨v, r, rfl, hv, hn⟩ := hr
  obtain rfl : r = [] := hn
  obtain ⟨h1, F, ⟨A, c, e, hc, hm, hs⟩, hF⟩ := hv
  obtain rfl : v = _ := (List.cons.inj e).1
  refine (linesI_walk l A c W hgl hpre (fun k hk => ?_)).mono fun e W' he => ?_
  · rcases hs with ⟨rfl, _⟩ | ⟨hx, b, off, G, rfl, rfl, hR⟩
    · cases hk
    · obtain ⟨cs, Gk, r1, _, r3⟩ := hR.get k (nth_Commit l k) (nth_getElem? (t := tyCommit) hk)
      refine ⟨b, off, rfl, (hF b (by simp)).2, ?_⟩
      obtain ⟨c1, d1, F1, F2, ⟨rfl, w1, _⟩, ⟨c2, d2, F3, F4, ⟨rfl, w2, _⟩, ⟨c3, d3, F5, F6, ⟨rfl, w3, _⟩, ⟨c4, d4, F7, F8, ⟨rfl, w4, _⟩, ⟨c5, d5, F9, F10, ⟨rfl, w5, _⟩, ⟨rfl, w6, _⟩, rfl, _⟩, rfl, _⟩, rfl, _⟩, rfl, _⟩, rfl, _⟩ := r1
      exact ⟨r3, w1, w2, w3, w4, w5, w6⟩
  · obtain ⟨rfl, hb⟩ := he
    exact ⟨_, [], rfl, Grow.of_below hb, nilM (fun b hb' => Nat.lt_of_lt_of_le (hX b hb') hb.size), rfl, linesT_size hpre⟩
def e_i_LinesText : Entry Tryz.prog := ⟨19, [.v (.list tyCommit)], fun x => List.length x.1 ≤ 1048576, fun x => .c (.str (linesT x.1)), fun _ => [], fun x hx => b_i_LinesText x.1 hx, Tryz.call19⟩
end Go.Proofs.YtklnpeckhbiloaaGreatDoor
