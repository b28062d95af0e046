/-
  A row of bytes made a text; a text's bytes laid behind a row.
  Plain: no program. No condition.
-/
import Derived.Test.YtkompmgleojmlaaDoorEBmV
import Derived.Laws.IdiomStrings
import Derived.Lib.AppendStr
set_option linter.unusedSimpArgs false
set_option linter.unusedVariables false
namespace Go.Proofs.YtkompmgleojmlaaDoor
open Go.ChangeShapes Go.WideShapes Go.ChangeAt Go.RowKit Go.Joins Go.Deep
open GoRep (rep bulk)

section
variable {P : Program} {X : List Nat} {W : World} {E : Env} {M : Mem} {a : Act} {tm : List AV} {o : Oper}
theorem byte_nat {x : Int} (h : (Lit.int .u8 x).wf = true) : ((UInt8.ofNat x.toNat).toNat : Int) = x := by
  rw [lit_wf] at h
  have hmm : IntKind.u8.min = 0 ∧ IntKind.u8.max = 255 := by decide
  rw [hmm.1, hmm.2] at h
  rw [UInt8.toNat_ofNat']
  omega
theorem bytesOf_list (xs : List Int) : (bytesOf xs).data.toList = xs.map fun n => UInt8.ofNat n.toNat := by simp [bytesOf]
theorem bytesOf_size (xs : List Int) : (bytesOf xs).size = xs.length := by
  show (xs.map fun n => UInt8.ofNat n.toNat).toArray.size = _
  simp
theorem byteL_len (s : ByteArray) : (byteL s).length = s.size := by
  unfold byteL
  rw [List.length_map, Array.length_toList]
  rfl
theorem isU8_eq {e : TypeId} (h : isU8 P e = true) : P.underlying e = some (.int .u8) := by
  unfold isU8 at h
  split at h
  · assumption
  · cases h
theorem byte_cells {xs : List Int} {b off : Nat} {G : List Nat} (h : RowRep (α := (Ty.int .u8).den) W b off xs G) : ∀ j (hj : j < (bytesOf xs).data.toList.length), W.cell? ((⟨b, off, none⟩ : Addr).add j) = some (.int .u8 ((bytesOf xs).data.toList[j].toNat : Int)) := fun j hj => by
  have hj' : j < xs.length := by rw [bytesOf_list] at hj; simpa using hj
  obtain ⟨cs, Gk, h1, _, h2⟩ := RowRep.get (α := (Ty.int .u8).den) j xs[j] h (List.getElem?_eq_getElem hj')
  have h1 : cs = [.int .u8 xs[j]] ∧ (Lit.int .u8 xs[j]).wf = true ∧ Gk = [] := h1
  have h3 := (h2 0 (.int .u8 xs[j]) (by rw [h1.1]; rfl)).1
  have hn : GoRep.n (Ty.int .u8).den = 1 := rfl
  rw [hn, Nat.mul_one, Nat.add_zero] at h3
  have he : (bytesOf xs).data.toList[j] = UInt8.ofNat (xs[j]).toNat := by simp [bytesOf_list]
  rw [addr_add, h3, he, byte_nat h1.2.1]
theorem rowU8_eq {r : RowC} {xs : List Int} (h : rowU8 r = some xs) : ∃ c, r = ⟨.int .u8, xs, c⟩ := by
  unfold rowU8 at h
  split at h
  · obtain rfl := Option.some.inj h
    exact ⟨_, rfl⟩
  · cases h
theorem does_toStr {s d e : TypeId} {x : Operand} {c : AC} {xs : List Int} (hM : RepM X W E M) (ht : RepT X W E M tm a.tmps.toList) (ho : o.op = .convert s d x) (hd : P.underlying d = some .string) (hs : P.underlying s = some (.slice e)) (hu : isU8 P e = true)
    (hx : evalA tm x = .w (.c c)) (hst : strOf M c = some xs) (hn : xs.length ≤ maxLen) : Does X P o a W E M (.c (.str (bytesOf xs))) M := by
  have hp := evalA_rep (M := M) (W := W) (E := E) ht x
  rw [hx] at hp
  have hp : RepC X W E M c (a.eval x) := hp
  have he := isU8_eq hu
  refine does_val hM (convert s d (a.eval x)) (by unfold execOp; rw [ho]) (u := .string (bytesOf xs)) ?_ ⟨rfl, by rw [bytesOf_size]; exact hn⟩
  unfold strOf at hst
  split at hst
  · obtain rfl := Option.some.inj hst
    rw [show a.eval x = .slice none 0 0 from hp.1, run_convert_bytes_string W s d e none 0 0 hs he hd]
    rfl
  · split at hst
    · rename_i L r hr
      obtain ⟨cc, rfl⟩ := rowU8_eq hst
      obtain ⟨A, cap, F, hv, hsl, _⟩ := read_of hM hr hp
      rw [hv]
      rcases hsl.2.2 with ⟨h0, _⟩ | ⟨hne, b, off, G, rfl, rfl, hrow⟩
      · have h0 : xs = [] := h0
        subst h0
        rw [run_convert_bytes_string W s d e A _ cap hs he hd]
        cases A with
        | none => rfl
        | some q => simp [Conv.bytesToString, loadCells, loadCellsFrom]; rfl
      · have h := run_convert_bytes_back (P := P) W s d e ⟨b, off, none⟩ cap (bytesOf xs).data.toList hs he hd (byte_cells hrow)
        rw [show (bytesOf xs).data.toList.length = xs.length from bytesOf_size xs] at h
        exact h
    · cases hst
theorem strOf_ext {N : Mem} {c : AC} {xs : List Int} (hx : ∀ q, readL M c = some q → readL (M ++ N) c = some q) (h : strOf M c = some xs) : strOf (M ++ N) c = some xs := by
  unfold strOf at h ⊢
  split at h
  · exact h
  · rename_i c' hc
    split at h
    · rename_i L r hr
      rw [hx _ hr]
      exact h
    · cases h
/-- append of a text's bytes onto a row of our own, whatever its block's tag -/
theorem run_appstr_T (w : World) (t u ty e T : TypeId) (i : TypeInfo) (ht : P.underlying t = some (.slice e)) (hu : P.underlying u = some .string) (hi : P.info? e = some i) (hz : i.zero = some (.int .u8 0))
    (hsize : i.size = 1) (hby : i.bytes = 1)
    (v : Value) (n : Nat) (xs : List Value) (hown : w.ownsRow 0 T 1 v n xs) (s : ByteArray)
    (h63 : n + s.size ≤ maxLen) (hbytes : n + s.size ≤ 140737488355328) :
    ∃ v' w' T', (Builtin.append_ #[t, u] ty #[v, .string s]).run P w = .ok v' w' ∧ w'.ownsRow 0 T' 1 v' (n + s.size) (xs ++ Lib.strCells s) ∧ w.grownBy w' v.ownBlock ∧ (v'.ownBlock = v.ownBlock ∨ v'.ownBlock = some w.heap.size) := by
  have hsmall : n + s.size ≤ 9223372036854775807 := by simp only [maxLen] at h63; omega
  have hxl : xs.length = n := by simpa using hown.1
  have hlen : (xs ++ Lib.strCells s).length = (n + s.size) * 1 := by rw [List.length_append, hxl, Lib.strCells_length, Nat.mul_one]
  have grown : ∀ (old : Nat), old < n + s.size → ∀ (row : Option Nat),
      (w.drew.alloc (.cells (xs.toArray ++ (Lib.strCells s).toArray ++ Builtin.zeroCells (Value.int .u8 0).cells (grownCap w (n + s.size) old e - (n + s.size))) e)).ownsRow 0 e 1
        (.slice (some ⟨w.heap.size, 0, none⟩) (n + s.size) (grownCap w (n + s.size) old e)) (n + s.size) (xs ++ Lib.strCells s) ∧
      w.grownBy (w.drew.alloc (.cells (xs.toArray ++ (Lib.strCells s).toArray ++ Builtin.zeroCells (Value.int .u8 0).cells (grownCap w (n + s.size) old e - (n + s.size))) e)) row := by
    intro old ho row
    have hge := grownCap_ge w (n + s.size) old e
    have hcm : grownCap w (n + s.size) old e ≤ maxLen := grownCap_le_maxLen w (n + s.size) old e h63
    refine ⟨⟨hlen, .inr ⟨w.heap.size, _, _, rfl, Nat.zero_le _, heap_alloc_new w.drew _, hge, hcm, ?_, ?_⟩⟩, ⟨rfl, rfl, rfl, by simp, fun k hk _ => Below.heap_alloc w.drew _ k hk⟩⟩
    · have hz1 : (Value.int IntKind.u8 0).cells.size = 1 := rfl
      simp only [Array.size_append, List.size_toArray, size_zeroCells, hz1, hxl, Lib.strCells_length]
      omega
    · simp only [Array.toList_append, List.append_assoc]
      rw [← List.append_assoc, ← hlen]
      exact List.take_left
  rcases hown.2 with ⟨rfl, rfl⟩ | ⟨g, cap, cur, rfl, hbg, hg, hnc, hcm, hcs, htake⟩
  · obtain ⟨v', w', h1, h2, h3, h4⟩ := Lib.run_append_own_string (P := P) w 0 t u ty e i ht hu hi hz hsize hby (.slice none 0 0) 0 xs ⟨hown.1, .inl ⟨rfl, rfl⟩⟩ s h63 hbytes (Nat.zero_le _)
    refine ⟨v', w', e, h1, h2, h3, ?_⟩
    by_cases hm : s.size = 0
    · left
      rw [h4.2 ⟨rfl, hm⟩]
    · right
      have hr := run_append_nil_string (P := P) w t u ty e i (.int .u8 0) ht hu hi hz s (by omega) (by omega) (by rw [hby]; omega)
      have := hr.symm.trans h1
      injection this with q5 q6
      rw [← q5]
      rfl
  · by_cases hroom : n + s.size ≤ cap
    · have hcs' : cur.size = cap := by simpa using hcs
      have hf := Lib.run_firstCells_string (P := P) w 1 s
      have hst := run_storeCells_at P g n T (Lib.strCells s) 0 cur w hg (by rw [Lib.strCells_length]; omega) (Lib.strCells_oneCell s)
      simp only [Nat.add_zero, Lib.strCells_length] at hst
      have hr : (Builtin.append_ #[t, u] ty #[.slice (some ⟨g, 0, none⟩) n cap, .string s]).run P w =
          .ok (.slice (some ⟨g, 0, none⟩) (n + s.size) cap) (w.setRow g (cur.toList.take n ++ Lib.strCells s ++ cur.toList.drop (n + s.size)).toArray) := by
        simp [Builtin.append_, run_underlying ht, run_underlying hu, sizeOf, typeInfo, hi, hsize, Builtin.lenOf, hroom, hf, Addr.add_lit, hst]
      refine ⟨_, _, T, hr, ⟨hlen, .inr ⟨g, cap, _, rfl, hbg, setRow_heap w g cur _ T _ hg, hroom, hcm, ?_, ?_⟩⟩, ⟨rfl, rfl, rfl, by simp, fun k _ hk => setRow_other w g k _ (fun e => hk (by simp [Value.ownBlock, e]))⟩, .inl rfl⟩
      · simp only [List.size_toArray, List.length_append, List.length_take, List.length_drop, Array.length_toList, Lib.strCells_length]
        omega
      · have ht' : cur.toList.take n = xs := by simpa using htake
        rw [ht', ← hlen]
        exact List.take_left
    · have holds : ∀ j u, xs[j]? = some u → w.cell? ((⟨g, 0, none⟩ : Addr).add j) = some u := hown.cells (g := g) rfl
      have hr := Lib.run_append_grow_string (P := P) w t u ty e i (.int .u8 0) ht hu hi hz ⟨g, 0, none⟩ n cap xs (by rw [hsize]; simpa using hxl) holds s (by omega) (by omega) (by rw [hby]; exact growslice_fits (by omega) (by omega))
      have hgr := grown cap (by omega) (Value.ownBlock (.slice (some ⟨g, 0, none⟩) n cap))
      exact ⟨_, _, e, hr, hgr.1, hgr.2, .inr rfl⟩
theorem byteTy_spec {e : TypeId} (h : byteTy P e = true) : ∃ i, P.info? e = some i ∧ i.size = 1 ∧ i.bytes = 1 ∧ i.zero = some (.int .u8 0) := by
  unfold byteTy at h
  split at h
  · rename_i i hi
    rw [Bool.and_eq_true, Bool.and_eq_true] at h
    refine ⟨i, hi, Nat.eq_of_beq_eq_true h.1.1, Nat.eq_of_beq_eq_true h.1.2, ?_⟩
    have h2 := h.2
    split at h2
    · rename_i n hz
      rw [hz, of_decide_eq_true h2]
    · cases h2
  · cases h
theorem strCells_rows (W : World) (s : ByteArray) : ORows (ORep W (.int .u8)) (byteL s) (Lib.strCells s) [] := by
  have : ∀ (l : List UInt8), ORows (ORep W (.int .u8)) (l.map fun b => ((b.toNat : Nat) : Int)) (l.map fun b => Value.int .u8 b.toNat) [] := by
    intro l
    induction l with
    | nil => exact ⟨rfl, rfl⟩
    | cons b l ih =>
      refine ⟨[_], _, [], [], ⟨rfl, ?_, rfl⟩, ih, rfl, rfl⟩
      rw [lit_wf]
      have hmm : IntKind.u8.min = 0 ∧ IntKind.u8.max = 255 := by decide
      rw [hmm.1, hmm.2]
      have := b.toNat_lt
      show (0 : Int) ≤ ((b.toNat : Nat) : Int) ∧ ((b.toNat : Nat) : Int) ≤ 255
      omega
  exact this s.data.toList
theorem exec_append2 {x y : Operand} {t t2 : TypeId} {xs : Array Operand} {ts : Array TypeId} {v : Value} {w' : World} (ho : o.op = .call ⟨.builtin .append, xs, ts⟩) (hxs : xs.toList = [x, y]) (hts : ts.toList = [t, t2])
    (h : (Builtin.append_ #[t, t2] o.type #[a.eval x, a.eval y]).run P W = .ok v w') : (execOp a.eval o).run P W = .ok (.value v) w' := by
  obtain ⟨xs⟩ := xs
  obtain ⟨ts⟩ := ts
  simp only at hxs hts
  subst hxs
  subst hts
  unfold execOp
  simp only [ho, resolve, invoke, builtin, Sem.run_bind, Sem.run_pure, Result.andThen_ok, List.map_toArray, List.map_cons, List.map_nil, h]
theorem does_appendS {x y : Operand} {t t2 e : TypeId} {xs : Array Operand} {ts : Array TypeId} {s : ByteArray} (hM : RepM X W E M) (ht : RepT X W E M tm a.tmps.toList) (ho : o.op = .call ⟨.builtin .append, xs, ts⟩) (hxs : xs.toList = [x, y]) (hts : ts.toList = [t, t2])
    (hu : P.underlying t = some (.slice e)) (hu2 : P.underlying t2 = some .string) (hy : evalA tm y = .w (.c (.str s))) (hn : (appendS P M e (evalA tm x) s).need) : Does X P o a W E M (appendS P M e (evalA tm x) s).val (appendS P M e (evalA tm x) s).mem := by
  have hx := evalA_rep (M := M) (W := W) (E := E) ht x
  have hy' := evalA_rep (M := M) (W := W) (E := E) ht y
  rw [hy] at hy'
  have hys := (str_of hy').1
  generalize evalA tm x = x' at *
  have hbs : (byteL s).length = s.size := byteL_len s
  unfold appendS at hn ⊢
  split at hn
  · rename_i i v
    split at hn
    · rename_i l cv cc hMi
      cases hb : Nat.beq v cv && byteTy P e with
      | false => rw [hb] at hn; exact hn.elim
      | true =>
        rw [hb] at hn
        simp only [hb, cond_true] at hn ⊢
        rw [Bool.and_eq_true] at hb
        obtain rfl := Nat.eq_of_beq_eq_true hb.1
        obtain ⟨inf, i1, i2, i3, i4⟩ := byteTy_spec hb.2
        have hra : rowAt M i v = some ⟨.int .u8, l, cc⟩ := by unfold rowAt; rw [hMi]; simp only [hb.1, cond_true]
        obtain ⟨e0, he0, hv0, T0, cells, G, w1, w2, w3⟩ := row_of hM hra (hx : RepC X W E M (.row i v) _).2
        simp only at w1 w2 w3
        have hn : List.length (α := Int) l + (byteL s).length ≤ rowMax := hn
        obtain ⟨b1, b2⟩ := row_bounds (b := 1) hn (by omega)
        have w1' : W.ownsRow 0 T0 1 e0.val (List.length (α := Int) l) cells := w1
        obtain ⟨v', w', T', r1, r2, r3, r4⟩ := run_appstr_T (P := P) W t t2 o.type e T0 inf hu hu2 i1 i4 i2 i3 e0.val _ cells w1' s (by omega) (by omega)
        rw [← hbs] at r2
        obtain ⟨E', g, m, rm, rc⟩ := rows_app (t := .int .u8) (js := []) (own := []) (G2 := []) (ys := byteL s) hM hMi he0 rfl (by simp) (by simp) w1 w2 w3 r3 r2 (strCells_rows W s) (by simp [feet]) r4
        exact ⟨v', w', E', .inl (exec_append2 ho hxs hts (by rw [hv0, hys]; exact r1)), g, m, rm, rc⟩
    · exact hn.elim
  · cases hty : byteTy P e with
    | false => rw [hty] at hn; exact hn.elim
    | true =>
      rw [hty] at hn
      simp only [hty, cond_true] at hn ⊢
      obtain ⟨inf, i1, i2, i3, i4⟩ := byteTy_spec hty
      have hn : (byteL s).length ≤ rowMax := hn
      obtain ⟨b1, b2⟩ := row_bounds (b := 1) hn (by omega)
      have hx' : a.eval x = .slice none 0 0 := (hx : RepC X W E M (.raw _) _).1
      obtain ⟨v', w', T', r1, r2, r3, r4⟩ := run_appstr_T (P := P) W t t2 o.type e 0 inf hu hu2 i1 i4 i2 i3 (.slice none 0 0) 0 [] (World.ownsRow_nil W 0 0 1) s (by omega) (by omega)
      rw [Nat.zero_add, List.nil_append, ← hbs] at r2
      obtain ⟨E', g, m, rm, rc⟩ := rows_new (js := []) (own := []) (G := []) (t := .int .u8) (ys := byteL s) hM rfl (by simp) r3 r2 (strCells_rows w' s) (by simp [feet]) r4
      exact ⟨v', w', E', .inl (exec_append2 ho hxs hts (by rw [hx', hys]; exact r1)), g, m, rm, rc⟩
  · exact hn.elim
/-- a row that takes over what a row held -/
theorem rows_move {i : Nat} {t0 : Ty} {xs0 : List t0.den} {v0 c0 : Nat} {e : EB} {t : Ty} {ys : List t.den} {v : Value} {T : TypeId} {cells : List Value} {G : List Nat} (hM : RepM X W E M) (hi : M[i]? = some (.row t0 xs0 v0 c0 none)) (he : E[i]? = some e)
    (ho : W.ownsRow 0 T t.n v ys.length cells) (hr : ORows (ORep W t) ys cells G) (hf : ∀ z, (v.ownBlock.toList ++ G).count z ≤ e.foot.count z) :
    ∃ E', Grow W E W E' ∧ MemOk W E M W E' (killM M [i] ++ [.row t ys 0 0 none]) ∧ RepM X W E' (killM M [i] ++ [.row t ys 0 0 none]) ∧ RepC X W E' (killM M [i] ++ [.row t ys 0 0 none]) (.row M.length 0) v := by
  have hj : ∀ j ∈ [i], ∃ t xs v c, M[j]? = some (.row t xs v c none) := fun j hj => by
    obtain rfl := List.mem_singleton.1 hj
    exact ⟨_, _, _, _, hi⟩
  have hjl := js_lt hM hj
  have hkl := killE_len [i] E
  have hml := killM_len [i] M
  have hfe : feet E [i] = e.foot := by simp [feet, he]
  have hin : ∀ b ∈ v.ownBlock.toList ++ G, b ∈ foots E := fun b hb => mem_foots.2 ⟨e, List.mem_of_getElem? he, List.count_pos_iff.1 (Nat.lt_of_lt_of_le (List.count_pos_iff.2 hb) (hf b))⟩
  have g : Grow W E W (killE E [i] ++ [⟨0, v, v.ownBlock.toList ++ G⟩]) :=
    ⟨rfl, rfl, rfl, Nat.le_refl _, fun _ _ _ => rfl, fun b hb => by
      rw [foots_append, List.mem_append] at hb
      rcases hb with hb | hb
      · exact .inl (killE_in rfl hjl hb)
      · exact .inl (hin b (by simpa [foots] using hb)), fun q e1 hq => by
      obtain ⟨e', h1, h2⟩ := killE_blk (js := [i]) hq
      exact ⟨e', by rw [List.getElem?_append_left (List.getElem?_eq_some_iff.1 h1).1]; exact h1, h2⟩⟩
  have m : MemOk W E M W (killE E [i] ++ [⟨0, v, v.ownBlock.toList ++ G⟩]) (killM M [i] ++ [.row t ys 0 0 none]) := memOk_upd (fun q t' xs' v' c' hh' hq => by
      have hql := (List.getElem?_eq_some_iff.1 hq).1
      rw [List.getElem?_append_left (by rw [hml]; exact hql)]
      by_cases hqj : q ∈ [i]
      · exact .inl (killM_dead hqj hql)
      · refine .inr (.inr (.inr ⟨by rw [killM_other (fun k hk e => hqj (by rw [← e]; exact hk))]; exact hq, fun e1 he1 => ⟨?_, fun _ _ => rfl⟩⟩))
        rw [List.getElem?_append_left (by rw [hkl, ← hM.len]; exact hql), killE_other (fun k hk e => hqj (by rw [← e]; exact hk))]
        exact he1) (fun q hq => by
      have hql := (List.getElem?_eq_some_iff.1 hq).1
      rw [List.getElem?_append_left (by rw [hml]; exact hql)]
      by_cases hqj : q ∈ [i]
      · exact killM_dead hqj hql
      · rw [killM_other (fun k hk e => hqj (by rw [← e]; exact hk))]; exact hq)
  have hlt : ∀ b ∈ foots (killE E [i] ++ [⟨0, v, v.ownBlock.toList ++ G⟩]), b < W.heap.size := fun b hb => by
    rw [foots_append, List.mem_append] at hb
    rcases hb with hb | hb
    · exact hM.lt b (killE_in rfl hjl hb)
    · exact hM.lt b (hin b (by simpa [foots] using hb))
  refine ⟨_, g, m, repM_new hM g m (by simp [hml, hkl, hM.len]) (nodup_of_cnt fun z => ?_) (fun q b e1 hb he1 => ?_) hlt, ownsRow_one ho, ?_⟩
  · have c1 := cnt_kill z (rfl : distinct [i] = true) hjl
    have c2 := cnt_le hM z
    have c3 := hf z
    rw [hfe] at c1
    rw [foots_append, List.count_append]
    have c5 : (foots [⟨0, v, v.ownBlock.toList ++ G⟩]).count z = (v.ownBlock.toList ++ G).count z := by simp [foots]
    rw [c5]
    omega
  · by_cases hq : q < M.length
    · rw [List.getElem?_append_left (by rw [hml]; exact hq)] at hb
      rw [List.getElem?_append_left (by rw [hkl, ← hM.len]; exact hq)] at he1
      by_cases hqj : q ∈ [i]
      · rw [killM_dead hqj hq] at hb
        obtain rfl := Option.some.inj hb
        exact .inr (killE_foot hqj he1)
      · rw [killM_other (fun k hk e => hqj (by rw [← e]; exact hk))] at hb
        rw [killE_other (fun k hk e => hqj (by rw [← e]; exact hk))] at he1
        exact .inl ⟨hb, he1, fun _ _ => rfl⟩
    · have hq' : q = M.length := by
        have := (List.getElem?_eq_some_iff.1 hb).1
        simp [hml] at this
        omega
      subst hq'
      rw [List.getElem?_append_right (by rw [hml]; exact Nat.le_refl _), hml, Nat.sub_self] at hb
      rw [List.getElem?_append_right (by rw [hkl, ← hM.len]; exact Nat.le_refl _), hkl, ← hM.len, Nat.sub_self] at he1
      simp at hb he1
      subst hb
      subst he1
      exact .inr ⟨T, cells, G, ho, hr, rfl⟩
  · unfold atRow
    rw [List.getElem?_append_right (by rw [hml]; exact Nat.le_refl _), hml, Nat.sub_self]
    refine ⟨Nat.le_refl _, fun _ => ⟨⟨0, v, v.ownBlock.toList ++ G⟩, ?_, rfl⟩⟩
    rw [List.getElem?_append_right (by rw [hkl, ← hM.len]; exact Nat.le_refl _), hkl, ← hM.len, Nat.sub_self]
    rfl
/-- an empty row of ours, made a row of another type, and appended to -/
theorem does_retyp {x y : Operand} {t e : TypeId} {xs : Array Operand} {ts : Array TypeId} {q : AV × Mem} (hM : RepM X W E M) (ht : RepT X W E M tm a.tmps.toList) (ho : o.op = .call ⟨.builtin .append, xs, ts⟩) (hxs : xs.toList = [x, y]) (hts : ts.toList = [t, t])
    (hu : P.underlying t = some (.slice e)) (hq : retyp M (evalA tm x) (evalA tm y) = some q) (hn : (appendA P q.2 e q.1 (evalA tm y)).need) : Does X P o a W E M (appendA P q.2 e q.1 (evalA tm y)).val (appendA P q.2 e q.1 (evalA tm y)).mem := by
  have hx := evalA_rep (M := M) (W := W) (E := E) ht x
  have hy := evalA_rep (M := M) (W := W) (E := E) ht y
  generalize evalA tm x = x' at *
  generalize evalA tm y = y' at *
  unfold retyp at hq
  split at hq
  · rename_i i v t' ys
    cases h1 : t'.hasOpq with
    | false => rw [h1] at hq; cases hq
    | true =>
      rw [h1] at hq
      simp only [cond_true] at hq
      split at hq
      · rename_i t0 xs0 cv cc hMi
        split at hq
        · cases hq
        · split at hq
          · rename_i hne
            cases h2 : Nat.beq v cv && Nat.beq t0.n t'.n with
            | false => rw [h2] at hq; cases hq
            | true =>
              rw [h2] at hq
              simp only [cond_true] at hq
              obtain rfl := Option.some.inj hq
              rw [Bool.and_eq_true] at h2
              obtain rfl := Nat.eq_of_beq_eq_true h2.1
              have hnn := Nat.eq_of_beq_eq_true h2.2
              have hra : rowAt M i v = some ⟨t0, [], cc⟩ := by unfold rowAt; rw [hMi]; simp only [h2.1, cond_true]
              obtain ⟨e0, he0, hv0, T0, cells, G, w1, w2, w3⟩ := row_of hM hra (hx : RepC X W E M (.row i v) _).2
              simp only at w1 w2 w3
              obtain ⟨rfl, rfl⟩ : cells = [] ∧ G = [] := w2
              obtain ⟨E', g, m, rm, rc⟩ := rows_move (t := t') (ys := []) (v := e0.val) (T := T0) (cells := []) (G := []) hM hMi he0 (by rw [← hnn]; exact w1) ⟨rfl, rfl⟩ (fun z => by rw [w3]; exact Nat.le_refl _)
              have hy2 : RepV X W E' (killM M [i] ++ [.row t' [] 0 0 none]) (.c (.hs .no t' ys)) (a.eval y) := RepC.mono g m hM.len (c := .hs .no t' ys) hy
              obtain ⟨u, W2, E2, h3, g2, m2, rm2, rv2⟩ := does_append0 (P := P) (o := o) (a := a) rm (x' := .c (.row M.length 0)) (y' := .c (.hs .no t' ys)) (by rw [hv0]; exact rc) hy2 ho hxs hts hu hn
              exact ⟨u, W2, E2, h3, g.trans g2, m.trans m2, rm2, rv2⟩
          · cases hq
      · cases hq
  · cases hq
end
end Go.Proofs.YtkompmgleojmlaaDoor
