/-
  Maps of ints to bools that the call made: made, looked into, entered into.
  Plain: no program. No condition.
-/
import Derived.Test.YtkompmgleojmlaaDoorEBmG
import Derived.Test.YtkompmgleojmlaaDoorEBmE
import Derived.MapKept
set_option linter.unusedSimpArgs false
set_option linter.unusedVariables false
namespace Go.Proofs.YtkompmgleojmlaaDoor
open Go.ChangeShapes Go.WideShapes Go.ChangeAt Go.RowKit Go.Joins Go.Deep Go.MapKept
open GoRep (rep bulk)

section
variable {X : List Nat} {P : Program} {W : World} {E : Env} {M : Mem} {tm : List AV} {a : Act} {o : Oper}
theorem does_makeMap {t : TypeId} (hM : RepM X W E M) (ho : o.op = .makeMap t none) : Does X P o a W E M (.c (.mp M.length)) (M ++ [.mp []]) := by
  have g := grow_alloc hM (.map #[] 0) ⟨W.heap.size, undef, [W.heap.size]⟩ (fun b hb => by simpa using hb)
  have hm := memOk_append (W := W) (W' := W.alloc (.map #[] 0)) ⟨rfl, rfl, rfl, by simp, fun b hb _ => Below.heap_alloc W _ b hb, fun b hb => .inl hb, fun _ e h => ⟨e, h, rfl⟩⟩ hM (fun b hb => Below.heap_alloc W _ b (hM.lt b hb)) [.mp []] [⟨W.heap.size, undef, [W.heap.size]⟩]
  refine ⟨.map (some W.heap.size), _, _, .inl ?_, g, hm, ⟨by simp [hM.len], nodup_app_fresh hM.nodup (by simp [foots]) hM.lt (fun b hb => by simp [foots] at hb; omega), fun i b e hb he => ?_, fun b hb => ?_, fun b hb hf => ?_, fun b hb => by rw [World.size_alloc]; have := hM.xsz b hb; omega⟩, ⟨⟨W.heap.size, undef, [W.heap.size]⟩, ?_, rfl⟩⟩
  · unfold execOp
    simp only [ho, Sem.run_bind]
    rfl
  · by_cases hi : i < M.length
    · rw [List.getElem?_append_left hi] at hb
      rw [List.getElem?_append_left (by rw [← hM.len]; exact hi)] at he
      exact (hM.at_ i b e hb he).keep g hm hM.len (fun q hq => Below.heap_alloc W _ q (hM.lt q (mem_foots.2 ⟨e, List.mem_of_getElem? he, hq⟩)))
    · have hi' : i = M.length := by
        have := (List.getElem?_eq_some_iff.1 hb).1
        simp at this
        omega
      subst hi'
      rw [List.getElem?_append_right (Nat.le_refl _), Nat.sub_self] at hb
      rw [hM.len, List.getElem?_append_right (Nat.le_refl _), Nat.sub_self] at he
      simp at hb he
      subst hb
      subst he
      exact ⟨rfl, #[], 0, heap_alloc_new W _, rfl, fun e he => by simp at he⟩
  · rw [foots_append, List.mem_append] at hb
    rw [World.size_alloc]
    rcases hb with hb | hb
    · have := hM.lt b hb; omega
    · simp [foots] at hb; omega
  · rw [foots_append, List.mem_append] at hf
    rcases hf with hf | hf
    · exact hM.xlt b hb hf
    · have := hM.xsz b hb; simp [foots] at hf; omega
  · rw [hM.len, List.getElem?_append_right (Nat.le_refl _), Nat.sub_self]
    rfl
theorem map_keys {es : List MapEntry} {xs : List Int} (h : es.map (·.key) = xs.map (fun x => Value.int .i64 x)) : ∀ x ∈ es, IsKey (.int .i64) x.key := fun x hx => by
  have : x.key ∈ es.map (·.key) := List.mem_map.2 ⟨x, hx, rfl⟩
  rw [h] at this
  obtain ⟨y, _, e⟩ := List.mem_map.1 this
  rw [← e]
  simp [IsKey]
theorem memI_true {n : Int} {xs : List Int} : memI n xs = true ↔ n ∈ xs := by
  unfold memI
  rw [List.any_eq_true]
  constructor
  · rintro ⟨y, h1, h2⟩
    rw [of_decide_eq_true h2] at h1
    exact h1
  · intro h
    exact ⟨n, h, decide_eq_true rfl⟩
theorem key_mem {es : List MapEntry} {xs : List Int} {n : Int} (h : es.map (·.key) = xs.map (fun x => Value.int .i64 x)) : (∃ e ∈ es, e.key = .int .i64 n) ↔ memI n xs = true := by
  rw [memI_true]
  constructor
  · rintro ⟨e, h1, h2⟩
    have : e.key ∈ es.map (·.key) := List.mem_map.2 ⟨e, h1, rfl⟩
    rw [h, h2] at this
    obtain ⟨y, q1, q2⟩ := List.mem_map.1 this
    injection q2 with _ q3
    rw [← q3]
    exact q1
  · intro hn
    have : Value.int .i64 n ∈ xs.map (fun x => Value.int .i64 x) := List.mem_map.2 ⟨n, hn, rfl⟩
    rw [← h] at this
    obtain ⟨e, q1, q2⟩ := List.mem_map.1 this
    exact ⟨e, q1, q2⟩
theorem isI64_eq {t : TypeId} (h : isI64 P t = true) : P.underlying t = some (.int .i64) := by
  unfold isI64 at h
  split at h
  · assumption
  · cases h
theorem run_zero_bool {t : TypeId} (h : isBoolT P t = true) : (zeroValue t).run P W = .ok (.bool false) W := by
  unfold isBoolT at h
  split at h
  · rename_i hz
    cases hi : P.info? t with
    | none => rw [hi] at hz; cases hz
    | some i =>
      rw [hi] at hz
      have hz : i.zero = some (.bool false) := hz
      simp [zeroValue, typeInfo, run_program, hi, hz, Result.andThen]
  · cases h
theorem does_look {t : TypeId} {m k : Operand} (hM : RepM X W E M) (ht : RepT X W E M tm a.tmps.toList) (ho : o.op = .lookup t m k false) (hn : (lookA P M t (evalA tm m) (evalA tm k)).need) : Does X P o a W E M (lookA P M t (evalA tm m) (evalA tm k)).val (lookA P M t (evalA tm m) (evalA tm k)).mem := by
  have pm := evalA_rep (M := M) (W := W) (E := E) ht m
  have pk := evalA_rep (M := M) (W := W) (E := E) ht k
  generalize evalA tm m = m' at *
  generalize evalA tm k = k' at *
  unfold lookA at hn ⊢
  split at hn
  · rename_i kt et i n hu
    split at hn
    · rename_i xs hi
      cases hc : isI64 P kt && isBoolT P et with
      | false => rw [hc] at hn; exact hn.elim
      | true =>
        simp only [hc, cond_true]
        rw [Bool.and_eq_true] at hc
        have hd := isI64_eq hc.1
        obtain ⟨e, he, hv⟩ := (pm : ∃ e, E[i]? = some e ∧ a.eval m = .map (some e.blk))
        obtain ⟨ek, _⟩ := int_of pk
        obtain ⟨hf, es, ck, hg, hkeys, hvals⟩ := hM.at_ i _ e hi he
        have hk : IsKey (.int .i64) (Value.int .i64 n) := by simp [IsKey]
        refine Does.stay hM ?_ rfl
        unfold execOp
        simp only [ho, hv, ek, Sem.run_bind]
        rcases findNow_spec hk es.toList 0 (map_keys hkeys) with ⟨h1, h2⟩ | ⟨j, e', h1, h2, h3⟩
        · have hm : memI n xs = false := by
            cases hq : memI n xs with
            | false => rfl
            | true =>
              obtain ⟨e', q1, q2⟩ := (key_mem hkeys).2 hq
              exact absurd q2 (h2 e' q1)
          rw [hm]
          simp [Instr.lookup, run_underlying hu, Go.MapKept.run_getObj_map hg, Go.MapKept.run_checkKey hd hk, Go.MapKept.run_findKey hd h1, run_zero_bool hc.2, Result.andThen]
        · have hm : memI n xs = true := (key_mem hkeys).1 ⟨e', List.mem_of_getElem? h2, h3⟩
          have hval := hvals e' (List.mem_of_getElem? h2)
          rw [hm]
          simp [Instr.lookup, run_underlying hu, Go.MapKept.run_getObj_map hg, Go.MapKept.run_checkKey hd hk, Go.MapKept.run_findKey hd h1, hval, Result.andThen]
    · exact hn.elim
  · exact hn.elim
theorem repM_map {i : Nat} {xs xs' : List Int} {e : EB} {ob ob' : Obj} (hM : RepM X W E M) (hb : M[i]? = some (.mp xs)) (he : E[i]? = some e) (hf : e.foot = [e.blk]) (hg : W.heap[e.blk]? = some ob)
    (hn : MapAt { W with heap := W.heap.setIfInBounds e.blk ob' } e.blk xs') :
    Grow W E { W with heap := W.heap.setIfInBounds e.blk ob' } E ∧ MemOk W E M { W with heap := W.heap.setIfInBounds e.blk ob' } E (M.set i (.mp xs')) ∧ RepM X { W with heap := W.heap.setIfInBounds e.blk ob' } E (M.set i (.mp xs')) := by
  have hmem : e.blk ∈ foots E := mem_foots.2 ⟨e, List.mem_of_getElem? he, by simp [hf]⟩
  have hoth : ∀ b, b ≠ e.blk → (W.heap.setIfInBounds e.blk ob')[b]? = W.heap[b]? := fun b hne => (Go.MapKept.heap_set hg).2 b hne
  have g : Grow W E { W with heap := W.heap.setIfInBounds e.blk ob' } E :=
    ⟨rfl, rfl, rfl, by simp, fun b hbl hbn => hoth b (fun e' => hbn (e' ▸ hmem)), fun b hb => .inl hb, fun i e h => ⟨e, h, rfl⟩⟩
  have hil : i < M.length := (List.getElem?_eq_some_iff.1 hb).1
  have dis : ∀ j e1, E[j]? = some e1 → i ≠ j → ∀ b ∈ e1.foot, b ≠ e.blk := fun j e1 he1 hj b hb2 e2 => by
    subst e2
    exact foot_disj hM.nodup he he1 hj (by simp [hf]) hb2
  have m : MemOk W E M { W with heap := W.heap.setIfInBounds e.blk ob' } E (M.set i (.mp xs')) := fun j => by
    by_cases hj : i = j
    · subst hj
      rw [hb]
      trivial
    · rw [List.getElem?_set_ne hj]
      split
      · rename_i h
        exact .inr ⟨_, _, _, _, h, Nat.le_refl _, fun _ e1 he1 => ⟨e1, he1, rfl, Nat.le_refl _, fun _ b hb => ⟨hb, hoth b (dis j e1 he1 hj b hb)⟩⟩⟩
      · rename_i h
        exact h
      · trivial
  refine ⟨g, m, by simp [hM.len], hM.nodup, fun j b e' hbj hej => ?_, fun b hb => by simpa using hM.lt b hb, hM.xlt, fun b hb => by simpa using hM.xsz b hb⟩
  by_cases hj : i = j
  · subst hj
    rw [List.getElem?_set_self hil] at hbj
    obtain rfl : e = e' := by rw [he] at hej; simpa using hej
    obtain rfl := (Option.some.inj hbj).symm
    exact ⟨hf, hn⟩
  · rw [List.getElem?_set_ne hj] at hbj
    exact (hM.at_ j b e' hbj hej).keep g m hM.len (fun q hq => hoth q (dis j e' hej hj q hq))
theorem does_upd {t : TypeId} {m k v : Operand} (hM : RepM X W E M) (ht : RepT X W E M tm a.tmps.toList) (ho : o.op = .mapUpdate t m k v) (hn : (updA P M t (evalA tm m) (evalA tm k) (evalA tm v)).need) : Does X P o a W E M (updA P M t (evalA tm m) (evalA tm k) (evalA tm v)).val (updA P M t (evalA tm m) (evalA tm k) (evalA tm v)).mem := by
  have pm := evalA_rep (M := M) (W := W) (E := E) ht m
  have pk := evalA_rep (M := M) (W := W) (E := E) ht k
  have pv := evalA_rep (M := M) (W := W) (E := E) ht v
  generalize evalA tm m = m' at *
  generalize evalA tm k = k' at *
  generalize evalA tm v = v' at *
  unfold updA at hn ⊢
  split at hn
  · rename_i kt et i n hu
    split at hn
    · rename_i xs hi
      cases hc : isI64 P kt with
      | false => rw [hc] at hn; exact hn.elim
      | true =>
        simp only [hc, cond_true]
        have hd := isI64_eq hc
        obtain ⟨e, he, hv⟩ := (pm : ∃ e, E[i]? = some e ∧ a.eval m = .map (some e.blk))
        obtain ⟨ek, _⟩ := int_of pk
        have ev : a.eval v = .bool true := pv
        obtain ⟨hf, es, ck, hg, hkeys, hvals⟩ := hM.at_ i _ e hi he
        have hk : IsKey (.int .i64) (Value.int .i64 n) := by simp [IsKey]
        have hlt : e.blk < W.heap.size := (Array.getElem?_eq_some_iff.1 hg).1
        rcases findNow_spec hk es.toList 0 (map_keys hkeys) with ⟨h1, h2⟩ | ⟨j, e', h1, h2, h3⟩
        · have hm : memI n xs = false := by
            cases hq : memI n xs with
            | false => rfl
            | true =>
              obtain ⟨e', q1, q2⟩ := (key_mem hkeys).2 hq
              exact absurd q2 (h2 e' q1)
          have hin : insI n xs = xs ++ [n] := by unfold insI; rw [hm]; rfl
          rw [hin]
          obtain ⟨g, mm, r⟩ := repM_map (xs' := xs ++ [n]) (ob' := .map (es.push ⟨.int .i64 n, .bool true, ck⟩) (ck + 1)) hM hi he hf hg
            ⟨_, _, (Go.MapKept.heap_set hg).1, by simp [hkeys], fun e1 h => by
              rw [Array.toList_push, List.mem_append] at h
              rcases h with h | h
              · exact hvals e1 h
              · rw [List.mem_singleton.1 h]⟩
          refine ⟨undef, _, E, .inr ⟨?_, rfl⟩, g, mm, r, trivial⟩
          unfold execOp
          simp only [ho, hv, ek, ev, Sem.run_bind]
          simp [Instr.mapUpdate, run_underlying hu, Go.MapKept.run_getObj_map hg, Go.MapKept.run_checkKey hd hk, Go.MapKept.run_findKey hd h1, Go.MapKept.run_setObj_map _ hg, Result.andThen]
        · have hm : memI n xs = true := (key_mem hkeys).1 ⟨e', List.mem_of_getElem? h2, h3⟩
          have hin : insI n xs = xs := by unfold insI; rw [hm]; rfl
          have hj : es[j]? = some e' := by simpa using h2
          rw [hin]
          have hsame : (es.modify j fun e => { e with key := .int .i64 n, val := .bool true }).toList = es.toList := by
            apply List.ext_getElem?
            intro q
            simp only [Array.getElem?_toList, Array.getElem?_modify]
            by_cases hq : j = q
            · subst hq
              have hval := hvals e' (List.mem_of_getElem? h2)
              rw [if_pos rfl, hj]
              simp only [Option.map_some]
              rw [← h3, ← hval]
            · rw [if_neg hq]
          obtain ⟨g, mm, r⟩ := repM_map (xs' := xs) (ob' := .map (es.modify j fun e => { e with key := .int .i64 n, val := .bool true }) ck) hM hi he hf hg
            ⟨_, _, (Go.MapKept.heap_set hg).1, by rw [hsame]; exact hkeys, fun e1 h => by rw [hsame] at h; exact hvals e1 h⟩
          refine ⟨undef, _, E, .inr ⟨?_, rfl⟩, g, mm, r, trivial⟩
          unfold execOp
          simp only [ho, hv, ek, ev, Sem.run_bind]
          simp [Instr.mapUpdate, run_underlying hu, Go.MapKept.run_getObj_map hg, Go.MapKept.run_checkKey hd hk, Go.MapKept.run_findKey hd h1, hj, h3, Go.MapKept.run_keyThatStays hk, Go.MapKept.run_setObj_map _ hg, Result.andThen]
    · exact hn.elim
  · exact hn.elim
end
end Go.Proofs.YtkompmgleojmlaaDoor
