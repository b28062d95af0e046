/-
  A row of values that hold slices, read as a row of cells of which nothing is known; and back.
  Plain: no program. No condition.
-/
import Derived.Test.YtigebfhekmjhmaaGreatBmN
set_option linter.unusedSimpArgs false
set_option linter.unusedVariables false
namespace Go.Proofs.YtigebfhekmjhmaaGreat
open Go.ChangeShapes Go.WideShapes Go.ChangeAt Go.RowKit Go.Joins Go.Deep
open GoRep (rep bulk)

section
variable {P : Program} {X X2 : List Nat} {W W' : World} {E : Env} {M : Mem}
def Ty.quo : Ty → Ty
  | .int k => .int k
  | .bool => .bool
  | .str => .str
  | .opq => .opq
  | .prod a b => .prod a.quo b.quo
  | .list _ => .opq
/-- the slices of x are the cells of q; these are their blocks -/
def QRel (W : World) : (t : Ty) → t.den → t.quo.den → List Nat → Prop
  | .int _, x, q, F => @Eq Int x q ∧ F = []
  | .bool, x, q, F => @Eq Bool x q ∧ F = []
  | .str, x, q, F => @Eq ByteArray x q ∧ F = []
  | .opq, x, q, F => @Eq Value x q ∧ F = []
  | .prod a b, x, q, F => ∃ F1 F2, QRel W a x.1 q.1 F1 ∧ QRel W b x.2 q.2 F2 ∧ F = F1 ++ F2
  | .list a, xs, q, F => OList W (ORep W a) a.n xs q F
theorem quo_n : ∀ t : Ty, t.quo.n = t.n
  | .int _ => rfl
  | .bool => rfl
  | .str => rfl
  | .opq => rfl
  | .prod a b => by
    show a.quo.n + b.quo.n = a.n + b.n
    rw [quo_n a, quo_n b]
  | .list _ => rfl
theorem quo_flat : ∀ t : Ty, t.quo.flat = true
  | .int _ => rfl
  | .bool => rfl
  | .str => rfl
  | .opq => rfl
  | .prod a b => by
    show (a.quo.flat && b.quo.flat) = true
    rw [quo_flat a, quo_flat b]
    rfl
  | .list _ => rfl
theorem orep_quo : ∀ (t : Ty) {x : t.den} {cs : List Value} {F : List Nat}, ORep W t x cs F → ∃ q : t.quo.den, ORep W t.quo q cs [] ∧ QRel W t x q F
  | .int _, x, _, _, h => ⟨x, ⟨h.1, h.2.1, rfl⟩, rfl, h.2.2⟩
  | .bool, x, _, _, h => ⟨x, ⟨h.1, rfl⟩, rfl, h.2⟩
  | .str, x, _, _, h => ⟨x, ⟨h.1, h.2.1, rfl⟩, rfl, h.2.2⟩
  | .opq, x, _, _, h => ⟨x, ⟨h.1, h.2.1, rfl⟩, rfl, h.2.2⟩
  | .prod a b, x, _, _, ⟨c1, c2, F1, F2, h1, h2, e1, e2⟩ => by
    obtain ⟨q1, r1, k1⟩ := orep_quo a h1
    obtain ⟨q2, r2, k2⟩ := orep_quo b h2
    exact ⟨(q1, q2), ⟨c1, c2, [], [], r1, r2, e1, rfl⟩, F1, F2, k1, k2, e2⟩
  | .list a, xs, _, _, ⟨v, e, h⟩ => by
    obtain ⟨T, cells, G, h0, h1, h2⟩ := h
    exact ⟨v, ⟨e, ownsRow_one h0, rfl⟩, T, cells, G, h0, h1, h2⟩
theorem orep_back : ∀ (t : Ty) {x : t.den} {q : t.quo.den} {cs : List Value} {F : List Nat}, ORep W t.quo q cs [] → QRel W t x q F → ORep W t x cs F
  | .int _, x, q, _, _, h, ⟨k1, k2⟩ => by
    have k1 : x = q := k1
    subst k1
    exact ⟨h.1, h.2.1, k2⟩
  | .bool, x, q, _, _, h, ⟨k1, k2⟩ => by
    have k1 : x = q := k1
    subst k1
    exact ⟨h.1, k2⟩
  | .str, x, q, _, _, h, ⟨k1, k2⟩ => by
    have k1 : x = q := k1
    subst k1
    exact ⟨h.1, h.2.1, k2⟩
  | .opq, x, q, _, _, h, ⟨k1, k2⟩ => by
    have k1 : x = q := k1
    subst k1
    exact ⟨h.1, h.2.1, k2⟩
  | .prod a b, x, q, _, _, ⟨c1, c2, G1, G2, h1, h2, e1, e2⟩, ⟨F1, F2, k1, k2, e3⟩ => by
    have e2 : [] = G1 ++ G2 := e2
    obtain ⟨rfl, rfl⟩ := List.append_eq_nil_iff.1 e2.symm
    exact ⟨c1, c2, F1, F2, orep_back a h1 k1, orep_back b h2 k2, e1, e3⟩
  | .list a, xs, q, _, _, h, k => ⟨q, h.1, k⟩
theorem OList.keep2 {t : Ty} {xs : List t.den} {v : Value} {F : List Nat} (h : OList W (ORep W t) t.n xs v F) (hk : ∀ b ∈ F, W'.heap[b]? = W.heap[b]?) : OList W' (ORep W' t) t.n xs v F := OList.keep h hk
theorem QRel.keep : ∀ (t : Ty) {x : t.den} {q : t.quo.den} {F : List Nat}, QRel W t x q F → (∀ b ∈ F, W'.heap[b]? = W.heap[b]?) → QRel W' t x q F
  | .int _, _, _, _, h, _ => h
  | .bool, _, _, _, h, _ => h
  | .str, _, _, _, h, _ => h
  | .opq, _, _, _, h, _ => h
  | .prod a b, _, _, _, ⟨F1, F2, h1, h2, e⟩, hk => ⟨F1, F2, QRel.keep a h1 (fun p hp => hk p (by rw [e]; simp [hp])), QRel.keep b h2 (fun p hp => hk p (by rw [e]; simp [hp])), e⟩
  | .list a, _, _, _, h, hk => OList.keep2 (t := a) h hk
def QRows (W : World) (t : Ty) : List t.den → List t.quo.den → List Nat → Prop
  | [], [], G => G = []
  | x :: xs, q :: qs, G => ∃ G1 G2, QRel W t x q G1 ∧ QRows W t xs qs G2 ∧ G = G1 ++ G2
  | _, _, _ => False
theorem rows_quo {t : Ty} : ∀ {xs : List t.den} {cells : List Value} {G : List Nat}, ORows (ORep W t) xs cells G → ∃ qs : List t.quo.den, ORows (ORep W t.quo) qs cells [] ∧ QRows W t xs qs G
  | [], _, _, h => ⟨[], ⟨h.1, rfl⟩, h.2⟩
  | _ :: _, _, _, ⟨c1, c2, G1, G2, h1, h2, e1, e2⟩ => by
    obtain ⟨q, r1, k1⟩ := orep_quo t h1
    obtain ⟨qs, r2, k2⟩ := rows_quo h2
    exact ⟨q :: qs, ⟨c1, c2, [], [], r1, r2, e1, rfl⟩, G1, G2, k1, k2, e2⟩
theorem rows_back {t : Ty} : ∀ {xs : List t.den} {qs : List t.quo.den} {cells : List Value} {G : List Nat}, ORows (ORep W t.quo) qs cells [] → QRows W t xs qs G → ORows (ORep W t) xs cells G
  | [], [], _, _, h, k => ⟨h.1, k⟩
  | [], _ :: _, _, _, _, k => k.elim
  | _ :: _, [], _, _, _, k => k.elim
  | _ :: _, _ :: _, _, _, ⟨c1, c2, H1, H2, h1, h2, e1, e2⟩, ⟨G1, G2, k1, k2, e3⟩ => by
    obtain ⟨rfl, rfl⟩ := List.append_eq_nil_iff.1 e2.symm
    exact ⟨c1, c2, G1, G2, orep_back t h1 k1, rows_back h2 k2, e1, e3⟩
theorem QRows.app {t : Ty} : ∀ {xs ys : List t.den} {qs rs : List t.quo.den} {G H : List Nat}, QRows W t xs qs G → QRows W t ys rs H → QRows W t (xs ++ ys) (qs ++ rs) (G ++ H)
  | [], _, [], _, _, _, h, k => by
    obtain rfl : _ = [] := h
    exact k
  | [], _, _ :: _, _, _, _, h, _ => h.elim
  | _ :: _, _, [], _, _, _, h, _ => h.elim
  | _ :: _, _, _ :: _, _, _, _, ⟨G1, G2, h1, h2, e⟩, k => ⟨G1, _, h1, QRows.app h2 k, by rw [e, List.append_assoc]⟩
theorem QRows.split {t : Ty} : ∀ (k : Nat) {xs : List t.den} {qs : List t.quo.den} {G : List Nat}, QRows W t xs qs G → ∃ G1 G2, G = G1 ++ G2 ∧ QRows W t (xs.take k) (qs.take k) G1 ∧ QRows W t (xs.drop k) (qs.drop k) G2
  | 0, _, _, G, h => ⟨[], G, rfl, rfl, h⟩
  | _ + 1, [], [], G, h => ⟨[], G, rfl, rfl, h⟩
  | _ + 1, [], _ :: _, _, h => h.elim
  | _ + 1, _ :: _, [], _, h => h.elim
  | k + 1, _ :: _, _ :: _, _, ⟨G1, G2, h1, h2, e⟩ => by
    obtain ⟨A, B, e1, q1, q2⟩ := QRows.split k h2
    exact ⟨G1 ++ A, B, by rw [e, e1, List.append_assoc], ⟨G1, A, h1, q1, rfl⟩, q2⟩
theorem QRows.out {t : Ty} (k : Nat) {xs : List t.den} {qs : List t.quo.den} {G : List Nat} (h : QRows W t xs qs G) : ∃ G1 Gd G3, G = G1 ++ (Gd ++ G3) ∧ QRows W t (xs.take k ++ xs.drop (k + 1)) (qs.take k ++ qs.drop (k + 1)) (G1 ++ G3) := by
  obtain ⟨G1, G2, e1, q1, q2⟩ := h.split k
  obtain ⟨Gd, G3, e2, q3, q4⟩ := q2.split 1
  rw [List.drop_drop, List.drop_drop] at q4
  exact ⟨G1, Gd, G3, by rw [e1, e2], q1.app q4⟩
theorem QRows.len {t : Ty} : ∀ {xs : List t.den} {qs : List t.quo.den} {G : List Nat}, QRows W t xs qs G → qs.length = xs.length
  | [], [], _, _ => rfl
  | [], _ :: _, _, h => h.elim
  | _ :: _, [], _, h => h.elim
  | _ :: _, _ :: _, _, ⟨_, _, _, h, _⟩ => by rw [List.length_cons, List.length_cons, QRows.len h]
theorem QRows.keep {t : Ty} : ∀ {xs : List t.den} {qs : List t.quo.den} {G : List Nat}, QRows W t xs qs G → (∀ b ∈ G, W'.heap[b]? = W.heap[b]?) → QRows W' t xs qs G
  | [], [], _, h, _ => h
  | [], _ :: _, _, h, _ => h.elim
  | _ :: _, [], _, h, _ => h.elim
  | _ :: _, _ :: _, _, ⟨G1, G2, h1, h2, e⟩, hk => ⟨G1, G2, QRel.keep t h1 (fun p hp => hk p (by rw [e]; simp [hp])), h2.keep (fun p hp => hk p (by rw [e]; simp [hp])), e⟩
theorem QRows.map {t : Ty} {β : Type} (f : t.den → β) (g : t.quo.den → β) (hfg : ∀ x q F, QRel W t x q F → g q = f x) : ∀ {xs : List t.den} {qs : List t.quo.den} {G : List Nat}, QRows W t xs qs G → qs.map g = xs.map f
  | [], [], _, _ => rfl
  | [], _ :: _, _, h => h.elim
  | _ :: _, [], _, h => h.elim
  | _ :: _, _ :: _, _, ⟨_, _, h1, h2, _⟩ => by rw [List.map_cons, List.map_cons, hfg _ _ _ h1, QRows.map f g hfg h2]
theorem olist_quo {t : Ty} {xs : List t.den} {v : Value} {F : List Nat} (h : OList W (ORep W t) t.n xs v F) : ∃ (qs : List t.quo.den) (G : List Nat), F = v.ownBlock.toList ++ G ∧ OList W (ORep W t.quo) t.quo.n qs v v.ownBlock.toList ∧ QRows W t xs qs G := by
  obtain ⟨T, cells, G, h0, h1, h2⟩ := h
  obtain ⟨qs, r1, r2⟩ := rows_quo h1
  exact ⟨qs, G, h2, ⟨T, cells, [], by rw [quo_n, r2.len]; exact h0, r1, by simp⟩, r2⟩
theorem olist_back {t : Ty} {xs : List t.den} {qs : List t.quo.den} {v : Value} {F G : List Nat} (h : OList W (ORep W t.quo) t.quo.n qs v F) (k : QRows W t xs qs G) : OList W (ORep W t) t.n xs v (F ++ G) ∧ F = v.ownBlock.toList := by
  obtain ⟨T, cells, G0, h0, h1, h2⟩ := h
  have e0 : G0 = [] := by
    have hz := h1.all (Q := fun _ => False) (fun x cs F h b hb => by rw [flat_foot t.quo (quo_flat t) h] at hb; cases hb)
    cases G0 with
    | nil => rfl
    | cons b l => exact (hz b (by simp)).elim
  subst e0
  rw [List.append_nil] at h2
  rw [quo_n, k.len] at h0
  exact ⟨⟨T, cells, G, h0, rows_back h1 k, by rw [h2]⟩, h2⟩
theorem RepM.row {i : Nat} {t : Ty} {xs : List t.den} {v c : Nat} {e : EB} (hM : RepM X W E M) (hi : M[i]? = some (.row t xs v c none)) (he : E[i]? = some e) : OList W (ORep W t) t.n xs e.val e.foot := hM.at_ i _ e hi he
/-- what is borrowed: the row's block is none of those that are kept away -/
theorem repC_quo {t : Ty} {qs : List t.quo.den} {v : Value} (h : OList W (ORep W t.quo) t.quo.n qs v v.ownBlock.toList) (hx : ∀ b ∈ v.ownBlock.toList, b ∉ X2) : RepC X2 W [] [] (.hs .no t.quo qs) v := by
  obtain ⟨F', ⟨A, c, e1, hs⟩, hF⟩ := ORep.rep (.list t.quo) (x := qs) (cs := [v]) (F := v.ownBlock.toList) ⟨v, rfl, h⟩
  have hlt := ORep.lt (.list t.quo) (x := qs) (cs := [v]) (F := v.ownBlock.toList) ⟨v, rfl, h⟩
  have e2 : v = .slice A qs.length c := by simpa using e1
  refine ⟨by rw [e2]; rfl, F', ⟨A, c, by rw [e2], hs⟩, fun b hb => ⟨⟨by simp [foots], hx b (hF b hb)⟩, hlt b (hF b hb)⟩⟩
/-- rows that were given away -/
def nilE (n : Nat) : Env := List.replicate n ⟨0, .slice none 0 0, []⟩
theorem foots_nilE (n : Nat) : foots (nilE n) = [] := by
  unfold foots nilE
  rw [List.flatMap_replicate]
  simp
/-- the result, its elements' slices the ones that came -/
theorem q_done {pm : Mem} {t : Ty} {ts : List Ty} {E' : Env} {v : Value} {rs : List t.quo.den} {ys : List t.den} {G : List Nat} (hM : RepM X W E pm) (hg : Grow W [] W' E') (hm : RepM X2 W' E' [.row t.quo rs 0 0 none])
    (hv : RepC X2 W' E' [.row t.quo rs 0 0 none] (.row 0 0) v) (hX : ∀ b ∈ X, b ∈ X2) (hq : QRows W t ys rs G) (hn : G.Nodup) (hG : ∀ b ∈ G, b ∈ foots E) :
    ∃ E2, GrowX W E W' E2 ∧ RepM X W' E2 (ts.map (fun a => Blk.row a [] 0 0 none) ++ [.row t ys 0 0 none]) ∧ RepC X W' E2 (ts.map (fun a => Blk.row a [] 0 0 none) ++ [.row t ys 0 0 none]) (.row ts.length 0) v := by
  have hl : E'.length = 1 := by rw [← hm.len]; rfl
  obtain ⟨e1, rfl⟩ : ∃ e1, E' = [e1] := by
    match E', hl with
    | [e], _ => exact ⟨e, rfl⟩
  have hrow : OList W' (ORep W' t.quo) t.quo.n rs e1.val e1.foot := hm.row (i := 0) rfl rfl
  have hve : v = e1.val := by
    have := hv.2
    unfold atRow at this
    obtain ⟨e, he, h⟩ := this.2 rfl
    obtain rfl : e1 = e := Option.some.inj he
    exact h
  have hGlt : ∀ b ∈ G, b < W.heap.size := fun b hb => hM.lt b (hG b hb)
  have hq' : QRows W' t ys rs G := hq.keep (fun b hb => hg.keep b (hGlt b hb) (by simp [foots]))
  obtain ⟨ho, hf⟩ := olist_back hrow hq'
  have hfe : ∀ b ∈ e1.foot, W.heap.size ≤ b := fun b hb => (hg.new b (by simp [foots, hb])).resolve_left (by simp [foots])
  have hfoot : foots (nilE ts.length ++ [⟨0, e1.val, e1.foot ++ G⟩]) = e1.foot ++ G := by rw [foots_append, foots_nilE]; simp [foots]
  have hlenE : (nilE ts.length).length = ts.length := by simp [nilE]
  refine ⟨nilE ts.length ++ [⟨0, e1.val, e1.foot ++ G⟩], ⟨hg.os, hg.tape, hg.output, hg.size, fun b hb _ => hg.keep b hb (by simp [foots]), fun b hb => ?_⟩, ⟨by simp [nilE], ?_, fun i b e hb he => ?_, fun b hb => ?_, fun b hb => ?_, fun b hb => ?_⟩, ?_⟩
  · rw [hfoot] at hb
    rcases List.mem_append.1 hb with hb | hb
    · exact .inr (hfe b hb)
    · exact .inl (hG b hb)
  · rw [hfoot, List.nodup_append]
    refine ⟨?_, hn, fun a ha b hb e => ?_⟩
    · have := hm.nodup
      simpa [foots] using this
    · subst e
      have := hfe a ha
      have := hGlt a hb
      omega
  · by_cases hi : i < ts.length
    · rw [List.getElem?_append_left (by simpa using hi), List.getElem?_map] at hb
      rw [List.getElem?_append_left (by rw [hlenE]; exact hi)] at he
      have he : e = ⟨0, .slice none 0 0, []⟩ := by
        unfold nilE at he
        rw [List.getElem?_replicate, if_pos hi] at he
        exact (Option.some.inj he).symm
      subst he
      rw [List.getElem?_eq_getElem hi] at hb
      obtain rfl := Option.some.inj hb
      exact ⟨0, [], [], World.ownsRow_nil W' 0 0 _, ⟨rfl, rfl⟩, rfl⟩
    · rw [List.getElem?_append_right (by simp; omega)] at hb
      rw [List.getElem?_append_right (by rw [hlenE]; omega), hlenE] at he
      simp only [List.length_map] at hb
      have h0 : i - ts.length = 0 := by
        have := (List.getElem?_eq_some_iff.1 hb).1
        simp at this
        omega
      rw [h0] at hb he
      obtain rfl := Option.some.inj hb
      obtain rfl := Option.some.inj he
      exact ho
  · rw [hfoot] at hb
    rcases List.mem_append.1 hb with hb | hb
    · exact hm.lt b (by simp [foots, hb])
    · exact Nat.lt_of_lt_of_le (hGlt b hb) hg.size
  · rw [hfoot]
    intro hb'
    rcases List.mem_append.1 hb' with hb' | hb'
    · exact hm.xlt b (hX b hb) (by simp [foots, hb'])
    · exact hM.xlt b hb (hG b hb')
  · exact Nat.lt_of_lt_of_le (hM.xsz b hb) hg.size
  · refine ⟨by rw [hve]; obtain ⟨T, cells, G0, h0, _⟩ := ho; exact ownsRow_one h0, ?_⟩
    unfold atRow
    rw [List.getElem?_append_right (by simp), List.getElem?_append_right (by simp [nilE])]
    simp [hve, nilE]
end
end Go.Proofs.YtigebfhekmjhmaaGreat
