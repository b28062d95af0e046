/-
  Draws.
  No condition but what the arguments' cells hold. Printed by vcgen.py.
-/
import Derived.Test.YtoigkpkafgjeaaaGreatDoorOBlSetT
set_option linter.unusedSimpArgs false
set_option linter.unusedVariables false
set_option maxRecDepth 100000
set_option maxHeartbeats 4000000
namespace Go.Proofs.YtoigkpkafgjeaaaGreatDoor
open Go.ChangeShapes Go.WideShapes Go.ChangeAt Go.RowKit Go.Joins Go.Deep
open GoRep (rep bulk)

abbrev GCur := List Int × Int × Int
def tyCur : Ty := .prod (.list (.int .u8)) (.prod tyInt tyInt)
class CurOk (c : GCur) : Prop where
  ge : 0 ≤ c.2.1
  le : c.2.1 ≤ c.1.length
  len : c.1.length ≤ maxLen
def bAnd (a b : Int) : Int := IntKind.wrap .i64 (((BitVec.ofInt (IntKind.bits .i64) a &&& BitVec.ofInt (IntKind.bits .i64) b).toNat : Nat))
theorem bAnd_255 (a : Int) : 0 ≤ bAnd a 255 ∧ bAnd a 255 < 256 := by
  unfold bAnd
  have h : (BitVec.ofInt (IntKind.bits .i64) a &&& BitVec.ofInt (IntKind.bits .i64) 255).toNat ≤ 255 := by
    rw [BitVec.toNat_and]
    exact Nat.le_trans Nat.and_le_right (by decide)
  rw [w64i (by omega) (by omega)]
  omega
theorem leB_cur {a a' : List Int} {b b' d d' : Int} : leB (.box [.hs .no (.int .u8) a, .int .i64 b, .int .i64 d]) (.box [.hs .no (.int .u8) a', .int .i64 b', .int .i64 d']) = ((a, b, d) = (a', b', d')) := by
  refine propext ⟨fun h => ?_, fun h => ?_⟩
  · have h := leB_eq h
    injection h with h
    injection h with h1 h
    injection h with h2 h
    injection h with h3 _
    injection h1 with _ _ h1
    injection h2 with _ h2
    injection h3 with _ h3
    exact Prod.ext h1 (Prod.ext h2 h3)
  · cases h
    exact Eq.mpr leB_refl trivial
def hN (h : Int) : Int := IntKind.wrap .i64 (IntKind.wrap .i64 (h * 6364136223846793005) + 1442695040888963407)
def xorI (a b : Int) : Int := IntKind.wrap .i64 (((BitVec.ofInt (IntKind.bits .i64) a ^^^ BitVec.ofInt (IntKind.bits .i64) b).toNat : Nat))
def byteV (c : GCur) : Int :=
  bif ltI c.2.1 ((List.length c.1 : Nat) : Int) then bAnd (IntKind.wrap .i64 (bAnd (xorI (shrI .i64 (hN c.2.2) 33) (shrI .i64 (hN c.2.2) 45)) 255 + IntKind.wrap .i64 (nth (.int .u8) c.1 (Int.toNat c.2.1)))) 255
  else bAnd (xorI (shrI .i64 (hN c.2.2) 33) (shrI .i64 (hN c.2.2) 45)) 255
def cuE (x y : GCur) : Prop := ((true = true ∧ leC (.hs .no (.int .u8) x.1) (.hs .no (.int .u8) y.1)) ∧ (true = true ∧ leC (.int .i64 x.2.1) (.int .i64 y.2.1)) ∧ (true = true ∧ leC (.int .i64 x.2.2) (.int .i64 y.2.2)) ∧ True)
theorem cuE_eq {x y : GCur} : cuE x y = (x = y) := by
  unfold cuE
  simp only [leC_int, true_and, and_true]
  refine propext ⟨fun h => ?_, fun h => by subst h; exact ⟨⟨rfl, rfl, rfl⟩, rfl, rfl⟩⟩
  obtain ⟨⟨_, _, h1⟩, h2, h3⟩ := h
  exact Prod.ext h1 (Prod.ext h2 h3)
def cu (c : GCur) : Prop := ((CurOk c ∧ ((cuE c c) ∧ True)) ∧ true = true)
theorem cu_eq {c : GCur} : cu c = CurOk c := by
  unfold cu
  simp only [cuE_eq, and_true]
def byteN (c : GCur) : GCur := bif ltI c.2.1 ((List.length c.1 : Nat) : Int) then (c.1, IntKind.wrap .i64 (c.2.1 + 1), hN c.2.2) else (c.1, c.2.1, hN c.2.2)
def k0avhpx (c : GCur) : Prop := (true = true ∧ leC (.int .i64 (IntKind.wrap .i64 ((IntKind.wrap .i64 (c.2.2 * 6364136223846793005)) + 1442695040888963407))) (.int .i64 (byteN c).2.2))
theorem m_s_l1Byte (c : GCur) (hpre : CurOk c) : MCalls Tryz.prog 45 (argsM 0 [(.b tyCur)] (c, ())) (preM 0 [(.b tyCur)] (c, ())) (postM 0 [(.b tyCur)] (byteN c, ()) ++ []) (inpM 0 [(.b tyCur)]) (.c (.int .i64 (byteV c))) := by
  refine mcalls_of (T := ⟨[], [], [], [], none, fun _ => [], 1, [], []⟩) (L := L0) Tryz.func45 rfl rfl rfl (by kernel_rfl) (fun hwf hwm => ?_)
  refine Eq.mpr (β := (T11 ((true = true ∧ true = true) ∧ (T4 ((0 : Int) ≤ 33 ∧ (T4 ((0 : Int) ≤ 45 ∧ (T3 ((true = true ∧ true = true) ∧ (T10 (bif (ltI c.2.1 ((List.length c.1 : Nat) : Int)) then ((true = true ∧ true = true) ∧ (T9 (((1 : Nat) = 1 ∧ (0 : Int) ≤ c.2.1 ∧ (c.2.1 : Int) < ((List.length c.1 : Nat) : Int)) ∧ (True ∧ (true = true ∧ (T12 (T2 ((((((true = true ∧ leC (.hs .no (.int .u8) c.1) (.hs .no (.int .u8) (byteN c).1)) ∧ (true = true ∧ leC (.int .i64 (IntKind.wrap .i64 (c.2.1 + 1))) (.int .i64 (byteN c).2.1)) ∧ (k0avhpx c) ∧ True)) ∧ True) ∧ (true = true ∧ leC (.int .i64 (IntKind.wrap .i64 (((BitVec.ofInt (IntKind.bits .i64) (IntKind.wrap .i64 ((IntKind.wrap .i64 (((BitVec.ofInt (IntKind.bits .i64) (IntKind.wrap .i64 (((BitVec.ofInt (IntKind.bits .i64) (shrI .i64 (IntKind.wrap .i64 ((IntKind.wrap .i64 (c.2.2 * 6364136223846793005)) + 1442695040888963407)) 33) ^^^ BitVec.ofInt (IntKind.bits .i64) (shrI .i64 (IntKind.wrap .i64 ((IntKind.wrap .i64 (c.2.2 * 6364136223846793005)) + 1442695040888963407)) 45)).toNat : Nat))) &&& BitVec.ofInt (IntKind.bits .i64) 255).toNat : Nat))) + (IntKind.wrap .i64 (nth (.int .u8) c.1 (Int.toNat c.2.1))))) &&& BitVec.ofInt (IntKind.bits .i64) 255).toNat : Nat)))) (.int .i64 (byteV c)))) ∧ true = true)))))))) else (T2 ((((((true = true ∧ leC (.hs .no (.int .u8) c.1) (.hs .no (.int .u8) (byteN c).1)) ∧ (true = true ∧ leC (.int .i64 c.2.1) (.int .i64 (byteN c).2.1)) ∧ (k0avhpx c) ∧ True)) ∧ True) ∧ (true = true ∧ leC (.int .i64 (IntKind.wrap .i64 (((BitVec.ofInt (IntKind.bits .i64) (IntKind.wrap .i64 (((BitVec.ofInt (IntKind.bits .i64) (shrI .i64 (IntKind.wrap .i64 ((IntKind.wrap .i64 (c.2.2 * 6364136223846793005)) + 1442695040888963407)) 33) ^^^ BitVec.ofInt (IntKind.bits .i64) (shrI .i64 (IntKind.wrap .i64 ((IntKind.wrap .i64 (c.2.2 * 6364136223846793005)) + 1442695040888963407)) 45)).toNat : Nat))) &&& BitVec.ofInt (IntKind.bits .i64) 255).toNat : Nat)))) (.int .i64 (byteV c)))) ∧ true = true))))))))))))) (by kernel_rfl) ?_
  unfold k0avhpx T10 T11 T12 T2 T3 T4 T9
  have hg := hpre.ge
  have hl := hpre.le
  simp only [SIU, cuE_eq, eq_self]
  repeat' (with_reducible first | exact trivial | apply And.intro | apply bifI | intro _)
  all_goals first
    | (rename_i h; have h' := ltI_true.1 h; exact h')
    | omega
    | (simp only [byteN, byteV, bAnd, xorI, hN, *, cond_true, cond_false]; done)
    | (simp only [byteN, *, cond_true, cond_false]; exact leC_refl)
def e_s_l1Byte : MEntry Tryz.prog := ⟨45, [(.b tyCur)], fun x => CurOk x.1, fun x => (byteN x.1, ()), fun x => .c (.int .i64 (byteV x.1)), fun _ => [], fun x hx => m_s_l1Byte x.1 hx, Tryz.call45⟩
instance (c : GCur) [h : CurOk c] : CurOk (byteN c) := by
  have h1 := h.ge
  have h2 := h.le
  have h3 := h.len
  unfold maxLen at h3
  refine ⟨?_, ?_, ?_⟩ <;> unfold byteN <;> cases hb : ltI c.2.1 ((List.length c.1 : Nat) : Int) <;> simp only [cond_true, cond_false]
  · exact h1
  · have := ltI_true.1 hb
    rw [w64i (by omega) (by omega)]; omega
  · exact h2
  · have := ltI_true.1 hb
    rw [w64i (by omega) (by omega)]; omega
  · exact h.len
  · exact h.len
theorem byteV_b (c : GCur) : 0 ≤ byteV c ∧ byteV c < 256 := by
  unfold byteV
  cases ltI c.2.1 ((List.length c.1 : Nat) : Int) <;> exact bAnd_255 _
def below (c : GCur) (n : Int) : Int × GCur := (bif (leI n 0) then (0, c) else (bif (leI n 256) then ((Int.tmod (byteV c) n), (byteN c)) else ((Int.tmod (IntKind.wrap .i64 ((IntKind.wrap .i64 ((IntKind.wrap .i64 ((IntKind.wrap .i64 (byteV c * 16777216)) + (IntKind.wrap .i64 (byteV (byteN c) * 65536)))) + (IntKind.wrap .i64 (byteV (byteN (byteN c)) * 256)))) + byteV (byteN (byteN (byteN c))))) n), (byteN (byteN (byteN (byteN c)))))))
instance below_ok (c : GCur) (n : Int) [CurOk c] : CurOk (below c n).2 := by
  unfold below
  simp only [bif_if]
  repeat' split
  all_goals infer_instance
theorem m_s_l1Below (c : GCur) (n : Int) (hpre : CurOk c) : MCalls Tryz.prog 22 (argsM 0 [(.b tyCur), (.a (.v tyInt))] (c, n, ())) (preM 0 [(.b tyCur), (.a (.v tyInt))] (c, n, ())) (postM 0 [(.b tyCur), (.a (.v tyInt))] ((below c n).2, n, ()) ++ []) (inpM 0 [(.b tyCur), (.a (.v tyInt))]) (.c (.int .i64 (below c n).1)) := by
  refine mcalls_of (T := ⟨[], [], [], [e_s_l1Byte], none, fun _ => [], 1, [], []⟩) (L := L0) Tryz.func22 rfl rfl rfl (by kernel_rfl) (fun hwf hwm => ?_)
  refine Eq.mpr (β := (T3 (bif (leI n 0) then (True ∧ (((((cuE c (below c n).2)) ∧ True) ∧ (true = true ∧ leC (.int .i64 0) (.int .i64 (below c n).1))) ∧ true = true)) else (T2 (bif (leI n 256) then (True ∧ ((cu c) ∧ (True ∧ ((n : Int) ≠ 0 ∧ (True ∧ (((((cuE (byteN c) (below c n).2)) ∧ True) ∧ (true = true ∧ leC (.int .i64 (Int.tmod (byteV c) n)) (.int .i64 (below c n).1))) ∧ true = true)))))) else (True ∧ ((cu c) ∧ (T2 ((cu (byteN c)) ∧ (T2 ((cu (byteN (byteN c))) ∧ (T2 ((cu (byteN (byteN (byteN c)))) ∧ (T12 ((n : Int) ≠ 0 ∧ (True ∧ (((((cuE (byteN (byteN (byteN (byteN c)))) (below c n).2)) ∧ True) ∧ (true = true ∧ leC (.int .i64 (Int.tmod (IntKind.wrap .i64 ((IntKind.wrap .i64 ((IntKind.wrap .i64 ((IntKind.wrap .i64 (byteV c * 16777216)) + (IntKind.wrap .i64 (byteV (byteN c) * 65536)))) + (IntKind.wrap .i64 (byteV (byteN (byteN c)) * 256)))) + byteV (byteN (byteN (byteN c))))) n)) (.int .i64 (below c n).1))) ∧ true = true))))))))))))))))) (by kernel_rfl) ?_
  unfold T12 T2 T3
  simp only [SIU, cuE_eq, cu_eq, eq_self]
  repeat' (with_reducible first | exact trivial | apply And.intro | apply bifI | intro _)
  all_goals first
    | (with_reducible trivial)
    | omega
    | (with_reducible infer_instance)
    | (simp only [below, cond_true, cond_false, Int.toNat_natCast, *]; done)
    | (subst_vars; simp only [below, cond_true, cond_false, Int.toNat_natCast, *]; done)
    | (simp only [below, cond_true, cond_false, *]; exact leC_refl)
    | (have := leI_false.1 (by assumption : leI n 0 = false); omega)
def e_s_l1Below : MEntry Tryz.prog := ⟨22, [(.b tyCur), (.a (.v tyInt))], fun x => CurOk x.1, fun x => ((below x.1 x.2.1).2, x.2.1, ()), fun x => .c (.int .i64 (below x.1 x.2.1).1), fun _ => [], fun x hx => m_s_l1Below x.1 x.2.1 hx, Tryz.call22⟩
theorem below_b {c : GCur} {n : Int} (h : 0 < n) : 0 ≤ (below c n).1 ∧ (below c n).1 < n := by
  have b1 := byteV_b c
  have b2 := byteV_b (byteN c)
  have b3 := byteV_b (byteN (byteN c))
  have b4 := byteV_b (byteN (byteN (byteN c)))
  have e : leI n 0 = false := leI_false.2 (by omega)
  unfold below
  rw [e]
  cases leI n 256 with
  | true => exact ⟨Int.tmod_nonneg _ b1.1, Int.tmod_lt_of_pos _ h⟩
  | false =>
    refine ⟨Int.tmod_nonneg _ ?_, Int.tmod_lt_of_pos _ h⟩
    rw [w64i (x := byteV c * 16777216) (by omega) (by omega), w64i (x := byteV (byteN c) * 65536) (by omega) (by omega), w64i (x := byteV (byteN (byteN c)) * 256) (by omega) (by omega), w64i (x := byteV c * 16777216 + byteV (byteN c) * 65536) (by omega) (by omega), w64i (x := byteV c * 16777216 + byteV (byteN c) * 65536 + byteV (byteN (byteN c)) * 256) (by omega) (by omega), w64i (by omega) (by omega)]
    omega
def once (c : GCur) (n : Int) : Bool × GCur := ((eqI (below c n).1 0), (below c n).2)
instance once_ok (c : GCur) (n : Int) [CurOk c] : CurOk (once c n).2 := by
  unfold once
  simp only [bif_if]
  repeat' split
  all_goals infer_instance
theorem m_s_l1Once (c : GCur) (n : Int) (hpre : CurOk c) : MCalls Tryz.prog 24 (argsM 0 [(.b tyCur), (.a (.v tyInt))] (c, n, ())) (preM 0 [(.b tyCur), (.a (.v tyInt))] (c, n, ())) (postM 0 [(.b tyCur), (.a (.v tyInt))] ((once c n).2, n, ()) ++ []) (inpM 0 [(.b tyCur), (.a (.v tyInt))]) (.c (.bool (once c n).1)) := by
  refine mcalls_of (T := ⟨[], [], [], [e_s_l1Below], none, fun _ => [], 1, [], []⟩) (L := L0) Tryz.func24 rfl rfl rfl (by kernel_rfl) (fun hwf hwm => ?_)
  refine Eq.mpr (β := (True ∧ (True ∧ (True ∧ ((cu c) ∧ (True ∧ (True ∧ (((((cuE (below c n).2 (once c n).2)) ∧ True) ∧ (true = true ∧ leC (.bool (eqI (below c n).1 0)) (.bool (once c n).1))) ∧ true = true)))))))) (by kernel_rfl) ?_
  simp only [SIU, cuE_eq, cu_eq, eq_self]
  repeat' (with_reducible first | exact trivial | apply And.intro | apply bifI | intro _)
  all_goals first
    | (with_reducible trivial)
    | omega
    | (with_reducible infer_instance)
    | (simp only [once, cond_true, cond_false, Int.toNat_natCast, *]; done)
    | (subst_vars; simp only [once, cond_true, cond_false, Int.toNat_natCast, *]; done)
    | (simp only [once, cond_true, cond_false, *]; exact leC_refl)
def e_s_l1Once : MEntry Tryz.prog := ⟨24, [(.b tyCur), (.a (.v tyInt))], fun x => CurOk x.1, fun x => ((once x.1 x.2.1).2, x.2.1, ()), fun x => .c (.bool (once x.1 x.2.1).1), fun _ => [], fun x hx => m_s_l1Once x.1 x.2.1 hx, Tryz.call24⟩
def pick (c : GCur) (list : List ByteArray) : ByteArray × GCur := ((nth_String list (Int.toNat (below c ((List.length list : Nat) : Int)).1)), (below c ((List.length list : Nat) : Int)).2)
instance pick_ok (c : GCur) (list : List ByteArray) [CurOk c] : CurOk (pick c list).2 := by
  unfold pick
  simp only [bif_if]
  repeat' split
  all_goals infer_instance
theorem m_s_l1Pick (c : GCur) (list : List ByteArray) (hpre : (CurOk c ∧ 0 < List.length list)) : MCalls Tryz.prog 43 (argsM 0 [(.b tyCur), (.q false (.list tyStr))] (c, list, ())) (preM 0 [(.b tyCur), (.q false (.list tyStr))] (c, list, ())) (postM 0 [(.b tyCur), (.q false (.list tyStr))] ((pick c list).2, list, ()) ++ []) (inpM 0 [(.b tyCur), (.q false (.list tyStr))]) (.c (.str (pick c list).1)) := by
  refine mcalls_of (T := ⟨[], [], [], [e_s_l1Below], none, fun _ => [], 2, [1], []⟩) (L := L0) Tryz.func43 rfl rfl rfl (by kernel_rfl) (fun hwf hwm => ?_)
  refine Eq.mpr (β := (True ∧ (True ∧ (True ∧ (True ∧ (True ∧ ((cu c) ∧ (((1 : Nat) = 1 ∧ (0 : Int) ≤ (below c ((List.length list : Nat) : Int)).1 ∧ ((below c ((List.length list : Nat) : Int)).1 : Int) < ((List.length list : Nat) : Int)) ∧ (True ∧ (True ∧ (((((cuE (below c ((List.length list : Nat) : Int)).2 (pick c list).2)) ∧ (list = list) ∧ True) ∧ (true = true ∧ leC (.str (nth_String list (Int.toNat (below c ((List.length list : Nat) : Int)).1))) (.str (pick c list).1))) ∧ true = true))))))))))) (by kernel_rfl) ?_
  obtain ⟨hc, hp⟩ := hpre
  simp only [SIU, cuE_eq, cu_eq, eq_self]
  repeat' (with_reducible first | exact trivial | apply And.intro | apply bifI | intro _)
  all_goals first
    | (with_reducible trivial)
    | omega
    | (with_reducible infer_instance)
    | (simp only [pick, cond_true, cond_false, Int.toNat_natCast, *]; done)
    | (subst_vars; simp only [pick, cond_true, cond_false, Int.toNat_natCast, *]; done)
    | (simp only [pick, cond_true, cond_false, *]; exact leC_refl)
    | exact (below_b (by omega)).1
    | exact (below_b (by omega)).2
def e_s_l1Pick : MEntry Tryz.prog := ⟨43, [(.b tyCur), (.q false (.list tyStr))], fun x => (CurOk x.1 ∧ 0 < List.length x.2.1), fun x => ((pick x.1 x.2.1).2, x.2.1, ()), fun x => .c (.str (pick x.1 x.2.1).1), fun _ => [], fun x hx => m_s_l1Pick x.1 x.2.1 hx, Tryz.call43⟩
def pickInt (c : GCur) (list : List Int) : Int × GCur := ((nth_Int list (Int.toNat (below c ((List.length list : Nat) : Int)).1)), (below c ((List.length list : Nat) : Int)).2)
instance pickInt_ok (c : GCur) (list : List Int) [CurOk c] : CurOk (pickInt c list).2 := by
  unfold pickInt
  simp only [bif_if]
  repeat' split
  all_goals infer_instance
theorem m_s_l1PickInt (c : GCur) (list : List Int) (hpre : (CurOk c ∧ 0 < List.length list)) : MCalls Tryz.prog 52 (argsM 0 [(.b tyCur), (.q false (.list tyInt))] (c, list, ())) (preM 0 [(.b tyCur), (.q false (.list tyInt))] (c, list, ())) (postM 0 [(.b tyCur), (.q false (.list tyInt))] ((pickInt c list).2, list, ()) ++ []) (inpM 0 [(.b tyCur), (.q false (.list tyInt))]) (.c (.int .i64 (pickInt c list).1)) := by
  refine mcalls_of (T := ⟨[], [], [], [e_s_l1Below], none, fun _ => [], 2, [1], []⟩) (L := L0) Tryz.func52 rfl rfl rfl (by kernel_rfl) (fun hwf hwm => ?_)
  refine Eq.mpr (β := (True ∧ (True ∧ (True ∧ (True ∧ (True ∧ ((cu c) ∧ (((1 : Nat) = 1 ∧ (0 : Int) ≤ (below c ((List.length list : Nat) : Int)).1 ∧ ((below c ((List.length list : Nat) : Int)).1 : Int) < ((List.length list : Nat) : Int)) ∧ (True ∧ (True ∧ (((((cuE (below c ((List.length list : Nat) : Int)).2 (pickInt c list).2)) ∧ (list = list) ∧ True) ∧ (true = true ∧ leC (.int .i64 (nth_Int list (Int.toNat (below c ((List.length list : Nat) : Int)).1))) (.int .i64 (pickInt c list).1))) ∧ true = true))))))))))) (by kernel_rfl) ?_
  obtain ⟨hc, hp⟩ := hpre
  simp only [SIU, cuE_eq, cu_eq, eq_self]
  repeat' (with_reducible first | exact trivial | apply And.intro | apply bifI | intro _)
  all_goals first
    | (with_reducible trivial)
    | omega
    | (with_reducible infer_instance)
    | (simp only [pickInt, cond_true, cond_false, Int.toNat_natCast, *]; done)
    | (subst_vars; simp only [pickInt, cond_true, cond_false, Int.toNat_natCast, *]; done)
    | (simp only [pickInt, cond_true, cond_false, *]; exact leC_refl)
    | exact (below_b (by omega)).1
    | exact (below_b (by omega)).2
def e_s_l1PickInt : MEntry Tryz.prog := ⟨52, [(.b tyCur), (.q false (.list tyInt))], fun x => (CurOk x.1 ∧ 0 < List.length x.2.1), fun x => ((pickInt x.1 x.2.1).2, x.2.1, ()), fun x => .c (.int .i64 (pickInt x.1 x.2.1).1), fun _ => [], fun x hx => m_s_l1PickInt x.1 x.2.1 hx, Tryz.call52⟩
end Go.Proofs.YtoigkpkafgjeaaaGreatDoor
