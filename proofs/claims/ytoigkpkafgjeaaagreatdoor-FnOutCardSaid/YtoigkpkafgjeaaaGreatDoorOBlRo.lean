/-
  Right replies.
  No condition but what the arguments' cells hold. Printed by vcgen.py.
-/
import Derived.Test.YtoigkpkafgjeaaaGreatDoorOBlHy
set_option linter.unusedSimpArgs false
set_option linter.unusedVariables false
set_option maxRecDepth 100000
set_option maxHeartbeats 4000000
namespace Go.Proofs.YtoigkpkafgjeaaaGreatDoor
open Go.ChangeShapes Go.WideShapes Go.ChangeAt Go.RowKit Go.Joins Go.Deep
open GoRep (rep bulk)

def repN (k : Int) : Bool := btw k 1 5 || eqI k 8
def repU (k : Int) : Bool := eqI k 3 || eqI k 5
def emp (s : ByteArray) : Bool := eqS s (⟨#[]⟩ : ByteArray)
def replyB (k n u f : Int) (nm tx : ByteArray) : Bool :=
  btw k 1 16 && ((if repN k = true then btw n (if btw k 2 4 = true then 1 else 0) 999999999 else eqI n 0) && ((if repU k = true then btw u 1 999999999 else eqI u 0) &&
    ((if k = 3 then flagsOk f else eqI f 0) && ((if btw k 5 8 = true then nameOk nm else if btw k 12 14 = true then tagOk nm || eqS nm (⟨#[42]⟩ : ByteArray) else emp nm) &&
    (if k = 4 then leI ((ByteArray.size tx : Nat) : Int) 40 else emp tx)))))
def replyOk (r : GReply) : Bool := replyB r.1 r.2.1 r.2.2.1 r.2.2.2.1 r.2.2.2.2.1 r.2.2.2.2.2
def wN (k n : Int) : Int := bif repN k then n else 0
def wU (k u : Int) : Int := bif repU k then u else 0
def wM (k : Int) (nm : ByteArray) : ByteArray := bif btw k 5 8 || btw k 12 14 then nm else (⟨#[]⟩ : ByteArray)
def wF (k f : Int) : Int := bif eqI k 3 then f else 0
def wT (k : Int) (tx : ByteArray) : ByteArray := bif eqI k 4 then tx else (⟨#[]⟩ : ByteArray)
def wL (k : Int) : Int := bif btw k 2 4 then 1 else 0
theorem b_s_l14Named (k : Int) : BCalls Tryz.prog 47 [.c (.int .i64 k)] (.c (.bool (btw k 5 8))) [] := by
  refine bc0 [e_s_l1In] [] [] [] L0 Tryz.func47 (fun hwf => ?_)
  refine Eq.mpr (β := (True ∧ (True ∧ ((True ∧ true = true) ∧ (True ∧ (rB (btw k 5 8) (btw k 5 8))))))) (by kernel_rfl) ?_
  simp only [SIA, eq_self]
  repeat' (first | apply And.intro | intro _)
  all_goals (first | trivial | (rw [Bool.eq_iff_iff]; simp_all [Prod.ext_iff, EQA]; done) | (simp_all [Prod.ext_iff, EQA]; done) | omega)
def e_s_l14Named : Entry Tryz.prog := ⟨47, [.v tyInt], fun x => True, fun x => .c (.bool (btw x.1 5 8)), fun _ => [], fun x hx => b_s_l14Named x.1, Tryz.call47⟩
theorem b_s_l14Tagged (k : Int) : BCalls Tryz.prog 49 [.c (.int .i64 k)] (.c (.bool (btw k 12 14))) [] := by
  refine bc0 [e_s_l1In] [] [] [] L0 Tryz.func49 (fun hwf => ?_)
  refine Eq.mpr (β := (True ∧ (True ∧ ((True ∧ true = true) ∧ (True ∧ (rB (btw k 12 14) (btw k 12 14))))))) (by kernel_rfl) ?_
  simp only [SIA, eq_self]
  repeat' (first | apply And.intro | intro _)
  all_goals (first | trivial | (rw [Bool.eq_iff_iff]; simp_all [Prod.ext_iff, EQA]; done) | (simp_all [Prod.ext_iff, EQA]; done) | omega)
def e_s_l14Tagged : Entry Tryz.prog := ⟨49, [.v tyInt], fun x => True, fun x => .c (.bool (btw x.1 12 14)), fun _ => [], fun x hx => b_s_l14Tagged x.1, Tryz.call49⟩
theorem eqC6 {a b c d : Int} {e g : ByteArray} : eqC_Commit (a, b, c, d, e, g) (0, 0, 0, 0, (⟨#[]⟩ : ByteArray), (⟨#[]⟩ : ByteArray)) = (eqI a 0 && (eqI b 0 && (eqI c 0 && (eqI d 0 && (emp e && emp g))))) := by
  rw [Bool.eq_iff_iff, eqC_Commit_true]
  simp only [Bool.and_eq_true, eqI_true, emp, eqS_true, Prod.mk.injEq]
theorem rok_kind {k n u f : Int} {nm tx : ByteArray} (h : ¬ (1 ≤ k ∧ k ≤ 16)) : replyB k n u f nm tx = false := by
  unfold replyB
  have : btw k 1 16 = false := by cases e : btw k 1 16 with
    | false => rfl
    | true => exact absurd (btw_iff.1 e) h
  rw [this]
  rfl
theorem rok1 {n u f : Int} {nm tx : ByteArray} : replyB 1 n u f nm tx = (btw n 0 999999999 && (eqI u 0 && (eqI f 0 && (emp nm && emp tx)))) := rfl
theorem rok2 {n u f : Int} {nm tx : ByteArray} : replyB 2 n u f nm tx = (btw n 1 999999999 && (eqI u 0 && (eqI f 0 && (emp nm && emp tx)))) := rfl
theorem rok3 {n u f : Int} {nm tx : ByteArray} : replyB 3 n u f nm tx = (btw n 1 999999999 && (btw u 1 999999999 && (flagsOk f && (emp nm && emp tx)))) := rfl
theorem rok4 {n u f : Int} {nm tx : ByteArray} : replyB 4 n u f nm tx = (btw n 1 999999999 && (eqI u 0 && (eqI f 0 && (emp nm && leI ((ByteArray.size tx : Nat) : Int) 40)))) := rfl
theorem rok5 {n u f : Int} {nm tx : ByteArray} : replyB 5 n u f nm tx = (btw n 0 999999999 && (btw u 1 999999999 && (eqI f 0 && (nameOk nm && emp tx)))) := rfl
theorem rok6 {n u f : Int} {nm tx : ByteArray} : replyB 6 n u f nm tx = (eqI n 0 && (eqI u 0 && (eqI f 0 && (nameOk nm && emp tx)))) := rfl
theorem rok7 {n u f : Int} {nm tx : ByteArray} : replyB 7 n u f nm tx = (eqI n 0 && (eqI u 0 && (eqI f 0 && (nameOk nm && emp tx)))) := rfl
theorem rok8 {n u f : Int} {nm tx : ByteArray} : replyB 8 n u f nm tx = (btw n 0 999999999 && (eqI u 0 && (eqI f 0 && (nameOk nm && emp tx)))) := rfl
theorem rok9 {n u f : Int} {nm tx : ByteArray} : replyB 9 n u f nm tx = (eqI n 0 && (eqI u 0 && (eqI f 0 && (emp nm && emp tx)))) := rfl
theorem rok10 {n u f : Int} {nm tx : ByteArray} : replyB 10 n u f nm tx = (eqI n 0 && (eqI u 0 && (eqI f 0 && (emp nm && emp tx)))) := rfl
theorem rok11 {n u f : Int} {nm tx : ByteArray} : replyB 11 n u f nm tx = (eqI n 0 && (eqI u 0 && (eqI f 0 && (emp nm && emp tx)))) := rfl
theorem rok12 {n u f : Int} {nm tx : ByteArray} : replyB 12 n u f nm tx = (eqI n 0 && (eqI u 0 && (eqI f 0 && ((tagOk nm || eqS nm (⟨#[42]⟩ : ByteArray)) && emp tx)))) := rfl
theorem rok13 {n u f : Int} {nm tx : ByteArray} : replyB 13 n u f nm tx = (eqI n 0 && (eqI u 0 && (eqI f 0 && ((tagOk nm || eqS nm (⟨#[42]⟩ : ByteArray)) && emp tx)))) := rfl
theorem rok14 {n u f : Int} {nm tx : ByteArray} : replyB 14 n u f nm tx = (eqI n 0 && (eqI u 0 && (eqI f 0 && ((tagOk nm || eqS nm (⟨#[42]⟩ : ByteArray)) && emp tx)))) := rfl
theorem rok15 {n u f : Int} {nm tx : ByteArray} : replyB 15 n u f nm tx = (eqI n 0 && (eqI u 0 && (eqI f 0 && (emp nm && emp tx)))) := rfl
theorem rok16 {n u f : Int} {nm tx : ByteArray} : replyB 16 n u f nm tx = (eqI n 0 && (eqI u 0 && (eqI f 0 && (emp nm && emp tx)))) := rfl
theorem e00 : eqI 0 0 = true := rfl
theorem emp0 : emp (⟨#[]⟩ : ByteArray) = true := rfl
def k2cz2lo (r : GCommit) : Prop := (T2 (true = true ∧ (T2 (rB (eqC_Commit (0, (r.2.1, (r.2.2.1, (r.2.2.2.1, ((⟨#[]⟩ : ByteArray), r.2.2.2.2.2))))) (0, (0, (0, (0, ((⟨#[]⟩ : ByteArray), (⟨#[]⟩ : ByteArray))))))) (replyOk r)))))
def k4cz2lo (r : GCommit) : Prop := (T2 (rB false (replyOk r)))
def k0cz2lo (r : GCommit) : Prop := (T2 ((True ∧ true = true) ∧ (True ∧ (bif tagOk r.2.2.2.2.1 then (T6 (k2cz2lo r)) else (T9 (bif (eqS r.2.2.2.2.1 (⟨#[42]⟩ : ByteArray)) then (k2cz2lo r) else (k4cz2lo r)))))))
def k1cz2lo (r : GCommit) : Prop := (T4 (true = true ∧ (T2 (rB (eqC_Commit (0, r.2) (0, (0, (0, (0, ((⟨#[]⟩ : ByteArray), (⟨#[]⟩ : ByteArray))))))) (replyOk r)))))
def k3cz2lo (r : GCommit) : Prop := (T8 (k4cz2lo r))
def k5cz2lo (r : GCommit) : Prop := (T2 (true = true ∧ (T2 (rB (eqC_Commit (0, (0, r.2.2)) (0, (0, (0, (0, ((⟨#[]⟩ : ByteArray), (⟨#[]⟩ : ByteArray))))))) (replyOk r)))))
theorem b_i_ReplyOk (r : GCommit) : BCalls Tryz.prog 18 [.ag (cellsOf tyCommit r)] (.c (.bool (replyOk r))) [] := by
  refine bc0 [e_i_within, e_i_isId, e_i_FlagsOk, e_i_NameOk, e_i_TagOk] [] [] [] L0 Tryz.func18 (fun hwf => ?_)
  refine Eq.mpr (β := (T12 (bif (eqI r.1 1) then (T2 ((True ∧ true = true) ∧ (T5 (bif btw r.2.1 0 999999999 then (k5cz2lo r) else (k4cz2lo r))))) else (T2 (bif (eqI r.1 2) then (T2 ((True ∧ true = true) ∧ (T5 (bif btw r.2.1 1 999999999 then (k5cz2lo r) else (k4cz2lo r))))) else (T2 (bif (eqI r.1 3) then (T2 ((True ∧ true = true) ∧ (True ∧ (bif btw r.2.1 1 999999999 then (T2 ((True ∧ true = true) ∧ (T2 (bif btw r.2.2.1 1 999999999 then (T2 ((True ∧ true = true) ∧ (T10 (bif flagsOk r.2.2.2.1 then (T2 (true = true ∧ (T2 (rB (eqC_Commit (0, (0, (0, (0, r.2.2.2.2)))) (0, (0, (0, (0, ((⟨#[]⟩ : ByteArray), (⟨#[]⟩ : ByteArray))))))) (replyOk r))))) else (k4cz2lo r))))) else (T2 (k3cz2lo r)))))) else (T4 (k3cz2lo r)))))) else (T2 (bif (eqI r.1 4) then (T2 ((True ∧ true = true) ∧ (True ∧ (bif btw r.2.1 1 999999999 then (T12 (bif (leI ((ByteArray.size r.2.2.2.2.2 : Nat) : Int) 40) then (T2 (true = true ∧ (T2 (rB (eqC_Commit (0, (0, (r.2.2.1, (r.2.2.2.1, (r.2.2.2.2.1, (⟨#[]⟩ : ByteArray)))))) (0, (0, (0, (0, ((⟨#[]⟩ : ByteArray), (⟨#[]⟩ : ByteArray))))))) (replyOk r))))) else (k4cz2lo r))) else (k3cz2lo r))))) else (T2 (bif (eqI r.1 5) then (T2 ((True ∧ true = true) ∧ (True ∧ (bif btw r.2.1 0 999999999 then (T2 ((True ∧ true = true) ∧ (T2 (bif btw r.2.2.1 1 999999999 then (T2 ((True ∧ true = true) ∧ (T10 (bif nameOk r.2.2.2.2.1 then (T2 (true = true ∧ (T2 (rB (eqC_Commit (0, (0, (0, (r.2.2.2.1, ((⟨#[]⟩ : ByteArray), r.2.2.2.2.2))))) (0, (0, (0, (0, ((⟨#[]⟩ : ByteArray), (⟨#[]⟩ : ByteArray))))))) (replyOk r))))) else (k4cz2lo r))))) else (T2 (k3cz2lo r)))))) else (T4 (k3cz2lo r)))))) else (T2 (bif (eqI r.1 6) then (T2 ((True ∧ true = true) ∧ (T5 (bif nameOk r.2.2.2.2.1 then (k2cz2lo r) else (k4cz2lo r))))) else (T2 (bif (eqI r.1 7) then (T2 ((True ∧ true = true) ∧ (T5 (bif nameOk r.2.2.2.2.1 then (k2cz2lo r) else (k4cz2lo r))))) else (T2 (bif (eqI r.1 8) then (T2 ((True ∧ true = true) ∧ (True ∧ (bif btw r.2.1 0 999999999 then (T2 ((True ∧ true = true) ∧ (T8 (bif nameOk r.2.2.2.2.1 then (T2 (true = true ∧ (T2 (rB (eqC_Commit (0, (0, (r.2.2.1, (r.2.2.2.1, ((⟨#[]⟩ : ByteArray), r.2.2.2.2.2))))) (0, (0, (0, (0, ((⟨#[]⟩ : ByteArray), (⟨#[]⟩ : ByteArray))))))) (replyOk r))))) else (k4cz2lo r))))) else (k3cz2lo r))))) else (T2 (bif (eqI r.1 12) then (k0cz2lo r) else (T2 (bif (eqI r.1 13) then (k0cz2lo r) else (T2 (bif (eqI r.1 14) then (k0cz2lo r) else (T2 (bif (eqI r.1 9) then (k1cz2lo r) else (T2 (bif (eqI r.1 10) then (k1cz2lo r) else (T2 (bif (eqI r.1 11) then (k1cz2lo r) else (T2 (bif (eqI r.1 15) then (k1cz2lo r) else (T2 (bif (eqI r.1 16) then (k1cz2lo r) else (True ∧ (rB false (replyOk r)))))))))))))))))))))))))))))))))))) (by kernel_rfl) ?_
  unfold k5cz2lo k3cz2lo k1cz2lo k0cz2lo k4cz2lo k2cz2lo T10 T12 T2 T4 T5 T6 T8 T9
  obtain ⟨k, n, u, f, nm, tx⟩ := r
  simp only [SI2A, eq_self]
  simp only [eqC6]
  repeat' (with_reducible first | exact trivial | apply And.intro | intro _)
  all_goals first
    | (rw [replyOk, rok_kind (by omega)]; done)
    | (subst_vars; simp_all only [replyOk, rok1, rok2, rok3, rok4, rok5, rok6, rok7, rok8, rok9, rok10, rok11, rok12, rok13, rok14, rok15, rok16, e00, emp0, Bool.true_and, Bool.and_true, Bool.false_and, Bool.and_false, Bool.true_or, Bool.or_true, Bool.false_or, Bool.or_false]; done)
    | (rename_i h; have e := leI_true.2 h; clear h; subst_vars; simp_all only [replyOk, rok1, rok2, rok3, rok4, rok5, rok6, rok7, rok8, rok9, rok10, rok11, rok12, rok13, rok14, rok15, rok16, e00, emp0, Bool.true_and, Bool.and_true, Bool.false_and, Bool.and_false, Bool.true_or, Bool.or_true, Bool.false_or, Bool.or_false]; done)
    | (rename_i h; have e := leI_false.2 h; clear h; subst_vars; simp_all only [replyOk, rok1, rok2, rok3, rok4, rok5, rok6, rok7, rok8, rok9, rok10, rok11, rok12, rok13, rok14, rok15, rok16, e00, emp0, Bool.true_and, Bool.and_true, Bool.false_and, Bool.and_false, Bool.true_or, Bool.or_true, Bool.false_or, Bool.or_false]; done)
    | (rename_i h; have e := eqS_true.2 h; clear h; subst_vars; simp_all only [replyOk, rok1, rok2, rok3, rok4, rok5, rok6, rok7, rok8, rok9, rok10, rok11, rok12, rok13, rok14, rok15, rok16, e00, emp0, Bool.true_and, Bool.and_true, Bool.false_and, Bool.and_false, Bool.true_or, Bool.or_true, Bool.false_or, Bool.or_false]; done)
    | (rename_i h; have e := eqS_false.2 h; clear h; subst_vars; simp_all only [replyOk, rok1, rok2, rok3, rok4, rok5, rok6, rok7, rok8, rok9, rok10, rok11, rok12, rok13, rok14, rok15, rok16, e00, emp0, Bool.true_and, Bool.and_true, Bool.false_and, Bool.and_false, Bool.true_or, Bool.or_true, Bool.false_or, Bool.or_false]; done)
def e_i_ReplyOk : Entry Tryz.prog := ⟨18, [.s tyCommit], fun x => True, fun x => .c (.bool (replyOk x.1)), fun _ => [], fun x hx => b_i_ReplyOk x.1, Tryz.call18⟩
theorem eqCg {a b c d a' b' c' d' : Int} {e g e' g' : ByteArray} : eqC_Commit (a, b, c, d, e, g) (a', b', c', d', e', g') = (eqI a a' && (eqI b b' && (eqI c c' && (eqI d d' && (eqS e e' && eqS g g'))))) := by
  rw [Bool.eq_iff_iff, eqC_Commit_true]
  simp only [Bool.and_eq_true, eqI_true, eqS_true, Prod.mk.injEq]
theorem eqIs (a : Int) : eqI a a = true := eqI_true.2 rfl
theorem eqSs (a : ByteArray) : eqS a a = true := eqS_true.2 rfl
theorem sz0 : ByteArray.size (⟨#[]⟩ : ByteArray) = 0 := rfl
theorem empE (s : ByteArray) : eqS s (⟨#[]⟩ : ByteArray) = emp s := rfl
def badR (r : GReply) : Bool := !eqC_Commit r (r.1, wN r.1 r.2.1, wU r.1 r.2.2.1, wF r.1 r.2.2.2.1, wM r.1 r.2.2.2.2.1, wT r.1 r.2.2.2.2.2) || (!btw r.2.1 0 999999999 || ((repN r.1 && ltI r.2.1 (wL r.1)) || ((repU r.1 && !btw r.2.2.1 1 999999999) || (!flagsOk r.2.2.2.1 || gtI ((ByteArray.size r.2.2.2.2.2 : Nat) : Int) 40))))
def lastR (r : GReply) : Bool := (!btw r.1 5 8 || nameOk r.2.2.2.2.1) && (!btw r.1 12 14 || (tagOk r.2.2.2.2.1 || eqS r.2.2.2.2.1 (⟨#[42]⟩ : ByteArray)))
theorem rlaw1 {n u f : Int} {nm tx : ByteArray} : replyB 1 n u f nm tx = (!badR (1, n, u, f, nm, tx) && lastR (1, n, u, f, nm, tx)) := by
  rw [rok1]
  simp only [badR, lastR, eqCg, eqIs, eqSs, empE, show btw 1 1 16 = true from rfl, show btw 1 1 5 = true from rfl, show btw 1 5 8 = false from rfl, show btw 1 12 14 = false from rfl, show btw 1 2 4 = false from rfl, show repN 1 = true from rfl, show repU 1 = false from rfl, show ∀ n, wN 1 n = n from fun _ => rfl, show ∀ n, wU 1 n = 0 from fun _ => rfl, show ∀ n, wM 1 n = (⟨#[]⟩ : ByteArray) from fun _ => rfl, show ∀ n, wF 1 n = 0 from fun _ => rfl, show ∀ n, wT 1 n = (⟨#[]⟩ : ByteArray) from fun _ => rfl, show wL 1 = 0 from rfl, Bool.true_and, Bool.and_true, Bool.false_and, Bool.and_false, Bool.true_or, Bool.or_true, Bool.false_or, Bool.or_false, Bool.not_true, Bool.not_false, cond_true, cond_false]
  rw [Bool.eq_iff_iff]
  simp only [Bool.and_eq_true, Bool.or_eq_true, Bool.not_eq_true', Bool.or_eq_false_iff, Bool.and_eq_false_iff, Bool.not_eq_false', btw_iff, btw_not, flagsOk, eqI_true, leI_true, ltI_false, gtI_false, emp, eqS_true]
  first
    | omega
    | (constructor <;> intro h <;> simp_all <;> omega)
    | (constructor <;> intro h <;> simp_all [sz0]; done)
    | (constructor <;> intro h <;> simp_all [sz0] <;> omega)
theorem rlaw2 {n u f : Int} {nm tx : ByteArray} : replyB 2 n u f nm tx = (!badR (2, n, u, f, nm, tx) && lastR (2, n, u, f, nm, tx)) := by
  rw [rok2]
  simp only [badR, lastR, eqCg, eqIs, eqSs, empE, show btw 2 1 16 = true from rfl, show btw 2 1 5 = true from rfl, show btw 2 5 8 = false from rfl, show btw 2 12 14 = false from rfl, show btw 2 2 4 = true from rfl, show repN 2 = true from rfl, show repU 2 = false from rfl, show ∀ n, wN 2 n = n from fun _ => rfl, show ∀ n, wU 2 n = 0 from fun _ => rfl, show ∀ n, wM 2 n = (⟨#[]⟩ : ByteArray) from fun _ => rfl, show ∀ n, wF 2 n = 0 from fun _ => rfl, show ∀ n, wT 2 n = (⟨#[]⟩ : ByteArray) from fun _ => rfl, show wL 2 = 1 from rfl, Bool.true_and, Bool.and_true, Bool.false_and, Bool.and_false, Bool.true_or, Bool.or_true, Bool.false_or, Bool.or_false, Bool.not_true, Bool.not_false, cond_true, cond_false]
  rw [Bool.eq_iff_iff]
  simp only [Bool.and_eq_true, Bool.or_eq_true, Bool.not_eq_true', Bool.or_eq_false_iff, Bool.and_eq_false_iff, Bool.not_eq_false', btw_iff, btw_not, flagsOk, eqI_true, leI_true, ltI_false, gtI_false, emp, eqS_true]
  first
    | omega
    | (constructor <;> intro h <;> simp_all <;> omega)
    | (constructor <;> intro h <;> simp_all [sz0]; done)
    | (constructor <;> intro h <;> simp_all [sz0] <;> omega)
theorem rlaw3 {n u f : Int} {nm tx : ByteArray} : replyB 3 n u f nm tx = (!badR (3, n, u, f, nm, tx) && lastR (3, n, u, f, nm, tx)) := by
  rw [rok3]
  simp only [badR, lastR, eqCg, eqIs, eqSs, empE, show btw 3 1 16 = true from rfl, show btw 3 1 5 = true from rfl, show btw 3 5 8 = false from rfl, show btw 3 12 14 = false from rfl, show btw 3 2 4 = true from rfl, show repN 3 = true from rfl, show repU 3 = true from rfl, show ∀ n, wN 3 n = n from fun _ => rfl, show ∀ n, wU 3 n = n from fun _ => rfl, show ∀ n, wM 3 n = (⟨#[]⟩ : ByteArray) from fun _ => rfl, show ∀ n, wF 3 n = n from fun _ => rfl, show ∀ n, wT 3 n = (⟨#[]⟩ : ByteArray) from fun _ => rfl, show wL 3 = 1 from rfl, Bool.true_and, Bool.and_true, Bool.false_and, Bool.and_false, Bool.true_or, Bool.or_true, Bool.false_or, Bool.or_false, Bool.not_true, Bool.not_false, cond_true, cond_false]
  rw [Bool.eq_iff_iff]
  simp only [Bool.and_eq_true, Bool.or_eq_true, Bool.not_eq_true', Bool.or_eq_false_iff, Bool.and_eq_false_iff, Bool.not_eq_false', btw_iff, btw_not, flagsOk, eqI_true, leI_true, ltI_false, gtI_false, emp, eqS_true]
  first
    | omega
    | (constructor <;> intro h <;> simp_all <;> omega)
    | (constructor <;> intro h <;> simp_all [sz0]; done)
    | (constructor <;> intro h <;> simp_all [sz0] <;> omega)
theorem rlaw4 {n u f : Int} {nm tx : ByteArray} : replyB 4 n u f nm tx = (!badR (4, n, u, f, nm, tx) && lastR (4, n, u, f, nm, tx)) := by
  rw [rok4]
  simp only [badR, lastR, eqCg, eqIs, eqSs, empE, show btw 4 1 16 = true from rfl, show btw 4 1 5 = true from rfl, show btw 4 5 8 = false from rfl, show btw 4 12 14 = false from rfl, show btw 4 2 4 = true from rfl, show repN 4 = true from rfl, show repU 4 = false from rfl, show ∀ n, wN 4 n = n from fun _ => rfl, show ∀ n, wU 4 n = 0 from fun _ => rfl, show ∀ n, wM 4 n = (⟨#[]⟩ : ByteArray) from fun _ => rfl, show ∀ n, wF 4 n = 0 from fun _ => rfl, show ∀ n, wT 4 n = n from fun _ => rfl, show wL 4 = 1 from rfl, Bool.true_and, Bool.and_true, Bool.false_and, Bool.and_false, Bool.true_or, Bool.or_true, Bool.false_or, Bool.or_false, Bool.not_true, Bool.not_false, cond_true, cond_false]
  rw [Bool.eq_iff_iff]
  simp only [Bool.and_eq_true, Bool.or_eq_true, Bool.not_eq_true', Bool.or_eq_false_iff, Bool.and_eq_false_iff, Bool.not_eq_false', btw_iff, btw_not, flagsOk, eqI_true, leI_true, ltI_false, gtI_false, emp, eqS_true]
  first
    | omega
    | (constructor <;> intro h <;> simp_all <;> omega)
    | (constructor <;> intro h <;> simp_all [sz0]; done)
    | (constructor <;> intro h <;> simp_all [sz0] <;> omega)
theorem rlaw5 {n u f : Int} {nm tx : ByteArray} : replyB 5 n u f nm tx = (!badR (5, n, u, f, nm, tx) && lastR (5, n, u, f, nm, tx)) := by
  rw [rok5]
  simp only [badR, lastR, eqCg, eqIs, eqSs, empE, show btw 5 1 16 = true from rfl, show btw 5 1 5 = true from rfl, show btw 5 5 8 = true from rfl, show btw 5 12 14 = false from rfl, show btw 5 2 4 = false from rfl, show repN 5 = true from rfl, show repU 5 = true from rfl, show ∀ n, wN 5 n = n from fun _ => rfl, show ∀ n, wU 5 n = n from fun _ => rfl, show ∀ n, wM 5 n = n from fun _ => rfl, show ∀ n, wF 5 n = 0 from fun _ => rfl, show ∀ n, wT 5 n = (⟨#[]⟩ : ByteArray) from fun _ => rfl, show wL 5 = 0 from rfl, Bool.true_and, Bool.and_true, Bool.false_and, Bool.and_false, Bool.true_or, Bool.or_true, Bool.false_or, Bool.or_false, Bool.not_true, Bool.not_false, cond_true, cond_false]
  rw [Bool.eq_iff_iff]
  simp only [Bool.and_eq_true, Bool.or_eq_true, Bool.not_eq_true', Bool.or_eq_false_iff, Bool.and_eq_false_iff, Bool.not_eq_false', btw_iff, btw_not, flagsOk, eqI_true, leI_true, ltI_false, gtI_false, emp, eqS_true]
  first
    | omega
    | (constructor <;> intro h <;> simp_all <;> omega)
    | (constructor <;> intro h <;> simp_all [sz0]; done)
    | (constructor <;> intro h <;> simp_all [sz0] <;> omega)
theorem rlaw6 {n u f : Int} {nm tx : ByteArray} : replyB 6 n u f nm tx = (!badR (6, n, u, f, nm, tx) && lastR (6, n, u, f, nm, tx)) := by
  rw [rok6]
  simp only [badR, lastR, eqCg, eqIs, eqSs, empE, show btw 6 1 16 = true from rfl, show btw 6 1 5 = false from rfl, show btw 6 5 8 = true from rfl, show btw 6 12 14 = false from rfl, show btw 6 2 4 = false from rfl, show repN 6 = false from rfl, show repU 6 = false from rfl, show ∀ n, wN 6 n = 0 from fun _ => rfl, show ∀ n, wU 6 n = 0 from fun _ => rfl, show ∀ n, wM 6 n = n from fun _ => rfl, show ∀ n, wF 6 n = 0 from fun _ => rfl, show ∀ n, wT 6 n = (⟨#[]⟩ : ByteArray) from fun _ => rfl, show wL 6 = 0 from rfl, Bool.true_and, Bool.and_true, Bool.false_and, Bool.and_false, Bool.true_or, Bool.or_true, Bool.false_or, Bool.or_false, Bool.not_true, Bool.not_false, cond_true, cond_false]
  rw [Bool.eq_iff_iff]
  simp only [Bool.and_eq_true, Bool.or_eq_true, Bool.not_eq_true', Bool.or_eq_false_iff, Bool.and_eq_false_iff, Bool.not_eq_false', btw_iff, btw_not, flagsOk, eqI_true, leI_true, ltI_false, gtI_false, emp, eqS_true]
  first
    | omega
    | (constructor <;> intro h <;> simp_all <;> omega)
    | (constructor <;> intro h <;> simp_all [sz0]; done)
    | (constructor <;> intro h <;> simp_all [sz0] <;> omega)
theorem rlaw7 {n u f : Int} {nm tx : ByteArray} : replyB 7 n u f nm tx = (!badR (7, n, u, f, nm, tx) && lastR (7, n, u, f, nm, tx)) := by
  rw [rok7]
  simp only [badR, lastR, eqCg, eqIs, eqSs, empE, show btw 7 1 16 = true from rfl, show btw 7 1 5 = false from rfl, show btw 7 5 8 = true from rfl, show btw 7 12 14 = false from rfl, show btw 7 2 4 = false from rfl, show repN 7 = false from rfl, show repU 7 = false from rfl, show ∀ n, wN 7 n = 0 from fun _ => rfl, show ∀ n, wU 7 n = 0 from fun _ => rfl, show ∀ n, wM 7 n = n from fun _ => rfl, show ∀ n, wF 7 n = 0 from fun _ => rfl, show ∀ n, wT 7 n = (⟨#[]⟩ : ByteArray) from fun _ => rfl, show wL 7 = 0 from rfl, Bool.true_and, Bool.and_true, Bool.false_and, Bool.and_false, Bool.true_or, Bool.or_true, Bool.false_or, Bool.or_false, Bool.not_true, Bool.not_false, cond_true, cond_false]
  rw [Bool.eq_iff_iff]
  simp only [Bool.and_eq_true, Bool.or_eq_true, Bool.not_eq_true', Bool.or_eq_false_iff, Bool.and_eq_false_iff, Bool.not_eq_false', btw_iff, btw_not, flagsOk, eqI_true, leI_true, ltI_false, gtI_false, emp, eqS_true]
  first
    | omega
    | (constructor <;> intro h <;> simp_all <;> omega)
    | (constructor <;> intro h <;> simp_all [sz0]; done)
    | (constructor <;> intro h <;> simp_all [sz0] <;> omega)
theorem rlaw8 {n u f : Int} {nm tx : ByteArray} : replyB 8 n u f nm tx = (!badR (8, n, u, f, nm, tx) && lastR (8, n, u, f, nm, tx)) := by
  rw [rok8]
  simp only [badR, lastR, eqCg, eqIs, eqSs, empE, show btw 8 1 16 = true from rfl, show btw 8 1 5 = false from rfl, show btw 8 5 8 = true from rfl, show btw 8 12 14 = false from rfl, show btw 8 2 4 = false from rfl, show repN 8 = true from rfl, show repU 8 = false from rfl, show ∀ n, wN 8 n = n from fun _ => rfl, show ∀ n, wU 8 n = 0 from fun _ => rfl, show ∀ n, wM 8 n = n from fun _ => rfl, show ∀ n, wF 8 n = 0 from fun _ => rfl, show ∀ n, wT 8 n = (⟨#[]⟩ : ByteArray) from fun _ => rfl, show wL 8 = 0 from rfl, Bool.true_and, Bool.and_true, Bool.false_and, Bool.and_false, Bool.true_or, Bool.or_true, Bool.false_or, Bool.or_false, Bool.not_true, Bool.not_false, cond_true, cond_false]
  rw [Bool.eq_iff_iff]
  simp only [Bool.and_eq_true, Bool.or_eq_true, Bool.not_eq_true', Bool.or_eq_false_iff, Bool.and_eq_false_iff, Bool.not_eq_false', btw_iff, btw_not, flagsOk, eqI_true, leI_true, ltI_false, gtI_false, emp, eqS_true]
  first
    | omega
    | (constructor <;> intro h <;> simp_all <;> omega)
    | (constructor <;> intro h <;> simp_all [sz0]; done)
    | (constructor <;> intro h <;> simp_all [sz0] <;> omega)
theorem rlaw9 {n u f : Int} {nm tx : ByteArray} : replyB 9 n u f nm tx = (!badR (9, n, u, f, nm, tx) && lastR (9, n, u, f, nm, tx)) := by
  rw [rok9]
  simp only [badR, lastR, eqCg, eqIs, eqSs, empE, show btw 9 1 16 = true from rfl, show btw 9 1 5 = false from rfl, show btw 9 5 8 = false from rfl, show btw 9 12 14 = false from rfl, show btw 9 2 4 = false from rfl, show repN 9 = false from rfl, show repU 9 = false from rfl, show ∀ n, wN 9 n = 0 from fun _ => rfl, show ∀ n, wU 9 n = 0 from fun _ => rfl, show ∀ n, wM 9 n = (⟨#[]⟩ : ByteArray) from fun _ => rfl, show ∀ n, wF 9 n = 0 from fun _ => rfl, show ∀ n, wT 9 n = (⟨#[]⟩ : ByteArray) from fun _ => rfl, show wL 9 = 0 from rfl, Bool.true_and, Bool.and_true, Bool.false_and, Bool.and_false, Bool.true_or, Bool.or_true, Bool.false_or, Bool.or_false, Bool.not_true, Bool.not_false, cond_true, cond_false]
  rw [Bool.eq_iff_iff]
  simp only [Bool.and_eq_true, Bool.or_eq_true, Bool.not_eq_true', Bool.or_eq_false_iff, Bool.and_eq_false_iff, Bool.not_eq_false', btw_iff, btw_not, flagsOk, eqI_true, leI_true, ltI_false, gtI_false, emp, eqS_true]
  first
    | omega
    | (constructor <;> intro h <;> simp_all <;> omega)
    | (constructor <;> intro h <;> simp_all [sz0]; done)
    | (constructor <;> intro h <;> simp_all [sz0] <;> omega)
theorem rlaw10 {n u f : Int} {nm tx : ByteArray} : replyB 10 n u f nm tx = (!badR (10, n, u, f, nm, tx) && lastR (10, n, u, f, nm, tx)) := by
  rw [rok10]
  simp only [badR, lastR, eqCg, eqIs, eqSs, empE, show btw 10 1 16 = true from rfl, show btw 10 1 5 = false from rfl, show btw 10 5 8 = false from rfl, show btw 10 12 14 = false from rfl, show btw 10 2 4 = false from rfl, show repN 10 = false from rfl, show repU 10 = false from rfl, show ∀ n, wN 10 n = 0 from fun _ => rfl, show ∀ n, wU 10 n = 0 from fun _ => rfl, show ∀ n, wM 10 n = (⟨#[]⟩ : ByteArray) from fun _ => rfl, show ∀ n, wF 10 n = 0 from fun _ => rfl, show ∀ n, wT 10 n = (⟨#[]⟩ : ByteArray) from fun _ => rfl, show wL 10 = 0 from rfl, Bool.true_and, Bool.and_true, Bool.false_and, Bool.and_false, Bool.true_or, Bool.or_true, Bool.false_or, Bool.or_false, Bool.not_true, Bool.not_false, cond_true, cond_false]
  rw [Bool.eq_iff_iff]
  simp only [Bool.and_eq_true, Bool.or_eq_true, Bool.not_eq_true', Bool.or_eq_false_iff, Bool.and_eq_false_iff, Bool.not_eq_false', btw_iff, btw_not, flagsOk, eqI_true, leI_true, ltI_false, gtI_false, emp, eqS_true]
  first
    | omega
    | (constructor <;> intro h <;> simp_all <;> omega)
    | (constructor <;> intro h <;> simp_all [sz0]; done)
    | (constructor <;> intro h <;> simp_all [sz0] <;> omega)
theorem rlaw11 {n u f : Int} {nm tx : ByteArray} : replyB 11 n u f nm tx = (!badR (11, n, u, f, nm, tx) && lastR (11, n, u, f, nm, tx)) := by
  rw [rok11]
  simp only [badR, lastR, eqCg, eqIs, eqSs, empE, show btw 11 1 16 = true from rfl, show btw 11 1 5 = false from rfl, show btw 11 5 8 = false from rfl, show btw 11 12 14 = false from rfl, show btw 11 2 4 = false from rfl, show repN 11 = false from rfl, show repU 11 = false from rfl, show ∀ n, wN 11 n = 0 from fun _ => rfl, show ∀ n, wU 11 n = 0 from fun _ => rfl, show ∀ n, wM 11 n = (⟨#[]⟩ : ByteArray) from fun _ => rfl, show ∀ n, wF 11 n = 0 from fun _ => rfl, show ∀ n, wT 11 n = (⟨#[]⟩ : ByteArray) from fun _ => rfl, show wL 11 = 0 from rfl, Bool.true_and, Bool.and_true, Bool.false_and, Bool.and_false, Bool.true_or, Bool.or_true, Bool.false_or, Bool.or_false, Bool.not_true, Bool.not_false, cond_true, cond_false]
  rw [Bool.eq_iff_iff]
  simp only [Bool.and_eq_true, Bool.or_eq_true, Bool.not_eq_true', Bool.or_eq_false_iff, Bool.and_eq_false_iff, Bool.not_eq_false', btw_iff, btw_not, flagsOk, eqI_true, leI_true, ltI_false, gtI_false, emp, eqS_true]
  first
    | omega
    | (constructor <;> intro h <;> simp_all <;> omega)
    | (constructor <;> intro h <;> simp_all [sz0]; done)
    | (constructor <;> intro h <;> simp_all [sz0] <;> omega)
theorem rlaw12 {n u f : Int} {nm tx : ByteArray} : replyB 12 n u f nm tx = (!badR (12, n, u, f, nm, tx) && lastR (12, n, u, f, nm, tx)) := by
  rw [rok12]
  simp only [badR, lastR, eqCg, eqIs, eqSs, empE, show btw 12 1 16 = true from rfl, show btw 12 1 5 = false from rfl, show btw 12 5 8 = false from rfl, show btw 12 12 14 = true from rfl, show btw 12 2 4 = false from rfl, show repN 12 = false from rfl, show repU 12 = false from rfl, show ∀ n, wN 12 n = 0 from fun _ => rfl, show ∀ n, wU 12 n = 0 from fun _ => rfl, show ∀ n, wM 12 n = n from fun _ => rfl, show ∀ n, wF 12 n = 0 from fun _ => rfl, show ∀ n, wT 12 n = (⟨#[]⟩ : ByteArray) from fun _ => rfl, show wL 12 = 0 from rfl, Bool.true_and, Bool.and_true, Bool.false_and, Bool.and_false, Bool.true_or, Bool.or_true, Bool.false_or, Bool.or_false, Bool.not_true, Bool.not_false, cond_true, cond_false]
  rw [Bool.eq_iff_iff]
  simp only [Bool.and_eq_true, Bool.or_eq_true, Bool.not_eq_true', Bool.or_eq_false_iff, Bool.and_eq_false_iff, Bool.not_eq_false', btw_iff, btw_not, flagsOk, eqI_true, leI_true, ltI_false, gtI_false, emp, eqS_true]
  first
    | omega
    | (constructor <;> intro h <;> simp_all <;> omega)
    | (constructor <;> intro h <;> simp_all [sz0]; done)
    | (constructor <;> intro h <;> simp_all [sz0] <;> omega)
theorem rlaw13 {n u f : Int} {nm tx : ByteArray} : replyB 13 n u f nm tx = (!badR (13, n, u, f, nm, tx) && lastR (13, n, u, f, nm, tx)) := by
  rw [rok13]
  simp only [badR, lastR, eqCg, eqIs, eqSs, empE, show btw 13 1 16 = true from rfl, show btw 13 1 5 = false from rfl, show btw 13 5 8 = false from rfl, show btw 13 12 14 = true from rfl, show btw 13 2 4 = false from rfl, show repN 13 = false from rfl, show repU 13 = false from rfl, show ∀ n, wN 13 n = 0 from fun _ => rfl, show ∀ n, wU 13 n = 0 from fun _ => rfl, show ∀ n, wM 13 n = n from fun _ => rfl, show ∀ n, wF 13 n = 0 from fun _ => rfl, show ∀ n, wT 13 n = (⟨#[]⟩ : ByteArray) from fun _ => rfl, show wL 13 = 0 from rfl, Bool.true_and, Bool.and_true, Bool.false_and, Bool.and_false, Bool.true_or, Bool.or_true, Bool.false_or, Bool.or_false, Bool.not_true, Bool.not_false, cond_true, cond_false]
  rw [Bool.eq_iff_iff]
  simp only [Bool.and_eq_true, Bool.or_eq_true, Bool.not_eq_true', Bool.or_eq_false_iff, Bool.and_eq_false_iff, Bool.not_eq_false', btw_iff, btw_not, flagsOk, eqI_true, leI_true, ltI_false, gtI_false, emp, eqS_true]
  first
    | omega
    | (constructor <;> intro h <;> simp_all <;> omega)
    | (constructor <;> intro h <;> simp_all [sz0]; done)
    | (constructor <;> intro h <;> simp_all [sz0] <;> omega)
theorem rlaw14 {n u f : Int} {nm tx : ByteArray} : replyB 14 n u f nm tx = (!badR (14, n, u, f, nm, tx) && lastR (14, n, u, f, nm, tx)) := by
  rw [rok14]
  simp only [badR, lastR, eqCg, eqIs, eqSs, empE, show btw 14 1 16 = true from rfl, show btw 14 1 5 = false from rfl, show btw 14 5 8 = false from rfl, show btw 14 12 14 = true from rfl, show btw 14 2 4 = false from rfl, show repN 14 = false from rfl, show repU 14 = false from rfl, show ∀ n, wN 14 n = 0 from fun _ => rfl, show ∀ n, wU 14 n = 0 from fun _ => rfl, show ∀ n, wM 14 n = n from fun _ => rfl, show ∀ n, wF 14 n = 0 from fun _ => rfl, show ∀ n, wT 14 n = (⟨#[]⟩ : ByteArray) from fun _ => rfl, show wL 14 = 0 from rfl, Bool.true_and, Bool.and_true, Bool.false_and, Bool.and_false, Bool.true_or, Bool.or_true, Bool.false_or, Bool.or_false, Bool.not_true, Bool.not_false, cond_true, cond_false]
  rw [Bool.eq_iff_iff]
  simp only [Bool.and_eq_true, Bool.or_eq_true, Bool.not_eq_true', Bool.or_eq_false_iff, Bool.and_eq_false_iff, Bool.not_eq_false', btw_iff, btw_not, flagsOk, eqI_true, leI_true, ltI_false, gtI_false, emp, eqS_true]
  first
    | omega
    | (constructor <;> intro h <;> simp_all <;> omega)
    | (constructor <;> intro h <;> simp_all [sz0]; done)
    | (constructor <;> intro h <;> simp_all [sz0] <;> omega)
theorem rlaw15 {n u f : Int} {nm tx : ByteArray} : replyB 15 n u f nm tx = (!badR (15, n, u, f, nm, tx) && lastR (15, n, u, f, nm, tx)) := by
  rw [rok15]
  simp only [badR, lastR, eqCg, eqIs, eqSs, empE, show btw 15 1 16 = true from rfl, show btw 15 1 5 = false from rfl, show btw 15 5 8 = false from rfl, show btw 15 12 14 = false from rfl, show btw 15 2 4 = false from rfl, show repN 15 = false from rfl, show repU 15 = false from rfl, show ∀ n, wN 15 n = 0 from fun _ => rfl, show ∀ n, wU 15 n = 0 from fun _ => rfl, show ∀ n, wM 15 n = (⟨#[]⟩ : ByteArray) from fun _ => rfl, show ∀ n, wF 15 n = 0 from fun _ => rfl, show ∀ n, wT 15 n = (⟨#[]⟩ : ByteArray) from fun _ => rfl, show wL 15 = 0 from rfl, Bool.true_and, Bool.and_true, Bool.false_and, Bool.and_false, Bool.true_or, Bool.or_true, Bool.false_or, Bool.or_false, Bool.not_true, Bool.not_false, cond_true, cond_false]
  rw [Bool.eq_iff_iff]
  simp only [Bool.and_eq_true, Bool.or_eq_true, Bool.not_eq_true', Bool.or_eq_false_iff, Bool.and_eq_false_iff, Bool.not_eq_false', btw_iff, btw_not, flagsOk, eqI_true, leI_true, ltI_false, gtI_false, emp, eqS_true]
  first
    | omega
    | (constructor <;> intro h <;> simp_all <;> omega)
    | (constructor <;> intro h <;> simp_all [sz0]; done)
    | (constructor <;> intro h <;> simp_all [sz0] <;> omega)
theorem rlaw16 {n u f : Int} {nm tx : ByteArray} : replyB 16 n u f nm tx = (!badR (16, n, u, f, nm, tx) && lastR (16, n, u, f, nm, tx)) := by
  rw [rok16]
  simp only [badR, lastR, eqCg, eqIs, eqSs, empE, show btw 16 1 16 = true from rfl, show btw 16 1 5 = false from rfl, show btw 16 5 8 = false from rfl, show btw 16 12 14 = false from rfl, show btw 16 2 4 = false from rfl, show repN 16 = false from rfl, show repU 16 = false from rfl, show ∀ n, wN 16 n = 0 from fun _ => rfl, show ∀ n, wU 16 n = 0 from fun _ => rfl, show ∀ n, wM 16 n = (⟨#[]⟩ : ByteArray) from fun _ => rfl, show ∀ n, wF 16 n = 0 from fun _ => rfl, show ∀ n, wT 16 n = (⟨#[]⟩ : ByteArray) from fun _ => rfl, show wL 16 = 0 from rfl, Bool.true_and, Bool.and_true, Bool.false_and, Bool.and_false, Bool.true_or, Bool.or_true, Bool.false_or, Bool.or_false, Bool.not_true, Bool.not_false, cond_true, cond_false]
  rw [Bool.eq_iff_iff]
  simp only [Bool.and_eq_true, Bool.or_eq_true, Bool.not_eq_true', Bool.or_eq_false_iff, Bool.and_eq_false_iff, Bool.not_eq_false', btw_iff, btw_not, flagsOk, eqI_true, leI_true, ltI_false, gtI_false, emp, eqS_true]
  first
    | omega
    | (constructor <;> intro h <;> simp_all <;> omega)
    | (constructor <;> intro h <;> simp_all [sz0]; done)
    | (constructor <;> intro h <;> simp_all [sz0] <;> omega)
theorem reply_law (r : GReply) : replyOk r = (btw r.1 1 16 && (!badR r && lastR r)) := by
  obtain ⟨k, n, u, f, nm, tx⟩ := r
  cases hb : btw k 1 16 with
  | false =>
    unfold replyOk replyB
    rw [hb]
    rfl
  | true =>
    have := btw_iff.1 hb
    show replyB k n u f nm tx = _
    by_cases h1 : k = 1
    · subst h1; exact rlaw1
    by_cases h2 : k = 2
    · subst h2; exact rlaw2
    by_cases h3 : k = 3
    · subst h3; exact rlaw3
    by_cases h4 : k = 4
    · subst h4; exact rlaw4
    by_cases h5 : k = 5
    · subst h5; exact rlaw5
    by_cases h6 : k = 6
    · subst h6; exact rlaw6
    by_cases h7 : k = 7
    · subst h7; exact rlaw7
    by_cases h8 : k = 8
    · subst h8; exact rlaw8
    by_cases h9 : k = 9
    · subst h9; exact rlaw9
    by_cases h10 : k = 10
    · subst h10; exact rlaw10
    by_cases h11 : k = 11
    · subst h11; exact rlaw11
    by_cases h12 : k = 12
    · subst h12; exact rlaw12
    by_cases h13 : k = 13
    · subst h13; exact rlaw13
    by_cases h14 : k = 14
    · subst h14; exact rlaw14
    by_cases h15 : k = 15
    · subst h15; exact rlaw15
    by_cases h16 : k = 16
    · subst h16; exact rlaw16
    omega
def L_s_ReplyOk (r : GCommit) : Nat → List AV → Mem → LoopA
  | 2000004, tm, M => ⟨Unit, fun _ => (anyR (setA tm [(4, .c (.bool (repN r.1)))]) 14 8, M), fun _ => True, fun _ => 0⟩
  | 2000005, tm, M => ⟨Unit, fun _ => (anyR (setA tm [(5, .c (.bool (repU r.1)))]) 22 8, M), fun _ => True, fun _ => 0⟩
  | 1000007, tm, M => ⟨Unit, fun _ => (anyR (setA tm []) 7 121, setM M [(1, .box [.int .i64 r.1, .int .i64 (wN r.1 r.2.1), .int .i64 0, .int .i64 0, .str (⟨#[]⟩ : ByteArray), .str (⟨#[]⟩ : ByteArray)])]), fun _ => True, fun _ => 0⟩
  | 1000009, tm, M => ⟨Unit, fun _ => (anyR (setA tm []) 7 121, setM M [(1, .box [.int .i64 r.1, .int .i64 (wN r.1 r.2.1), .int .i64 (wU r.1 r.2.2.1), .int .i64 0, .str (⟨#[]⟩ : ByteArray), .str (⟨#[]⟩ : ByteArray)])]), fun _ => True, fun _ => 0⟩
  | 2000010, tm, M => ⟨Unit, fun _ => (anyR (setA tm [(45, .c (.bool (btw r.1 5 8 || btw r.1 12 14)))]) 38 7, M), fun _ => True, fun _ => 0⟩
  | 1000011, tm, M => ⟨Unit, fun _ => (anyR (setA tm []) 7 121, setM M [(1, .box [.int .i64 r.1, .int .i64 (wN r.1 r.2.1), .int .i64 (wU r.1 r.2.2.1), .int .i64 0, .str (wM r.1 r.2.2.2.2.1), .str (⟨#[]⟩ : ByteArray)])]), fun _ => True, fun _ => 0⟩
  | 1000014, tm, M => ⟨Unit, fun _ => (anyR (setA tm []) 7 121, setM M [(1, .box [.int .i64 r.1, .int .i64 (wN r.1 r.2.1), .int .i64 (wU r.1 r.2.2.1), .int .i64 (wF r.1 r.2.2.2.1), .str (wM r.1 r.2.2.2.2.1), .str (wT r.1 r.2.2.2.2.2)])]), fun _ => True, fun _ => 0⟩
  | 1000019, tm, M => ⟨Unit, fun _ => (anyR (setA tm [(6, .c (.int .i64 (wL r.1)))]) 7 121, M), fun _ => True, fun _ => 0⟩
  | 2000020, tm, M => ⟨Unit, fun _ => (anyR (setA tm [(102, .c (.bool (badR r)))]) 64 38, M), fun _ => True, fun _ => 0⟩
  | _, _, _ => ⟨Unit, fun _ => ([], []), fun _ => False, fun _ => 0⟩
def k0chxkm (r : GCommit) : List AC := [.int .i64 r.1, .int .i64 r.2.1, .int .i64 r.2.2.1, .int .i64 r.2.2.2.1, .str r.2.2.2.2.1, .str r.2.2.2.2.2]
def k3chxkm (r : GCommit) : List AC := [.int .i64 r.1, .int .i64 (wN r.1 r.2.1), .int .i64 (wU r.1 r.2.2.1), .int .i64 (wF r.1 r.2.2.2.1), .str (wM r.1 r.2.2.2.2.1), .str (wT r.1 r.2.2.2.2.2)]
def k1chxkm (r : GCommit) : Prop := (True ∧ (∃ _ : Unit, True ∧ ((lxs [.ag (k0chxkm r), .c (.bp 0 0), .c (.bool false), .c (.bp 1 0), .c (.bool (repN r.1)), .c (.bool (repU r.1)), .c (.int .i64 (wL r.1))] (TN 95 (leV (.c (.bool true)) (.c (.bool (badR r))) ∧ TN 25 True))) ∧ (lb (.box (k0chxkm r)) ∧ lb (.box (k3chxkm r)) ∧ True) ∧ true = true)))
def k2chxkm (r : GCommit) : Prop := (T2 ((True ∧ true = true) ∧ (T3 (bif (!(flagsOk r.2.2.2.1)) then (k1chxkm r) else (T5 (∃ _ : Unit, True ∧ ((lxs [.ag (k0chxkm r), .c (.bp 0 0), .c (.bool false), .c (.bp 1 0), .c (.bool (repN r.1)), .c (.bool (repU r.1)), .c (.int .i64 (wL r.1))] (TN 95 (leV (.c (.bool (gtI ((ByteArray.size r.2.2.2.2.2 : Nat) : Int) 40))) (.c (.bool (badR r))) ∧ TN 25 True))) ∧ (lb (.box (k0chxkm r)) ∧ lb (.box (k3chxkm r)) ∧ True) ∧ true = true)))))))
def k4chxkm (r : GCommit) : List AC := [.int .i64 r.1, .int .i64 0, .int .i64 0, .int .i64 0, .str (⟨#[]⟩ : ByteArray), .str (⟨#[]⟩ : ByteArray)]
def k5chxkm (r : GCommit) : List AC := [.int .i64 r.1, .int .i64 (wN r.1 r.2.1), .int .i64 (wU r.1 r.2.2.1), .int .i64 0, .str (⟨#[]⟩ : ByteArray), .str (⟨#[]⟩ : ByteArray)]
def k6chxkm (r : GCommit) : Prop := (T2 ((True ∧ true = true) ∧ (T2 (bif (!(btw r.1 12 14)) then (T5 (rB true (replyOk r))) else (T2 ((True ∧ true = true) ∧ (T2 (bif tagOk r.2.2.2.2.1 then (T3 (rB true (replyOk r))) else (T6 (rB (eqS r.2.2.2.2.1 (⟨#[42]⟩ : ByteArray)) (replyOk r)))))))))))
def k7chxkm (r : GCommit) : List AC := [.int .i64 r.1, .int .i64 (wN r.1 r.2.1), .int .i64 (wU r.1 r.2.2.1), .int .i64 0, .str (wM r.1 r.2.2.2.2.1), .str (⟨#[]⟩ : ByteArray)]
def k8chxkm (r : GCommit) : Prop := (T2 (bif (repU r.1) then (T2 ((True ∧ true = true) ∧ (T4 (bif (!(btw r.2.2.1 1 999999999)) then (T2 (k1chxkm r)) else (k2chxkm r))))) else (T3 (k2chxkm r))))
def k9chxkm (r : GCommit) : List AC := [.int .i64 r.1, .int .i64 (wN r.1 r.2.1), .int .i64 0, .int .i64 0, .str (⟨#[]⟩ : ByteArray), .str (⟨#[]⟩ : ByteArray)]
theorem b_s_ReplyOk (r : GCommit) : BCalls Tryz.prog 37 [.ag (cellsOf tyCommit r)] (.c (.bool (replyOk r))) [] := by
  refine bcalls_of (T := ⟨[e_s_l1In, e_s_l14Named, e_s_l14Tagged, e_s_l9Number, e_s_FlagsOk, e_s_TagOk, e_s_NameOk], [], [], [], none, fun i => match i with | 2000004 => [⟨some 0, 0, tyBool⟩] | 2000005 => [⟨some 0, 0, tyBool⟩] | 1000007 => [⟨some 0, 0, tyBool⟩] | 1000009 => [⟨some 0, 0, tyBool⟩] | 2000010 => [⟨some 0, 0, tyBool⟩] | 1000011 => [⟨some 0, 0, tyBool⟩] | 1000014 => [⟨some 0, 0, tyBool⟩] | 1000019 => [⟨some 0, 0, tyBool⟩] | 2000020 => [⟨some 0, 0, tyBool⟩] | _ => [], 0, [], []⟩) (L := (L_s_ReplyOk r)) Tryz.func37 ⟨⟨rfl, rfl⟩, rfl⟩ (fun hwf => ?_)
  refine Eq.mpr (β := (T4 ((True ∧ true = true) ∧ (True ∧ (bif (!(btw r.1 1 16)) then (True ∧ (rB false (replyOk r))) else (T5 ((T2 ((True ∧ true = true) ∧ (True ∧ (bif btw r.1 1 5 then (T2 (∃ _ : Unit, True ∧ ((lxs [.ag (k0chxkm r), .c (.bp 0 0), .c (.bool false), .c (.bp 1 0)] (leV (.c (.bool true)) (.c (.bool (repN r.1))) ∧ lxs [.tp [], .tp [], .c (.bp 0 0), .c (.int .i64 r.1), .c (.bool (btw r.1 1 16)), .c (.bool false), .c (.bp 0 0), .c (.int .i64 r.1), .ag (k4chxkm r)] (TN 8 (lxs [.tp [], .tp [], .tp [], .tp [], .tp [], .tp [], .tp [], .tp [], .tp [], .tp [], .tp [], .tp [], .tp [], .tp [], .tp [], .tp [], .tp [], .tp [], .tp [], .tp [], .tp [], .tp [], .tp [], .tp [], .tp [], .tp [], .tp [], .tp [], .tp [], .tp [], .tp [], .tp [], .tp [], .tp [], .tp [], .tp [], .tp [], .tp [], .tp [], .tp [], .tp [], .tp [], .tp [], .tp [], .tp [], .tp [], .tp [], .tp [], .tp [], .tp [], .tp [], .tp [], .tp [], .tp [], .tp [], .tp [], .tp [], .tp [], .tp [], .tp [], .tp [], .tp [], .tp [], .tp [], .tp [], .tp [], .tp [], .tp [], .tp [], .tp [], .tp [], .tp [], .tp [], .tp [], .tp [], .tp [], .tp [], .tp [], .tp [], .tp [], .tp [], .tp [], .tp [], .tp [], .tp [], .tp [], .tp [], .tp [], .tp [], .tp [], .tp [], .tp [], .tp [], .tp [], .tp [], .tp [], .tp [], .tp [], .tp [], .tp [], .tp [], .tp [], .tp [], .tp [], .tp [], .tp []] True)))) ∧ (lb (.box (k0chxkm r)) ∧ lb (.box (k4chxkm r)) ∧ True) ∧ true = true))) else (T5 (∃ _ : Unit, True ∧ ((lxs [.ag (k0chxkm r), .c (.bp 0 0), .c (.bool false), .c (.bp 1 0)] (leV (.c (.bool (eqI r.1 8))) (.c (.bool (repN r.1))) ∧ lxs [.tp [], .tp [], .c (.bp 0 0), .c (.int .i64 r.1), .c (.bool (btw r.1 1 16)), .c (.bool false), .c (.bp 0 0), .c (.int .i64 r.1), .ag (k4chxkm r)] (TN 8 (lxs [.tp [], .tp [], .tp [], .tp [], .tp [], .tp [], .tp [], .tp [], .tp [], .tp [], .tp [], .tp [], .tp [], .tp [], .tp [], .tp [], .tp [], .tp [], .tp [], .tp [], .tp [], .tp [], .tp [], .tp [], .tp [], .tp [], .tp [], .tp [], .tp [], .tp [], .tp [], .tp [], .tp [], .tp [], .tp [], .tp [], .tp [], .tp [], .tp [], .tp [], .tp [], .tp [], .tp [], .tp [], .tp [], .tp [], .tp [], .tp [], .tp [], .tp [], .tp [], .tp [], .tp [], .tp [], .tp [], .tp [], .tp [], .tp [], .tp [], .tp [], .tp [], .tp [], .tp [], .tp [], .tp [], .tp [], .tp [], .tp [], .tp [], .tp [], .tp [], .tp [], .tp [], .tp [], .tp [], .tp [], .tp [], .tp [], .tp [], .tp [], .tp [], .tp [], .tp [], .tp [], .tp [], .tp [], .tp [], .tp [], .tp [], .tp [], .tp [], .tp [], .tp [], .tp [], .tp [], .tp [], .tp [], .tp [], .tp [], .tp [], .tp [], .tp [], .tp [], .tp [], .tp [], .tp []] True)))) ∧ (lb (.box (k0chxkm r)) ∧ lb (.box (k4chxkm r)) ∧ True) ∧ true = true))))))) ∧ ∀ _ : Unit, True → ((T4 (bif (eqI r.1 3) then (T2 (∃ _ : Unit, True ∧ ((lxs [.ag (k0chxkm r), .c (.bp 0 0), .c (.bool false), .c (.bp 1 0), .c (.bool (repN r.1))] (leV (.c (.bool true)) (.c (.bool (repU r.1))) ∧ lxs [.tp [], .c (.bp 0 0), .c (.int .i64 r.1), .c (.bool (btw r.1 1 16)), .c (.bool false), .c (.bp 0 0), .c (.int .i64 r.1), .ag (k4chxkm r)] (TN 16 (lxs [.tp [], .tp [], .tp [], .tp [], .tp [], .tp [], .tp [], .tp [], .tp [], .tp [], .tp [], .tp [], .tp [], .tp [], .tp [], .tp [], .tp [], .tp [], .tp [], .tp [], .tp [], .tp [], .tp [], .tp [], .tp [], .tp [], .tp [], .tp [], .tp [], .tp [], .tp [], .tp [], .tp [], .tp [], .tp [], .tp [], .tp [], .tp [], .tp [], .tp [], .tp [], .tp [], .tp [], .tp [], .tp [], .tp [], .tp [], .tp [], .tp [], .tp [], .tp [], .tp [], .tp [], .tp [], .tp [], .tp [], .tp [], .tp [], .tp [], .tp [], .tp [], .tp [], .tp [], .tp [], .tp [], .tp [], .tp [], .tp [], .tp [], .tp [], .tp [], .tp [], .tp [], .tp [], .tp [], .tp [], .tp [], .tp [], .tp [], .tp [], .tp [], .tp [], .tp [], .tp [], .tp [], .tp [], .tp [], .tp [], .tp [], .tp [], .tp [], .tp [], .tp [], .tp [], .tp [], .tp [], .tp [], .tp []] True)))) ∧ (lb (.box (k0chxkm r)) ∧ lb (.box (k4chxkm r)) ∧ True) ∧ true = true))) else (T5 (∃ _ : Unit, True ∧ ((lxs [.ag (k0chxkm r), .c (.bp 0 0), .c (.bool false), .c (.bp 1 0), .c (.bool (repN r.1))] (leV (.c (.bool (eqI r.1 5))) (.c (.bool (repU r.1))) ∧ lxs [.tp [], .c (.bp 0 0), .c (.int .i64 r.1), .c (.bool (btw r.1 1 16)), .c (.bool false), .c (.bp 0 0), .c (.int .i64 r.1), .ag (k4chxkm r)] (TN 16 (lxs [.tp [], .tp [], .tp [], .tp [], .tp [], .tp [], .tp [], .tp [], .tp [], .tp [], .tp [], .tp [], .tp [], .tp [], .tp [], .tp [], .tp [], .tp [], .tp [], .tp [], .tp [], .tp [], .tp [], .tp [], .tp [], .tp [], .tp [], .tp [], .tp [], .tp [], .tp [], .tp [], .tp [], .tp [], .tp [], .tp [], .tp [], .tp [], .tp [], .tp [], .tp [], .tp [], .tp [], .tp [], .tp [], .tp [], .tp [], .tp [], .tp [], .tp [], .tp [], .tp [], .tp [], .tp [], .tp [], .tp [], .tp [], .tp [], .tp [], .tp [], .tp [], .tp [], .tp [], .tp [], .tp [], .tp [], .tp [], .tp [], .tp [], .tp [], .tp [], .tp [], .tp [], .tp [], .tp [], .tp [], .tp [], .tp [], .tp [], .tp [], .tp [], .tp [], .tp [], .tp [], .tp [], .tp [], .tp [], .tp [], .tp [], .tp [], .tp [], .tp [], .tp [], .tp [], .tp [], .tp [], .tp [], .tp []] True)))) ∧ (lb (.box (k0chxkm r)) ∧ lb (.box (k4chxkm r)) ∧ True) ∧ true = true))))) ∧ ∀ _ : Unit, True → (True ∧ ((bif (repN r.1) then (T4 (∃ _ : Unit, True ∧ ((lxs [.ag (k0chxkm r), .c (.bp 0 0), .c (.bool false), .c (.bp 1 0), .c (.bool (repN r.1)), .c (.bool (repU r.1)), .tp []] (TN 121 True)) ∧ (lb (.box (k0chxkm r)) ∧ leB (.box [.int .i64 r.1, .int .i64 r.2.1, .int .i64 0, .int .i64 0, .str (⟨#[]⟩ : ByteArray), .str (⟨#[]⟩ : ByteArray)]) (.box (k9chxkm r)) ∧ True) ∧ true = true))) else (∃ _ : Unit, True ∧ ((lxs [.ag (k0chxkm r), .c (.bp 0 0), .c (.bool false), .c (.bp 1 0), .c (.bool (repN r.1)), .c (.bool (repU r.1)), .tp []] (TN 121 True)) ∧ (lb (.box (k0chxkm r)) ∧ leB (.box (k4chxkm r)) (.box (k9chxkm r)) ∧ True) ∧ true = true))) ∧ ∀ _ : Unit, True → (True ∧ ((bif (repU r.1) then (T4 (∃ _ : Unit, True ∧ ((lxs [.ag (k0chxkm r), .c (.bp 0 0), .c (.bool false), .c (.bp 1 0), .c (.bool (repN r.1)), .c (.bool (repU r.1)), .tp []] (TN 121 True)) ∧ (lb (.box (k0chxkm r)) ∧ leB (.box [.int .i64 r.1, .int .i64 (wN r.1 r.2.1), .int .i64 r.2.2.1, .int .i64 0, .str (⟨#[]⟩ : ByteArray), .str (⟨#[]⟩ : ByteArray)]) (.box (k5chxkm r)) ∧ True) ∧ true = true))) else (∃ _ : Unit, True ∧ ((lxs [.ag (k0chxkm r), .c (.bp 0 0), .c (.bool false), .c (.bp 1 0), .c (.bool (repN r.1)), .c (.bool (repU r.1)), .tp []] (TN 121 True)) ∧ (lb (.box (k0chxkm r)) ∧ leB (.box (k9chxkm r)) (.box (k5chxkm r)) ∧ True) ∧ true = true))) ∧ ∀ _ : Unit, True → ((T2 ((True ∧ true = true) ∧ (True ∧ (bif btw r.1 5 8 then (True ∧ (∃ _ : Unit, True ∧ ((lxs [.ag (k0chxkm r), .c (.bp 0 0), .c (.bool false), .c (.bp 1 0), .c (.bool (repN r.1)), .c (.bool (repU r.1)), .tp []] (TN 38 (leV (.c (.bool true)) (.c (.bool (btw r.1 5 8 || btw r.1 12 14))) ∧ TN 82 True))) ∧ (lb (.box (k0chxkm r)) ∧ lb (.box (k5chxkm r)) ∧ True) ∧ true = true))) else (T2 ((True ∧ true = true) ∧ (True ∧ (∃ _ : Unit, True ∧ ((lxs [.ag (k0chxkm r), .c (.bp 0 0), .c (.bool false), .c (.bp 1 0), .c (.bool (repN r.1)), .c (.bool (repU r.1)), .tp []] (TN 38 (leV (.c (.bool (btw r.1 12 14))) (.c (.bool (btw r.1 5 8 || btw r.1 12 14))) ∧ TN 82 True))) ∧ (lb (.box (k0chxkm r)) ∧ lb (.box (k5chxkm r)) ∧ True) ∧ true = true))))))))) ∧ ∀ _ : Unit, True → ((bif (btw r.1 5 8 || btw r.1 12 14) then (T4 (∃ _ : Unit, True ∧ ((lxs [.ag (k0chxkm r), .c (.bp 0 0), .c (.bool false), .c (.bp 1 0), .c (.bool (repN r.1)), .c (.bool (repU r.1)), .tp []] (TN 121 True)) ∧ (lb (.box (k0chxkm r)) ∧ leB (.box [.int .i64 r.1, .int .i64 (wN r.1 r.2.1), .int .i64 (wU r.1 r.2.2.1), .int .i64 0, .str r.2.2.2.2.1, .str (⟨#[]⟩ : ByteArray)]) (.box (k7chxkm r)) ∧ True) ∧ true = true))) else (∃ _ : Unit, True ∧ ((lxs [.ag (k0chxkm r), .c (.bp 0 0), .c (.bool false), .c (.bp 1 0), .c (.bool (repN r.1)), .c (.bool (repU r.1)), .tp []] (TN 121 True)) ∧ (lb (.box (k0chxkm r)) ∧ leB (.box (k5chxkm r)) (.box (k7chxkm r)) ∧ True) ∧ true = true))) ∧ ∀ _ : Unit, True → (T4 ((bif (eqI r.1 3) then (T4 (∃ _ : Unit, True ∧ ((lxs [.ag (k0chxkm r), .c (.bp 0 0), .c (.bool false), .c (.bp 1 0), .c (.bool (repN r.1)), .c (.bool (repU r.1)), .tp []] (TN 121 True)) ∧ (lb (.box (k0chxkm r)) ∧ leB (.box [.int .i64 r.1, .int .i64 (wN r.1 r.2.1), .int .i64 (wU r.1 r.2.2.1), .int .i64 r.2.2.2.1, .str (wM r.1 r.2.2.2.2.1), .str (⟨#[]⟩ : ByteArray)]) (.box (k3chxkm r)) ∧ True) ∧ true = true))) else (T2 (bif (eqI r.1 4) then (T4 (∃ _ : Unit, True ∧ ((lxs [.ag (k0chxkm r), .c (.bp 0 0), .c (.bool false), .c (.bp 1 0), .c (.bool (repN r.1)), .c (.bool (repU r.1)), .tp []] (TN 121 True)) ∧ (lb (.box (k0chxkm r)) ∧ leB (.box [.int .i64 r.1, .int .i64 (wN r.1 r.2.1), .int .i64 (wU r.1 r.2.2.1), .int .i64 0, .str (wM r.1 r.2.2.2.2.1), .str r.2.2.2.2.2]) (.box (k3chxkm r)) ∧ True) ∧ true = true))) else (∃ _ : Unit, True ∧ ((lxs [.ag (k0chxkm r), .c (.bp 0 0), .c (.bool false), .c (.bp 1 0), .c (.bool (repN r.1)), .c (.bool (repU r.1)), .tp []] (TN 121 True)) ∧ (lb (.box (k0chxkm r)) ∧ leB (.box (k7chxkm r)) (.box (k3chxkm r)) ∧ True) ∧ true = true))))) ∧ ∀ _ : Unit, True → (T3 ((True ∧ true = true) ∧ ((bif btw r.1 2 4 then (True ∧ (∃ _ : Unit, True ∧ ((lxs [.ag (k0chxkm r), .c (.bp 0 0), .c (.bool false), .c (.bp 1 0), .c (.bool (repN r.1)), .c (.bool (repU r.1))] (leV (.c (.int .i64 1)) (.c (.int .i64 (wL r.1))) ∧ TN 121 True)) ∧ (lb (.box (k0chxkm r)) ∧ lb (.box (k3chxkm r)) ∧ True) ∧ true = true))) else (∃ _ : Unit, True ∧ ((lxs [.ag (k0chxkm r), .c (.bp 0 0), .c (.bool false), .c (.bp 1 0), .c (.bool (repN r.1)), .c (.bool (repU r.1))] (leV (.c (.int .i64 0)) (.c (.int .i64 (wL r.1))) ∧ TN 121 True)) ∧ (lb (.box (k0chxkm r)) ∧ lb (.box (k3chxkm r)) ∧ True) ∧ true = true))) ∧ ∀ _ : Unit, True → ((T2 (true = true ∧ (True ∧ (bif (!(eqC_Commit r (r.1, ((wN r.1 r.2.1), ((wU r.1 r.2.2.1), ((wF r.1 r.2.2.2.1), ((wM r.1 r.2.2.2.2.1), (wT r.1 r.2.2.2.2.2)))))))) then (T8 (k1chxkm r)) else (T2 ((True ∧ true = true) ∧ (T3 (bif (!(btw r.2.1 0 999999999)) then (T6 (k1chxkm r)) else (T2 (bif (repN r.1) then (T7 (bif (ltI r.2.1 (wL r.1)) then (T4 (k1chxkm r)) else (k8chxkm r))) else (T3 (k8chxkm r)))))))))))) ∧ ∀ _ : Unit, True → (bif (badR r) then (True ∧ (rB false (replyOk r))) else (T2 ((True ∧ true = true) ∧ (T2 (bif (!(btw r.1 5 8)) then (T2 (k6chxkm r)) else (T2 ((True ∧ true = true) ∧ (T2 (bif nameOk r.2.2.2.2.1 then (k6chxkm r) else (T2 (rB false (replyOk r)))))))))))))))))))))))))))))))) (by kernel_rfl) ?_
  unfold k9chxkm k8chxkm k7chxkm k6chxkm k5chxkm k4chxkm k2chxkm k1chxkm k3chxkm k0chxkm T2 T3 T4 T5 T6 T7 T8
  rw [reply_law]
  simp only [SIU, eq_self]
  repeat' (with_reducible first | exact trivial | apply And.intro | apply bifI | refine Exists.intro () ?_ | intro _)
  all_goals (try simp only [Bool.not_eq_true', Bool.not_eq_false'] at *)
  all_goals first
    | (with_reducible rfl)
    | exact trivial
    | (simp only [badR, *, Bool.true_and, Bool.and_true, Bool.false_and, Bool.and_false, Bool.true_or, Bool.or_true, Bool.false_or, Bool.or_false, Bool.not_true, Bool.not_false, cond_true, cond_false]; done)
    | (simp only [lastR, *, Bool.true_and, Bool.and_true, Bool.false_and, Bool.and_false, Bool.true_or, Bool.or_true, Bool.false_or, Bool.or_false, Bool.not_true, Bool.not_false, cond_true, cond_false]; done)
    | (simp only [wN, wU, wM, wF, wT, wL, repN, repU, badR, lastR, Bool.true_and, Bool.and_true, Bool.false_and, Bool.and_false, Bool.true_or, Bool.or_true, Bool.false_or, Bool.or_false, Bool.not_true, Bool.not_false, cond_true, cond_false, *]; done)
    | (rename_i h3 hb; have h4 : eqI r.1 4 = false := eqI_false.2 (by have := eqI_true.1 h3; omega); simp only [wF, wT, h3, h4, leB_refl, cond_true, cond_false]; done)
    | (simp only [wN, wU, wM, wF, wT, wL, *, leB_refl, Bool.true_and, Bool.and_true, Bool.false_and, Bool.and_false, Bool.true_or, Bool.or_true, Bool.false_or, Bool.or_false, Bool.not_true, Bool.not_false, cond_true, cond_false]; done)
def e_s_ReplyOk : Entry Tryz.prog := ⟨37, [.s tyCommit], fun x => True, fun x => .c (.bool (replyOk x.1)), fun _ => [], fun x hx => b_s_ReplyOk x.1, Tryz.call37⟩
end Go.Proofs.YtoigkpkafgjeaaaGreatDoor
