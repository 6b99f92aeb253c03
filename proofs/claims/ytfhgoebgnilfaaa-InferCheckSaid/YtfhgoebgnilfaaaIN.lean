/- Plain laws of names: what term.Name and the reference's Name answer. -/
import Derived.Test.YtfhgoebgnilfaaaI1
import Derived.Test.YtfhgoebgnilfaaaI2
namespace Go.Proofs.Ytfhgoebgnilfaaa.I
open Go.RowKit Go.Proofs.YtfhgoebgnilfaaaW.PrintWords Go.Proofs.YtfhgoebgnilfaaaW.PrintLast Go.Proofs.YtfhgoebgnilfaaaW.PrintMore
set_option linter.unusedVariables false
set_option maxRecDepth 100000
set_option linter.unusedSimpArgs false
theorem w64 (x : Int) (h : -1000000 ≤ x ∧ x ≤ 1000000) : wrap64 x = x := by unfold wrap64; omega
theorem Ev.ifp {α : Type} {c : Prop} [Decidable c] {f g : Nat → Option α} {r : α} (h : c) (k : Ev f r) : Ev (fun n => if c then f n else g n) r := by
  simp only [if_pos h]; exact k
theorem Ev.ifn {α : Type} {c : Prop} [Decidable c] {f g : Nat → Option α} {r : α} (h : ¬ c) (k : Ev g r) : Ev (fun n => if c then f n else g n) r := by
  simp only [if_neg h]; exact k
/-- May a sign stand in a name? -/
def okc (b : Int) : Bool := decide ((97 ≤ b ∧ b ≤ 122) ∨ (48 ≤ b ∧ b ≤ 57) ∨ b = 95)
theorem chr_ite {α : Type} (b : Int) (c d : α) : (if b < 97 then (if b < 48 then (if b = 95 then c else d) else (if b > 57 then (if b = 95 then c else d) else c)) else (if b > 122 then (if b < 48 then (if b = 95 then c else d) else (if b > 57 then (if b = 95 then c else d) else c)) else c)) = if okc b = true then c else d := by
  unfold okc
  simp only [decide_eq_true_eq]
  repeat' split
  all_goals first | rfl | (exfalso; omega)
def chars (s : ByteArray) : Nat → Nat → Bool
  | 0, _ => true
  | n + 1, i => okc (bt s (i : Int)) && chars s n (i + 1)
def nameOk (s : ByteArray) : Bool := decide (1 ≤ s.size ∧ s.size ≤ 24 ∧ 97 ≤ bt s 0 ∧ bt s 0 ≤ 122) && chars s s.size 0
theorem name_loop (s : ByteArray) (hs : s.size ≤ 24) : ∀ (n i : Nat), i + n = s.size → Ev (fun k => term_Name.l0 k s (s.size : Int) (i : Int)) (chars s n i)
  | 0, i, h => Ev.step (fun k => by rw [term_Name.l0, if_neg (by omega)]; rfl) (Ev.now _)
  | n + 1, i, h => by
    refine Ev.step (fun k => by rw [term_Name.l0, if_pos (by omega), if_pos (by omega), if_pos (by omega), chr_ite]) ?_
    unfold chars
    cases hc : okc (bt s (i : Int))
    · exact Ev.ifn (by simp) (Ev.now _)
    · refine Ev.ifp rfl ?_
      rw [w64 _ (by omega)]
      exact name_loop s hs n (i + 1) (by omega)
theorem refname_loop (s : ByteArray) (hs : s.size ≤ 24) : ∀ (n i : Nat), i + n = s.size → Ev (fun k => virgationref02_Name.l0 k s (i : Int)) (chars s n i)
  | 0, i, h => Ev.step (fun k => by rw [virgationref02_Name.l0, if_neg (by omega)]; rfl) (Ev.now _)
  | n + 1, i, h => by
    refine Ev.step (fun k => by rw [virgationref02_Name.l0, if_pos (by omega), if_pos (by omega), chr_ite]) ?_
    unfold chars
    cases hc : okc (bt s (i : Int))
    · exact Ev.ifn (by simp) (Ev.now _)
    · refine Ev.ifp rfl ?_
      rw [w64 _ (by omega)]
      exact refname_loop s hs n (i + 1) (by omega)
theorem name_no (s : ByteArray) : Ev (fun k => term_Name.j0 k s true) false := Ev.step (fun k => by rw [term_Name.j0, if_pos rfl]) (Ev.now _)
theorem refname_no (s : ByteArray) : Ev (fun k => virgationref02_Name.j0 k s true) false := Ev.step (fun k => by rw [virgationref02_Name.j0, if_pos rfl]) (Ev.now _)
theorem nameOk_no {s : ByteArray} (h : ¬ (1 ≤ s.size ∧ s.size ≤ 24 ∧ 97 ≤ bt s 0 ∧ bt s 0 ≤ 122)) : nameOk s = false := by
  unfold nameOk
  rw [decide_eq_false h, Bool.false_and]
theorem name_ev (s : ByteArray) : Ev (fun k => term_Name.f k s) (nameOk s) := by
  unfold term_Name.f
  by_cases h1 : (s.size : Int) = 0
  · rw [nameOk_no (by omega)]; exact Ev.ifp h1 (name_no s)
  · by_cases h2 : (s.size : Int) > 24
    · rw [nameOk_no (by omega)]; exact Ev.ifn h1 (Ev.ifp h2 (name_no s))
    · refine Ev.ifn h1 (Ev.ifn h2 (Ev.ifp (by omega) ?_))
      by_cases h3 : bt s 0 < 97
      · rw [nameOk_no (by omega)]; exact Ev.ifp h3 (name_no s)
      · refine Ev.ifn h3 ?_
        by_cases h4 : bt s 0 > 122
        · rw [nameOk_no (by omega), decide_eq_true h4]; exact name_no s
        · rw [decide_eq_false h4]
          refine Ev.step (fun k => by rw [term_Name.j0, if_neg (by simp)]) ?_
          unfold nameOk
          rw [decide_eq_true (by omega), Bool.true_and]
          exact name_loop s (by omega) s.size 0 (by omega)
theorem refname_ev (s : ByteArray) : Ev (fun k => virgationref02_Name.f k s) (nameOk s) := by
  unfold virgationref02_Name.f
  by_cases h1 : (s.size : Int) < 1
  · rw [nameOk_no (by omega)]; exact Ev.ifp h1 (refname_no s)
  · by_cases h2 : (s.size : Int) > 24
    · rw [nameOk_no (by omega)]; exact Ev.ifn h1 (Ev.ifp h2 (refname_no s))
    · refine Ev.ifn h1 (Ev.ifn h2 (Ev.ifp (by omega) ?_))
      by_cases h3 : bt s 0 < 97
      · rw [nameOk_no (by omega)]; exact Ev.ifp h3 (refname_no s)
      · refine Ev.ifn h3 ?_
        by_cases h4 : bt s 0 > 122
        · rw [nameOk_no (by omega), decide_eq_true h4]; exact refname_no s
        · rw [decide_eq_false h4]
          refine Ev.step (fun k => by rw [virgationref02_Name.j0, if_neg (by simp)]) ?_
          unfold nameOk
          rw [decide_eq_true (by omega), Bool.true_and]
          exact refname_loop s (by omega) s.size 0 (by omega)
end Go.Proofs.Ytfhgoebgnilfaaa.I
