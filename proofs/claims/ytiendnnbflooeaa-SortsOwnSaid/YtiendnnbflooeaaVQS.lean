/- The plain laws of the reference's sameness. -/
import Derived.Test.YtiendnnbflooeaaVE
import Derived.Test.YtiendnnbflooeaaVQG
namespace Go.Proofs.Ytiendnnbflooeaa.V
open Go.RowKit Go.Proofs.YtiendnnbflooeaaW.PrintWords Go.Proofs.YtiendnnbflooeaaW.PrintLast Go.Proofs.YtiendnnbflooeaaW.PrintMore
set_option linter.unusedVariables false
set_option linter.unusedSimpArgs false
theorem equal_ev (N : Nat) : ∀ (l m : List S24), SizeOf.sizeOf l < N → cntL l ≤ 1000 → Ev (fun k => virgationref01_Equal.f k l m) (eqL l m) := by
  induction N with
  | zero => intro l m h; omega
  | succ N ih =>
  intro l m hN h1
  have hlen := cntL_ge l
  by_cases hlm : l.length = m.length
  · have loop : ∀ (n i : Nat), l.length - i = n → i ≤ l.length → Ev (fun k => virgationref01_Equal.l0 k (l.length : Int) (i : Int) l m) (eqL (l.drop i) (m.drop i)) := by
      intro n
      induction n with
      | zero =>
        intro i hn hi
        have hd : l.drop i = [] := List.drop_eq_nil_of_le (by omega)
        have hd2 : m.drop i = [] := List.drop_eq_nil_of_le (by omega)
        rw [hd, hd2]
        change Ev _ true
        exact Ev.step (fun k => by rw [virgationref01_Equal.l0, if_neg (by omega)]) (Ev.now _)
      | succ n ihn =>
        intro i hn hi
        have hil : i < l.length := by omega
        have hch := cnt_child l i hil
        refine Ev.step (fun k => by rw [virgationref01_Equal.l0, if_pos (by omega), if_pos (by omega), if_pos (by omega), if_pos (by omega)]) ?_
        refine Ev.bind (a := eqL (rd_T24 l (i : Int)).f0 (rd_T24 m (i : Int)).f0) ?_ ?_
        · exact ih _ _ (by have := rd_T24_mem l i hil; omega) (by omega)
        · rw [drop_eq l m i hil (by omega)]
          cases eqL (rd_T24 l (i : Int)).f0 (rd_T24 m (i : Int)).f0
          · exact Ev.now _
          · rw [w64 _ (by omega)]
            exact ihn (i + 1) (by omega) (by omega)
    refine Ev.step (fun k => by rw [virgationref01_Equal.f, if_pos (by omega)]) ?_
    have := loop l.length 0 (by omega) (by omega)
    rw [List.drop_zero, List.drop_zero] at this
    exact this
  · have : eqL l m = false := by
      cases h : eqL l m
      · rfl
      · exact absurd (eqL_len l m h) hlm
    rw [this]
    exact Ev.step (fun k => by rw [virgationref01_Equal.f, if_neg (by omega)]) (Ev.now _)
theorem refsame_ev (l m : List S24) : Ev (fun k => virgationref01_Same.f k l m) (sameB l m) := by
  unfold virgationref01_Same.f sameB
  refine Ev.bind (nodes60 l) ?_
  by_cases h : 1 + cntL l ≤ 60
  · refine Ev.ifp (by omega) ?_
    refine Ev.bind (nodes60 m) ?_
    simp only [h, decide_true, Bool.true_and]
    by_cases h2 : 1 + cntL m ≤ 60
    · refine Ev.ifp (by omega) ?_
      exact Ev.bind (equal_ev _ l m (Nat.lt_succ_self _) (by omega)) (Ev.now _)
    · refine Ev.ifn (by omega) ?_
      have : eqL l m = false := by
        cases h3 : eqL l m
        · rfl
        · exact absurd (eqL_cnt l m h3) (by omega)
      rw [this]
      exact Ev.now _
  · refine Ev.ifn (by omega) ?_
    simp only [h, decide_false, Bool.false_and]
    exact Ev.now _
end Go.Proofs.Ytiendnnbflooeaa.V
