/- The plain laws of given and of InferCheck. -/
import Derived.Test.YtfhgoebgnilfaaaIP3
import Derived.Test.YtfhgoebgnilfaaaI6
import Derived.Test.YtfhgoebgnilfaaaIOT
namespace Go.Proofs.Ytfhgoebgnilfaaa.I
open Go.RowKit Go.Proofs.YtfhgoebgnilfaaaW.PrintWords
set_option linter.unusedVariables false
mutual
theorem wf44_twf : ∀ {x : S44}, wf44 x → twfB x = true
  | ⟨k, n, l⟩, h => by
    unfold wf44 at h
    unfold twfB
    rw [Bool.and_eq_true]
    exact ⟨h.1, wf44L_twf h.2.2.2⟩
theorem wf44L_twf : ∀ {l : List S44}, wf44L l → twfBL l = true
  | [], _ => rfl
  | x :: xs, h => by
    unfold wf44L at h
    unfold twfBL
    rw [Bool.and_eq_true]
    exact ⟨wf44_twf h.1, wf44L_twf h.2⟩
end
theorem looseWf_to48 {l : List S56} (h : ∀ y_, y_ ∈ l → wf56 y_) : looseWf (l.map to48) = true := by
  unfold looseWf
  rw [List.all_eq_true]
  intro x hx
  obtain ⟨y, hy, rfl⟩ := List.mem_map.1 hx
  exact wf44_twf (h y hy).2.2
theorem given_loop (l : List S56) (hl : l.length ≤ 1000) : ∀ (m i : Nat), l.length - i = m → i ≤ l.length → Ev (fun k => virgationlaw04_given.l0 k ((l.take i).map to48) l (l.length : Int) (i : Int)) (l.map to48) := by
  intro m
  induction m with
  | zero =>
    intro i hm hi
    have hie : i = l.length := by omega
    subst hie
    refine Ev.step (fun k => by rw [virgationlaw04_given.l0, if_neg (by omega)]) ?_
    rw [List.take_length]
    exact Ev.now _
  | succ m ih =>
    intro i hm hi
    have hlt : i < l.length := by omega
    refine Ev.step (fun k => by
      rw [virgationlaw04_given.l0, if_pos (by omega), if_pos (by omega), if_pos (by omega), if_pos (by rw [List.length_map, List.length_take]; omega)]) ?_
    have e : wrap64 ((i : Int) + 1) = ((i + 1 : Nat) : Int) := by unfold wrap64; omega
    have e2 : (l.take i).map to48 ++ [(⟨(rd_T56 l (i : Int)).f0, (rd_T56 l (i : Int)).f1, (⟨(rd_T56 l (i : Int)).f2.f0, (rd_T56 l (i : Int)).f2.f1, (rd_T56 l (i : Int)).f2.f2⟩ : S44)⟩ : S48)] = (l.take (i + 1)).map to48 := by
      have e3 : l.take (i + 1) = l.take i ++ [l[i]] := by rw [List.take_add_one, List.getElem?_eq_getElem hlt]; rfl
      have e4 : rd_T56 l (i : Int) = l[i] := by unfold rd_T56; rw [Int.toNat_natCast, List.getD_eq_getElem?_getD, List.getElem?_eq_getElem hlt]; rfl
      rw [e3, List.map_append, e4]
      generalize l[i] = x
      obtain ⟨a, b, c, d, f⟩ := x
      rfl
    rw [e, e2]
    exact ih (i + 1) (by omega) (by omega)
theorem given_ev (l : List S56) (hl : l.length ≤ 1000) : Ev (fun k => virgationlaw04_given.f k l) (l.map to48) := by
  have h := given_loop l hl l.length 0 (by omega) (by omega)
  rw [List.take_zero] at h
  exact h
theorem pure_InferCheck : ∀ (x0 : (List S59)) (x1 : (List S56)), (x0.length ≤ 9223372036854775807 ∧ (∀ y_, y_ ∈ x0 → wf59 y_)) → (x1.length ≤ 9223372036854775807 ∧ (∀ y_, y_ ∈ x1 → wf56 y_)) → ∃ k, virgationlaw04_InferCheck.f k x0 x1 = some true := by
  intro s l hs hl
  refine Ev.rounds ?_
  unfold virgationlaw04_InferCheck.f
  by_cases h1 : (l.length : Int) > 1000
  · exact Ev.ifp h1 (Ev.bind (Ev.now true) (Ev.now _))
  · refine Ev.ifn h1 ?_
    refine Ev.bind (given_ev l (by omega)) ?_
    obtain ⟨r, hr, he⟩ := check_ev s l
    have hc : infer_Check.f s (l.map to48) = some r := by
      unfold infer_Check.f
      rw [if_pos (looseWf_to48 hl.2)]
      exact hr
    refine Ev.congr (fun k => by rw [hc, Option.bind_some]) ?_
    refine Ev.bind he ?_
    exact Ev.ifp rfl (Ev.bind (Ev.now true) (Ev.now _))
end Go.Proofs.Ytfhgoebgnilfaaa.I
