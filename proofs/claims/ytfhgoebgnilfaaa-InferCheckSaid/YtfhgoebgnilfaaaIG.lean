/- infer.Check and infer.Sorts, in the form that printed texts take: none where a kind or a number is no int. -/
import Derived.Test.YtfhgoebgnilfaaaIQ1
import Derived.Test.YtfhgoebgnilfaaaIK8
namespace Go.Proofs.Ytfhgoebgnilfaaa.I
open Go.RowKit Go.Proofs.YtfhgoebgnilfaaaW.PrintWords Go.Proofs.YtfhgoebgnilfaaaW.PrintLast Go.Proofs.YtfhgoebgnilfaaaW.PrintMore
set_option linter.unusedVariables false
mutual
/-- Are all heads' kinds ints? -/
def twfB : S44 → Bool
  | ⟨k, _, l⟩ => (Lit.int .i64 k).wf && twfBL l
def twfBL : List S44 → Bool
  | [] => true
  | x :: xs => twfB x && twfBL xs
end
mutual
theorem twf_of : ∀ {x : S44}, twfB x = true → twf x
  | ⟨k, n, l⟩, h => by
    unfold twfB at h
    rw [Bool.and_eq_true] at h
    exact ⟨h.1, twfL_of h.2⟩
theorem twfL_of : ∀ {l : List S44}, twfBL l = true → twfL l
  | [], _ => trivial
  | x :: xs, h => by
    unfold twfBL at h
    rw [Bool.and_eq_true] at h
    exact ⟨twf_of h.1, twfL_of h.2⟩
end
def looseWf (l : List S48) : Bool := l.all (fun x => twfB x.f2)
theorem looseWf_of {l : List S48} (h : looseWf l = true) : ∀ x ∈ l, twf x.f2 := fun x hx => twf_of (List.all_eq_true.1 h x hx)
def infer_Check.f (l0 : List S59) (l1 : List S48) : Option Int := if looseWf l1 = true then chkF l0 l1 else none
theorem infer_Check.calls (A0 : Option Addr) (c0 : Nat) (l0 : List S59) (A1 : Option Addr) (c1 : Nat) (l1 : List S48) (r : Int) (w : World) (hr0 : Kd.C k59 w A0 l0.length l0) (hc0 : l0.length ≤ c0) (hr1 : Kd.C k48 w A1 l1.length l1) (hc1 : l1.length ≤ c1) (h : infer_Check.f l0 l1 = some r) :
    Calls Try.prog 10 #[.slice A0 l0.length c0, .slice A1 l1.length c1] w fun e w' => e = .returned (.int .i64 r) ∧ Below w.heap.size w w' := by
  unfold infer_Check.f at h
  by_cases hw : looseWf l1 = true
  · rw [if_pos hw] at h
    exact chkF_calls A0 c0 l0 A1 c1 l1 r w hr0 hc0 hr1 hc1 (looseWf_of hw) h
  · rw [if_neg hw] at h; cases h
def infer_Sorts.f (k : Nat) (l0 : List S59) (l1 : List S48) : Option (List S41 × Int) := if looseWf l1 = true then fsorts k l0 l1 else none
theorem infer_Sorts.mono : ∀ l0 l1 k, LeO (infer_Sorts.f k l0 l1) (infer_Sorts.f (k + 1) l0 l1) := by
  intro l0 l1 k r h
  unfold infer_Sorts.f at h ⊢
  by_cases hw : looseWf l1 = true
  · rw [if_pos hw] at h ⊢
    exact fsorts_s k l0 l1 r h
  · rw [if_neg hw] at h; cases h
theorem infer_Sorts.calls (k : Nat) (A0 : Option Addr) (c0 : Nat) (l0 : List S59) (A1 : Option Addr) (c1 : Nat) (l1 : List S48) (r1 : List S41) (r2 : Int) (w : World) (hr0 : Kd.C k59 w A0 l0.length l0) (hc0 : l0.length ≤ c0) (hr1 : Kd.C k48 w A1 l1.length l1) (hc1 : l1.length ≤ c1) (h : infer_Sorts.f k l0 l1 = some (r1, r2)) :
    Calls Try.prog 13 #[.slice A0 l0.length c0, .slice A1 l1.length c1] w fun e w' => ∃ v0_ : Value, e = .returned (.tuple #[v0_, .int .i64 r2]) ∧ Kd.R k41 41 w' w.heap.size (fun _ => True) v0_ r1 ∧ Below w.heap.size w w' := by
  unfold infer_Sorts.f at h
  by_cases hw : looseWf l1 = true
  · rw [if_pos hw] at h
    exact infer_Sorts_calls k A0 c0 l0 A1 c1 l1 r1 r2 w hr0 hc0 hr1 hc1 (looseWf_of hw) h
  · rw [if_neg hw] at h; cases h
end Go.Proofs.Ytfhgoebgnilfaaa.I
