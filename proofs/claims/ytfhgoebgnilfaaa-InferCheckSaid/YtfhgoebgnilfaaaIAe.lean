/- The chapter's examples, computed. -/
import Derived.Test.YtfhgoebgnilfaaaIG
namespace Go.Proofs.Ytfhgoebgnilfaaa.I
open Go.RowKit
def x0 : S44 := ⟨0, 0, []⟩
def x1 : S44 := ⟨2, 1, [x0]⟩
def x2 : S44 := ⟨1, 1, [x1]⟩
def x3 : S44 := ⟨2, 0, [x0, x2]⟩
def xc : S44 := ⟨2, 2, []⟩
def exSyms : List S59 := [⟨⟨#[97]⟩, 2⟩, ⟨⟨#[98]⟩, 1⟩, ⟨⟨#[99]⟩, 0⟩]
def ex1 : List S48 := [⟨⟨#[115]⟩, 0, ⟨1, 1, [xc]⟩⟩, ⟨⟨#[102]⟩, 1, x3⟩]
def ex2 : List S48 := [⟨⟨#[115]⟩, 0, xc⟩, ⟨⟨#[102]⟩, 1, ⟨0, 0, [x0]⟩⟩]
def ex3 : List S48 := [⟨⟨#[115]⟩, 0, xc⟩, ⟨⟨#[107]⟩, 2, x0⟩]
theorem ev1 : infer_Sorts.f 40 exSyms ex1 = some ([⟨[]⟩, ⟨[⟨[]⟩]⟩], 0) := by kernel_rfl
theorem ev2 : infer_Sorts.f 40 exSyms ex2 = some ([], 6) := by kernel_rfl
theorem ev3 : infer_Sorts.f 40 exSyms ex3 = some ([⟨[]⟩, ⟨[⟨[]⟩, ⟨[]⟩]⟩], 0) := by kernel_rfl
end Go.Proofs.Ytfhgoebgnilfaaa.I
