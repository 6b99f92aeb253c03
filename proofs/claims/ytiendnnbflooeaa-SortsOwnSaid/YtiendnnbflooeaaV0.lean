-- PRINTED by print.py (a twelfth state) out of the translation. Not trusted: Lean checks it.
import Derived.Test.YtiendnnbflooeaaProg
import Derived.Below
import Derived.Deep.Draws
import Derived.Deep.AppendLies
import Derived.Maps.AppendAt
import Derived.OwnWalk
import Derived.Laws.BytesArg
import Derived.Laws.MakeOwn
import Derived.Laws.OwnMore
import Derived.Deep.OwnRows
import Derived.Tactics
import Derived.Lib.ConvBytes
import Derived.Laws.Slices
import Derived.WalkKit
import Derived.KernelRfl
import Derived.RowKit3
import Derived.Deep.LoopGhost
import Derived.Deep.QuietTactic
import Derived.BigQuiet
import Derived.WideLaws
import Derived.Deep.DeepCutAuto
import Derived.Deep.CutBlock
import Derived.Deep.RegionHeld3
import Derived.Laws.Rows
import Derived.Lib.AppendStr
import Derived.ArgAppend
import Derived.Laws.IdiomCopy
import Derived.OrdersHeld
import Derived.Laws.BitsLemmas
import Derived.RowKit
import Derived.Test.YtiendnnbflooeaaWWords
import Derived.Test.YtiendnnbflooeaaWLast
import Derived.Test.YtiendnnbflooeaaWTab
import Derived.Test.YtiendnnbflooeaaWFour
import Derived.Test.YtiendnnbflooeaaWQPut
import Derived.Test.YtiendnnbflooeaaWApart
import Derived.Test.YtiendnnbflooeaaWArr
import Derived.Test.YtiendnnbflooeaaWZeros
import Derived.Test.YtiendnnbflooeaaWFoot
import Derived.Test.YtiendnnbflooeaaWKept
import Derived.Test.YtiendnnbflooeaaWShare
import Derived.Test.YtiendnnbflooeaaWN
import Derived.Test.YtiendnnbflooeaaWFootNe
import Derived.Test.YtiendnnbflooeaaWAt
import Derived.Test.YtiendnnbflooeaaWEqStruct
import Derived.Test.YtiendnnbflooeaaWRepsOne
import Derived.Test.YtiendnnbflooeaaWInv
import Derived.Test.YtiendnnbflooeaaWInvWords
import Derived.Test.YtiendnnbflooeaaWGuard
import Derived.Test.YtiendnnbflooeaaWNEv
import Derived.Test.YtiendnnbflooeaaWMore
namespace Go.Proofs.Ytiendnnbflooeaa.V
open Go.RowKit Go.Proofs.YtiendnnbflooeaaW.PrintWords Go.Proofs.YtiendnnbflooeaaW.PrintLast Go.Proofs.YtiendnnbflooeaaW.PrintMore
attribute [local go_sem] max2_int min2_int max_two min_two max_three min_three max_four min_four   -- for this text's walks alone
set_option linter.unusedVariables false
set_option linter.unusedSimpArgs false



def errW : Option Int → Value
  | none => .nilIface
  | some c => .iface 0 (.int .i64 c)
theorem errW_none : errW none = .nilIface := rfl
theorem errW_some (c : Int) : errW (some c) = .iface 0 (.int .i64 c) := rfl

theorem info24 : (Try.prog.info? 24).map (fun i => (i.zero, i.size, i.bytes)) = some (some (.agg #[(.slice none 0 0)]), 1, 24) := by kernel_rfl
-- the values' own types
/-! #### struct type 24, nested in itself -/
structure S24 where
  f0 : (List S24)
def z24 : S24 := ⟨([] : List S24)⟩
def F24 (d : Kd S24) : Kd S24 := Kd.iso (Kd.slice 24 d) (fun x : S24 => x.f0)
theorem mono24 : Kd.Mono F24 := Kd.mono_iso _ (Kd.mono_slice 24 Kd.mono_id)
theorem sub24 : Kd.Sub F24 [24] := Kd.sub_iso _ (Kd.sub_slice 24 (by decide) Kd.sub_id)
theorem sz24 : ∀ n, (Kd.upto F24 1 [24] n).sz = 1 := Kd.upto_sz (fun _ => rfl)
def k24 : Kd S24 := Kd.fix F24 1 [24] sz24 (Kd.upto_E sub24)
theorem k24_open {w : World} {x : S24} {cs : List Value} (h : k24.K w x cs) : ∃ A0 c0, cs = [.slice A0 x.f0.length c0] ∧ x.f0.length ≤ c0 ∧ k24.C w A0 x.f0.length x.f0 := by
  obtain ⟨n, h⟩ := h
  cases n with
  | zero => exact h.elim
  | succ n =>
    obtain ⟨A0, c0, rfl, l0, g0⟩ := h
    exact ⟨A0, c0, rfl, l0, Kd.fix_C g0⟩
theorem k24_openM {w : World} {base : Nat} {ok : Nat → Prop} {x : S24} {cs : List Value} (h : k24.M w base ok x cs) : ∃ v0, cs = [v0] ∧ k24.R 24 w base ok v0 x.f0 := by
  obtain ⟨n, h⟩ := h
  cases n with
  | zero => exact h.elim
  | succ n =>
    obtain ⟨v0, rfl, g0⟩ := h
    exact ⟨v0, rfl, Kd.fix_R g0⟩
theorem k24_mk (w : World) (x : S24) {A0 : Option Addr} {c0 : Nat} (l0 : x.f0.length ≤ c0) (g0 : k24.C w A0 x.f0.length x.f0) : k24.K w x [.slice A0 x.f0.length c0] := by
  obtain ⟨n0, q0⟩ := Kd.fix_C_back mono24 g0
  have r0 := Kd.upto_C_le mono24 sz24 (show n0 ≤ n0 by omega) q0
  exact ⟨n0 + 1, ⟨A0, c0, rfl, l0, r0⟩⟩
theorem k24_mkM (w : World) (base : Nat) (ok : Nat → Prop) (x : S24) {v0 : Value} (g0 : k24.R 24 w base ok v0 x.f0) : k24.M w base ok x [v0] := by
  obtain ⟨n0, q0⟩ := Kd.fix_R_back mono24 g0
  have r0 := Kd.upto_R_le mono24 sz24 (show n0 ≤ n0 by omega) q0
  exact ⟨n0 + 1, ⟨v0, rfl, r0⟩⟩
def rd_T24 (xs : List S24) (i : Int) : S24 := xs.getD i.toNat z24
theorem at_T24 {w : World} {A : Option Addr} {n : Nat} {xs : List S24} (h : Kd.C k24 w A n xs) (i : Int) (h0 : 0 ≤ i) (h1 : i < n) : ∃ ad A0 c0, A = some ad ∧ w.cell? (ad.add i.toNat) = some (.slice A0 (rd_T24 xs i).f0.length c0) ∧ (rd_T24 xs i).f0.length ≤ c0 ∧ k24.C w A0 (rd_T24 xs i).f0.length (rd_T24 xs i).f0 := by
  obtain ⟨ad, c, e, _, hK, hc0⟩ := Kd.C_get h z24 i h0 h1
  have hc : ∀ j u, c[j]? = some u → w.cell? (ad.add (i.toNat * 1 + j)) = some u := hc0
  obtain ⟨A0, c0, rfl, l0, g0⟩ := k24_open hK
  exact ⟨ad, A0, c0, e, by have hq := hc 0 _ rfl; rwa [Nat.mul_one, Nat.add_zero] at hq, l0, g0⟩

end Go.Proofs.Ytiendnnbflooeaa.V
