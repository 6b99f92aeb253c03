/- Texts of this session's proof, laid together: I0, VOpen, IOT, IK1, IK2, IK3, IK4, IK5, IH1, IH3, IK6, IM. -/
import Derived.Test.YtfhgoebgnilfaaaProg
import Derived.Below
import Derived.Deep.Draws
import Derived.Deep.AppendLies
import Derived.Maps.AppendAt
import Derived.OwnWalk
import Derived.Laws.BytesArg
import Derived.Laws.MakeOwn
import Derived.Laws.OwnMore
import Derived.Deep.OwnRows
import Derived.Tactics
import Derived.Lib.ConvBytes
import Derived.Laws.Slices
import Derived.WalkKit
import Derived.KernelRfl
import Derived.RowKit3
import Derived.Deep.LoopGhost
import Derived.Deep.QuietTactic
import Derived.BigQuiet
import Derived.WideLaws
import Derived.Deep.DeepCutAuto
import Derived.Deep.CutBlock
import Derived.Deep.RegionHeld3
import Derived.Laws.Rows
import Derived.Lib.AppendStr
import Derived.ArgAppend
import Derived.Laws.IdiomCopy
import Derived.OrdersHeld
import Derived.Laws.BitsLemmas
import Derived.RowKit
import Derived.ProofKit
import Derived.OpenShut
import Derived.ChangeOld
import Derived.LaidEqlPtr
import Derived.Laws.Pointers
import Derived.Maps.OwnOps
import Derived.Maps.Views
import Derived.Test.YtfhgoebgnilfaaaZ0
namespace Go.Proofs.Ytfhgoebgnilfaaa.I
open Go.RowKit Go.Proofs.YtfhgoebgnilfaaaW.PrintWords Go.Proofs.YtfhgoebgnilfaaaW.PrintLast Go.Proofs.YtfhgoebgnilfaaaW.PrintMore
attribute [local go_sem] max2_int min2_int max_two min_two max_three min_three max_four min_four   -- for this text's walks alone
set_option linter.unusedVariables false
set_option linter.unusedSimpArgs false
def errW : Option Int → Value
  | none => .nilIface
  | some c => .iface 0 (.int .i64 c)
theorem errW_none : errW none = .nilIface := rfl
theorem errW_some (c : Int) : errW (some c) = .iface 0 (.int .i64 c) := rfl
theorem info41 : (Try.prog.info? 41).map (fun i => (i.zero, i.size, i.bytes)) = some (some (.agg #[(.slice none 0 0)]), 1, 24) := by kernel_rfl
theorem info44 : (Try.prog.info? 44).map (fun i => (i.zero, i.size, i.bytes)) = some (some (.agg #[(.int .i64 0), (.int .i64 0), (.slice none 0 0)]), 3, 40) := by kernel_rfl
theorem info48 : (Try.prog.info? 48).map (fun i => (i.zero, i.size, i.bytes)) = some (some (.agg #[(.string ⟨#[]⟩), (.int .i64 0), (.int .i64 0), (.int .i64 0), (.slice none 0 0)]), 5, 64) := by kernel_rfl
theorem info56 : (Try.prog.info? 56).map (fun i => (i.zero, i.size, i.bytes)) = some (some (.agg #[(.string ⟨#[]⟩), (.int .i64 0), (.int .i64 0), (.int .i64 0), (.slice none 0 0)]), 5, 64) := by kernel_rfl
theorem info59 : (Try.prog.info? 59).map (fun i => (i.zero, i.size, i.bytes)) = some (some (.agg #[(.string ⟨#[]⟩), (.int .i64 0)]), 2, 24) := by kernel_rfl
structure S44 where
  f0 : Int
  f1 : Int
  f2 : (List S44)
def z44 : S44 := ⟨(0 : Int), (0 : Int), ([] : List S44)⟩
def F44 (d : Kd S44) : Kd S44 := Kd.iso (Kd.pair (Kd.int .i64) (Kd.pair (Kd.int .i64) (Kd.slice 44 d))) (fun x : S44 => (x.f0, x.f1, x.f2))
theorem mono44 : Kd.Mono F44 := Kd.mono_iso _ (Kd.mono_pair (Kd.mono_const _) (Kd.mono_pair (Kd.mono_const _) (Kd.mono_slice 44 Kd.mono_id)))
theorem sub44 : Kd.Sub F44 [44] := Kd.sub_iso _ (Kd.sub_pair (Kd.sub_const _ (by decide)) (Kd.sub_pair (Kd.sub_const _ (by decide)) (Kd.sub_slice 44 (by decide) Kd.sub_id)))
theorem sz44 : ∀ n, (Kd.upto F44 3 [44] n).sz = 3 := Kd.upto_sz (fun _ => rfl)
def k44 : Kd S44 := Kd.fix F44 3 [44] sz44 (Kd.upto_E sub44)
theorem k44_heap : Kd.Heap k44 := Kd.heap_fix (fun _ h_ => Kd.heap_iso _ (Kd.heap_pair (Kd.heap_int .i64) (Kd.heap_pair (Kd.heap_int .i64) (Kd.heap_slice 44 h_))))
theorem k44_open {w : World} {x : S44} {cs : List Value} (h : k44.K w x cs) : ∃ A2 c2, cs = [.int .i64 x.f0, .int .i64 x.f1, .slice A2 x.f2.length c2] ∧ x.f2.length ≤ c2 ∧ k44.C w A2 x.f2.length x.f2 := by
  obtain ⟨n, h⟩ := h
  cases n with
  | zero => exact h.elim
  | succ n =>
    obtain ⟨_, _, rfl, rfl, ⟨_, _, rfl, rfl, ⟨A2, c2, rfl, l2, g2⟩⟩⟩ := h
    exact ⟨A2, c2, rfl, l2, Kd.fix_C g2⟩
theorem k44_openM {w : World} {base : Nat} {ok : Nat → Prop} {x : S44} {cs : List Value} (h : k44.M w base ok x cs) : ∃ v2, cs = [.int .i64 x.f0, .int .i64 x.f1, v2] ∧ k44.R 44 w base ok v2 x.f2 := by
  obtain ⟨n, h⟩ := h
  cases n with
  | zero => exact h.elim
  | succ n =>
    obtain ⟨_, _, rfl, rfl, ⟨_, _, rfl, rfl, ⟨v2, rfl, g2⟩⟩⟩ := h
    exact ⟨v2, rfl, Kd.fix_R g2⟩
theorem k44_mk (w : World) (x : S44) {A2 : Option Addr} {c2 : Nat} (l2 : x.f2.length ≤ c2) (g2 : k44.C w A2 x.f2.length x.f2) : k44.K w x [.int .i64 x.f0, .int .i64 x.f1, .slice A2 x.f2.length c2] := by
  obtain ⟨n2, q2⟩ := Kd.fix_C_back mono44 g2
  have r2 := Kd.upto_C_le mono44 sz44 (show n2 ≤ n2 by omega) q2
  exact ⟨n2 + 1, ⟨[.int .i64 x.f0], [.int .i64 x.f1, .slice A2 x.f2.length c2], rfl, rfl, ⟨[.int .i64 x.f1], [.slice A2 x.f2.length c2], rfl, rfl, ⟨A2, c2, rfl, l2, r2⟩⟩⟩⟩
theorem k44_mkM (w : World) (base : Nat) (ok : Nat → Prop) (x : S44) {v2 : Value} (g2 : k44.R 44 w base ok v2 x.f2) : k44.M w base ok x [.int .i64 x.f0, .int .i64 x.f1, v2] := by
  obtain ⟨n2, q2⟩ := Kd.fix_R_back mono44 g2
  have r2 := Kd.upto_R_le mono44 sz44 (show n2 ≤ n2 by omega) q2
  exact ⟨n2 + 1, ⟨[.int .i64 x.f0], [.int .i64 x.f1, v2], rfl, rfl, ⟨[.int .i64 x.f1], [v2], rfl, rfl, ⟨v2, rfl, r2⟩⟩⟩⟩
def rd_T44 (xs : List S44) (i : Int) : S44 := xs.getD i.toNat z44
theorem at_T44 {w : World} {A : Option Addr} {n : Nat} {xs : List S44} (h : Kd.C k44 w A n xs) (i : Int) (h0 : 0 ≤ i) (h1 : i < n) : ∃ ad A2 c2, A = some ad ∧ w.cell? (ad.add (i.toNat * 3)) = some (.int .i64 (rd_T44 xs i).f0) ∧ w.cell? ⟨(ad.add (i.toNat * 3)).block, (ad.add (i.toNat * 3)).off + 1, none⟩ = some (.int .i64 (rd_T44 xs i).f1) ∧ w.cell? ⟨(ad.add (i.toNat * 3)).block, (ad.add (i.toNat * 3)).off + 2, none⟩ = some (.slice A2 (rd_T44 xs i).f2.length c2) ∧ (rd_T44 xs i).f2.length ≤ c2 ∧ k44.C w A2 (rd_T44 xs i).f2.length (rd_T44 xs i).f2 := by
  obtain ⟨ad, c, e, _, hK, hc0⟩ := Kd.C_get h z44 i h0 h1
  have hc : ∀ j u, c[j]? = some u → w.cell? (ad.add (i.toNat * 3 + j)) = some u := hc0
  obtain ⟨A2, c2, rfl, l2, g2⟩ := k44_open hK
  exact ⟨ad, A2, c2, e, hc 0 _ rfl, by rw [← add_field _ _ 1 (by omega)]; exact hc 1 _ rfl, by rw [← add_field _ _ 2 (by omega)]; exact hc 2 _ rfl, l2, g2⟩
structure S59 where
  f0 : ByteArray
  f1 : Int
def z59 : S59 := ⟨(⟨#[]⟩ : ByteArray), (0 : Int)⟩
def k59 : Kd S59 := Kd.iso (Kd.pair Kd.string (Kd.int .i64)) (fun x : S59 => (x.f0, x.f1))
theorem k59_open {w : World} {x : S59} {cs : List Value} (h : k59.K w x cs) : cs = [.string x.f0, .int .i64 x.f1] := by
  obtain ⟨_, _, rfl, rfl, rfl⟩ := h
  exact rfl
theorem k59_openM {w : World} {base : Nat} {ok : Nat → Prop} {x : S59} {cs : List Value} (h : k59.M w base ok x cs) : cs = [.string x.f0, .int .i64 x.f1] := by
  obtain ⟨_, _, rfl, rfl, rfl⟩ := h
  exact rfl
theorem k59_mk (w : World) (x : S59)  : k59.K w x [.string x.f0, .int .i64 x.f1] := ⟨[.string x.f0], [.int .i64 x.f1], rfl, rfl, rfl⟩
theorem k59_mkM (w : World) (base : Nat) (ok : Nat → Prop) (x : S59)  : k59.M w base ok x [.string x.f0, .int .i64 x.f1] := ⟨[.string x.f0], [.int .i64 x.f1], rfl, rfl, rfl⟩
def rd_T59 (xs : List S59) (i : Int) : S59 := xs.getD i.toNat z59
theorem at_T59 {w : World} {A : Option Addr} {n : Nat} {xs : List S59} (h : Kd.C k59 w A n xs) (i : Int) (h0 : 0 ≤ i) (h1 : i < n) : ∃ ad , A = some ad ∧ w.cell? (ad.add (i.toNat * 2)) = some (.string (rd_T59 xs i).f0) ∧ w.cell? ⟨(ad.add (i.toNat * 2)).block, (ad.add (i.toNat * 2)).off + 1, none⟩ = some (.int .i64 (rd_T59 xs i).f1) := by
  obtain ⟨ad, c, e, _, hK, hc0⟩ := Kd.C_get h z59 i h0 h1
  have hc : ∀ j u, c[j]? = some u → w.cell? (ad.add (i.toNat * 2 + j)) = some u := hc0
  obtain rfl := k59_open hK
  exact ⟨ad, e, hc 0 _ rfl, by rw [← add_field _ _ 1 (by omega)]; exact hc 1 _ rfl⟩
structure S48 where
  f0 : ByteArray
  f1 : Int
  f2 : S44
def z48 : S48 := ⟨(⟨#[]⟩ : ByteArray), (0 : Int), z44⟩
def k48 : Kd S48 := Kd.iso (Kd.pair Kd.string (Kd.pair (Kd.int .i64) k44)) (fun x : S48 => (x.f0, x.f1, x.f2))
theorem k48_open {w : World} {x : S48} {cs : List Value} (h : k48.K w x cs) : ∃ A4 c4, cs = [.string x.f0, .int .i64 x.f1, .int .i64 x.f2.f0, .int .i64 x.f2.f1, .slice A4 x.f2.f2.length c4] ∧ x.f2.f2.length ≤ c4 ∧ k44.C w A4 x.f2.f2.length x.f2.f2 := by
  obtain ⟨_, _, rfl, rfl, ⟨_, _, rfl, rfl, s2⟩⟩ := h
  obtain ⟨A4, c4, rfl, l4, g4⟩ := k44_open s2
  exact ⟨A4, c4, rfl, l4, g4⟩
theorem k48_mk (w : World) (x : S48) {A4 : Option Addr} {c4 : Nat} (l4 : x.f2.f2.length ≤ c4) (g4 : k44.C w A4 x.f2.f2.length x.f2.f2) : k48.K w x [.string x.f0, .int .i64 x.f1, .int .i64 x.f2.f0, .int .i64 x.f2.f1, .slice A4 x.f2.f2.length c4] := ⟨[.string x.f0], [.int .i64 x.f1, .int .i64 x.f2.f0, .int .i64 x.f2.f1, .slice A4 x.f2.f2.length c4], rfl, rfl, ⟨[.int .i64 x.f1], [.int .i64 x.f2.f0, .int .i64 x.f2.f1, .slice A4 x.f2.f2.length c4], rfl, rfl, (k44_mk w x.f2 l4 g4)⟩⟩
theorem k48_mkF (W : World) (ok : Nat → Prop) (x : S48) {A4 : Option Addr} {c4 : Nat} (l4 : x.f2.f2.length ≤ c4) (g4 : Kd.F k44 W ok A4 x.f2.f2.length x.f2.f2) : Kd.FK k48 W ok x [.string x.f0, .int .i64 x.f1, .int .i64 x.f2.f0, .int .i64 x.f2.f1, .slice A4 x.f2.f2.length c4] := fun W2 hW => k48_mk W2 x l4 (g4 W2 hW)
def rd_T48 (xs : List S48) (i : Int) : S48 := xs.getD i.toNat z48
theorem at_T48 {w : World} {A : Option Addr} {n : Nat} {xs : List S48} (h : Kd.C k48 w A n xs) (i : Int) (h0 : 0 ≤ i) (h1 : i < n) : ∃ ad A4 c4, A = some ad ∧ w.cell? (ad.add (i.toNat * 5)) = some (.string (rd_T48 xs i).f0) ∧ w.cell? ⟨(ad.add (i.toNat * 5)).block, (ad.add (i.toNat * 5)).off + 1, none⟩ = some (.int .i64 (rd_T48 xs i).f1) ∧ w.cell? ⟨(ad.add (i.toNat * 5)).block, (ad.add (i.toNat * 5)).off + 2, none⟩ = some (.int .i64 (rd_T48 xs i).f2.f0) ∧ w.cell? ⟨(ad.add (i.toNat * 5)).block, (ad.add (i.toNat * 5)).off + 3, none⟩ = some (.int .i64 (rd_T48 xs i).f2.f1) ∧ w.cell? ⟨(ad.add (i.toNat * 5)).block, (ad.add (i.toNat * 5)).off + 4, none⟩ = some (.slice A4 (rd_T48 xs i).f2.f2.length c4) ∧ (rd_T48 xs i).f2.f2.length ≤ c4 ∧ k44.C w A4 (rd_T48 xs i).f2.f2.length (rd_T48 xs i).f2.f2 := by
  obtain ⟨ad, c, e, _, hK, hc0⟩ := Kd.C_get h z48 i h0 h1
  have hc : ∀ j u, c[j]? = some u → w.cell? (ad.add (i.toNat * 5 + j)) = some u := hc0
  obtain ⟨A4, c4, rfl, l4, g4⟩ := k48_open hK
  exact ⟨ad, A4, c4, e, hc 0 _ rfl, by rw [← add_field _ _ 1 (by omega)]; exact hc 1 _ rfl, by rw [← add_field _ _ 2 (by omega)]; exact hc 2 _ rfl, by rw [← add_field _ _ 3 (by omega)]; exact hc 3 _ rfl, by rw [← add_field _ _ 4 (by omega)]; exact hc 4 _ rfl, l4, g4⟩
structure S41 where
  f0 : (List S41)
def z41 : S41 := ⟨([] : List S41)⟩
def F41 (d : Kd S41) : Kd S41 := Kd.iso (Kd.slice 41 d) (fun x : S41 => x.f0)
theorem mono41 : Kd.Mono F41 := Kd.mono_iso _ (Kd.mono_slice 41 Kd.mono_id)
theorem sub41 : Kd.Sub F41 [41] := Kd.sub_iso _ (Kd.sub_slice 41 (by decide) Kd.sub_id)
theorem sz41 : ∀ n, (Kd.upto F41 1 [41] n).sz = 1 := Kd.upto_sz (fun _ => rfl)
def k41 : Kd S41 := Kd.fix F41 1 [41] sz41 (Kd.upto_E sub41)
theorem k41_open {w : World} {x : S41} {cs : List Value} (h : k41.K w x cs) : ∃ A0 c0, cs = [.slice A0 x.f0.length c0] ∧ x.f0.length ≤ c0 ∧ k41.C w A0 x.f0.length x.f0 := by
  obtain ⟨n, h⟩ := h
  cases n with
  | zero => exact h.elim
  | succ n =>
    obtain ⟨A0, c0, rfl, l0, g0⟩ := h
    exact ⟨A0, c0, rfl, l0, Kd.fix_C g0⟩
theorem k41_openM {w : World} {base : Nat} {ok : Nat → Prop} {x : S41} {cs : List Value} (h : k41.M w base ok x cs) : ∃ v0, cs = [v0] ∧ k41.R 41 w base ok v0 x.f0 := by
  obtain ⟨n, h⟩ := h
  cases n with
  | zero => exact h.elim
  | succ n =>
    obtain ⟨v0, rfl, g0⟩ := h
    exact ⟨v0, rfl, Kd.fix_R g0⟩
theorem k41_mkM (w : World) (base : Nat) (ok : Nat → Prop) (x : S41) {v0 : Value} (g0 : k41.R 41 w base ok v0 x.f0) : k41.M w base ok x [v0] := by
  obtain ⟨n0, q0⟩ := Kd.fix_R_back mono41 g0
  have r0 := Kd.upto_R_le mono41 sz41 (show n0 ≤ n0 by omega) q0
  exact ⟨n0 + 1, ⟨v0, rfl, r0⟩⟩
def rd_T41 (xs : List S41) (i : Int) : S41 := xs.getD i.toNat z41
theorem at_T41 {w : World} {A : Option Addr} {n : Nat} {xs : List S41} (h : Kd.C k41 w A n xs) (i : Int) (h0 : 0 ≤ i) (h1 : i < n) : ∃ ad A0 c0, A = some ad ∧ w.cell? (ad.add i.toNat) = some (.slice A0 (rd_T41 xs i).f0.length c0) ∧ (rd_T41 xs i).f0.length ≤ c0 ∧ k41.C w A0 (rd_T41 xs i).f0.length (rd_T41 xs i).f0 := by
  obtain ⟨ad, c, e, _, hK, hc0⟩ := Kd.C_get h z41 i h0 h1
  have hc : ∀ j u, c[j]? = some u → w.cell? (ad.add (i.toNat * 1 + j)) = some u := hc0
  obtain ⟨A0, c0, rfl, l0, g0⟩ := k41_open hK
  exact ⟨ad, A0, c0, e, by have hq := hc 0 _ rfl; rwa [Nat.mul_one, Nat.add_zero] at hq, l0, g0⟩
structure S56 where
  f0 : ByteArray
  f1 : Int
  f2 : S44
def z56 : S56 := ⟨(⟨#[]⟩ : ByteArray), (0 : Int), z44⟩
def k56 : Kd S56 := Kd.iso (Kd.pair Kd.string (Kd.pair (Kd.int .i64) k44)) (fun x : S56 => (x.f0, x.f1, x.f2))
theorem k56_heap : Kd.Heap k56 := Kd.heap_iso _ (Kd.heap_pair Kd.heap_string (Kd.heap_pair (Kd.heap_int .i64) k44_heap))
theorem k56_open {w : World} {x : S56} {cs : List Value} (h : k56.K w x cs) : ∃ A4 c4, cs = [.string x.f0, .int .i64 x.f1, .int .i64 x.f2.f0, .int .i64 x.f2.f1, .slice A4 x.f2.f2.length c4] ∧ x.f2.f2.length ≤ c4 ∧ k44.C w A4 x.f2.f2.length x.f2.f2 := by
  obtain ⟨_, _, rfl, rfl, ⟨_, _, rfl, rfl, s2⟩⟩ := h
  obtain ⟨A4, c4, rfl, l4, g4⟩ := k44_open s2
  exact ⟨A4, c4, rfl, l4, g4⟩
theorem k56_openM {w : World} {base : Nat} {ok : Nat → Prop} {x : S56} {cs : List Value} (h : k56.M w base ok x cs) : ∃ v4, cs = [.string x.f0, .int .i64 x.f1, .int .i64 x.f2.f0, .int .i64 x.f2.f1, v4] ∧ k44.R 44 w base ok v4 x.f2.f2 := by
  obtain ⟨_, _, rfl, rfl, ⟨_, _, rfl, rfl, s2⟩⟩ := h
  obtain ⟨v4, rfl, g4⟩ := k44_openM s2
  exact ⟨v4, rfl, g4⟩
theorem k56_mk (w : World) (x : S56) {A4 : Option Addr} {c4 : Nat} (l4 : x.f2.f2.length ≤ c4) (g4 : k44.C w A4 x.f2.f2.length x.f2.f2) : k56.K w x [.string x.f0, .int .i64 x.f1, .int .i64 x.f2.f0, .int .i64 x.f2.f1, .slice A4 x.f2.f2.length c4] := ⟨[.string x.f0], [.int .i64 x.f1, .int .i64 x.f2.f0, .int .i64 x.f2.f1, .slice A4 x.f2.f2.length c4], rfl, rfl, ⟨[.int .i64 x.f1], [.int .i64 x.f2.f0, .int .i64 x.f2.f1, .slice A4 x.f2.f2.length c4], rfl, rfl, (k44_mk w x.f2 l4 g4)⟩⟩
theorem k56_mkM (w : World) (base : Nat) (ok : Nat → Prop) (x : S56) {v4 : Value} (g4 : k44.R 44 w base ok v4 x.f2.f2) : k56.M w base ok x [.string x.f0, .int .i64 x.f1, .int .i64 x.f2.f0, .int .i64 x.f2.f1, v4] := ⟨[.string x.f0], [.int .i64 x.f1, .int .i64 x.f2.f0, .int .i64 x.f2.f1, v4], rfl, rfl, ⟨[.int .i64 x.f1], [.int .i64 x.f2.f0, .int .i64 x.f2.f1, v4], rfl, rfl, (k44_mkM w base ok x.f2 g4)⟩⟩
theorem k56_openF {W : World} {ok : Nat → Prop} {x : S56} {cs : List Value} (h : Kd.FK k56 W ok x cs) : ∃ A4 c4, cs = [.string x.f0, .int .i64 x.f1, .int .i64 x.f2.f0, .int .i64 x.f2.f1, .slice A4 x.f2.f2.length c4] ∧ x.f2.f2.length ≤ c4 ∧ Kd.F k44 W ok A4 x.f2.f2.length x.f2.f2 := by
  obtain ⟨A4, c4, rfl, l4, _⟩ := k56_open (Kd.FK_now h)
  exact ⟨A4, c4, rfl, l4, (fun W' hW => by obtain ⟨A4_, c4_, he, l4_, g4_⟩ := k56_open (h W' hW); injection (Option.some.inj (show some (Value.slice A4 x.f2.f2.length c4) = some (Value.slice A4_ x.f2.f2.length c4_) from congrArg (fun l => l[4]?) he)) with ha_ _ _; rw [ha_]; exact g4_)⟩
def rd_T56 (xs : List S56) (i : Int) : S56 := xs.getD i.toNat z56
theorem at_T56 {w : World} {A : Option Addr} {n : Nat} {xs : List S56} (h : Kd.C k56 w A n xs) (i : Int) (h0 : 0 ≤ i) (h1 : i < n) : ∃ ad A4 c4, A = some ad ∧ w.cell? (ad.add (i.toNat * 5)) = some (.string (rd_T56 xs i).f0) ∧ w.cell? ⟨(ad.add (i.toNat * 5)).block, (ad.add (i.toNat * 5)).off + 1, none⟩ = some (.int .i64 (rd_T56 xs i).f1) ∧ w.cell? ⟨(ad.add (i.toNat * 5)).block, (ad.add (i.toNat * 5)).off + 2, none⟩ = some (.int .i64 (rd_T56 xs i).f2.f0) ∧ w.cell? ⟨(ad.add (i.toNat * 5)).block, (ad.add (i.toNat * 5)).off + 3, none⟩ = some (.int .i64 (rd_T56 xs i).f2.f1) ∧ w.cell? ⟨(ad.add (i.toNat * 5)).block, (ad.add (i.toNat * 5)).off + 4, none⟩ = some (.slice A4 (rd_T56 xs i).f2.f2.length c4) ∧ (rd_T56 xs i).f2.f2.length ≤ c4 ∧ k44.C w A4 (rd_T56 xs i).f2.f2.length (rd_T56 xs i).f2.f2 := by
  obtain ⟨ad, c, e, _, hK, hc0⟩ := Kd.C_get h z56 i h0 h1
  have hc : ∀ j u, c[j]? = some u → w.cell? (ad.add (i.toNat * 5 + j)) = some u := hc0
  obtain ⟨A4, c4, rfl, l4, g4⟩ := k56_open hK
  exact ⟨ad, A4, c4, e, hc 0 _ rfl, by rw [← add_field _ _ 1 (by omega)]; exact hc 1 _ rfl, by rw [← add_field _ _ 2 (by omega)]; exact hc 2 _ rfl, by rw [← add_field _ _ 3 (by omega)]; exact hc 3 _ rfl, by rw [← add_field _ _ 4 (by omega)]; exact hc 4 _ rfl, l4, g4⟩
structure S46 where
  f0 : ByteArray
  f1 : S41
  f2 : S44
def z46 : S46 := ⟨(⟨#[]⟩ : ByteArray), z41, z44⟩
def k46 : Kd S46 := Kd.iso (Kd.pair Kd.string (Kd.pair k41 k44)) (fun x : S46 => (x.f0, x.f1, x.f2))
theorem k46_openM {w : World} {base : Nat} {ok : Nat → Prop} {x : S46} {cs : List Value} (h : k46.M w base ok x cs) : ∃ v1 v4, cs = [.string x.f0, v1, .int .i64 x.f2.f0, .int .i64 x.f2.f1, v4] ∧ k41.R 41 w base ok v1 x.f1.f0 ∧ k44.R 44 w base ok v4 x.f2.f2 := by
  obtain ⟨_, _, rfl, rfl, ⟨_, _, rfl, s1, s2⟩⟩ := h
  obtain ⟨v1, rfl, g1⟩ := k41_openM s1
  obtain ⟨v4, rfl, g4⟩ := k44_openM s2
  exact ⟨v1, v4, rfl, g1, g4⟩
theorem k46_mkM (w : World) (base : Nat) (ok : Nat → Prop) (x : S46) {v1 : Value} (g1 : k41.R 41 w base ok v1 x.f1.f0) {v4 : Value} (g4 : k44.R 44 w base ok v4 x.f2.f2) : k46.M w base ok x [.string x.f0, v1, .int .i64 x.f2.f0, .int .i64 x.f2.f1, v4] := ⟨[.string x.f0], [v1, .int .i64 x.f2.f0, .int .i64 x.f2.f1, v4], rfl, rfl, ⟨[v1], [.int .i64 x.f2.f0, .int .i64 x.f2.f1, v4], rfl, (k41_mkM w base ok x.f1 g1), (k44_mkM w base ok x.f2 g4)⟩⟩
def rd_T46 (xs : List S46) (i : Int) : S46 := xs.getD i.toNat z46
end Go.Proofs.Ytfhgoebgnilfaaa.I
namespace Go.Proofs.Ytfhgoebgnilfaaa.VOpen
open Go.RowKit Go.Proofs.YtfhgoebgnilfaaaW.PrintWords
set_option linter.unusedVariables false
set_option linter.unusedSimpArgs false
section
variable {H : Type} {enc : TypeId × Value → H} {P : Program} {w : World} {base : Nat} {sp : Nat → Bool} {held : Bool} {n : Nat} {t : TypeId} {cs : List Value} {x : DataW H × List MemPlace} {α : Type}
theorem list_of (len : Nat) (Q : Nat → α → Prop) (h : ∀ i, i < len → ∃ y, Q i y) : ∃ l : List α, l.length = len ∧ ∀ i y, l[i]? = some y → Q i y := by
  induction len with
  | zero => exact ⟨[], rfl, fun i y hy => by simp at hy⟩
  | succ k ih =>
    obtain ⟨l, hl, hq⟩ := ih (fun i hi => h i (by omega))
    obtain ⟨y, hy⟩ := h k (by omega)
    refine ⟨l ++ [y], by simp [hl], fun i z hz => ?_⟩
    rcases Nat.lt_or_ge i l.length with hi | hi
    · rw [List.getElem?_append_left hi] at hz
      exact hq i z hz
    · have he : i = l.length := by
        have := (List.getElem?_eq_some_iff.1 hz).1
        simp at this
        omega
      subst he
      have : y = z := by simpa using hz
      subst this
      rw [hl]
      exact hy
/-- A slice of elements of kind d. -/
theorem slice_open (d : Kd α) (Wf : α → Prop) {e : TypeId} (ht : P.underlying t = some (.slice e)) (hc : P.cellsOf e = d.sz)
    (ih : ∀ m, m < n → ∀ cs x, DataW.trod enc P w base sp held m e cs = some x → ∃ y, d.K w y cs ∧ Wf y)
    (h : DataW.trod enc P w base sp held n t cs = some x) :
    ∃ A c l, cs = [.slice A l.length c] ∧ l.length ≤ c ∧ d.C w A l.length l ∧ l.length ≤ 9223372036854775807 ∧ ∀ y ∈ l, Wf y := by
  rcases DataW.trod_slice ht h with ⟨rfl, _⟩ | ⟨a, len, cap, elems, rest, m, rfl, rfl, _, hb, hl, hm, hel, hat, _⟩
  · exact ⟨none, 0, [], rfl, Nat.le_refl _, Kd.C_nil d w, by simp, fun y hy => by simp at hy⟩
  · obtain ⟨l, hll, hq⟩ := list_of len (fun i y => Wf y ∧ ∃ csi, csi.length = d.sz ∧ d.K w y csi ∧ ∀ j u, csi[j]? = some u → w.cell? (a.add (i * d.sz + j)) = some u) (fun i hi => by
      have h1 := hat i hi
      rw [List.getElem?_eq_getElem (by omega : i < elems.length), Option.bind_eq_some_iff] at h1
      obtain ⟨csi, h2, h3⟩ := h1
      obtain ⟨y, hk, hw⟩ := ih m (by omega) csi _ h3
      refine ⟨y, hw, csi, d.K_len hk, hk, fun j u hu => ?_⟩
      have hlen := d.K_len hk
      have hj : j < csi.length := (List.getElem?_eq_some_iff.1 hu).1
      unfold World.cells? at h2
      split at h2
      · have h4 := mapM_some_get h2 j j (by rw [hc, ← hlen]; simp [hj])
        rw [hu] at h4
        rw [← Addr.add_add, ← hc]
        exact h4
      · cases h2)
    refine ⟨some a, cap, l, by rw [hll], by omega, ⟨rfl, by simp only [maxLen] at hm; omega, fun _ => ⟨a, rfl, fun j p hj => ?_⟩⟩, by simp only [maxLen] at hm; omega, fun y hy => ?_⟩
    · obtain ⟨_, csi, h1, h2, h3⟩ := hq j p hj
      exact ⟨csi, h1, h2, h3⟩
    · obtain ⟨i, hi, rfl⟩ := List.getElem_of_mem hy
      exact (hq i _ (List.getElem?_eq_getElem hi)).1
theorem int_open {k : IntKind} (ht : P.underlying t = some (.int k)) (h : DataW.trod enc P w base sp held n t cs = some x) : ∃ a, cs = [.int k a] ∧ (Lit.int k a).wf = true := by
  obtain ⟨a, h1, _, h2⟩ := DataW.trod_int ht h
  exact ⟨a, h1, h2⟩
theorem str_open (ht : P.underlying t = some .string) (h : DataW.trod enc P w base sp held n t cs = some x) : ∃ a : ByteArray, cs = [.string a] ∧ a.size ≤ 9223372036854775807 := by
  obtain ⟨a, h1, _, h2⟩ := DataW.trod_string ht h
  exact ⟨a, h1, by simpa [maxLen] using h2⟩
/-- A field's part of a struct. -/
theorem field_open {fs : Array Field} (ht : P.underlying t = some (.struct fs)) (h : DataW.trod enc P w base sp held n t cs = some x) :
    ∃ m, n = m + 1 ∧ cs.length = P.cellsOf t ∧ ∀ (i : Nat) (f : Field), fs[i]? = some f → ∃ y, DataW.trod enc P w base sp held m f.type ((cs.drop f.offset).take (P.cellsOf f.type)) = some y := by
  obtain ⟨xs, m, h1, _, h3, h4, h5⟩ := DataW.trod_struct ht h
  refine ⟨m, h1, h3, fun i f hf => ?_⟩
  have h6 := h5 i f hf
  have hi : i < xs.length := by rw [h4]; exact (Array.getElem?_eq_some_iff.1 hf).1
  rw [List.getElem?_eq_getElem hi] at h6
  exact ⟨_, h6⟩
end
end Go.Proofs.Ytfhgoebgnilfaaa.VOpen
namespace Go.Proofs.Ytfhgoebgnilfaaa.I
open Go.RowKit Go.Proofs.YtfhgoebgnilfaaaW.PrintWords Go.Proofs.Ytfhgoebgnilfaaa.VOpen
set_option linter.unusedVariables false
set_option linter.unusedSimpArgs false
def wf59 (x : S59) : Prop := x.f0.size ≤ 9223372036854775807 ∧ (Lit.int .i64 x.f1).wf = true
def Opened59 (w : World) (cs : List Value) (y : S59) : Prop := cs = [.string y.f0, .int .i64 y.f1]
theorem K59 {w : World} {cs : List Value} (h : ∃ y, Opened59 w cs y ∧ wf59 y) : ∃ y, k59.K w y cs ∧ wf59 y := by
  obtain ⟨y, h, hw⟩ := h
  obtain rfl := h
  exact ⟨y, k59_mk w y , hw⟩
set_option maxRecDepth 10000 in
theorem open59 {H : Type} {enc : TypeId × Value → H} {w : World} {base : Nat} {sp : Nat → Bool} {held : Bool} (n : Nat) : ∀ (cs : List Value) (x : DataW H × List MemPlace), DataW.trod enc Try.prog w base sp held n 59 cs = some x → ∃ y : S59, Opened59 w cs y ∧ wf59 y := by
  intro cs x h
  obtain ⟨m, rfl, hl, hf⟩ := field_open Try.underlying59 h
  have hl2 : cs.length = 2 := hl.trans (by kernel_rfl)
  obtain ⟨z0, z1, rfl⟩ : ∃ z0 z1, cs = [z0, z1] := by
    match cs, hl2 with
    | [z0, z1], _ => exact ⟨z0, z1, rfl⟩
  clear hl hl2 h
  obtain ⟨y0, h0⟩ := hf 0 _ rfl
  have h0' : DataW.trod enc Try.prog w base sp held m 9 [z0] = some y0 := h0
  obtain ⟨a0, e0, w0⟩ := str_open Try.underlying9 h0'
  injection e0 with e0 _; subst e0
  obtain ⟨y1, h1⟩ := hf 1 _ rfl
  have h1' : DataW.trod enc Try.prog w base sp held m 3 [z1] = some y1 := h1
  obtain ⟨a1, e1, w1⟩ := int_open Try.underlying3 h1'
  injection e1 with e1 _; subst e1
  exact ⟨⟨a0, a1⟩, rfl, ⟨w0, w1⟩⟩
mutual
def wf44 : S44 → Prop
  | ⟨f0, f1, f2⟩ => (Lit.int .i64 f0).wf = true ∧ (Lit.int .i64 f1).wf = true ∧ f2.length ≤ 9223372036854775807 ∧ wf44L f2
def wf44L : List S44 → Prop
  | [] => True
  | x :: xs => wf44 x ∧ wf44L xs
end
theorem wf44L_of : ∀ {l : List S44}, (∀ y, y ∈ l → wf44 y) → wf44L l
  | [], _ => trivial
  | x :: xs, h => ⟨h x (by simp), wf44L_of (fun y hy => h y (by simp [hy]))⟩
def Opened44 (w : World) (cs : List Value) (y : S44) : Prop := ∃ A2 c2, cs = [.int .i64 y.f0, .int .i64 y.f1, .slice A2 y.f2.length c2] ∧ y.f2.length ≤ c2 ∧ Kd.C k44 w A2 y.f2.length y.f2
theorem K44 {w : World} {cs : List Value} (h : ∃ y, Opened44 w cs y ∧ wf44 y) : ∃ y, k44.K w y cs ∧ wf44 y := by
  obtain ⟨y, h, hw⟩ := h
  obtain ⟨A2, c2, rfl, l2, g2⟩ := h
  exact ⟨y, k44_mk w y l2 g2, hw⟩
set_option maxRecDepth 10000 in
theorem open44 {H : Type} {enc : TypeId × Value → H} {w : World} {base : Nat} {sp : Nat → Bool} {held : Bool} (n : Nat) : ∀ (cs : List Value) (x : DataW H × List MemPlace), DataW.trod enc Try.prog w base sp held n 44 cs = some x → ∃ y : S44, Opened44 w cs y ∧ wf44 y := by
  induction n using Nat.strongRecOn with
  | _ n ih =>
    intro cs x h
    obtain ⟨m, rfl, hl, hf⟩ := field_open Try.underlying44 h
    have hl2 : cs.length = 3 := hl.trans (by kernel_rfl)
    obtain ⟨z0, z1, z2, rfl⟩ : ∃ z0 z1 z2, cs = [z0, z1, z2] := by
      match cs, hl2 with
      | [z0, z1, z2], _ => exact ⟨z0, z1, z2, rfl⟩
    clear hl hl2 h
    obtain ⟨y0, h0⟩ := hf 0 _ rfl
    have h0' : DataW.trod enc Try.prog w base sp held m 3 [z0] = some y0 := h0
    obtain ⟨a0, e0, w0⟩ := int_open Try.underlying3 h0'
    injection e0 with e0 _; subst e0
    obtain ⟨y1, h1⟩ := hf 1 _ rfl
    have h1' : DataW.trod enc Try.prog w base sp held m 3 [z1] = some y1 := h1
    obtain ⟨a1, e1, w1⟩ := int_open Try.underlying3 h1'
    injection e1 with e1 _; subst e1
    obtain ⟨y2, h2⟩ := hf 2 _ rfl
    have h2' : DataW.trod enc Try.prog w base sp held m 42 [z2] = some y2 := h2
    obtain ⟨A2_, c2_, a2, e2, lc2, g2, hl2, hw2⟩ := slice_open k44 (fun y_ => wf44 y_) Try.underlying42 (by kernel_rfl) (fun m_ hm_ cs_ x_ h_ => K44 (ih m_ (by omega) cs_ x_ h_)) h2'
    injection e2 with e2 _; subst e2
    exact ⟨⟨a0, a1, a2⟩, ⟨A2_, c2_, rfl, lc2, g2⟩, ⟨w0, w1, hl2, wf44L_of hw2⟩⟩
def wf56 (x : S56) : Prop := x.f0.size ≤ 9223372036854775807 ∧ (Lit.int .i64 x.f1).wf = true ∧ wf44 x.f2
def Opened56 (w : World) (cs : List Value) (y : S56) : Prop := ∃ A4 c4, cs = [.string y.f0, .int .i64 y.f1, .int .i64 y.f2.f0, .int .i64 y.f2.f1, .slice A4 y.f2.f2.length c4] ∧ y.f2.f2.length ≤ c4 ∧ Kd.C k44 w A4 y.f2.f2.length y.f2.f2
theorem K56 {w : World} {cs : List Value} (h : ∃ y, Opened56 w cs y ∧ wf56 y) : ∃ y, k56.K w y cs ∧ wf56 y := by
  obtain ⟨y, h, hw⟩ := h
  obtain ⟨A4, c4, rfl, l4, g4⟩ := h
  exact ⟨y, k56_mk w y l4 g4, hw⟩
set_option maxRecDepth 10000 in
theorem open56 {H : Type} {enc : TypeId × Value → H} {w : World} {base : Nat} {sp : Nat → Bool} {held : Bool} (n : Nat) : ∀ (cs : List Value) (x : DataW H × List MemPlace), DataW.trod enc Try.prog w base sp held n 56 cs = some x → ∃ y : S56, Opened56 w cs y ∧ wf56 y := by
  intro cs x h
  obtain ⟨m, rfl, hl, hf⟩ := field_open Try.underlying56 h
  have hl2 : cs.length = 5 := hl.trans (by kernel_rfl)
  obtain ⟨z0, z1, z2, z3, z4, rfl⟩ : ∃ z0 z1 z2 z3 z4, cs = [z0, z1, z2, z3, z4] := by
    match cs, hl2 with
    | [z0, z1, z2, z3, z4], _ => exact ⟨z0, z1, z2, z3, z4, rfl⟩
  clear hl hl2 h
  obtain ⟨y0, h0⟩ := hf 0 _ rfl
  have h0' : DataW.trod enc Try.prog w base sp held m 9 [z0] = some y0 := h0
  obtain ⟨a0, e0, w0⟩ := str_open Try.underlying9 h0'
  injection e0 with e0 _; subst e0
  obtain ⟨y1, h1⟩ := hf 1 _ rfl
  have h1' : DataW.trod enc Try.prog w base sp held m 3 [z1] = some y1 := h1
  obtain ⟨a1, e1, w1⟩ := int_open Try.underlying3 h1'
  injection e1 with e1 _; subst e1
  obtain ⟨y2, h2⟩ := hf 2 _ rfl
  have h2' : DataW.trod enc Try.prog w base sp held m 44 [z2, z3, z4] = some y2 := h2
  obtain ⟨a2, o2, w2⟩ := open44 m _ _ h2'
  obtain ⟨A2_2, c2_2, e2, lc2_2, g2_2⟩ := o2
  obtain ⟨rfl, rfl, rfl⟩ := (by simpa using e2 : z2 = .int .i64 a2.f0 ∧ z3 = .int .i64 a2.f1 ∧ z4 = .slice A2_2 a2.f2.length c2_2)
  exact ⟨⟨a0, a1, a2⟩, ⟨A2_2, c2_2, rfl, lc2_2, g2_2⟩, ⟨w0, w1, w2⟩⟩
end Go.Proofs.Ytfhgoebgnilfaaa.I
namespace Go.Proofs.Ytfhgoebgnilfaaa.I
open Go.RowKit Go.Proofs.YtfhgoebgnilfaaaW.PrintWords Go.Proofs.YtfhgoebgnilfaaaW.PrintLast Go.Proofs.YtfhgoebgnilfaaaW.PrintMore
attribute [local go_sem] max2_int min2_int max_two min_two max_three min_three max_four min_four
set_option linter.unusedVariables false
set_option maxRecDepth 100000
set_option linter.unusedSimpArgs false
/-- A kind; its pointers are places in the list of all of them. -/
structure KN where
  lk : Option Nat
  bs : Bool
  fr : Option Nat
  tk : Option Nat
/-- The block of the kind at a place. -/
def bk (ad : List Nat) (i : Nat) : Nat := ad.getD i 0
/-- A pointer to the kind at a place. -/
abbrev pk (ad : List Nat) (i : Nat) : Value := .pointer (some ⟨bk ad i, 0, none⟩)
def pv (ad : List Nat) : Option Nat → Value
  | none => .pointer none
  | some i => pk ad i
def kcells (ad : List Nat) (n : KN) : Array Value := #[pv ad n.lk, .bool n.bs, pv ad n.fr, pv ad n.tk]
def inS (m : Nat) (o : Option Nat) : Prop := ∀ j, o = some j → j < m
/-- The kinds lie in memory, each in a block of its own from B on. -/
structure Held (B : Nat) (s : List KN) (ad : List Nat) (w : World) : Prop where
  len : ad.length = s.length
  nodup : ad.Nodup
  ge : ∀ b, b ∈ ad → B ≤ b
  cell : ∀ (i : Nat) (n : KN), s[i]? = some n → w.heap[bk ad i]? = some (.cells (kcells ad n) 74 (0, 0))
  ok : ∀ (i : Nat) (n : KN), s[i]? = some n → inS s.length n.lk ∧ inS s.length n.fr ∧ inS s.length n.tk
theorem Held.below {B : Nat} {s : List KN} {ad : List Nat} {w w1 : World} (h : Held B s ad w) (hb : Below w.heap.size w w1) : Held B s ad w1 :=
  ⟨h.len, h.nodup, h.ge, fun i n hn => blk_below (h.cell i n hn) hb, h.ok⟩
theorem Held.at {B : Nat} {s : List KN} {ad : List Nat} {w : World} (h : Held B s ad w) {i : Nat} (hi : i < s.length) : ∃ n, s[i]? = some n ∧ w.heap[bk ad i]? = some (.cells (kcells ad n) 74 (0, 0)) :=
  ⟨s[i], List.getElem?_eq_getElem hi, h.cell i _ (List.getElem?_eq_getElem hi)⟩
theorem Held.inj {B : Nat} {s : List KN} {ad : List Nat} {w : World} (h : Held B s ad w) {i j : Nat} (hi : i < s.length) (hj : j < s.length) : bk ad i = bk ad j ↔ i = j := by
  have hi' : i < ad.length := by rw [h.len]; exact hi
  have hj' : j < ad.length := by rw [h.len]; exact hj
  unfold bk
  rw [List.getD_eq_getElem?_getD, List.getD_eq_getElem?_getD, List.getElem?_eq_getElem hi', List.getElem?_eq_getElem hj']
  simp only [Option.getD_some]
  constructor
  · intro e
    have hp := List.pairwise_iff_getElem.1 h.nodup
    rcases Nat.lt_trichotomy i j with hij | hij | hij
    · exact absurd e (hp i j hi' hj' hij)
    · exact hij
    · exact absurd e.symm (hp j i hj' hi' hij)
  · rintro rfl
    rfl
theorem info74 : ∃ j, Try.prog.info? 74 = some j ∧ j.size = 4 := by
  have h : (Try.prog.info? 74).map (fun i => i.size) = some 4 := by kernel_rfl
  obtain ⟨j, hj, hs⟩ := Option.map_eq_some_iff.1 h
  exact ⟨j, hj, hs⟩
/-- Two pointers to kinds are the same just if the places are. -/
theorem peq_run {B : Nat} {s : List KN} {ad : List Nat} {w : World} (h : Held B s ad w) {i j : Nat} (hi : i < s.length) (hj : j < s.length) :
    (binOp .eql 72 (.pointer (some ⟨bk ad i, 0, none⟩)) (.pointer (some ⟨bk ad j, 0, none⟩))).run Try.prog w = .ok (.bool (decide (i = j))) w := by
  obtain ⟨t, ht, hs⟩ := info74
  by_cases hij : i = j
  · subst hij
    rw [decide_eq_true rfl]
    exact run_eql_ptr_same w _ Try.underlying72 ht
  · rw [decide_eq_false hij]
    obtain ⟨n, _, hn⟩ := h.at hi
    obtain ⟨m, _, hm⟩ := h.at hj
    exact run_eql_ptr_other w Try.underlying72 ht (by rw [hs]; decide) (fun e => hij ((h.inj hi hj).1 (by injection e))) hn hm
/-- Following links. -/
def fend (s : List KN) : Nat → Nat → Option Nat
  | 0, _ => none
  | k + 1, i => match s[i]? with
    | none => none
    | some n => match n.lk with
      | none => some i
      | some j => fend s k j
theorem fend_lt {s : List KN} : ∀ {k i r : Nat}, fend s k i = some r → r < s.length
  | 0, i, r, h => by simp [fend] at h
  | k + 1, i, r, h => by
    unfold fend at h
    cases hn : s[i]? with
    | none => rw [hn] at h; cases h
    | some n =>
      rw [hn] at h
      simp only at h
      cases hl : n.lk with
      | none => rw [hl] at h; injection h with h; subst h; exact (List.getElem?_eq_some_iff.1 hn).1
      | some j => rw [hl] at h; exact fend_lt h
set_option maxHeartbeats 4000000 in
theorem kend_calls (B : Nat) (s : List KN) (ad : List Nat) (k i r : Nat) (w : World) (hH : Held B s ad w) (h : fend s k i = some r) :
    Calls Try.prog 58 #[pk ad i] w fun e w' => e = .returned (pk ad r) ∧ w' = w := by
  have hu74 := Try.underlying74
  have HH := Aside0.mk hH
  have H := Aside0.mk h
  clear hH h
  go_enter Try.func58, Try.ntmps58
  go_wp2_with fail
  go_loopg [0] k (fun kq v0 wr => ∃ (i : Nat), v0 = pk ad i ∧ Aside0 (fend s kq i = some r) ∧ wr = w)
  case atStart => exact ⟨i, rfl, H, rfl⟩
  case round =>
    obtain ⟨i, rfl, HF, rfl⟩ := hrel
    have hf := HF.out
    cases gk with
    | zero => exact absurd hf (by simp [fend])
    | succ k1 =>
      unfold fend at hf
      cases hn : s[i]? with
      | none => rw [hn] at hf; cases hf
      | some n =>
        rw [hn] at hf
        simp only at hf
        have hc := HH.out.cell i n hn
        have hc0 : wr.cell? ⟨bk ad i, 0, none⟩ = some (pv ad n.lk) := (blk_cell hc 0).trans rfl
        clear hc HF hn
        cases hl : n.lk with
        | none =>
          rw [hl] at hf hc0
          injection hf with hf
          subst hf
          simp only [pv] at hc0
          try simp only [pk]
          go_wp2_with fail
          go_ret
          exact ⟨rfl, rfl⟩
        | some j =>
          rw [hl] at hf hc0
          simp only at hf
          have HF2 := Aside0.mk hf
          clear hf
          simp only [pv, pk] at hc0
          try simp only [pk]
          go_wp2_with fail
          go_roundg k1
          case measure => omega
          case rel => exact ⟨j, rfl, HF2, rfl⟩
end Go.Proofs.Ytfhgoebgnilfaaa.I
namespace Go.Proofs.Ytfhgoebgnilfaaa.I
open Go.RowKit Go.Proofs.YtfhgoebgnilfaaaW.PrintWords Go.Proofs.YtfhgoebgnilfaaaW.PrintLast Go.Proofs.YtfhgoebgnilfaaaW.PrintMore
attribute [local go_sem] max2_int min2_int max_two min_two max_three min_three max_four min_four
set_option linter.unusedVariables false
set_option maxRecDepth 100000
set_option linter.unusedSimpArgs false
/-- Is a kind in another one? -/
def fwithin (s : List KN) : Nat → Nat → Nat → Option Bool
  | 0, _, _ => none
  | f + 1, k, i => match fend s f i with
    | none => none
    | some r => if k = r then some true else match s[r]? with
      | none => none
      | some n => match n.fr with
        | none => some false
        | some a => match fwithin s f k a with
          | none => none
          | some true => some true
          | some false => match n.tk with
            | none => none
            | some t => fwithin s f k t
set_option maxHeartbeats 4000000 in
theorem within_calls (B : Nat) (s : List KN) (ad : List Nat) (f : Nat) : ∀ (k i : Nat) (r : Bool) (w : World) (hH : Held B s ad w) (hk : k < s.length) (h : fwithin s f k i = some r),
    Calls Try.prog 59 #[pk ad k, pk ad i] w fun e w' => e = .returned (.bool r) ∧ w' = w := by
  induction f using Nat.strongRecOn with
  | _ f ih =>
  intro k i r w hH hk h
  have hu74 := Try.underlying74
  cases f with
  | zero => exact absurd h (by simp [fwithin])
  | succ f =>
  unfold fwithin at h
  cases hr : fend s f i with
  | none => rw [hr] at h; cases h
  | some q =>
  rw [hr] at h
  simp only at h
  have HH := Aside0.mk hH
  have HE := Aside0.mk hr
  have hq := fend_lt hr
  have hinj := hH.inj hk hq
  have IH := Aside0.mk ih
  obtain ⟨n, hn, hc⟩ := hH.at hq
  have hok := hH.ok q n hn
  have hc2 : w.cell? ⟨bk ad q, 2, none⟩ = some (pv ad n.fr) := (blk_cell hc 2).trans rfl
  have hc3 : w.cell? ⟨bk ad q, 3, none⟩ = some (pv ad n.tk) := (blk_cell hc 3).trans rfl
  rw [hn] at h
  simp only at h
  clear hH hr ih hc hn
  go_enter Try.func59, Try.ntmps59
  go_wp2_with fail
  (with_reducible refine (kend_calls B s ad f i q w HH.out HE.out).mono ?_)
  rintro e w1 ⟨rfl, rfl⟩
  have hpe := peq_run HH.out hk hq
  by_cases hkq : k = q
  · rw [if_pos hkq] at h
    injection h with h
    subst h
    rw [decide_eq_true hkq] at hpe
    clear hkq hinj
    try simp only [pk]
    go_wp2_with fail
    go_ret
    exact ⟨rfl, rfl⟩
  · rw [if_neg hkq] at h
    rw [decide_eq_false hkq] at hpe
    clear hkq hinj
    try simp only [pk]
    cases hf : n.fr with
    | none =>
      rw [hf] at h hc2
      injection h with h
      subst h
      simp only [pv] at hc2
      clear hc3 hok hf
      go_wp2_with fail
      go_ret
      exact ⟨rfl, rfl⟩
    | some a =>
      rw [hf] at h hc2
      simp only at h
      simp only [pv, pk] at hc2
      cases hwa : fwithin s f k a with
      | none => rw [hwa] at h; cases h
      | some ba =>
      rw [hwa] at h
      have HWa := Aside0.mk hwa
      clear hwa hf
      go_wp2_with fail
      (with_reducible refine (IH.out f (Nat.lt_succ_self f) k a ba w1 HH.out hk HWa.out).mono ?_)
      rintro e w2 ⟨rfl, rfl⟩
      cases ba with
      | true =>
        injection h with h
        subst h
        go_wp2_with fail
        go_ret
        exact ⟨rfl, rfl⟩
      | false =>
        simp only at h
        cases ht : n.tk with
        | none => rw [ht] at h; cases h
        | some t =>
        rw [ht] at h hc3
        simp only at h
        simp only [pv, pk] at hc3
        have HWt := Aside0.mk h
        clear h ht
        go_wp2_with fail
        (with_reducible refine (IH.out f (Nat.lt_succ_self f) k t r w2 HH.out hk HWt.out).mono ?_)
        rintro e w3 ⟨rfl, rfl⟩
        go_wp2_with fail
        go_ret
        exact ⟨rfl, rfl⟩
end Go.Proofs.Ytfhgoebgnilfaaa.I
namespace Go.Proofs.Ytfhgoebgnilfaaa.I
open Go.RowKit Go.Proofs.YtfhgoebgnilfaaaW.PrintWords Go.Proofs.YtfhgoebgnilfaaaW.PrintLast Go.Proofs.YtfhgoebgnilfaaaW.PrintMore
attribute [local go_sem] max2_int min2_int max_two min_two max_three min_three max_four min_four
set_option linter.unusedVariables false
set_option maxRecDepth 100000
set_option linter.unusedSimpArgs false
/-- All blocks but some, and the new ones, are as they were. -/
structure Turned (ok : Nat → Prop) (w w' : World) : Prop where
  os : w'.os = w.os
  tape : w'.tape = w.tape
  output : w'.output = w.output
  size : w.heap.size ≤ w'.heap.size
  block : ∀ k, k < w.heap.size → ¬ ok k → w'.heap[k]? = w.heap[k]?
theorem Turned.refl (ok : Nat → Prop) (w : World) : Turned ok w w := ⟨rfl, rfl, rfl, Nat.le_refl _, fun _ _ _ => rfl⟩
theorem Turned.trans {ok ok' : Nat → Prop} {w w1 w2 : World} (h : Turned ok w w1) (k : Turned ok' w1 w2) (ho : ∀ k, ok' k → k < w.heap.size → ok k) : Turned ok w w2 :=
  ⟨k.os.trans h.os, k.tape.trans h.tape, k.output.trans h.output, Nat.le_trans h.size k.size, fun j hj hn => (k.block j (Nat.lt_of_lt_of_le hj h.size) (fun h2 => hn (ho j h2 hj))).trans (h.block j hj hn)⟩
theorem Turned.of_below {ok : Nat → Prop} {w w1 : World} (h : Below w.heap.size w w1) : Turned ok w w1 := ⟨h.os, h.tape, h.output, h.size, fun k hk _ => h.block k hk⟩
theorem Turned.set {ok : Nat → Prop} {w w1 : World} (h : Turned ok w w1) (g j : Nat) (u : Value) (hg : ok g) : Turned ok w (w1.setCell ⟨g, j, none⟩ u) :=
  ⟨h.os, h.tape, h.output, by simpa [World.setCell] using h.size, fun k hk hn => (Below.heap_setCell w1 ⟨g, j, none⟩ u k (fun e => hn (by simp only at e; rw [e]; exact hg))).trans (h.block k hk hn)⟩
theorem Turned.below {ok : Nat → Prop} {w0 w w1 : World} {B : Nat} (h : Turned ok w w1) (hB : Below B w0 w) (hb : B ≤ w.heap.size) (ho : ∀ k, ok k → B ≤ k) : Below B w0 w1 :=
  ⟨h.os.trans hB.os, h.tape.trans hB.tape, h.output.trans hB.output, Nat.le_trans hB.size h.size, fun k hk => (h.block k (Nat.lt_of_lt_of_le hk hb) (fun h2 => by have := ho k h2; omega)).trans (hB.block k hk)⟩
theorem bk_mem {B : Nat} {s : List KN} {ad : List Nat} {w : World} (h : Held B s ad w) {i : Nat} (hi : i < s.length) : bk ad i ∈ ad := by
  have hi' : i < ad.length := by rw [h.len]; exact hi
  unfold bk
  rw [List.getD_eq_getElem?_getD, List.getElem?_eq_getElem hi']
  exact List.getElem_mem hi'
def setlk (s : List KN) (i : Nat) (n : KN) (j : Nat) : List KN := s.set i { n with lk := some j }
theorem Held.setlk {B : Nat} {s : List KN} {ad : List Nat} {w : World} (h : Held B s ad w) {i j : Nat} {n : KN} (hn : s[i]? = some n) (hj : j < s.length) :
    Held B (setlk s i n j) ad (w.setCell ⟨bk ad i, 0, none⟩ (pk ad j)) := by
  have hi : i < s.length := (List.getElem?_eq_some_iff.1 hn).1
  refine ⟨by unfold I.setlk; rw [List.length_set]; exact h.len, h.nodup, h.ge, fun k m hm => ?_, fun k m hm => ?_⟩
  · unfold I.setlk at hm
    rw [List.getElem?_set] at hm
    by_cases hik : i = k
    · subst hik
      rw [if_pos rfl, if_pos hi] at hm
      injection hm with hm
      subst hm
      exact blk_put (cs' := kcells ad { n with lk := some j }) (h.cell i n hn) 0 (pk ad j) rfl
    · rw [if_neg hik] at hm
      have hk : k < s.length := (List.getElem?_eq_some_iff.1 hm).1
      exact blk_far (p := ⟨bk ad i, 0, none⟩) (h.cell k m hm) (fun e => hik ((h.inj hi hk).1 e.symm)) _
  · unfold I.setlk at hm ⊢
    rw [List.length_set]
    rw [List.getElem?_set] at hm
    by_cases hik : i = k
    · subst hik
      rw [if_pos rfl, if_pos hi] at hm
      injection hm with hm
      subst hm
      have := h.ok i n hn
      exact ⟨fun q hq => by injection hq with hq; omega, this.2.1, this.2.2⟩
    · rw [if_neg hik] at hm
      exact h.ok k m hm
/-- Two kinds are made the same, if they can be. -/
def fjoin : Nat → List KN → Nat → Nat → Option (Bool × List KN)
  | 0, _, _, _ => none
  | f + 1, s, a, b => match fend s f a with
    | none => none
    | some a => match fend s f b with
      | none => none
      | some b => if a = b then some (true, s) else match s[a]? with
        | none => none
        | some x => match s[b]? with
          | none => none
          | some y => if x.bs = false ∧ x.fr = none then (match fwithin s f a b with
              | none => none
              | some true => some (false, s)
              | some false => some (true, setlk s a x b))
            else if y.bs = false ∧ y.fr = none then fjoin f s b a
            else if x.bs = true ∨ y.bs = true then some (x.bs && y.bs, s)
            else match x.fr with
              | none => none
              | some xf => match y.fr with
                | none => none
                | some yf => match fjoin f s xf yf with
                  | none => none
                  | some (false, s1) => some (false, s1)
                  | some (true, s1) => match s1[a]? with
                    | none => none
                    | some x1 => match s1[b]? with
                      | none => none
                      | some y1 => match x1.tk with
                        | none => none
                        | some xt => match y1.tk with
                          | none => none
                          | some yt => fjoin f s1 xt yt
def shp (n : KN) : Bool × Option Nat × Option Nat := (n.bs, n.fr, n.tk)
theorem setlk_shape {s : List KN} {i j : Nat} {n : KN} (hn : s[i]? = some n) (k : Nat) : ((setlk s i n j)[k]?).map shp = (s[k]?).map shp := by
  have hi : i < s.length := (List.getElem?_eq_some_iff.1 hn).1
  unfold setlk
  rw [List.getElem?_set]
  by_cases hik : i = k
  · subst hik
    rw [if_pos rfl, if_pos hi, hn]
    rfl
  · rw [if_neg hik]
theorem fjoin_shape : ∀ (f : Nat) (s : List KN) (a b : Nat) (r : Bool) (s' : List KN), fjoin f s a b = some (r, s') → ∀ (k : Nat), (s'[k]?).map shp = (s[k]?).map shp
  | 0, s, a, b, r, s', h, k => by simp [fjoin] at h
  | f + 1, s, a, b, r, s', h, k => by
    unfold fjoin at h
    repeat' (split at h)
    all_goals first
      | (cases h; done)
      | (injection h with h; injection h with h1 h2; subst h2; rfl)
      | (injection h with h; injection h with h1 h2; subst h2; exact setlk_shape (by assumption) k)
      | (injection h with h; injection h with h1 h2; subst h2; exact fjoin_shape f _ _ _ _ _ (by assumption) k)
      | exact fjoin_shape f _ _ _ _ _ h k
      | exact (fjoin_shape f _ _ _ _ _ h k).trans (fjoin_shape f _ _ _ _ _ (by assumption) k)
theorem shape_fr {s s1 : List KN} {p : Nat} {x : KN} (h : (s1[p]?).map shp = (s[p]?).map shp) (hx : s[p]? = some x) : ∃ x1, s1[p]? = some x1 ∧ x1.fr = x.fr ∧ x1.tk = x.tk := by
  rw [hx] at h
  cases h1 : s1[p]? with
  | none => rw [h1] at h; cases h
  | some x1 =>
    rw [h1] at h
    injection h with h
    injection h with _ h
    injection h with h2 h3
    exact ⟨x1, rfl, h2, h3⟩
theorem Held.heap {B : Nat} {s : List KN} {ad : List Nat} {w w1 : World} (h : Held B s ad w) (e : w1.heap = w.heap) : Held B s ad w1 :=
  ⟨h.len, h.nodup, h.ge, fun i n hn => by rw [e]; exact h.cell i n hn, h.ok⟩
theorem cell_fr {B : Nat} {s : List KN} {ad : List Nat} {w : World} {i j : Nat} {n : KN} (h : Held B s ad w) (hn : s[i]? = some n) (hf : n.fr = some j) : w.cell? ⟨bk ad i, 2, none⟩ = some (pk ad j) := by
  have := (blk_cell (h.cell i n hn) 2).trans rfl
  rw [this]
  show some (pv ad n.fr) = _
  rw [hf]
  rfl
theorem cell_tk {B : Nat} {s : List KN} {ad : List Nat} {w : World} {i j : Nat} {n : KN} (h : Held B s ad w) (hn : s[i]? = some n) (hf : n.tk = some j) : w.cell? ⟨bk ad i, 3, none⟩ = some (pk ad j) := by
  have := (blk_cell (h.cell i n hn) 3).trans rfl
  rw [this]
  show some (pv ad n.tk) = _
  rw [hf]
  rfl
set_option maxHeartbeats 8000000 in
theorem join_calls (B : Nat) (ad : List Nat) (f : Nat) : ∀ (s : List KN) (a b : Nat) (r : Bool) (s' : List KN) (w : World) (hH : Held B s ad w) (h : fjoin f s a b = some (r, s')),
    Calls Try.prog 39 #[pk ad a, pk ad b] w fun e w' => e = .returned (.bool r) ∧ Held B s' ad w' ∧ Turned (fun k => k ∈ ad) w w' := by
  induction f using Nat.strongRecOn with
  | _ f ih =>
  intro s a b r s' w hH h
  have hu74 := Try.underlying74
  cases f with
  | zero => exact absurd h (by simp [fjoin])
  | succ f =>
  unfold fjoin at h
  cases ha : fend s f a with
  | none => rw [ha] at h; cases h
  | some p =>
  rw [ha] at h
  simp only at h
  cases hb : fend s f b with
  | none => rw [hb] at h; cases h
  | some q =>
  rw [hb] at h
  simp only at h
  have HH := Aside0.mk hH
  have HA := Aside0.mk ha
  have HB := Aside0.mk hb
  have hp := fend_lt ha
  have hq := fend_lt hb
  have IH := Aside0.mk ih
  have hpe := peq_run hH hp hq
  clear ih ha hb
  go_enter Try.func39, Try.ntmps39
  go_wp2_with fail
  (with_reducible refine (kend_calls B s ad f a p w HH.out HA.out).mono ?_)
  rintro e w1 ⟨rfl, rfl⟩
  go_wp2_with fail
  (with_reducible refine (kend_calls B s ad f b q w1 HH.out HB.out).mono ?_)
  rintro e w2 ⟨rfl, rfl⟩
  by_cases hpq : p = q
  · rw [if_pos hpq] at h
    injection h with h
    injection h with h1 h2
    subst h1 h2
    rw [decide_eq_true hpq] at hpe
    clear hpq hH
    go_wp2_with fail
    go_ret
    exact ⟨rfl, HH.out, Turned.refl _ _⟩
  rw [if_neg hpq] at h
  rw [decide_eq_false hpq] at hpe
  clear hpq
  cases hx : s[p]? with
  | none => rw [hx] at h; cases h
  | some x =>
  cases hy : s[q]? with
  | none => rw [hx, hy] at h; cases h
  | some y =>
  rw [hx, hy] at h
  simp only at h
  have hcx := hH.cell p x hx
  have hcy := hH.cell q y hy
  have cx0 : w2.cell? ⟨bk ad p, 0, none⟩ = some (pv ad x.lk) := (blk_cell hcx 0).trans rfl
  have cx1 : w2.cell? ⟨bk ad p, 1, none⟩ = some (.bool x.bs) := (blk_cell hcx 1).trans rfl
  have cx2 : w2.cell? ⟨bk ad p, 2, none⟩ = some (pv ad x.fr) := (blk_cell hcx 2).trans rfl
  have fx0 := blk_frozen hcx 0
  have cy1 : w2.cell? ⟨bk ad q, 1, none⟩ = some (.bool y.bs) := (blk_cell hcy 1).trans rfl
  have cy2 : w2.cell? ⟨bk ad q, 2, none⟩ = some (pv ad y.fr) := (blk_cell hcy 2).trans rfl
  have Hx := Aside0.mk hx
  have Hy := Aside0.mk hy
  clear hcx hcy hx hy hH
  by_cases hox : x.bs = false ∧ x.fr = none
  · rw [if_pos hox] at h
    obtain ⟨ho1, ho2⟩ := hox
    rw [ho1] at cx1
    rw [ho2] at cx2
    simp only [pv] at cx2
    cases hw : fwithin s f p q with
    | none => rw [hw] at h; cases h
    | some bw =>
    rw [hw] at h
    have HW := Aside0.mk hw
    have hpa := Aside0.mk hp
    clear hw ho1 ho2 cy1 cy2
    go_wp2_with fail
    (with_reducible refine (within_calls B s ad f p q bw w2 HH.out hp HW.out).mono ?_)
    rintro e w3 ⟨rfl, rfl⟩
    cases bw with
    | true =>
      injection h with h
      injection h with h1 h2
      subst h1 h2
      go_wp2_with fail
      go_ret
      exact ⟨rfl, HH.out, Turned.refl _ _⟩
    | false =>
      injection h with h
      injection h with h1 h2
      subst h1 h2
      go_wp2_with fail
      go_ret
      exact ⟨rfl, Held.setlk HH.out Hx.out hq, Turned.set (Turned.refl _ _) _ _ _ (bk_mem HH.out hp)⟩
  · rw [if_neg hox] at h
    have hxs : x.bs = true ∨ ∃ xf, x.bs = false ∧ x.fr = some xf := by
      cases hb : x.bs with
      | true => exact .inl rfl
      | false =>
        cases hf : x.fr with
        | none => exact absurd ⟨hb, hf⟩ hox
        | some xf => exact .inr ⟨xf, rfl, rfl⟩
    clear hox
    by_cases hoy : y.bs = false ∧ y.fr = none
    · rw [if_pos hoy] at h
      obtain ⟨ho1, ho2⟩ := hoy
      rw [ho1] at cy1
      rw [ho2] at cy2
      simp only [pv] at cy2
      have HJ := Aside0.mk h
      clear h ho1 ho2
      rcases hxs with hxb | ⟨xf, hxb, hxf⟩
      · rw [hxb] at cx1
        clear hxb
        go_wp2_with fail
        (with_reducible refine (IH.out f (Nat.lt_succ_self f) s q p r s' w2 HH.out HJ.out).mono ?_)
        rintro e w3 ⟨rfl, h3, t3⟩
        go_wp2_with fail
        go_ret
        exact ⟨rfl, h3, t3⟩
      · rw [hxb] at cx1
        rw [hxf] at cx2
        simp only [pv] at cx2
        clear hxb hxf
        go_wp2_with fail
        (with_reducible refine (IH.out f (Nat.lt_succ_self f) s q p r s' w2 HH.out HJ.out).mono ?_)
        rintro e w3 ⟨rfl, h3, t3⟩
        go_wp2_with fail
        go_ret
        exact ⟨rfl, h3, t3⟩
    rw [if_neg hoy] at h
    have hys : y.bs = true ∨ ∃ yf, y.bs = false ∧ y.fr = some yf := by
      cases hb : y.bs with
      | true => exact .inl rfl
      | false =>
        cases hf : y.fr with
        | none => exact absurd ⟨hb, hf⟩ hoy
        | some yf => exact .inr ⟨yf, rfl, rfl⟩
    clear hoy
    rcases hxs with hxb | ⟨xf, hxb, hxf⟩
    · rw [if_pos (.inl hxb), hxb, Bool.true_and] at h
      injection h with h
      injection h with h1 h2
      subst h2
      rw [hxb] at cx1
      clear hxb
      rcases hys with hyb | ⟨yf, hyb, hyf⟩
      · rw [hyb] at cy1 h1
        subst h1
        clear hyb
        go_wp2_with fail
        go_ret
        exact ⟨rfl, HH.out, Turned.refl _ _⟩
      · rw [hyb] at cy1 h1
        rw [hyf] at cy2
        simp only [pv] at cy2
        subst h1
        clear hyb hyf
        go_wp2_with fail
        go_ret
        exact ⟨rfl, HH.out, Turned.refl _ _⟩
    · rw [hxb] at cx1 h
      rw [hxf] at cx2
      simp only [pv] at cx2
      rcases hys with hyb | ⟨yf, hyb, hyf⟩
      · rw [if_pos (.inr hyb), hyb, Bool.false_and] at h
        injection h with h
        injection h with h1 h2
        subst h1 h2
        rw [hyb] at cy1
        clear hxb hxf hyb
        go_wp2_with fail
        go_ret
        exact ⟨rfl, HH.out, Turned.refl _ _⟩
      · rw [hyb] at cy1
        rw [if_neg (by simp [hyb])] at h
        rw [hyf] at cy2
        simp only [pv] at cy2
        rw [hxf, hyf] at h
        simp only at h
        cases hj : fjoin f s xf yf with
        | none => rw [hj] at h; cases h
        | some rs =>
        obtain ⟨r1, s1⟩ := rs
        rw [hj] at h
        obtain ⟨x1, hx1, hf1, ht1⟩ := shape_fr (fjoin_shape f s xf yf r1 s1 hj p) Hx.out
        obtain ⟨y1, hy1, gf1, gt1⟩ := shape_fr (fjoin_shape f s xf yf r1 s1 hj q) Hy.out
        have HJ := Aside0.mk hj
        have HX1 := Aside0.mk hx1
        have HY1 := Aside0.mk hy1
        have HF1 := Aside0.mk (hf1.trans hxf)
        have HG1 := Aside0.mk (gf1.trans hyf)
        have HH' := Aside0.mk h
        clear hxb hxf hyb hyf hj hx1 hy1 hf1 gf1 h
        go_wp2_with fail
        go_region_held3 (fun w' => w'.cell? ⟨bk ad p, 2, none⟩ = some (pk ad xf) ∧ w'.cell? ⟨bk ad q, 2, none⟩ = some (pk ad yf)) (go_keep)
          (first | (go_at_call 39; refine (IH.out f (Nat.lt_succ_self f) s xf yf r1 s1 w2.drew (Held.heap HH.out rfl) HJ.out).mono ?_; rintro e w3 ⟨rfl, h3, t3⟩; have k1 := cell_fr h3 HX1.out HF1.out; have k2 := cell_fr h3 HY1.out HG1.out))
        have T3 := Aside0.mk (Turned.trans (Turned.of_below (ok := fun k => k ∈ ad) (below_drew (Below.refl w2.heap.size w2))) t3 (fun k hk _ => hk))
        have H3 := Aside0.mk h3
        have h := HH'.out
        clear HH' h3 t3 k1 k2
        cases r1 with
        | false =>
          injection h with h
          injection h with h1 h2
          subst h1 h2
          go_wp2_with fail
          go_ret
          exact ⟨rfl, H3.out, T3.out⟩
        | true =>
          simp only [HX1.out, HY1.out] at h
          cases hxt : x1.tk with
          | none => rw [hxt] at h; cases h
          | some xt =>
          cases hyt : y1.tk with
          | none => rw [hxt, hyt] at h; cases h
          | some yt =>
          rw [hxt, hyt] at h
          simp only at h
          have HT := Aside0.mk hxt
          have HU := Aside0.mk hyt
          have HF := Aside0.mk h
          have k1 := cell_tk H3.out HX1.out hxt
          have k2 := cell_tk H3.out HY1.out hyt
          clear h hxt hyt cx0 cx1 cx2 fx0 cy1 cy2 hpe
          go_wp2_with fail
          obtain ⟨x2, hx2, _, gx2⟩ := shape_fr (fjoin_shape f s1 xt yt r s' HF.out p) HX1.out
          obtain ⟨y2, hy2, _, gy2⟩ := shape_fr (fjoin_shape f s1 xt yt r s' HF.out q) HY1.out
          have HX2 := Aside0.mk hx2
          have HY2 := Aside0.mk hy2
          have HT2 := Aside0.mk (gx2.trans HT.out)
          have HU2 := Aside0.mk (gy2.trans HU.out)
          clear hx2 hy2 gx2 gy2
          go_region_held3 (fun w' => w'.cell? ⟨bk ad p, 3, none⟩ = some (pk ad xt) ∧ w'.cell? ⟨bk ad q, 3, none⟩ = some (pk ad yt)) (go_keep)
            (first | (go_at_call 39; refine (IH.out f (Nat.lt_succ_self f) s1 xt yt r s' w3.drew (Held.heap H3.out rfl) HF.out).mono ?_; rintro e w4 ⟨rfl, h4, t4⟩; have k3 := cell_tk h4 HX2.out HT2.out; have k4 := cell_tk h4 HY2.out HU2.out))
          have T4 := Aside0.mk (Turned.trans T3.out (Turned.trans (Turned.of_below (ok := fun k => k ∈ ad) (below_drew (Below.refl w3.heap.size w3))) t4 (fun k hk _ => hk)) (fun k hk _ => hk))
          have H4 := Aside0.mk h4
          clear h4 t4 k1 k2 k3 k4
          go_wp2_with fail
          go_ret
          exact ⟨rfl, H4.out, T4.out⟩
end Go.Proofs.Ytfhgoebgnilfaaa.I
namespace Go.Proofs.Ytfhgoebgnilfaaa.I
open Go.RowKit Go.Proofs.YtfhgoebgnilfaaaW.PrintWords Go.Proofs.YtfhgoebgnilfaaaW.PrintLast Go.Proofs.YtfhgoebgnilfaaaW.PrintMore
attribute [local go_sem] max2_int min2_int max_two min_two max_three min_three max_four min_four
set_option linter.unusedVariables false
set_option maxRecDepth 100000
set_option linter.unusedSimpArgs false
theorem bk_app {ad e : List Nat} {i : Nat} (h : i < ad.length) : bk (ad ++ e) i = bk ad i := by
  unfold bk
  rw [List.getD_eq_getElem?_getD, List.getD_eq_getElem?_getD, List.getElem?_append_left h]
theorem pv_app {ad e : List Nat} {o : Option Nat} (h : inS ad.length o) : pv (ad ++ e) o = pv ad o := by
  cases o with
  | none => rfl
  | some j => show pk (ad ++ e) j = pk ad j; unfold pk; rw [bk_app (h j rfl)]
/-- A new kind is made. -/
theorem Held.push {B : Nat} {s : List KN} {ad : List Nat} {w w1 : World} {g : Nat} {n : KN} (h : Held B s ad w) (hb : Below w.heap.size w w1) (hg : w.heap.size ≤ g) (hB : B ≤ w.heap.size) (hn : inS s.length n.lk ∧ inS s.length n.fr ∧ inS s.length n.tk)
    (hc : w1.heap[g]? = some (.cells (kcells ad n) 74 (0, 0))) : Held B (s ++ [n]) (ad ++ [g]) w1 := by
  have hl := h.len
  have up : ∀ o, inS s.length o → inS (s ++ [n]).length o := fun o ho j hj => by rw [List.length_append]; have := ho j hj; simp only [List.length_cons, List.length_nil]; omega
  refine ⟨by rw [List.length_append, List.length_append, hl]; rfl, ?_, ?_, ?_, ?_⟩
  · rw [List.nodup_append]
    refine ⟨h.nodup, by simp, ?_⟩
    intro a ha b hb' e
    rw [List.mem_singleton] at hb'
    subst hb' e
    obtain ⟨i, hi, e⟩ := List.getElem_of_mem ha
    obtain ⟨m, _, hm⟩ := h.at (i := i) (by rw [← hl]; exact hi)
    have := blk_lt hm
    unfold bk at this
    rw [List.getD_eq_getElem?_getD, List.getElem?_eq_getElem hi] at this
    simp only [Option.getD_some] at this
    omega
  · intro b hb'
    rcases List.mem_append.1 hb' with h1 | h1
    · exact h.ge b h1
    · rw [List.mem_singleton] at h1; omega
  · intro i m hm
    by_cases hi : i < s.length
    · rw [List.getElem?_append_left hi] at hm
      have ho := h.ok i m hm
      rw [← hl] at ho
      rw [bk_app (by omega)]
      have e : kcells (ad ++ [g]) m = kcells ad m := by unfold kcells; rw [pv_app ho.1, pv_app ho.2.1, pv_app ho.2.2]
      rw [e]
      exact blk_below (h.cell i m hm) hb
    · have hil : i < (s ++ [n]).length := (List.getElem?_eq_some_iff.1 hm).1
      rw [List.length_append] at hil
      simp only [List.length_cons, List.length_nil] at hil
      have hie : i = s.length := by omega
      subst hie
      rw [List.getElem?_append_right (Nat.le_refl _), Nat.sub_self] at hm
      injection hm with hm
      subst hm
      have e : bk (ad ++ [g]) s.length = g := by
        unfold bk
        rw [List.getD_eq_getElem?_getD, ← hl, List.getElem?_append_right (Nat.le_refl _), Nat.sub_self]
        rfl
      rw [e]
      rw [← hl] at hn
      have e2 : kcells (ad ++ [g]) n = kcells ad n := by unfold kcells; rw [pv_app hn.1, pv_app hn.2.1, pv_app hn.2.2]
      rw [e2]
      exact hc
  · intro i m hm
    by_cases hi : i < s.length
    · rw [List.getElem?_append_left hi] at hm
      have ho := h.ok i m hm
      exact ⟨up _ ho.1, up _ ho.2.1, up _ ho.2.2⟩
    · have hil : i < (s ++ [n]).length := (List.getElem?_eq_some_iff.1 hm).1
      rw [List.length_append] at hil
      simp only [List.length_cons, List.length_nil] at hil
      have hie : i = s.length := by omega
      subst hie
      rw [List.getElem?_append_right (Nat.le_refl _), Nat.sub_self] at hm
      injection hm with hm
      subst hm
      exact ⟨up _ hn.1, up _ hn.2.1, up _ hn.2.2⟩
theorem bk_new {ad : List Nat} {s : List KN} {g : Nat} (hl : ad.length = s.length) : bk (ad ++ [g]) s.length = g := by
  unfold bk
  rw [List.getD_eq_getElem?_getD, ← hl, List.getElem?_append_right (Nat.le_refl _), Nat.sub_self]
  rfl
/-- A row of pointers to kinds is read. -/
def Ptrs (ad : List Nat) (w : World) (A : Option Addr) (ps : List Nat) : Prop :=
  ps.length ≤ 9223372036854775807 ∧ (∀ p, p ∈ ps → p < ad.length) ∧ (0 < ps.length → ∃ adr, A = some adr ∧ ∀ (j : Nat) (p : Nat), ps[j]? = some p → w.cell? (adr.add j) = some (pk ad p))
/-- Arrows from kinds, the last one first. -/
def farrowR : List KN → Nat → List Nat → Nat × List KN
  | s, k, [] => (k, s)
  | s, k, p :: rest => farrowR (s ++ [⟨none, false, some p, some k⟩]) s.length rest
def farrow (s : List KN) (o : Nat) (ps : List Nat) : Nat × List KN := farrowR s o ps.reverse
set_option maxHeartbeats 4000000 in
theorem arrow_calls (B : Nat) (s : List KN) (ad : List Nat) (o : Nat) (A : Option Addr) (c : Nat) (ps : List Nat) (gf : Nat) (v1 v2 v3 : Value) (w : World) (hH : Held B s ad w) (ho : o < s.length) (hB : B ≤ w.heap.size) (hP : Ptrs ad w A ps)
    (hf : w.heap[gf]? = some (.cells #[pk ad o, v1, v2, v3] 77 (0, 0))) :
    Calls Try.prog 37 #[.pointer (some ⟨gf, 0, none⟩), .slice A ps.length c] w fun e w' => ∃ ad', e = .returned (pk (ad ++ ad') (farrow s o ps).1) ∧ Held B (farrow s o ps).2 (ad ++ ad') w' ∧ Below w.heap.size w w' ∧ (farrow s o ps).1 < (farrow s o ps).2.length ∧ ∀ b, b ∈ ad' → w.heap.size ≤ b := by
  have hu74 := Try.underlying74
  have hu77 := Try.underlying77
  have hlen := hP.1
  have HH := Aside0.mk hH
  have HO := Aside0.mk ho
  have HBB := Aside0.mk hB
  have HP := Aside0.mk hP
  have hc0 : w.cell? ⟨gf, 0, none⟩ = some (pk ad o) := (blk_cell hf 0).trans rfl
  have HL := Aside0.mk hH.len
  clear hH ho hB hP hf
  go_enter Try.func37, Try.ntmps37
  go_wp2_with fail
  go_loopg [5, 6] ps.length (fun kq v5 v6 wr => ∃ (m : Nat) (s1 : List KN) (e1 : List Nat) (k : Nat), v5 = pk (ad ++ e1) k ∧ v6 = .int .i64 ((m : Int) - 1) ∧ Aside0 (kq = m ∧ m ≤ ps.length) ∧ Aside0 (farrowR s1 k (ps.take m).reverse = farrow s o ps) ∧ Aside0 (Held B s1 (ad ++ e1) wr) ∧ Aside0 (k < s1.length ∧ s.length ≤ s1.length) ∧ Aside0 (Below w.heap.size w wr) ∧ Aside0 (∀ b, b ∈ e1 → w.heap.size ≤ b))
  case atStart => exact ⟨ps.length, s, [], o, by rw [List.append_nil], by go_num, ⟨rfl, Nat.le_refl _⟩, ⟨by rw [List.take_length]; rfl⟩, ⟨by rw [List.append_nil]; exact HH.out⟩, ⟨HO.out, Nat.le_refl _⟩, ⟨Below.refl _ _⟩, ⟨by intro b hb; cases hb⟩⟩
  case round =>
    obtain ⟨m, s1, e1, k, rfl, rfl, Hm, HF, H1, HK, HB, HN1⟩ := hrel
    cases m with
    | zero =>
      have hj : decide ((0 : Int) ≤ ((0 : Nat) : Int) - 1) = false := by decide
      have e := HF.out
      rw [List.take_zero, List.reverse_nil, farrowR] at e
      have e' := Aside0.mk e
      clear e
      go_wp2_with fail
      go_ret
      exact ⟨e1, by rw [← e'.out]; rfl, by rw [← e'.out]; exact H1.out, HB.out, by rw [← e'.out]; exact HK.out.1, HN1.out⟩
    | succ m =>
      have hmle := Hm.out.2
      have hmi : m < ps.length := by omega
      have hpm := Aside0.mk (List.getElem?_eq_getElem hmi)
      have htk : (ps.take (m + 1)).reverse = ps[m] :: (ps.take m).reverse := by
        rw [List.take_add_one, List.getElem?_eq_getElem hmi]
        simp
      have HT := Aside0.mk htk
      have hpl := HP.out.2.1 ps[m] (List.getElem_mem hmi)
      obtain ⟨adr, hadr, hcells⟩ := HP.out.2.2 (by omega)
      cases hadr
      have hx1 := hcells m ps[m] hpm.out
      replace hx1 := (HB.out.cell (World.block_lt_of_cell? w _ hx1)).trans hx1
      have hfo := (HB.out.cell (World.block_lt_of_cell? w _ hc0)).trans hc0
      generalize hp : ps[m] = p at *
      have hml := HL.out
      have hppe : pk (ad ++ e1) p = pk ad p := by unfold pk; rw [bk_app hpl]
      have Hpp := Aside0.mk hppe
      have hj : decide ((0 : Int) ≤ (m : Int)) = true := decide_eq_true (by omega)
      have p1 : (0 ≤ (m : Int)) = True := eq_true (by omega)
      have p2 : ((m : Int) < (ps.length : Int)) = True := eq_true (by omega)
      have p3 : (m < ps.length) = True := eq_true hmi
      rw [show (((m + 1 : Nat) : Int) - 1) = (m : Int) from by omega]
      clear hcells htk hp hppe hpm
      go_wp2_with (
        (with_reducible refine gate_dst (N := 24) rfl ?_)
        refine box_event ?hg (N := 24) ?hd (cs := #[.pointer none, .bool false, pk ad p, pk (ad ++ e1) k]) (t := 74) ?hr ?_
        (case hd => rfl)
        (case hg => rfl)
        (case hr => first | (go_simp; done) | (go_simp; rfl))
        intro g hg w3 hbox hb3
        have hsz := HB.out.size
        have H3 := Aside0.mk (Held.push (n := ⟨none, false, some p, some k⟩) H1.out hb3 (Nat.le_of_eq hg.symm) (Nat.le_trans HBB.out hsz) ⟨(by intro j hj; cases hj), (by intro j hj; injection hj with hj; have := HK.out.2; omega), (by intro j hj; injection hj with hj; have := HK.out.1; omega)⟩ (by rw [hbox]; unfold kcells; show _ = some (Obj.cells #[.pointer none, .bool false, pk (ad ++ e1) p, pk (ad ++ e1) k] 74 (0, 0)); rw [Hpp.out]))
        have HB3 := Aside0.mk (below_step HB.out hb3)
        have HN3 := Aside0.mk (show ∀ b, b ∈ e1 ++ [g] → w.heap.size ≤ b from fun b hb => by
          rcases List.mem_append.1 hb with hb | hb
          · exact HN1.out b hb
          · rw [List.mem_singleton] at hb; omega)
        have hbn := Aside0.mk (show bk (ad ++ e1 ++ [g]) s1.length = g from bk_new H1.out.len)
        clear hbox hb3 hsz hg)
      have hgk := Hm.out.1
      go_roundg m
      case measure => omega
      case rel => exact ⟨m, s1 ++ [⟨none, false, some p, some k⟩], e1 ++ [g], s1.length, by rw [← List.append_assoc]; unfold pk; rw [hbn.out], by go_num, ⟨rfl, by omega⟩, ⟨by rw [← HF.out, HT.out, farrowR]⟩, ⟨by rw [← List.append_assoc]; exact H3.out⟩, ⟨by rw [List.length_append]; simp, by rw [List.length_append]; have := HK.out.2; omega⟩, HB3, HN3⟩
end Go.Proofs.Ytfhgoebgnilfaaa.I
namespace Go.Proofs.Ytfhgoebgnilfaaa.I
open Go.RowKit Go.Proofs.YtfhgoebgnilfaaaW.PrintWords Go.Proofs.YtfhgoebgnilfaaaW.PrintLast Go.Proofs.YtfhgoebgnilfaaaW.PrintMore
attribute [local go_sem] max2_int min2_int max_two min_two max_three min_three max_four min_four
set_option linter.unusedVariables false
set_option maxRecDepth 100000
set_option linter.unusedSimpArgs false
mutual
/-- The sort of a kind; none inside: it has too many nodes. -/
def fshown (s : List KN) : Nat → Nat → Int → Option (Option (List S41) × Int)
  | 0, _, _ => none
  | f + 1, i, left => if left - 1 < 0 then some (none, left - 1) else match fend s f i with
    | none => none
    | some r => fshownL s f r [] (left - 1)
def fshownL (s : List KN) : Nat → Nat → List S41 → Int → Option (Option (List S41) × Int)
  | 0, _, _, _ => none
  | f + 1, r, acc, left => match s[r]? with
    | none => none
    | some n => match n.fr with
      | none => some (some acc, left)
      | some a => match fshown s f a left with
        | none => none
        | some (none, l1) => some (none, l1)
        | some (some x, l1) => if acc.length < 5864062014805 then (match n.tk with
          | none => none
          | some t => match fend s f t with
            | none => none
            | some r2 => fshownL s f r2 (acc ++ [⟨x⟩]) l1) else none
end
theorem fshown_bd (s : List KN) : ∀ (f : Nat), (∀ i left o l1, fshown s f i left = some (o, l1) → l1 ≤ left ∧ (0 ≤ left → -1 ≤ l1 ∧ (∀ x, o = some x → 0 ≤ l1))) ∧ (∀ r acc left o l1, fshownL s f r acc left = some (o, l1) → l1 ≤ left ∧ (0 ≤ left → -1 ≤ l1 ∧ (∀ x, o = some x → 0 ≤ l1)))
  | 0 => ⟨fun i left o l1 h => by simp [fshown] at h, fun r acc left o l1 h => by simp [fshownL] at h⟩
  | f + 1 => by
    obtain ⟨ih1, ih2⟩ := fshown_bd s f
    refine ⟨fun i left o l1 h => ?_, fun r acc left o l1 h => ?_⟩
    · unfold fshown at h
      by_cases h0 : left - 1 < 0
      · rw [if_pos h0] at h
        injection h with h
        injection h with h2 h
        exact ⟨by omega, fun hz => ⟨by omega, fun x hx => by rw [← h2] at hx; cases hx⟩⟩
      · rw [if_neg h0] at h
        cases hr : fend s f i with
        | none => rw [hr] at h; cases h
        | some r =>
          rw [hr] at h
          have := ih2 r [] (left - 1) o l1 h
          exact ⟨by omega, fun hz => this.2 (by omega)⟩
    · unfold fshownL at h
      cases hn : s[r]? with
      | none => rw [hn] at h; cases h
      | some n =>
        rw [hn] at h
        simp only at h
        cases hf : n.fr with
        | none =>
          rw [hf] at h
          injection h with h
          injection h with _ h
          exact ⟨by omega, fun hz => ⟨by omega, fun _ _ => by omega⟩⟩
        | some a =>
          rw [hf] at h
          simp only at h
          cases hs : fshown s f a left with
          | none => rw [hs] at h; cases h
          | some q =>
            obtain ⟨o2, l2⟩ := q
            have b1 := ih1 a left o2 l2 hs
            rw [hs] at h
            cases o2 with
            | none =>
              injection h with h
              injection h with h2 h
              exact ⟨by omega, fun hz => ⟨by have := (b1.2 hz).1; omega, fun x hx => by rw [← h2] at hx; cases hx⟩⟩
            | some x =>
              simp only at h
              by_cases hl : acc.length < 5864062014805
              · rw [if_pos hl] at h
                cases ht : n.tk with
                | none => rw [ht] at h; cases h
                | some t =>
                  rw [ht] at h
                  simp only at h
                  cases hr : fend s f t with
                  | none => rw [hr] at h; cases h
                  | some r2 =>
                    rw [hr] at h
                    have b2 := ih2 r2 _ l2 o l1 h
                    exact ⟨by omega, fun hz => b2.2 ((b1.2 hz).2 x rfl)⟩
              · rw [if_neg hl] at h; cases h
/-- A goal at which the walk stands still. -/
def HoldI5 (p : Prop) : Prop := p
theorem holdI5 {p : Prop} (h : HoldI5 p) : p := h
theorem Held.keep {B : Nat} {s : List KN} {ad : List Nat} {w w1 : World} {g : Nat} (h : Held B s ad w) (hk : KeepBut w w1 g none) (hg : g ∉ ad) : Held B s ad w1 :=
  ⟨h.len, h.nodup, h.ge, fun i n hn => KeepBut.blk hk (h.cell i n hn) (fun e => hg (by rw [← e]; exact bk_mem h (List.getElem?_eq_some_iff.1 hn).1)) (by simp), h.ok⟩
set_option maxHeartbeats 8000000 in
theorem shown_calls (B : Nat) (s : List KN) (ad : List Nat) (f : Nat) : ∀ (i gl : Nat) (left l' : Int) (o : Option (List S41)) (w0 w : World) (hH : Held B s ad w) (hga : gl ∉ ad) (h : fshown s f i left = some (o, l')) (hg : w0.heap.size ≤ gl) (hB : Below w0.heap.size w0 w)
    (hb : w.heap[gl]? = some (.cells #[.int .i64 left] 3 (0, 0))) (hl : 0 ≤ left) (hl2 : left ≤ 1000),
    Calls Try.prog 40 #[pk ad i, .pointer (some ⟨gl, 0, none⟩)] w fun e w' => ∃ v, e = .returned (.tuple #[.agg #[v], .bool o.isSome]) ∧ (∃ A n c, v = .slice A n c) ∧ (∀ l, o = some l → Kd.R k41 41 w' w.heap.size (fun _ => True) v l) ∧ Below w0.heap.size w0 w' ∧ KeepBut w w' gl none ∧ w'.heap[gl]? = some (.cells #[.int .i64 l'] 3 (0, 0)) := by
  induction f using Nat.strongRecOn with
  | _ f ih =>
  intro i gl left l' o w0 w hH hga h hg hB hb hl hl2
  have hu41 := Try.underlying41
  cases f with
  | zero => exact absurd h (by simp [fshown])
  | succ f =>
  have HH := Aside0.mk hH
  have HGA := Aside0.mk hga
  have HG := Aside0.mk hg
  have HB := Aside0.mk hB
  have Hb := Aside0.mk hb
  have IH := Aside0.mk ih
  have hgl := blk_lt hb
  unfold fshown at h
  have H := Aside0.mk h
  clear hH hga hg hB hb ih h
  go_enter Try.func40, Try.ntmps40
  go_wp2_with (first
   | ((with_reducible refine gate_dst (N := 4) rfl ?_)
      refine box_event ?hg (N := 4) ?hd (cs := #[.slice none 0 0]) (t := 41) ?hr ?_
      (case hd => rfl)
      (case hg => rfl)
      (case hr => first | (go_simp; done) | (go_simp; rfl))
      intro g4 hg4 w2 hbox hb2
      have Sb2 := Aside0.mk (blk_below Hb.out hb2)
      have S42 := Aside0.mk hbox
      have HB2 := Aside0.mk (below_step HB.out hb2)
      have HK2 := Aside0.mk (KeepBut.of_below hb2 gl none)
      have hn4 : g4 ≠ gl := by omega
      have hw4 : w.heap.size ≤ g4 := by omega
      have hl4 := blk_lt hbox
      clear hbox hb2 hg4)
   | ((with_reducible refine gate_dst (N := 6) rfl ?_)
      refine box_event ?hg (N := 6) ?hd (cs := #[.slice none 0 0]) (t := 41) ?hr ?_
      (case hd => rfl)
      (case hg => rfl)
      (case hr => first | (go_simp; done) | (go_simp; rfl))
      intro g6 hg6 w3 hbox hb3
      have hn6 : g6 ≠ gl := by have := blk_lt Sb2.out; omega
      have hn64 : g6 ≠ g4 := by omega
      have hw6 : w.heap.size ≤ g6 := by omega
      have Sb3 := Aside0.mk (blk_put (cs' := #[.int .i64 (left - 1)]) (blk_below Sb2.out hb3) 0 (.int .i64 (left - 1)) rfl)
      have S43 := Aside0.mk (blk_far (p := ⟨gl, 0, none⟩) (blk_below S42.out hb3) hn4 (.int .i64 (left - 1)))
      have S63 := Aside0.mk (blk_far (p := ⟨gl, 0, none⟩) hbox hn6 (.int .i64 (left - 1)))
      have HB3 := Aside0.mk (below_set (g := gl) (j := 0) (v := .int .i64 (left - 1)) (below_step HB2.out hb3) HG.out)
      have HK3 := Aside0.mk (KeepBut.set_ (KeepBut.trans HK2.out (KeepBut.of_below hb3 gl none) (.inl rfl)) 0 (.int .i64 (left - 1)))
      have hcl : w3.cell? ⟨gl, 0, none⟩ = some (.int .i64 left) := (blk_cell (blk_below Sb2.out hb3) 0).trans rfl
      have hfl := blk_frozen (blk_below Sb2.out hb3) 0
      have hcl2 : (w3.setCell ⟨gl, 0, none⟩ (.int .i64 (left - 1))).cell? ⟨gl, 0, none⟩ = some (.int .i64 (left - 1)) := (blk_cell Sb3.out 0).trans rfl
      have hc6 : (w3.setCell ⟨gl, 0, none⟩ (.int .i64 (left - 1))).cell? ⟨g6, 0, none⟩ = some (.slice none 0 0) := (blk_cell S63.out 0).trans rfl
      have hc4 : (w3.setCell ⟨gl, 0, none⟩ (.int .i64 (left - 1))).cell? ⟨g4, 0, none⟩ = some (.slice none 0 0) := (blk_cell S43.out 0).trans rfl
      have hf4 := blk_frozen S43.out 0
      clear hbox hb3 hg6 Sb2 S42 HB2 HK2))
  · have hneg : left - 1 < 0 := by first | assumption | omega
    have h := H.out
    rw [if_pos hneg] at h
    injection h with h
    injection h with e1 e2
    subst e1 e2
    refine bodyPost_ret (results_ct rfl _ _ g4 41 #[.slice none 0 0] (0, 0) _ rfl (blk_put (cs' := #[.slice none 0 0]) S43.out 0 (.slice none 0 0) rfl) Try.underlying41 rfl (by kernel_rfl)) rfl ?_
    exact ⟨_, rfl, ⟨_, _, _, rfl⟩, (fun l hl => by cases hl), below_set (g := g4) (j := 0) HB3.out (Nat.le_trans HB.out.size hw4), keep_far (p := ⟨g4, 0, none⟩) HK3.out hw4 _, blk_far (p := ⟨g4, 0, none⟩) Sb3.out (Ne.symm hn4) _⟩
  · have hneg : ¬ (left - 1 < 0) := by first | assumption | omega
    have h := H.out
    rw [if_neg hneg] at h
    cases hr : fend s f i with
    | none => rw [hr] at h; cases h
    | some r0 =>
    rw [hr] at h
    simp only at h
    have HE := Aside0.mk hr
    have HF := Aside0.mk h
    have hH3 := Held.keep HH.out HK3.out HGA.out
    have H3 := Aside0.mk hH3
    have hsz0 := HB.out.size
    clear h H hr hcl hfl hcl2 hc6 hc4 hf4 HB Hb hH3
    (with_reducible refine (kend_calls B s ad f i r0 _ H3.out HE.out).mono ?_)
    rintro e w4 ⟨rfl, rfl⟩
    go_wp2_with fail
    go_loopg [0] f (fun kq v0 wr => ∃ (r : Nat) (acc : List S41) (v : Value) (lf : Int), v0 = pk ad r ∧ Aside0 (kq ≤ f) ∧ Aside0 (fshownL s kq r acc lf = some (o, l')) ∧ Aside0 (0 ≤ lf ∧ lf ≤ 1000) ∧ Aside0 (wr.heap[gl]? = some (.cells #[.int .i64 lf] 3 (0, 0))) ∧ Aside0 (wr.heap[g4]? = some (.cells #[.slice none 0 0] 41 (0, 0))) ∧ Aside0 (wr.heap[g6]? = some (.cells #[v] 41 (0, 0))) ∧ Aside0 (Kd.R k41 41 wr w.heap.size (fun k => k ≠ gl ∧ k ≠ g4 ∧ k ≠ g6) v acc) ∧ Aside0 (Below w0.heap.size w0 wr) ∧ Aside0 (KeepBut w wr gl none))
    case atStart => exact ⟨r0, [], .slice none 0 0, left - 1, rfl, ⟨Nat.le_refl _⟩, HF, ⟨by omega⟩, Sb3, S43, S63, ⟨Kd.R_nil _ _ _ _ _⟩, HB3, HK3⟩
    case round =>
      clear HF Sb3 S43 S63 HB3 HK3 H3 HE hneg
      obtain ⟨r, acc, v, lf, rfl, Hk, HF, Hlf, Sb, S4, S6, HO, HB, HK⟩ := hrel
      have hf := HF.out
      cases gk with
      | zero => exact absurd hf (by simp [fshownL])
      | succ k1 =>
      unfold fshownL at hf
      cases hn : s[r]? with
      | none => rw [hn] at hf; cases hf
      | some n =>
      rw [hn] at hf
      simp only at hf
      have hHr := Held.keep HH.out HK.out HGA.out
      have Hr := Aside0.mk hHr
      have hcr := hHr.cell r n hn
      have hcr2 : wr.cell? ⟨bk ad r, 2, none⟩ = some (pv ad n.fr) := (blk_cell hcr 2).trans rfl
      have Hn := Aside0.mk hn
      obtain ⟨A1, c1, e1⟩ := Kd.R_slice HO.out
      subst e1
      have hc6 : wr.cell? ⟨g6, 0, none⟩ = some (.slice A1 acc.length c1) := (blk_cell S6.out 0).trans rfl
      have hc4 : wr.cell? ⟨g4, 0, none⟩ = some (.slice none 0 0) := (blk_cell S4.out 0).trans rfl
      have hf4 := blk_frozen S4.out 0
      clear hHr hcr hn HF
      cases hfr : n.fr with
      | none =>
        rw [hfr] at hf hcr2
        injection hf with hf
        injection hf with e1 e2
        subst e1 e2
        simp only [pv] at hcr2
        clear hfr
        go_wp2_with fail
        refine bodyPost_ret (results_ct rfl _ _ g4 41 #[.slice A1 acc.length c1] (0, 0) _ rfl (blk_put (cs' := #[.slice A1 acc.length c1]) S4.out 0 (.slice A1 acc.length c1) rfl) Try.underlying41 rfl (by kernel_rfl)) rfl ?_
        exact ⟨_, rfl, ⟨_, _, _, rfl⟩, (fun l hl => by injection hl with hl; subst hl; exact Kd.R_mono (Kd.R_far (p := ⟨g4, 0, none⟩) HO.out (fun k hk => hk.2.1) _) (fun _ _ => trivial)), below_set (g := g4) (j := 0) HB.out (Nat.le_trans hsz0 hw4), keep_far (p := ⟨g4, 0, none⟩) HK.out hw4 _, blk_far (p := ⟨g4, 0, none⟩) Sb.out (Ne.symm hn4) _⟩
      | some a =>
        rw [hfr] at hf hcr2
        simp only at hf
        simp only [pv, pk] at hcr2
        cases hsh : fshown s k1 a lf with
        | none => rw [hsh] at hf; cases hf
        | some q =>
        obtain ⟨o2, l2⟩ := q
        rw [hsh] at hf
        have hbd := (fshown_bd s k1).1 a lf o2 l2 hsh
        have HS := Aside0.mk hsh
        have Hfr := Aside0.mk hfr
        clear hsh hfr
        go_wp2_with fail
        (with_reducible refine (IH.out k1 (by have := Hk.out; omega) a gl lf l2 o2 w0 wr Hr.out HGA.out HS.out HG.out HB.out Sb.out Hlf.out.1 Hlf.out.2).mono ?_)
        rintro e w5 ⟨v1, rfl, ⟨Av, nv, cv, rfl⟩, hv, hB5, hK5, hb5⟩
        have HV := Aside0.mk hv
        have HB5 := Aside0.mk hB5
        have Sb5 := Aside0.mk hb5
        have S45 := Aside0.mk (KeepBut.blk hK5 S4.out hn4 (by simp))
        have S65 := Aside0.mk (KeepBut.blk hK5 S6.out hn6 (by simp))
        have HO5 := Aside0.mk (Kd.R_keep HO.out hK5 (fun k hk => hk.1))
        have HK5 := Aside0.mk (KeepBut.trans HK.out hK5 (.inl rfl))
        have hszr := HK.out.1
        have Hlr := Aside0.mk (Kd.R_lt HO.out)
        have hlr4 := blk_lt S4.out
        have hlr6 := blk_lt S6.out
        have hlrb := blk_lt Sb.out
        clear hv hB5 hK5 hb5 Sb S4 S6 HO HB HK hc6 hc4 hf4 hcr2
        cases o2 with
        | none =>
          injection hf with hf
          injection hf with e1 e2
          subst e1 e2
          go_wp2_with (
            (with_reducible refine gate_dst (N := 7) rfl ?_)
            refine box_event ?hg (N := 7) ?hd (cs := #[.slice none 0 0]) (t := 41) ?hr ?_
            (case hd => rfl)
            (case hg => rfl)
            (case hr => first | (go_simp; done) | (go_simp; rfl))
            intro g7 hg7 w6 hbox hb6
            have hBw := below_set (j := 0) (v := .slice Av nv cv) hb6 (show w5.heap.size ≤ g7 by omega)
            have Sb6 := Aside0.mk (blk_below Sb5.out hBw)
            have S46 := Aside0.mk (blk_below S45.out hBw)
            have S66 := Aside0.mk (blk_below S65.out hBw)
            have HB6 := Aside0.mk (below_step HB5.out hBw)
            have HK6 := Aside0.mk (KeepBut.trans HK5.out (KeepBut.of_below hBw gl none) (.inl rfl))
            have hcz := (blk_cell hbox 0).trans rfl
            have hfz := blk_frozen hbox 0
            have hc6 : (w6.setCell ⟨g7, 0, none⟩ (.slice Av nv cv)).cell? ⟨g6, 0, none⟩ = some (.slice A1 acc.length c1) := (blk_cell S66.out 0).trans rfl
            have hc4 : (w6.setCell ⟨g7, 0, none⟩ (.slice Av nv cv)).cell? ⟨g4, 0, none⟩ = some (.slice none 0 0) := (blk_cell S46.out 0).trans rfl
            have hf4 := blk_frozen S46.out 0
            clear hbox hb6 hg7 hBw Sb5 S45 S65 HB5 HK5)
          refine bodyPost_ret (results_ct rfl _ _ g4 41 #[.slice A1 acc.length c1] (0, 0) _ rfl (blk_put (cs' := #[.slice A1 acc.length c1]) S46.out 0 (.slice A1 acc.length c1) rfl) Try.underlying41 rfl (by kernel_rfl)) rfl ?_
          exact ⟨_, rfl, ⟨_, _, _, rfl⟩, (fun l hl => by cases hl), below_set (g := g4) (j := 0) HB6.out (Nat.le_trans hsz0 hw4), keep_far (p := ⟨g4, 0, none⟩) HK6.out hw4 _, blk_far (p := ⟨g4, 0, none⟩) Sb6.out (Ne.symm hn4) _⟩
        | some x =>
          simp only at hf
          have hx1 := HV.out x rfl
          have hnv := (Kd.R_reads' hx1).1
          subst hnv
          have HN5 := Aside0.mk (Kd.R_mono (Kd.R_lower (Kd.R_new' (Kd.R_bound hx1) Hlr.out) hszr) (ok' := fun k => (k ≠ gl ∧ k ≠ g4 ∧ k ≠ g6) ∧ some k ≠ (Value.slice A1 acc.length c1).ownBlock) (fun k hk => by
            have h4 := hk.1.2.1
            exact ⟨⟨by omega, by omega, by omega⟩, hk.2⟩))
          by_cases hlm : acc.length < 5864062014805
          · rw [if_pos hlm] at hf
            cases ht : n.tk with
            | none => rw [ht] at hf; cases hf
            | some t =>
            rw [ht] at hf
            simp only at hf
            cases hr2 : fend s k1 t with
            | none => rw [hr2] at hf; cases hf
            | some r2 =>
            rw [hr2] at hf
            simp only at hf
            have LM := Aside0.mk hlm
            have Ht := Aside0.mk ht
            have HE2 := Aside0.mk hr2
            have HF2 := Aside0.mk hf
            have hl20 := (hbd.2 Hlf.out.1).2 x rfl
            have hl21 := hbd.1
            have Hl2 := Aside0.mk (show 0 ≤ l2 ∧ l2 ≤ 1000 from by have := Hlf.out.2; omega)
            clear hlm ht hr2 hf hx1 HV hbd hl20 hl21
            go_wp2_with (first
             | ((with_reducible refine gate_dst (N := 7) rfl ?_)
                refine box_event ?hg (N := 7) ?hd (cs := #[.slice none 0 0]) (t := 41) ?hr ?_
                (case hd => rfl)
                (case hg => rfl)
                (case hr => first | (go_simp; done) | (go_simp; rfl))
                intro g7 hg7 w6 hbox hb6
                have hBw := below_set (j := 0) (v := .slice Av x.length cv) hb6 (show w5.heap.size ≤ g7 by omega)
                have Sb6 := Aside0.mk (blk_below Sb5.out hBw)
                have S46 := Aside0.mk (blk_below S45.out hBw)
                have S66 := Aside0.mk (blk_below S65.out hBw)
                have HO6 := Aside0.mk (Kd.R_below HO5.out hBw)
                have HN6 := Aside0.mk (Kd.R_below HN5.out hBw)
                have HB6 := Aside0.mk (below_step HB5.out hBw)
                have HK6 := Aside0.mk (KeepBut.trans HK5.out (KeepBut.of_below hBw gl none) (.inl rfl))
                have hcz := (blk_cell hbox 0).trans rfl
                have hfz := blk_frozen hbox 0
                have hc6 : (w6.setCell ⟨g7, 0, none⟩ (.slice Av x.length cv)).cell? ⟨g6, 0, none⟩ = some (.slice A1 acc.length c1) := (blk_cell S66.out 0).trans rfl
                have hc7 : (w6.setCell ⟨g7, 0, none⟩ (.slice Av x.length cv)).cell? ⟨g7, 0, none⟩ = some (.slice Av x.length cv) := (blk_cell (blk_set hbox 0 (.slice Av x.length cv)) 0).trans rfl
                have hsz6 := HK6.out.1
                clear hbox hb6 hg7 hBw Sb5 S45 S65 HO5 HN5 HB5 HK5)
             | (at_builtin; refine holdI5 ?_))
            unfold HoldI5
            refine Kd.R_append k41 (w0 := w6.setCell ⟨g7, 0, none⟩ (.slice Av x.length cv)) w.heap.size rfl (.tmp 44) (.tmp 46) 31 41 (.agg #[(.slice none 0 0)]) 24 rfl Try.underlying31 info41 rfl (by decide) (by omega) (.slice A1 acc.length c1) acc (⟨x⟩ : S41) [.slice Av x.length cv] (fun k => k ≠ gl ∧ k ≠ g4 ∧ k ≠ g6) (fun k => (k ≠ gl ∧ k ≠ g4 ∧ k ≠ g6) ∧ some k ≠ (Value.slice A1 acc.length c1).ownBlock) rfl (by rw [show (w6.setCell ⟨g7, 0, none⟩ (.slice Av x.length cv)).heap.size = w6.heap.size from by simp [World.setCell]]; rfl) ?aP (fun _ hk => hk) ?aF ?aO ?aB ?aS ?aL ?_
            (case aP => exact k41_mkM _ _ _ (⟨x⟩ : S41) (HN6.out))
            (case aB => exact Below.refl _ _)
            (case aF => intro k hk; have h1 := blk_lt Sb6.out; have h2 := blk_lt S46.out; have h3 := blk_lt S66.out; exact ⟨by omega, by omega, by omega⟩)
            (case aO => exact HO6.out)
            (case aS => exact hsz6)
            (case aL => have := LM.out; omega)
            intro v2 w50 ho hb hg2 hat
            obtain ⟨A2, c2, e2⟩ := Kd.R_slice ho
            obtain ⟨n2, hn2⟩ : ∃ n, n = (acc ++ [(⟨x⟩ : S41)]).length := ⟨_, rfl⟩
            rw [← hn2] at e2
            subst e2
            clear hn2
            have Sb7 := Aside0.mk (blk_grown Sb6.out hg2 (Kd.R_away HO6.out (fun k hk => hk.1)))
            have S47 := Aside0.mk (blk_grown S46.out hg2 (Kd.R_away HO6.out (fun k hk => hk.2.1)))
            have S67 := Aside0.mk (blk_grown S66.out hg2 (Kd.R_away HO6.out (fun k hk => hk.2.2)))
            have HO7 := Aside0.mk ho
            have HB7 := Aside0.mk (HB6.out.grown hg2 HB6.out.size (fun k hk => by have h1 := Kd.R_base HO6.out k hk; omega))
            have HK7 := Aside0.mk (KeepBut.trans HK6.out (KeepBut.of_grown hg2 gl) (Kd.R_base2 HO6.out))
            have hcs : w50.cell? ⟨g6, 0, none⟩ = some (.slice A1 acc.length c1) := (blk_cell S67.out 0).trans rfl
            have hfs := blk_frozen S67.out 0
            have Sb8 := Aside0.mk (blk_far (p := ⟨g6, 0, none⟩) Sb7.out (Ne.symm hn6) (.slice A2 n2 c2))
            have S48 := Aside0.mk (blk_far (p := ⟨g6, 0, none⟩) S47.out (Ne.symm hn64) (.slice A2 n2 c2))
            have S68 := Aside0.mk (blk_put (cs' := #[.slice A2 n2 c2]) S67.out 0 (.slice A2 n2 c2) rfl)
            have HO8 := Aside0.mk (Kd.R_far (p := ⟨g6, 0, none⟩) HO7.out (fun k hk => hk.2.2) (.slice A2 n2 c2))
            have HB8 := Aside0.mk (below_set (g := g6) (j := 0) (v := .slice A2 n2 c2) HB7.out (Nat.le_trans hsz0 hw6))
            have HK8 := Aside0.mk (keep_far (p := ⟨g6, 0, none⟩) HK7.out hw6 (.slice A2 n2 c2))
            have Hr8 := Aside0.mk (Held.keep HH.out HK8.out HGA.out)
            have hct : (w50.setCell ⟨g6, 0, none⟩ (.slice A2 n2 c2)).cell? ⟨bk ad r, 3, none⟩ = some (pk ad t) := cell_tk Hr8.out Hn.out Ht.out
            clear ho hb hg2 hat hc6 hc7 hcz hfz Sb6 S46 S66 HO6 HN6 HB6 HK6 Sb7 S47 S67 HO7 HB7 HK7 Hr
            simp only [pk] at hct
            go_wp2_with fail
            (with_reducible refine (kend_calls B s ad k1 t r2 _ Hr8.out HE2.out).mono ?_)
            rintro e w9 ⟨rfl, rfl⟩
            go_wp2_with fail
            go_roundg k1
            case measure => omega
            case rel => exact ⟨r2, acc ++ [⟨x⟩], .slice A2 n2 c2, l2, rfl, ⟨by have := Hk.out; omega⟩, HF2, Hl2, Sb8, S48, S68, HO8, HB8, HK8⟩
          · rw [if_neg hlm] at hf
            cases hf
end Go.Proofs.Ytfhgoebgnilfaaa.I
namespace Go.Proofs.Ytfhgoebgnilfaaa.I
open Go.RowKit Go.Proofs.YtfhgoebgnilfaaaW.PrintWords Go.Proofs.YtfhgoebgnilfaaaW.PrintLast Go.Proofs.YtfhgoebgnilfaaaW.PrintMore
attribute [local go_sem] max2_int min2_int max_two min_two max_three min_three max_four min_four
set_option linter.unusedVariables false
set_option maxRecDepth 100000
set_option linter.unusedSimpArgs false
mutual
/-- What measure answers, and what it leaves. -/
def meas : S41 → Int → Int × Int
  | ⟨l⟩, left => measL l (left - 1) 0
def measL : List S41 → Int → Int → Int × Int
  | [], left, d => (d + 1, left)
  | x :: xs, left, d => if left < 0 then (0, left) else measL xs (meas x left).2 (mx d (meas x left).1)
end
theorem mx_ge (a b : Int) : a ≤ mx a b ∧ b ≤ mx a b ∧ (mx a b = a ∨ mx a b = b) := by unfold mx; split <;> omega
mutual
theorem meas_bd : ∀ (x : S41) (left : Int), 0 ≤ left → -1 ≤ (meas x left).2 ∧ (meas x left).2 ≤ left - 1 ∧ 0 ≤ (meas x left).1 ∧ (meas x left).1 + (meas x left).2 ≤ left
  | ⟨l⟩, left, h => by
    have := measL_bd l (left - 1) 0 (by omega) (by omega)
    unfold meas
    omega
theorem measL_bd : ∀ (l : List S41) (left d : Int), -1 ≤ left → 0 ≤ d → -1 ≤ (measL l left d).2 ∧ (measL l left d).2 ≤ left ∧ 0 ≤ (measL l left d).1 ∧ (measL l left d).1 + (measL l left d).2 ≤ d + left + 1
  | [], left, d, h, hd => by unfold measL; simp only; omega
  | x :: xs, left, d, h, hd => by
    unfold measL
    split
    · simp only; omega
    · have h1 := meas_bd x left (by omega)
      have h2 := mx_ge d (meas x left).1
      have h3 := measL_bd xs (meas x left).2 (mx d (meas x left).1) (by omega) (by omega)
      omega
end
theorem rd_T41_drop (l : List S41) (i : Nat) (h : i < l.length) : l.drop i = rd_T41 l (i : Int) :: l.drop (i + 1) := by
  rw [List.drop_eq_getElem_cons h]
  simp [rd_T41, List.getD_eq_getElem?_getD, List.getElem?_eq_getElem h]
theorem rd_T41_mem (l : List S41) (i : Nat) (h : i < l.length) : SizeOf.sizeOf (rd_T41 l (i : Int)).f0 < SizeOf.sizeOf l := by
  have hm : rd_T41 l (i : Int) ∈ l := by
    simp [rd_T41, List.getD_eq_getElem?_getD, List.getElem?_eq_getElem h]
  have h1 := List.sizeOf_lt_of_mem hm
  have h2 : SizeOf.sizeOf (rd_T41 l (i : Int)) = 1 + SizeOf.sizeOf (rd_T41 l (i : Int)).f0 := by
    cases rd_T41 l (i : Int); simp
  omega
/-- All blocks but g, and the new ones, are as they were. -/
theorem measure_calls (N : Nat) : ∀ (l : List S41) (A : Option Addr) (c g : Nat) (left : Int) (w0 w : World) (hN : SizeOf.sizeOf l < N) (hr : Kd.C k41 w0 A l.length l) (hc : l.length ≤ c) (hB : Below w0.heap.size w0 w) (hg : w0.heap.size ≤ g)
    (hb : w.heap[g]? = some (.cells #[.int .i64 left] 3 (0, 0))) (hl : 0 ≤ left) (hl2 : left ≤ 100000000),
    Calls Try.prog 66 #[.agg #[.slice A l.length c], .pointer (some ⟨g, 0, none⟩)] w fun e w' => e = .returned (.int .i64 (meas ⟨l⟩ left).1) ∧ Below w0.heap.size w0 w' ∧ KeepBut w w' g none ∧ w'.heap[g]? = some (.cells #[.int .i64 (meas ⟨l⟩ left).2] 3 (0, 0)) := by
  induction N with
  | zero => intro l A c g left w0 w hN; omega
  | succ N ih =>
  intro l A c g left w0 w hN hr hc hB hg hb hl hl2
  have hu41 := Try.underlying41
  have hlen : l.length ≤ 9223372036854775807 := hr.2.1
  have HR := Aside0.mk hr
  have HC := Aside0.mk hc
  have HB := Aside0.mk hB
  have HG := Aside0.mk hg
  have HN := Aside0.mk hN
  have Hb := Aside0.mk hb
  have hgl := blk_lt hb
  have IH := Aside0.mk ih
  clear hr hc hB hN hb hg ih
  go_enter Try.func66, Try.ntmps66
  go_wp2_with (
    (with_reducible refine gate_dst (N := 2) rfl ?_)
    refine box_event ?hg (N := 2) ?hd (cs := #[.slice A l.length c]) (t := 41) ?hr ?_
    (case hd => rfl)
    (case hg => rfl)
    (case hr => first | (go_simp; done) | (go_simp; rfl))
    intro gb hgb w2 hbox hb2
    have HB2 := Aside0.mk (below_step HB.out hb2)
    have Hb2 := Aside0.mk (blk_below Hb.out hb2)
    have HK2 := Aside0.mk (KeepBut.of_below hb2 g none)
    have hne : g ≠ gb := by omega
    have hGW : w.heap.size ≤ gb := by omega
    have hczg : w2.cell? ⟨g, 0, none⟩ = some (.int .i64 left) := (blk_cell Hb2.out 0).trans rfl
    have hfzg := blk_frozen Hb2.out 0
    have Hbox := Aside0.mk hbox
    have hcz3 : (w2.setCell ⟨g, 0, none⟩ (.int .i64 (left - 1))).cell? ⟨gb, 0, none⟩ = some (.slice A l.length c) := (blk_cell (blk_far hbox (p := ⟨g, 0, none⟩) (Ne.symm hne) _) 0).trans rfl
    clear hbox hb2 hgb HB Hb)
  clear hcz3 hczg hfzg
  go_loopg [5, 16] l.length (fun kq v5 v16 wr => ∃ (i : Nat) (d lf : Int), v5 = .int .i64 d ∧ v16 = .int .i64 (i : Int) ∧ Aside0 (kq + i = l.length) ∧ Aside0 (measL (l.drop i) lf d = meas ⟨l⟩ left) ∧ Aside0 (0 ≤ d ∧ d + lf ≤ left - 1 ∧ -1 ≤ lf ∧ lf ≤ left - 1) ∧ Aside0 (wr.heap[g]? = some (.cells #[.int .i64 lf] 3 (0, 0))) ∧ Aside0 (wr.heap[gb]? = some (.cells #[.slice A l.length c] 41 (0, 0))) ∧ Aside0 (Below w0.heap.size w0 wr) ∧ Aside0 (KeepBut w wr g none))
  case atStart => exact ⟨0, 0, left - 1, rfl, rfl, ⟨by omega⟩, ⟨by rw [List.drop_zero, meas]⟩, ⟨by omega⟩, ⟨by have := blk_set Hb2.out 0 (.int .i64 (left - 1)); simpa using this⟩, ⟨blk_far Hbox.out (p := ⟨g, 0, none⟩) (Ne.symm hne) _⟩, ⟨below_set HB2.out HG.out⟩, ⟨KeepBut.set_ HK2.out 0 _⟩⟩
  case round =>
    clear Hb2 Hbox HB2 HK2
    obtain ⟨i, d, lf, rfl, rfl, Hi, Hm, Hd, Hb, Hbox, HB, HK⟩ := hrel
    have hi : i ≤ l.length := by have := Hi.out; omega
    obtain ⟨hd0, hd1, hd2, hd3⟩ := Hd.out
    by_cases hlt : i < l.length
    · have hdrop := Aside0.mk (rd_T41_drop l i hlt)
      have hmem := Aside0.mk (rd_T41_mem l i hlt)
      obtain ⟨ad, A1, c1, he, hx1, hl1, hi1⟩ := at_T41 HR.out (i : Int) (by omega) (by omega)
      cases he
      replace hx1 := (HB.out.cell (World.block_lt_of_cell? w0 _ hx1)).trans hx1
      rw [Int.toNat_natCast] at hx1
      have Hl1 := Aside0.mk hl1
      have Hi1 := Aside0.mk hi1
      clear hl1 hi1
      have hczg : wr.cell? ⟨g, 0, none⟩ = some (.int .i64 lf) := (blk_cell Hb.out 0).trans rfl
      have hfzg := blk_frozen Hb.out 0
      have p1 : (0 ≤ (i : Int)) = True := eq_true (by omega)
      have p2 : ((i : Int) < (l.length : Int)) = True := eq_true (by omega)
      have p3 : (i < l.length) = True := eq_true (by omega)
      generalize hx : rd_T41 l (i : Int) = x at *
      have Hx := Aside0.mk hx
      clear hx
      go_wp2_with (
        (with_reducible refine gate_dst (N := 7) rfl ?_)
        refine box_event ?hg (N := 7) ?hd (cs := #[.slice none 0 0]) (t := 41) ?hr ?_
        (case hd => rfl)
        (case hg => rfl)
        (case hr => first | (go_simp; done) | (go_simp; rfl))
        intro gi hgi w3 hbox3 hb3
        have hsz := below_size HB.out
        have hkz := keep_size HK.out
        have HB3 := Aside0.mk (below_set (j := 0) (v := .slice A1 x.f0.length c1) (below_step HB.out hb3) (show w0.heap.size ≤ gi by omega))
        have hgl2 := blk_lt Hb.out
        have hne3 : g ≠ gi := by omega
        have hne4 : gb ≠ gi := by have := blk_lt Hbox.out; omega
        have Hb3 := Aside0.mk (blk_far (p := ⟨gi, 0, none⟩) (blk_below Hb.out hb3) hne3 (.slice A1 x.f0.length c1))
        have Hbox3 := Aside0.mk (blk_far (p := ⟨gi, 0, none⟩) (blk_below Hbox.out hb3) hne4 (.slice A1 x.f0.length c1))
        have HK3 := Aside0.mk (keep_far (KeepBut.trans HK.out (KeepBut.of_below hb3 g none) (.inl rfl)) (p := ⟨gi, 0, none⟩) (show w.heap.size ≤ gi by omega) (.slice A1 x.f0.length c1))
        have hci : (w3.setCell ⟨gi, 0, none⟩ (.slice A1 x.f0.length c1)).cell? ⟨gi, 0, none⟩ = some (.slice A1 x.f0.length c1) := (blk_cell (blk_set hbox3 0 (.slice A1 x.f0.length c1)) 0).trans rfl
        have hcz := (blk_cell hbox3 0).trans rfl
        have hfz := blk_frozen hbox3 0
        have hczg : (w3.setCell ⟨gi, 0, none⟩ (.slice A1 x.f0.length c1)).cell? ⟨g, 0, none⟩ = some (.int .i64 lf) := (blk_cell Hb3.out 0).trans rfl
        clear hbox3 hb3 hsz hkz hgi hgl2 HB HK Hb Hbox)
      · have hneg : lf < 0 := by assumption
        go_ret
        have e1 : meas ⟨l⟩ left = (0, lf) := by rw [← Hm.out, hdrop.out, measL, if_pos hneg]
        rw [e1]
        exact ⟨rfl, HB3.out, HK3.out, Hb3.out⟩
      · have hneg : 0 ≤ lf := by first | assumption | omega
        have hbd := Aside0.mk (meas_bd x lf hneg)
        have hxe : x = ⟨x.f0⟩ := by cases x; rfl
        have Hxe := Aside0.mk hxe
        clear hxe
        (with_reducible refine (IH.out x.f0 A1 c1 g lf w0 _ ?_ Hi1.out Hl1.out HB3.out HG.out Hb3.out ?_ ?_).mono ?_)
        · have := hmem.out; have := HN.out; omega
        · omega
        · omega
        rintro e w4 ⟨rfl, hB4, hK4, hb4⟩
        rw [← Hxe.out] at hb4 ⊢
        have HB := Aside0.mk hB4
        have HK := Aside0.mk (KeepBut.trans HK3.out hK4 (.inl rfl))
        have Hb := Aside0.mk hb4
        have Hbox := Aside0.mk (KeepBut.blk hK4 Hbox3.out (Ne.symm hne) (by simp))
        clear hB4 hK4 hb4 HB3 HK3 Hb3 Hbox3
        have hmx : (if d < (meas x lf).1 then (meas x lf).1 else d) = mx d (meas x lf).1 := rfl
        go_wp2_with fail
        clear hmx
        have hk := Hi.out
        obtain ⟨k1, rfl⟩ : ∃ k1, gk = k1 + 1 := ⟨gk - 1, by omega⟩
        go_roundg k1
        case measure => omega
        case rel =>
          have hmx := mx_ge d (meas x lf).1
          have hb1 := hbd.out
          refine ⟨i + 1, mx d (meas x lf).1, (meas x lf).2, rfl, by go_num, ⟨by omega⟩, ⟨?_⟩, ⟨by clear hczg; omega⟩, Hb, Hbox, HB, HK⟩
          rw [← Hm.out, hdrop.out, measL, if_neg (by omega)]
    · have hie : i = l.length := by omega
      go_wp2_with fail
      go_ret
      have e1 : meas ⟨l⟩ left = (d + 1, lf) := by rw [← Hm.out, hie, List.drop_length, measL]
      rw [e1]
      exact ⟨rfl, HB.out, HK.out, Hb.out⟩
def sorts_Size.f (l0_0 : List S41) : Option (Int × Int) := some (if (meas ⟨l0_0⟩ 60).2 < 0 then (61, 0) else (60 - (meas ⟨l0_0⟩ 60).2, (meas ⟨l0_0⟩ 60).1))
theorem sorts_Size.calls (A0_0 : Option Addr) (c0_0 : Nat) (l0_0 : List S41) (r1 r2 : Int) (w : World) (hr0_0 : Kd.C k41 w A0_0 l0_0.length l0_0) (hc0_0 : l0_0.length ≤ c0_0) (h : sorts_Size.f l0_0 = some (r1, r2)) :
    Calls Try.prog 60 #[.agg #[.slice A0_0 l0_0.length c0_0]] w fun e w' => e = .returned (.tuple #[.int .i64 r1, .int .i64 r2]) ∧ Below w.heap.size w w' := by
  have hu41 := Try.underlying41
  have HR := Aside0.mk hr0_0
  have HC := Aside0.mk hc0_0
  have hbd := Aside0.mk (meas_bd ⟨l0_0⟩ 60 (by omega))
  have Hh := Aside0.mk h
  clear h hr0_0 hc0_0
  go_enter Try.func60, Try.ntmps60
  go_wp2_with (first
   | ((with_reducible refine gate_dst (N := 1) rfl ?_)
      refine box_event ?hg (N := 1) ?hd (cs := #[.slice A0_0 l0_0.length c0_0]) (t := 41) ?hr ?_
      (case hd => rfl)
      (case hg => rfl)
      (case hr => first | (go_simp; done) | (go_simp; rfl))
      intro gb hgb w2 hbox hb2
      have HB2 := Aside0.mk hb2
      have Hgb := Aside0.mk hgb
      have Hbox := Aside0.mk hbox
      have hne0 := blk_lt hbox
      clear hbox hb2 hgb)
   | ((with_reducible refine gate_dst (N := 4) rfl ?_)
      refine box_event ?hg (N := 4) ?hd (cs := #[.int .i64 0]) (t := 3) ?hr ?_
      (case hd => rfl)
      (case hg => rfl)
      (case hr => first | (go_simp; done) | (go_simp; rfl))
      intro g hg w3 hb hb3
      have hsz := HB2.out.size
      have HG := Aside0.mk (show w.heap.size ≤ g by omega)
      have HB3 := Aside0.mk (below_set (j := 0) (v := .int .i64 60) (below_step HB2.out hb3) HG.out)
      have hne : gb ≠ g := by omega
      have Hbox3 := Aside0.mk (blk_far (p := ⟨g, 0, none⟩) (blk_below Hbox.out hb3) hne (.int .i64 60))
      have Hb3 := Aside0.mk (blk_put (cs' := #[.int .i64 60]) hb 0 (.int .i64 60) rfl)
      have hcz := (blk_cell hb 0).trans rfl
      have hfz := blk_frozen hb 0
      have hcb : (w3.setCell ⟨g, 0, none⟩ (.int .i64 60)).cell? ⟨gb, 0, none⟩ = some (.slice A0_0 l0_0.length c0_0) := (blk_cell Hbox3.out 0).trans rfl
      clear hb hb3 hg))
  (with_reducible refine (measure_calls (SizeOf.sizeOf l0_0 + 1) l0_0 A0_0 c0_0 g 60 w _ (by omega) HR.out HC.out HB3.out HG.out Hb3.out (by omega) (by omega)).mono ?_)
  rintro e w4 ⟨rfl, hB4, hK4, hb4⟩
  have HB := Aside0.mk hB4
  have hcg : w4.cell? ⟨g, 0, none⟩ = some (.int .i64 (meas ⟨l0_0⟩ 60).2) := (blk_cell hb4 0).trans rfl
  clear hB4 hK4 hb4 hcb
  have hb1 := hbd.out.1
  have hb2 := hbd.out.2.1
  by_cases hneg : (meas ⟨l0_0⟩ 60).2 < 0
  · have e1 := Hh.out
    simp only [sorts_Size.f, if_pos hneg, Option.some.injEq, Prod.mk.injEq] at e1
    obtain ⟨rfl, rfl⟩ := e1
    go_wp2_with fail
    go_ret2
    exact ⟨rfl, HB.out⟩
  · have e1 := Hh.out
    simp only [sorts_Size.f, if_neg hneg, Option.some.injEq, Prod.mk.injEq] at e1
    obtain ⟨rfl, rfl⟩ := e1
    go_wp2_with fail
    go_ret2
    exact ⟨rfl, HB.out⟩
end Go.Proofs.Ytfhgoebgnilfaaa.I
namespace Go.Proofs.Ytfhgoebgnilfaaa.I
open Go.RowKit Go.Proofs.YtfhgoebgnilfaaaW.PrintWords Go.Proofs.YtfhgoebgnilfaaaW.PrintLast Go.Proofs.YtfhgoebgnilfaaaW.PrintMore
attribute [local go_sem] max2_int min2_int max_two min_two max_three min_three max_four min_four
set_option linter.unusedVariables false
set_option maxRecDepth 100000
set_option linter.unusedSimpArgs false
mutual
/-- What measure answers, and what it leaves. -/
def tmeas : S44 → Int → Int × Int
  | ⟨_, _, l⟩, left => tmeasL l (left - 1) 0
def tmeasL : List S44 → Int → Int → Int × Int
  | [], left, d => (d + 1, left)
  | x :: xs, left, d => if left < 0 then (0, left) else tmeasL xs (tmeas x left).2 (mx d (tmeas x left).1)
end
mutual
theorem tmeas_bd : ∀ (x : S44) (left : Int), 0 ≤ left → -1 ≤ (tmeas x left).2 ∧ (tmeas x left).2 ≤ left - 1 ∧ 0 ≤ (tmeas x left).1 ∧ (tmeas x left).1 + (tmeas x left).2 ≤ left
  | ⟨_, _, l⟩, left, h => by
    have := tmeasL_bd l (left - 1) 0 (by omega) (by omega)
    unfold tmeas
    omega
theorem tmeasL_bd : ∀ (l : List S44) (left d : Int), -1 ≤ left → 0 ≤ d → -1 ≤ (tmeasL l left d).2 ∧ (tmeasL l left d).2 ≤ left ∧ 0 ≤ (tmeasL l left d).1 ∧ (tmeasL l left d).1 + (tmeasL l left d).2 ≤ d + left + 1
  | [], left, d, h, hd => by unfold tmeasL; simp only; omega
  | x :: xs, left, d, h, hd => by
    unfold tmeasL
    split
    · simp only; omega
    · have h1 := tmeas_bd x left (by omega)
      have h2 := mx_ge d (tmeas x left).1
      have h3 := tmeasL_bd xs (tmeas x left).2 (mx d (tmeas x left).1) (by omega) (by omega)
      omega
end
theorem rd_T44_drop (l : List S44) (i : Nat) (h : i < l.length) : l.drop i = rd_T44 l (i : Int) :: l.drop (i + 1) := by
  rw [List.drop_eq_getElem_cons h]
  simp [rd_T44, List.getD_eq_getElem?_getD, List.getElem?_eq_getElem h]
theorem rd_T44_mem (l : List S44) (i : Nat) (h : i < l.length) : SizeOf.sizeOf (rd_T44 l (i : Int)).f2 < SizeOf.sizeOf l := by
  have hm : rd_T44 l (i : Int) ∈ l := by
    simp [rd_T44, List.getD_eq_getElem?_getD, List.getElem?_eq_getElem h]
  have h1 := List.sizeOf_lt_of_mem hm
  have h2 : SizeOf.sizeOf (rd_T44 l (i : Int)).f2 < SizeOf.sizeOf (rd_T44 l (i : Int)) := by
    cases rd_T44 l (i : Int); simp; omega
  omega
/-- All blocks but g, and the new ones, are as they were. -/
theorem tmeasure_calls (N : Nat) : ∀ (p q : Int) (l : List S44) (A : Option Addr) (c g : Nat) (left : Int) (w0 w : World) (hN : SizeOf.sizeOf l < N) (hr : Kd.C k44 w0 A l.length l) (hc : l.length ≤ c) (hB : Below w0.heap.size w0 w) (hg : w0.heap.size ≤ g)
    (hb : w.heap[g]? = some (.cells #[.int .i64 left] 3 (0, 0))) (hl : 0 ≤ left) (hl2 : left ≤ 100000000),
    Calls Try.prog 57 #[.agg #[.int .i64 p, .int .i64 q, .slice A l.length c], .pointer (some ⟨g, 0, none⟩)] w fun e w' => e = .returned (.int .i64 (tmeas ⟨p, q, l⟩ left).1) ∧ Below w0.heap.size w0 w' ∧ KeepBut w w' g none ∧ w'.heap[g]? = some (.cells #[.int .i64 (tmeas ⟨p, q, l⟩ left).2] 3 (0, 0)) := by
  induction N with
  | zero => intro p q l A c g left w0 w hN; omega
  | succ N ih =>
  intro p q l A c g left w0 w hN hr hc hB hg hb hl hl2
  have hu44 := Try.underlying44
  have hlen : l.length ≤ 9223372036854775807 := hr.2.1
  have HR := Aside0.mk hr
  have HC := Aside0.mk hc
  have HB := Aside0.mk hB
  have HG := Aside0.mk hg
  have HN := Aside0.mk hN
  have Hb := Aside0.mk hb
  have hgl := blk_lt hb
  have IH := Aside0.mk ih
  clear hr hc hB hN hb hg ih
  go_enter Try.func57, Try.ntmps57
  go_wp2_with (
    (with_reducible refine gate_dst (N := 2) rfl ?_)
    refine box_event ?hg (N := 2) ?hd (cs := #[.int .i64 p, .int .i64 q, .slice A l.length c]) (t := 44) ?hr ?_
    (case hd => rfl)
    (case hg => rfl)
    (case hr => first | (go_simp; done) | (go_simp; rfl))
    intro gb hgb w2 hbox hb2
    have HB2 := Aside0.mk (below_step HB.out hb2)
    have Hb2 := Aside0.mk (blk_below Hb.out hb2)
    have HK2 := Aside0.mk (KeepBut.of_below hb2 g none)
    have hne : g ≠ gb := by omega
    have hGW : w.heap.size ≤ gb := by omega
    have hczg : w2.cell? ⟨g, 0, none⟩ = some (.int .i64 left) := (blk_cell Hb2.out 0).trans rfl
    have hfzg := blk_frozen Hb2.out 0
    have Hbox := Aside0.mk hbox
    have hcz3 : (w2.setCell ⟨g, 0, none⟩ (.int .i64 (left - 1))).cell? ⟨gb, 2, none⟩ = some (.slice A l.length c) := (blk_cell (blk_far hbox (p := ⟨g, 0, none⟩) (Ne.symm hne) _) 2).trans rfl
    clear hbox hb2 hgb HB Hb)
  clear hcz3 hczg hfzg
  go_loopg [5, 16] l.length (fun kq v5 v16 wr => ∃ (i : Nat) (d lf : Int), v5 = .int .i64 d ∧ v16 = .int .i64 (i : Int) ∧ Aside0 (kq + i = l.length) ∧ Aside0 (tmeasL (l.drop i) lf d = tmeas ⟨p, q, l⟩ left) ∧ Aside0 (0 ≤ d ∧ d + lf ≤ left - 1 ∧ -1 ≤ lf ∧ lf ≤ left - 1) ∧ Aside0 (wr.heap[g]? = some (.cells #[.int .i64 lf] 3 (0, 0))) ∧ Aside0 (wr.heap[gb]? = some (.cells #[.int .i64 p, .int .i64 q, .slice A l.length c] 44 (0, 0))) ∧ Aside0 (Below w0.heap.size w0 wr) ∧ Aside0 (KeepBut w wr g none))
  case atStart => exact ⟨0, 0, left - 1, rfl, rfl, ⟨by omega⟩, ⟨by rw [List.drop_zero, tmeas]⟩, ⟨by omega⟩, ⟨by have := blk_set Hb2.out 0 (.int .i64 (left - 1)); simpa using this⟩, ⟨blk_far Hbox.out (p := ⟨g, 0, none⟩) (Ne.symm hne) _⟩, ⟨below_set HB2.out HG.out⟩, ⟨KeepBut.set_ HK2.out 0 _⟩⟩
  case round =>
    clear Hb2 Hbox HB2 HK2
    obtain ⟨i, d, lf, rfl, rfl, Hi, Hm, Hd, Hb, Hbox, HB, HK⟩ := hrel
    have hi : i ≤ l.length := by have := Hi.out; omega
    obtain ⟨hd0, hd1, hd2, hd3⟩ := Hd.out
    by_cases hlt : i < l.length
    · have hdrop := Aside0.mk (rd_T44_drop l i hlt)
      have hmem := Aside0.mk (rd_T44_mem l i hlt)
      obtain ⟨ad, A1, c1, he, hx1, hx2, hx3, hl1, hi1⟩ := at_T44 HR.out (i : Int) (by omega) (by omega)
      cases he
      replace hx1 := (HB.out.cell (World.block_lt_of_cell? w0 _ hx1)).trans hx1
      rw [Int.toNat_natCast] at hx1
      replace hx2 := (HB.out.cell (World.block_lt_of_cell? w0 _ hx2)).trans hx2
      rw [Int.toNat_natCast] at hx2
      replace hx3 := (HB.out.cell (World.block_lt_of_cell? w0 _ hx3)).trans hx3
      rw [Int.toNat_natCast] at hx3
      have Hl1 := Aside0.mk hl1
      have Hi1 := Aside0.mk hi1
      clear hl1 hi1
      have hczg : wr.cell? ⟨g, 0, none⟩ = some (.int .i64 lf) := (blk_cell Hb.out 0).trans rfl
      have hfzg := blk_frozen Hb.out 0
      have p1 : (0 ≤ (i : Int)) = True := eq_true (by omega)
      have p2 : ((i : Int) < (l.length : Int)) = True := eq_true (by omega)
      have p3 : (i < l.length) = True := eq_true (by omega)
      generalize hx : rd_T44 l (i : Int) = x at *
      have Hx := Aside0.mk hx
      clear hx
      go_wp2_with (
        (with_reducible refine gate_dst (N := 7) rfl ?_)
        refine box_event ?hg (N := 7) ?hd (cs := #[.int .i64 0, .int .i64 0, .slice none 0 0]) (t := 44) ?hr ?_
        (case hd => rfl)
        (case hg => rfl)
        (case hr => first | (go_simp; done) | (go_simp; rfl))
        intro gi hgi w3 hbox3 hb3
        have hsz := below_size HB.out
        have hkz := keep_size HK.out
        have hgiw : w0.heap.size ≤ gi := by omega
        have hgiw2 : w.heap.size ≤ gi := by omega
        have HB3 := Aside0.mk (below_set (g := gi) (j := 2) (v := .slice A1 x.f2.length c1) (below_set (g := gi) (j := 1) (v := .int .i64 x.f1) (below_set (g := gi) (j := 0) (v := .int .i64 x.f0) (below_step HB.out hb3) hgiw) hgiw) hgiw)
        have hgl2 := blk_lt Hb.out
        have hne3 : g ≠ gi := by omega
        have hne4 : gb ≠ gi := by have := blk_lt Hbox.out; omega
        have Hb3 := Aside0.mk (blk_far (p := ⟨gi, 2, none⟩) (blk_far (p := ⟨gi, 1, none⟩) (blk_far (p := ⟨gi, 0, none⟩) (blk_below Hb.out hb3) hne3 (.int .i64 x.f0)) hne3 (.int .i64 x.f1)) hne3 (.slice A1 x.f2.length c1))
        have Hbox3 := Aside0.mk (blk_far (p := ⟨gi, 2, none⟩) (blk_far (p := ⟨gi, 1, none⟩) (blk_far (p := ⟨gi, 0, none⟩) (blk_below Hbox.out hb3) hne4 (.int .i64 x.f0)) hne4 (.int .i64 x.f1)) hne4 (.slice A1 x.f2.length c1))
        have HK3 := Aside0.mk (keep_far (p := ⟨gi, 2, none⟩) (keep_far (p := ⟨gi, 1, none⟩) (keep_far (p := ⟨gi, 0, none⟩) (KeepBut.trans HK.out (KeepBut.of_below hb3 g none) (.inl rfl)) hgiw2 (.int .i64 x.f0)) hgiw2 (.int .i64 x.f1)) hgiw2 (.slice A1 x.f2.length c1))
        have Hgi := Aside0.mk (blk_put (cs' := #[.int .i64 x.f0, .int .i64 x.f1, .slice A1 x.f2.length c1]) (blk_put (cs' := #[.int .i64 x.f0, .int .i64 x.f1, .slice none 0 0]) (blk_put (cs' := #[.int .i64 x.f0, .int .i64 0, .slice none 0 0]) hbox3 0 (.int .i64 x.f0) rfl) 1 (.int .i64 x.f1) rfl) 2 (.slice A1 x.f2.length c1) rfl)
        have hci0 : (((w3.setCell ⟨gi, 0, none⟩ (.int .i64 x.f0)).setCell ⟨gi, 1, none⟩ (.int .i64 x.f1)).setCell ⟨gi, 2, none⟩ (.slice A1 x.f2.length c1)).cell? ⟨gi, 0, none⟩ = some (.int .i64 x.f0) := (blk_cell Hgi.out 0).trans rfl
        have hci1 : (((w3.setCell ⟨gi, 0, none⟩ (.int .i64 x.f0)).setCell ⟨gi, 1, none⟩ (.int .i64 x.f1)).setCell ⟨gi, 2, none⟩ (.slice A1 x.f2.length c1)).cell? ⟨gi, 1, none⟩ = some (.int .i64 x.f1) := (blk_cell Hgi.out 1).trans rfl
        have hci2 : (((w3.setCell ⟨gi, 0, none⟩ (.int .i64 x.f0)).setCell ⟨gi, 1, none⟩ (.int .i64 x.f1)).setCell ⟨gi, 2, none⟩ (.slice A1 x.f2.length c1)).cell? ⟨gi, 2, none⟩ = some (.slice A1 x.f2.length c1) := (blk_cell Hgi.out 2).trans rfl
        have hcz0 := (blk_cell hbox3 0).trans rfl
        have hcz1 := (blk_cell hbox3 1).trans rfl
        have hcz2 := (blk_cell hbox3 2).trans rfl
        have hfz0 := blk_frozen hbox3 0
        have hfz1 := blk_frozen hbox3 1
        have hfz2 := blk_frozen hbox3 2
        have hczg : (((w3.setCell ⟨gi, 0, none⟩ (.int .i64 x.f0)).setCell ⟨gi, 1, none⟩ (.int .i64 x.f1)).setCell ⟨gi, 2, none⟩ (.slice A1 x.f2.length c1)).cell? ⟨g, 0, none⟩ = some (.int .i64 lf) := (blk_cell Hb3.out 0).trans rfl
        clear hbox3 hb3 hsz hkz hgi hgl2 HB HK Hb Hbox)
      · have hneg : lf < 0 := by assumption
        go_ret
        have e1 : tmeas ⟨p, q, l⟩ left = (0, lf) := by rw [← Hm.out, hdrop.out, tmeasL, if_pos hneg]
        rw [e1]
        exact ⟨rfl, HB3.out, HK3.out, Hb3.out⟩
      · have hneg : 0 ≤ lf := by first | assumption | omega
        have hbd := Aside0.mk (tmeas_bd x lf hneg)
        have hxe : x = ⟨x.f0, x.f1, x.f2⟩ := by cases x; rfl
        have Hxe := Aside0.mk hxe
        clear hxe
        (with_reducible refine (IH.out x.f0 x.f1 x.f2 A1 c1 g lf w0 _ ?_ Hi1.out Hl1.out HB3.out HG.out Hb3.out ?_ ?_).mono ?_)
        · have := hmem.out; have := HN.out; omega
        · omega
        · omega
        rintro e w4 ⟨rfl, hB4, hK4, hb4⟩
        rw [← Hxe.out] at hb4 ⊢
        have HB := Aside0.mk hB4
        have HK := Aside0.mk (KeepBut.trans HK3.out hK4 (.inl rfl))
        have Hb := Aside0.mk hb4
        have Hbox := Aside0.mk (KeepBut.blk hK4 Hbox3.out (Ne.symm hne) (by simp))
        clear hB4 hK4 hb4 HB3 HK3 Hb3 Hbox3
        have hmx : (if d < (tmeas x lf).1 then (tmeas x lf).1 else d) = mx d (tmeas x lf).1 := rfl
        go_wp2_with fail
        clear hmx
        have hk := Hi.out
        obtain ⟨k1, rfl⟩ : ∃ k1, gk = k1 + 1 := ⟨gk - 1, by omega⟩
        go_roundg k1
        case measure => omega
        case rel =>
          have hmx := mx_ge d (tmeas x lf).1
          have hb1 := hbd.out
          refine ⟨i + 1, mx d (tmeas x lf).1, (tmeas x lf).2, rfl, by go_num, ⟨by omega⟩, ⟨?_⟩, ⟨by clear hczg; omega⟩, Hb, Hbox, HB, HK⟩
          rw [← Hm.out, hdrop.out, tmeasL, if_neg (by omega)]
    · have hie : i = l.length := by omega
      go_wp2_with fail
      go_ret
      have e1 : tmeas ⟨p, q, l⟩ left = (d + 1, lf) := by rw [← Hm.out, hie, List.drop_length, tmeasL]
      rw [e1]
      exact ⟨rfl, HB.out, HK.out, Hb.out⟩
def term_Size.f (a0_0 a0_1 : Int) (l0_2 : List S44) : Option (Int × Int) := some (if (tmeas ⟨a0_0, a0_1, l0_2⟩ 100000).2 < 0 then (100001, 0) else (100000 - (tmeas ⟨a0_0, a0_1, l0_2⟩ 100000).2, (tmeas ⟨a0_0, a0_1, l0_2⟩ 100000).1))
theorem term_Size.calls (a0_0 a0_1 : Int) (A0_2 : Option Addr) (c0_2 : Nat) (l0_2 : List S44) (r1 r2 : Int) (w : World) (hr0_2 : Kd.C k44 w A0_2 l0_2.length l0_2) (hc0_2 : l0_2.length ≤ c0_2) (h : term_Size.f a0_0 a0_1 l0_2 = some (r1, r2)) :
    Calls Try.prog 29 #[.agg #[.int .i64 a0_0, .int .i64 a0_1, .slice A0_2 l0_2.length c0_2]] w fun e w' => e = .returned (.tuple #[.int .i64 r1, .int .i64 r2]) ∧ Below w.heap.size w w' := by
  have hu44 := Try.underlying44
  have HR := Aside0.mk hr0_2
  have HC := Aside0.mk hc0_2
  have hbd := Aside0.mk (tmeas_bd ⟨a0_0, a0_1, l0_2⟩ 100000 (by omega))
  have Hh := Aside0.mk h
  clear h hr0_2 hc0_2
  go_enter Try.func29, Try.ntmps29
  go_wp2_with (first
   | ((with_reducible refine gate_dst (N := 1) rfl ?_)
      refine box_event ?hg (N := 1) ?hd (cs := #[.int .i64 a0_0, .int .i64 a0_1, .slice A0_2 l0_2.length c0_2]) (t := 44) ?hr ?_
      (case hd => rfl)
      (case hg => rfl)
      (case hr => first | (go_simp; done) | (go_simp; rfl))
      intro gb hgb w2 hbox hb2
      have HB2 := Aside0.mk hb2
      have Hgb := Aside0.mk hgb
      have Hbox := Aside0.mk hbox
      have hne0 := blk_lt hbox
      clear hbox hb2 hgb)
   | ((with_reducible refine gate_dst (N := 4) rfl ?_)
      refine box_event ?hg (N := 4) ?hd (cs := #[.int .i64 0]) (t := 3) ?hr ?_
      (case hd => rfl)
      (case hg => rfl)
      (case hr => first | (go_simp; done) | (go_simp; rfl))
      intro g hg w3 hb hb3
      have hsz := HB2.out.size
      have HG := Aside0.mk (show w.heap.size ≤ g by omega)
      have HB3 := Aside0.mk (below_set (j := 0) (v := .int .i64 100000) (below_step HB2.out hb3) HG.out)
      have hne : gb ≠ g := by omega
      have Hbox3 := Aside0.mk (blk_far (p := ⟨g, 0, none⟩) (blk_below Hbox.out hb3) hne (.int .i64 100000))
      have Hb3 := Aside0.mk (blk_put (cs' := #[.int .i64 100000]) hb 0 (.int .i64 100000) rfl)
      have hcz := (blk_cell hb 0).trans rfl
      have hfz := blk_frozen hb 0
      have hcb0 : (w3.setCell ⟨g, 0, none⟩ (.int .i64 100000)).cell? ⟨gb, 0, none⟩ = some (.int .i64 a0_0) := (blk_cell Hbox3.out 0).trans rfl
      have hcb1 : (w3.setCell ⟨g, 0, none⟩ (.int .i64 100000)).cell? ⟨gb, 1, none⟩ = some (.int .i64 a0_1) := (blk_cell Hbox3.out 1).trans rfl
      have hcb2 : (w3.setCell ⟨g, 0, none⟩ (.int .i64 100000)).cell? ⟨gb, 2, none⟩ = some (.slice A0_2 l0_2.length c0_2) := (blk_cell Hbox3.out 2).trans rfl
      clear hb hb3 hg))
  (with_reducible refine (tmeasure_calls (SizeOf.sizeOf l0_2 + 1) a0_0 a0_1 l0_2 A0_2 c0_2 g 100000 w _ (by omega) HR.out HC.out HB3.out HG.out Hb3.out (by omega) (by omega)).mono ?_)
  rintro e w4 ⟨rfl, hB4, hK4, hb4⟩
  have HB := Aside0.mk hB4
  have hcg : w4.cell? ⟨g, 0, none⟩ = some (.int .i64 (tmeas ⟨a0_0, a0_1, l0_2⟩ 100000).2) := (blk_cell hb4 0).trans rfl
  clear hB4 hK4 hb4 hcb0 hcb1 hcb2
  have hb1 := hbd.out.1
  have hb2 := hbd.out.2.1
  by_cases hneg : (tmeas ⟨a0_0, a0_1, l0_2⟩ 100000).2 < 0
  · have e1 := Hh.out
    simp only [term_Size.f, if_pos hneg, Option.some.injEq, Prod.mk.injEq] at e1
    obtain ⟨rfl, rfl⟩ := e1
    go_wp2_with fail
    go_ret2
    exact ⟨rfl, HB.out⟩
  · have e1 := Hh.out
    simp only [term_Size.f, if_neg hneg, Option.some.injEq, Prod.mk.injEq] at e1
    obtain ⟨rfl, rfl⟩ := e1
    go_wp2_with fail
    go_ret2
    exact ⟨rfl, HB.out⟩
end Go.Proofs.Ytfhgoebgnilfaaa.I
namespace Go.Proofs.Ytfhgoebgnilfaaa.I
open Go.RowKit Go.Proofs.YtfhgoebgnilfaaaW.PrintWords Go.Proofs.YtfhgoebgnilfaaaW.PrintLast Go.Proofs.YtfhgoebgnilfaaaW.PrintMore
attribute [local go_sem] max2_int min2_int max_two min_two max_three min_three max_four min_four
set_option linter.unusedVariables false
set_option maxRecDepth 100000
set_option linter.unusedSimpArgs false
/-- What a finder knows: the places of o, of the functions and of the parameters; the symbols. -/
structure FE where
  o : Nat
  syms : List S59
  funs : List Nat
  params : List Nat
/-- The kind of a head. -/
def fhead (E : FE) (s : List KN) (kd n : Int) : Option (Nat × List KN) :=
  if n < 0 then none
  else if kd = 0 then (E.params[n.toNat]?).map (fun k => (k, s))
  else if kd = 1 then (E.funs[n.toNat]?).map (fun k => (k, s))
  else (E.syms[n.toNat]?).map (fun x => farrow s E.o (List.replicate x.f1.toNat E.o))
mutual
/-- The kind of a term; none inside: it has none. -/
def fterm (E : FE) : Nat → List KN → Int → Int → List S44 → Option (Option Nat × List KN)
  | 0, _, _, _, _ => none
  | f + 1, s, kd, n, l => match fhead E s kd n with
    | none => none
    | some (k, s1) => ftermL E f s1 k l
def ftermL (E : FE) : Nat → List KN → Nat → List S44 → Option (Option Nat × List KN)
  | 0, _, _, _ => none
  | f + 1, s, k, [] => some (some k, s)
  | f + 1, s, k, x :: xs => match fterm E f s x.f0 x.f1 x.f2 with
    | none => none
    | some (none, s1) => some (none, s1)
    | some (some xk, s1) => match fjoin f (s1 ++ [⟨none, false, none, none⟩] ++ [⟨none, false, some xk, some s1.length⟩]) k (s1.length + 1) with
      | none => none
      | some (false, s2) => some (none, s2)
      | some (true, s2) => ftermL E f s2 s1.length xs
end
/-- A finder lies in memory, away from the kinds. -/
structure Find (E : FE) (s : List KN) (ad : List Nat) (gf : Nat) (As : Option Addr) (cs : Nat) (w : World) : Prop where
  ex : ∃ Af cf Ap cp, w.heap[gf]? = some (.cells #[pk ad E.o, .slice As E.syms.length cs, .slice Af E.funs.length cf, .slice Ap E.params.length cp] 77 (0, 0)) ∧ Ptrs ad w Af E.funs ∧ Ptrs ad w Ap E.params ∧
    (∀ a, Af = some a → a.block ∉ ad ∧ a.block < w.heap.size) ∧ (∀ a, Ap = some a → a.block ∉ ad ∧ a.block < w.heap.size)
  away : gf ∉ ad
  o : E.o < s.length
theorem pk_app {ad e : List Nat} {i : Nat} (h : i < ad.length) : pk (ad ++ e) i = pk ad i := by unfold pk; rw [bk_app h]
theorem Ptrs.app {ad e : List Nat} {w : World} {A : Option Addr} {ps : List Nat} (h : Ptrs ad w A ps) : Ptrs (ad ++ e) w A ps := by
  refine ⟨h.1, fun p hp => by rw [List.length_append]; have := h.2.1 p hp; omega, fun h0 => ?_⟩
  obtain ⟨adr, ha, hc⟩ := h.2.2 h0
  exact ⟨adr, ha, fun j p hp => by rw [pk_app (h.2.1 p (List.mem_of_getElem? hp))]; exact hc j p hp⟩
theorem Ptrs.move {ad : List Nat} {w w1 : World} {A : Option Addr} {ps : List Nat} (h : Ptrs ad w A ps) (hm : ∀ a, A = some a → w1.heap[a.block]? = w.heap[a.block]?) : Ptrs ad w1 A ps := by
  refine ⟨h.1, h.2.1, fun h0 => ?_⟩
  obtain ⟨adr, ha, hc⟩ := h.2.2 h0
  refine ⟨adr, ha, fun j p hp => ?_⟩
  have := hc j p hp
  exact (World.cell?_of_block (by rw [show (adr.add j).block = adr.block from by unfold Addr.add; split <;> rfl]; exact hm adr ha)).trans this
theorem Find.move {E : FE} {s s1 : List KN} {ad e : List Nat} {gf : Nat} {As : Option Addr} {cs : Nat} {w w1 : World} (h : Find E s ad gf As cs w) (ht : Turned (fun k => k ∈ ad) w w1) (he : ∀ b, b ∈ e → w.heap.size ≤ b) (hs : s.length ≤ s1.length) (hl : ad.length = s.length) : Find E s1 (ad ++ e) gf As cs w1 := by
  obtain ⟨Af, cf, Ap, cp, h1, h2, h3, h4, h5⟩ := h.ex
  have hgf := blk_lt h1
  have no : ∀ b, b ∉ ad → b < w.heap.size → b ∉ ad ++ e := fun b hb hlt hm => by
    rcases List.mem_append.1 hm with hm | hm
    · exact hb hm
    · have := he b hm; omega
  refine ⟨⟨Af, cf, Ap, cp, ?_, Ptrs.app (Ptrs.move h2 (fun a ha => ht.block _ (h4 a ha).2 (h4 a ha).1)), Ptrs.app (Ptrs.move h3 (fun a ha => ht.block _ (h5 a ha).2 (h5 a ha).1)), fun a ha => ⟨no _ (h4 a ha).1 (h4 a ha).2, Nat.lt_of_lt_of_le (h4 a ha).2 ht.size⟩, fun a ha => ⟨no _ (h5 a ha).1 (h5 a ha).2, Nat.lt_of_lt_of_le (h5 a ha).2 ht.size⟩⟩, no _ h.away hgf, Nat.lt_of_lt_of_le h.o hs⟩
  rw [pk_app (by rw [hl]; exact h.o)]
  exact (ht.block gf hgf h.away).trans h1
set_option maxHeartbeats 8000000 in
/-- The head alone: a variable. -/
theorem term_calls (B : Nat) (E : FE) (gf : Nat) (hrk : ∀ x, x ∈ E.syms → x.f1 ≤ 1000000) (f : Nat) : ∀ (s : List KN) (ad : List Nat) (kd n : Int) (l : List S44) (A : Option Addr) (c : Nat) (r : Option Nat) (s' : List KN) (w0 w : World)
    (hH : Held B s ad w) (As : Option Addr) (cs : Nat) (hF : Find E s ad gf As cs w) (hS : Kd.C k59 w0 As E.syms.length E.syms) (hB : B ≤ w.heap.size) (hw0 : w0.heap.size ≤ B) (hr : Kd.C k44 w0 A l.length l) (hc : l.length ≤ c) (hb : Below w0.heap.size w0 w) (h : fterm E f s kd n l = some (r, s')),
    Calls Try.prog 38 #[.pointer (some ⟨gf, 0, none⟩), .agg #[.int .i64 kd, .int .i64 n, .slice A l.length c]] w fun e w' => ∃ e1 v, e = .returned (.tuple #[v, .bool r.isSome]) ∧ (∀ k, r = some k → v = pk (ad ++ e1) k ∧ k < s'.length) ∧ (r = none → v = .pointer none) ∧ Held B s' (ad ++ e1) w' ∧ Turned (fun k => k ∈ ad) w w' ∧ (∀ b, b ∈ e1 → w.heap.size ≤ b) := by
  induction f using Nat.strongRecOn with
  | _ f ih =>
  intro s ad kd n l A c r s' w0 w hH As cs hF hS hB hw0 hr hc hb h
  have hu44 := Try.underlying44
  have hu77 := Try.underlying77
  have hu74 := Try.underlying74
  have hu59 := Try.underlying59
  cases f with
  | zero => exact absurd h (by simp [fterm])
  | succ f =>
  unfold fterm at h
  cases hh : fhead E s kd n with
  | none => rw [hh] at h; cases h
  | some q =>
  obtain ⟨k, s1⟩ := q
  rw [hh] at h
  simp only at h
  unfold fhead at hh
  by_cases hn0 : n < 0
  · rw [if_pos hn0] at hh; cases hh
  rw [if_neg hn0] at hh
  obtain ⟨Af, cf, Ap, cp, hfin, hPf, hPp, haF, haP⟩ := hF.ex
  have HH := Aside0.mk hH
  have HFi := Aside0.mk hF
  have HR := Aside0.mk hr
  have HC := Aside0.mk hc
  have HB := Aside0.mk hb
  have IH := Aside0.mk ih
  have HT := Aside0.mk h
  have Hfin := Aside0.mk hfin
  have HPp := Aside0.mk hPp
  have HPf := Aside0.mk hPf
  have HCs := Aside0.mk hS
  clear hr hc hb ih h hH hF hPf hS haF haP hPp
  by_cases hk0 : kd = 0
  · rw [if_pos hk0] at hh
    obtain ⟨p, hp, hpe⟩ := Option.map_eq_some_iff.1 hh
    injection hpe with e1 e2
    subst e1 e2
    have hkb : (kd == 0) = true := beq_iff_eq.2 hk0
    have hpl : n.toNat < E.params.length := (List.getElem?_eq_some_iff.1 hp).1
    obtain ⟨adr, hadr, hcel⟩ := HPp.out.2.2 (by omega)
    subst hadr
    have hx := hcel n.toNat p hp
    have p1 : (0 ≤ n) = True := eq_true (by omega)
    have p2 : (n < (E.params.length : Int)) = True := eq_true (by omega)
    have Hp := Aside0.mk hp
    clear hh hcel hp hfin
    go_enter Try.func38, Try.ntmps38
    go_wp2_with (
      (with_reducible refine gate_dst (N := 3) rfl ?_)
      refine box_event ?hg (N := 3) ?hd (cs := #[.int .i64 kd, .int .i64 n, .slice A l.length c]) (t := 44) ?hr ?_
      (case hd => rfl)
      (case hg => rfl)
      (case hr => first | (go_simp; done) | (go_simp; rfl))
      intro g3 hg3 w2 hbox hb2
      have S3 := Aside0.mk hbox
      have Hb2 := Aside0.mk hb2
      have hc0 : w2.cell? ⟨g3, 0, none⟩ = some (.int .i64 kd) := (blk_cell hbox 0).trans rfl
      clear hbox hb2 hg3)
    have c1 : w2.cell? ⟨g3, 1, none⟩ = some (.int .i64 n) := (blk_cell S3.out 1).trans rfl
    have c2 : w2.cell? ⟨gf, 3, none⟩ = some (.slice (some adr) E.params.length cp) := (blk_cell (blk_below Hfin.out Hb2.out) 3).trans rfl
    have c3 : w2.cell? (adr.add n.toNat) = some (pk ad p) := (Hb2.out.cell (World.block_lt_of_cell? w _ hx)).trans hx
    go_region_held3 (fun w' => w'.cell? ⟨g3, 1, none⟩ = some (.int .i64 n) ∧ w'.cell? ⟨gf, 3, none⟩ = some (.slice (some adr) E.params.length cp) ∧ w'.cell? (adr.add n.toNat) = some (pk ad p)) (go_keep) (fail)
    have HHq := Aside0.mk (Held.heap (Held.below HH.out Hb2.out) (w1 := w2.drew) rfl)
    have HTq := Aside0.mk (Turned.trans (Turned.of_below (ok := fun k => k ∈ ad) Hb2.out) (Turned.of_below (ok := fun k => k ∈ ad) (below_drew (Below.refl w2.heap.size w2))) (fun k hk _ => hk))
    have HBq := Aside0.mk (below_drew (below_step HB.out Hb2.out))
    have c5 : w2.drew.cell? ⟨g3, 2, none⟩ = some (.slice A l.length c) := (blk_cell (blk_drew S3.out) 2).trans rfl
    have hsl := HH.out
    have hpp := HPp.out.2.1 p (List.mem_of_getElem? Hp.out)
    have hplen : p < s.length := by have := HH.out.len; omega
    clear c1 c2 c3 hx hc0 hsl
    generalize w2.drew = wq at *
    go_wp2_with fail
    go_loopg [6, 60] f (fun kq v6 v60 wr => ∃ (i k : Nat) (s1 : List KN) (e1 : List Nat), v6 = pk (ad ++ e1) k ∧ v60 = .int .i64 (i : Int) ∧ Aside0 (kq ≤ f ∧ i ≤ l.length) ∧ Aside0 (ftermL E kq s1 k (l.drop i) = some (r, s')) ∧ Aside0 (Held B s1 (ad ++ e1) wr) ∧ Aside0 (k < s1.length ∧ s.length ≤ s1.length) ∧ Aside0 (Turned (fun k => k ∈ ad) w wr) ∧ Aside0 (∀ b, b ∈ e1 → w.heap.size ≤ b) ∧ Aside0 (Below w0.heap.size w0 wr))
    case atStart => exact ⟨0, p, s, [], by rw [List.append_nil], rfl, ⟨Nat.le_refl _, Nat.zero_le _⟩, HT, ⟨by rw [List.append_nil]; exact HHq.out⟩, ⟨hplen, Nat.le_refl _⟩, HTq, ⟨by intro b hb; cases hb⟩, HBq⟩
    case round =>
      clear HHq HTq HBq c5
      obtain ⟨i, k, s1, e1, rfl, rfl, Hi, HM, H1, Hk, HT1, HE1, HB1⟩ := hrel
      have hm := HM.out
      have hi := Hi.out.2
      by_cases hlt : i < l.length
      · have Hlt := Aside0.mk hlt
        have hdrop := rd_T44_drop l i hlt
        obtain ⟨ad0, A1, c1, he, hx1, hx2, hx3, hl1, hi1⟩ := at_T44 HR.out (i : Int) (by omega) (by omega)
        cases he
        replace hx1 := (HB1.out.cell (World.block_lt_of_cell? w0 _ hx1)).trans hx1
        replace hx2 := (HB1.out.cell (World.block_lt_of_cell? w0 _ hx2)).trans hx2
        replace hx3 := (HB1.out.cell (World.block_lt_of_cell? w0 _ hx3)).trans hx3
        rw [Int.toNat_natCast] at hx1 hx2 hx3
        have Hl1 := Aside0.mk hl1
        have Hi1 := Aside0.mk hi1
        clear hl1 hi1
        have p1 : (0 ≤ (i : Int)) = True := eq_true (by omega)
        have p2 : ((i : Int) < (l.length : Int)) = True := eq_true (by omega)
        have p3 : (i < l.length) = True := eq_true (by omega)
        rw [hdrop] at hm
        generalize hx : rd_T44 l (i : Int) = x at *
        cases gk with
        | zero => exact absurd hm (by simp [ftermL])
        | succ k1 =>
        unfold ftermL at hm
        cases hft : fterm E k1 s1 x.f0 x.f1 x.f2 with
        | none => rw [hft] at hm; cases hm
        | some q =>
        obtain ⟨r2, s2⟩ := q
        rw [hft] at hm
        have HFT := Aside0.mk hft
        have HMM := Aside0.mk hm
        clear hx hdrop hft hm HM
        go_wp2_with (
          (with_reducible refine gate_dst (N := 9) rfl ?_)
          refine box_event ?hg (N := 9) ?hd (cs := #[.int .i64 0, .int .i64 0, .slice none 0 0]) (t := 44) ?hr ?_
          (case hd => rfl)
          (case hg => rfl)
          (case hr => first | (go_simp; done) | (go_simp; rfl))
          intro gi hgi w3 hbox3 hb3
          have hsz := below_size HB1.out
          have hgiw : w0.heap.size ≤ gi := by omega
          have hgr : wr.heap.size ≤ gi := by omega
          have hbw := below_set (g := gi) (j := 2) (v := .slice A1 x.f2.length c1) (below_set (g := gi) (j := 1) (v := .int .i64 x.f1) (below_set (g := gi) (j := 0) (v := .int .i64 x.f0) hb3 hgr) hgr) hgr
          have HB3 := Aside0.mk (below_step HB1.out hbw)
          have H3 := Aside0.mk (Held.below H1.out hbw)
          have HT3 := Aside0.mk (Turned.trans HT1.out (Turned.of_below (ok := fun k => k ∈ ad) hbw) (fun k hk _ => hk))
          have Hgi := Aside0.mk (blk_put (cs' := #[.int .i64 x.f0, .int .i64 x.f1, .slice A1 x.f2.length c1]) (blk_put (cs' := #[.int .i64 x.f0, .int .i64 x.f1, .slice none 0 0]) (blk_put (cs' := #[.int .i64 x.f0, .int .i64 0, .slice none 0 0]) hbox3 0 (.int .i64 x.f0) rfl) 1 (.int .i64 x.f1) rfl) 2 (.slice A1 x.f2.length c1) rfl)
          have hci0 : (((w3.setCell ⟨gi, 0, none⟩ (.int .i64 x.f0)).setCell ⟨gi, 1, none⟩ (.int .i64 x.f1)).setCell ⟨gi, 2, none⟩ (.slice A1 x.f2.length c1)).cell? ⟨gi, 0, none⟩ = some (.int .i64 x.f0) := (blk_cell Hgi.out 0).trans rfl
          have hci1 : (((w3.setCell ⟨gi, 0, none⟩ (.int .i64 x.f0)).setCell ⟨gi, 1, none⟩ (.int .i64 x.f1)).setCell ⟨gi, 2, none⟩ (.slice A1 x.f2.length c1)).cell? ⟨gi, 1, none⟩ = some (.int .i64 x.f1) := (blk_cell Hgi.out 1).trans rfl
          have hci2 : (((w3.setCell ⟨gi, 0, none⟩ (.int .i64 x.f0)).setCell ⟨gi, 1, none⟩ (.int .i64 x.f1)).setCell ⟨gi, 2, none⟩ (.slice A1 x.f2.length c1)).cell? ⟨gi, 2, none⟩ = some (.slice A1 x.f2.length c1) := (blk_cell Hgi.out 2).trans rfl
          have hcz0 := (blk_cell hbox3 0).trans rfl
          have hcz1 := (blk_cell hbox3 1).trans rfl
          have hcz2 := (blk_cell hbox3 2).trans rfl
          have hfz0 := blk_frozen hbox3 0
          have hfz1 := blk_frozen hbox3 1
          have hfz2 := blk_frozen hbox3 2
          clear hbox3 hb3 hsz hgi hgr hbw HB1 H1 HT1)
        have hF3 := Find.move HFi.out HT3.out HE1.out Hk.out.2 HH.out.len
        (with_reducible refine (IH.out k1 (by have := Hi.out.1; omega) s1 (ad ++ e1) x.f0 x.f1 x.f2 A1 c1 r2 s2 w0 _ H3.out _ cs hF3 HCs.out (Nat.le_trans hB HT3.out.size) hw0 Hi1.out Hl1.out HB3.out HFT.out).mono ?_)
        rintro e w4 ⟨e2, v, rfl, hv1, hv2, h4, t4, he2⟩
        have hszW := HT3.out.size
        have HT4 := Aside0.mk (Turned.trans HT3.out t4 (fun k hk hlt => by rcases List.mem_append.1 hk with hk | hk; exact hk; have := HE1.out k hk; omega))
        have HE4 := Aside0.mk (show ∀ b, b ∈ e1 ++ e2 → w.heap.size ≤ b from fun b hb => by rcases List.mem_append.1 hb with hb | hb; exact HE1.out b hb; have := he2 b hb; omega)
        have HB4 := Aside0.mk (Turned.below t4 HB3.out HB3.out.size (fun k hk => Nat.le_trans hw0 (H3.out.ge k hk)))
        have h4' : Held B s2 (ad ++ (e1 ++ e2)) w4 := by rw [← List.append_assoc]; exact h4
        have H4 := Aside0.mk h4'
        have hl1 := H3.out.len
        have hl2 := h4.len
        have hlen2 : s1.length ≤ s2.length := by rw [← hl1, ← hl2, show (ad ++ e1 ++ e2).length = (ad ++ e1).length + e2.length from List.length_append]; omega
        have Hlen := Aside0.mk hlen2
        have HKK := Aside0.mk (show pk (ad ++ e1) k = pk (ad ++ (e1 ++ e2)) k from by rw [← List.append_assoc]; exact (pk_app (ad := ad ++ e1) (e := e2) (by rw [hl1]; exact Hk.out.1)).symm)
        have hmm2 := HMM.out
        clear hci0 hci1 hci2 hcz0 hcz1 hcz2 hfz0 hfz1 hfz2 t4 he2 h4 h4' hl1 hl2 hF3 HT3 HB3 H3 Hgi hlen2 HMM hszW
        cases r2 with
        | none =>
          injection hmm2 with e
          injection e with ea eb
          subst ea eb
          have hv := hv2 rfl
          subst hv
          clear hv1 hv2
          go_wp2_with fail
          go_ret2
          first | exact ⟨e1 ++ e2, _, rfl, rfl, H4.out, HT4.out, HE4.out⟩ | exact ⟨e1 ++ e2, _, rfl, (fun k hk => by cases hk), fun _ => rfl, H4.out, HT4.out, HE4.out⟩
        | some xk =>
          simp only at hmm2
          obtain ⟨hve, hxl⟩ := hv1 xk rfl
          rw [List.append_assoc] at hve
          subst hve
          cases hj : fjoin k1 (s2 ++ [⟨none, false, none, none⟩] ++ [⟨none, false, some xk, some s2.length⟩]) k (s2.length + 1) with
          | none => rw [hj] at hmm2; cases hmm2
          | some q =>
          obtain ⟨rj, s3⟩ := q
          rw [hj] at hmm2
          have HJ := Aside0.mk hj
          have HM3 := Aside0.mk hmm2
          have Hxl := Aside0.mk hxl
          clear hj hmm2 hv1 hv2 hxl
          go_wp2_with (first
           | ((with_reducible refine gate_dst (N := 73) rfl ?_)
              refine box_event ?hg (N := 73) ?hd (cs := #[.pointer none, .bool false, .pointer none, .pointer none]) (t := 74) ?hr ?_
              (case hd => rfl)
              (case hg => rfl)
              (case hr => first | (go_simp; done) | (go_simp; rfl))
              intro g5 hg5 w5 hbox hb5
              have H5 := Aside0.mk (Held.push (n := ⟨none, false, none, none⟩) H4.out hb5 (Nat.le_of_eq hg5.symm) (Nat.le_trans hB HT4.out.size) ⟨(by intro j hj; cases hj), (by intro j hj; cases hj), (by intro j hj; cases hj)⟩ hbox)
              have HT5 := Aside0.mk (Turned.trans HT4.out (Turned.of_below (ok := fun k => k ∈ ad) hb5) (fun k hk _ => hk))
              have HB5 := Aside0.mk (below_step HB4.out hb5)
              have hge5 : w.heap.size ≤ g5 := by have := HT4.out.size; omega
              have Hb5 := Aside0.mk (bk_new (g := g5) H4.out.len)
              clear hbox hb5 hg5)
           | fail)
          have hb6 := below_alloc (Below.refl w5.heap.size w5) (.cells #[.pointer none, .bool false, pk (ad ++ (e1 ++ e2)) xk, .pointer (some ⟨g5, 0, none⟩)] 74 (0, 0))
          have hbox6 := blk_new w5 (.cells #[.pointer none, .bool false, pk (ad ++ (e1 ++ e2)) xk, .pointer (some ⟨g5, 0, none⟩)] 74 (0, 0))
          have H6 := Aside0.mk (Held.push (n := ⟨none, false, some xk, some s2.length⟩) H5.out hb6 (Nat.le_refl _) (Nat.le_trans hB HT5.out.size) ⟨(by intro j hj; cases hj), (by intro j hj; injection hj with hj; rw [List.length_append]; have := Hxl.out; omega), (by intro j hj; injection hj with hj; rw [List.length_append]; simp only [List.length_cons, List.length_nil]; omega)⟩ (by rw [hbox6]; unfold kcells; show _ = some (Obj.cells #[.pointer none, .bool false, pk (ad ++ (e1 ++ e2) ++ [g5]) xk, pk (ad ++ (e1 ++ e2) ++ [g5]) s2.length] 74 (0, 0)); rw [pk_app (ad := ad ++ (e1 ++ e2)) (e := [g5]) (by rw [H4.out.len]; exact Hxl.out)]; unfold pk; rw [Hb5.out]))
          have HT6 := Aside0.mk (Turned.trans HT5.out (Turned.of_below (ok := fun k => k ∈ ad) hb6) (fun k hk _ => hk))
          have HB6 := Aside0.mk (below_step HB5.out hb6)
          have hge6 : w.heap.size ≤ w5.heap.size := HT5.out.size
          have Hb6 := Aside0.mk (bk_new (g := w5.heap.size) H5.out.len)
          have hargs : #[pk (ad ++ e1) k, Value.pointer (some ⟨w5.heap.size, 0, none⟩)] = #[pk (ad ++ (e1 ++ e2) ++ [g5] ++ [w5.heap.size]) k, pk (ad ++ (e1 ++ e2) ++ [g5] ++ [w5.heap.size]) (s2.length + 1)] := by
            have hkl : k < s2.length := by have := Hk.out.1; have := Hlen.out; omega
            have e1' : pk (ad ++ (e1 ++ e2) ++ [g5] ++ [w5.heap.size]) k = pk (ad ++ e1) k := by
              rw [pk_app (ad := ad ++ (e1 ++ e2) ++ [g5]) (e := [w5.heap.size]) (by rw [H5.out.len, List.length_append]; omega), pk_app (ad := ad ++ (e1 ++ e2)) (e := [g5]) (by rw [H4.out.len]; exact hkl), HKK.out]
            have e2' : pk (ad ++ (e1 ++ e2) ++ [g5] ++ [w5.heap.size]) (s2.length + 1) = .pointer (some ⟨w5.heap.size, 0, none⟩) := by
              have := Hb6.out
              rw [List.length_append] at this
              unfold pk
              rw [show s2.length + 1 = s2.length + [(⟨none, false, none, none⟩ : KN)].length from rfl, this]
            rw [e1', e2']
          refine Calls.mono (calls_of_args hargs (join_calls B (ad ++ (e1 ++ e2) ++ [g5] ++ [w5.heap.size]) k1 _ k (s2.length + 1) rj s3 _ H6.out HJ.out)) ?_
          rintro e w7 ⟨rfl, h7, t7⟩
          have hszX := HB6.out.size
          have happ : ad ++ (e1 ++ e2) ++ [g5] ++ [w5.heap.size] = ad ++ (e1 ++ e2 ++ [g5] ++ [w5.heap.size]) := by simp [List.append_assoc]
          have HE7 := Aside0.mk (show ∀ b, b ∈ e1 ++ e2 ++ [g5] ++ [w5.heap.size] → w.heap.size ≤ b from fun b hb => by
            rcases List.mem_append.1 hb with hb | hb
            · rcases List.mem_append.1 hb with hb | hb
              · exact HE4.out b hb
              · rw [List.mem_singleton] at hb; omega
            · rw [List.mem_singleton] at hb; omega)
          have HT7 := Aside0.mk (Turned.trans HT6.out t7 (fun k hk hlt => by
            rw [happ] at hk
            rcases List.mem_append.1 hk with hk | hk
            · exact hk
            · have := HE7.out k hk; omega))
          have HB7 := Aside0.mk (Turned.below t7 HB6.out HB6.out.size (fun k hk => Nat.le_trans hw0 (H6.out.ge k hk)))
          have hl7 := h7.len
          have hl6 := H6.out.len
          have hg5l : pk (ad ++ (e1 ++ e2) ++ [g5] ++ [w5.heap.size]) s2.length = .pointer (some ⟨g5, 0, none⟩) := by
            rw [pk_app (ad := ad ++ (e1 ++ e2) ++ [g5]) (e := [w5.heap.size]) (by rw [H5.out.len, List.length_append]; simp)]
            unfold pk
            rw [Hb5.out]
          rw [happ] at h7 hl7 hg5l
          have H7 := Aside0.mk h7
          have HG7 := Aside0.mk hg5l
          have Hl7 := Aside0.mk (show s2.length < s3.length ∧ s.length ≤ s3.length from by
            have e := hl6.symm.trans (by rw [happ] : _)
            rw [happ] at hl6
            rw [← hl7, hl6, List.length_append, List.length_append]
            have := Hlen.out; have := Hk.out.2
            simp only [List.length_cons, List.length_nil]
            omega)
          have hm3 := HM3.out
          clear h7 t7 hl7 hl6 hg5l hargs happ hb6 hbox6 hge5 hge6 hszX H4 H5 H6 HT4 HT5 HT6 HB4 HB5 HB6 HE4 HM3
          cases rj with
          | false =>
            injection hm3 with e
            injection e with ea eb
            subst ea eb
            go_wp2_with fail
            go_ret2
            first | exact ⟨_, _, rfl, rfl, H7.out, HT7.out, HE7.out⟩ | exact ⟨_, _, rfl, (fun k hk => by cases hk), fun _ => rfl, H7.out, HT7.out, HE7.out⟩
          | true =>
            simp only at hm3
            have HM4 := Aside0.mk hm3
            clear hm3
            go_wp2_with fail
            go_roundg k1
            case measure => omega
            case rel => exact ⟨i + 1, s2.length, s3, _, HG7.out.symm, (by
              have h1 := Hlt.out
              have h2 := HR.out.2.1
              exact congrArg (Value.int .i64) (by unfold wrap64; omega)), ⟨by have := Hi.out.1; omega, Hlt.out⟩, HM4, H7, ⟨Hl7.out.1, Hl7.out.2⟩, HT7, HE7, HB7⟩
      · have hie : i = l.length := by omega
        rw [hie, List.drop_length] at hm
        cases gk with
        | zero => exact absurd hm (by simp [ftermL])
        | succ k1 =>
        unfold ftermL at hm
        injection hm with e
        injection e with ea eb
        subst ea eb
        clear hie
        go_wp2_with fail
        go_ret2
        first | exact ⟨e1, _, rfl, ⟨rfl, Hk.out.1⟩, H1.out, HT1.out, HE1.out⟩ | exact ⟨e1, _, rfl, (fun k hk => by injection hk with hk; subst hk; exact ⟨rfl, Hk.out.1⟩), (fun hk => by cases hk), H1.out, HT1.out, HE1.out⟩
  rw [if_neg hk0] at hh
  by_cases hk1 : kd = 1
  · rw [if_pos hk1] at hh
    obtain ⟨p, hp, hpe⟩ := Option.map_eq_some_iff.1 hh
    injection hpe with e1 e2
    subst e1 e2
    have hkb0 : (kd == 0) = false := beq_eq_false_iff_ne.2 hk0
    have hkb : (kd == 1) = true := beq_iff_eq.2 hk1
    have hpl : n.toNat < E.funs.length := (List.getElem?_eq_some_iff.1 hp).1
    obtain ⟨adr, hadr, hcel⟩ := HPf.out.2.2 (by omega)
    subst hadr
    have hx := hcel n.toNat p hp
    have p1 : (0 ≤ n) = True := eq_true (by omega)
    have p2 : (n < (E.funs.length : Int)) = True := eq_true (by omega)
    have Hp := Aside0.mk hp
    clear hh hcel hp hfin
    go_enter Try.func38, Try.ntmps38
    go_wp2_with (
      (with_reducible refine gate_dst (N := 3) rfl ?_)
      refine box_event ?hg (N := 3) ?hd (cs := #[.int .i64 kd, .int .i64 n, .slice A l.length c]) (t := 44) ?hr ?_
      (case hd => rfl)
      (case hg => rfl)
      (case hr => first | (go_simp; done) | (go_simp; rfl))
      intro g3 hg3 w2 hbox hb2
      have S3 := Aside0.mk hbox
      have Hb2 := Aside0.mk hb2
      have hc0 : w2.cell? ⟨g3, 0, none⟩ = some (.int .i64 kd) := (blk_cell hbox 0).trans rfl
      clear hbox hb2 hg3)
    have c1 : w2.cell? ⟨g3, 1, none⟩ = some (.int .i64 n) := (blk_cell S3.out 1).trans rfl
    have c2 : w2.cell? ⟨gf, 2, none⟩ = some (.slice (some adr) E.funs.length cf) := (blk_cell (blk_below Hfin.out Hb2.out) 2).trans rfl
    have c3 : w2.cell? (adr.add n.toNat) = some (pk ad p) := (Hb2.out.cell (World.block_lt_of_cell? w _ hx)).trans hx
    go_region_held3 (fun w' => w'.cell? ⟨g3, 1, none⟩ = some (.int .i64 n) ∧ w'.cell? ⟨gf, 2, none⟩ = some (.slice (some adr) E.funs.length cf) ∧ w'.cell? (adr.add n.toNat) = some (pk ad p)) (go_keep) (fail)
    have HHq := Aside0.mk (Held.heap (Held.below HH.out Hb2.out) (w1 := w2.drew) rfl)
    have HTq := Aside0.mk (Turned.trans (Turned.of_below (ok := fun k => k ∈ ad) Hb2.out) (Turned.of_below (ok := fun k => k ∈ ad) (below_drew (Below.refl w2.heap.size w2))) (fun k hk _ => hk))
    have HBq := Aside0.mk (below_drew (below_step HB.out Hb2.out))
    have c5 : w2.drew.cell? ⟨g3, 2, none⟩ = some (.slice A l.length c) := (blk_cell (blk_drew S3.out) 2).trans rfl
    have hsl := HH.out
    have hpp := HPf.out.2.1 p (List.mem_of_getElem? Hp.out)
    have hplen : p < s.length := by have := HH.out.len; omega
    clear c1 c2 c3 hx hc0 hsl
    generalize w2.drew = wq at *
    go_wp2_with fail
    go_loopg [6, 60] f (fun kq v6 v60 wr => ∃ (i k : Nat) (s1 : List KN) (e1 : List Nat), v6 = pk (ad ++ e1) k ∧ v60 = .int .i64 (i : Int) ∧ Aside0 (kq ≤ f ∧ i ≤ l.length) ∧ Aside0 (ftermL E kq s1 k (l.drop i) = some (r, s')) ∧ Aside0 (Held B s1 (ad ++ e1) wr) ∧ Aside0 (k < s1.length ∧ s.length ≤ s1.length) ∧ Aside0 (Turned (fun k => k ∈ ad) w wr) ∧ Aside0 (∀ b, b ∈ e1 → w.heap.size ≤ b) ∧ Aside0 (Below w0.heap.size w0 wr))
    case atStart => exact ⟨0, p, s, [], by rw [List.append_nil], rfl, ⟨Nat.le_refl _, Nat.zero_le _⟩, HT, ⟨by rw [List.append_nil]; exact HHq.out⟩, ⟨hplen, Nat.le_refl _⟩, HTq, ⟨by intro b hb; cases hb⟩, HBq⟩
    case round =>
      clear HHq HTq HBq c5
      obtain ⟨i, k, s1, e1, rfl, rfl, Hi, HM, H1, Hk, HT1, HE1, HB1⟩ := hrel
      have hm := HM.out
      have hi := Hi.out.2
      by_cases hlt : i < l.length
      · have Hlt := Aside0.mk hlt
        have hdrop := rd_T44_drop l i hlt
        obtain ⟨ad0, A1, c1, he, hx1, hx2, hx3, hl1, hi1⟩ := at_T44 HR.out (i : Int) (by omega) (by omega)
        cases he
        replace hx1 := (HB1.out.cell (World.block_lt_of_cell? w0 _ hx1)).trans hx1
        replace hx2 := (HB1.out.cell (World.block_lt_of_cell? w0 _ hx2)).trans hx2
        replace hx3 := (HB1.out.cell (World.block_lt_of_cell? w0 _ hx3)).trans hx3
        rw [Int.toNat_natCast] at hx1 hx2 hx3
        have Hl1 := Aside0.mk hl1
        have Hi1 := Aside0.mk hi1
        clear hl1 hi1
        have p1 : (0 ≤ (i : Int)) = True := eq_true (by omega)
        have p2 : ((i : Int) < (l.length : Int)) = True := eq_true (by omega)
        have p3 : (i < l.length) = True := eq_true (by omega)
        rw [hdrop] at hm
        generalize hx : rd_T44 l (i : Int) = x at *
        cases gk with
        | zero => exact absurd hm (by simp [ftermL])
        | succ k1 =>
        unfold ftermL at hm
        cases hft : fterm E k1 s1 x.f0 x.f1 x.f2 with
        | none => rw [hft] at hm; cases hm
        | some q =>
        obtain ⟨r2, s2⟩ := q
        rw [hft] at hm
        have HFT := Aside0.mk hft
        have HMM := Aside0.mk hm
        clear hx hdrop hft hm HM
        go_wp2_with (
          (with_reducible refine gate_dst (N := 9) rfl ?_)
          refine box_event ?hg (N := 9) ?hd (cs := #[.int .i64 0, .int .i64 0, .slice none 0 0]) (t := 44) ?hr ?_
          (case hd => rfl)
          (case hg => rfl)
          (case hr => first | (go_simp; done) | (go_simp; rfl))
          intro gi hgi w3 hbox3 hb3
          have hsz := below_size HB1.out
          have hgiw : w0.heap.size ≤ gi := by omega
          have hgr : wr.heap.size ≤ gi := by omega
          have hbw := below_set (g := gi) (j := 2) (v := .slice A1 x.f2.length c1) (below_set (g := gi) (j := 1) (v := .int .i64 x.f1) (below_set (g := gi) (j := 0) (v := .int .i64 x.f0) hb3 hgr) hgr) hgr
          have HB3 := Aside0.mk (below_step HB1.out hbw)
          have H3 := Aside0.mk (Held.below H1.out hbw)
          have HT3 := Aside0.mk (Turned.trans HT1.out (Turned.of_below (ok := fun k => k ∈ ad) hbw) (fun k hk _ => hk))
          have Hgi := Aside0.mk (blk_put (cs' := #[.int .i64 x.f0, .int .i64 x.f1, .slice A1 x.f2.length c1]) (blk_put (cs' := #[.int .i64 x.f0, .int .i64 x.f1, .slice none 0 0]) (blk_put (cs' := #[.int .i64 x.f0, .int .i64 0, .slice none 0 0]) hbox3 0 (.int .i64 x.f0) rfl) 1 (.int .i64 x.f1) rfl) 2 (.slice A1 x.f2.length c1) rfl)
          have hci0 : (((w3.setCell ⟨gi, 0, none⟩ (.int .i64 x.f0)).setCell ⟨gi, 1, none⟩ (.int .i64 x.f1)).setCell ⟨gi, 2, none⟩ (.slice A1 x.f2.length c1)).cell? ⟨gi, 0, none⟩ = some (.int .i64 x.f0) := (blk_cell Hgi.out 0).trans rfl
          have hci1 : (((w3.setCell ⟨gi, 0, none⟩ (.int .i64 x.f0)).setCell ⟨gi, 1, none⟩ (.int .i64 x.f1)).setCell ⟨gi, 2, none⟩ (.slice A1 x.f2.length c1)).cell? ⟨gi, 1, none⟩ = some (.int .i64 x.f1) := (blk_cell Hgi.out 1).trans rfl
          have hci2 : (((w3.setCell ⟨gi, 0, none⟩ (.int .i64 x.f0)).setCell ⟨gi, 1, none⟩ (.int .i64 x.f1)).setCell ⟨gi, 2, none⟩ (.slice A1 x.f2.length c1)).cell? ⟨gi, 2, none⟩ = some (.slice A1 x.f2.length c1) := (blk_cell Hgi.out 2).trans rfl
          have hcz0 := (blk_cell hbox3 0).trans rfl
          have hcz1 := (blk_cell hbox3 1).trans rfl
          have hcz2 := (blk_cell hbox3 2).trans rfl
          have hfz0 := blk_frozen hbox3 0
          have hfz1 := blk_frozen hbox3 1
          have hfz2 := blk_frozen hbox3 2
          clear hbox3 hb3 hsz hgi hgr hbw HB1 H1 HT1)
        have hF3 := Find.move HFi.out HT3.out HE1.out Hk.out.2 HH.out.len
        (with_reducible refine (IH.out k1 (by have := Hi.out.1; omega) s1 (ad ++ e1) x.f0 x.f1 x.f2 A1 c1 r2 s2 w0 _ H3.out _ cs hF3 HCs.out (Nat.le_trans hB HT3.out.size) hw0 Hi1.out Hl1.out HB3.out HFT.out).mono ?_)
        rintro e w4 ⟨e2, v, rfl, hv1, hv2, h4, t4, he2⟩
        have hszW := HT3.out.size
        have HT4 := Aside0.mk (Turned.trans HT3.out t4 (fun k hk hlt => by rcases List.mem_append.1 hk with hk | hk; exact hk; have := HE1.out k hk; omega))
        have HE4 := Aside0.mk (show ∀ b, b ∈ e1 ++ e2 → w.heap.size ≤ b from fun b hb => by rcases List.mem_append.1 hb with hb | hb; exact HE1.out b hb; have := he2 b hb; omega)
        have HB4 := Aside0.mk (Turned.below t4 HB3.out HB3.out.size (fun k hk => Nat.le_trans hw0 (H3.out.ge k hk)))
        have h4' : Held B s2 (ad ++ (e1 ++ e2)) w4 := by rw [← List.append_assoc]; exact h4
        have H4 := Aside0.mk h4'
        have hl1 := H3.out.len
        have hl2 := h4.len
        have hlen2 : s1.length ≤ s2.length := by rw [← hl1, ← hl2, show (ad ++ e1 ++ e2).length = (ad ++ e1).length + e2.length from List.length_append]; omega
        have Hlen := Aside0.mk hlen2
        have HKK := Aside0.mk (show pk (ad ++ e1) k = pk (ad ++ (e1 ++ e2)) k from by rw [← List.append_assoc]; exact (pk_app (ad := ad ++ e1) (e := e2) (by rw [hl1]; exact Hk.out.1)).symm)
        have hmm2 := HMM.out
        clear hci0 hci1 hci2 hcz0 hcz1 hcz2 hfz0 hfz1 hfz2 t4 he2 h4 h4' hl1 hl2 hF3 HT3 HB3 H3 Hgi hlen2 HMM hszW
        cases r2 with
        | none =>
          injection hmm2 with e
          injection e with ea eb
          subst ea eb
          have hv := hv2 rfl
          subst hv
          clear hv1 hv2
          go_wp2_with fail
          go_ret2
          first | exact ⟨e1 ++ e2, _, rfl, rfl, H4.out, HT4.out, HE4.out⟩ | exact ⟨e1 ++ e2, _, rfl, (fun k hk => by cases hk), fun _ => rfl, H4.out, HT4.out, HE4.out⟩
        | some xk =>
          simp only at hmm2
          obtain ⟨hve, hxl⟩ := hv1 xk rfl
          rw [List.append_assoc] at hve
          subst hve
          cases hj : fjoin k1 (s2 ++ [⟨none, false, none, none⟩] ++ [⟨none, false, some xk, some s2.length⟩]) k (s2.length + 1) with
          | none => rw [hj] at hmm2; cases hmm2
          | some q =>
          obtain ⟨rj, s3⟩ := q
          rw [hj] at hmm2
          have HJ := Aside0.mk hj
          have HM3 := Aside0.mk hmm2
          have Hxl := Aside0.mk hxl
          clear hj hmm2 hv1 hv2 hxl
          go_wp2_with (first
           | ((with_reducible refine gate_dst (N := 73) rfl ?_)
              refine box_event ?hg (N := 73) ?hd (cs := #[.pointer none, .bool false, .pointer none, .pointer none]) (t := 74) ?hr ?_
              (case hd => rfl)
              (case hg => rfl)
              (case hr => first | (go_simp; done) | (go_simp; rfl))
              intro g5 hg5 w5 hbox hb5
              have H5 := Aside0.mk (Held.push (n := ⟨none, false, none, none⟩) H4.out hb5 (Nat.le_of_eq hg5.symm) (Nat.le_trans hB HT4.out.size) ⟨(by intro j hj; cases hj), (by intro j hj; cases hj), (by intro j hj; cases hj)⟩ hbox)
              have HT5 := Aside0.mk (Turned.trans HT4.out (Turned.of_below (ok := fun k => k ∈ ad) hb5) (fun k hk _ => hk))
              have HB5 := Aside0.mk (below_step HB4.out hb5)
              have hge5 : w.heap.size ≤ g5 := by have := HT4.out.size; omega
              have Hb5 := Aside0.mk (bk_new (g := g5) H4.out.len)
              clear hbox hb5 hg5)
           | fail)
          have hb6 := below_alloc (Below.refl w5.heap.size w5) (.cells #[.pointer none, .bool false, pk (ad ++ (e1 ++ e2)) xk, .pointer (some ⟨g5, 0, none⟩)] 74 (0, 0))
          have hbox6 := blk_new w5 (.cells #[.pointer none, .bool false, pk (ad ++ (e1 ++ e2)) xk, .pointer (some ⟨g5, 0, none⟩)] 74 (0, 0))
          have H6 := Aside0.mk (Held.push (n := ⟨none, false, some xk, some s2.length⟩) H5.out hb6 (Nat.le_refl _) (Nat.le_trans hB HT5.out.size) ⟨(by intro j hj; cases hj), (by intro j hj; injection hj with hj; rw [List.length_append]; have := Hxl.out; omega), (by intro j hj; injection hj with hj; rw [List.length_append]; simp only [List.length_cons, List.length_nil]; omega)⟩ (by rw [hbox6]; unfold kcells; show _ = some (Obj.cells #[.pointer none, .bool false, pk (ad ++ (e1 ++ e2) ++ [g5]) xk, pk (ad ++ (e1 ++ e2) ++ [g5]) s2.length] 74 (0, 0)); rw [pk_app (ad := ad ++ (e1 ++ e2)) (e := [g5]) (by rw [H4.out.len]; exact Hxl.out)]; unfold pk; rw [Hb5.out]))
          have HT6 := Aside0.mk (Turned.trans HT5.out (Turned.of_below (ok := fun k => k ∈ ad) hb6) (fun k hk _ => hk))
          have HB6 := Aside0.mk (below_step HB5.out hb6)
          have hge6 : w.heap.size ≤ w5.heap.size := HT5.out.size
          have Hb6 := Aside0.mk (bk_new (g := w5.heap.size) H5.out.len)
          have hargs : #[pk (ad ++ e1) k, Value.pointer (some ⟨w5.heap.size, 0, none⟩)] = #[pk (ad ++ (e1 ++ e2) ++ [g5] ++ [w5.heap.size]) k, pk (ad ++ (e1 ++ e2) ++ [g5] ++ [w5.heap.size]) (s2.length + 1)] := by
            have hkl : k < s2.length := by have := Hk.out.1; have := Hlen.out; omega
            have e1' : pk (ad ++ (e1 ++ e2) ++ [g5] ++ [w5.heap.size]) k = pk (ad ++ e1) k := by
              rw [pk_app (ad := ad ++ (e1 ++ e2) ++ [g5]) (e := [w5.heap.size]) (by rw [H5.out.len, List.length_append]; omega), pk_app (ad := ad ++ (e1 ++ e2)) (e := [g5]) (by rw [H4.out.len]; exact hkl), HKK.out]
            have e2' : pk (ad ++ (e1 ++ e2) ++ [g5] ++ [w5.heap.size]) (s2.length + 1) = .pointer (some ⟨w5.heap.size, 0, none⟩) := by
              have := Hb6.out
              rw [List.length_append] at this
              unfold pk
              rw [show s2.length + 1 = s2.length + [(⟨none, false, none, none⟩ : KN)].length from rfl, this]
            rw [e1', e2']
          refine Calls.mono (calls_of_args hargs (join_calls B (ad ++ (e1 ++ e2) ++ [g5] ++ [w5.heap.size]) k1 _ k (s2.length + 1) rj s3 _ H6.out HJ.out)) ?_
          rintro e w7 ⟨rfl, h7, t7⟩
          have hszX := HB6.out.size
          have happ : ad ++ (e1 ++ e2) ++ [g5] ++ [w5.heap.size] = ad ++ (e1 ++ e2 ++ [g5] ++ [w5.heap.size]) := by simp [List.append_assoc]
          have HE7 := Aside0.mk (show ∀ b, b ∈ e1 ++ e2 ++ [g5] ++ [w5.heap.size] → w.heap.size ≤ b from fun b hb => by
            rcases List.mem_append.1 hb with hb | hb
            · rcases List.mem_append.1 hb with hb | hb
              · exact HE4.out b hb
              · rw [List.mem_singleton] at hb; omega
            · rw [List.mem_singleton] at hb; omega)
          have HT7 := Aside0.mk (Turned.trans HT6.out t7 (fun k hk hlt => by
            rw [happ] at hk
            rcases List.mem_append.1 hk with hk | hk
            · exact hk
            · have := HE7.out k hk; omega))
          have HB7 := Aside0.mk (Turned.below t7 HB6.out HB6.out.size (fun k hk => Nat.le_trans hw0 (H6.out.ge k hk)))
          have hl7 := h7.len
          have hl6 := H6.out.len
          have hg5l : pk (ad ++ (e1 ++ e2) ++ [g5] ++ [w5.heap.size]) s2.length = .pointer (some ⟨g5, 0, none⟩) := by
            rw [pk_app (ad := ad ++ (e1 ++ e2) ++ [g5]) (e := [w5.heap.size]) (by rw [H5.out.len, List.length_append]; simp)]
            unfold pk
            rw [Hb5.out]
          rw [happ] at h7 hl7 hg5l
          have H7 := Aside0.mk h7
          have HG7 := Aside0.mk hg5l
          have Hl7 := Aside0.mk (show s2.length < s3.length ∧ s.length ≤ s3.length from by
            have e := hl6.symm.trans (by rw [happ] : _)
            rw [happ] at hl6
            rw [← hl7, hl6, List.length_append, List.length_append]
            have := Hlen.out; have := Hk.out.2
            simp only [List.length_cons, List.length_nil]
            omega)
          have hm3 := HM3.out
          clear h7 t7 hl7 hl6 hg5l hargs happ hb6 hbox6 hge5 hge6 hszX H4 H5 H6 HT4 HT5 HT6 HB4 HB5 HB6 HE4 HM3
          cases rj with
          | false =>
            injection hm3 with e
            injection e with ea eb
            subst ea eb
            go_wp2_with fail
            go_ret2
            first | exact ⟨_, _, rfl, rfl, H7.out, HT7.out, HE7.out⟩ | exact ⟨_, _, rfl, (fun k hk => by cases hk), fun _ => rfl, H7.out, HT7.out, HE7.out⟩
          | true =>
            simp only at hm3
            have HM4 := Aside0.mk hm3
            clear hm3
            go_wp2_with fail
            go_roundg k1
            case measure => omega
            case rel => exact ⟨i + 1, s2.length, s3, _, HG7.out.symm, (by
              have h1 := Hlt.out
              have h2 := HR.out.2.1
              exact congrArg (Value.int .i64) (by unfold wrap64; omega)), ⟨by have := Hi.out.1; omega, Hlt.out⟩, HM4, H7, ⟨Hl7.out.1, Hl7.out.2⟩, HT7, HE7, HB7⟩
      · have hie : i = l.length := by omega
        rw [hie, List.drop_length] at hm
        cases gk with
        | zero => exact absurd hm (by simp [ftermL])
        | succ k1 =>
        unfold ftermL at hm
        injection hm with e
        injection e with ea eb
        subst ea eb
        clear hie
        go_wp2_with fail
        go_ret2
        first | exact ⟨e1, _, rfl, ⟨rfl, Hk.out.1⟩, H1.out, HT1.out, HE1.out⟩ | exact ⟨e1, _, rfl, (fun k hk => by injection hk with hk; subst hk; exact ⟨rfl, Hk.out.1⟩), (fun hk => by cases hk), H1.out, HT1.out, HE1.out⟩
  rw [if_neg hk1] at hh
  obtain ⟨x, hp, hpe⟩ := Option.map_eq_some_iff.1 hh
  have hkb0 : (kd == 0) = false := beq_eq_false_iff_ne.2 hk0
  have hkb1 : (kd == 1) = false := beq_eq_false_iff_ne.2 hk1
  have hpl : n.toNat < E.syms.length := (List.getElem?_eq_some_iff.1 hp).1
  obtain ⟨adr, he, hx1, hx2⟩ := at_T59 HCs.out n (by omega) (by omega)
  cases he
  replace hx1 := (HB.out.cell (World.block_lt_of_cell? w0 _ hx1)).trans hx1
  replace hx2 := (HB.out.cell (World.block_lt_of_cell? w0 _ hx2)).trans hx2
  have p1 : (0 ≤ n) = True := eq_true (by omega)
  have p2 : (n < (E.syms.length : Int)) = True := eq_true (by omega)
  have Hp := Aside0.mk hp
  have HE := Aside0.mk hpe
  clear hh hp hfin hpe
  go_enter Try.func38, Try.ntmps38
  go_wp2_with (
    (with_reducible refine gate_dst (N := 3) rfl ?_)
    refine box_event ?hg (N := 3) ?hd (cs := #[.int .i64 kd, .int .i64 n, .slice A l.length c]) (t := 44) ?hr ?_
    (case hd => rfl)
    (case hg => rfl)
    (case hr => first | (go_simp; done) | (go_simp; rfl))
    intro g3 hg3 w2 hbox hb2
    have S3 := Aside0.mk hbox
    have Hb2 := Aside0.mk hb2
    have hc0 : w2.cell? ⟨g3, 0, none⟩ = some (.int .i64 kd) := (blk_cell hbox 0).trans rfl
    have hge3 : w.heap.size ≤ g3 := by omega
    clear hbox hb2 hg3)
  have hxe : rd_T59 E.syms n = x := by
    have := Hp.out
    unfold rd_T59
    rw [List.getD_eq_getElem?_getD, this]
    rfl
  rw [hxe] at hx2
  have c1 : w2.cell? ⟨g3, 1, none⟩ = some (.int .i64 n) := (blk_cell S3.out 1).trans rfl
  have c2 : w2.cell? ⟨gf, 1, none⟩ = some (.slice (some adr) E.syms.length cs) := (blk_cell (blk_below Hfin.out Hb2.out) 1).trans rfl
  have c3 : w2.cell? { block := (adr.add (n.toNat * 2)).block, off := (adr.add (n.toNat * 2)).off + 1 } = some (.int .i64 x.f1) := (Hb2.out.cell (World.block_lt_of_cell? w _ hx2)).trans hx2
  have hrx := hrk x (List.mem_of_getElem? Hp.out)
  clear hx1 hx2 hxe
  go_region_held3 (fun w' => w'.cell? ⟨g3, 1, none⟩ = some (.int .i64 n) ∧ w'.cell? ⟨gf, 1, none⟩ = some (.slice (some adr) E.syms.length cs) ∧ w'.cell? { block := (adr.add (n.toNat * 2)).block, off := (adr.add (n.toNat * 2)).off + 1 } = some (.int .i64 x.f1)) (go_keep) (fail)
  have HBw := Aside0.mk (below_drew Hb2.out)
  have S3q := Aside0.mk (blk_drew S3.out)
  clear c1 c2 c3 hc0 Hb2 S3
  generalize w2.drew = wq at *
  go_wp2_with fail
  go_loopg [7, 24] x.f1.toNat (fun kq v7 v24 wr => ∃ (i : Nat) (A7 : Option Addr) (c7 : Nat), v7 = .slice A7 i c7 ∧ v24 = .int .i64 (i : Int) ∧ Aside0 (i + kq = x.f1.toNat) ∧ Aside0 ((Kd.raw 1).R 72 wr w.heap.size (fun k => k ≠ g3) (.slice A7 i c7) (List.replicate i [pk ad E.o])) ∧ Aside0 (Below w.heap.size w wr) ∧ Aside0 (wr.heap[g3]? = some (.cells #[.int .i64 kd, .int .i64 n, .slice A l.length c] 44 (0, 0))))
  case atStart => exact ⟨0, none, 0, rfl, rfl, ⟨by omega⟩, ⟨Kd.R_nil _ _ _ _ _⟩, HBw, S3q⟩
  case round =>
    clear HBw S3q
    obtain ⟨i, A7, c7, rfl, rfl, Hi, HRo, HBr, S3r⟩ := hrel
    have hcf : wr.cell? ⟨gf, 0, none⟩ = some (pk ad E.o) := (blk_cell (blk_below Hfin.out HBr.out) 0).trans rfl
    by_cases hlt : (i : Int) < x.f1
    · cases gk with
      | zero => exact absurd Hi.out (by omega)
      | succ k1 =>
      have hszr := below_size HBr.out
      go_wp2_with (at_builtin; refine holdI5 ?_)
      unfold HoldI5
      refine Kd.R_append (Kd.raw 1) (w0 := w) w.heap.size rfl (.tmp 26) (.tmp 31) 75 72 (.pointer none) 8 rfl Try.underlying75 (by kernel_rfl) rfl (by decide) (by omega) (.slice A7 i c7) (List.replicate i [pk ad E.o]) [pk ad E.o] [pk ad E.o] (fun k => k ≠ g3) (fun k => k ≠ g3 ∧ some k ≠ (Value.slice A7 i c7).ownBlock) rfl rfl ?aP (fun _ hk => hk) ?aF ?aO ?aB ?aS ?aL ?_
      (case aP => exact ⟨rfl, rfl, by intro u hu; rw [List.mem_singleton] at hu; subst hu; rfl⟩)
      (case aB => exact HBr.out)
      (case aF => intro k hk; have h1 := blk_lt S3r.out; omega)
      (case aO => exact HRo.out)
      (case aS => exact hszr)
      (case aL => rw [List.length_replicate]; have := Hi.out; omega)
      intro v2 w5 ho hb hg2 hat
      rw [show List.replicate i [pk ad E.o] ++ [[pk ad E.o]] = List.replicate (i + 1) [pk ad E.o] from List.replicate_succ'.symm] at ho
      obtain ⟨A2, c2, e2⟩ := Kd.R_slice ho
      rw [List.length_replicate] at e2
      subst e2
      have S3n := Aside0.mk (blk_grown S3r.out hg2 (Kd.R_away HRo.out (fun k hk => hk)))
      have HOn := Aside0.mk ho
      have HBn := Aside0.mk hb
      clear ho hb hg2 hat S3r HRo HBr hszr hcf
      go_wp2_with fail
      go_roundg k1
      case measure => omega
      case rel => exact ⟨i + 1, A2, c2, rfl, congrArg (Value.int .i64) (by have := Hi.out; first | rfl | (unfold wrap64; omega)), ⟨by have := Hi.out; omega⟩, HOn, HBn, S3n⟩
    · have hie : i = x.f1.toNat := by have := Hi.out; omega
      have hlp : (List.replicate x.f1.toNat E.o).length = i := by rw [List.length_replicate, hie]
      have HP := Aside0.mk (show Ptrs ad wr A7 (List.replicate x.f1.toNat E.o) from by
        refine ⟨by rw [List.length_replicate]; omega, fun p hp => by rw [(List.mem_replicate.1 hp).2, HH.out.len]; exact HFi.out.o, fun h0 => ?_⟩
        obtain ⟨_, _, hC⟩ := Kd.R_reads' HRo.out
        have hi0 : 0 < i := Nat.lt_of_lt_of_eq h0 hlp
        obtain ⟨ad0, c0, he0, _⟩ := Kd.C_get hC [] 0 (by omega) (by rw [List.length_replicate]; omega)
        refine ⟨ad0, he0, fun j p hj => ?_⟩
        have hjl : j < i := by have := (List.getElem?_eq_some_iff.1 hj).1; rw [hlp] at this; exact this
        have hpo : p = E.o := (List.mem_replicate.1 (List.mem_of_getElem? hj)).2
        obtain ⟨ad1, c1, he1, hcl, hK, hcc⟩ := Kd.C_get hC [] (j : Int) (by omega) (by rw [List.length_replicate]; omega)
        rw [he0] at he1
        injection he1 with he1
        subst he1
        have hc1 : c1 = [pk ad E.o] := by
          have h1 := hK.1
          rw [Int.toNat_natCast, List.getD_eq_getElem?_getD, List.getElem?_replicate, if_pos hjl] at h1
          exact h1
        have := hcc 0 (pk ad E.o) (by rw [hc1]; rfl)
        rw [Int.toNat_natCast] at this
        rw [hpo]
        exact (congrArg wr.cell? (congrArg ad0.add (show j = j * (Kd.raw 1).sz + 0 from by show j = j * 1 + 0; omega))).trans this)
      go_wp2_with fail
      have hszr := below_size HBr.out
      refine Calls.mono (calls_of_args (by rw [List.length_replicate]) (arrow_calls B s ad E.o A7 c7 (List.replicate x.f1.toNat E.o) gf _ _ _ wr (Held.below HH.out HBr.out) HFi.out.o (Nat.le_trans hB hszr) HP.out (blk_below Hfin.out HBr.out))) ?_
      rintro e wq2 ⟨ad', rfl, hh5, hb5, hk5⟩
      have HHq0 := Aside0.mk hh5
      have hkq0 := hk5
      rw [HE.out] at HHq0 hkq0
      have HHq := Aside0.mk (show Held B s1 (ad ++ ad') wq2 from HHq0.out)
      have hkq : k < s1.length := hkq0.1
      rw [HE.out]
      have HEq := Aside0.mk (show ∀ b, b ∈ ad' → w.heap.size ≤ b from fun b hb => Nat.le_trans hszr (hk5.2 b hb))
      have HTq := Aside0.mk (Turned.trans (Turned.of_below (ok := fun k => k ∈ ad) HBr.out) (Turned.of_below (ok := fun k => k ∈ ad) hb5) (fun k hk _ => hk))
      have HBq := Aside0.mk (below_step HB.out (below_step HBr.out hb5))
      have c5 : wq2.cell? ⟨g3, 2, none⟩ = some (.slice A l.length c) := (blk_cell (blk_below S3r.out hb5) 2).trans rfl
      have hlq : s.length ≤ s1.length := by have h1 := HHq.out.len; have h2 := HH.out.len; rw [List.length_append] at h1; omega
      clear hh5 hk5 hb5 HHq0 hkq0 hlp hie HP HRo HBr S3r hcf hszr hlt Hi
      try dsimp only
      go_wp2_with fail
      go_loopg [6, 60] f (fun kq v6 v60 wr => ∃ (i k : Nat) (s1 : List KN) (e1 : List Nat), v6 = pk (ad ++ e1) k ∧ v60 = .int .i64 (i : Int) ∧ Aside0 (kq ≤ f ∧ i ≤ l.length) ∧ Aside0 (ftermL E kq s1 k (l.drop i) = some (r, s')) ∧ Aside0 (Held B s1 (ad ++ e1) wr) ∧ Aside0 (k < s1.length ∧ s.length ≤ s1.length) ∧ Aside0 (Turned (fun k => k ∈ ad) w wr) ∧ Aside0 (∀ b, b ∈ e1 → w.heap.size ≤ b) ∧ Aside0 (Below w0.heap.size w0 wr))
      case atStart => exact ⟨0, k, s1, ad', rfl, rfl, ⟨Nat.le_refl _, Nat.zero_le _⟩, HT, HHq, ⟨hkq, hlq⟩, HTq, HEq, HBq⟩
      case round =>
        clear HHq HTq HBq HEq c5
        obtain ⟨i, k, s1, e1, rfl, rfl, Hi, HM, H1, Hk, HT1, HE1, HB1⟩ := hrel
        have hm := HM.out
        have hi := Hi.out.2
        by_cases hlt : i < l.length
        · have Hlt := Aside0.mk hlt
          have hdrop := rd_T44_drop l i hlt
          obtain ⟨ad0, A1, c1, he, hx1, hx2, hx3, hl1, hi1⟩ := at_T44 HR.out (i : Int) (by omega) (by omega)
          cases he
          replace hx1 := (HB1.out.cell (World.block_lt_of_cell? w0 _ hx1)).trans hx1
          replace hx2 := (HB1.out.cell (World.block_lt_of_cell? w0 _ hx2)).trans hx2
          replace hx3 := (HB1.out.cell (World.block_lt_of_cell? w0 _ hx3)).trans hx3
          rw [Int.toNat_natCast] at hx1 hx2 hx3
          have Hl1 := Aside0.mk hl1
          have Hi1 := Aside0.mk hi1
          clear hl1 hi1
          have p1 : (0 ≤ (i : Int)) = True := eq_true (by omega)
          have p2 : ((i : Int) < (l.length : Int)) = True := eq_true (by omega)
          have p3 : (i < l.length) = True := eq_true (by omega)
          rw [hdrop] at hm
          generalize hx : rd_T44 l (i : Int) = x at *
          cases gk with
          | zero => exact absurd hm (by simp [ftermL])
          | succ k1 =>
          unfold ftermL at hm
          cases hft : fterm E k1 s1 x.f0 x.f1 x.f2 with
          | none => rw [hft] at hm; cases hm
          | some q =>
          obtain ⟨r2, s2⟩ := q
          rw [hft] at hm
          have HFT := Aside0.mk hft
          have HMM := Aside0.mk hm
          clear hx hdrop hft hm HM
          go_wp2_with (
            (with_reducible refine gate_dst (N := 9) rfl ?_)
            refine box_event ?hg (N := 9) ?hd (cs := #[.int .i64 0, .int .i64 0, .slice none 0 0]) (t := 44) ?hr ?_
            (case hd => rfl)
            (case hg => rfl)
            (case hr => first | (go_simp; done) | (go_simp; rfl))
            intro gi hgi w3 hbox3 hb3
            have hsz := below_size HB1.out
            have hgiw : w0.heap.size ≤ gi := by omega
            have hgr : wr.heap.size ≤ gi := by omega
            have hbw := below_set (g := gi) (j := 2) (v := .slice A1 x.f2.length c1) (below_set (g := gi) (j := 1) (v := .int .i64 x.f1) (below_set (g := gi) (j := 0) (v := .int .i64 x.f0) hb3 hgr) hgr) hgr
            have HB3 := Aside0.mk (below_step HB1.out hbw)
            have H3 := Aside0.mk (Held.below H1.out hbw)
            have HT3 := Aside0.mk (Turned.trans HT1.out (Turned.of_below (ok := fun k => k ∈ ad) hbw) (fun k hk _ => hk))
            have Hgi := Aside0.mk (blk_put (cs' := #[.int .i64 x.f0, .int .i64 x.f1, .slice A1 x.f2.length c1]) (blk_put (cs' := #[.int .i64 x.f0, .int .i64 x.f1, .slice none 0 0]) (blk_put (cs' := #[.int .i64 x.f0, .int .i64 0, .slice none 0 0]) hbox3 0 (.int .i64 x.f0) rfl) 1 (.int .i64 x.f1) rfl) 2 (.slice A1 x.f2.length c1) rfl)
            have hci0 : (((w3.setCell ⟨gi, 0, none⟩ (.int .i64 x.f0)).setCell ⟨gi, 1, none⟩ (.int .i64 x.f1)).setCell ⟨gi, 2, none⟩ (.slice A1 x.f2.length c1)).cell? ⟨gi, 0, none⟩ = some (.int .i64 x.f0) := (blk_cell Hgi.out 0).trans rfl
            have hci1 : (((w3.setCell ⟨gi, 0, none⟩ (.int .i64 x.f0)).setCell ⟨gi, 1, none⟩ (.int .i64 x.f1)).setCell ⟨gi, 2, none⟩ (.slice A1 x.f2.length c1)).cell? ⟨gi, 1, none⟩ = some (.int .i64 x.f1) := (blk_cell Hgi.out 1).trans rfl
            have hci2 : (((w3.setCell ⟨gi, 0, none⟩ (.int .i64 x.f0)).setCell ⟨gi, 1, none⟩ (.int .i64 x.f1)).setCell ⟨gi, 2, none⟩ (.slice A1 x.f2.length c1)).cell? ⟨gi, 2, none⟩ = some (.slice A1 x.f2.length c1) := (blk_cell Hgi.out 2).trans rfl
            have hcz0 := (blk_cell hbox3 0).trans rfl
            have hcz1 := (blk_cell hbox3 1).trans rfl
            have hcz2 := (blk_cell hbox3 2).trans rfl
            have hfz0 := blk_frozen hbox3 0
            have hfz1 := blk_frozen hbox3 1
            have hfz2 := blk_frozen hbox3 2
            clear hbox3 hb3 hsz hgi hgr hbw HB1 H1 HT1)
          have hF3 := Find.move HFi.out HT3.out HE1.out Hk.out.2 HH.out.len
          (with_reducible refine (IH.out k1 (by have := Hi.out.1; omega) s1 (ad ++ e1) x.f0 x.f1 x.f2 A1 c1 r2 s2 w0 _ H3.out _ cs hF3 HCs.out (Nat.le_trans hB HT3.out.size) hw0 Hi1.out Hl1.out HB3.out HFT.out).mono ?_)
          rintro e w4 ⟨e2, v, rfl, hv1, hv2, h4, t4, he2⟩
          have hszW := HT3.out.size
          have HT4 := Aside0.mk (Turned.trans HT3.out t4 (fun k hk hlt => by rcases List.mem_append.1 hk with hk | hk; exact hk; have := HE1.out k hk; omega))
          have HE4 := Aside0.mk (show ∀ b, b ∈ e1 ++ e2 → w.heap.size ≤ b from fun b hb => by rcases List.mem_append.1 hb with hb | hb; exact HE1.out b hb; have := he2 b hb; omega)
          have HB4 := Aside0.mk (Turned.below t4 HB3.out HB3.out.size (fun k hk => Nat.le_trans hw0 (H3.out.ge k hk)))
          have h4' : Held B s2 (ad ++ (e1 ++ e2)) w4 := by rw [← List.append_assoc]; exact h4
          have H4 := Aside0.mk h4'
          have hl1 := H3.out.len
          have hl2 := h4.len
          have hlen2 : s1.length ≤ s2.length := by rw [← hl1, ← hl2, show (ad ++ e1 ++ e2).length = (ad ++ e1).length + e2.length from List.length_append]; omega
          have Hlen := Aside0.mk hlen2
          have HKK := Aside0.mk (show pk (ad ++ e1) k = pk (ad ++ (e1 ++ e2)) k from by rw [← List.append_assoc]; exact (pk_app (ad := ad ++ e1) (e := e2) (by rw [hl1]; exact Hk.out.1)).symm)
          have hmm2 := HMM.out
          clear hci0 hci1 hci2 hcz0 hcz1 hcz2 hfz0 hfz1 hfz2 t4 he2 h4 h4' hl1 hl2 hF3 HT3 HB3 H3 Hgi hlen2 HMM hszW
          cases r2 with
          | none =>
            injection hmm2 with e
            injection e with ea eb
            subst ea eb
            have hv := hv2 rfl
            subst hv
            clear hv1 hv2
            go_wp2_with fail
            go_ret2
            first | exact ⟨e1 ++ e2, _, rfl, rfl, H4.out, HT4.out, HE4.out⟩ | exact ⟨e1 ++ e2, _, rfl, (fun k hk => by cases hk), fun _ => rfl, H4.out, HT4.out, HE4.out⟩
          | some xk =>
            simp only at hmm2
            obtain ⟨hve, hxl⟩ := hv1 xk rfl
            rw [List.append_assoc] at hve
            subst hve
            cases hj : fjoin k1 (s2 ++ [⟨none, false, none, none⟩] ++ [⟨none, false, some xk, some s2.length⟩]) k (s2.length + 1) with
            | none => rw [hj] at hmm2; cases hmm2
            | some q =>
            obtain ⟨rj, s3⟩ := q
            rw [hj] at hmm2
            have HJ := Aside0.mk hj
            have HM3 := Aside0.mk hmm2
            have Hxl := Aside0.mk hxl
            clear hj hmm2 hv1 hv2 hxl
            go_wp2_with (first
             | ((with_reducible refine gate_dst (N := 73) rfl ?_)
                refine box_event ?hg (N := 73) ?hd (cs := #[.pointer none, .bool false, .pointer none, .pointer none]) (t := 74) ?hr ?_
                (case hd => rfl)
                (case hg => rfl)
                (case hr => first | (go_simp; done) | (go_simp; rfl))
                intro g5 hg5 w5 hbox hb5
                have H5 := Aside0.mk (Held.push (n := ⟨none, false, none, none⟩) H4.out hb5 (Nat.le_of_eq hg5.symm) (Nat.le_trans hB HT4.out.size) ⟨(by intro j hj; cases hj), (by intro j hj; cases hj), (by intro j hj; cases hj)⟩ hbox)
                have HT5 := Aside0.mk (Turned.trans HT4.out (Turned.of_below (ok := fun k => k ∈ ad) hb5) (fun k hk _ => hk))
                have HB5 := Aside0.mk (below_step HB4.out hb5)
                have hge5 : w.heap.size ≤ g5 := by have := HT4.out.size; omega
                have Hb5 := Aside0.mk (bk_new (g := g5) H4.out.len)
                clear hbox hb5 hg5)
             | fail)
            have hb6 := below_alloc (Below.refl w5.heap.size w5) (.cells #[.pointer none, .bool false, pk (ad ++ (e1 ++ e2)) xk, .pointer (some ⟨g5, 0, none⟩)] 74 (0, 0))
            have hbox6 := blk_new w5 (.cells #[.pointer none, .bool false, pk (ad ++ (e1 ++ e2)) xk, .pointer (some ⟨g5, 0, none⟩)] 74 (0, 0))
            have H6 := Aside0.mk (Held.push (n := ⟨none, false, some xk, some s2.length⟩) H5.out hb6 (Nat.le_refl _) (Nat.le_trans hB HT5.out.size) ⟨(by intro j hj; cases hj), (by intro j hj; injection hj with hj; rw [List.length_append]; have := Hxl.out; omega), (by intro j hj; injection hj with hj; rw [List.length_append]; simp only [List.length_cons, List.length_nil]; omega)⟩ (by rw [hbox6]; unfold kcells; show _ = some (Obj.cells #[.pointer none, .bool false, pk (ad ++ (e1 ++ e2) ++ [g5]) xk, pk (ad ++ (e1 ++ e2) ++ [g5]) s2.length] 74 (0, 0)); rw [pk_app (ad := ad ++ (e1 ++ e2)) (e := [g5]) (by rw [H4.out.len]; exact Hxl.out)]; unfold pk; rw [Hb5.out]))
            have HT6 := Aside0.mk (Turned.trans HT5.out (Turned.of_below (ok := fun k => k ∈ ad) hb6) (fun k hk _ => hk))
            have HB6 := Aside0.mk (below_step HB5.out hb6)
            have hge6 : w.heap.size ≤ w5.heap.size := HT5.out.size
            have Hb6 := Aside0.mk (bk_new (g := w5.heap.size) H5.out.len)
            have hargs : #[pk (ad ++ e1) k, Value.pointer (some ⟨w5.heap.size, 0, none⟩)] = #[pk (ad ++ (e1 ++ e2) ++ [g5] ++ [w5.heap.size]) k, pk (ad ++ (e1 ++ e2) ++ [g5] ++ [w5.heap.size]) (s2.length + 1)] := by
              have hkl : k < s2.length := by have := Hk.out.1; have := Hlen.out; omega
              have e1' : pk (ad ++ (e1 ++ e2) ++ [g5] ++ [w5.heap.size]) k = pk (ad ++ e1) k := by
                rw [pk_app (ad := ad ++ (e1 ++ e2) ++ [g5]) (e := [w5.heap.size]) (by rw [H5.out.len, List.length_append]; omega), pk_app (ad := ad ++ (e1 ++ e2)) (e := [g5]) (by rw [H4.out.len]; exact hkl), HKK.out]
              have e2' : pk (ad ++ (e1 ++ e2) ++ [g5] ++ [w5.heap.size]) (s2.length + 1) = .pointer (some ⟨w5.heap.size, 0, none⟩) := by
                have := Hb6.out
                rw [List.length_append] at this
                unfold pk
                rw [show s2.length + 1 = s2.length + [(⟨none, false, none, none⟩ : KN)].length from rfl, this]
              rw [e1', e2']
            refine Calls.mono (calls_of_args hargs (join_calls B (ad ++ (e1 ++ e2) ++ [g5] ++ [w5.heap.size]) k1 _ k (s2.length + 1) rj s3 _ H6.out HJ.out)) ?_
            rintro e w7 ⟨rfl, h7, t7⟩
            have hszX := HB6.out.size
            have happ : ad ++ (e1 ++ e2) ++ [g5] ++ [w5.heap.size] = ad ++ (e1 ++ e2 ++ [g5] ++ [w5.heap.size]) := by simp [List.append_assoc]
            have HE7 := Aside0.mk (show ∀ b, b ∈ e1 ++ e2 ++ [g5] ++ [w5.heap.size] → w.heap.size ≤ b from fun b hb => by
              rcases List.mem_append.1 hb with hb | hb
              · rcases List.mem_append.1 hb with hb | hb
                · exact HE4.out b hb
                · rw [List.mem_singleton] at hb; omega
              · rw [List.mem_singleton] at hb; omega)
            have HT7 := Aside0.mk (Turned.trans HT6.out t7 (fun k hk hlt => by
              rw [happ] at hk
              rcases List.mem_append.1 hk with hk | hk
              · exact hk
              · have := HE7.out k hk; omega))
            have HB7 := Aside0.mk (Turned.below t7 HB6.out HB6.out.size (fun k hk => Nat.le_trans hw0 (H6.out.ge k hk)))
            have hl7 := h7.len
            have hl6 := H6.out.len
            have hg5l : pk (ad ++ (e1 ++ e2) ++ [g5] ++ [w5.heap.size]) s2.length = .pointer (some ⟨g5, 0, none⟩) := by
              rw [pk_app (ad := ad ++ (e1 ++ e2) ++ [g5]) (e := [w5.heap.size]) (by rw [H5.out.len, List.length_append]; simp)]
              unfold pk
              rw [Hb5.out]
            rw [happ] at h7 hl7 hg5l
            have H7 := Aside0.mk h7
            have HG7 := Aside0.mk hg5l
            have Hl7 := Aside0.mk (show s2.length < s3.length ∧ s.length ≤ s3.length from by
              have e := hl6.symm.trans (by rw [happ] : _)
              rw [happ] at hl6
              rw [← hl7, hl6, List.length_append, List.length_append]
              have := Hlen.out; have := Hk.out.2
              simp only [List.length_cons, List.length_nil]
              omega)
            have hm3 := HM3.out
            clear h7 t7 hl7 hl6 hg5l hargs happ hb6 hbox6 hge5 hge6 hszX H4 H5 H6 HT4 HT5 HT6 HB4 HB5 HB6 HE4 HM3
            cases rj with
            | false =>
              injection hm3 with e
              injection e with ea eb
              subst ea eb
              go_wp2_with fail
              go_ret2
              first | exact ⟨_, _, rfl, rfl, H7.out, HT7.out, HE7.out⟩ | exact ⟨_, _, rfl, (fun k hk => by cases hk), fun _ => rfl, H7.out, HT7.out, HE7.out⟩
            | true =>
              simp only at hm3
              have HM4 := Aside0.mk hm3
              clear hm3
              go_wp2_with fail
              go_roundg k1
              case measure => omega
              case rel => exact ⟨i + 1, s2.length, s3, _, HG7.out.symm, (by
                have h1 := Hlt.out
                have h2 := HR.out.2.1
                exact congrArg (Value.int .i64) (by unfold wrap64; omega)), ⟨by have := Hi.out.1; omega, Hlt.out⟩, HM4, H7, ⟨Hl7.out.1, Hl7.out.2⟩, HT7, HE7, HB7⟩
        · have hie : i = l.length := by omega
          rw [hie, List.drop_length] at hm
          cases gk with
          | zero => exact absurd hm (by simp [ftermL])
          | succ k1 =>
          unfold ftermL at hm
          injection hm with e
          injection e with ea eb
          subst ea eb
          clear hie
          go_wp2_with fail
          go_ret2
          first | exact ⟨e1, _, rfl, ⟨rfl, Hk.out.1⟩, H1.out, HT1.out, HE1.out⟩ | exact ⟨e1, _, rfl, (fun k hk => by injection hk with hk; subst hk; exact ⟨rfl, Hk.out.1⟩), (fun hk => by cases hk), H1.out, HT1.out, HE1.out⟩
end Go.Proofs.Ytfhgoebgnilfaaa.I
namespace Go.Proofs.Ytfhgoebgnilfaaa.I
open Go.RowKit Go.Proofs.YtfhgoebgnilfaaaW.PrintWords Go.Proofs.YtfhgoebgnilfaaaW.PrintLast Go.Proofs.YtfhgoebgnilfaaaW.PrintMore
open Go.WideShapes Go.Maps Go.ChangeMaps Go.WideMaps
set_option linter.unusedVariables false
set_option maxRecDepth 100000
set_option linter.unusedSimpArgs false
def lits (L : List ByteArray) : List Lit := L.map (fun s => Lit.string s.data.toList)
/-- Is a string on a list? -/
def isIn (L : List ByteArray) (s : ByteArray) : Bool := L.any (fun x => x.data.toList == s.data.toList)
/-- A block that holds a set of strings. -/
def Seen (w : World) (b n : Nat) (L : List ByteArray) : Prop := w.ownsMap (H := Unit) Try.prog 9 (plainElem Try.prog 4) b n (setOf (.lit (.bool true)) (lits L))
theorem seen_made (w : World) : Seen (w.alloc (.map #[] 0)) w.heap.size 0 [] := World.ownsMap_made w Try.prog 9 _
theorem bool_inv {e : TypeId} (he : Try.prog.underlying e = some .bool) {v : Value} {z : DataW Unit × List MemPlace} (h : plainElem Try.prog e v = some z) : ∃ x, v = .bool x ∧ z = (.lit (.bool x), []) := by
  unfold plainElem at h
  rw [he] at h
  cases v <;> simp at h
  exact ⟨_, rfl, h.symm⟩
theorem iskey (x : ByteArray) : WideAt.IsKeyLit (Lit.string x.data.toList) := trivial
theorem atKey_set (L : List ByteArray) (s : ByteArray) : (setOf (H := Unit) (.lit (.bool true)) (lits L)).atKey (.string s.data.toList) (.lit (.bool false)) = .lit (.bool (isIn L s)) := by
  have gen : ∀ (M : List ByteArray), (setOf (H := Unit) (.lit (.bool true)) (lits M.reverse)).atKey (.string s.data.toList) (.lit (.bool false)) = .lit (.bool (isIn M s)) := by
    intro M
    induction M with
    | nil => rfl
    | cons x M ih =>
      have e : lits (x :: M).reverse = lits M.reverse ++ [Lit.string x.data.toList] := by simp [lits]
      have hk : ∀ y ∈ lits M.reverse, WideAt.IsKeyLit y := by
        intro y hy
        obtain ⟨z, _, rfl⟩ := List.mem_map.1 hy
        exact iskey z
      rw [e, setOf_snoc]
      by_cases hx : x.data.toList = s.data.toList
      · rw [hx, atKey_put_same (tidy_setOf _ _ hk).isMap (iskey s)]
        have : (x.data.toList == s.data.toList) = true := beq_iff_eq.2 hx
        unfold isIn
        rw [List.any_cons, this]
        rfl
      · have hne : Lit.string s.data.toList ≠ Lit.string x.data.toList := by
          intro h
          injection h with h
          exact hx h.symm
        rw [atKey_put_other hne, ih]
        have : (x.data.toList == s.data.toList) = false := beq_eq_false_iff_ne.2 hx
        unfold isIn
        rw [List.any_cons, this]
        rfl
  have := gen L.reverse
  rw [List.reverse_reverse] at this
  rw [this]
  simp [isIn, List.any_reverse]
theorem law9 : Keyed Try.prog 9 := string_keyed Try.underlying9
theorem zero4 (w : World) : (zeroValue 4).run Try.prog w = .ok (.bool false) w := by kernel_rfl
theorem seen_look {w : World} {b n : Nat} {L : List ByteArray} (h : Seen w b n L) (s : ByteArray) (hs : s.size ≤ maxLen) : (Instr.lookup 64 (.map (some b)) (.string s) false).run Try.prog w = .ok (.bool (isIn L s)) w := by
  obtain ⟨v, ps, hrun, hv⟩ := World.ownsMap.lookup (t := 64) h law9 Try.underlying64 (zero4 w) (plainElem_bool Try.underlying4 false) (keyOf_string_mk Try.underlying9 hs)
  obtain ⟨x, rfl, hx⟩ := bool_inv Try.underlying4 hv
  injection hx with hx _
  rw [atKey_set] at hx
  injection hx with hx
  injection hx with hx
  rw [hrun, hx]
theorem Seen.grown {w w1 : World} {b n : Nat} {L : List ByteArray} (h : Seen w b n L) (hb : Below w.heap.size w w1) : Seen w1 b n L :=
  World.ownsMap.kept (row := none) h ⟨hb.os, hb.tape, hb.output, hb.size, fun i hi _ => hb.block i hi⟩ (by simp)
theorem Seen.set {w : World} {b n : Nat} {L : List ByteArray} (h : Seen w b n L) {p : Addr} (hp : b ≠ p.block) (u : Value) : Seen (w.setCell p u) b n L := by
  obtain ⟨es, clock, hb, r⟩ := h
  exact ⟨es, clock, by rw [Below.heap_setCell _ _ _ _ hp]; exact hb, r⟩
theorem Seen.lt {w : World} {b n : Nat} {L : List ByteArray} (h : Seen w b n L) : b < w.heap.size := World.ownsMap.lt h
theorem seen_put {b n : Nat} {L : List ByteArray} {s : ByteArray} {w' : World} (h : w'.ownsMap (H := Unit) Try.prog 9 (plainElem Try.prog 4) b (n + 1) ((setOf (.lit (.bool true)) (lits L)).put (.string s.data.toList) (.lit (.bool true)))) : Seen w' b (n + 1) (L ++ [s]) := by
  unfold Seen
  rw [show lits (L ++ [s]) = lits L ++ [Lit.string s.data.toList] from by simp [lits], setOf_snoc]
  exact h
end Go.Proofs.Ytfhgoebgnilfaaa.I
