/- Texts of this session's proof, laid together: I0, VOpen, IOT, I1, I2, I3, IK1, IK2, IK3. -/
import Derived.Test.YtfhgoebgnilfaaaProg
import Derived.Below
import Derived.Deep.Draws
import Derived.Deep.AppendLies
import Derived.Maps.AppendAt
import Derived.OwnWalk
import Derived.Laws.BytesArg
import Derived.Laws.MakeOwn
import Derived.Laws.OwnMore
import Derived.Deep.OwnRows
import Derived.Tactics
import Derived.Lib.ConvBytes
import Derived.Laws.Slices
import Derived.WalkKit
import Derived.KernelRfl
import Derived.RowKit3
import Derived.Deep.LoopGhost
import Derived.Deep.QuietTactic
import Derived.BigQuiet
import Derived.WideLaws
import Derived.Deep.DeepCutAuto
import Derived.Deep.CutBlock
import Derived.Deep.RegionHeld3
import Derived.Laws.Rows
import Derived.Lib.AppendStr
import Derived.ArgAppend
import Derived.Laws.IdiomCopy
import Derived.OrdersHeld
import Derived.Laws.BitsLemmas
import Derived.RowKit
import Derived.ProofKit
import Derived.OpenShut
import Derived.ChangeOld
import Derived.LaidEqlPtr
import Derived.Laws.Pointers
import Derived.Test.YtfhgoebgnilfaaaU0
namespace Go.Proofs.Ytfhgoebgnilfaaa.I
open Go.RowKit Go.Proofs.YtfhgoebgnilfaaaW.PrintWords Go.Proofs.YtfhgoebgnilfaaaW.PrintLast Go.Proofs.YtfhgoebgnilfaaaW.PrintMore
attribute [local go_sem] max2_int min2_int max_two min_two max_three min_three max_four min_four   -- for this text's walks alone
set_option linter.unusedVariables false
set_option linter.unusedSimpArgs false
def errW : Option Int → Value
  | none => .nilIface
  | some c => .iface 0 (.int .i64 c)
theorem errW_none : errW none = .nilIface := rfl
theorem errW_some (c : Int) : errW (some c) = .iface 0 (.int .i64 c) := rfl
theorem info41 : (Try.prog.info? 41).map (fun i => (i.zero, i.size, i.bytes)) = some (some (.agg #[(.slice none 0 0)]), 1, 24) := by kernel_rfl
theorem info48 : (Try.prog.info? 48).map (fun i => (i.zero, i.size, i.bytes)) = some (some (.agg #[(.string ⟨#[]⟩), (.int .i64 0), (.int .i64 0), (.int .i64 0), (.slice none 0 0)]), 5, 64) := by kernel_rfl
theorem info59 : (Try.prog.info? 59).map (fun i => (i.zero, i.size, i.bytes)) = some (some (.agg #[(.string ⟨#[]⟩), (.int .i64 0)]), 2, 24) := by kernel_rfl
structure S44 where
  f0 : Int
  f1 : Int
  f2 : (List S44)
def z44 : S44 := ⟨(0 : Int), (0 : Int), ([] : List S44)⟩
def F44 (d : Kd S44) : Kd S44 := Kd.iso (Kd.pair (Kd.int .i64) (Kd.pair (Kd.int .i64) (Kd.slice 44 d))) (fun x : S44 => (x.f0, x.f1, x.f2))
theorem mono44 : Kd.Mono F44 := Kd.mono_iso _ (Kd.mono_pair (Kd.mono_const _) (Kd.mono_pair (Kd.mono_const _) (Kd.mono_slice 44 Kd.mono_id)))
theorem sub44 : Kd.Sub F44 [44] := Kd.sub_iso _ (Kd.sub_pair (Kd.sub_const _ (by decide)) (Kd.sub_pair (Kd.sub_const _ (by decide)) (Kd.sub_slice 44 (by decide) Kd.sub_id)))
theorem sz44 : ∀ n, (Kd.upto F44 3 [44] n).sz = 3 := Kd.upto_sz (fun _ => rfl)
def k44 : Kd S44 := Kd.fix F44 3 [44] sz44 (Kd.upto_E sub44)
theorem k44_heap : Kd.Heap k44 := Kd.heap_fix (fun _ h_ => Kd.heap_iso _ (Kd.heap_pair (Kd.heap_int .i64) (Kd.heap_pair (Kd.heap_int .i64) (Kd.heap_slice 44 h_))))
theorem k44_open {w : World} {x : S44} {cs : List Value} (h : k44.K w x cs) : ∃ A2 c2, cs = [.int .i64 x.f0, .int .i64 x.f1, .slice A2 x.f2.length c2] ∧ x.f2.length ≤ c2 ∧ k44.C w A2 x.f2.length x.f2 := by
  obtain ⟨n, h⟩ := h
  cases n with
  | zero => exact h.elim
  | succ n =>
    obtain ⟨_, _, rfl, rfl, ⟨_, _, rfl, rfl, ⟨A2, c2, rfl, l2, g2⟩⟩⟩ := h
    exact ⟨A2, c2, rfl, l2, Kd.fix_C g2⟩
theorem k44_mk (w : World) (x : S44) {A2 : Option Addr} {c2 : Nat} (l2 : x.f2.length ≤ c2) (g2 : k44.C w A2 x.f2.length x.f2) : k44.K w x [.int .i64 x.f0, .int .i64 x.f1, .slice A2 x.f2.length c2] := by
  obtain ⟨n2, q2⟩ := Kd.fix_C_back mono44 g2
  have r2 := Kd.upto_C_le mono44 sz44 (show n2 ≤ n2 by omega) q2
  exact ⟨n2 + 1, ⟨[.int .i64 x.f0], [.int .i64 x.f1, .slice A2 x.f2.length c2], rfl, rfl, ⟨[.int .i64 x.f1], [.slice A2 x.f2.length c2], rfl, rfl, ⟨A2, c2, rfl, l2, r2⟩⟩⟩⟩
theorem k44_mkM (w : World) (base : Nat) (ok : Nat → Prop) (x : S44) {v2 : Value} (g2 : k44.R 44 w base ok v2 x.f2) : k44.M w base ok x [.int .i64 x.f0, .int .i64 x.f1, v2] := by
  obtain ⟨n2, q2⟩ := Kd.fix_R_back mono44 g2
  have r2 := Kd.upto_R_le mono44 sz44 (show n2 ≤ n2 by omega) q2
  exact ⟨n2 + 1, ⟨[.int .i64 x.f0], [.int .i64 x.f1, v2], rfl, rfl, ⟨[.int .i64 x.f1], [v2], rfl, rfl, ⟨v2, rfl, r2⟩⟩⟩⟩
theorem k44_openF {W : World} {ok : Nat → Prop} {x : S44} {cs : List Value} (h : Kd.FK k44 W ok x cs) : ∃ A2 c2, cs = [.int .i64 x.f0, .int .i64 x.f1, .slice A2 x.f2.length c2] ∧ x.f2.length ≤ c2 ∧ Kd.F k44 W ok A2 x.f2.length x.f2 := by
  obtain ⟨A2, c2, rfl, l2, _⟩ := k44_open (Kd.FK_now h)
  exact ⟨A2, c2, rfl, l2, (fun W' hW => by obtain ⟨A2_, c2_, he, l2_, g2_⟩ := k44_open (h W' hW); injection (Option.some.inj (show some (Value.slice A2 x.f2.length c2) = some (Value.slice A2_ x.f2.length c2_) from congrArg (fun l => l[2]?) he)) with ha_ _ _; rw [ha_]; exact g2_)⟩
def rd_T44 (xs : List S44) (i : Int) : S44 := xs.getD i.toNat z44
theorem at_T44 {w : World} {A : Option Addr} {n : Nat} {xs : List S44} (h : Kd.C k44 w A n xs) (i : Int) (h0 : 0 ≤ i) (h1 : i < n) : ∃ ad A2 c2, A = some ad ∧ w.cell? (ad.add (i.toNat * 3)) = some (.int .i64 (rd_T44 xs i).f0) ∧ w.cell? ⟨(ad.add (i.toNat * 3)).block, (ad.add (i.toNat * 3)).off + 1, none⟩ = some (.int .i64 (rd_T44 xs i).f1) ∧ w.cell? ⟨(ad.add (i.toNat * 3)).block, (ad.add (i.toNat * 3)).off + 2, none⟩ = some (.slice A2 (rd_T44 xs i).f2.length c2) ∧ (rd_T44 xs i).f2.length ≤ c2 ∧ k44.C w A2 (rd_T44 xs i).f2.length (rd_T44 xs i).f2 := by
  obtain ⟨ad, c, e, _, hK, hc0⟩ := Kd.C_get h z44 i h0 h1
  have hc : ∀ j u, c[j]? = some u → w.cell? (ad.add (i.toNat * 3 + j)) = some u := hc0
  obtain ⟨A2, c2, rfl, l2, g2⟩ := k44_open hK
  exact ⟨ad, A2, c2, e, hc 0 _ rfl, by rw [← add_field _ _ 1 (by omega)]; exact hc 1 _ rfl, by rw [← add_field _ _ 2 (by omega)]; exact hc 2 _ rfl, l2, g2⟩
structure S59 where
  f0 : ByteArray
  f1 : Int
def z59 : S59 := ⟨(⟨#[]⟩ : ByteArray), (0 : Int)⟩
def k59 : Kd S59 := Kd.iso (Kd.pair Kd.string (Kd.int .i64)) (fun x : S59 => (x.f0, x.f1))
theorem k59_open {w : World} {x : S59} {cs : List Value} (h : k59.K w x cs) : cs = [.string x.f0, .int .i64 x.f1] := by
  obtain ⟨_, _, rfl, rfl, rfl⟩ := h
  exact rfl
theorem k59_mk (w : World) (x : S59)  : k59.K w x [.string x.f0, .int .i64 x.f1] := ⟨[.string x.f0], [.int .i64 x.f1], rfl, rfl, rfl⟩
theorem k59_mkM (w : World) (base : Nat) (ok : Nat → Prop) (x : S59)  : k59.M w base ok x [.string x.f0, .int .i64 x.f1] := ⟨[.string x.f0], [.int .i64 x.f1], rfl, rfl, rfl⟩
def rd_T59 (xs : List S59) (i : Int) : S59 := xs.getD i.toNat z59
theorem at_T59 {w : World} {A : Option Addr} {n : Nat} {xs : List S59} (h : Kd.C k59 w A n xs) (i : Int) (h0 : 0 ≤ i) (h1 : i < n) : ∃ ad , A = some ad ∧ w.cell? (ad.add (i.toNat * 2)) = some (.string (rd_T59 xs i).f0) ∧ w.cell? ⟨(ad.add (i.toNat * 2)).block, (ad.add (i.toNat * 2)).off + 1, none⟩ = some (.int .i64 (rd_T59 xs i).f1) := by
  obtain ⟨ad, c, e, _, hK, hc0⟩ := Kd.C_get h z59 i h0 h1
  have hc : ∀ j u, c[j]? = some u → w.cell? (ad.add (i.toNat * 2 + j)) = some u := hc0
  obtain rfl := k59_open hK
  exact ⟨ad, e, hc 0 _ rfl, by rw [← add_field _ _ 1 (by omega)]; exact hc 1 _ rfl⟩
structure S48 where
  f0 : ByteArray
  f1 : Int
  f2 : S44
def z48 : S48 := ⟨(⟨#[]⟩ : ByteArray), (0 : Int), z44⟩
def k48 : Kd S48 := Kd.iso (Kd.pair Kd.string (Kd.pair (Kd.int .i64) k44)) (fun x : S48 => (x.f0, x.f1, x.f2))
theorem k48_open {w : World} {x : S48} {cs : List Value} (h : k48.K w x cs) : ∃ A4 c4, cs = [.string x.f0, .int .i64 x.f1, .int .i64 x.f2.f0, .int .i64 x.f2.f1, .slice A4 x.f2.f2.length c4] ∧ x.f2.f2.length ≤ c4 ∧ k44.C w A4 x.f2.f2.length x.f2.f2 := by
  obtain ⟨_, _, rfl, rfl, ⟨_, _, rfl, rfl, s2⟩⟩ := h
  obtain ⟨A4, c4, rfl, l4, g4⟩ := k44_open s2
  exact ⟨A4, c4, rfl, l4, g4⟩
theorem k48_mk (w : World) (x : S48) {A4 : Option Addr} {c4 : Nat} (l4 : x.f2.f2.length ≤ c4) (g4 : k44.C w A4 x.f2.f2.length x.f2.f2) : k48.K w x [.string x.f0, .int .i64 x.f1, .int .i64 x.f2.f0, .int .i64 x.f2.f1, .slice A4 x.f2.f2.length c4] := ⟨[.string x.f0], [.int .i64 x.f1, .int .i64 x.f2.f0, .int .i64 x.f2.f1, .slice A4 x.f2.f2.length c4], rfl, rfl, ⟨[.int .i64 x.f1], [.int .i64 x.f2.f0, .int .i64 x.f2.f1, .slice A4 x.f2.f2.length c4], rfl, rfl, (k44_mk w x.f2 l4 g4)⟩⟩
theorem k48_mkF (W : World) (ok : Nat → Prop) (x : S48) {A4 : Option Addr} {c4 : Nat} (l4 : x.f2.f2.length ≤ c4) (g4 : Kd.F k44 W ok A4 x.f2.f2.length x.f2.f2) : Kd.FK k48 W ok x [.string x.f0, .int .i64 x.f1, .int .i64 x.f2.f0, .int .i64 x.f2.f1, .slice A4 x.f2.f2.length c4] := fun W2 hW => k48_mk W2 x l4 (g4 W2 hW)
def rd_T48 (xs : List S48) (i : Int) : S48 := xs.getD i.toNat z48
theorem at_T48 {w : World} {A : Option Addr} {n : Nat} {xs : List S48} (h : Kd.C k48 w A n xs) (i : Int) (h0 : 0 ≤ i) (h1 : i < n) : ∃ ad A4 c4, A = some ad ∧ w.cell? (ad.add (i.toNat * 5)) = some (.string (rd_T48 xs i).f0) ∧ w.cell? ⟨(ad.add (i.toNat * 5)).block, (ad.add (i.toNat * 5)).off + 1, none⟩ = some (.int .i64 (rd_T48 xs i).f1) ∧ w.cell? ⟨(ad.add (i.toNat * 5)).block, (ad.add (i.toNat * 5)).off + 2, none⟩ = some (.int .i64 (rd_T48 xs i).f2.f0) ∧ w.cell? ⟨(ad.add (i.toNat * 5)).block, (ad.add (i.toNat * 5)).off + 3, none⟩ = some (.int .i64 (rd_T48 xs i).f2.f1) ∧ w.cell? ⟨(ad.add (i.toNat * 5)).block, (ad.add (i.toNat * 5)).off + 4, none⟩ = some (.slice A4 (rd_T48 xs i).f2.f2.length c4) ∧ (rd_T48 xs i).f2.f2.length ≤ c4 ∧ k44.C w A4 (rd_T48 xs i).f2.f2.length (rd_T48 xs i).f2.f2 := by
  obtain ⟨ad, c, e, _, hK, hc0⟩ := Kd.C_get h z48 i h0 h1
  have hc : ∀ j u, c[j]? = some u → w.cell? (ad.add (i.toNat * 5 + j)) = some u := hc0
  obtain ⟨A4, c4, rfl, l4, g4⟩ := k48_open hK
  exact ⟨ad, A4, c4, e, hc 0 _ rfl, by rw [← add_field _ _ 1 (by omega)]; exact hc 1 _ rfl, by rw [← add_field _ _ 2 (by omega)]; exact hc 2 _ rfl, by rw [← add_field _ _ 3 (by omega)]; exact hc 3 _ rfl, by rw [← add_field _ _ 4 (by omega)]; exact hc 4 _ rfl, l4, g4⟩
structure S41 where
  f0 : (List S41)
def z41 : S41 := ⟨([] : List S41)⟩
def F41 (d : Kd S41) : Kd S41 := Kd.iso (Kd.slice 41 d) (fun x : S41 => x.f0)
theorem mono41 : Kd.Mono F41 := Kd.mono_iso _ (Kd.mono_slice 41 Kd.mono_id)
theorem sub41 : Kd.Sub F41 [41] := Kd.sub_iso _ (Kd.sub_slice 41 (by decide) Kd.sub_id)
theorem sz41 : ∀ n, (Kd.upto F41 1 [41] n).sz = 1 := Kd.upto_sz (fun _ => rfl)
def k41 : Kd S41 := Kd.fix F41 1 [41] sz41 (Kd.upto_E sub41)
theorem k41_heap : Kd.Heap k41 := Kd.heap_fix (fun _ h_ => Kd.heap_iso _ (Kd.heap_slice 41 h_))
theorem k41_open {w : World} {x : S41} {cs : List Value} (h : k41.K w x cs) : ∃ A0 c0, cs = [.slice A0 x.f0.length c0] ∧ x.f0.length ≤ c0 ∧ k41.C w A0 x.f0.length x.f0 := by
  obtain ⟨n, h⟩ := h
  cases n with
  | zero => exact h.elim
  | succ n =>
    obtain ⟨A0, c0, rfl, l0, g0⟩ := h
    exact ⟨A0, c0, rfl, l0, Kd.fix_C g0⟩
theorem k41_openM {w : World} {base : Nat} {ok : Nat → Prop} {x : S41} {cs : List Value} (h : k41.M w base ok x cs) : ∃ v0, cs = [v0] ∧ k41.R 41 w base ok v0 x.f0 := by
  obtain ⟨n, h⟩ := h
  cases n with
  | zero => exact h.elim
  | succ n =>
    obtain ⟨v0, rfl, g0⟩ := h
    exact ⟨v0, rfl, Kd.fix_R g0⟩
theorem k41_mk (w : World) (x : S41) {A0 : Option Addr} {c0 : Nat} (l0 : x.f0.length ≤ c0) (g0 : k41.C w A0 x.f0.length x.f0) : k41.K w x [.slice A0 x.f0.length c0] := by
  obtain ⟨n0, q0⟩ := Kd.fix_C_back mono41 g0
  have r0 := Kd.upto_C_le mono41 sz41 (show n0 ≤ n0 by omega) q0
  exact ⟨n0 + 1, ⟨A0, c0, rfl, l0, r0⟩⟩
theorem k41_mkM (w : World) (base : Nat) (ok : Nat → Prop) (x : S41) {v0 : Value} (g0 : k41.R 41 w base ok v0 x.f0) : k41.M w base ok x [v0] := by
  obtain ⟨n0, q0⟩ := Kd.fix_R_back mono41 g0
  have r0 := Kd.upto_R_le mono41 sz41 (show n0 ≤ n0 by omega) q0
  exact ⟨n0 + 1, ⟨v0, rfl, r0⟩⟩
theorem k41_openF {W : World} {ok : Nat → Prop} {x : S41} {cs : List Value} (h : Kd.FK k41 W ok x cs) : ∃ A0 c0, cs = [.slice A0 x.f0.length c0] ∧ x.f0.length ≤ c0 ∧ Kd.F k41 W ok A0 x.f0.length x.f0 := by
  obtain ⟨A0, c0, rfl, l0, _⟩ := k41_open (Kd.FK_now h)
  exact ⟨A0, c0, rfl, l0, (fun W' hW => by obtain ⟨A0_, c0_, he, l0_, g0_⟩ := k41_open (h W' hW); injection (Option.some.inj (show some (Value.slice A0 x.f0.length c0) = some (Value.slice A0_ x.f0.length c0_) from congrArg (fun l => l[0]?) he)) with ha_ _ _; rw [ha_]; exact g0_)⟩
theorem k41_mkF (W : World) (ok : Nat → Prop) (x : S41) {A0 : Option Addr} {c0 : Nat} (l0 : x.f0.length ≤ c0) (g0 : Kd.F k41 W ok A0 x.f0.length x.f0) : Kd.FK k41 W ok x [.slice A0 x.f0.length c0] := fun W2 hW => k41_mk W2 x l0 (g0 W2 hW)
def rd_T41 (xs : List S41) (i : Int) : S41 := xs.getD i.toNat z41
theorem at_T41 {w : World} {A : Option Addr} {n : Nat} {xs : List S41} (h : Kd.C k41 w A n xs) (i : Int) (h0 : 0 ≤ i) (h1 : i < n) : ∃ ad A0 c0, A = some ad ∧ w.cell? (ad.add i.toNat) = some (.slice A0 (rd_T41 xs i).f0.length c0) ∧ (rd_T41 xs i).f0.length ≤ c0 ∧ k41.C w A0 (rd_T41 xs i).f0.length (rd_T41 xs i).f0 := by
  obtain ⟨ad, c, e, _, hK, hc0⟩ := Kd.C_get h z41 i h0 h1
  have hc : ∀ j u, c[j]? = some u → w.cell? (ad.add (i.toNat * 1 + j)) = some u := hc0
  obtain ⟨A0, c0, rfl, l0, g0⟩ := k41_open hK
  exact ⟨ad, A0, c0, e, by have hq := hc 0 _ rfl; rwa [Nat.mul_one, Nat.add_zero] at hq, l0, g0⟩
structure S56 where
  f0 : ByteArray
  f1 : Int
  f2 : S44
def z56 : S56 := ⟨(⟨#[]⟩ : ByteArray), (0 : Int), z44⟩
def k56 : Kd S56 := Kd.iso (Kd.pair Kd.string (Kd.pair (Kd.int .i64) k44)) (fun x : S56 => (x.f0, x.f1, x.f2))
theorem k56_heap : Kd.Heap k56 := Kd.heap_iso _ (Kd.heap_pair Kd.heap_string (Kd.heap_pair (Kd.heap_int .i64) k44_heap))
theorem k56_open {w : World} {x : S56} {cs : List Value} (h : k56.K w x cs) : ∃ A4 c4, cs = [.string x.f0, .int .i64 x.f1, .int .i64 x.f2.f0, .int .i64 x.f2.f1, .slice A4 x.f2.f2.length c4] ∧ x.f2.f2.length ≤ c4 ∧ k44.C w A4 x.f2.f2.length x.f2.f2 := by
  obtain ⟨_, _, rfl, rfl, ⟨_, _, rfl, rfl, s2⟩⟩ := h
  obtain ⟨A4, c4, rfl, l4, g4⟩ := k44_open s2
  exact ⟨A4, c4, rfl, l4, g4⟩
theorem k56_mk (w : World) (x : S56) {A4 : Option Addr} {c4 : Nat} (l4 : x.f2.f2.length ≤ c4) (g4 : k44.C w A4 x.f2.f2.length x.f2.f2) : k56.K w x [.string x.f0, .int .i64 x.f1, .int .i64 x.f2.f0, .int .i64 x.f2.f1, .slice A4 x.f2.f2.length c4] := ⟨[.string x.f0], [.int .i64 x.f1, .int .i64 x.f2.f0, .int .i64 x.f2.f1, .slice A4 x.f2.f2.length c4], rfl, rfl, ⟨[.int .i64 x.f1], [.int .i64 x.f2.f0, .int .i64 x.f2.f1, .slice A4 x.f2.f2.length c4], rfl, rfl, (k44_mk w x.f2 l4 g4)⟩⟩
theorem k56_openF {W : World} {ok : Nat → Prop} {x : S56} {cs : List Value} (h : Kd.FK k56 W ok x cs) : ∃ A4 c4, cs = [.string x.f0, .int .i64 x.f1, .int .i64 x.f2.f0, .int .i64 x.f2.f1, .slice A4 x.f2.f2.length c4] ∧ x.f2.f2.length ≤ c4 ∧ Kd.F k44 W ok A4 x.f2.f2.length x.f2.f2 := by
  obtain ⟨A4, c4, rfl, l4, _⟩ := k56_open (Kd.FK_now h)
  exact ⟨A4, c4, rfl, l4, (fun W' hW => by obtain ⟨A4_, c4_, he, l4_, g4_⟩ := k56_open (h W' hW); injection (Option.some.inj (show some (Value.slice A4 x.f2.f2.length c4) = some (Value.slice A4_ x.f2.f2.length c4_) from congrArg (fun l => l[4]?) he)) with ha_ _ _; rw [ha_]; exact g4_)⟩
def rd_T56 (xs : List S56) (i : Int) : S56 := xs.getD i.toNat z56
theorem at_T56 {w : World} {A : Option Addr} {n : Nat} {xs : List S56} (h : Kd.C k56 w A n xs) (i : Int) (h0 : 0 ≤ i) (h1 : i < n) : ∃ ad A4 c4, A = some ad ∧ w.cell? (ad.add (i.toNat * 5)) = some (.string (rd_T56 xs i).f0) ∧ w.cell? ⟨(ad.add (i.toNat * 5)).block, (ad.add (i.toNat * 5)).off + 1, none⟩ = some (.int .i64 (rd_T56 xs i).f1) ∧ w.cell? ⟨(ad.add (i.toNat * 5)).block, (ad.add (i.toNat * 5)).off + 2, none⟩ = some (.int .i64 (rd_T56 xs i).f2.f0) ∧ w.cell? ⟨(ad.add (i.toNat * 5)).block, (ad.add (i.toNat * 5)).off + 3, none⟩ = some (.int .i64 (rd_T56 xs i).f2.f1) ∧ w.cell? ⟨(ad.add (i.toNat * 5)).block, (ad.add (i.toNat * 5)).off + 4, none⟩ = some (.slice A4 (rd_T56 xs i).f2.f2.length c4) ∧ (rd_T56 xs i).f2.f2.length ≤ c4 ∧ k44.C w A4 (rd_T56 xs i).f2.f2.length (rd_T56 xs i).f2.f2 := by
  obtain ⟨ad, c, e, _, hK, hc0⟩ := Kd.C_get h z56 i h0 h1
  have hc : ∀ j u, c[j]? = some u → w.cell? (ad.add (i.toNat * 5 + j)) = some u := hc0
  obtain ⟨A4, c4, rfl, l4, g4⟩ := k56_open hK
  exact ⟨ad, A4, c4, e, hc 0 _ rfl, by rw [← add_field _ _ 1 (by omega)]; exact hc 1 _ rfl, by rw [← add_field _ _ 2 (by omega)]; exact hc 2 _ rfl, by rw [← add_field _ _ 3 (by omega)]; exact hc 3 _ rfl, by rw [← add_field _ _ 4 (by omega)]; exact hc 4 _ rfl, l4, g4⟩
structure S114 where
  f0 : Int
  f1 : Int
  f2 : Int
def z114 : S114 := ⟨(0 : Int), (0 : Int), (0 : Int)⟩
def k114 : Kd S114 := Kd.iso (Kd.pair (Kd.int .i64) (Kd.pair (Kd.int .i64) (Kd.int .i64))) (fun x : S114 => (x.f0, x.f1, x.f2))
theorem k114_openM {w : World} {base : Nat} {ok : Nat → Prop} {x : S114} {cs : List Value} (h : k114.M w base ok x cs) : cs = [.int .i64 x.f0, .int .i64 x.f1, .int .i64 x.f2] := by
  obtain ⟨_, _, rfl, rfl, ⟨_, _, rfl, rfl, rfl⟩⟩ := h
  exact rfl
theorem k114_mkM (w : World) (base : Nat) (ok : Nat → Prop) (x : S114)  : k114.M w base ok x [.int .i64 x.f0, .int .i64 x.f1, .int .i64 x.f2] := ⟨[.int .i64 x.f0], [.int .i64 x.f1, .int .i64 x.f2], rfl, rfl, ⟨[.int .i64 x.f1], [.int .i64 x.f2], rfl, rfl, rfl⟩⟩
structure S46 where
  f0 : ByteArray
  f1 : S41
  f2 : S44
def z46 : S46 := ⟨(⟨#[]⟩ : ByteArray), z41, z44⟩
def k46 : Kd S46 := Kd.iso (Kd.pair Kd.string (Kd.pair k41 k44)) (fun x : S46 => (x.f0, x.f1, x.f2))
theorem k46_open {w : World} {x : S46} {cs : List Value} (h : k46.K w x cs) : ∃ A1 c1 A4 c4, cs = [.string x.f0, .slice A1 x.f1.f0.length c1, .int .i64 x.f2.f0, .int .i64 x.f2.f1, .slice A4 x.f2.f2.length c4] ∧ x.f1.f0.length ≤ c1 ∧ k41.C w A1 x.f1.f0.length x.f1.f0 ∧ x.f2.f2.length ≤ c4 ∧ k44.C w A4 x.f2.f2.length x.f2.f2 := by
  obtain ⟨_, _, rfl, rfl, ⟨_, _, rfl, s1, s2⟩⟩ := h
  obtain ⟨A1, c1, rfl, l1, g1⟩ := k41_open s1
  obtain ⟨A4, c4, rfl, l4, g4⟩ := k44_open s2
  exact ⟨A1, c1, A4, c4, rfl, l1, g1, l4, g4⟩
theorem k46_mkM (w : World) (base : Nat) (ok : Nat → Prop) (x : S46) {v1 : Value} (g1 : k41.R 41 w base ok v1 x.f1.f0) {v4 : Value} (g4 : k44.R 44 w base ok v4 x.f2.f2) : k46.M w base ok x [.string x.f0, v1, .int .i64 x.f2.f0, .int .i64 x.f2.f1, v4] := ⟨[.string x.f0], [v1, .int .i64 x.f2.f0, .int .i64 x.f2.f1, v4], rfl, rfl, ⟨[v1], [.int .i64 x.f2.f0, .int .i64 x.f2.f1, v4], rfl, (k41_mkM w base ok x.f1 g1), (k44_mkM w base ok x.f2 g4)⟩⟩
def rd_T46 (xs : List S46) (i : Int) : S46 := xs.getD i.toNat z46
theorem at_T46 {w : World} {A : Option Addr} {n : Nat} {xs : List S46} (h : Kd.C k46 w A n xs) (i : Int) (h0 : 0 ≤ i) (h1 : i < n) : ∃ ad A1 c1 A4 c4, A = some ad ∧ w.cell? (ad.add (i.toNat * 5)) = some (.string (rd_T46 xs i).f0) ∧ w.cell? ⟨(ad.add (i.toNat * 5)).block, (ad.add (i.toNat * 5)).off + 1, none⟩ = some (.slice A1 (rd_T46 xs i).f1.f0.length c1) ∧ w.cell? ⟨(ad.add (i.toNat * 5)).block, (ad.add (i.toNat * 5)).off + 2, none⟩ = some (.int .i64 (rd_T46 xs i).f2.f0) ∧ w.cell? ⟨(ad.add (i.toNat * 5)).block, (ad.add (i.toNat * 5)).off + 3, none⟩ = some (.int .i64 (rd_T46 xs i).f2.f1) ∧ w.cell? ⟨(ad.add (i.toNat * 5)).block, (ad.add (i.toNat * 5)).off + 4, none⟩ = some (.slice A4 (rd_T46 xs i).f2.f2.length c4) ∧ (rd_T46 xs i).f1.f0.length ≤ c1 ∧ k41.C w A1 (rd_T46 xs i).f1.f0.length (rd_T46 xs i).f1.f0 ∧ (rd_T46 xs i).f2.f2.length ≤ c4 ∧ k44.C w A4 (rd_T46 xs i).f2.f2.length (rd_T46 xs i).f2.f2 := by
  obtain ⟨ad, c, e, _, hK, hc0⟩ := Kd.C_get h z46 i h0 h1
  have hc : ∀ j u, c[j]? = some u → w.cell? (ad.add (i.toNat * 5 + j)) = some u := hc0
  obtain ⟨A1, c1, A4, c4, rfl, l1, g1, l4, g4⟩ := k46_open hK
  exact ⟨ad, A1, c1, A4, c4, e, hc 0 _ rfl, by rw [← add_field _ _ 1 (by omega)]; exact hc 1 _ rfl, by rw [← add_field _ _ 2 (by omega)]; exact hc 2 _ rfl, by rw [← add_field _ _ 3 (by omega)]; exact hc 3 _ rfl, by rw [← add_field _ _ 4 (by omega)]; exact hc 4 _ rfl, l1, g1, l4, g4⟩
end Go.Proofs.Ytfhgoebgnilfaaa.I
namespace Go.Proofs.Ytfhgoebgnilfaaa.VOpen
open Go.RowKit Go.Proofs.YtfhgoebgnilfaaaW.PrintWords
set_option linter.unusedVariables false
set_option linter.unusedSimpArgs false
section
variable {H : Type} {enc : TypeId × Value → H} {P : Program} {w : World} {base : Nat} {sp : Nat → Bool} {held : Bool} {n : Nat} {t : TypeId} {cs : List Value} {x : DataW H × List MemPlace} {α : Type}
theorem list_of (len : Nat) (Q : Nat → α → Prop) (h : ∀ i, i < len → ∃ y, Q i y) : ∃ l : List α, l.length = len ∧ ∀ i y, l[i]? = some y → Q i y := by
  induction len with
  | zero => exact ⟨[], rfl, fun i y hy => by simp at hy⟩
  | succ k ih =>
    obtain ⟨l, hl, hq⟩ := ih (fun i hi => h i (by omega))
    obtain ⟨y, hy⟩ := h k (by omega)
    refine ⟨l ++ [y], by simp [hl], fun i z hz => ?_⟩
    rcases Nat.lt_or_ge i l.length with hi | hi
    · rw [List.getElem?_append_left hi] at hz
      exact hq i z hz
    · have he : i = l.length := by
        have := (List.getElem?_eq_some_iff.1 hz).1
        simp at this
        omega
      subst he
      have : y = z := by simpa using hz
      subst this
      rw [hl]
      exact hy
theorem slice_open (d : Kd α) (Wf : α → Prop) {e : TypeId} (ht : P.underlying t = some (.slice e)) (hc : P.cellsOf e = d.sz)
    (ih : ∀ m, m < n → ∀ cs x, DataW.trod enc P w base sp held m e cs = some x → ∃ y, d.K w y cs ∧ Wf y)
    (h : DataW.trod enc P w base sp held n t cs = some x) :
    ∃ A c l, cs = [.slice A l.length c] ∧ l.length ≤ c ∧ d.C w A l.length l ∧ l.length ≤ 9223372036854775807 ∧ ∀ y ∈ l, Wf y := by
  rcases DataW.trod_slice ht h with ⟨rfl, _⟩ | ⟨a, len, cap, elems, rest, m, rfl, rfl, _, hb, hl, hm, hel, hat, _⟩
  · exact ⟨none, 0, [], rfl, Nat.le_refl _, Kd.C_nil d w, by simp, fun y hy => by simp at hy⟩
  · obtain ⟨l, hll, hq⟩ := list_of len (fun i y => Wf y ∧ ∃ csi, csi.length = d.sz ∧ d.K w y csi ∧ ∀ j u, csi[j]? = some u → w.cell? (a.add (i * d.sz + j)) = some u) (fun i hi => by
      have h1 := hat i hi
      rw [List.getElem?_eq_getElem (by omega : i < elems.length), Option.bind_eq_some_iff] at h1
      obtain ⟨csi, h2, h3⟩ := h1
      obtain ⟨y, hk, hw⟩ := ih m (by omega) csi _ h3
      refine ⟨y, hw, csi, d.K_len hk, hk, fun j u hu => ?_⟩
      have hlen := d.K_len hk
      have hj : j < csi.length := (List.getElem?_eq_some_iff.1 hu).1
      unfold World.cells? at h2
      split at h2
      · have h4 := mapM_some_get h2 j j (by rw [hc, ← hlen]; simp [hj])
        rw [hu] at h4
        rw [← Addr.add_add, ← hc]
        exact h4
      · cases h2)
    refine ⟨some a, cap, l, by rw [hll], by omega, ⟨rfl, by simp only [maxLen] at hm; omega, fun _ => ⟨a, rfl, fun j p hj => ?_⟩⟩, by simp only [maxLen] at hm; omega, fun y hy => ?_⟩
    · obtain ⟨_, csi, h1, h2, h3⟩ := hq j p hj
      exact ⟨csi, h1, h2, h3⟩
    · obtain ⟨i, hi, rfl⟩ := List.getElem_of_mem hy
      exact (hq i _ (List.getElem?_eq_getElem hi)).1
theorem int_open {k : IntKind} (ht : P.underlying t = some (.int k)) (h : DataW.trod enc P w base sp held n t cs = some x) : ∃ a, cs = [.int k a] ∧ (Lit.int k a).wf = true := by
  obtain ⟨a, h1, _, h2⟩ := DataW.trod_int ht h
  exact ⟨a, h1, h2⟩
theorem str_open (ht : P.underlying t = some .string) (h : DataW.trod enc P w base sp held n t cs = some x) : ∃ a : ByteArray, cs = [.string a] ∧ a.size ≤ 9223372036854775807 := by
  obtain ⟨a, h1, _, h2⟩ := DataW.trod_string ht h
  exact ⟨a, h1, by simpa [maxLen] using h2⟩
theorem field_open {fs : Array Field} (ht : P.underlying t = some (.struct fs)) (h : DataW.trod enc P w base sp held n t cs = some x) :
    ∃ m, n = m + 1 ∧ cs.length = P.cellsOf t ∧ ∀ (i : Nat) (f : Field), fs[i]? = some f → ∃ y, DataW.trod enc P w base sp held m f.type ((cs.drop f.offset).take (P.cellsOf f.type)) = some y := by
  obtain ⟨xs, m, h1, _, h3, h4, h5⟩ := DataW.trod_struct ht h
  refine ⟨m, h1, h3, fun i f hf => ?_⟩
  have h6 := h5 i f hf
  have hi : i < xs.length := by rw [h4]; exact (Array.getElem?_eq_some_iff.1 hf).1
  rw [List.getElem?_eq_getElem hi] at h6
  exact ⟨_, h6⟩
end
end Go.Proofs.Ytfhgoebgnilfaaa.VOpen
namespace Go.Proofs.Ytfhgoebgnilfaaa.I
open Go.RowKit Go.Proofs.YtfhgoebgnilfaaaW.PrintWords Go.Proofs.Ytfhgoebgnilfaaa.VOpen
set_option linter.unusedVariables false
set_option linter.unusedSimpArgs false
def wf59 (x : S59) : Prop := x.f0.size ≤ 9223372036854775807 ∧ (Lit.int .i64 x.f1).wf = true
def Opened59 (w : World) (cs : List Value) (y : S59) : Prop := cs = [.string y.f0, .int .i64 y.f1]
theorem K59 {w : World} {cs : List Value} (h : ∃ y, Opened59 w cs y ∧ wf59 y) : ∃ y, k59.K w y cs ∧ wf59 y := by
  obtain ⟨y, h, hw⟩ := h
  obtain rfl := h
  exact ⟨y, k59_mk w y , hw⟩
set_option maxRecDepth 10000 in
theorem open59 {H : Type} {enc : TypeId × Value → H} {w : World} {base : Nat} {sp : Nat → Bool} {held : Bool} (n : Nat) : ∀ (cs : List Value) (x : DataW H × List MemPlace), DataW.trod enc Try.prog w base sp held n 59 cs = some x → ∃ y : S59, Opened59 w cs y ∧ wf59 y := by
  intro cs x h
  obtain ⟨m, rfl, hl, hf⟩ := field_open Try.underlying59 h
  have hl2 : cs.length = 2 := hl.trans (by kernel_rfl)
  obtain ⟨z0, z1, rfl⟩ : ∃ z0 z1, cs = [z0, z1] := by
    match cs, hl2 with
    | [z0, z1], _ => exact ⟨z0, z1, rfl⟩
  clear hl hl2 h
  obtain ⟨y0, h0⟩ := hf 0 _ rfl
  have h0' : DataW.trod enc Try.prog w base sp held m 9 [z0] = some y0 := h0
  obtain ⟨a0, e0, w0⟩ := str_open Try.underlying9 h0'
  injection e0 with e0 _; subst e0
  obtain ⟨y1, h1⟩ := hf 1 _ rfl
  have h1' : DataW.trod enc Try.prog w base sp held m 3 [z1] = some y1 := h1
  obtain ⟨a1, e1, w1⟩ := int_open Try.underlying3 h1'
  injection e1 with e1 _; subst e1
  exact ⟨⟨a0, a1⟩, rfl, ⟨w0, w1⟩⟩
mutual
def wf44 : S44 → Prop
  | ⟨f0, f1, f2⟩ => (Lit.int .i64 f0).wf = true ∧ (Lit.int .i64 f1).wf = true ∧ f2.length ≤ 9223372036854775807 ∧ wf44L f2
def wf44L : List S44 → Prop
  | [] => True
  | x :: xs => wf44 x ∧ wf44L xs
end
theorem wf44L_of : ∀ {l : List S44}, (∀ y, y ∈ l → wf44 y) → wf44L l
  | [], _ => trivial
  | x :: xs, h => ⟨h x (by simp), wf44L_of (fun y hy => h y (by simp [hy]))⟩
def Opened44 (w : World) (cs : List Value) (y : S44) : Prop := ∃ A2 c2, cs = [.int .i64 y.f0, .int .i64 y.f1, .slice A2 y.f2.length c2] ∧ y.f2.length ≤ c2 ∧ Kd.C k44 w A2 y.f2.length y.f2
theorem K44 {w : World} {cs : List Value} (h : ∃ y, Opened44 w cs y ∧ wf44 y) : ∃ y, k44.K w y cs ∧ wf44 y := by
  obtain ⟨y, h, hw⟩ := h
  obtain ⟨A2, c2, rfl, l2, g2⟩ := h
  exact ⟨y, k44_mk w y l2 g2, hw⟩
set_option maxRecDepth 10000 in
theorem open44 {H : Type} {enc : TypeId × Value → H} {w : World} {base : Nat} {sp : Nat → Bool} {held : Bool} (n : Nat) : ∀ (cs : List Value) (x : DataW H × List MemPlace), DataW.trod enc Try.prog w base sp held n 44 cs = some x → ∃ y : S44, Opened44 w cs y ∧ wf44 y := by
  induction n using Nat.strongRecOn with
  | _ n ih =>
    intro cs x h
    obtain ⟨m, rfl, hl, hf⟩ := field_open Try.underlying44 h
    have hl2 : cs.length = 3 := hl.trans (by kernel_rfl)
    obtain ⟨z0, z1, z2, rfl⟩ : ∃ z0 z1 z2, cs = [z0, z1, z2] := by
      match cs, hl2 with
      | [z0, z1, z2], _ => exact ⟨z0, z1, z2, rfl⟩
    clear hl hl2 h
    obtain ⟨y0, h0⟩ := hf 0 _ rfl
    have h0' : DataW.trod enc Try.prog w base sp held m 3 [z0] = some y0 := h0
    obtain ⟨a0, e0, w0⟩ := int_open Try.underlying3 h0'
    injection e0 with e0 _; subst e0
    obtain ⟨y1, h1⟩ := hf 1 _ rfl
    have h1' : DataW.trod enc Try.prog w base sp held m 3 [z1] = some y1 := h1
    obtain ⟨a1, e1, w1⟩ := int_open Try.underlying3 h1'
    injection e1 with e1 _; subst e1
    obtain ⟨y2, h2⟩ := hf 2 _ rfl
    have h2' : DataW.trod enc Try.prog w base sp held m 42 [z2] = some y2 := h2
    obtain ⟨A2_, c2_, a2, e2, lc2, g2, hl2, hw2⟩ := slice_open k44 (fun y_ => wf44 y_) Try.underlying42 (by kernel_rfl) (fun m_ hm_ cs_ x_ h_ => K44 (ih m_ (by omega) cs_ x_ h_)) h2'
    injection e2 with e2 _; subst e2
    exact ⟨⟨a0, a1, a2⟩, ⟨A2_, c2_, rfl, lc2, g2⟩, ⟨w0, w1, hl2, wf44L_of hw2⟩⟩
def wf56 (x : S56) : Prop := x.f0.size ≤ 9223372036854775807 ∧ (Lit.int .i64 x.f1).wf = true ∧ wf44 x.f2
def Opened56 (w : World) (cs : List Value) (y : S56) : Prop := ∃ A4 c4, cs = [.string y.f0, .int .i64 y.f1, .int .i64 y.f2.f0, .int .i64 y.f2.f1, .slice A4 y.f2.f2.length c4] ∧ y.f2.f2.length ≤ c4 ∧ Kd.C k44 w A4 y.f2.f2.length y.f2.f2
theorem K56 {w : World} {cs : List Value} (h : ∃ y, Opened56 w cs y ∧ wf56 y) : ∃ y, k56.K w y cs ∧ wf56 y := by
  obtain ⟨y, h, hw⟩ := h
  obtain ⟨A4, c4, rfl, l4, g4⟩ := h
  exact ⟨y, k56_mk w y l4 g4, hw⟩
set_option maxRecDepth 10000 in
theorem open56 {H : Type} {enc : TypeId × Value → H} {w : World} {base : Nat} {sp : Nat → Bool} {held : Bool} (n : Nat) : ∀ (cs : List Value) (x : DataW H × List MemPlace), DataW.trod enc Try.prog w base sp held n 56 cs = some x → ∃ y : S56, Opened56 w cs y ∧ wf56 y := by
  intro cs x h
  obtain ⟨m, rfl, hl, hf⟩ := field_open Try.underlying56 h
  have hl2 : cs.length = 5 := hl.trans (by kernel_rfl)
  obtain ⟨z0, z1, z2, z3, z4, rfl⟩ : ∃ z0 z1 z2 z3 z4, cs = [z0, z1, z2, z3, z4] := by
    match cs, hl2 with
    | [z0, z1, z2, z3, z4], _ => exact ⟨z0, z1, z2, z3, z4, rfl⟩
  clear hl hl2 h
  obtain ⟨y0, h0⟩ := hf 0 _ rfl
  have h0' : DataW.trod enc Try.prog w base sp held m 9 [z0] = some y0 := h0
  obtain ⟨a0, e0, w0⟩ := str_open Try.underlying9 h0'
  injection e0 with e0 _; subst e0
  obtain ⟨y1, h1⟩ := hf 1 _ rfl
  have h1' : DataW.trod enc Try.prog w base sp held m 3 [z1] = some y1 := h1
  obtain ⟨a1, e1, w1⟩ := int_open Try.underlying3 h1'
  injection e1 with e1 _; subst e1
  obtain ⟨y2, h2⟩ := hf 2 _ rfl
  have h2' : DataW.trod enc Try.prog w base sp held m 44 [z2, z3, z4] = some y2 := h2
  obtain ⟨a2, o2, w2⟩ := open44 m _ _ h2'
  obtain ⟨A2_2, c2_2, e2, lc2_2, g2_2⟩ := o2
  obtain ⟨rfl, rfl, rfl⟩ := (by simpa using e2 : z2 = .int .i64 a2.f0 ∧ z3 = .int .i64 a2.f1 ∧ z4 = .slice A2_2 a2.f2.length c2_2)
  exact ⟨⟨a0, a1, a2⟩, ⟨A2_2, c2_2, rfl, lc2_2, g2_2⟩, ⟨w0, w1, w2⟩⟩
end Go.Proofs.Ytfhgoebgnilfaaa.I
namespace Go.Proofs.Ytfhgoebgnilfaaa.I
open Go.RowKit Go.Proofs.YtfhgoebgnilfaaaW.PrintWords Go.Proofs.YtfhgoebgnilfaaaW.PrintLast Go.Proofs.YtfhgoebgnilfaaaW.PrintMore
attribute [local go_sem] max2_int min2_int max_two min_two max_three min_three max_four min_four   -- for this text's walks alone
set_option linter.unusedVariables false
set_option linter.unusedSimpArgs false
mutual
def term_Name.j0 : Nat → ByteArray → Bool → Option (Bool)
  | 0, _, _ => none
  | k + 1, x0, x22 => if x22 = true then (some false) else (term_Name.l0 k x0 (x0.size : Int) 0)
def term_Name.l0 : Nat → ByteArray → Int → Int → Option (Bool)
  | 0, _, _, _ => none
  | k + 1, x0, x24, x25 => if x25 < x24 then (if 0 ≤ x25 then (if x25 < (x0.size : Int) then (if (bt x0 x25) < 97 then (if (bt x0 x25) < 48 then (if (bt x0 x25) = 95 then (term_Name.l0 k x0 x24 (wrap64 (x25 + 1))) else (some false)) else (if (bt x0 x25) > 57 then (if (bt x0 x25) = 95 then (term_Name.l0 k x0 x24 (wrap64 (x25 + 1))) else (some false)) else (term_Name.l0 k x0 x24 (wrap64 (x25 + 1))))) else (if (bt x0 x25) > 122 then (if (bt x0 x25) < 48 then (if (bt x0 x25) = 95 then (term_Name.l0 k x0 x24 (wrap64 (x25 + 1))) else (some false)) else (if (bt x0 x25) > 57 then (if (bt x0 x25) = 95 then (term_Name.l0 k x0 x24 (wrap64 (x25 + 1))) else (some false)) else (term_Name.l0 k x0 x24 (wrap64 (x25 + 1))))) else (term_Name.l0 k x0 x24 (wrap64 (x25 + 1))))) else (none)) else (none)) else (some true)
end
def term_Name.f (k : Nat) (a0 : ByteArray) : Option (Bool) := if (a0.size : Int) = 0 then (term_Name.j0 k a0 true) else (if (a0.size : Int) > 24 then (term_Name.j0 k a0 true) else (if 0 < (a0.size : Int) then (if (bt a0 0) < 97 then (term_Name.j0 k a0 true) else (term_Name.j0 k a0 (decide ((bt a0 0) > 122)))) else (none)))
set_option maxHeartbeats 8000000 in
set_option maxRecDepth 100000 in
theorem term_Name.calls (k : Nat) (a0 : ByteArray) (r : Bool) (w : World) (h : term_Name.f k a0 = some r) :
    Calls Try.prog 30 #[.string a0] w fun e w' => e = .returned (.bool r) ∧ Drawn0 w w' := by
  have H : (if (a0.size : Int) = 0 then (term_Name.j0 k a0 true) else (if (a0.size : Int) > 24 then (term_Name.j0 k a0 true) else (if 0 < (a0.size : Int) then (if (bt a0 0) < 97 then (term_Name.j0 k a0 true) else (term_Name.j0 k a0 (decide ((bt a0 0) > 122)))) else (none)))) = some r := h
  clear h
  have HC2 := Aside0.mk H
  clear H
  go_enter Try.func30, Try.ntmps30
  go_upto_region 1 with (fail)
  go_cut [22] (fun v22 wc => ∃ (kq : Nat) (x22_1 : Bool), v22 = .bool x22_1 ∧ Aside0 (term_Name.j0 kq a0 x22_1 = some r) ∧ Aside0 (kq ≤ k) ∧ Drawn0 w wc)
  case first =>
    have H := HC2.out
    clear HC2
    by_cases c3 : (a0.size : Int) = 0
    · rw [if_pos c3] at H
      have c3b0 : ((a0.size : Int) == 0) = true := beq_iff_eq.mpr c3
      have c3b1 : ((a0.size : Int) != 0) = false := bne_eq_false_iff_eq.mpr c3
      clear c3
      (first | rw [c3b0] | (simp only [i64_w, i32_w]; rw [c3b0]) | skip)
      have H' := Aside0.mk H
      clear H
      go_wp2
      go_meet
      case rel => exact ⟨_, (true), (by first | rfl | (simp; done) | (simp [*]; done)), H', ⟨by first | omega | exact Nat.le_refl _⟩, by repeat (first | exact Drawn0.refl _ | apply Drawn0.step)⟩
    · rw [if_neg c3] at H
      have c3b0 : ((a0.size : Int) == 0) = false := beq_eq_false_iff_ne.mpr c3
      have c3b1 : ((a0.size : Int) != 0) = true := bne_iff_ne.mpr c3
      (first | rw [c3b0] | (simp only [i64_w, i32_w]; rw [c3b0]) | skip)
      by_cases c4 : (a0.size : Int) > 24
      · rw [if_pos c4] at H
        have c4b0 : decide (24 < (a0.size : Int)) = true := decide_eq_true c4
        have c4b1 : decide (24 < a0.size) = true := decide_eq_true (by omega)
        clear c4
        have H' := Aside0.mk H
        clear H
        go_wp2
        go_meet
        case rel => exact ⟨_, (true), (by first | rfl | (simp; done) | (simp [*]; done)), H', ⟨by first | omega | exact Nat.le_refl _⟩, by repeat (first | exact Drawn0.refl _ | apply Drawn0.step)⟩
      · rw [if_neg c4] at H
        have c4b0 : decide (24 < (a0.size : Int)) = false := decide_eq_false c4
        have c4b1 : decide (24 < a0.size) = false := decide_eq_false (by omega)
        clear c4
        by_cases c5 : 0 < (a0.size : Int)
        · rw [if_pos c5] at H
          have c5b0 : decide (0 < (a0.size : Int)) = true := decide_eq_true c5
          have c5b1 : decide (0 < a0.size) = true := decide_eq_true (by omega)
          clear c5
          by_cases c7 : (bt a0 0) < 97
          · rw [if_pos c7] at H
            have c7b0 : decide ((bt a0 0) < 97) = true := decide_eq_true c7
            clear c7
            have H' := Aside0.mk H
            clear H
            have p6 : 0 ≤ (0 : Int) := (by omega)
            have q6 : 0 < a0.size := (by have : (0 : Int) < (a0.size : Int) := of_decide_eq_true (by first | (with_reducible assumption) | assumption); omega)
            have hx6 : ∀ h : 0 < a0.size, ((a0[0]'h).toNat : Int) = bt a0 0 := bt_at a0 0
            clear p6
            have qi6 : (0 < (a0.size : Int)) = True := eq_true (of_decide_eq_true (by first | (with_reducible assumption) | assumption))
            replace q6 := eq_true q6
            go_wp2
            go_meet
            case rel => exact ⟨_, (true), (by first | rfl | (simp; done) | (simp [*]; done)), H', ⟨by first | omega | exact Nat.le_refl _⟩, by repeat (first | exact Drawn0.refl _ | apply Drawn0.step)⟩
          · rw [if_neg c7] at H
            have c7b0 : decide ((bt a0 0) < 97) = false := decide_eq_false c7
            clear c7
            have H' := Aside0.mk H
            clear H
            have p6 : 0 ≤ (0 : Int) := (by omega)
            have q6 : 0 < a0.size := (by have : (0 : Int) < (a0.size : Int) := of_decide_eq_true (by first | (with_reducible assumption) | assumption); omega)
            have hx6 : ∀ h : 0 < a0.size, ((a0[0]'h).toNat : Int) = bt a0 0 := bt_at a0 0
            clear p6
            have qi6 : (0 < (a0.size : Int)) = True := eq_true (of_decide_eq_true (by first | (with_reducible assumption) | assumption))
            replace q6 := eq_true q6
            have p8 : 0 ≤ (0 : Int) := (by omega)
            have q8 : 0 < a0.size := (by have : (0 : Int) < (a0.size : Int) := of_decide_eq_true (by first | (with_reducible assumption) | assumption); omega)
            have hx8 : ∀ h : 0 < a0.size, ((a0[0]'h).toNat : Int) = bt a0 0 := bt_at a0 0
            clear p8
            have qi8 : (0 < (a0.size : Int)) = True := eq_true (of_decide_eq_true (by first | (with_reducible assumption) | assumption))
            replace q8 := eq_true q8
            go_wp2
            go_meet
            case rel => exact ⟨_, (decide ((bt a0 0) > 122)), (by first | rfl | (simp; done) | (simp [*]; done)), H', ⟨by first | omega | exact Nat.le_refl _⟩, by repeat (first | exact Drawn0.refl _ | apply Drawn0.step)⟩
        · rw [if_neg c5] at H
          exact absurd H (by simp)
  case rest =>
    clear HC2
    try clear p2
    try clear c3
    try clear c3b0
    try clear c3b1
    try clear c4
    try clear c4b0
    try clear c4b1
    try clear c5
    try clear c5b0
    try clear c5b1
    try clear p6
    try clear q6
    try clear hx6
    try clear qi6
    try clear c7
    try clear c7b0
    try clear p8
    try clear q8
    try clear hx8
    try clear qi8
    try clear p6
    try clear p8
    try clear q6
    try clear q8
    obtain ⟨kq, x22_1, rfl, HA, HJ1, ⟨mc1, rfl⟩⟩ := hcut
    cases kq with
    | zero => exact absurd HA.out (by simp [term_Name.j0])
    | succ kj1 =>
      have H := HA.out
      clear HA
      simp only [term_Name.j0] at H
      by_cases c9 : x22_1 = true
      · subst c9
        have H1 : (some false) = some r := by rw [if_pos rfl] at H; exact H
        clear H
        have H := H1
        clear H1
        obtain rfl := Option.some.inj H
        go_wp2
        go_ret
        exact ⟨by first | rfl | (simp; done) | (simp [*]; done), by repeat (first | exact Drawn0.refl _ | apply Drawn0.step)⟩
      · replace c9 := Bool.eq_false_iff.mpr c9
        subst c9
        have H1 : (term_Name.l0 kj1 a0 (a0.size : Int) 0) = some r := by rw [if_neg (show ¬ (false = true) by decide)] at H; exact H
        clear H
        have H := H1
        clear H1
        have H' := Aside0.mk H
        clear H
        go_wp2
        go_loopg [25] kj1 (fun kq v25 w' => ∃ (x25_2 : Int), v25 = .int .i64 x25_2 ∧ Aside0 (term_Name.l0 kq a0 (a0.size : Int) x25_2 = some r) ∧ Aside0 (kq ≤ kj1) ∧ Drawn0 w w')
        case atStart => exact ⟨(0), (by first | rfl | (simp; done) | (simp [*]; done)), H', ⟨Nat.le_refl _⟩, by repeat (first | exact Drawn0.refl _ | apply Drawn0.step)⟩
        case round =>
          clear H'
          try clear c1
          try clear p2
          try clear c3
          try clear c3b0
          try clear c3b1
          try clear c4
          try clear c4b0
          try clear c4b1
          try clear c5
          try clear c5b0
          try clear c5b1
          try clear p6
          try clear q6
          try clear hx6
          try clear qi6
          try clear c7
          try clear c7b0
          try clear p8
          try clear q8
          try clear hx8
          try clear qi8
          try clear c9
          try clear p2
          try clear p6
          try clear p8
          try clear q6
          try clear q8
          obtain ⟨x25_2, rfl, HA, HK2, ⟨m2, rfl⟩⟩ := hrel
          cases gk with
          | zero => exact absurd HA.out (by simp [term_Name.l0])
          | succ k2 =>
            have H := HA.out
            clear HA
            simp only [term_Name.l0] at H
            by_cases c10 : x25_2 < (a0.size : Int)
            · rw [if_pos c10] at H
              have c10b0 : decide (x25_2 < (a0.size : Int)) = true := decide_eq_true c10
              clear c10
              by_cases c11 : 0 ≤ x25_2
              · rw [if_pos c11] at H
                have c11b0 : decide (0 ≤ x25_2) = true := decide_eq_true c11
                clear c11
                by_cases c12 : x25_2 < (a0.size : Int)
                · rw [if_pos c12] at H
                  have c12b0 : decide (x25_2 < (a0.size : Int)) = true := decide_eq_true c12
                  clear c12
                  by_cases c14 : (bt a0 x25_2) < 97
                  · rw [if_pos c14] at H
                    have c14b0 : decide ((bt a0 x25_2) < 97) = true := decide_eq_true c14
                    clear c14
                    by_cases c15 : (bt a0 x25_2) < 48
                    · rw [if_pos c15] at H
                      have c15b0 : decide ((bt a0 x25_2) < 48) = true := decide_eq_true c15
                      clear c15
                      by_cases c16 : (bt a0 x25_2) = 95
                      · rw [if_pos c16] at H
                        have c16b0 : ((bt a0 x25_2) == 95) = true := beq_iff_eq.mpr c16
                        have c16b1 : ((bt a0 x25_2) != 95) = false := bne_eq_false_iff_eq.mpr c16
                        clear c16
                        have H' := Aside0.mk H
                        clear H
                        have p13 : 0 ≤ (x25_2 : Int) := of_decide_eq_true (by first | (with_reducible assumption) | assumption)
                        have q13 : x25_2 < (a0.size : Int) := of_decide_eq_true (by first | (with_reducible assumption) | assumption)
                        have hx13 := bt_at a0 x25_2
                        replace p13 := eq_true p13
                        replace q13 := eq_true q13
                        go_wp2
                        go_roundg k2
                        case measure => have := HJ1.out; have := HK2.out; omega
                        case rel => exact ⟨(wrap64 (x25_2 + 1)), (by first | rfl | (simp; done) | (simp [*]; done)), H', ⟨by have := HJ1.out; have := HK2.out; omega⟩, by repeat (first | exact Drawn0.refl _ | apply Drawn0.step)⟩
                      · rw [if_neg c16] at H
                        have c16b0 : ((bt a0 x25_2) == 95) = false := beq_eq_false_iff_ne.mpr c16
                        have c16b1 : ((bt a0 x25_2) != 95) = true := bne_iff_ne.mpr c16
                        obtain rfl := Option.some.inj H
                        have p13 : 0 ≤ (x25_2 : Int) := of_decide_eq_true (by first | (with_reducible assumption) | assumption)
                        have q13 : x25_2 < (a0.size : Int) := of_decide_eq_true (by first | (with_reducible assumption) | assumption)
                        have hx13 := bt_at a0 x25_2
                        replace p13 := eq_true p13
                        replace q13 := eq_true q13
                        go_wp2
                        go_ret
                        exact ⟨by first | rfl | (simp; done) | (simp [*]; done), by repeat (first | exact Drawn0.refl _ | apply Drawn0.step)⟩
                    · rw [if_neg c15] at H
                      have c15b0 : decide ((bt a0 x25_2) < 48) = false := decide_eq_false c15
                      clear c15
                      by_cases c17 : (bt a0 x25_2) > 57
                      · rw [if_pos c17] at H
                        have c17b0 : decide (57 < (bt a0 x25_2)) = true := decide_eq_true c17
                        clear c17
                        by_cases c18 : (bt a0 x25_2) = 95
                        · rw [if_pos c18] at H
                          have c18b0 : ((bt a0 x25_2) == 95) = true := beq_iff_eq.mpr c18
                          have c18b1 : ((bt a0 x25_2) != 95) = false := bne_eq_false_iff_eq.mpr c18
                          clear c18
                          have H' := Aside0.mk H
                          clear H
                          have p13 : 0 ≤ (x25_2 : Int) := of_decide_eq_true (by first | (with_reducible assumption) | assumption)
                          have q13 : x25_2 < (a0.size : Int) := of_decide_eq_true (by first | (with_reducible assumption) | assumption)
                          have hx13 := bt_at a0 x25_2
                          replace p13 := eq_true p13
                          replace q13 := eq_true q13
                          go_wp2
                          go_roundg k2
                          case measure => have := HJ1.out; have := HK2.out; omega
                          case rel => exact ⟨(wrap64 (x25_2 + 1)), (by first | rfl | (simp; done) | (simp [*]; done)), H', ⟨by have := HJ1.out; have := HK2.out; omega⟩, by repeat (first | exact Drawn0.refl _ | apply Drawn0.step)⟩
                        · rw [if_neg c18] at H
                          have c18b0 : ((bt a0 x25_2) == 95) = false := beq_eq_false_iff_ne.mpr c18
                          have c18b1 : ((bt a0 x25_2) != 95) = true := bne_iff_ne.mpr c18
                          obtain rfl := Option.some.inj H
                          have p13 : 0 ≤ (x25_2 : Int) := of_decide_eq_true (by first | (with_reducible assumption) | assumption)
                          have q13 : x25_2 < (a0.size : Int) := of_decide_eq_true (by first | (with_reducible assumption) | assumption)
                          have hx13 := bt_at a0 x25_2
                          replace p13 := eq_true p13
                          replace q13 := eq_true q13
                          go_wp2
                          go_ret
                          exact ⟨by first | rfl | (simp; done) | (simp [*]; done), by repeat (first | exact Drawn0.refl _ | apply Drawn0.step)⟩
                      · rw [if_neg c17] at H
                        have c17b0 : decide (57 < (bt a0 x25_2)) = false := decide_eq_false c17
                        clear c17
                        have H' := Aside0.mk H
                        clear H
                        have p13 : 0 ≤ (x25_2 : Int) := of_decide_eq_true (by first | (with_reducible assumption) | assumption)
                        have q13 : x25_2 < (a0.size : Int) := of_decide_eq_true (by first | (with_reducible assumption) | assumption)
                        have hx13 := bt_at a0 x25_2
                        replace p13 := eq_true p13
                        replace q13 := eq_true q13
                        go_wp2
                        go_roundg k2
                        case measure => have := HJ1.out; have := HK2.out; omega
                        case rel => exact ⟨(wrap64 (x25_2 + 1)), (by first | rfl | (simp; done) | (simp [*]; done)), H', ⟨by have := HJ1.out; have := HK2.out; omega⟩, by repeat (first | exact Drawn0.refl _ | apply Drawn0.step)⟩
                  · rw [if_neg c14] at H
                    have c14b0 : decide ((bt a0 x25_2) < 97) = false := decide_eq_false c14
                    clear c14
                    by_cases c19 : (bt a0 x25_2) > 122
                    · rw [if_pos c19] at H
                      have c19b0 : decide (122 < (bt a0 x25_2)) = true := decide_eq_true c19
                      clear c19
                      by_cases c20 : (bt a0 x25_2) < 48
                      · rw [if_pos c20] at H
                        have c20b0 : decide ((bt a0 x25_2) < 48) = true := decide_eq_true c20
                        clear c20
                        by_cases c21 : (bt a0 x25_2) = 95
                        · rw [if_pos c21] at H
                          have c21b0 : ((bt a0 x25_2) == 95) = true := beq_iff_eq.mpr c21
                          have c21b1 : ((bt a0 x25_2) != 95) = false := bne_eq_false_iff_eq.mpr c21
                          clear c21
                          have H' := Aside0.mk H
                          clear H
                          have p13 : 0 ≤ (x25_2 : Int) := of_decide_eq_true (by first | (with_reducible assumption) | assumption)
                          have q13 : x25_2 < (a0.size : Int) := of_decide_eq_true (by first | (with_reducible assumption) | assumption)
                          have hx13 := bt_at a0 x25_2
                          replace p13 := eq_true p13
                          replace q13 := eq_true q13
                          go_wp2
                          go_roundg k2
                          case measure => have := HJ1.out; have := HK2.out; omega
                          case rel => exact ⟨(wrap64 (x25_2 + 1)), (by first | rfl | (simp; done) | (simp [*]; done)), H', ⟨by have := HJ1.out; have := HK2.out; omega⟩, by repeat (first | exact Drawn0.refl _ | apply Drawn0.step)⟩
                        · rw [if_neg c21] at H
                          have c21b0 : ((bt a0 x25_2) == 95) = false := beq_eq_false_iff_ne.mpr c21
                          have c21b1 : ((bt a0 x25_2) != 95) = true := bne_iff_ne.mpr c21
                          obtain rfl := Option.some.inj H
                          have p13 : 0 ≤ (x25_2 : Int) := of_decide_eq_true (by first | (with_reducible assumption) | assumption)
                          have q13 : x25_2 < (a0.size : Int) := of_decide_eq_true (by first | (with_reducible assumption) | assumption)
                          have hx13 := bt_at a0 x25_2
                          replace p13 := eq_true p13
                          replace q13 := eq_true q13
                          go_wp2
                          go_ret
                          exact ⟨by first | rfl | (simp; done) | (simp [*]; done), by repeat (first | exact Drawn0.refl _ | apply Drawn0.step)⟩
                      · rw [if_neg c20] at H
                        have c20b0 : decide ((bt a0 x25_2) < 48) = false := decide_eq_false c20
                        clear c20
                        by_cases c22 : (bt a0 x25_2) > 57
                        · rw [if_pos c22] at H
                          have c22b0 : decide (57 < (bt a0 x25_2)) = true := decide_eq_true c22
                          clear c22
                          by_cases c23 : (bt a0 x25_2) = 95
                          · rw [if_pos c23] at H
                            have c23b0 : ((bt a0 x25_2) == 95) = true := beq_iff_eq.mpr c23
                            have c23b1 : ((bt a0 x25_2) != 95) = false := bne_eq_false_iff_eq.mpr c23
                            clear c23
                            have H' := Aside0.mk H
                            clear H
                            have p13 : 0 ≤ (x25_2 : Int) := of_decide_eq_true (by first | (with_reducible assumption) | assumption)
                            have q13 : x25_2 < (a0.size : Int) := of_decide_eq_true (by first | (with_reducible assumption) | assumption)
                            have hx13 := bt_at a0 x25_2
                            replace p13 := eq_true p13
                            replace q13 := eq_true q13
                            go_wp2
                            go_roundg k2
                            case measure => have := HJ1.out; have := HK2.out; omega
                            case rel => exact ⟨(wrap64 (x25_2 + 1)), (by first | rfl | (simp; done) | (simp [*]; done)), H', ⟨by have := HJ1.out; have := HK2.out; omega⟩, by repeat (first | exact Drawn0.refl _ | apply Drawn0.step)⟩
                          · rw [if_neg c23] at H
                            have c23b0 : ((bt a0 x25_2) == 95) = false := beq_eq_false_iff_ne.mpr c23
                            have c23b1 : ((bt a0 x25_2) != 95) = true := bne_iff_ne.mpr c23
                            obtain rfl := Option.some.inj H
                            have p13 : 0 ≤ (x25_2 : Int) := of_decide_eq_true (by first | (with_reducible assumption) | assumption)
                            have q13 : x25_2 < (a0.size : Int) := of_decide_eq_true (by first | (with_reducible assumption) | assumption)
                            have hx13 := bt_at a0 x25_2
                            replace p13 := eq_true p13
                            replace q13 := eq_true q13
                            go_wp2
                            go_ret
                            exact ⟨by first | rfl | (simp; done) | (simp [*]; done), by repeat (first | exact Drawn0.refl _ | apply Drawn0.step)⟩
                        · rw [if_neg c22] at H
                          have c22b0 : decide (57 < (bt a0 x25_2)) = false := decide_eq_false c22
                          clear c22
                          have H' := Aside0.mk H
                          clear H
                          have p13 : 0 ≤ (x25_2 : Int) := of_decide_eq_true (by first | (with_reducible assumption) | assumption)
                          have q13 : x25_2 < (a0.size : Int) := of_decide_eq_true (by first | (with_reducible assumption) | assumption)
                          have hx13 := bt_at a0 x25_2
                          replace p13 := eq_true p13
                          replace q13 := eq_true q13
                          go_wp2
                          go_roundg k2
                          case measure => have := HJ1.out; have := HK2.out; omega
                          case rel => exact ⟨(wrap64 (x25_2 + 1)), (by first | rfl | (simp; done) | (simp [*]; done)), H', ⟨by have := HJ1.out; have := HK2.out; omega⟩, by repeat (first | exact Drawn0.refl _ | apply Drawn0.step)⟩
                    · rw [if_neg c19] at H
                      have c19b0 : decide (122 < (bt a0 x25_2)) = false := decide_eq_false c19
                      clear c19
                      have H' := Aside0.mk H
                      clear H
                      have p13 : 0 ≤ (x25_2 : Int) := of_decide_eq_true (by first | (with_reducible assumption) | assumption)
                      have q13 : x25_2 < (a0.size : Int) := of_decide_eq_true (by first | (with_reducible assumption) | assumption)
                      have hx13 := bt_at a0 x25_2
                      replace p13 := eq_true p13
                      replace q13 := eq_true q13
                      go_wp2
                      go_roundg k2
                      case measure => have := HJ1.out; have := HK2.out; omega
                      case rel => exact ⟨(wrap64 (x25_2 + 1)), (by first | rfl | (simp; done) | (simp [*]; done)), H', ⟨by have := HJ1.out; have := HK2.out; omega⟩, by repeat (first | exact Drawn0.refl _ | apply Drawn0.step)⟩
                · rw [if_neg c12] at H
                  exact absurd H (by simp)
              · rw [if_neg c11] at H
                exact absurd H (by simp)
            · rw [if_neg c10] at H
              have c10b0 : decide (x25_2 < (a0.size : Int)) = false := decide_eq_false c10
              clear c10
              obtain rfl := Option.some.inj H
              go_wp2
              go_ret
              exact ⟨by first | rfl | (simp; done) | (simp [*]; done), by repeat (first | exact Drawn0.refl _ | apply Drawn0.step)⟩
def virgationlaw04_given.l0 : Nat → List (S48) → List (S56) → Int → Int → Option ((List (S48)))
  | 0, _, _, _, _ => none
  | k + 1, x3, x6, x7, x8 => if x8 < x7 then (if 0 ≤ x8 then (if x8 < (x6.length : Int) then (if x3.length < 2199023255552 then (virgationlaw04_given.l0 k (x3 ++ [(⟨(rd_T56 x6 x8).f0, (rd_T56 x6 x8).f1, (⟨(rd_T56 x6 x8).f2.f0, (rd_T56 x6 x8).f2.f1, (rd_T56 x6 x8).f2.f2⟩ : S44)⟩ : S48)]) x6 x7 (wrap64 (x8 + 1))) else (none)) else (none)) else (none)) else (some x3)
def virgationlaw04_given.f (k : Nat) (l0 : List (S56)) : Option ((List (S48))) := virgationlaw04_given.l0 k ([] : List (S48)) l0 (l0.length : Int) 0
set_option maxHeartbeats 8000000 in
set_option maxRecDepth 100000 in
theorem virgationlaw04_given.calls (k : Nat) (P0_ : Nat → Prop) (A0 : Option Addr) (c0 : Nat) (l0 : List (S56)) (r : List (S48)) (w : World) (hs0 : Kd.V k56 56 w w.heap.size (fun k_ => P0_ k_) (.slice A0 l0.length c0) l0) (h : virgationlaw04_given.f k l0 = some r) :
    Calls Try.prog 11 #[.slice A0 l0.length c0] w fun e w' => ∃ v0_ : Value, e = .returned (v0_) ∧ Kd.N k48 48 w' w.heap.size (fun k_ => (P0_ k_ ∨ w.heap.size ≤ k_)) v0_ r ∧ Below w.heap.size w w' := by
  have hu56 := Try.underlying56
  have hu44 := Try.underlying44
  have hu48 := Try.underlying48
  have HO0 := Aside0.mk (show Kd.V k56 56 w w.heap.size (fun k_ => (P0_ k_ ∨ w.heap.size ≤ k_)) (.slice A0 l0.length c0) l0 from Kd.V_mono hs0 (fun k_ hk => .inl hk))
  have HB := Aside0.mk (Below.refl w.heap.size w)
  have H : (virgationlaw04_given.l0 k ([] : List (S48)) l0 (l0.length : Int) 0) = some r := h
  clear h
  have H' := Aside0.mk H
  clear H
  go_enter Try.func11, Try.ntmps11
  go_wp2
  go_loopg [3, 8] k (fun kq v3 v8 w' => ∃ (x3_1 : List (S48)) (x8_1 : Int), v8 = .int .i64 x8_1 ∧ Aside0 (virgationlaw04_given.l0 kq x3_1 l0 (l0.length : Int) x8_1 = some r) ∧ Aside0 (kq ≤ k) ∧ Aside0 (Kd.N k48 48 w' w.heap.size (fun k_ => (P0_ k_ ∨ w.heap.size ≤ k_)) v3 x3_1) ∧ Aside0 (Kd.V k56 56 w' w.heap.size (fun k_ => (P0_ k_ ∨ w.heap.size ≤ k_) ∧ some k_ ≠ (v3 : Value).ownBlock) (.slice A0 l0.length c0) l0) ∧ Aside0 (Below w.heap.size w w'))
  case atStart => exact ⟨(([] : List (S48))), (0), (by first | rfl | (simp; done) | (simp [*]; done)), H', ⟨Nat.le_refl _⟩, ⟨by first | exact Kd.R_nil _ _ _ _ _ | exact Kd.N_nil _ _ _ _ _ | exact Kd.V_nil _ _ _ _ _ | exact Kd.Q_nil _ _ _ _ _ | exact Kd.S_nil _ _ _ _ _⟩, ⟨by (with_reducible repeat (first | apply Kd.V_alloc | apply Kd.V_drewN | apply Kd.V_drew)); exact Kd.V_mono HO0.out (fun _ hk => ⟨hk, (by simp [Value.ownBlock])⟩)⟩, ⟨by repeat (first | (with_reducible first | exact HB.out | apply below_alloc | apply pw_below_drewN | apply below_drew1) | exact HB.out)⟩⟩
  case round =>
    clear H'
    try clear c1
    obtain ⟨x3_1, x8_1, rfl, HA, HK1, HO_3, HO_6, HB⟩ := hrel
    cases gk with
    | zero => exact absurd HA.out (by simp [virgationlaw04_given.l0])
    | succ k1 =>
      have H := HA.out
      clear HA
      simp only [virgationlaw04_given.l0] at H
      by_cases c2 : x8_1 < (l0.length : Int)
      · rw [if_pos c2] at H
        have c2b0 : decide (x8_1 < (l0.length : Int)) = true := decide_eq_true c2
        clear c2
        by_cases c3 : 0 ≤ x8_1
        · rw [if_pos c3] at H
          have c3b0 : decide (0 ≤ x8_1) = true := decide_eq_true c3
          clear c3
          by_cases c4 : x8_1 < (l0.length : Int)
          · rw [if_pos c4] at H
            have c4b0 : decide (x8_1 < (l0.length : Int)) = true := decide_eq_true c4
            clear c4
            by_cases c5 : x3_1.length < 2199023255552
            · rw [if_pos c5] at H
              have LMc5 := Aside0.mk c5
              clear c5
              obtain ⟨y120, hy120⟩ : ∃ y_ : List (S48), y_ = (x3_1 ++ [(⟨(rd_T56 l0 x8_1).f0, (rd_T56 l0 x8_1).f1, (⟨(rd_T56 l0 x8_1).f2.f0, (rd_T56 l0 x8_1).f2.f1, (rd_T56 l0 x8_1).f2.f2⟩ : S44)⟩ : S48)]) := ⟨_, rfl⟩
              replace H : (virgationlaw04_given.l0 k1 y120 l0 (l0.length : Int) (wrap64 (x8_1 + 1))) = some r := by first | (rw [hy120]; with_reducible exact H) | (have H2_ := (Option.bind_some _ _).symm.trans H; rw [hy120]; with_reducible exact H2_) | (have H2_ := (Option.bind_some _ _).symm.trans H; with_reducible exact H2_) | with_reducible exact H | (rw [hy120]; exact H) | exact H
              have Ny120 := Aside0.mk hy120
              clear hy120
              have H' := Aside0.mk H
              clear H
              have p118 : 0 ≤ (x8_1 : Int) := of_decide_eq_true (by first | (with_reducible assumption) | assumption)
              have q118 : x8_1 < (l0.length : Int) := of_decide_eq_true (by first | (with_reducible assumption) | assumption)
              obtain ⟨ad118, A118_4, c118_4, e118, hx118_0, hx118_1, hx118_2, hx118_3, hx118_4, hl118_4, hi118_4⟩ := at_T56 (Kd.V_reads' HO_6.out).2.2 x8_1 p118 q118
              cases e118
              obtain ⟨ce118, hce118, hMe118, hcc118⟩ := Kd.V_get HO_6.out z56 x8_1 p118 (by first | exact q118 | exact of_decide_eq_true (by first | (with_reducible assumption) | assumption) | (have e_ := (Kd.V_reads' HO_6.out).1; omega))
              obtain ⟨ua118_4, uc118_4, rfl, ul118_4, ge118_4⟩ := k56_openF hMe118
              have hv118_4 := hcc118 4 _ rfl
              rw [add_field _ _ 4 (by omega)] at hv118_4
              replace hv118_4 := Option.some.inj (hv118_4.symm.trans hx118_4)
              injection hv118_4 with hva_ hvn_ hvc_
              rw [hva_] at ge118_4
              rw [hvc_] at ul118_4
              have HL118_4 := Aside0.mk (show Kd.V k44 44 _ w.heap.size _ _ ((rd_T56 l0 x8_1).f2.f2) from Kd.V_mk ul118_4 ge118_4)
              clear hva_ hvn_ hvc_ ge118_4 ul118_4
              clear hcc118 hce118
              have HR118_4 := Aside0.mk hi118_4
              have HC118_4 := Aside0.mk hl118_4
              clear hi118_4 hl118_4
              replace p118 := eq_true p118
              replace q118 := eq_true q118
              go_wp2_with (first | ((with_reducible refine gate_dst (N := 5) rfl ?_); refine box_event ?hg (N := 5) ?hd (cs := #[.string (⟨#[]⟩ : ByteArray), .int .i64 0, .int .i64 0, .int .i64 0, .slice none 0 0]) (t := 56) ?hr ?_; (case hd => rfl); (case hg => rfl); (case hr => first | (go_simp; done) | (go_simp; rfl)); intro gb119 hg w6 hbox hb; have n0_ := Aside0.mk (Kd.N_below (Kd.N_elderB (by (with_reducible repeat (first | apply Kd.N_alloc | apply Kd.N_drewN | apply Kd.N_drew)); exact HO_3.out) gb119 (Nat.le_of_eq hg.symm)) hb); have n1_ := Aside0.mk (Kd.V_below (Kd.V_elderB (by (with_reducible repeat (first | apply Kd.V_alloc | apply Kd.V_drewN | apply Kd.V_drew)); exact HO_6.out) gb119 (Nat.le_of_eq hg.symm)) hb); have n2_ := Aside0.mk (Kd.V_below (Kd.V_elderB (by (with_reducible repeat (first | apply Kd.V_alloc | apply Kd.V_drewN | apply Kd.V_drew)); exact HL118_4.out) gb119 (Nat.le_of_eq hg.symm)) hb); have n3_ := Aside0.mk (Kd.C_below (by repeat (first | (with_reducible exact HR118_4.out) | (with_reducible refine Kd.C_alloc ?_ _) | (with_reducible refine Kd.C_drewN ?_ _) | (with_reducible refine Kd.C_drew ?_) | exact HR118_4.out)) hb); have n4_ := Aside0.mk (below_step (by repeat (first | (with_reducible first | exact HB.out | apply below_alloc | apply pw_below_drewN | apply below_drew1) | exact HB.out)) hb); have n5_ := Aside0.mk (hbox); have n6_ := Aside0.mk ((by rw [hg]; exact (below_size (by repeat (first | (with_reducible first | exact HB.out | apply below_alloc | apply pw_below_drewN | apply below_drew1) | exact HB.out))) : w.heap.size ≤ gb119)); have n7_ := Aside0.mk ((by rw [hg]; exact (below_size (by repeat (first | (with_reducible first | exact HB.out | apply below_alloc | apply pw_below_drewN | apply below_drew1) | exact HB.out))) : w.heap.size ≤ gb119)); clear HO_3; clear HO_6; clear HL118_4; clear HR118_4; clear HB; have HO_3 := n0_; have HO_6 := n1_; have HL118_4 := n2_; have HR118_4 := n3_; have HB := n4_; have BK119 := n5_; have GW119 := n6_; have GE119 := n7_; clear n0_ n1_ n2_ n3_ n4_ n5_ n6_ n7_; clear hb hbox hg; have hcz7_0 : w6.cell? ⟨gb119, 0, none⟩ = some (.string (⟨#[]⟩ : ByteArray)) := (blk_cell BK119.out 0).trans rfl; have hcz7_1 : w6.cell? ⟨gb119, 1, none⟩ = some (.int .i64 0) := (blk_cell BK119.out 1).trans rfl; have hcz7_2 : w6.cell? ⟨gb119, 2, none⟩ = some (.int .i64 0) := (blk_cell BK119.out 2).trans rfl; have hcz7_3 : w6.cell? ⟨gb119, 3, none⟩ = some (.int .i64 0) := (blk_cell BK119.out 3).trans rfl; have hcz7_4 : w6.cell? ⟨gb119, 4, none⟩ = some (.slice none 0 0) := (blk_cell BK119.out 4).trans rfl; have hfz7_0 := blk_frozen BK119.out 0; have hfz7_1 := blk_frozen BK119.out 1; have hfz7_2 := blk_frozen BK119.out 2; have hfz7_3 := blk_frozen BK119.out 3; have hfz7_4 := blk_frozen BK119.out 4) | ((with_reducible refine gate_store (t := 56) (p := 5) rfl ?_); refine store_event (t := 56) (p := 5) (v := ?vo_w8) (w1 := (((((w6.setCell ⟨gb119, 0, none⟩ (.string ((rd_T56 l0 x8_1).f0))).setCell ⟨gb119, 1, none⟩ (.int .i64 ((rd_T56 l0 x8_1).f1))).setCell ⟨gb119, 2, none⟩ (.int .i64 ((rd_T56 l0 x8_1).f2.f0))).setCell ⟨gb119, 3, none⟩ (.int .i64 ((rd_T56 l0 x8_1).f2.f1))).setCell ⟨gb119, 4, none⟩ (.slice A118_4 ((rd_T56 l0 x8_1).f2.f2).length c118_4))) ?hg ?ho ?hn ?hr ?_; (case ho => rfl); (case hg => rfl); (case hn => rfl); (case hr => first | (go_simp; done) | (go_simp; rfl)); intro w8 hw; have n0_ : Aside0 (Kd.N k48 48 w8 w.heap.size (fun k_ => (P0_ k_ ∨ w.heap.size ≤ k_) ∧ k_ ≠ gb119) u3 x3_1) := ⟨(by rw [hw]; exact (by (with_reducible repeat (first | apply Kd.N_alloc | apply Kd.N_drewN | apply Kd.N_drew)); exact Kd.N_mono (Kd.N_far (p := ⟨gb119, 4, none⟩) (Kd.N_far (p := ⟨gb119, 3, none⟩) (Kd.N_far (p := ⟨gb119, 2, none⟩) (Kd.N_far (p := ⟨gb119, 1, none⟩) (Kd.N_far (p := ⟨gb119, 0, none⟩) (Kd.N_mono HO_3.out (fun k_ hk => (⟨hk, hk.2⟩ : _ ∧ k_ ≠ gb119))) (fun _ hk => hk.2) (.string ((rd_T56 l0 x8_1).f0))) (fun _ hk => hk.2) (.int .i64 ((rd_T56 l0 x8_1).f1))) (fun _ hk => hk.2) (.int .i64 ((rd_T56 l0 x8_1).f2.f0))) (fun _ hk => hk.2) (.int .i64 ((rd_T56 l0 x8_1).f2.f1))) (fun _ hk => hk.2) (.slice A118_4 ((rd_T56 l0 x8_1).f2.f2).length c118_4)) (fun _ hk => ⟨hk.1.1, hk.1.2⟩)))⟩; have n1_ : Aside0 (Kd.V k56 56 w8 w.heap.size (fun k_ => (P0_ k_ ∨ w.heap.size ≤ k_) ∧ some k_ ≠ (u3 : Value).ownBlock ∧ k_ ≠ gb119) (.slice (some ad118) l0.length c0) l0) := ⟨(by rw [hw]; exact (by (with_reducible repeat (first | apply Kd.V_alloc | apply Kd.V_drewN | apply Kd.V_drew)); exact Kd.V_mono (Kd.V_far (p := ⟨gb119, 4, none⟩) (Kd.V_far (p := ⟨gb119, 3, none⟩) (Kd.V_far (p := ⟨gb119, 2, none⟩) (Kd.V_far (p := ⟨gb119, 1, none⟩) (Kd.V_far (p := ⟨gb119, 0, none⟩) (Kd.V_mono HO_6.out (fun k_ hk => (⟨hk, hk.2⟩ : _ ∧ k_ ≠ gb119))) (fun _ hk => hk.2) (.string ((rd_T56 l0 x8_1).f0))) (fun _ hk => hk.2) (.int .i64 ((rd_T56 l0 x8_1).f1))) (fun _ hk => hk.2) (.int .i64 ((rd_T56 l0 x8_1).f2.f0))) (fun _ hk => hk.2) (.int .i64 ((rd_T56 l0 x8_1).f2.f1))) (fun _ hk => hk.2) (.slice A118_4 ((rd_T56 l0 x8_1).f2.f2).length c118_4)) (fun _ hk => ⟨hk.1.1.1, ⟨hk.1.1.2, hk.1.2⟩⟩)))⟩; have n2_ : Aside0 (Kd.V k44 44 w8 w.heap.size (fun k_ => (P0_ k_ ∨ w.heap.size ≤ k_) ∧ some k_ ≠ (u3 : Value).ownBlock ∧ k_ ≠ gb119) (.slice A118_4 ((rd_T56 l0 x8_1).f2.f2).length c118_4) ((rd_T56 l0 x8_1).f2.f2)) := ⟨(by rw [hw]; exact (by (with_reducible repeat (first | apply Kd.V_alloc | apply Kd.V_drewN | apply Kd.V_drew)); exact Kd.V_mono (Kd.V_far (p := ⟨gb119, 4, none⟩) (Kd.V_far (p := ⟨gb119, 3, none⟩) (Kd.V_far (p := ⟨gb119, 2, none⟩) (Kd.V_far (p := ⟨gb119, 1, none⟩) (Kd.V_far (p := ⟨gb119, 0, none⟩) (Kd.V_mono HL118_4.out (fun k_ hk => (⟨hk, hk.2⟩ : _ ∧ k_ ≠ gb119))) (fun _ hk => hk.2) (.string ((rd_T56 l0 x8_1).f0))) (fun _ hk => hk.2) (.int .i64 ((rd_T56 l0 x8_1).f1))) (fun _ hk => hk.2) (.int .i64 ((rd_T56 l0 x8_1).f2.f0))) (fun _ hk => hk.2) (.int .i64 ((rd_T56 l0 x8_1).f2.f1))) (fun _ hk => hk.2) (.slice A118_4 ((rd_T56 l0 x8_1).f2.f2).length c118_4)) (fun _ hk => ⟨hk.1.1.1, ⟨hk.1.1.2, hk.1.2⟩⟩)))⟩; have n3_ : Aside0 (w8.heap[gb119]? = some (.cells #[.string ((rd_T56 l0 x8_1).f0), .int .i64 ((rd_T56 l0 x8_1).f1), .int .i64 ((rd_T56 l0 x8_1).f2.f0), .int .i64 ((rd_T56 l0 x8_1).f2.f1), .slice A118_4 ((rd_T56 l0 x8_1).f2.f2).length c118_4] 56 (0, 0))) := ⟨(by rw [hw]; exact (by (with_reducible repeat (first | refine blk_drewN ?_ _ | refine blk_drew ?_ | refine blk_alloc ?_ _)); refine blk_put (cs := #[.string ((rd_T56 l0 x8_1).f0), .int .i64 ((rd_T56 l0 x8_1).f1), .int .i64 ((rd_T56 l0 x8_1).f2.f0), .int .i64 ((rd_T56 l0 x8_1).f2.f1), .slice none 0 0]) ?_ 4 _ rfl; (with_reducible repeat (first | refine blk_drewN ?_ _ | refine blk_drew ?_ | refine blk_alloc ?_ _)); refine blk_put (cs := #[.string ((rd_T56 l0 x8_1).f0), .int .i64 ((rd_T56 l0 x8_1).f1), .int .i64 ((rd_T56 l0 x8_1).f2.f0), .int .i64 0, .slice none 0 0]) ?_ 3 _ rfl; (with_reducible repeat (first | refine blk_drewN ?_ _ | refine blk_drew ?_ | refine blk_alloc ?_ _)); refine blk_put (cs := #[.string ((rd_T56 l0 x8_1).f0), .int .i64 ((rd_T56 l0 x8_1).f1), .int .i64 0, .int .i64 0, .slice none 0 0]) ?_ 2 _ rfl; (with_reducible repeat (first | refine blk_drewN ?_ _ | refine blk_drew ?_ | refine blk_alloc ?_ _)); refine blk_put (cs := #[.string ((rd_T56 l0 x8_1).f0), .int .i64 0, .int .i64 0, .int .i64 0, .slice none 0 0]) ?_ 1 _ rfl; (with_reducible repeat (first | refine blk_drewN ?_ _ | refine blk_drew ?_ | refine blk_alloc ?_ _)); refine blk_put (cs := #[.string (⟨#[]⟩ : ByteArray), .int .i64 0, .int .i64 0, .int .i64 0, .slice none 0 0]) ?_ 0 _ rfl; (with_reducible repeat (first | refine blk_drewN ?_ _ | refine blk_drew ?_ | refine blk_alloc ?_ _)); exact BK119.out))⟩; have n4_ : Aside0 (Below w.heap.size w w8) := ⟨(by rw [hw]; exact (by repeat (first | (with_reducible first | exact HB.out | apply below_alloc | apply pw_below_drewN | apply below_drew1 | refine below_set ?_ GE119.out) | exact HB.out)))⟩; clear hw; clear HO_3; clear HO_6; clear HL118_4; clear BK119; clear HB; have HO_3 := n0_; have HO_6 := n1_; have HL118_4 := n2_; have BK119 := n3_; have HB := n4_; clear n0_ n1_ n2_ n3_ n4_; have hcz9_0 : w8.cell? ⟨gb119, 0, none⟩ = some (.string ((rd_T56 l0 x8_1).f0)) := (blk_cell BK119.out 0).trans rfl; have hcz9_1 : w8.cell? ⟨gb119, 1, none⟩ = some (.int .i64 ((rd_T56 l0 x8_1).f1)) := (blk_cell BK119.out 1).trans rfl; have hcz9_2 : w8.cell? ⟨gb119, 2, none⟩ = some (.int .i64 ((rd_T56 l0 x8_1).f2.f0)) := (blk_cell BK119.out 2).trans rfl; have hcz9_3 : w8.cell? ⟨gb119, 3, none⟩ = some (.int .i64 ((rd_T56 l0 x8_1).f2.f1)) := (blk_cell BK119.out 3).trans rfl; have hcz9_4 : w8.cell? ⟨gb119, 4, none⟩ = some (.slice A118_4 ((rd_T56 l0 x8_1).f2.f2).length c118_4) := (blk_cell BK119.out 4).trans rfl; have hfz9_0 := blk_frozen BK119.out 0; have hfz9_1 := blk_frozen BK119.out 1; have hfz9_2 := blk_frozen BK119.out 2; have hfz9_3 := blk_frozen BK119.out 3; have hfz9_4 := blk_frozen BK119.out 4) | ((with_reducible refine gate_builtin (b := .append) (xs := #[.tmp 12, .tmp 20]) rfl ?_); at_builtin; refine Kd.N_append k48 (w0 := w) w.heap.size rfl (.tmp 12) (.tmp 20) 27 48 (.agg #[(.string ⟨#[]⟩), (.int .i64 0), (.int .i64 0), (.int .i64 0), (.slice none 0 0)]) 64 rfl Try.underlying27 info48 rfl (by decide) (by omega) u3 x3_1 (⟨(rd_T56 l0 x8_1).f0, (rd_T56 l0 x8_1).f1, (⟨(rd_T56 l0 x8_1).f2.f0, (rd_T56 l0 x8_1).f2.f1, (rd_T56 l0 x8_1).f2.f2⟩ : S44)⟩ : S48) [.string ((rd_T56 l0 x8_1).f0), .int .i64 ((rd_T56 l0 x8_1).f1), .int .i64 ((rd_T56 l0 x8_1).f2.f0), .int .i64 ((rd_T56 l0 x8_1).f2.f1), .slice A118_4 ((rd_T56 l0 x8_1).f2.f2).length c118_4] (fun k_ => (P0_ k_ ∨ w.heap.size ≤ k_) ∧ k_ ≠ gb119) (fun k_ => ((fun k_ => (P0_ k_ ∨ w.heap.size ≤ k_) ∧ k_ ≠ gb119)) k_ ∧ some k_ ≠ (u3 : Value).ownBlock) rfl rfl ?aP (fun _ hk => hk) ?aF ?aO ?aB ?aS ?aL ?_; (case aP => exact (k48_mkF _ _ (⟨(rd_T56 l0 x8_1).f0, (rd_T56 l0 x8_1).f1, (⟨(rd_T56 l0 x8_1).f2.f0, (rd_T56 l0 x8_1).f2.f1, (rd_T56 l0 x8_1).f2.f2⟩ : S44)⟩ : S48) (Kd.V_reads' (Kd.V_mono (ok' := (fun k_ => ((fun k_ => (P0_ k_ ∨ w.heap.size ≤ k_) ∧ k_ ≠ gb119)) k_ ∧ some k_ ≠ (u3 : Value).ownBlock)) (HL118_4.out) (fun k_ hk => ⟨⟨hk.1, hk.2.2⟩, hk.2.1⟩))).2.1 (Kd.V_F (Kd.V_mono (ok' := (fun k_ => ((fun k_ => (P0_ k_ ∨ w.heap.size ≤ k_) ∧ k_ ≠ gb119)) k_ ∧ some k_ ≠ (u3 : Value).ownBlock)) (HL118_4.out) (fun k_ hk => ⟨⟨hk.1, hk.2.2⟩, hk.2.1⟩))))); (case aB => exact (by repeat (first | (with_reducible first | exact HB.out | apply below_alloc | apply pw_below_drewN | apply below_drew1 | refine below_set ?_ GE119.out) | exact HB.out))); (case aF => exact (fun k_ hk => ⟨(.inr (Nat.le_trans (below_size (by repeat (first | (with_reducible first | exact HB.out | apply below_alloc | apply pw_below_drewN | apply below_drew1 | refine below_set ?_ GE119.out) | exact HB.out))) hk)), Kd.freshB (g := gb119) (o := .cells #[.string ((rd_T56 l0 x8_1).f0), .int .i64 ((rd_T56 l0 x8_1).f1), .int .i64 ((rd_T56 l0 x8_1).f2.f0), .int .i64 ((rd_T56 l0 x8_1).f2.f1), .slice A118_4 ((rd_T56 l0 x8_1).f2.f2).length c118_4] 56 (0, 0)) (by (with_reducible repeat (first | refine blk_drewN ?_ _ | refine blk_drew ?_ | refine blk_alloc ?_ _)); exact BK119.out) k_ hk⟩)); (case aO => exact (by (with_reducible repeat (first | apply Kd.N_alloc | apply Kd.N_drewN | apply Kd.N_drew)); exact HO_3.out)); (case aS => exact (below_size (by repeat (first | (with_reducible first | exact HB.out | apply below_alloc | apply pw_below_drewN | apply below_drew1 | refine below_set ?_ GE119.out) | exact HB.out)))); (case aL => have := LMc5.out; omega); intro v121 w10 ho hb hg hat; rw [← Ny120.out] at ho; have n0_ := Aside0.mk (Kd.V_afterv (ok := (fun k_ => (P0_ k_ ∨ w.heap.size ≤ k_) ∧ k_ ≠ gb119)) (by (with_reducible repeat (first | apply Kd.V_alloc | apply Kd.V_drewN | apply Kd.V_drew)); exact Kd.V_mono HO_6.out (fun _ hk => ⟨⟨hk.1, hk.2.2⟩, hk.2.1⟩)) hg hat); have n1_ := Aside0.mk (Kd.V_afterv (ok := (fun k_ => (P0_ k_ ∨ w.heap.size ≤ k_) ∧ k_ ≠ gb119)) (by (with_reducible repeat (first | apply Kd.V_alloc | apply Kd.V_drewN | apply Kd.V_drew)); exact Kd.V_mono HL118_4.out (fun _ hk => ⟨⟨hk.1, hk.2.2⟩, hk.2.1⟩)) hg hat); have n2_ := Aside0.mk (blk_grown (g := gb119) (o := .cells #[.string ((rd_T56 l0 x8_1).f0), .int .i64 ((rd_T56 l0 x8_1).f1), .int .i64 ((rd_T56 l0 x8_1).f2.f0), .int .i64 ((rd_T56 l0 x8_1).f2.f1), .slice A118_4 ((rd_T56 l0 x8_1).f2.f2).length c118_4] 56 (0, 0)) (by (with_reducible repeat (first | refine blk_drewN ?_ _ | refine blk_drew ?_ | refine blk_alloc ?_ _)); exact BK119.out) hg (Kd.N_ne HO_3.out BK119.out (by decide))); have n3_ := Aside0.mk (hb); have n4_ := Aside0.mk (ho); clear HO_6; clear HL118_4; clear BK119; clear HB; clear HO_3; have HO_6 := n0_; have HL118_4 := n1_; have BK119 := n2_; have HB := n3_; have HO122 := n4_; clear n0_ n1_ n2_ n3_ n4_; clear ho hb hg hat))
              go_roundg k1
              case measure => have := HK1.out; omega
              case rel => exact ⟨(y120), (wrap64 (x8_1 + 1)), (by first | rfl | (simp; done) | (simp [*]; done)), H', ⟨by have := HK1.out; omega⟩, ⟨by (with_reducible repeat (first | apply Kd.N_alloc | apply Kd.N_drewN | apply Kd.N_drew)); exact Kd.N_mono HO122.out (fun _ hk => hk.1)⟩, ⟨by (with_reducible repeat (first | apply Kd.V_alloc | apply Kd.V_drewN | apply Kd.V_drew)); exact Kd.V_mono HO_6.out (fun _ hk => ⟨hk.1.1, hk.2⟩)⟩, ⟨by repeat (first | (with_reducible first | exact HB.out | apply below_alloc | apply pw_below_drewN | apply below_drew1 | refine below_set ?_ GE119.out) | exact HB.out)⟩⟩
            · rw [if_neg c5] at H
              exact absurd H (by simp)
          · rw [if_neg c4] at H
            exact absurd H (by simp)
        · rw [if_neg c3] at H
          exact absurd H (by simp)
      · rw [if_neg c2] at H
        have c2b0 : decide (x8_1 < (l0.length : Int)) = false := decide_eq_false c2
        clear c2
        obtain rfl := Option.some.inj H
        go_wp2
        go_ret
        exact ⟨_, by first | rfl | (simp [errW_none, errW_some] <;> rfl) | (simp [*, errW_none, errW_some] <;> rfl), by (with_reducible repeat (first | apply Kd.N_alloc | apply Kd.N_drewN | apply Kd.N_drew)); exact HO_3.out, by repeat (first | (with_reducible first | exact HB.out | apply below_alloc | apply pw_below_drewN | apply below_drew1) | exact HB.out)⟩
end Go.Proofs.Ytfhgoebgnilfaaa.I
namespace Go.Proofs.Ytfhgoebgnilfaaa.I
open Go.RowKit Go.Proofs.YtfhgoebgnilfaaaW.PrintWords Go.Proofs.YtfhgoebgnilfaaaW.PrintLast Go.Proofs.YtfhgoebgnilfaaaW.PrintMore
attribute [local go_sem] max2_int min2_int max_two min_two max_three min_three max_four min_four   -- for this text's walks alone
set_option linter.unusedVariables false
set_option linter.unusedSimpArgs false
mutual
def virgationref02_Name.j0 : Nat → ByteArray → Bool → Option (Bool)
  | 0, _, _ => none
  | k + 1, x0, x21 => if x21 = true then (some false) else (virgationref02_Name.l0 k x0 0)
def virgationref02_Name.l0 : Nat → ByteArray → Int → Option (Bool)
  | 0, _, _ => none
  | k + 1, x0, x3 => if x3 < (x0.size : Int) then (if 0 ≤ x3 then (if (bt x0 x3) < 97 then (if (bt x0 x3) < 48 then (if (bt x0 x3) = 95 then (virgationref02_Name.l0 k x0 (wrap64 (x3 + 1))) else (some false)) else (if (bt x0 x3) > 57 then (if (bt x0 x3) = 95 then (virgationref02_Name.l0 k x0 (wrap64 (x3 + 1))) else (some false)) else (virgationref02_Name.l0 k x0 (wrap64 (x3 + 1))))) else (if (bt x0 x3) > 122 then (if (bt x0 x3) < 48 then (if (bt x0 x3) = 95 then (virgationref02_Name.l0 k x0 (wrap64 (x3 + 1))) else (some false)) else (if (bt x0 x3) > 57 then (if (bt x0 x3) = 95 then (virgationref02_Name.l0 k x0 (wrap64 (x3 + 1))) else (some false)) else (virgationref02_Name.l0 k x0 (wrap64 (x3 + 1))))) else (virgationref02_Name.l0 k x0 (wrap64 (x3 + 1))))) else (none)) else (some true)
end
def virgationref02_Name.f (k : Nat) (a0 : ByteArray) : Option (Bool) := if (a0.size : Int) < 1 then (virgationref02_Name.j0 k a0 true) else (if (a0.size : Int) > 24 then (virgationref02_Name.j0 k a0 true) else (if 0 < (a0.size : Int) then (if (bt a0 0) < 97 then (virgationref02_Name.j0 k a0 true) else (virgationref02_Name.j0 k a0 (decide ((bt a0 0) > 122)))) else (none)))
set_option maxHeartbeats 8000000 in
set_option maxRecDepth 100000 in
theorem virgationref02_Name.calls (k : Nat) (a0 : ByteArray) (r : Bool) (w : World) (h : virgationref02_Name.f k a0 = some r) :
    Calls Try.prog 33 #[.string a0] w fun e w' => e = .returned (.bool r) ∧ Drawn0 w w' := by
  have H : (if (a0.size : Int) < 1 then (virgationref02_Name.j0 k a0 true) else (if (a0.size : Int) > 24 then (virgationref02_Name.j0 k a0 true) else (if 0 < (a0.size : Int) then (if (bt a0 0) < 97 then (virgationref02_Name.j0 k a0 true) else (virgationref02_Name.j0 k a0 (decide ((bt a0 0) > 122)))) else (none)))) = some r := h
  clear h
  have HC2 := Aside0.mk H
  clear H
  go_enter Try.func33, Try.ntmps33
  go_upto_region 1 with (fail)
  go_cut [21] (fun v21 wc => ∃ (kq : Nat) (x21_1 : Bool), v21 = .bool x21_1 ∧ Aside0 (virgationref02_Name.j0 kq a0 x21_1 = some r) ∧ Aside0 (kq ≤ k) ∧ Drawn0 w wc)
  case first =>
    have H := HC2.out
    clear HC2
    by_cases c3 : (a0.size : Int) < 1
    · rw [if_pos c3] at H
      have c3b0 : decide ((a0.size : Int) < 1) = true := decide_eq_true c3
      have c3b1 : decide (a0.size < 1) = true := decide_eq_true (by omega)
      clear c3
      (first | rw [c3b0] | (simp only [i64_w, i32_w]; rw [c3b0]) | skip)
      have H' := Aside0.mk H
      clear H
      go_wp2
      go_meet
      case rel => exact ⟨_, (true), (by first | rfl | (simp; done) | (simp [*]; done)), H', ⟨by first | omega | exact Nat.le_refl _⟩, by repeat (first | exact Drawn0.refl _ | apply Drawn0.step)⟩
    · rw [if_neg c3] at H
      have c3b0 : decide ((a0.size : Int) < 1) = false := decide_eq_false c3
      have c3b1 : decide (a0.size < 1) = false := decide_eq_false (by omega)
      clear c3
      (first | rw [c3b0] | (simp only [i64_w, i32_w]; rw [c3b0]) | skip)
      by_cases c4 : (a0.size : Int) > 24
      · rw [if_pos c4] at H
        have c4b0 : decide (24 < (a0.size : Int)) = true := decide_eq_true c4
        have c4b1 : decide (24 < a0.size) = true := decide_eq_true (by omega)
        clear c4
        have H' := Aside0.mk H
        clear H
        go_wp2
        go_meet
        case rel => exact ⟨_, (true), (by first | rfl | (simp; done) | (simp [*]; done)), H', ⟨by first | omega | exact Nat.le_refl _⟩, by repeat (first | exact Drawn0.refl _ | apply Drawn0.step)⟩
      · rw [if_neg c4] at H
        have c4b0 : decide (24 < (a0.size : Int)) = false := decide_eq_false c4
        have c4b1 : decide (24 < a0.size) = false := decide_eq_false (by omega)
        clear c4
        by_cases c5 : 0 < (a0.size : Int)
        · rw [if_pos c5] at H
          have c5b0 : decide (0 < (a0.size : Int)) = true := decide_eq_true c5
          have c5b1 : decide (0 < a0.size) = true := decide_eq_true (by omega)
          clear c5
          by_cases c7 : (bt a0 0) < 97
          · rw [if_pos c7] at H
            have c7b0 : decide ((bt a0 0) < 97) = true := decide_eq_true c7
            clear c7
            have H' := Aside0.mk H
            clear H
            have p6 : 0 ≤ (0 : Int) := (by omega)
            have q6 : 0 < a0.size := (by have : (0 : Int) < (a0.size : Int) := of_decide_eq_true (by first | (with_reducible assumption) | assumption); omega)
            have hx6 : ∀ h : 0 < a0.size, ((a0[0]'h).toNat : Int) = bt a0 0 := bt_at a0 0
            clear p6
            have qi6 : (0 < (a0.size : Int)) = True := eq_true (of_decide_eq_true (by first | (with_reducible assumption) | assumption))
            replace q6 := eq_true q6
            go_wp2
            go_meet
            case rel => exact ⟨_, (true), (by first | rfl | (simp; done) | (simp [*]; done)), H', ⟨by first | omega | exact Nat.le_refl _⟩, by repeat (first | exact Drawn0.refl _ | apply Drawn0.step)⟩
          · rw [if_neg c7] at H
            have c7b0 : decide ((bt a0 0) < 97) = false := decide_eq_false c7
            clear c7
            have H' := Aside0.mk H
            clear H
            have p6 : 0 ≤ (0 : Int) := (by omega)
            have q6 : 0 < a0.size := (by have : (0 : Int) < (a0.size : Int) := of_decide_eq_true (by first | (with_reducible assumption) | assumption); omega)
            have hx6 : ∀ h : 0 < a0.size, ((a0[0]'h).toNat : Int) = bt a0 0 := bt_at a0 0
            clear p6
            have qi6 : (0 < (a0.size : Int)) = True := eq_true (of_decide_eq_true (by first | (with_reducible assumption) | assumption))
            replace q6 := eq_true q6
            have p8 : 0 ≤ (0 : Int) := (by omega)
            have q8 : 0 < a0.size := (by have : (0 : Int) < (a0.size : Int) := of_decide_eq_true (by first | (with_reducible assumption) | assumption); omega)
            have hx8 : ∀ h : 0 < a0.size, ((a0[0]'h).toNat : Int) = bt a0 0 := bt_at a0 0
            clear p8
            have qi8 : (0 < (a0.size : Int)) = True := eq_true (of_decide_eq_true (by first | (with_reducible assumption) | assumption))
            replace q8 := eq_true q8
            go_wp2
            go_meet
            case rel => exact ⟨_, (decide ((bt a0 0) > 122)), (by first | rfl | (simp; done) | (simp [*]; done)), H', ⟨by first | omega | exact Nat.le_refl _⟩, by repeat (first | exact Drawn0.refl _ | apply Drawn0.step)⟩
        · rw [if_neg c5] at H
          exact absurd H (by simp)
  case rest =>
    clear HC2
    try clear p2
    try clear c3
    try clear c3b0
    try clear c3b1
    try clear c4
    try clear c4b0
    try clear c4b1
    try clear c5
    try clear c5b0
    try clear c5b1
    try clear p6
    try clear q6
    try clear hx6
    try clear qi6
    try clear c7
    try clear c7b0
    try clear p8
    try clear q8
    try clear hx8
    try clear qi8
    try clear p6
    try clear p8
    try clear q6
    try clear q8
    obtain ⟨kq, x21_1, rfl, HA, HJ1, ⟨mc1, rfl⟩⟩ := hcut
    cases kq with
    | zero => exact absurd HA.out (by simp [virgationref02_Name.j0])
    | succ kj1 =>
      have H := HA.out
      clear HA
      simp only [virgationref02_Name.j0] at H
      by_cases c9 : x21_1 = true
      · subst c9
        have H1 : (some false) = some r := by rw [if_pos rfl] at H; exact H
        clear H
        have H := H1
        clear H1
        obtain rfl := Option.some.inj H
        go_wp2
        go_ret
        exact ⟨by first | rfl | (simp; done) | (simp [*]; done), by repeat (first | exact Drawn0.refl _ | apply Drawn0.step)⟩
      · replace c9 := Bool.eq_false_iff.mpr c9
        subst c9
        have H1 : (virgationref02_Name.l0 kj1 a0 0) = some r := by rw [if_neg (show ¬ (false = true) by decide)] at H; exact H
        clear H
        have H := H1
        clear H1
        have H' := Aside0.mk H
        clear H
        go_wp2
        go_loopg [3] kj1 (fun kq v3 w' => ∃ (x3_2 : Int), v3 = .int .i64 x3_2 ∧ Aside0 (virgationref02_Name.l0 kq a0 x3_2 = some r) ∧ Aside0 (kq ≤ kj1) ∧ Drawn0 w w')
        case atStart => exact ⟨(0), (by first | rfl | (simp; done) | (simp [*]; done)), H', ⟨Nat.le_refl _⟩, by repeat (first | exact Drawn0.refl _ | apply Drawn0.step)⟩
        case round =>
          clear H'
          try clear c1
          try clear p2
          try clear c3
          try clear c3b0
          try clear c3b1
          try clear c4
          try clear c4b0
          try clear c4b1
          try clear c5
          try clear c5b0
          try clear c5b1
          try clear p6
          try clear q6
          try clear hx6
          try clear qi6
          try clear c7
          try clear c7b0
          try clear p8
          try clear q8
          try clear hx8
          try clear qi8
          try clear c9
          try clear p2
          try clear p6
          try clear p8
          try clear q6
          try clear q8
          obtain ⟨x3_2, rfl, HA, HK2, ⟨m2, rfl⟩⟩ := hrel
          cases gk with
          | zero => exact absurd HA.out (by simp [virgationref02_Name.l0])
          | succ k2 =>
            have H := HA.out
            clear HA
            simp only [virgationref02_Name.l0] at H
            by_cases c10 : x3_2 < (a0.size : Int)
            · rw [if_pos c10] at H
              have c10b0 : decide (x3_2 < (a0.size : Int)) = true := decide_eq_true c10
              clear c10
              by_cases c11 : 0 ≤ x3_2
              · rw [if_pos c11] at H
                have c11b0 : decide (0 ≤ x3_2) = true := decide_eq_true c11
                clear c11
                by_cases c13 : (bt a0 x3_2) < 97
                · rw [if_pos c13] at H
                  have c13b0 : decide ((bt a0 x3_2) < 97) = true := decide_eq_true c13
                  clear c13
                  by_cases c15 : (bt a0 x3_2) < 48
                  · rw [if_pos c15] at H
                    have c15b0 : decide ((bt a0 x3_2) < 48) = true := decide_eq_true c15
                    clear c15
                    by_cases c17 : (bt a0 x3_2) = 95
                    · rw [if_pos c17] at H
                      have c17b0 : ((bt a0 x3_2) == 95) = true := beq_iff_eq.mpr c17
                      have c17b1 : ((bt a0 x3_2) != 95) = false := bne_eq_false_iff_eq.mpr c17
                      clear c17
                      have H' := Aside0.mk H
                      clear H
                      have p12 : 0 ≤ (x3_2 : Int) := of_decide_eq_true (by first | (with_reducible assumption) | assumption)
                      have q12 : x3_2 < (a0.size : Int) := of_decide_eq_true (by first | (with_reducible assumption) | assumption)
                      have hx12 := bt_at a0 x3_2
                      replace p12 := eq_true p12
                      replace q12 := eq_true q12
                      have p14 : 0 ≤ (x3_2 : Int) := of_decide_eq_true (by first | (with_reducible assumption) | assumption)
                      have q14 : x3_2 < (a0.size : Int) := of_decide_eq_true (by first | (with_reducible assumption) | assumption)
                      have hx14 := bt_at a0 x3_2
                      replace p14 := eq_true p14
                      replace q14 := eq_true q14
                      have p16 : 0 ≤ (x3_2 : Int) := of_decide_eq_true (by first | (with_reducible assumption) | assumption)
                      have q16 : x3_2 < (a0.size : Int) := of_decide_eq_true (by first | (with_reducible assumption) | assumption)
                      have hx16 := bt_at a0 x3_2
                      replace p16 := eq_true p16
                      replace q16 := eq_true q16
                      go_wp2
                      go_roundg k2
                      case measure => have := HJ1.out; have := HK2.out; omega
                      case rel => exact ⟨(wrap64 (x3_2 + 1)), (by first | rfl | (simp; done) | (simp [*]; done)), H', ⟨by have := HJ1.out; have := HK2.out; omega⟩, by repeat (first | exact Drawn0.refl _ | apply Drawn0.step)⟩
                    · rw [if_neg c17] at H
                      have c17b0 : ((bt a0 x3_2) == 95) = false := beq_eq_false_iff_ne.mpr c17
                      have c17b1 : ((bt a0 x3_2) != 95) = true := bne_iff_ne.mpr c17
                      obtain rfl := Option.some.inj H
                      have p12 : 0 ≤ (x3_2 : Int) := of_decide_eq_true (by first | (with_reducible assumption) | assumption)
                      have q12 : x3_2 < (a0.size : Int) := of_decide_eq_true (by first | (with_reducible assumption) | assumption)
                      have hx12 := bt_at a0 x3_2
                      replace p12 := eq_true p12
                      replace q12 := eq_true q12
                      have p14 : 0 ≤ (x3_2 : Int) := of_decide_eq_true (by first | (with_reducible assumption) | assumption)
                      have q14 : x3_2 < (a0.size : Int) := of_decide_eq_true (by first | (with_reducible assumption) | assumption)
                      have hx14 := bt_at a0 x3_2
                      replace p14 := eq_true p14
                      replace q14 := eq_true q14
                      have p16 : 0 ≤ (x3_2 : Int) := of_decide_eq_true (by first | (with_reducible assumption) | assumption)
                      have q16 : x3_2 < (a0.size : Int) := of_decide_eq_true (by first | (with_reducible assumption) | assumption)
                      have hx16 := bt_at a0 x3_2
                      replace p16 := eq_true p16
                      replace q16 := eq_true q16
                      go_wp2
                      go_ret
                      exact ⟨by first | rfl | (simp; done) | (simp [*]; done), by repeat (first | exact Drawn0.refl _ | apply Drawn0.step)⟩
                  · rw [if_neg c15] at H
                    have c15b0 : decide ((bt a0 x3_2) < 48) = false := decide_eq_false c15
                    clear c15
                    by_cases c19 : (bt a0 x3_2) > 57
                    · rw [if_pos c19] at H
                      have c19b0 : decide (57 < (bt a0 x3_2)) = true := decide_eq_true c19
                      clear c19
                      by_cases c21 : (bt a0 x3_2) = 95
                      · rw [if_pos c21] at H
                        have c21b0 : ((bt a0 x3_2) == 95) = true := beq_iff_eq.mpr c21
                        have c21b1 : ((bt a0 x3_2) != 95) = false := bne_eq_false_iff_eq.mpr c21
                        clear c21
                        have H' := Aside0.mk H
                        clear H
                        have p12 : 0 ≤ (x3_2 : Int) := of_decide_eq_true (by first | (with_reducible assumption) | assumption)
                        have q12 : x3_2 < (a0.size : Int) := of_decide_eq_true (by first | (with_reducible assumption) | assumption)
                        have hx12 := bt_at a0 x3_2
                        replace p12 := eq_true p12
                        replace q12 := eq_true q12
                        have p14 : 0 ≤ (x3_2 : Int) := of_decide_eq_true (by first | (with_reducible assumption) | assumption)
                        have q14 : x3_2 < (a0.size : Int) := of_decide_eq_true (by first | (with_reducible assumption) | assumption)
                        have hx14 := bt_at a0 x3_2
                        replace p14 := eq_true p14
                        replace q14 := eq_true q14
                        have p18 : 0 ≤ (x3_2 : Int) := of_decide_eq_true (by first | (with_reducible assumption) | assumption)
                        have q18 : x3_2 < (a0.size : Int) := of_decide_eq_true (by first | (with_reducible assumption) | assumption)
                        have hx18 := bt_at a0 x3_2
                        replace p18 := eq_true p18
                        replace q18 := eq_true q18
                        have p20 : 0 ≤ (x3_2 : Int) := of_decide_eq_true (by first | (with_reducible assumption) | assumption)
                        have q20 : x3_2 < (a0.size : Int) := of_decide_eq_true (by first | (with_reducible assumption) | assumption)
                        have hx20 := bt_at a0 x3_2
                        replace p20 := eq_true p20
                        replace q20 := eq_true q20
                        go_wp2
                        go_roundg k2
                        case measure => have := HJ1.out; have := HK2.out; omega
                        case rel => exact ⟨(wrap64 (x3_2 + 1)), (by first | rfl | (simp; done) | (simp [*]; done)), H', ⟨by have := HJ1.out; have := HK2.out; omega⟩, by repeat (first | exact Drawn0.refl _ | apply Drawn0.step)⟩
                      · rw [if_neg c21] at H
                        have c21b0 : ((bt a0 x3_2) == 95) = false := beq_eq_false_iff_ne.mpr c21
                        have c21b1 : ((bt a0 x3_2) != 95) = true := bne_iff_ne.mpr c21
                        obtain rfl := Option.some.inj H
                        have p12 : 0 ≤ (x3_2 : Int) := of_decide_eq_true (by first | (with_reducible assumption) | assumption)
                        have q12 : x3_2 < (a0.size : Int) := of_decide_eq_true (by first | (with_reducible assumption) | assumption)
                        have hx12 := bt_at a0 x3_2
                        replace p12 := eq_true p12
                        replace q12 := eq_true q12
                        have p14 : 0 ≤ (x3_2 : Int) := of_decide_eq_true (by first | (with_reducible assumption) | assumption)
                        have q14 : x3_2 < (a0.size : Int) := of_decide_eq_true (by first | (with_reducible assumption) | assumption)
                        have hx14 := bt_at a0 x3_2
                        replace p14 := eq_true p14
                        replace q14 := eq_true q14
                        have p18 : 0 ≤ (x3_2 : Int) := of_decide_eq_true (by first | (with_reducible assumption) | assumption)
                        have q18 : x3_2 < (a0.size : Int) := of_decide_eq_true (by first | (with_reducible assumption) | assumption)
                        have hx18 := bt_at a0 x3_2
                        replace p18 := eq_true p18
                        replace q18 := eq_true q18
                        have p20 : 0 ≤ (x3_2 : Int) := of_decide_eq_true (by first | (with_reducible assumption) | assumption)
                        have q20 : x3_2 < (a0.size : Int) := of_decide_eq_true (by first | (with_reducible assumption) | assumption)
                        have hx20 := bt_at a0 x3_2
                        replace p20 := eq_true p20
                        replace q20 := eq_true q20
                        go_wp2
                        go_ret
                        exact ⟨by first | rfl | (simp; done) | (simp [*]; done), by repeat (first | exact Drawn0.refl _ | apply Drawn0.step)⟩
                    · rw [if_neg c19] at H
                      have c19b0 : decide (57 < (bt a0 x3_2)) = false := decide_eq_false c19
                      clear c19
                      have H' := Aside0.mk H
                      clear H
                      have p12 : 0 ≤ (x3_2 : Int) := of_decide_eq_true (by first | (with_reducible assumption) | assumption)
                      have q12 : x3_2 < (a0.size : Int) := of_decide_eq_true (by first | (with_reducible assumption) | assumption)
                      have hx12 := bt_at a0 x3_2
                      replace p12 := eq_true p12
                      replace q12 := eq_true q12
                      have p14 : 0 ≤ (x3_2 : Int) := of_decide_eq_true (by first | (with_reducible assumption) | assumption)
                      have q14 : x3_2 < (a0.size : Int) := of_decide_eq_true (by first | (with_reducible assumption) | assumption)
                      have hx14 := bt_at a0 x3_2
                      replace p14 := eq_true p14
                      replace q14 := eq_true q14
                      have p18 : 0 ≤ (x3_2 : Int) := of_decide_eq_true (by first | (with_reducible assumption) | assumption)
                      have q18 : x3_2 < (a0.size : Int) := of_decide_eq_true (by first | (with_reducible assumption) | assumption)
                      have hx18 := bt_at a0 x3_2
                      replace p18 := eq_true p18
                      replace q18 := eq_true q18
                      go_wp2
                      go_roundg k2
                      case measure => have := HJ1.out; have := HK2.out; omega
                      case rel => exact ⟨(wrap64 (x3_2 + 1)), (by first | rfl | (simp; done) | (simp [*]; done)), H', ⟨by have := HJ1.out; have := HK2.out; omega⟩, by repeat (first | exact Drawn0.refl _ | apply Drawn0.step)⟩
                · rw [if_neg c13] at H
                  have c13b0 : decide ((bt a0 x3_2) < 97) = false := decide_eq_false c13
                  clear c13
                  by_cases c23 : (bt a0 x3_2) > 122
                  · rw [if_pos c23] at H
                    have c23b0 : decide (122 < (bt a0 x3_2)) = true := decide_eq_true c23
                    clear c23
                    by_cases c25 : (bt a0 x3_2) < 48
                    · rw [if_pos c25] at H
                      have c25b0 : decide ((bt a0 x3_2) < 48) = true := decide_eq_true c25
                      clear c25
                      by_cases c27 : (bt a0 x3_2) = 95
                      · rw [if_pos c27] at H
                        have c27b0 : ((bt a0 x3_2) == 95) = true := beq_iff_eq.mpr c27
                        have c27b1 : ((bt a0 x3_2) != 95) = false := bne_eq_false_iff_eq.mpr c27
                        clear c27
                        have H' := Aside0.mk H
                        clear H
                        have p12 : 0 ≤ (x3_2 : Int) := of_decide_eq_true (by first | (with_reducible assumption) | assumption)
                        have q12 : x3_2 < (a0.size : Int) := of_decide_eq_true (by first | (with_reducible assumption) | assumption)
                        have hx12 := bt_at a0 x3_2
                        replace p12 := eq_true p12
                        replace q12 := eq_true q12
                        have p22 : 0 ≤ (x3_2 : Int) := of_decide_eq_true (by first | (with_reducible assumption) | assumption)
                        have q22 : x3_2 < (a0.size : Int) := of_decide_eq_true (by first | (with_reducible assumption) | assumption)
                        have hx22 := bt_at a0 x3_2
                        replace p22 := eq_true p22
                        replace q22 := eq_true q22
                        have p24 : 0 ≤ (x3_2 : Int) := of_decide_eq_true (by first | (with_reducible assumption) | assumption)
                        have q24 : x3_2 < (a0.size : Int) := of_decide_eq_true (by first | (with_reducible assumption) | assumption)
                        have hx24 := bt_at a0 x3_2
                        replace p24 := eq_true p24
                        replace q24 := eq_true q24
                        have p26 : 0 ≤ (x3_2 : Int) := of_decide_eq_true (by first | (with_reducible assumption) | assumption)
                        have q26 : x3_2 < (a0.size : Int) := of_decide_eq_true (by first | (with_reducible assumption) | assumption)
                        have hx26 := bt_at a0 x3_2
                        replace p26 := eq_true p26
                        replace q26 := eq_true q26
                        go_wp2
                        go_roundg k2
                        case measure => have := HJ1.out; have := HK2.out; omega
                        case rel => exact ⟨(wrap64 (x3_2 + 1)), (by first | rfl | (simp; done) | (simp [*]; done)), H', ⟨by have := HJ1.out; have := HK2.out; omega⟩, by repeat (first | exact Drawn0.refl _ | apply Drawn0.step)⟩
                      · rw [if_neg c27] at H
                        have c27b0 : ((bt a0 x3_2) == 95) = false := beq_eq_false_iff_ne.mpr c27
                        have c27b1 : ((bt a0 x3_2) != 95) = true := bne_iff_ne.mpr c27
                        obtain rfl := Option.some.inj H
                        have p12 : 0 ≤ (x3_2 : Int) := of_decide_eq_true (by first | (with_reducible assumption) | assumption)
                        have q12 : x3_2 < (a0.size : Int) := of_decide_eq_true (by first | (with_reducible assumption) | assumption)
                        have hx12 := bt_at a0 x3_2
                        replace p12 := eq_true p12
                        replace q12 := eq_true q12
                        have p22 : 0 ≤ (x3_2 : Int) := of_decide_eq_true (by first | (with_reducible assumption) | assumption)
                        have q22 : x3_2 < (a0.size : Int) := of_decide_eq_true (by first | (with_reducible assumption) | assumption)
                        have hx22 := bt_at a0 x3_2
                        replace p22 := eq_true p22
                        replace q22 := eq_true q22
                        have p24 : 0 ≤ (x3_2 : Int) := of_decide_eq_true (by first | (with_reducible assumption) | assumption)
                        have q24 : x3_2 < (a0.size : Int) := of_decide_eq_true (by first | (with_reducible assumption) | assumption)
                        have hx24 := bt_at a0 x3_2
                        replace p24 := eq_true p24
                        replace q24 := eq_true q24
                        have p26 : 0 ≤ (x3_2 : Int) := of_decide_eq_true (by first | (with_reducible assumption) | assumption)
                        have q26 : x3_2 < (a0.size : Int) := of_decide_eq_true (by first | (with_reducible assumption) | assumption)
                        have hx26 := bt_at a0 x3_2
                        replace p26 := eq_true p26
                        replace q26 := eq_true q26
                        go_wp2
                        go_ret
                        exact ⟨by first | rfl | (simp; done) | (simp [*]; done), by repeat (first | exact Drawn0.refl _ | apply Drawn0.step)⟩
                    · rw [if_neg c25] at H
                      have c25b0 : decide ((bt a0 x3_2) < 48) = false := decide_eq_false c25
                      clear c25
                      by_cases c29 : (bt a0 x3_2) > 57
                      · rw [if_pos c29] at H
                        have c29b0 : decide (57 < (bt a0 x3_2)) = true := decide_eq_true c29
                        clear c29
                        by_cases c31 : (bt a0 x3_2) = 95
                        · rw [if_pos c31] at H
                          have c31b0 : ((bt a0 x3_2) == 95) = true := beq_iff_eq.mpr c31
                          have c31b1 : ((bt a0 x3_2) != 95) = false := bne_eq_false_iff_eq.mpr c31
                          clear c31
                          have H' := Aside0.mk H
                          clear H
                          have p12 : 0 ≤ (x3_2 : Int) := of_decide_eq_true (by first | (with_reducible assumption) | assumption)
                          have q12 : x3_2 < (a0.size : Int) := of_decide_eq_true (by first | (with_reducible assumption) | assumption)
                          have hx12 := bt_at a0 x3_2
                          replace p12 := eq_true p12
                          replace q12 := eq_true q12
                          have p22 : 0 ≤ (x3_2 : Int) := of_decide_eq_true (by first | (with_reducible assumption) | assumption)
                          have q22 : x3_2 < (a0.size : Int) := of_decide_eq_true (by first | (with_reducible assumption) | assumption)
                          have hx22 := bt_at a0 x3_2
                          replace p22 := eq_true p22
                          replace q22 := eq_true q22
                          have p24 : 0 ≤ (x3_2 : Int) := of_decide_eq_true (by first | (with_reducible assumption) | assumption)
                          have q24 : x3_2 < (a0.size : Int) := of_decide_eq_true (by first | (with_reducible assumption) | assumption)
                          have hx24 := bt_at a0 x3_2
                          replace p24 := eq_true p24
                          replace q24 := eq_true q24
                          have p28 : 0 ≤ (x3_2 : Int) := of_decide_eq_true (by first | (with_reducible assumption) | assumption)
                          have q28 : x3_2 < (a0.size : Int) := of_decide_eq_true (by first | (with_reducible assumption) | assumption)
                          have hx28 := bt_at a0 x3_2
                          replace p28 := eq_true p28
                          replace q28 := eq_true q28
                          have p30 : 0 ≤ (x3_2 : Int) := of_decide_eq_true (by first | (with_reducible assumption) | assumption)
                          have q30 : x3_2 < (a0.size : Int) := of_decide_eq_true (by first | (with_reducible assumption) | assumption)
                          have hx30 := bt_at a0 x3_2
                          replace p30 := eq_true p30
                          replace q30 := eq_true q30
                          go_wp2
                          go_roundg k2
                          case measure => have := HJ1.out; have := HK2.out; omega
                          case rel => exact ⟨(wrap64 (x3_2 + 1)), (by first | rfl | (simp; done) | (simp [*]; done)), H', ⟨by have := HJ1.out; have := HK2.out; omega⟩, by repeat (first | exact Drawn0.refl _ | apply Drawn0.step)⟩
                        · rw [if_neg c31] at H
                          have c31b0 : ((bt a0 x3_2) == 95) = false := beq_eq_false_iff_ne.mpr c31
                          have c31b1 : ((bt a0 x3_2) != 95) = true := bne_iff_ne.mpr c31
                          obtain rfl := Option.some.inj H
                          have p12 : 0 ≤ (x3_2 : Int) := of_decide_eq_true (by first | (with_reducible assumption) | assumption)
                          have q12 : x3_2 < (a0.size : Int) := of_decide_eq_true (by first | (with_reducible assumption) | assumption)
                          have hx12 := bt_at a0 x3_2
                          replace p12 := eq_true p12
                          replace q12 := eq_true q12
                          have p22 : 0 ≤ (x3_2 : Int) := of_decide_eq_true (by first | (with_reducible assumption) | assumption)
                          have q22 : x3_2 < (a0.size : Int) := of_decide_eq_true (by first | (with_reducible assumption) | assumption)
                          have hx22 := bt_at a0 x3_2
                          replace p22 := eq_true p22
                          replace q22 := eq_true q22
                          have p24 : 0 ≤ (x3_2 : Int) := of_decide_eq_true (by first | (with_reducible assumption) | assumption)
                          have q24 : x3_2 < (a0.size : Int) := of_decide_eq_true (by first | (with_reducible assumption) | assumption)
                          have hx24 := bt_at a0 x3_2
                          replace p24 := eq_true p24
                          replace q24 := eq_true q24
                          have p28 : 0 ≤ (x3_2 : Int) := of_decide_eq_true (by first | (with_reducible assumption) | assumption)
                          have q28 : x3_2 < (a0.size : Int) := of_decide_eq_true (by first | (with_reducible assumption) | assumption)
                          have hx28 := bt_at a0 x3_2
                          replace p28 := eq_true p28
                          replace q28 := eq_true q28
                          have p30 : 0 ≤ (x3_2 : Int) := of_decide_eq_true (by first | (with_reducible assumption) | assumption)
                          have q30 : x3_2 < (a0.size : Int) := of_decide_eq_true (by first | (with_reducible assumption) | assumption)
                          have hx30 := bt_at a0 x3_2
                          replace p30 := eq_true p30
                          replace q30 := eq_true q30
                          go_wp2
                          go_ret
                          exact ⟨by first | rfl | (simp; done) | (simp [*]; done), by repeat (first | exact Drawn0.refl _ | apply Drawn0.step)⟩
                      · rw [if_neg c29] at H
                        have c29b0 : decide (57 < (bt a0 x3_2)) = false := decide_eq_false c29
                        clear c29
                        have H' := Aside0.mk H
                        clear H
                        have p12 : 0 ≤ (x3_2 : Int) := of_decide_eq_true (by first | (with_reducible assumption) | assumption)
                        have q12 : x3_2 < (a0.size : Int) := of_decide_eq_true (by first | (with_reducible assumption) | assumption)
                        have hx12 := bt_at a0 x3_2
                        replace p12 := eq_true p12
                        replace q12 := eq_true q12
                        have p22 : 0 ≤ (x3_2 : Int) := of_decide_eq_true (by first | (with_reducible assumption) | assumption)
                        have q22 : x3_2 < (a0.size : Int) := of_decide_eq_true (by first | (with_reducible assumption) | assumption)
                        have hx22 := bt_at a0 x3_2
                        replace p22 := eq_true p22
                        replace q22 := eq_true q22
                        have p24 : 0 ≤ (x3_2 : Int) := of_decide_eq_true (by first | (with_reducible assumption) | assumption)
                        have q24 : x3_2 < (a0.size : Int) := of_decide_eq_true (by first | (with_reducible assumption) | assumption)
                        have hx24 := bt_at a0 x3_2
                        replace p24 := eq_true p24
                        replace q24 := eq_true q24
                        have p28 : 0 ≤ (x3_2 : Int) := of_decide_eq_true (by first | (with_reducible assumption) | assumption)
                        have q28 : x3_2 < (a0.size : Int) := of_decide_eq_true (by first | (with_reducible assumption) | assumption)
                        have hx28 := bt_at a0 x3_2
                        replace p28 := eq_true p28
                        replace q28 := eq_true q28
                        go_wp2
                        go_roundg k2
                        case measure => have := HJ1.out; have := HK2.out; omega
                        case rel => exact ⟨(wrap64 (x3_2 + 1)), (by first | rfl | (simp; done) | (simp [*]; done)), H', ⟨by have := HJ1.out; have := HK2.out; omega⟩, by repeat (first | exact Drawn0.refl _ | apply Drawn0.step)⟩
                  · rw [if_neg c23] at H
                    have c23b0 : decide (122 < (bt a0 x3_2)) = false := decide_eq_false c23
                    clear c23
                    have H' := Aside0.mk H
                    clear H
                    have p12 : 0 ≤ (x3_2 : Int) := of_decide_eq_true (by first | (with_reducible assumption) | assumption)
                    have q12 : x3_2 < (a0.size : Int) := of_decide_eq_true (by first | (with_reducible assumption) | assumption)
                    have hx12 := bt_at a0 x3_2
                    replace p12 := eq_true p12
                    replace q12 := eq_true q12
                    have p22 : 0 ≤ (x3_2 : Int) := of_decide_eq_true (by first | (with_reducible assumption) | assumption)
                    have q22 : x3_2 < (a0.size : Int) := of_decide_eq_true (by first | (with_reducible assumption) | assumption)
                    have hx22 := bt_at a0 x3_2
                    replace p22 := eq_true p22
                    replace q22 := eq_true q22
                    go_wp2
                    go_roundg k2
                    case measure => have := HJ1.out; have := HK2.out; omega
                    case rel => exact ⟨(wrap64 (x3_2 + 1)), (by first | rfl | (simp; done) | (simp [*]; done)), H', ⟨by have := HJ1.out; have := HK2.out; omega⟩, by repeat (first | exact Drawn0.refl _ | apply Drawn0.step)⟩
              · rw [if_neg c11] at H
                exact absurd H (by simp)
            · rw [if_neg c10] at H
              have c10b0 : decide (x3_2 < (a0.size : Int)) = false := decide_eq_false c10
              clear c10
              obtain rfl := Option.some.inj H
              go_wp2
              go_ret
              exact ⟨by first | rfl | (simp; done) | (simp [*]; done), by repeat (first | exact Drawn0.refl _ | apply Drawn0.step)⟩
end Go.Proofs.Ytfhgoebgnilfaaa.I
namespace Go.Proofs.Ytfhgoebgnilfaaa.I
open Go.RowKit Go.Proofs.YtfhgoebgnilfaaaW.PrintWords Go.Proofs.YtfhgoebgnilfaaaW.PrintLast Go.Proofs.YtfhgoebgnilfaaaW.PrintMore
attribute [local go_sem] max2_int min2_int max_two min_two max_three min_three max_four min_four   -- for this text's walks alone
set_option linter.unusedVariables false
set_option linter.unusedSimpArgs false
mutual
def virgationref02_Symbols.l0 : Nat → List (S59) → List (S59) → Int → Int → Option (Bool)
  | 0, _, _, _, _ => none
  | k + 1, x0, x10, x11, x12 => if x12 < x11 then (if 0 ≤ x12 then (if x12 < (x10.length : Int) then ((virgationref02_Name.f k ((rd_T59 x10 x12).f0)).bind fun t125 => (if t125 = true then (if ((rd_T59 x10 x12).f1) < 0 then (virgationref02_Symbols.j1 k x0 x12 x10 x11 x12 true ((rd_T59 x10 x12).f0) ((rd_T59 x10 x12).f1)) else (virgationref02_Symbols.j1 k x0 x12 x10 x11 x12 (decide (((rd_T59 x10 x12).f1) > 4)) ((rd_T59 x10 x12).f0) ((rd_T59 x10 x12).f1))) else (virgationref02_Symbols.j1 k x0 x12 x10 x11 x12 true ((rd_T59 x10 x12).f0) ((rd_T59 x10 x12).f1)))) else (none)) else (none)) else (some true)
def virgationref02_Symbols.j1 : Nat → List (S59) → Int → List (S59) → Int → Int → Bool → ByteArray → Int → Option (Bool)
  | 0, _, _, _, _, _, _, _, _ => none
  | k + 1, x0, x3, x10, x11, x12, x30, x125000, x125001 => if x30 = true then (some false) else (if 0 ≤ x3 then (if x3 ≤ (x0.length : Int) then ((some (x0.take (x3 : Int).toNat : List (S59))).bind fun y126 => (virgationref02_Symbols.l1 k x0 x10 x11 x12 y126 (y126.length : Int) 0 x125000 x125001)) else (none)) else (none))
def virgationref02_Symbols.l1 : Nat → List (S59) → List (S59) → Int → Int → List (S59) → Int → Int → ByteArray → Int → Option (Bool)
  | 0, _, _, _, _, _, _, _, _, _ => none
  | k + 1, x0, x10, x11, x12, x33, x34, x35, x125000, x125001 => if x35 < x34 then (if 0 ≤ x35 then (if x35 < (x33.length : Int) then (if x125000.toList = ((rd_T59 x33 x35).f0).toList then (some false) else (virgationref02_Symbols.l1 k x0 x10 x11 x12 x33 x34 (wrap64 (x35 + 1)) x125000 x125001)) else (none)) else (none)) else (virgationref02_Symbols.l0 k x0 x10 x11 (wrap64 (x12 + 1)))
end
def virgationref02_Symbols.f (k : Nat) (l0 : List (S59)) : Option (Bool) := if (l0.length : Int) > 24 then (some false) else (virgationref02_Symbols.l0 k l0 l0 (l0.length : Int) 0)
set_option maxHeartbeats 8000000 in
set_option maxRecDepth 100000 in
theorem virgationref02_Symbols.calls (k : Nat) (A0 : Option Addr) (c0 : Nat) (l0 : List (S59)) (r : Bool) (w : World) (hr0 : Kd.C k59 w A0 l0.length l0) (hc0 : l0.length ≤ c0) (h : virgationref02_Symbols.f k l0 = some r) :
    Calls Try.prog 32 #[.slice A0 l0.length c0] w fun e w' => e = .returned (.bool r) ∧ Below w.heap.size w w' := by
  have hu59 := Try.underlying59
  have HR0 := Aside0.mk hr0
  have HC0 := Aside0.mk hc0
  clear hr0 hc0
  have HB := Aside0.mk (Below.refl w.heap.size w)
  have H : (if (l0.length : Int) > 24 then (some false) else (virgationref02_Symbols.l0 k l0 l0 (l0.length : Int) 0)) = some r := h
  clear h
  by_cases c2 : (l0.length : Int) > 24
  · rw [if_pos c2] at H
    have c2b0 : decide (24 < (l0.length : Int)) = true := decide_eq_true c2
    have c2b1 : decide (24 < l0.length) = true := decide_eq_true (by omega)
    clear c2
    obtain rfl := Option.some.inj H
    go_enter Try.func32, Try.ntmps32
    go_wp2
    go_ret
    exact ⟨by first | rfl | (simp [errW_none, errW_some] <;> rfl) | (simp [*, errW_none, errW_some] <;> rfl), by repeat (first | (with_reducible first | exact HB.out | apply below_alloc | apply pw_below_drewN | apply below_drew1) | exact HB.out)⟩
  · rw [if_neg c2] at H
    have c2b0 : decide (24 < (l0.length : Int)) = false := decide_eq_false c2
    have c2b1 : decide (24 < l0.length) = false := decide_eq_false (by omega)
    clear c2
    have H' := Aside0.mk H
    clear H
    go_enter Try.func32, Try.ntmps32
    go_wp2
    go_loopg [12] k (fun kq v12 w' => ∃ (x12_1 : Int), v12 = .int .i64 x12_1 ∧ Aside0 (virgationref02_Symbols.l0 kq l0 l0 (l0.length : Int) x12_1 = some r) ∧ Aside0 (kq ≤ k) ∧ Aside0 (Below w.heap.size w w'))
    case atStart => exact ⟨(0), (by first | rfl | (simp; done) | (simp [*]; done)), H', ⟨Nat.le_refl _⟩, ⟨by repeat (first | (with_reducible first | exact HB.out | apply below_alloc | apply pw_below_drewN | apply below_drew1) | exact HB.out)⟩⟩
    case round =>
      clear H'
      try clear c2
      try clear c2b0
      try clear c2b1
      try clear p2
      obtain ⟨x12_1, rfl, HA, HK1, HB⟩ := hrel
      cases gk with
      | zero => exact absurd HA.out (by simp [virgationref02_Symbols.l0])
      | succ k1 =>
        have H := HA.out
        clear HA
        simp only [virgationref02_Symbols.l0] at H
        by_cases c3 : x12_1 < (l0.length : Int)
        · rw [if_pos c3] at H
          have c3b0 : decide (x12_1 < (l0.length : Int)) = true := decide_eq_true c3
          clear c3
          by_cases c4 : 0 ≤ x12_1
          · rw [if_pos c4] at H
            have c4b0 : decide (0 ≤ x12_1) = true := decide_eq_true c4
            clear c4
            by_cases c5 : x12_1 < (l0.length : Int)
            · rw [if_pos c5] at H
              have c5b0 : decide (x12_1 < (l0.length : Int)) = true := decide_eq_true c5
              clear c5
              have HC6 := Aside0.mk H
              clear H
              have p123 : 0 ≤ (x12_1 : Int) := of_decide_eq_true (by first | (with_reducible assumption) | assumption)
              have q123 : x12_1 < (l0.length : Int) := of_decide_eq_true (by first | (with_reducible assumption) | assumption)
              obtain ⟨ad123, e123, hx123_0, hx123_1⟩ := at_T59 HR0.out x12_1 p123 q123
              cases e123
              replace hx123_0 := (HB.out.cell (World.block_lt_of_cell? w _ hx123_0)).trans hx123_0
              replace hx123_1 := (HB.out.cell (World.block_lt_of_cell? w _ hx123_1)).trans hx123_1
              replace p123 := eq_true p123
              replace q123 := eq_true q123
              go_upto_region 6 with (first | ((with_reducible refine gate_dst (N := 4) rfl ?_); refine box_event ?hg (N := 4) ?hd (cs := #[.string (⟨#[]⟩ : ByteArray), .int .i64 0]) (t := 59) ?hr ?_; (case hd => rfl); (case hg => rfl); (case hr => first | (go_simp; done) | (go_simp; rfl)); intro gb124 hg w7 hbox hb; have n0_ := Aside0.mk (below_step (by repeat (first | (with_reducible first | exact HB.out | apply below_alloc | apply pw_below_drewN | apply below_drew1) | exact HB.out)) hb); have n1_ := Aside0.mk (hbox); have n2_ := Aside0.mk ((by rw [hg]; exact (below_size (by repeat (first | (with_reducible first | exact HB.out | apply below_alloc | apply pw_below_drewN | apply below_drew1) | exact HB.out))) : w.heap.size ≤ gb124)); have n3_ := Aside0.mk ((by rw [hg]; exact (below_size (by repeat (first | (with_reducible first | exact HB.out | apply below_alloc | apply pw_below_drewN | apply below_drew1) | exact HB.out))) : w.heap.size ≤ gb124)); clear HB; have HB := n0_; have BK124 := n1_; have GW124 := n2_; have GE124 := n3_; clear n0_ n1_ n2_ n3_; clear hb hbox hg; have hcz8_0 : w7.cell? ⟨gb124, 0, none⟩ = some (.string (⟨#[]⟩ : ByteArray)) := (blk_cell BK124.out 0).trans rfl; have hcz8_1 : w7.cell? ⟨gb124, 1, none⟩ = some (.int .i64 0) := (blk_cell BK124.out 1).trans rfl; have hfz8_0 := blk_frozen BK124.out 0; have hfz8_1 := blk_frozen BK124.out 1))
              (try simp only [Act.put, List.setIfInBounds_toArray, List.set_cons_zero, List.set_cons_succ])
              go_cut [30] (fun v30 wc => ∃ (kq : Nat) (x30_5 : Bool), v30 = .bool x30_5 ∧ Aside0 (virgationref02_Symbols.j1 kq l0 x12_1 l0 (l0.length : Int) x12_1 x30_5 ((rd_T59 l0 x12_1).f0) ((rd_T59 l0 x12_1).f1) = some r) ∧ Aside0 (kq ≤ k1) ∧ Aside0 (wc.heap[gb124]? = some (.cells #[.string ((rd_T59 l0 x12_1).f0), .int .i64 ((rd_T59 l0 x12_1).f1)] 59 (0, 0))) ∧ Aside0 (Below w.heap.size w wc))
              case first =>
                have H := HC6.out
                clear HC6
                replace H := Option.bind_eq_some_iff.mp H
                obtain ⟨t125, A90, H⟩ := H
                replace H : (if t125 = true then (if ((rd_T59 l0 x12_1).f1) < 0 then (virgationref02_Symbols.j1 k1 l0 x12_1 l0 (l0.length : Int) x12_1 true ((rd_T59 l0 x12_1).f0) ((rd_T59 l0 x12_1).f1)) else (virgationref02_Symbols.j1 k1 l0 x12_1 l0 (l0.length : Int) x12_1 (decide (((rd_T59 l0 x12_1).f1) > 4)) ((rd_T59 l0 x12_1).f0) ((rd_T59 l0 x12_1).f1))) else (virgationref02_Symbols.j1 k1 l0 x12_1 l0 (l0.length : Int) x12_1 true ((rd_T59 l0 x12_1).f0) ((rd_T59 l0 x12_1).f1))) = some r := H
                have A9 := Aside0.mk A90
                clear A90
                by_cases c10 : t125 = true
                · subst c10
                  have H1 : (if ((rd_T59 l0 x12_1).f1) < 0 then (virgationref02_Symbols.j1 k1 l0 x12_1 l0 (l0.length : Int) x12_1 true ((rd_T59 l0 x12_1).f0) ((rd_T59 l0 x12_1).f1)) else (virgationref02_Symbols.j1 k1 l0 x12_1 l0 (l0.length : Int) x12_1 (decide (((rd_T59 l0 x12_1).f1) > 4)) ((rd_T59 l0 x12_1).f0) ((rd_T59 l0 x12_1).f1))) = some r := by rw [if_pos rfl] at H; exact H
                  clear H
                  have H := H1
                  clear H1
                  by_cases c11 : ((rd_T59 l0 x12_1).f1) < 0
                  · rw [if_pos c11] at H
                    have c11b0 : decide (((rd_T59 l0 x12_1).f1) < 0) = true := decide_eq_true c11
                    clear c11
                    (first | rw [c11b0] | (simp only [i64_w, i32_w]; rw [c11b0]) | skip)
                    have H' := Aside0.mk H
                    clear H
                    have hcz12_0 : w7.cell? ⟨gb124, 0, none⟩ = some (.string (⟨#[]⟩ : ByteArray)) := (blk_cell BK124.out 0).trans rfl
                    have hcz12_1 : w7.cell? ⟨gb124, 1, none⟩ = some (.int .i64 0) := (blk_cell BK124.out 1).trans rfl
                    have hfz12_0 := blk_frozen BK124.out 0
                    have hfz12_1 := blk_frozen BK124.out 1
                    go_wp2_with (first | ((with_reducible refine gate_callee (f := 33) rfl ?_); refine goesL_ (some 19) rfl rfl Try.func33 (by kernel_rfl) rfl #[.string ((rd_T59 l0 x12_1).f0)] rfl (by (try simp only [List.map_toArray, List.map_cons, List.map_nil]); first | done | rfl | (simp only [List.length_drop, List.length_take]; rfl)) ?_; (with_reducible refine (virgationref02_Name.calls k1 ((rd_T59 l0 x12_1).f0) true _ A9.out).mono ?_); rintro e w' ⟨rfl, ⟨nd, rfl⟩⟩; refine ⟨_, rfl, ?_⟩))
                    go_meet
                    case rel => exact ⟨_, (true), (by first | rfl | (simp; done) | (simp [*]; done)), H', ⟨by have := HK1.out; first | omega | exact Nat.le_refl _⟩, ⟨by (with_reducible repeat (first | refine blk_drewN ?_ _ | refine blk_drew ?_ | refine blk_alloc ?_ _)); refine blk_put (cs := #[.string ((rd_T59 l0 x12_1).f0), .int .i64 0]) ?_ 1 _ rfl; (with_reducible repeat (first | refine blk_drewN ?_ _ | refine blk_drew ?_ | refine blk_alloc ?_ _)); refine blk_put (cs := #[.string (⟨#[]⟩ : ByteArray), .int .i64 0]) ?_ 0 _ rfl; (with_reducible repeat (first | refine blk_drewN ?_ _ | refine blk_drew ?_ | refine blk_alloc ?_ _)); exact BK124.out⟩, ⟨by repeat (first | (with_reducible first | exact HB.out | apply below_alloc | apply pw_below_drewN | apply below_drew1 | refine below_set ?_ GE124.out) | exact HB.out)⟩⟩
                  · rw [if_neg c11] at H
                    have c11b0 : decide (((rd_T59 l0 x12_1).f1) < 0) = false := decide_eq_false c11
                    clear c11
                    (first | rw [c11b0] | (simp only [i64_w, i32_w]; rw [c11b0]) | skip)
                    have H' := Aside0.mk H
                    clear H
                    have hcz13_0 : w7.cell? ⟨gb124, 0, none⟩ = some (.string (⟨#[]⟩ : ByteArray)) := (blk_cell BK124.out 0).trans rfl
                    have hcz13_1 : w7.cell? ⟨gb124, 1, none⟩ = some (.int .i64 0) := (blk_cell BK124.out 1).trans rfl
                    have hfz13_0 := blk_frozen BK124.out 0
                    have hfz13_1 := blk_frozen BK124.out 1
                    go_wp2_with (first | ((with_reducible refine gate_callee (f := 33) rfl ?_); refine goesL_ (some 19) rfl rfl Try.func33 (by kernel_rfl) rfl #[.string ((rd_T59 l0 x12_1).f0)] rfl (by (try simp only [List.map_toArray, List.map_cons, List.map_nil]); first | done | rfl | (simp only [List.length_drop, List.length_take]; rfl)) ?_; (with_reducible refine (virgationref02_Name.calls k1 ((rd_T59 l0 x12_1).f0) true _ A9.out).mono ?_); rintro e w' ⟨rfl, ⟨nd, rfl⟩⟩; refine ⟨_, rfl, ?_⟩))
                    go_meet
                    case rel => exact ⟨_, (decide (((rd_T59 l0 x12_1).f1) > 4)), (by first | rfl | (simp; done) | (simp [*]; done)), H', ⟨by have := HK1.out; first | omega | exact Nat.le_refl _⟩, ⟨by (with_reducible repeat (first | refine blk_drewN ?_ _ | refine blk_drew ?_ | refine blk_alloc ?_ _)); refine blk_put (cs := #[.string ((rd_T59 l0 x12_1).f0), .int .i64 0]) ?_ 1 _ rfl; (with_reducible repeat (first | refine blk_drewN ?_ _ | refine blk_drew ?_ | refine blk_alloc ?_ _)); refine blk_put (cs := #[.string (⟨#[]⟩ : ByteArray), .int .i64 0]) ?_ 0 _ rfl; (with_reducible repeat (first | refine blk_drewN ?_ _ | refine blk_drew ?_ | refine blk_alloc ?_ _)); exact BK124.out⟩, ⟨by repeat (first | (with_reducible first | exact HB.out | apply below_alloc | apply pw_below_drewN | apply below_drew1 | refine below_set ?_ GE124.out) | exact HB.out)⟩⟩
                · replace c10 := Bool.eq_false_iff.mpr c10
                  subst c10
                  have H1 : (virgationref02_Symbols.j1 k1 l0 x12_1 l0 (l0.length : Int) x12_1 true ((rd_T59 l0 x12_1).f0) ((rd_T59 l0 x12_1).f1)) = some r := by rw [if_neg (show ¬ (false = true) by decide)] at H; exact H
                  clear H
                  have H := H1
                  clear H1
                  have H' := Aside0.mk H
                  clear H
                  have hcz14_0 : w7.cell? ⟨gb124, 0, none⟩ = some (.string (⟨#[]⟩ : ByteArray)) := (blk_cell BK124.out 0).trans rfl
                  have hcz14_1 : w7.cell? ⟨gb124, 1, none⟩ = some (.int .i64 0) := (blk_cell BK124.out 1).trans rfl
                  have hfz14_0 := blk_frozen BK124.out 0
                  have hfz14_1 := blk_frozen BK124.out 1
                  go_wp2_with (first | ((with_reducible refine gate_callee (f := 33) rfl ?_); refine goesL_ (some 19) rfl rfl Try.func33 (by kernel_rfl) rfl #[.string ((rd_T59 l0 x12_1).f0)] rfl (by (try simp only [List.map_toArray, List.map_cons, List.map_nil]); first | done | rfl | (simp only [List.length_drop, List.length_take]; rfl)) ?_; (with_reducible refine (virgationref02_Name.calls k1 ((rd_T59 l0 x12_1).f0) false _ A9.out).mono ?_); rintro e w' ⟨rfl, ⟨nd, rfl⟩⟩; refine ⟨_, rfl, ?_⟩))
                  go_meet
                  case rel => exact ⟨_, (true), (by first | rfl | (simp; done) | (simp [*]; done)), H', ⟨by have := HK1.out; first | omega | exact Nat.le_refl _⟩, ⟨by (with_reducible repeat (first | refine blk_drewN ?_ _ | refine blk_drew ?_ | refine blk_alloc ?_ _)); refine blk_put (cs := #[.string ((rd_T59 l0 x12_1).f0), .int .i64 0]) ?_ 1 _ rfl; (with_reducible repeat (first | refine blk_drewN ?_ _ | refine blk_drew ?_ | refine blk_alloc ?_ _)); refine blk_put (cs := #[.string (⟨#[]⟩ : ByteArray), .int .i64 0]) ?_ 0 _ rfl; (with_reducible repeat (first | refine blk_drewN ?_ _ | refine blk_drew ?_ | refine blk_alloc ?_ _)); exact BK124.out⟩, ⟨by repeat (first | (with_reducible first | exact HB.out | apply below_alloc | apply pw_below_drewN | apply below_drew1 | refine below_set ?_ GE124.out) | exact HB.out)⟩⟩
              case rest =>
                clear HC6
                try clear c1
                try clear p1
                try clear q1
                try clear hx1
                try clear c2
                try clear c2b0
                try clear c2b1
                try clear p2
                try clear c3
                try clear c3b0
                try clear c4
                try clear c4b0
                try clear c5
                try clear c5b0
                try clear c10
                try clear c11
                try clear c11b0
                try clear p12
                try clear q12
                try clear hx12
                try clear hcz12_0
                try clear hcz12_1
                try clear hcz13_0
                try clear hcz13_1
                try clear hcz14_0
                try clear hcz14_1
                try clear hcz8_0
                try clear hcz8_1
                try clear hfz12_0
                try clear hfz12_1
                try clear hfz13_0
                try clear hfz13_1
                try clear hfz14_0
                try clear hfz14_1
                try clear hfz8_0
                try clear hfz8_1
                try clear hx123_0
                try clear hx123_1
                try clear p123
                try clear p2
                try clear q123
                obtain ⟨kq, x30_5, rfl, HA, HJ5, BK124, HB⟩ := hcut
                cases kq with
                | zero => exact absurd HA.out (by simp [virgationref02_Symbols.j1])
                | succ kj5 =>
                  have H := HA.out
                  clear HA
                  simp only [virgationref02_Symbols.j1] at H
                  by_cases c15 : x30_5 = true
                  · subst c15
                    have H1 : (some false) = some r := by rw [if_pos rfl] at H; exact H
                    clear H
                    have H := H1
                    clear H1
                    obtain rfl := Option.some.inj H
                    go_wp2
                    go_ret
                    exact ⟨by first | rfl | (simp [errW_none, errW_some] <;> rfl) | (simp [*, errW_none, errW_some] <;> rfl), by repeat (first | (with_reducible first | exact HB.out | apply below_alloc | apply pw_below_drewN | apply below_drew1 | refine below_set ?_ GE124.out) | exact HB.out)⟩
                  · replace c15 := Bool.eq_false_iff.mpr c15
                    subst c15
                    have H1 : (if 0 ≤ x12_1 then (if x12_1 ≤ (l0.length : Int) then ((some (l0.take (x12_1 : Int).toNat : List (S59))).bind fun y126 => (virgationref02_Symbols.l1 kj5 l0 l0 (l0.length : Int) x12_1 y126 (y126.length : Int) 0 ((rd_T59 l0 x12_1).f0) ((rd_T59 l0 x12_1).f1))) else (none)) else (none)) = some r := by rw [if_neg (show ¬ (false = true) by decide)] at H; exact H
                    clear H
                    have H := H1
                    clear H1
                    by_cases c16 : 0 ≤ x12_1
                    · rw [if_pos c16] at H
                      have c16b0 := eq_true c16
                      have c16b1 : decide (0 ≤ x12_1) = true := decide_eq_true c16
                      clear c16
                      by_cases c17 : x12_1 ≤ (l0.length : Int)
                      · rw [if_pos c17] at H
                        have c17b0 := eq_true c17
                        have c17b1 : decide (x12_1 ≤ (l0.length : Int)) = true := decide_eq_true c17
                        clear c17
                        obtain ⟨y126, hy126⟩ : ∃ y_ : List (S59), y_ = (l0.take (x12_1 : Int).toNat) := ⟨_, rfl⟩
                        replace H : (virgationref02_Symbols.l1 kj5 l0 l0 (l0.length : Int) x12_1 y126 (y126.length : Int) 0 ((rd_T59 l0 x12_1).f0) ((rd_T59 l0 x12_1).f1)) = some r := by first | (rw [hy126]; with_reducible exact H) | (have H2_ := (Option.bind_some _ _).symm.trans H; rw [hy126]; with_reducible exact H2_) | (have H2_ := (Option.bind_some _ _).symm.trans H; with_reducible exact H2_) | with_reducible exact H | (rw [hy126]; exact H) | exact H
                        have Ny126 := Aside0.mk hy126
                        clear hy126
                        have H' := Aside0.mk H
                        clear H
                        have q18 : (x12_1 : Int) ≤ ((l0.length : Int) : Int) := of_decide_eq_true (by first | (with_reducible assumption) | assumption)
                        obtain ⟨i018, hi018, _, hsz18, _⟩ := info_parts info59
                        have hroom18 : l0.length ≤ c0 := HC0.out
                        have hC18 : Kd.C k59 _ (some ad123) l0.length l0 := HR0.out
                        have hcut18 := cut_to (P := Try.prog) 22 59 .i64 Try.underlying22 hi018 (some ad123) l0.length c0 x12_1 (of_decide_eq_true (by first | (with_reducible assumption) | assumption)) q18 hroom18
                        have hr18 := Kd.C_take (m := (x12_1 : Int).toNat) hC18 (by omega)
                        have hy18 : y126.length = (x12_1 : Int).toNat := (by rw [Ny126.out, List.length_take]; omega)
                        rw [← Ny126.out] at hr18
                        rw [← hy18] at hcut18
                        have HR129 := Aside0.mk hr18
                        have HC129 := Aside0.mk (show y126.length ≤ c0 from by omega)
                        clear hr18 hC18 hroom18 hi018 hsz18
                        have KY18 := Aside0.mk hy18
                        clear hy18
                        replace q18 := eq_true q18
                        go_wp2
                        go_loopg [35] kj5 (fun kq v35 w' => ∃ (x35_3 : Int), v35 = .int .i64 x35_3 ∧ Aside0 (virgationref02_Symbols.l1 kq l0 l0 (l0.length : Int) x12_1 y126 (y126.length : Int) x35_3 ((rd_T59 l0 x12_1).f0) ((rd_T59 l0 x12_1).f1) = some r) ∧ Aside0 (kq ≤ kj5) ∧ Aside0 (w'.heap[gb124]? = some (.cells #[.string ((rd_T59 l0 x12_1).f0), .int .i64 ((rd_T59 l0 x12_1).f1)] 59 (0, 0))) ∧ Aside0 (Below w.heap.size w w'))
                        case atStart => exact ⟨(0), (by first | rfl | (simp; done) | (simp [*]; done)), H', ⟨Nat.le_refl _⟩, ⟨by (with_reducible repeat (first | refine blk_drewN ?_ _ | refine blk_drew ?_ | refine blk_alloc ?_ _)); exact BK124.out⟩, ⟨by repeat (first | (with_reducible first | exact HB.out | apply below_alloc | apply pw_below_drewN | apply below_drew1 | refine below_set ?_ GE124.out) | exact HB.out)⟩⟩
                        case round =>
                          clear H'
                          try clear c1
                          try clear p1
                          try clear q1
                          try clear hx1
                          try clear c2
                          try clear c2b0
                          try clear c2b1
                          try clear p2
                          try clear c3
                          try clear c3b0
                          try clear c4
                          try clear c4b0
                          try clear c5
                          try clear c5b0
                          try clear c10
                          try clear c11
                          try clear c11b0
                          try clear p12
                          try clear q12
                          try clear hx12
                          try clear c15
                          try clear c16
                          try clear c16b0
                          try clear c16b1
                          try clear c17
                          try clear c17b0
                          try clear c17b1
                          try clear q18
                          try clear hcz12_0
                          try clear hcz12_1
                          try clear hcz13_0
                          try clear hcz13_1
                          try clear hcz14_0
                          try clear hcz14_1
                          try clear hcz8_0
                          try clear hcz8_1
                          try clear hfz12_0
                          try clear hfz12_1
                          try clear hfz13_0
                          try clear hfz13_1
                          try clear hfz14_0
                          try clear hfz14_1
                          try clear hfz8_0
                          try clear hfz8_1
                          try clear hx123_0
                          try clear hx123_1
                          try clear p1
                          try clear p12
                          try clear p123
                          try clear p2
                          try clear q1
                          try clear q12
                          try clear q123
                          try clear q18
                          obtain ⟨x35_3, rfl, HA, HK3, BK124, HB⟩ := hrel
                          cases gk with
                          | zero => exact absurd HA.out (by simp [virgationref02_Symbols.l1])
                          | succ k3 =>
                            have H := HA.out
                            clear HA
                            simp only [virgationref02_Symbols.l1] at H
                            by_cases c19 : x35_3 < (y126.length : Int)
                            · rw [if_pos c19] at H
                              have c19b0 : decide (x35_3 < (y126.length : Int)) = true := decide_eq_true c19
                              clear c19
                              by_cases c20 : 0 ≤ x35_3
                              · rw [if_pos c20] at H
                                have c20b0 : decide (0 ≤ x35_3) = true := decide_eq_true c20
                                clear c20
                                by_cases c21 : x35_3 < (y126.length : Int)
                                · rw [if_pos c21] at H
                                  have c21b0 : decide (x35_3 < (y126.length : Int)) = true := decide_eq_true c21
                                  clear c21
                                  by_cases c22 : ((rd_T59 l0 x12_1).f0).toList = ((rd_T59 y126 x35_3).f0).toList
                                  · rw [if_pos c22] at H
                                    have c22b0 : (((rd_T59 l0 x12_1).f0).toList == ((rd_T59 y126 x35_3).f0).toList) = true := beq_iff_eq.mpr c22
                                    have c22b1 : (((rd_T59 l0 x12_1).f0).toList != ((rd_T59 y126 x35_3).f0).toList) = false := bne_eq_false_iff_eq.mpr c22
                                    clear c22
                                    obtain rfl := Option.some.inj H
                                    have p130 : 0 ≤ (x35_3 : Int) := of_decide_eq_true (by first | (with_reducible assumption) | assumption)
                                    have q130 : x35_3 < (y126.length : Int) := of_decide_eq_true (by first | (with_reducible assumption) | assumption)
                                    obtain ⟨ad130, e130, hx130_0, hx130_1⟩ := at_T59 HR129.out x35_3 p130 q130
                                    obtain rfl : ad123 = ad130 := (by injection e130)
                                    replace hx130_0 := (HB.out.cell (World.block_lt_of_cell? w _ hx130_0)).trans hx130_0
                                    replace hx130_1 := (HB.out.cell (World.block_lt_of_cell? w _ hx130_1)).trans hx130_1
                                    replace p130 := eq_true p130
                                    replace q130 := eq_true q130
                                    go_wp2_with (first | ((with_reducible refine gate_dst (N := 6) rfl ?_); refine box_event ?hg (N := 6) ?hd (cs := #[.string (⟨#[]⟩ : ByteArray), .int .i64 0]) (t := 59) ?hr ?_; (case hd => rfl); (case hg => rfl); (case hr => first | (go_simp; done) | (go_simp; rfl)); intro gb131 hg w23 hbox hb; have n0_ := Aside0.mk (blk_below (g := gb124) (o := .cells #[.string ((rd_T59 l0 x12_1).f0), .int .i64 ((rd_T59 l0 x12_1).f1)] 59 (0, 0)) (by (with_reducible repeat (first | refine blk_drewN ?_ _ | refine blk_drew ?_ | refine blk_alloc ?_ _)); exact BK124.out) hb); have n1_ := Aside0.mk (below_step (by repeat (first | (with_reducible first | exact HB.out | apply below_alloc | apply pw_below_drewN | apply below_drew1 | refine below_set ?_ GE124.out) | exact HB.out)) hb); have n2_ := Aside0.mk (hbox); have n3_ := Aside0.mk ((by rw [hg]; exact (below_size (by repeat (first | (with_reducible first | exact HB.out | apply below_alloc | apply pw_below_drewN | apply below_drew1 | refine below_set ?_ GE124.out) | exact HB.out))) : w.heap.size ≤ gb131)); have n4_ := Aside0.mk ((by rw [hg]; exact (below_size (by repeat (first | (with_reducible first | exact HB.out | apply below_alloc | apply pw_below_drewN | apply below_drew1 | refine below_set ?_ GE124.out) | exact HB.out))) : w.heap.size ≤ gb131)); have n5_ := Aside0.mk ((by rw [hg]; exact Nat.ne_of_lt (blk_lt (g := gb124) (o := .cells #[.string ((rd_T59 l0 x12_1).f0), .int .i64 ((rd_T59 l0 x12_1).f1)] 59 (0, 0)) (by (with_reducible repeat (first | refine blk_drewN ?_ _ | refine blk_drew ?_ | refine blk_alloc ?_ _)); exact BK124.out)) : gb124 ≠ gb131)); have n6_ := Aside0.mk ((by rw [hg]; exact Nat.ne_of_gt (blk_lt (g := gb124) (o := .cells #[.string ((rd_T59 l0 x12_1).f0), .int .i64 ((rd_T59 l0 x12_1).f1)] 59 (0, 0)) (by (with_reducible repeat (first | refine blk_drewN ?_ _ | refine blk_drew ?_ | refine blk_alloc ?_ _)); exact BK124.out)) : gb131 ≠ gb124)); clear BK124; clear HB; have BK124 := n0_; have HB := n1_; have BK131 := n2_; have GW131 := n3_; have GE131 := n4_; have NB124_131 := n5_; have NB131_124 := n6_; clear n0_ n1_ n2_ n3_ n4_ n5_ n6_; clear hb hbox hg; have hnb24 := NB131_124.out; have hnc24 := NB124_131.out; have hcz25_0 : w23.cell? ⟨gb131, 0, none⟩ = some (.string (⟨#[]⟩ : ByteArray)) := (blk_cell BK131.out 0).trans rfl; have hcz25_1 : w23.cell? ⟨gb131, 1, none⟩ = some (.int .i64 0) := (blk_cell BK131.out 1).trans rfl; have hfz25_0 := blk_frozen BK131.out 0; have hfz25_1 := blk_frozen BK131.out 1; have hcz26_0 : w23.cell? ⟨gb124, 0, none⟩ = some (.string ((rd_T59 l0 x12_1).f0)) := (blk_cell BK124.out 0).trans rfl; have hcz26_1 : w23.cell? ⟨gb124, 1, none⟩ = some (.int .i64 ((rd_T59 l0 x12_1).f1)) := (blk_cell BK124.out 1).trans rfl; have hfz26_0 := blk_frozen BK124.out 0; have hfz26_1 := blk_frozen BK124.out 1))
                                    go_ret
                                    exact ⟨by first | rfl | (simp [errW_none, errW_some] <;> rfl) | (simp [*, errW_none, errW_some] <;> rfl), by repeat (first | (with_reducible first | exact HB.out | apply below_alloc | apply pw_below_drewN | apply below_drew1 | refine below_set ?_ GE124.out | refine below_set ?_ GE131.out) | exact HB.out)⟩
                                  · rw [if_neg c22] at H
                                    have c22b0 : (((rd_T59 l0 x12_1).f0).toList == ((rd_T59 y126 x35_3).f0).toList) = false := beq_eq_false_iff_ne.mpr c22
                                    have c22b1 : (((rd_T59 l0 x12_1).f0).toList != ((rd_T59 y126 x35_3).f0).toList) = true := bne_iff_ne.mpr c22
                                    have H' := Aside0.mk H
                                    clear H
                                    have p130 : 0 ≤ (x35_3 : Int) := of_decide_eq_true (by first | (with_reducible assumption) | assumption)
                                    have q130 : x35_3 < (y126.length : Int) := of_decide_eq_true (by first | (with_reducible assumption) | assumption)
                                    obtain ⟨ad130, e130, hx130_0, hx130_1⟩ := at_T59 HR129.out x35_3 p130 q130
                                    obtain rfl : ad123 = ad130 := (by injection e130)
                                    replace hx130_0 := (HB.out.cell (World.block_lt_of_cell? w _ hx130_0)).trans hx130_0
                                    replace hx130_1 := (HB.out.cell (World.block_lt_of_cell? w _ hx130_1)).trans hx130_1
                                    replace p130 := eq_true p130
                                    replace q130 := eq_true q130
                                    go_wp2_with (first | ((with_reducible refine gate_dst (N := 6) rfl ?_); refine box_event ?hg (N := 6) ?hd (cs := #[.string (⟨#[]⟩ : ByteArray), .int .i64 0]) (t := 59) ?hr ?_; (case hd => rfl); (case hg => rfl); (case hr => first | (go_simp; done) | (go_simp; rfl)); intro gb131 hg w27 hbox hb; have n0_ := Aside0.mk (blk_below (g := gb124) (o := .cells #[.string ((rd_T59 l0 x12_1).f0), .int .i64 ((rd_T59 l0 x12_1).f1)] 59 (0, 0)) (by (with_reducible repeat (first | refine blk_drewN ?_ _ | refine blk_drew ?_ | refine blk_alloc ?_ _)); exact BK124.out) hb); have n1_ := Aside0.mk (below_step (by repeat (first | (with_reducible first | exact HB.out | apply below_alloc | apply pw_below_drewN | apply below_drew1 | refine below_set ?_ GE124.out) | exact HB.out)) hb); have n2_ := Aside0.mk (hbox); have n3_ := Aside0.mk ((by rw [hg]; exact (below_size (by repeat (first | (with_reducible first | exact HB.out | apply below_alloc | apply pw_below_drewN | apply below_drew1 | refine below_set ?_ GE124.out) | exact HB.out))) : w.heap.size ≤ gb131)); have n4_ := Aside0.mk ((by rw [hg]; exact (below_size (by repeat (first | (with_reducible first | exact HB.out | apply below_alloc | apply pw_below_drewN | apply below_drew1 | refine below_set ?_ GE124.out) | exact HB.out))) : w.heap.size ≤ gb131)); have n5_ := Aside0.mk ((by rw [hg]; exact Nat.ne_of_lt (blk_lt (g := gb124) (o := .cells #[.string ((rd_T59 l0 x12_1).f0), .int .i64 ((rd_T59 l0 x12_1).f1)] 59 (0, 0)) (by (with_reducible repeat (first | refine blk_drewN ?_ _ | refine blk_drew ?_ | refine blk_alloc ?_ _)); exact BK124.out)) : gb124 ≠ gb131)); have n6_ := Aside0.mk ((by rw [hg]; exact Nat.ne_of_gt (blk_lt (g := gb124) (o := .cells #[.string ((rd_T59 l0 x12_1).f0), .int .i64 ((rd_T59 l0 x12_1).f1)] 59 (0, 0)) (by (with_reducible repeat (first | refine blk_drewN ?_ _ | refine blk_drew ?_ | refine blk_alloc ?_ _)); exact BK124.out)) : gb131 ≠ gb124)); clear BK124; clear HB; have BK124 := n0_; have HB := n1_; have BK131 := n2_; have GW131 := n3_; have GE131 := n4_; have NB124_131 := n5_; have NB131_124 := n6_; clear n0_ n1_ n2_ n3_ n4_ n5_ n6_; clear hb hbox hg; have hnb28 := NB131_124.out; have hnc28 := NB124_131.out; have hcz29_0 : w27.cell? ⟨gb131, 0, none⟩ = some (.string (⟨#[]⟩ : ByteArray)) := (blk_cell BK131.out 0).trans rfl; have hcz29_1 : w27.cell? ⟨gb131, 1, none⟩ = some (.int .i64 0) := (blk_cell BK131.out 1).trans rfl; have hfz29_0 := blk_frozen BK131.out 0; have hfz29_1 := blk_frozen BK131.out 1; have hcz30_0 : w27.cell? ⟨gb124, 0, none⟩ = some (.string ((rd_T59 l0 x12_1).f0)) := (blk_cell BK124.out 0).trans rfl; have hcz30_1 : w27.cell? ⟨gb124, 1, none⟩ = some (.int .i64 ((rd_T59 l0 x12_1).f1)) := (blk_cell BK124.out 1).trans rfl; have hfz30_0 := blk_frozen BK124.out 0; have hfz30_1 := blk_frozen BK124.out 1))
                                    go_roundg k3
                                    case measure => have := HK1.out; have := HJ5.out; have := HK3.out; omega
                                    case rel => exact ⟨(wrap64 (x35_3 + 1)), (by first | rfl | (simp; done) | (simp [*]; done)), H', ⟨by have := HK1.out; have := HJ5.out; have := HK3.out; omega⟩, ⟨by (with_reducible repeat (first | refine blk_drewN ?_ _ | refine blk_drew ?_ | refine blk_alloc ?_ _)); refine blk_far ?_ NB124_131.out _; (with_reducible repeat (first | refine blk_drewN ?_ _ | refine blk_drew ?_ | refine blk_alloc ?_ _)); refine blk_far ?_ NB124_131.out _; (with_reducible repeat (first | refine blk_drewN ?_ _ | refine blk_drew ?_ | refine blk_alloc ?_ _)); exact BK124.out⟩, ⟨by repeat (first | (with_reducible first | exact HB.out | apply below_alloc | apply pw_below_drewN | apply below_drew1 | refine below_set ?_ GE124.out | refine below_set ?_ GE131.out) | exact HB.out)⟩⟩
                                · rw [if_neg c21] at H
                                  exact absurd H (by simp)
                              · rw [if_neg c20] at H
                                exact absurd H (by simp)
                            · rw [if_neg c19] at H
                              have c19b0 : decide (x35_3 < (y126.length : Int)) = false := decide_eq_false c19
                              clear c19
                              have H' := Aside0.mk H
                              clear H
                              go_wp2
                              go_roundg k3
                              case measure => have := HK1.out; have := HJ5.out; have := HK3.out; omega
                              case rel => exact ⟨(wrap64 (x12_1 + 1)), (by first | rfl | (simp; done) | (simp [*]; done)), H', ⟨by have := HK1.out; have := HJ5.out; have := HK3.out; omega⟩, ⟨by repeat (first | (with_reducible first | exact HB.out | apply below_alloc | apply pw_below_drewN | apply below_drew1 | refine below_set ?_ GE124.out) | exact HB.out)⟩⟩
                      · rw [if_neg c17] at H
                        exact absurd H (by simp)
                    · rw [if_neg c16] at H
                      exact absurd H (by simp)
            · rw [if_neg c5] at H
              exact absurd H (by simp)
          · rw [if_neg c4] at H
            exact absurd H (by simp)
        · rw [if_neg c3] at H
          have c3b0 : decide (x12_1 < (l0.length : Int)) = false := decide_eq_false c3
          clear c3
          obtain rfl := Option.some.inj H
          go_wp2
          go_ret
          exact ⟨by first | rfl | (simp [errW_none, errW_some] <;> rfl) | (simp [*, errW_none, errW_some] <;> rfl), by repeat (first | (with_reducible first | exact HB.out | apply below_alloc | apply pw_below_drewN | apply below_drew1) | exact HB.out)⟩
mutual
def virgationref02_Nodes.l0 : Nat → Int → Int → Int → Int → Int → List (S44) → Option (Int)
  | 0, _, _, _, _, _, _ => none
  | k + 1, x1, x5, x6, x133000, x133001, x133002 => if x6 < (x133002.length : Int) then (if x5 ≤ x1 then (if 0 ≤ x6 then ((virgationref02_Nodes.f k ((rd_T44 x133002 x6).f0) ((rd_T44 x133002 x6).f1) ((rd_T44 x133002 x6).f2) (wrap64 (x1 - x5))).bind fun t134 => (virgationref02_Nodes.l0 k x1 (wrap64 (x5 + t134)) (wrap64 (x6 + 1)) x133000 x133001 x133002)) else (none)) else (some x5)) else (some x5)
def virgationref02_Nodes.f : Nat → Int → Int → List (S44) → Int → Option (Int)
  | 0, _, _, _, _ => none
  | k + 1, a0_0, a0_1, l0_2, a1 => virgationref02_Nodes.l0 k a1 1 0 a0_0 a0_1 l0_2
end
set_option maxHeartbeats 8000000 in
set_option maxRecDepth 100000 in
theorem virgationref02_Nodes.calls (k : Nat) : ∀ (a0_0 : Int) (a0_1 : Int) (A0_2 : Option Addr) (c0_2 : Nat) (l0_2 : List (S44)) (a1 : Int) (r : Int) (w : World) (hr0_2 : Kd.C k44 w A0_2 l0_2.length l0_2) (hc0_2 : l0_2.length ≤ c0_2) (h : virgationref02_Nodes.f k a0_0 a0_1 l0_2 a1 = some r),
    Calls Try.prog 34 #[.agg #[.int .i64 a0_0, .int .i64 a0_1, .slice A0_2 l0_2.length c0_2], .int .i64 a1] w fun e w' => e = .returned (.int .i64 r) ∧ Below w.heap.size w w' := by
  induction k using Nat.strongRecOn with
  | _ k ih =>
  intro a0_0 a0_1 A0_2 c0_2 l0_2 a1 r w hr0_2 hc0_2 h
  cases k with
  | zero => exact absurd h (by simp [virgationref02_Nodes.f])
  | succ k =>
  simp only [virgationref02_Nodes.f] at h
  have hu44 := Try.underlying44
  have HR0_2 := Aside0.mk hr0_2
  have HC0_2 := Aside0.mk hc0_2
  clear hr0_2 hc0_2
  have HB := Aside0.mk (Below.refl w.heap.size w)
  have H : (virgationref02_Nodes.l0 k a1 1 0 a0_0 a0_1 l0_2) = some r := h
  clear h
  have H' := Aside0.mk H
  clear H
  go_enter Try.func34, Try.ntmps34
  go_wp2_with (first | ((with_reducible refine gate_dst (N := 2) rfl ?_); refine box_event ?hg (N := 2) ?hd (cs := #[.int .i64 a0_0, .int .i64 a0_1, .slice A0_2 l0_2.length c0_2]) (t := 44) ?hr ?_; (case hd => rfl); (case hg => rfl); (case hr => first | (go_simp; done) | (go_simp; rfl)); intro gb132 hg w3 hbox hb; have n0_ := Aside0.mk (below_step (by repeat (first | (with_reducible first | exact HB.out | apply below_alloc | apply pw_below_drewN | apply below_drew1) | exact HB.out)) hb); have n1_ := Aside0.mk (hbox); have n2_ := Aside0.mk ((by rw [hg]; exact (below_size (by repeat (first | (with_reducible first | exact HB.out | apply below_alloc | apply pw_below_drewN | apply below_drew1) | exact HB.out))) : w.heap.size ≤ gb132)); have n3_ := Aside0.mk ((by rw [hg]; exact (below_size (by repeat (first | (with_reducible first | exact HB.out | apply below_alloc | apply pw_below_drewN | apply below_drew1) | exact HB.out))) : w.heap.size ≤ gb132)); clear HB; have HB := n0_; have BK132 := n1_; have GW132 := n2_; have GE132 := n3_; clear n0_ n1_ n2_ n3_; clear hb hbox hg))
  go_loopg [5, 6] k (fun kq v5 v6 w' => ∃ (x5_1 : Int) (x6_1 : Int), v5 = .int .i64 x5_1 ∧ v6 = .int .i64 x6_1 ∧ Aside0 (virgationref02_Nodes.l0 kq a1 x5_1 x6_1 a0_0 a0_1 l0_2 = some r) ∧ Aside0 (kq ≤ k) ∧ Aside0 (w'.heap[gb132]? = some (.cells #[.int .i64 a0_0, .int .i64 a0_1, (.slice A0_2 l0_2.length c0_2)] 44 (0, 0))) ∧ Aside0 (Below w.heap.size w w'))
  case atStart => exact ⟨(1), (0), (by first | rfl | (simp; done) | (simp [*]; done)), (by first | rfl | (simp; done) | (simp [*]; done)), H', ⟨Nat.le_refl _⟩, ⟨by (with_reducible repeat (first | refine blk_drewN ?_ _ | refine blk_drew ?_ | refine blk_alloc ?_ _)); exact BK132.out⟩, ⟨by repeat (first | (with_reducible first | exact HB.out | apply below_alloc | apply pw_below_drewN | apply below_drew1 | refine below_set ?_ GE132.out) | exact HB.out)⟩⟩
  case round =>
    clear H'
    try clear p2
    try clear c3
    obtain ⟨x5_1, x6_1, rfl, rfl, HA, HK1, BK132, HB⟩ := hrel
    cases gk with
    | zero => exact absurd HA.out (by simp [virgationref02_Nodes.l0])
    | succ k1 =>
      have H := HA.out
      clear HA
      simp only [virgationref02_Nodes.l0] at H
      by_cases c4 : x6_1 < (l0_2.length : Int)
      · rw [if_pos c4] at H
        have c4b0 : decide (x6_1 < (l0_2.length : Int)) = true := decide_eq_true c4
        clear c4
        by_cases c5 : x5_1 ≤ a1
        · rw [if_pos c5] at H
          have c5b0 : decide (x5_1 ≤ a1) = true := decide_eq_true c5
          clear c5
          by_cases c6 : 0 ≤ x6_1
          · rw [if_pos c6] at H
            have c6b0 : decide (0 ≤ x6_1) = true := decide_eq_true c6
            clear c6
            replace H := Option.bind_eq_some_iff.mp H
            obtain ⟨t134, A70, H⟩ := H
            replace H : (virgationref02_Nodes.l0 k1 a1 (wrap64 (x5_1 + t134)) (wrap64 (x6_1 + 1)) a0_0 a0_1 l0_2) = some r := H
            have A7 := Aside0.mk A70
            clear A70
            have H' := Aside0.mk H
            clear H
            have hcz8_0 : wr.cell? ⟨gb132, 0, none⟩ = some (.int .i64 a0_0) := (blk_cell BK132.out 0).trans rfl
            have hcz8_1 : wr.cell? ⟨gb132, 1, none⟩ = some (.int .i64 a0_1) := (blk_cell BK132.out 1).trans rfl
            have hcz8_2 : wr.cell? ⟨gb132, 2, none⟩ = some (.slice A0_2 l0_2.length c0_2) := (blk_cell BK132.out 2).trans rfl
            have hfz8_0 := blk_frozen BK132.out 0
            have hfz8_1 := blk_frozen BK132.out 1
            have hfz8_2 := blk_frozen BK132.out 2
            have p133 : 0 ≤ (x6_1 : Int) := of_decide_eq_true (by first | (with_reducible assumption) | assumption)
            have q133 : x6_1 < (l0_2.length : Int) := of_decide_eq_true (by first | (with_reducible assumption) | assumption)
            obtain ⟨ad133, A133_2, c133_2, e133, hx133_0, hx133_1, hx133_2, hl133_2, hi133_2⟩ := at_T44 HR0_2.out x6_1 p133 q133
            cases e133
            replace hx133_0 := (HB.out.cell (World.block_lt_of_cell? w _ hx133_0)).trans hx133_0
            replace hx133_1 := (HB.out.cell (World.block_lt_of_cell? w _ hx133_1)).trans hx133_1
            replace hx133_2 := (HB.out.cell (World.block_lt_of_cell? w _ hx133_2)).trans hx133_2
            have HR133_2 := Aside0.mk hi133_2
            have HC133_2 := Aside0.mk hl133_2
            clear hi133_2 hl133_2
            replace p133 := eq_true p133
            replace q133 := eq_true q133
            go_wp2_with (first | ((with_reducible refine gate_callee (f := 34) rfl ?_); refine goesL_ (some 28) rfl rfl Try.func34 (by kernel_rfl) rfl #[.agg #[.int .i64 ((rd_T44 l0_2 x6_1).f0), .int .i64 ((rd_T44 l0_2 x6_1).f1), .slice A133_2 ((rd_T44 l0_2 x6_1).f2).length c133_2], .int .i64 (wrap64 (a1 - x5_1))] rfl (by (try simp only [List.map_toArray, List.map_cons, List.map_nil]); first | done | rfl | (simp only [List.length_drop, List.length_take]; rfl)) ?_; (with_reducible refine (ih k1 (by have := HK1.out; omega) ((rd_T44 l0_2 x6_1).f0) ((rd_T44 l0_2 x6_1).f1) _ _ ((rd_T44 l0_2 x6_1).f2) (wrap64 (a1 - x5_1)) t134 _ ?side1 ?side2 A7.out).mono ?_); (case side1 => repeat (first | exact (Kd.C_below HR133_2.out HB.out) | (with_reducible refine Kd.C_alloc ?_ _) | (with_reducible refine Kd.C_drewN ?_ _) | (with_reducible refine Kd.C_drew ?_))); (case side2 => exact HC133_2.out); rintro e w9 ⟨rfl, hb⟩; refine ⟨_, rfl, ?_⟩; have n0_ := Aside0.mk (blk_below (g := gb132) (o := .cells #[.int .i64 a0_0, .int .i64 a0_1, .slice (some ad133) l0_2.length c0_2] 44 (0, 0)) (by (with_reducible repeat (first | refine blk_drewN ?_ _ | refine blk_drew ?_ | refine blk_alloc ?_ _)); exact BK132.out) hb); have n1_ := Aside0.mk (below_step (by repeat (first | (with_reducible first | exact HB.out | apply below_alloc | apply pw_below_drewN | apply below_drew1 | refine below_set ?_ GE132.out) | exact HB.out)) hb); clear BK132; clear HB; have BK132 := n0_; have HB := n1_; clear n0_ n1_; (try clear hb); (try clear hb2); (try clear hk); (try clear hi)))
            go_roundg k1
            case measure => have := HK1.out; omega
            case rel => exact ⟨(wrap64 (x5_1 + t134)), (wrap64 (x6_1 + 1)), (by first | rfl | (simp; done) | (simp [*]; done)), (by first | rfl | (simp; done) | (simp [*]; done)), H', ⟨by have := HK1.out; omega⟩, ⟨by (with_reducible repeat (first | refine blk_drewN ?_ _ | refine blk_drew ?_ | refine blk_alloc ?_ _)); exact BK132.out⟩, ⟨by repeat (first | (with_reducible first | exact HB.out | apply below_alloc | apply pw_below_drewN | apply below_drew1 | refine below_set ?_ GE132.out) | exact HB.out)⟩⟩
          · rw [if_neg c6] at H
            exact absurd H (by simp)
        · rw [if_neg c5] at H
          have c5b0 : decide (x5_1 ≤ a1) = false := decide_eq_false c5
          clear c5
          obtain rfl := Option.some.inj H
          have hcz10_0 : wr.cell? ⟨gb132, 0, none⟩ = some (.int .i64 a0_0) := (blk_cell BK132.out 0).trans rfl
          have hcz10_1 : wr.cell? ⟨gb132, 1, none⟩ = some (.int .i64 a0_1) := (blk_cell BK132.out 1).trans rfl
          have hcz10_2 : wr.cell? ⟨gb132, 2, none⟩ = some (.slice A0_2 l0_2.length c0_2) := (blk_cell BK132.out 2).trans rfl
          have hfz10_0 := blk_frozen BK132.out 0
          have hfz10_1 := blk_frozen BK132.out 1
          have hfz10_2 := blk_frozen BK132.out 2
          go_wp2
          go_ret
          exact ⟨by first | rfl | (simp [errW_none, errW_some] <;> rfl) | (simp [*, errW_none, errW_some] <;> rfl), by repeat (first | (with_reducible first | exact HB.out | apply below_alloc | apply pw_below_drewN | apply below_drew1 | refine below_set ?_ GE132.out) | exact HB.out)⟩
      · rw [if_neg c4] at H
        have c4b0 : decide (x6_1 < (l0_2.length : Int)) = false := decide_eq_false c4
        clear c4
        obtain rfl := Option.some.inj H
        have hcz11_0 : wr.cell? ⟨gb132, 0, none⟩ = some (.int .i64 a0_0) := (blk_cell BK132.out 0).trans rfl
        have hcz11_1 : wr.cell? ⟨gb132, 1, none⟩ = some (.int .i64 a0_1) := (blk_cell BK132.out 1).trans rfl
        have hcz11_2 : wr.cell? ⟨gb132, 2, none⟩ = some (.slice A0_2 l0_2.length c0_2) := (blk_cell BK132.out 2).trans rfl
        have hfz11_0 := blk_frozen BK132.out 0
        have hfz11_1 := blk_frozen BK132.out 1
        have hfz11_2 := blk_frozen BK132.out 2
        go_wp2
        go_ret
        exact ⟨by first | rfl | (simp [errW_none, errW_some] <;> rfl) | (simp [*, errW_none, errW_some] <;> rfl), by repeat (first | (with_reducible first | exact HB.out | apply below_alloc | apply pw_below_drewN | apply below_drew1 | refine below_set ?_ GE132.out) | exact HB.out)⟩
mutual
def virgationref02_Depth.l0 : Nat → Int → List (S44) → Int → Int → Option (Int)
  | 0, _, _, _, _ => none
  | k + 1, x3, x7, x8, x9 => if x9 < x8 then (if 0 ≤ x9 then (if x9 < (x7.length : Int) then ((virgationref02_Depth.f k ((rd_T44 x7 x9).f0) ((rd_T44 x7 x9).f1) ((rd_T44 x7 x9).f2)).bind fun t138 => (virgationref02_Depth.l0 k (mx x3 t138) x7 x8 (wrap64 (x9 + 1)))) else (none)) else (none)) else (some (wrap64 (x3 + 1)))
def virgationref02_Depth.f : Nat → Int → Int → List (S44) → Option (Int)
  | 0, _, _, _ => none
  | k + 1, a0_0, a0_1, l0_2 => virgationref02_Depth.l0 k 0 l0_2 (l0_2.length : Int) 0
end
set_option maxHeartbeats 8000000 in
set_option maxRecDepth 100000 in
theorem virgationref02_Depth.calls (k : Nat) : ∀ (a0_0 : Int) (a0_1 : Int) (A0_2 : Option Addr) (c0_2 : Nat) (l0_2 : List (S44)) (r : Int) (w : World) (hr0_2 : Kd.C k44 w A0_2 l0_2.length l0_2) (hc0_2 : l0_2.length ≤ c0_2) (h : virgationref02_Depth.f k a0_0 a0_1 l0_2 = some r),
    Calls Try.prog 35 #[.agg #[.int .i64 a0_0, .int .i64 a0_1, .slice A0_2 l0_2.length c0_2]] w fun e w' => e = .returned (.int .i64 r) ∧ Below w.heap.size w w' := by
  induction k using Nat.strongRecOn with
  | _ k ih =>
  intro a0_0 a0_1 A0_2 c0_2 l0_2 r w hr0_2 hc0_2 h
  cases k with
  | zero => exact absurd h (by simp [virgationref02_Depth.f])
  | succ k =>
  simp only [virgationref02_Depth.f] at h
  have hu44 := Try.underlying44
  have HR0_2 := Aside0.mk hr0_2
  have HC0_2 := Aside0.mk hc0_2
  clear hr0_2 hc0_2
  have HB := Aside0.mk (Below.refl w.heap.size w)
  have H : (virgationref02_Depth.l0 k 0 l0_2 (l0_2.length : Int) 0) = some r := h
  clear h
  have H' := Aside0.mk H
  clear H
  go_enter Try.func35, Try.ntmps35
  go_wp2_with (first | ((with_reducible refine gate_dst (N := 1) rfl ?_); refine box_event ?hg (N := 1) ?hd (cs := #[.int .i64 a0_0, .int .i64 a0_1, .slice A0_2 l0_2.length c0_2]) (t := 44) ?hr ?_; (case hd => rfl); (case hg => rfl); (case hr => first | (go_simp; done) | (go_simp; rfl)); intro gb135 hg w2 hbox hb; have n0_ := Aside0.mk (below_step (by repeat (first | (with_reducible first | exact HB.out | apply below_alloc | apply pw_below_drewN | apply below_drew1) | exact HB.out)) hb); have n1_ := Aside0.mk (hbox); have n2_ := Aside0.mk ((by rw [hg]; exact (below_size (by repeat (first | (with_reducible first | exact HB.out | apply below_alloc | apply pw_below_drewN | apply below_drew1) | exact HB.out))) : w.heap.size ≤ gb135)); have n3_ := Aside0.mk ((by rw [hg]; exact (below_size (by repeat (first | (with_reducible first | exact HB.out | apply below_alloc | apply pw_below_drewN | apply below_drew1) | exact HB.out))) : w.heap.size ≤ gb135)); clear HB; have HB := n0_; have BK135 := n1_; have GW135 := n2_; have GE135 := n3_; clear n0_ n1_ n2_ n3_; clear hb hbox hg; have hcz3_0 : w2.cell? ⟨gb135, 0, none⟩ = some (.int .i64 a0_0) := (blk_cell BK135.out 0).trans rfl; have hcz3_1 : w2.cell? ⟨gb135, 1, none⟩ = some (.int .i64 a0_1) := (blk_cell BK135.out 1).trans rfl; have hcz3_2 : w2.cell? ⟨gb135, 2, none⟩ = some (.slice A0_2 l0_2.length c0_2) := (blk_cell BK135.out 2).trans rfl; have hfz3_0 := blk_frozen BK135.out 0; have hfz3_1 := blk_frozen BK135.out 1; have hfz3_2 := blk_frozen BK135.out 2))
  go_loopg [3, 9] k (fun kq v3 v9 w' => ∃ (x3_1 : Int) (x9_1 : Int), v3 = .int .i64 x3_1 ∧ v9 = .int .i64 x9_1 ∧ Aside0 (virgationref02_Depth.l0 kq x3_1 l0_2 (l0_2.length : Int) x9_1 = some r) ∧ Aside0 (kq ≤ k) ∧ Aside0 (w'.heap[gb135]? = some (.cells #[.int .i64 a0_0, .int .i64 a0_1, (.slice A0_2 l0_2.length c0_2)] 44 (0, 0))) ∧ Aside0 (Below w.heap.size w w'))
  case atStart => exact ⟨(0), (0), (by first | rfl | (simp; done) | (simp [*]; done)), (by first | rfl | (simp; done) | (simp [*]; done)), H', ⟨Nat.le_refl _⟩, ⟨by (with_reducible repeat (first | refine blk_drewN ?_ _ | refine blk_drew ?_ | refine blk_alloc ?_ _)); exact BK135.out⟩, ⟨by repeat (first | (with_reducible first | exact HB.out | apply below_alloc | apply pw_below_drewN | apply below_drew1 | refine below_set ?_ GE135.out) | exact HB.out)⟩⟩
  case round =>
    clear H'
    try clear p2
    try clear c3
    try clear hcz3_0
    try clear hcz3_1
    try clear hcz3_2
    try clear hfz3_0
    try clear hfz3_1
    try clear hfz3_2
    obtain ⟨x3_1, x9_1, rfl, rfl, HA, HK1, BK135, HB⟩ := hrel
    cases gk with
    | zero => exact absurd HA.out (by simp [virgationref02_Depth.l0])
    | succ k1 =>
      have H := HA.out
      clear HA
      simp only [virgationref02_Depth.l0] at H
      by_cases c4 : x9_1 < (l0_2.length : Int)
      · rw [if_pos c4] at H
        have c4b0 : decide (x9_1 < (l0_2.length : Int)) = true := decide_eq_true c4
        clear c4
        by_cases c5 : 0 ≤ x9_1
        · rw [if_pos c5] at H
          have c5b0 : decide (0 ≤ x9_1) = true := decide_eq_true c5
          clear c5
          by_cases c6 : x9_1 < (l0_2.length : Int)
          · rw [if_pos c6] at H
            have c6b0 : decide (x9_1 < (l0_2.length : Int)) = true := decide_eq_true c6
            clear c6
            replace H := Option.bind_eq_some_iff.mp H
            obtain ⟨t138, A70, H⟩ := H
            replace H : (virgationref02_Depth.l0 k1 (mx x3_1 t138) l0_2 (l0_2.length : Int) (wrap64 (x9_1 + 1))) = some r := H
            have A7 := Aside0.mk A70
            clear A70
            obtain ⟨ji8, hji8⟩ : ∃ j_ : Int, (mx x3_1 t138) = j_ := ⟨_, rfl⟩
            replace H : (virgationref02_Depth.l0 k1 ji8 l0_2 (l0_2.length : Int) (wrap64 (x9_1 + 1))) = some r := by first | (rw [hji8] at H; exact H) | (simp only [hji8] at H ⊢; exact H)
            (try rw [hji8] at A7)
            have hji8_ : (if x3_1 < t138 then t138 else x3_1) = ji8 := hji8
            have H' := Aside0.mk H
            clear H
            have p136 : 0 ≤ (x9_1 : Int) := of_decide_eq_true (by first | (with_reducible assumption) | assumption)
            have q136 : x9_1 < (l0_2.length : Int) := of_decide_eq_true (by first | (with_reducible assumption) | assumption)
            obtain ⟨ad136, A136_2, c136_2, e136, hx136_0, hx136_1, hx136_2, hl136_2, hi136_2⟩ := at_T44 HR0_2.out x9_1 p136 q136
            cases e136
            replace hx136_0 := (HB.out.cell (World.block_lt_of_cell? w _ hx136_0)).trans hx136_0
            replace hx136_1 := (HB.out.cell (World.block_lt_of_cell? w _ hx136_1)).trans hx136_1
            replace hx136_2 := (HB.out.cell (World.block_lt_of_cell? w _ hx136_2)).trans hx136_2
            have HR136_2 := Aside0.mk hi136_2
            have HC136_2 := Aside0.mk hl136_2
            clear hi136_2 hl136_2
            replace p136 := eq_true p136
            replace q136 := eq_true q136
            go_wp2_with (first | ((with_reducible refine gate_dst (N := 5) rfl ?_); refine box_event ?hg (N := 5) ?hd (cs := #[.int .i64 0, .int .i64 0, .slice none 0 0]) (t := 44) ?hr ?_; (case hd => rfl); (case hg => rfl); (case hr => first | (go_simp; done) | (go_simp; rfl)); intro gb137 hg w9 hbox hb; have n0_ := Aside0.mk (blk_below (g := gb135) (o := .cells #[.int .i64 a0_0, .int .i64 a0_1, .slice (some ad136) l0_2.length c0_2] 44 (0, 0)) (by (with_reducible repeat (first | refine blk_drewN ?_ _ | refine blk_drew ?_ | refine blk_alloc ?_ _)); exact BK135.out) hb); have n1_ := Aside0.mk (below_step (by repeat (first | (with_reducible first | exact HB.out | apply below_alloc | apply pw_below_drewN | apply below_drew1 | refine below_set ?_ GE135.out) | exact HB.out)) hb); have n2_ := Aside0.mk (hbox); have n3_ := Aside0.mk ((by rw [hg]; exact (below_size (by repeat (first | (with_reducible first | exact HB.out | apply below_alloc | apply pw_below_drewN | apply below_drew1 | refine below_set ?_ GE135.out) | exact HB.out))) : w.heap.size ≤ gb137)); have n4_ := Aside0.mk ((by rw [hg]; exact (below_size (by repeat (first | (with_reducible first | exact HB.out | apply below_alloc | apply pw_below_drewN | apply below_drew1 | refine below_set ?_ GE135.out) | exact HB.out))) : w.heap.size ≤ gb137)); have n5_ := Aside0.mk ((by rw [hg]; exact Nat.ne_of_lt (blk_lt (g := gb135) (o := .cells #[.int .i64 a0_0, .int .i64 a0_1, .slice (some ad136) l0_2.length c0_2] 44 (0, 0)) (by (with_reducible repeat (first | refine blk_drewN ?_ _ | refine blk_drew ?_ | refine blk_alloc ?_ _)); exact BK135.out)) : gb135 ≠ gb137)); have n6_ := Aside0.mk ((by rw [hg]; exact Nat.ne_of_gt (blk_lt (g := gb135) (o := .cells #[.int .i64 a0_0, .int .i64 a0_1, .slice (some ad136) l0_2.length c0_2] 44 (0, 0)) (by (with_reducible repeat (first | refine blk_drewN ?_ _ | refine blk_drew ?_ | refine blk_alloc ?_ _)); exact BK135.out)) : gb137 ≠ gb135)); clear BK135; clear HB; have BK135 := n0_; have HB := n1_; have BK137 := n2_; have GW137 := n3_; have GE137 := n4_; have NB135_137 := n5_; have NB137_135 := n6_; clear n0_ n1_ n2_ n3_ n4_ n5_ n6_; clear hb hbox hg; have hnb10 := NB137_135.out; have hnc10 := NB135_137.out; have hcz11_0 : w9.cell? ⟨gb137, 0, none⟩ = some (.int .i64 0) := (blk_cell BK137.out 0).trans rfl; have hcz11_1 : w9.cell? ⟨gb137, 1, none⟩ = some (.int .i64 0) := (blk_cell BK137.out 1).trans rfl; have hcz11_2 : w9.cell? ⟨gb137, 2, none⟩ = some (.slice none 0 0) := (blk_cell BK137.out 2).trans rfl; have hfz11_0 := blk_frozen BK137.out 0; have hfz11_1 := blk_frozen BK137.out 1; have hfz11_2 := blk_frozen BK137.out 2) | ((with_reducible refine gate_callee (f := 35) rfl ?_); refine goesL_ (some 15) rfl rfl Try.func35 (by kernel_rfl) rfl #[.agg #[.int .i64 ((rd_T44 l0_2 x9_1).f0), .int .i64 ((rd_T44 l0_2 x9_1).f1), .slice A136_2 ((rd_T44 l0_2 x9_1).f2).length c136_2]] rfl (by (try simp only [List.map_toArray, List.map_cons, List.map_nil]); first | done | rfl | (simp only [List.length_drop, List.length_take]; rfl)) ?_; (with_reducible refine (ih k1 (by have := HK1.out; omega) ((rd_T44 l0_2 x9_1).f0) ((rd_T44 l0_2 x9_1).f1) _ _ ((rd_T44 l0_2 x9_1).f2) t138 _ ?side1 ?side2 A7.out).mono ?_); (case side1 => exact Kd.C_below HR136_2.out (by repeat (first | (with_reducible first | exact HB.out | apply below_alloc | apply pw_below_drewN | apply below_drew1 | refine below_set ?_ GE135.out | refine below_set ?_ GE137.out) | exact HB.out))); (case side2 => exact HC136_2.out); rintro e w12 ⟨rfl, hb⟩; refine ⟨_, rfl, ?_⟩; have n0_ := Aside0.mk (blk_below (g := gb135) (o := .cells #[.int .i64 a0_0, .int .i64 a0_1, .slice (some ad136) l0_2.length c0_2] 44 (0, 0)) (by (with_reducible repeat (first | refine blk_drewN ?_ _ | refine blk_drew ?_ | refine blk_alloc ?_ _)); refine blk_far ?_ NB135_137.out _; (with_reducible repeat (first | refine blk_drewN ?_ _ | refine blk_drew ?_ | refine blk_alloc ?_ _)); refine blk_far ?_ NB135_137.out _; (with_reducible repeat (first | refine blk_drewN ?_ _ | refine blk_drew ?_ | refine blk_alloc ?_ _)); refine blk_far ?_ NB135_137.out _; (with_reducible repeat (first | refine blk_drewN ?_ _ | refine blk_drew ?_ | refine blk_alloc ?_ _)); exact BK135.out) hb); have n1_ := Aside0.mk (blk_below (g := gb137) (o := .cells #[.int .i64 ((rd_T44 l0_2 x9_1).f0), .int .i64 ((rd_T44 l0_2 x9_1).f1), .slice A136_2 ((rd_T44 l0_2 x9_1).f2).length c136_2] 44 (0, 0)) (by (with_reducible repeat (first | refine blk_drewN ?_ _ | refine blk_drew ?_ | refine blk_alloc ?_ _)); refine blk_put (cs := #[.int .i64 ((rd_T44 l0_2 x9_1).f0), .int .i64 ((rd_T44 l0_2 x9_1).f1), .slice none 0 0]) ?_ 2 _ rfl; (with_reducible repeat (first | refine blk_drewN ?_ _ | refine blk_drew ?_ | refine blk_alloc ?_ _)); refine blk_put (cs := #[.int .i64 ((rd_T44 l0_2 x9_1).f0), .int .i64 0, .slice none 0 0]) ?_ 1 _ rfl; (with_reducible repeat (first | refine blk_drewN ?_ _ | refine blk_drew ?_ | refine blk_alloc ?_ _)); refine blk_put (cs := #[.int .i64 0, .int .i64 0, .slice none 0 0]) ?_ 0 _ rfl; (with_reducible repeat (first | refine blk_drewN ?_ _ | refine blk_drew ?_ | refine blk_alloc ?_ _)); exact BK137.out) hb); have n2_ := Aside0.mk (below_step (by repeat (first | (with_reducible first | exact HB.out | apply below_alloc | apply pw_below_drewN | apply below_drew1 | refine below_set ?_ GE135.out | refine below_set ?_ GE137.out) | exact HB.out)) hb); clear BK135; clear BK137; clear HB; have BK135 := n0_; have BK137 := n1_; have HB := n2_; clear n0_ n1_ n2_; (try clear hb); (try clear hb2); (try clear hk); (try clear hi)))
            go_roundg k1
            case measure => have := HK1.out; omega
            case rel => exact ⟨(ji8), (wrap64 (x9_1 + 1)), (by first | rfl | (simp; done) | (simp only [← hji8] <;> (first | rfl | simp)) | (simp [*]; done)), (by first | rfl | (simp; done) | (simp [*]; done)), H', ⟨by have := HK1.out; omega⟩, ⟨by (with_reducible repeat (first | refine blk_drewN ?_ _ | refine blk_drew ?_ | refine blk_alloc ?_ _)); exact BK135.out⟩, ⟨by repeat (first | (with_reducible first | exact HB.out | apply below_alloc | apply pw_below_drewN | apply below_drew1 | refine below_set ?_ GE135.out | refine below_set ?_ GE137.out) | exact HB.out)⟩⟩
          · rw [if_neg c6] at H
            exact absurd H (by simp)
        · rw [if_neg c5] at H
          exact absurd H (by simp)
      · rw [if_neg c4] at H
        have c4b0 : decide (x9_1 < (l0_2.length : Int)) = false := decide_eq_false c4
        clear c4
        obtain rfl := Option.some.inj H
        go_wp2
        go_ret
        exact ⟨by first | rfl | (simp [errW_none, errW_some] <;> rfl) | (simp [*, errW_none, errW_some] <;> rfl), by repeat (first | (with_reducible first | exact HB.out | apply below_alloc | apply pw_below_drewN | apply below_drew1 | refine below_set ?_ GE135.out) | exact HB.out)⟩
end Go.Proofs.Ytfhgoebgnilfaaa.I
namespace Go.Proofs.Ytfhgoebgnilfaaa.I
open Go.RowKit Go.Proofs.YtfhgoebgnilfaaaW.PrintWords Go.Proofs.YtfhgoebgnilfaaaW.PrintLast Go.Proofs.YtfhgoebgnilfaaaW.PrintMore
attribute [local go_sem] max2_int min2_int max_two min_two max_three min_three max_four min_four
set_option linter.unusedVariables false
set_option maxRecDepth 100000
set_option linter.unusedSimpArgs false
structure KN where
  lk : Option Nat
  bs : Bool
  fr : Option Nat
  tk : Option Nat
def bk (ad : List Nat) (i : Nat) : Nat := ad.getD i 0
abbrev pk (ad : List Nat) (i : Nat) : Value := .pointer (some ⟨bk ad i, 0, none⟩)
def pv (ad : List Nat) : Option Nat → Value
  | none => .pointer none
  | some i => pk ad i
def kcells (ad : List Nat) (n : KN) : Array Value := #[pv ad n.lk, .bool n.bs, pv ad n.fr, pv ad n.tk]
def inS (m : Nat) (o : Option Nat) : Prop := ∀ j, o = some j → j < m
structure Held (B : Nat) (s : List KN) (ad : List Nat) (w : World) : Prop where
  len : ad.length = s.length
  nodup : ad.Nodup
  ge : ∀ b, b ∈ ad → B ≤ b
  cell : ∀ (i : Nat) (n : KN), s[i]? = some n → w.heap[bk ad i]? = some (.cells (kcells ad n) 74 (0, 0))
  ok : ∀ (i : Nat) (n : KN), s[i]? = some n → inS s.length n.lk ∧ inS s.length n.fr ∧ inS s.length n.tk
theorem Held.below {B : Nat} {s : List KN} {ad : List Nat} {w w1 : World} (h : Held B s ad w) (hb : Below w.heap.size w w1) : Held B s ad w1 :=
  ⟨h.len, h.nodup, h.ge, fun i n hn => blk_below (h.cell i n hn) hb, h.ok⟩
theorem Held.at {B : Nat} {s : List KN} {ad : List Nat} {w : World} (h : Held B s ad w) {i : Nat} (hi : i < s.length) : ∃ n, s[i]? = some n ∧ w.heap[bk ad i]? = some (.cells (kcells ad n) 74 (0, 0)) :=
  ⟨s[i], List.getElem?_eq_getElem hi, h.cell i _ (List.getElem?_eq_getElem hi)⟩
theorem Held.inj {B : Nat} {s : List KN} {ad : List Nat} {w : World} (h : Held B s ad w) {i j : Nat} (hi : i < s.length) (hj : j < s.length) : bk ad i = bk ad j ↔ i = j := by
  have hi' : i < ad.length := by rw [h.len]; exact hi
  have hj' : j < ad.length := by rw [h.len]; exact hj
  unfold bk
  rw [List.getD_eq_getElem?_getD, List.getD_eq_getElem?_getD, List.getElem?_eq_getElem hi', List.getElem?_eq_getElem hj']
  simp only [Option.getD_some]
  constructor
  · intro e
    have hp := List.pairwise_iff_getElem.1 h.nodup
    rcases Nat.lt_trichotomy i j with hij | hij | hij
    · exact absurd e (hp i j hi' hj' hij)
    · exact hij
    · exact absurd e.symm (hp j i hj' hi' hij)
  · rintro rfl
    rfl
theorem info74 : ∃ j, Try.prog.info? 74 = some j ∧ j.size = 4 := by
  have h : (Try.prog.info? 74).map (fun i => i.size) = some 4 := by kernel_rfl
  obtain ⟨j, hj, hs⟩ := Option.map_eq_some_iff.1 h
  exact ⟨j, hj, hs⟩
theorem peq_run {B : Nat} {s : List KN} {ad : List Nat} {w : World} (h : Held B s ad w) {i j : Nat} (hi : i < s.length) (hj : j < s.length) :
    (binOp .eql 72 (.pointer (some ⟨bk ad i, 0, none⟩)) (.pointer (some ⟨bk ad j, 0, none⟩))).run Try.prog w = .ok (.bool (decide (i = j))) w := by
  obtain ⟨t, ht, hs⟩ := info74
  by_cases hij : i = j
  · subst hij
    rw [decide_eq_true rfl]
    exact run_eql_ptr_same w _ Try.underlying72 ht
  · rw [decide_eq_false hij]
    obtain ⟨n, _, hn⟩ := h.at hi
    obtain ⟨m, _, hm⟩ := h.at hj
    exact run_eql_ptr_other w Try.underlying72 ht (by rw [hs]; decide) (fun e => hij ((h.inj hi hj).1 (by injection e))) hn hm
def fend (s : List KN) : Nat → Nat → Option Nat
  | 0, _ => none
  | k + 1, i => match s[i]? with
    | none => none
    | some n => match n.lk with
      | none => some i
      | some j => fend s k j
theorem fend_lt {s : List KN} : ∀ {k i r : Nat}, fend s k i = some r → r < s.length
  | 0, i, r, h => by simp [fend] at h
  | k + 1, i, r, h => by
    unfold fend at h
    cases hn : s[i]? with
    | none => rw [hn] at h; cases h
    | some n =>
      rw [hn] at h
      simp only at h
      cases hl : n.lk with
      | none => rw [hl] at h; injection h with h; subst h; exact (List.getElem?_eq_some_iff.1 hn).1
      | some j => rw [hl] at h; exact fend_lt h
set_option maxHeartbeats 4000000 in
theorem kend_calls (B : Nat) (s : List KN) (ad : List Nat) (k i r : Nat) (w : World) (hH : Held B s ad w) (h : fend s k i = some r) :
    Calls Try.prog 58 #[pk ad i] w fun e w' => e = .returned (pk ad r) ∧ w' = w := by
  have hu74 := Try.underlying74
  have HH := Aside0.mk hH
  have H := Aside0.mk h
  clear hH h
  go_enter Try.func58, Try.ntmps58
  go_wp2_with fail
  go_loopg [0] k (fun kq v0 wr => ∃ (i : Nat), v0 = pk ad i ∧ Aside0 (fend s kq i = some r) ∧ wr = w)
  case atStart => exact ⟨i, rfl, H, rfl⟩
  case round =>
    obtain ⟨i, rfl, HF, rfl⟩ := hrel
    have hf := HF.out
    cases gk with
    | zero => exact absurd hf (by simp [fend])
    | succ k1 =>
      unfold fend at hf
      cases hn : s[i]? with
      | none => rw [hn] at hf; cases hf
      | some n =>
        rw [hn] at hf
        simp only at hf
        have hc := HH.out.cell i n hn
        have hc0 : wr.cell? ⟨bk ad i, 0, none⟩ = some (pv ad n.lk) := (blk_cell hc 0).trans rfl
        clear hc HF hn
        cases hl : n.lk with
        | none =>
          rw [hl] at hf hc0
          injection hf with hf
          subst hf
          simp only [pv] at hc0
          try simp only [pk]
          go_wp2_with fail
          go_ret
          exact ⟨rfl, rfl⟩
        | some j =>
          rw [hl] at hf hc0
          simp only at hf
          have HF2 := Aside0.mk hf
          clear hf
          simp only [pv, pk] at hc0
          try simp only [pk]
          go_wp2_with fail
          go_roundg k1
          case measure => omega
          case rel => exact ⟨j, rfl, HF2, rfl⟩
end Go.Proofs.Ytfhgoebgnilfaaa.I
namespace Go.Proofs.Ytfhgoebgnilfaaa.I
open Go.RowKit Go.Proofs.YtfhgoebgnilfaaaW.PrintWords Go.Proofs.YtfhgoebgnilfaaaW.PrintLast Go.Proofs.YtfhgoebgnilfaaaW.PrintMore
attribute [local go_sem] max2_int min2_int max_two min_two max_three min_three max_four min_four
set_option linter.unusedVariables false
set_option maxRecDepth 100000
set_option linter.unusedSimpArgs false
def fwithin (s : List KN) : Nat → Nat → Nat → Option Bool
  | 0, _, _ => none
  | f + 1, k, i => match fend s f i with
    | none => none
    | some r => if k = r then some true else match s[r]? with
      | none => none
      | some n => match n.fr with
        | none => some false
        | some a => match fwithin s f k a with
          | none => none
          | some true => some true
          | some false => match n.tk with
            | none => none
            | some t => fwithin s f k t
set_option maxHeartbeats 4000000 in
theorem within_calls (B : Nat) (s : List KN) (ad : List Nat) (f : Nat) : ∀ (k i : Nat) (r : Bool) (w : World) (hH : Held B s ad w) (hk : k < s.length) (h : fwithin s f k i = some r),
    Calls Try.prog 59 #[pk ad k, pk ad i] w fun e w' => e = .returned (.bool r) ∧ w' = w := by
  induction f using Nat.strongRecOn with
  | _ f ih =>
  intro k i r w hH hk h
  have hu74 := Try.underlying74
  cases f with
  | zero => exact absurd h (by simp [fwithin])
  | succ f =>
  unfold fwithin at h
  cases hr : fend s f i with
  | none => rw [hr] at h; cases h
  | some q =>
  rw [hr] at h
  simp only at h
  have HH := Aside0.mk hH
  have HE := Aside0.mk hr
  have hq := fend_lt hr
  have hinj := hH.inj hk hq
  have IH := Aside0.mk ih
  obtain ⟨n, hn, hc⟩ := hH.at hq
  have hok := hH.ok q n hn
  have hc2 : w.cell? ⟨bk ad q, 2, none⟩ = some (pv ad n.fr) := (blk_cell hc 2).trans rfl
  have hc3 : w.cell? ⟨bk ad q, 3, none⟩ = some (pv ad n.tk) := (blk_cell hc 3).trans rfl
  rw [hn] at h
  simp only at h
  clear hH hr ih hc hn
  go_enter Try.func59, Try.ntmps59
  go_wp2_with fail
  (with_reducible refine (kend_calls B s ad f i q w HH.out HE.out).mono ?_)
  rintro e w1 ⟨rfl, rfl⟩
  have hpe := peq_run HH.out hk hq
  by_cases hkq : k = q
  · rw [if_pos hkq] at h
    injection h with h
    subst h
    rw [decide_eq_true hkq] at hpe
    clear hkq hinj
    try simp only [pk]
    go_wp2_with fail
    go_ret
    exact ⟨rfl, rfl⟩
  · rw [if_neg hkq] at h
    rw [decide_eq_false hkq] at hpe
    clear hkq hinj
    try simp only [pk]
    cases hf : n.fr with
    | none =>
      rw [hf] at h hc2
      injection h with h
      subst h
      simp only [pv] at hc2
      clear hc3 hok hf
      go_wp2_with fail
      go_ret
      exact ⟨rfl, rfl⟩
    | some a =>
      rw [hf] at h hc2
      simp only at h
      simp only [pv, pk] at hc2
      cases hwa : fwithin s f k a with
      | none => rw [hwa] at h; cases h
      | some ba =>
      rw [hwa] at h
      have HWa := Aside0.mk hwa
      clear hwa hf
      go_wp2_with fail
      (with_reducible refine (IH.out f (Nat.lt_succ_self f) k a ba w1 HH.out hk HWa.out).mono ?_)
      rintro e w2 ⟨rfl, rfl⟩
      cases ba with
      | true =>
        injection h with h
        subst h
        go_wp2_with fail
        go_ret
        exact ⟨rfl, rfl⟩
      | false =>
        simp only at h
        cases ht : n.tk with
        | none => rw [ht] at h; cases h
        | some t =>
        rw [ht] at h hc3
        simp only at h
        simp only [pv, pk] at hc3
        have HWt := Aside0.mk h
        clear h ht
        go_wp2_with fail
        (with_reducible refine (IH.out f (Nat.lt_succ_self f) k t r w2 HH.out hk HWt.out).mono ?_)
        rintro e w3 ⟨rfl, rfl⟩
        go_wp2_with fail
        go_ret
        exact ⟨rfl, rfl⟩
end Go.Proofs.Ytfhgoebgnilfaaa.I
namespace Go.Proofs.Ytfhgoebgnilfaaa.I
open Go.RowKit Go.Proofs.YtfhgoebgnilfaaaW.PrintWords Go.Proofs.YtfhgoebgnilfaaaW.PrintLast Go.Proofs.YtfhgoebgnilfaaaW.PrintMore
attribute [local go_sem] max2_int min2_int max_two min_two max_three min_three max_four min_four
set_option linter.unusedVariables false
set_option maxRecDepth 100000
set_option linter.unusedSimpArgs false
structure Turned (ok : Nat → Prop) (w w' : World) : Prop where
  os : w'.os = w.os
  tape : w'.tape = w.tape
  output : w'.output = w.output
  size : w.heap.size ≤ w'.heap.size
  block : ∀ k, k < w.heap.size → ¬ ok k → w'.heap[k]? = w.heap[k]?
theorem Turned.refl (ok : Nat → Prop) (w : World) : Turned ok w w := ⟨rfl, rfl, rfl, Nat.le_refl _, fun _ _ _ => rfl⟩
theorem Turned.trans {ok ok' : Nat → Prop} {w w1 w2 : World} (h : Turned ok w w1) (k : Turned ok' w1 w2) (ho : ∀ k, ok' k → k < w.heap.size → ok k) : Turned ok w w2 :=
  ⟨k.os.trans h.os, k.tape.trans h.tape, k.output.trans h.output, Nat.le_trans h.size k.size, fun j hj hn => (k.block j (Nat.lt_of_lt_of_le hj h.size) (fun h2 => hn (ho j h2 hj))).trans (h.block j hj hn)⟩
theorem Turned.of_below {ok : Nat → Prop} {w w1 : World} (h : Below w.heap.size w w1) : Turned ok w w1 := ⟨h.os, h.tape, h.output, h.size, fun k hk _ => h.block k hk⟩
theorem Turned.set {ok : Nat → Prop} {w w1 : World} (h : Turned ok w w1) (g j : Nat) (u : Value) (hg : ok g) : Turned ok w (w1.setCell ⟨g, j, none⟩ u) :=
  ⟨h.os, h.tape, h.output, by simpa [World.setCell] using h.size, fun k hk hn => (Below.heap_setCell w1 ⟨g, j, none⟩ u k (fun e => hn (by simp only at e; rw [e]; exact hg))).trans (h.block k hk hn)⟩
theorem Turned.below {ok : Nat → Prop} {w0 w w1 : World} {B : Nat} (h : Turned ok w w1) (hB : Below B w0 w) (hb : B ≤ w.heap.size) (ho : ∀ k, ok k → B ≤ k) : Below B w0 w1 :=
  ⟨h.os.trans hB.os, h.tape.trans hB.tape, h.output.trans hB.output, Nat.le_trans hB.size h.size, fun k hk => (h.block k (Nat.lt_of_lt_of_le hk hb) (fun h2 => by have := ho k h2; omega)).trans (hB.block k hk)⟩
theorem bk_mem {B : Nat} {s : List KN} {ad : List Nat} {w : World} (h : Held B s ad w) {i : Nat} (hi : i < s.length) : bk ad i ∈ ad := by
  have hi' : i < ad.length := by rw [h.len]; exact hi
  unfold bk
  rw [List.getD_eq_getElem?_getD, List.getElem?_eq_getElem hi']
  exact List.getElem_mem hi'
def setlk (s : List KN) (i : Nat) (n : KN) (j : Nat) : List KN := s.set i { n with lk := some j }
theorem Held.setlk {B : Nat} {s : List KN} {ad : List Nat} {w : World} (h : Held B s ad w) {i j : Nat} {n : KN} (hn : s[i]? = some n) (hj : j < s.length) :
    Held B (setlk s i n j) ad (w.setCell ⟨bk ad i, 0, none⟩ (pk ad j)) := by
  have hi : i < s.length := (List.getElem?_eq_some_iff.1 hn).1
  refine ⟨by unfold I.setlk; rw [List.length_set]; exact h.len, h.nodup, h.ge, fun k m hm => ?_, fun k m hm => ?_⟩
  · unfold I.setlk at hm
    rw [List.getElem?_set] at hm
    by_cases hik : i = k
    · subst hik
      rw [if_pos rfl, if_pos hi] at hm
      injection hm with hm
      subst hm
      exact blk_put (cs' := kcells ad { n with lk := some j }) (h.cell i n hn) 0 (pk ad j) rfl
    · rw [if_neg hik] at hm
      have hk : k < s.length := (List.getElem?_eq_some_iff.1 hm).1
      exact blk_far (p := ⟨bk ad i, 0, none⟩) (h.cell k m hm) (fun e => hik ((h.inj hi hk).1 e.symm)) _
  · unfold I.setlk at hm ⊢
    rw [List.length_set]
    rw [List.getElem?_set] at hm
    by_cases hik : i = k
    · subst hik
      rw [if_pos rfl, if_pos hi] at hm
      injection hm with hm
      subst hm
      have := h.ok i n hn
      exact ⟨fun q hq => by injection hq with hq; omega, this.2.1, this.2.2⟩
    · rw [if_neg hik] at hm
      exact h.ok k m hm
def fjoin : Nat → List KN → Nat → Nat → Option (Bool × List KN)
  | 0, _, _, _ => none
  | f + 1, s, a, b => match fend s f a with
    | none => none
    | some a => match fend s f b with
      | none => none
      | some b => if a = b then some (true, s) else match s[a]? with
        | none => none
        | some x => match s[b]? with
          | none => none
          | some y => if x.bs = false ∧ x.fr = none then (match fwithin s f a b with
              | none => none
              | some true => some (false, s)
              | some false => some (true, setlk s a x b))
            else if y.bs = false ∧ y.fr = none then fjoin f s b a
            else if x.bs = true ∨ y.bs = true then some (x.bs && y.bs, s)
            else match x.fr with
              | none => none
              | some xf => match y.fr with
                | none => none
                | some yf => match fjoin f s xf yf with
                  | none => none
                  | some (false, s1) => some (false, s1)
                  | some (true, s1) => match s1[a]? with
                    | none => none
                    | some x1 => match s1[b]? with
                      | none => none
                      | some y1 => match x1.tk with
                        | none => none
                        | some xt => match y1.tk with
                          | none => none
                          | some yt => fjoin f s1 xt yt
def shp (n : KN) : Bool × Option Nat × Option Nat := (n.bs, n.fr, n.tk)
theorem setlk_shape {s : List KN} {i j : Nat} {n : KN} (hn : s[i]? = some n) (k : Nat) : ((setlk s i n j)[k]?).map shp = (s[k]?).map shp := by
  have hi : i < s.length := (List.getElem?_eq_some_iff.1 hn).1
  unfold setlk
  rw [List.getElem?_set]
  by_cases hik : i = k
  · subst hik
    rw [if_pos rfl, if_pos hi, hn]
    rfl
  · rw [if_neg hik]
theorem fjoin_shape : ∀ (f : Nat) (s : List KN) (a b : Nat) (r : Bool) (s' : List KN), fjoin f s a b = some (r, s') → ∀ (k : Nat), (s'[k]?).map shp = (s[k]?).map shp
  | 0, s, a, b, r, s', h, k => by simp [fjoin] at h
  | f + 1, s, a, b, r, s', h, k => by
    unfold fjoin at h
    repeat' (split at h)
    all_goals first
      | (cases h; done)
      | (injection h with h; injection h with h1 h2; subst h2; rfl)
      | (injection h with h; injection h with h1 h2; subst h2; exact setlk_shape (by assumption) k)
      | (injection h with h; injection h with h1 h2; subst h2; exact fjoin_shape f _ _ _ _ _ (by assumption) k)
      | exact fjoin_shape f _ _ _ _ _ h k
      | exact (fjoin_shape f _ _ _ _ _ h k).trans (fjoin_shape f _ _ _ _ _ (by assumption) k)
theorem shape_fr {s s1 : List KN} {p : Nat} {x : KN} (h : (s1[p]?).map shp = (s[p]?).map shp) (hx : s[p]? = some x) : ∃ x1, s1[p]? = some x1 ∧ x1.fr = x.fr ∧ x1.tk = x.tk := by
  rw [hx] at h
  cases h1 : s1[p]? with
  | none => rw [h1] at h; cases h
  | some x1 =>
    rw [h1] at h
    injection h with h
    injection h with _ h
    injection h with h2 h3
    exact ⟨x1, rfl, h2, h3⟩
theorem Held.heap {B : Nat} {s : List KN} {ad : List Nat} {w w1 : World} (h : Held B s ad w) (e : w1.heap = w.heap) : Held B s ad w1 :=
  ⟨h.len, h.nodup, h.ge, fun i n hn => by rw [e]; exact h.cell i n hn, h.ok⟩
theorem cell_fr {B : Nat} {s : List KN} {ad : List Nat} {w : World} {i j : Nat} {n : KN} (h : Held B s ad w) (hn : s[i]? = some n) (hf : n.fr = some j) : w.cell? ⟨bk ad i, 2, none⟩ = some (pk ad j) := by
  have := (blk_cell (h.cell i n hn) 2).trans rfl
  rw [this]
  show some (pv ad n.fr) = _
  rw [hf]
  rfl
theorem cell_tk {B : Nat} {s : List KN} {ad : List Nat} {w : World} {i j : Nat} {n : KN} (h : Held B s ad w) (hn : s[i]? = some n) (hf : n.tk = some j) : w.cell? ⟨bk ad i, 3, none⟩ = some (pk ad j) := by
  have := (blk_cell (h.cell i n hn) 3).trans rfl
  rw [this]
  show some (pv ad n.tk) = _
  rw [hf]
  rfl
set_option maxHeartbeats 8000000 in
theorem join_calls (B : Nat) (ad : List Nat) (f : Nat) : ∀ (s : List KN) (a b : Nat) (r : Bool) (s' : List KN) (w : World) (hH : Held B s ad w) (h : fjoin f s a b = some (r, s')),
    Calls Try.prog 39 #[pk ad a, pk ad b] w fun e w' => e = .returned (.bool r) ∧ Held B s' ad w' ∧ Turned (fun k => k ∈ ad) w w' := by
  induction f using Nat.strongRecOn with
  | _ f ih =>
  intro s a b r s' w hH h
  have hu74 := Try.underlying74
  cases f with
  | zero => exact absurd h (by simp [fjoin])
  | succ f =>
  unfold fjoin at h
  cases ha : fend s f a with
  | none => rw [ha] at h; cases h
  | some p =>
  rw [ha] at h
  simp only at h
  cases hb : fend s f b with
  | none => rw [hb] at h; cases h
  | some q =>
  rw [hb] at h
  simp only at h
  have HH := Aside0.mk hH
  have HA := Aside0.mk ha
  have HB := Aside0.mk hb
  have hp := fend_lt ha
  have hq := fend_lt hb
  have IH := Aside0.mk ih
  have hpe := peq_run hH hp hq
  clear ih ha hb
  go_enter Try.func39, Try.ntmps39
  go_wp2_with fail
  (with_reducible refine (kend_calls B s ad f a p w HH.out HA.out).mono ?_)
  rintro e w1 ⟨rfl, rfl⟩
  go_wp2_with fail
  (with_reducible refine (kend_calls B s ad f b q w1 HH.out HB.out).mono ?_)
  rintro e w2 ⟨rfl, rfl⟩
  by_cases hpq : p = q
  · rw [if_pos hpq] at h
    injection h with h
    injection h with h1 h2
    subst h1 h2
    rw [decide_eq_true hpq] at hpe
    clear hpq hH
    go_wp2_with fail
    go_ret
    exact ⟨rfl, HH.out, Turned.refl _ _⟩
  rw [if_neg hpq] at h
  rw [decide_eq_false hpq] at hpe
  clear hpq
  cases hx : s[p]? with
  | none => rw [hx] at h; cases h
  | some x =>
  cases hy : s[q]? with
  | none => rw [hx, hy] at h; cases h
  | some y =>
  rw [hx, hy] at h
  simp only at h
  have hcx := hH.cell p x hx
  have hcy := hH.cell q y hy
  have cx0 : w2.cell? ⟨bk ad p, 0, none⟩ = some (pv ad x.lk) := (blk_cell hcx 0).trans rfl
  have cx1 : w2.cell? ⟨bk ad p, 1, none⟩ = some (.bool x.bs) := (blk_cell hcx 1).trans rfl
  have cx2 : w2.cell? ⟨bk ad p, 2, none⟩ = some (pv ad x.fr) := (blk_cell hcx 2).trans rfl
  have fx0 := blk_frozen hcx 0
  have cy1 : w2.cell? ⟨bk ad q, 1, none⟩ = some (.bool y.bs) := (blk_cell hcy 1).trans rfl
  have cy2 : w2.cell? ⟨bk ad q, 2, none⟩ = some (pv ad y.fr) := (blk_cell hcy 2).trans rfl
  have Hx := Aside0.mk hx
  have Hy := Aside0.mk hy
  clear hcx hcy hx hy hH
  by_cases hox : x.bs = false ∧ x.fr = none
  · rw [if_pos hox] at h
    obtain ⟨ho1, ho2⟩ := hox
    rw [ho1] at cx1
    rw [ho2] at cx2
    simp only [pv] at cx2
    cases hw : fwithin s f p q with
    | none => rw [hw] at h; cases h
    | some bw =>
    rw [hw] at h
    have HW := Aside0.mk hw
    have hpa := Aside0.mk hp
    clear hw ho1 ho2 cy1 cy2
    go_wp2_with fail
    (with_reducible refine (within_calls B s ad f p q bw w2 HH.out hp HW.out).mono ?_)
    rintro e w3 ⟨rfl, rfl⟩
    cases bw with
    | true =>
      injection h with h
      injection h with h1 h2
      subst h1 h2
      go_wp2_with fail
      go_ret
      exact ⟨rfl, HH.out, Turned.refl _ _⟩
    | false =>
      injection h with h
      injection h with h1 h2
      subst h1 h2
      go_wp2_with fail
      go_ret
      exact ⟨rfl, Held.setlk HH.out Hx.out hq, Turned.set (Turned.refl _ _) _ _ _ (bk_mem HH.out hp)⟩
  · rw [if_neg hox] at h
    have hxs : x.bs = true ∨ ∃ xf, x.bs = false ∧ x.fr = some xf := by
      cases hb : x.bs with
      | true => exact .inl rfl
      | false =>
        cases hf : x.fr with
        | none => exact absurd ⟨hb, hf⟩ hox
        | some xf => exact .inr ⟨xf, rfl, rfl⟩
    clear hox
    by_cases hoy : y.bs = false ∧ y.fr = none
    · rw [if_pos hoy] at h
      obtain ⟨ho1, ho2⟩ := hoy
      rw [ho1] at cy1
      rw [ho2] at cy2
      simp only [pv] at cy2
      have HJ := Aside0.mk h
      clear h ho1 ho2
      rcases hxs with hxb | ⟨xf, hxb, hxf⟩
      · rw [hxb] at cx1
        clear hxb
        go_wp2_with fail
        (with_reducible refine (IH.out f (Nat.lt_succ_self f) s q p r s' w2 HH.out HJ.out).mono ?_)
        rintro e w3 ⟨rfl, h3, t3⟩
        go_wp2_with fail
        go_ret
        exact ⟨rfl, h3, t3⟩
      · rw [hxb] at cx1
        rw [hxf] at cx2
        simp only [pv] at cx2
        clear hxb hxf
        go_wp2_with fail
        (with_reducible refine (IH.out f (Nat.lt_succ_self f) s q p r s' w2 HH.out HJ.out).mono ?_)
        rintro e w3 ⟨rfl, h3, t3⟩
        go_wp2_with fail
        go_ret
        exact ⟨rfl, h3, t3⟩
    rw [if_neg hoy] at h
    have hys : y.bs = true ∨ ∃ yf, y.bs = false ∧ y.fr = some yf := by
      cases hb : y.bs with
      | true => exact .inl rfl
      | false =>
        cases hf : y.fr with
        | none => exact absurd ⟨hb, hf⟩ hoy
        | some yf => exact .inr ⟨yf, rfl, rfl⟩
    clear hoy
    rcases hxs with hxb | ⟨xf, hxb, hxf⟩
    · rw [if_pos (.inl hxb), hxb, Bool.true_and] at h
      injection h with h
      injection h with h1 h2
      subst h2
      rw [hxb] at cx1
      clear hxb
      rcases hys with hyb | ⟨yf, hyb, hyf⟩
      · rw [hyb] at cy1 h1
        subst h1
        clear hyb
        go_wp2_with fail
        go_ret
        exact ⟨rfl, HH.out, Turned.refl _ _⟩
      · rw [hyb] at cy1 h1
        rw [hyf] at cy2
        simp only [pv] at cy2
        subst h1
        clear hyb hyf
        go_wp2_with fail
        go_ret
        exact ⟨rfl, HH.out, Turned.refl _ _⟩
    · rw [hxb] at cx1 h
      rw [hxf] at cx2
      simp only [pv] at cx2
      rcases hys with hyb | ⟨yf, hyb, hyf⟩
      · rw [if_pos (.inr hyb), hyb, Bool.false_and] at h
        injection h with h
        injection h with h1 h2
        subst h1 h2
        rw [hyb] at cy1
        clear hxb hxf hyb
        go_wp2_with fail
        go_ret
        exact ⟨rfl, HH.out, Turned.refl _ _⟩
      · rw [hyb] at cy1
        rw [if_neg (by simp [hyb])] at h
        rw [hyf] at cy2
        simp only [pv] at cy2
        rw [hxf, hyf] at h
        simp only at h
        cases hj : fjoin f s xf yf with
        | none => rw [hj] at h; cases h
        | some rs =>
        obtain ⟨r1, s1⟩ := rs
        rw [hj] at h
        obtain ⟨x1, hx1, hf1, ht1⟩ := shape_fr (fjoin_shape f s xf yf r1 s1 hj p) Hx.out
        obtain ⟨y1, hy1, gf1, gt1⟩ := shape_fr (fjoin_shape f s xf yf r1 s1 hj q) Hy.out
        have HJ := Aside0.mk hj
        have HX1 := Aside0.mk hx1
        have HY1 := Aside0.mk hy1
        have HF1 := Aside0.mk (hf1.trans hxf)
        have HG1 := Aside0.mk (gf1.trans hyf)
        have HH' := Aside0.mk h
        clear hxb hxf hyb hyf hj hx1 hy1 hf1 gf1 h
        go_wp2_with fail
        go_region_held3 (fun w' => w'.cell? ⟨bk ad p, 2, none⟩ = some (pk ad xf) ∧ w'.cell? ⟨bk ad q, 2, none⟩ = some (pk ad yf)) (go_keep)
          (first | (go_at_call 39; refine (IH.out f (Nat.lt_succ_self f) s xf yf r1 s1 w2.drew (Held.heap HH.out rfl) HJ.out).mono ?_; rintro e w3 ⟨rfl, h3, t3⟩; have k1 := cell_fr h3 HX1.out HF1.out; have k2 := cell_fr h3 HY1.out HG1.out))
        have T3 := Aside0.mk (Turned.trans (Turned.of_below (ok := fun k => k ∈ ad) (below_drew (Below.refl w2.heap.size w2))) t3 (fun k hk _ => hk))
        have H3 := Aside0.mk h3
        have h := HH'.out
        clear HH' h3 t3 k1 k2
        cases r1 with
        | false =>
          injection h with h
          injection h with h1 h2
          subst h1 h2
          go_wp2_with fail
          go_ret
          exact ⟨rfl, H3.out, T3.out⟩
        | true =>
          simp only [HX1.out, HY1.out] at h
          cases hxt : x1.tk with
          | none => rw [hxt] at h; cases h
          | some xt =>
          cases hyt : y1.tk with
          | none => rw [hxt, hyt] at h; cases h
          | some yt =>
          rw [hxt, hyt] at h
          simp only at h
          have HT := Aside0.mk hxt
          have HU := Aside0.mk hyt
          have HF := Aside0.mk h
          have k1 := cell_tk H3.out HX1.out hxt
          have k2 := cell_tk H3.out HY1.out hyt
          clear h hxt hyt cx0 cx1 cx2 fx0 cy1 cy2 hpe
          go_wp2_with fail
          obtain ⟨x2, hx2, _, gx2⟩ := shape_fr (fjoin_shape f s1 xt yt r s' HF.out p) HX1.out
          obtain ⟨y2, hy2, _, gy2⟩ := shape_fr (fjoin_shape f s1 xt yt r s' HF.out q) HY1.out
          have HX2 := Aside0.mk hx2
          have HY2 := Aside0.mk hy2
          have HT2 := Aside0.mk (gx2.trans HT.out)
          have HU2 := Aside0.mk (gy2.trans HU.out)
          clear hx2 hy2 gx2 gy2
          go_region_held3 (fun w' => w'.cell? ⟨bk ad p, 3, none⟩ = some (pk ad xt) ∧ w'.cell? ⟨bk ad q, 3, none⟩ = some (pk ad yt)) (go_keep)
            (first | (go_at_call 39; refine (IH.out f (Nat.lt_succ_self f) s1 xt yt r s' w3.drew (Held.heap H3.out rfl) HF.out).mono ?_; rintro e w4 ⟨rfl, h4, t4⟩; have k3 := cell_tk h4 HX2.out HT2.out; have k4 := cell_tk h4 HY2.out HU2.out))
          have T4 := Aside0.mk (Turned.trans T3.out (Turned.trans (Turned.of_below (ok := fun k => k ∈ ad) (below_drew (Below.refl w3.heap.size w3))) t4 (fun k hk _ => hk)) (fun k hk _ => hk))
          have H4 := Aside0.mk h4
          clear h4 t4 k1 k2 k3 k4
          go_wp2_with fail
          go_ret
          exact ⟨rfl, H4.out, T4.out⟩
end Go.Proofs.Ytfhgoebgnilfaaa.I
