/- Texts of this session's proof, laid together: IO1, IO2, I13, IO3, ID2, ID3, ID6, IR1, IR2, IR3, IR5, IR4, IO4, IO4F. -/
import Derived.Deep.RegionLaw
import Derived.Deep.RegionHeld3
import Derived.Deep.QuietTactic
import Derived.BigQuiet
import Derived.RangeFuncNested
import Derived.RangeFuncLeaves
import Derived.TacticsInMore
import Derived.OwnWalkIn
import Derived.Maps.AppendAt
import Derived.Shelf.Abstract
import Derived.Test.YtnfgpepggehegaaL6
namespace Go.Proofs.Ytnfgpepggehegaa.I
open Go.RowKit Go.Proofs.YtnfgpepggehegaaW.PrintWords Go.Proofs.YtnfgpepggehegaaW.PrintLast Go.Proofs.YtnfgpepggehegaaW.PrintMore
attribute [local go_sem] max2_int min2_int max_two min_two max_three min_three max_four min_four
set_option linter.unusedVariables false
set_option maxRecDepth 100000
set_option linter.unusedSimpArgs false
structure IntSt (B : Nat) (w w' : World) : Prop where
  os : w'.os = w.os
  tape : w'.tape = w.tape
  output : w'.output = w.output
  size : w.heap.size ≤ w'.heap.size
  block : ∀ k, k < w.heap.size → w'.heap[k]? = w.heap[k]? ∨ (B ≤ k ∧ ∃ c c' : Array Value, w.heap[k]? = some (.cells c 28 (0, 0)) ∧ w'.heap[k]? = some (.cells c' 28 (0, 0)) ∧ ∀ j : Nat, c'[j]? = c[j]? ∨ ∃ a b : Int, c[j]? = some (.int .i64 a) ∧ c'[j]? = some (.int .i64 b))
theorem IntSt.refl (B : Nat) (w : World) : IntSt B w w := ⟨rfl, rfl, rfl, Nat.le_refl _, fun _ _ => .inl rfl⟩
theorem IntSt.trans {B : Nat} {w w1 w2 : World} (h : IntSt B w w1) (k : IntSt B w1 w2) : IntSt B w w2 := by
  refine ⟨k.os.trans h.os, k.tape.trans h.tape, k.output.trans h.output, Nat.le_trans h.size k.size, fun q hq => ?_⟩
  rcases h.block q hq with h1 | ⟨hb, c, c1, e0, e1, hj⟩
  · rcases k.block q (Nat.lt_of_lt_of_le hq h.size) with h2 | ⟨hb, c, c1, e0, e1, hj⟩
    · exact .inl (h2.trans h1)
    · exact .inr ⟨hb, c, c1, h1.symm.trans e0, e1, hj⟩
  · rcases k.block q (Nat.lt_of_lt_of_le hq h.size) with h2 | ⟨_, c2, c3, e2, e3, hj2⟩
    · exact .inr ⟨hb, c, c1, e0, h2.trans e1, hj⟩
    · have e := e1.symm.trans e2
      injection e with e
      injection e with e _ _
      subst e
      refine .inr ⟨hb, c, c3, e0, e3, fun j => ?_⟩
      rcases hj j with h3 | ⟨a, b, h3, h4⟩
      · rcases hj2 j with h5 | ⟨a, b, h5, h6⟩
        · exact .inl (h5.trans h3)
        · exact .inr ⟨a, b, h3.symm.trans h5, h6⟩
      · rcases hj2 j with h5 | ⟨a', b', h5, h6⟩
        · exact .inr ⟨a, b, h3, h5.trans h4⟩
        · exact .inr ⟨a, b', h3, h6⟩
theorem IntSt.set {B g j : Nat} {w : World} {c : Array Value} {a b : Int} (hg : w.heap[g]? = some (.cells c 28 (0, 0))) (hB : B ≤ g) (hj : c[j]? = some (.int .i64 a)) : IntSt B w (w.setCell ⟨g, j, none⟩ (.int .i64 b)) := by
  refine ⟨rfl, rfl, rfl, by simp [World.setCell], fun k hk => ?_⟩
  by_cases hkg : k = g
  · subst hkg
    refine .inr ⟨hB, c, c.setIfInBounds j (.int .i64 b), hg, blk_set hg j _, fun q => ?_⟩
    rw [Array.getElem?_setIfInBounds]
    by_cases hq : j = q
    · subst hq
      have hjl : j < c.size := (Array.getElem?_eq_some_iff.1 hj).1
      rw [if_pos rfl, if_pos hjl]
      exact .inr ⟨a, b, hj, rfl⟩
    · rw [if_neg hq]
      exact .inl rfl
  · exact .inl (Below.heap_setCell w ⟨g, j, none⟩ _ k hkg)
theorem IntSt.elder {B B' : Nat} {w0 w w' : World} (h : IntSt B w w') (hB : Below B' w0 w) (hb : B' ≤ B) (hs : B' ≤ w.heap.size) : Below B' w0 w' :=
  ⟨h.os.trans hB.os, h.tape.trans hB.tape, h.output.trans hB.output, Nat.le_trans hB.size h.size, fun k hk => by
    rcases h.block k (Nat.lt_of_lt_of_le hk hs) with h1 | ⟨h2, _⟩
    · exact h1.trans (hB.block k hk)
    · omega⟩
def TS (w : World) (B : Nat) : Nat → List S28 → Value → Prop
  | 0, _, _ => False
  | N + 1, l, v => ∃ (A : Option Addr) (c : Nat), v = .slice A l.length c ∧ l.length ≤ 9223372036854775807 ∧ (0 < l.length → ∃ (g : Nat) (cells : Array Value), A = some ⟨g, 0, none⟩ ∧ B ≤ g ∧ w.heap[g]? = some (.cells cells 28 (0, 0)) ∧
      ∀ j, j < l.length → ∃ (a n : Int) (u : Value), cells[j * 3]? = some (.int .i64 a) ∧ cells[j * 3 + 1]? = some (.int .i64 n) ∧ cells[j * 3 + 2]? = some u ∧ TS w B N (rd_T28 l (j : Int)).f2 u)
theorem TS_slice {w : World} {B : Nat} : ∀ {N : Nat} {l : List S28} {v : Value}, TS w B N l v → ∃ A c, v = .slice A l.length c
  | 0, _, _, h => h.elim
  | _ + 1, _, _, ⟨A, c, h, _⟩ => ⟨A, c, h⟩
theorem TS_keep {w w' : World} {B : Nat} (h : IntSt B w w') : ∀ {N : Nat} {l : List S28} {v : Value}, TS w B N l v → TS w' B N l v
  | 0, _, _, hs => hs.elim
  | N + 1, l, v, ⟨A, c, e, hl, hs⟩ => by
    refine ⟨A, c, e, hl, fun h0 => ?_⟩
    obtain ⟨g, cells, hA, hB, hg, hc⟩ := hs h0
    rcases h.block g (blk_lt hg) with h1 | ⟨_, c1, c2, e0, e1, hj⟩
    · refine ⟨g, cells, hA, hB, h1.trans hg, fun j hjl => ?_⟩
      obtain ⟨a, n, u, k1, k2, k3, k4⟩ := hc j hjl
      exact ⟨a, n, u, k1, k2, k3, TS_keep h k4⟩
    · have e2 := hg.symm.trans e0
      injection e2 with e2
      injection e2 with e2 _ _
      subst e2
      refine ⟨g, c2, hA, hB, e1, fun j hjl => ?_⟩
      obtain ⟨a, n, u, k1, k2, k3, k4⟩ := hc j hjl
      obtain ⟨A', c', hu⟩ := TS_slice k4
      have i1 : ∃ a', c2[j * 3]? = some (.int .i64 a') := by
        rcases hj (j * 3) with h3 | ⟨a', b', _, h4⟩
        · exact ⟨a, h3.trans k1⟩
        · exact ⟨b', h4⟩
      have i2 : ∃ n', c2[j * 3 + 1]? = some (.int .i64 n') := by
        rcases hj (j * 3 + 1) with h3 | ⟨a', b', _, h4⟩
        · exact ⟨n, h3.trans k2⟩
        · exact ⟨b', h4⟩
      have i3 : c2[j * 3 + 2]? = some u := by
        rcases hj (j * 3 + 2) with h3 | ⟨a', b', h4, _⟩
        · exact h3.trans k3
        · rw [k3, hu] at h4; cases h4
      obtain ⟨a', i1⟩ := i1
      obtain ⟨n', i2⟩ := i2
      exact ⟨a', n', u, i1, i2, i3, TS_keep h k4⟩
theorem TS_at {w : World} {B N g c : Nat} {l : List S28} (h : TS w B (N + 1) l (.slice (some ⟨g, 0, none⟩) l.length c)) (hz : 0 < l.length) : ∃ cells : Array Value, w.heap[g]? = some (.cells cells 28 (0, 0)) ∧
      ∀ j, j < l.length → ∃ (a n : Int) (u : Value), cells[j * 3]? = some (.int .i64 a) ∧ cells[j * 3 + 1]? = some (.int .i64 n) ∧ cells[j * 3 + 2]? = some u ∧ TS w B N (rd_T28 l (j : Int)).f2 u := by
  obtain ⟨_, _, ev, _, hs⟩ := h
  obtain ⟨g', cells, hA, _, hg, hc⟩ := hs hz
  injection ev with ev _ _
  rw [hA] at ev
  injection ev with ev
  injection ev with ev
  subst ev
  exact ⟨cells, hg, hc⟩
set_option maxHeartbeats 4000000 in
theorem turn_calls (B N : Nat) : ∀ (l : List S28) (v : Value) (w : World) (hS : TS w B N l v),
    Calls Try.prog 24 #[v] w fun e w' => e = .returned (.tuple #[]) ∧ IntSt B w w' := by
  induction N with
  | zero => intro l v w hS; exact hS.elim
  | succ N ih =>
  intro l v w hS
  have hu28 := Try.underlying28
  have HS := Az.mk hS
  obtain ⟨A, c, rfl, hlen, hs⟩ := hS
  have IH := Az.mk ih
  clear ih
  by_cases hz : 0 < l.length
  · obtain ⟨g, cells, rfl, hB, hg, hc⟩ := hs hz
    have HB := Az.mk hB
    clear hc hg hB
    go_enter Try.func24, Try.ntmps24
    go_wp2_with fail
    go_loopg [5] l.length (fun kq v5 wr => ∃ (i : Nat), v5 = .int .i64 (i : Int) ∧ Az (kq + i = l.length) ∧ Az (TS wr B (N + 1) l (.slice (some ⟨g, 0, none⟩) l.length c)) ∧ Az (IntSt B w wr))
    case atStart => exact ⟨0, rfl, ⟨by omega⟩, HS, ⟨IntSt.refl _ _⟩⟩
    case round =>
      clear HS
      obtain ⟨i, rfl, Hi, HS, HT⟩ := hrel
      have hi : i ≤ l.length := by have := Hi.out; omega
      by_cases hlt : i < l.length
      · obtain ⟨cells', hg', hc'⟩ := TS_at HS.out hz
        obtain ⟨a, n, u, k1, k2, k3, k4⟩ := hc' i hlt
        obtain ⟨A1, c1, rfl⟩ := TS_slice k4
        have HK4 := Az.mk k4
        have Hg := Az.mk hg'
        have HK2 := Az.mk k2
        have q1 : wr.cell? ⟨g, i * 3 + 2, none⟩ = some (.slice A1 (rd_T28 l (i : Int)).f2.length c1) := (blk_cell hg' _).trans k3
        clear hc' k1 k2 k3 k4 hg' hs
        have p1 : (0 ≤ (i : Int)) = True := eq_true (by omega)
        have p2 : ((i : Int) < (l.length : Int)) = True := eq_true (by omega)
        have p3 : (i < l.length) = True := eq_true (by omega)
        generalize (rd_T28 l (i : Int)).f2 = x at *
        go_wp2_with fail
        (with_reducible refine (IH.out x _ wr HK4.out).mono ?_)
        rintro e w1 ⟨rfl, hT1⟩
        have HS1 := Az.mk (TS_keep hT1 HS.out)
        have HT1 := Az.mk (HT.out.trans hT1)
        clear hT1 HS HT HK4 Hg HK2 q1
        obtain ⟨cells1, hg', hc'⟩ := TS_at HS1.out hz
        obtain ⟨a, n, u, k1, k2, k3, k4⟩ := hc' i hlt
        have q2 : w1.cell? ⟨g, i * 3 + 1, none⟩ = some (.int .i64 n) := (blk_cell hg' _).trans k2
        have q3 : w1.frozen? ⟨g, i * 3 + 1, none⟩ = false := bkF hg' _
        have HK := Az.mk (fun b => IntSt.set (b := b) hg' HB.out k2)
        clear hc' k1 k2 k3 k4 hg'
        go_wp2_with fail
        have hk := Hi.out
        obtain ⟨k1, rfl⟩ : ∃ k1, gk = k1 + 1 := ⟨gk - 1, by omega⟩
        go_roundg k1
        case measure => omega
        case rel => exact ⟨i + 1, by go_num, ⟨by omega⟩, ⟨TS_keep (HK.out _) HS1.out⟩, ⟨HT1.out.trans (HK.out _)⟩⟩
      · have hie : i = l.length := by omega
        go_wp2_with fail
        go_end0
        exact ⟨rfl, HT.out⟩
  · have hz0 : l.length = 0 := by omega
    rw [hz0]
    clear hs hz hz0 HS
    go_enter Try.func24, Try.ntmps24
    go_wp2_with fail
    go_loopg [5] 0 (fun kq v5 wr => v5 = .int .i64 0 ∧ wr = w)
    case atStart => exact ⟨rfl, rfl⟩
    case round =>
      obtain ⟨rfl, rfl⟩ := hrel
      go_wp2_with fail
      go_end0
      exact ⟨rfl, IntSt.refl _ _⟩
theorem TS_of (N : Nat) : ∀ {w : World} {B : Nat} {ok : Nat → Prop} {v : Value} {l : List S28}, SizeOf.sizeOf l < N → Kd.R k28 28 w B ok v l → TS w B N l v := by
  induction N with
  | zero => intro w B ok v l hN; omega
  | succ N ih =>
    intro w B ok v l hN hR
    obtain ⟨A, c, rfl⟩ := Kd.R_slice hR
    have hlen : l.length ≤ 9223372036854775807 := (Kd.R_reads' hR).2.2.2.1
    refine ⟨A, c, rfl, hlen, fun hz => ?_⟩
    obtain ⟨g, cap, e, hB, _, cells, hg⟩ := Kd.R_form hR hz
    injection e with e1 _ e2
    subst e1 e2
    refine ⟨g, cells, rfl, hB, hg, fun j hj => ?_⟩
    obtain ⟨co, _, hM, hcc, _⟩ := Kd.R_elem hR z28 (j : Int) (by omega) (by omega)
    obtain ⟨v2, rfl, h2⟩ := k28_openM hM
    have q0 := hcc 0 _ rfl
    have q1 := hcc 1 _ rfl
    have q2 := hcc 2 _ rfl
    rw [Int.toNat_natCast] at q0 q1 q2
    refine ⟨_, _, v2, (blk_cell hg _).symm.trans q0, (blk_cell hg _).symm.trans q1, (blk_cell hg _).symm.trans q2, ih ?_ h2⟩
    have hm : rd_T28 l (j : Int) ∈ l := by
      unfold rd_T28
      rw [Int.toNat_natCast, List.getD_eq_getElem?_getD, List.getElem?_eq_getElem hj]
      exact List.getElem_mem hj
    have h1 := List.sizeOf_lt_of_mem hm
    have h3 : SizeOf.sizeOf (rd_T28 l (j : Int)).f2 < SizeOf.sizeOf (rd_T28 l (j : Int)) := by
      cases rd_T28 l (j : Int) with
      | mk a b m => simp; omega
    show SizeOf.sizeOf (rd_T28 l (j : Int)).f2 < N
    omega
end Go.Proofs.Ytnfgpepggehegaa.I
namespace Go.Proofs.Ytnfgpepggehegaa.I
open Go.RowKit Go.Proofs.YtnfgpepggehegaaW.PrintWords Go.Proofs.YtnfgpepggehegaaW.PrintLast Go.Proofs.YtnfgpepggehegaaW.PrintMore
attribute [local go_sem] max2_int min2_int max_two min_two max_three min_three max_four min_four
set_option linter.unusedVariables false
set_option maxRecDepth 100000
set_option linter.unusedSimpArgs false
theorem sequal_calls {l : List S53} (hl : cntL l ≤ 1000) {w : World} {A A' : Option Addr} {c c' : Nat} (hr : Kd.C k53 w A l.length l) (hc : l.length ≤ c) (hr' : Kd.C k53 w A' l.length l) (hc' : l.length ≤ c') :
    Calls Try.prog 48 #[.agg #[.slice A l.length c], .agg #[.slice A' l.length c']] w fun e w' => e = .returned (.bool true) ∧ Below w.heap.size w w' := by
  have h := seq48 _ l l A A' c c' w (Nat.lt_succ_self _) hr hc hr' hc'
  rw [eqL_refl] at h
  exact h
set_option maxHeartbeats 8000000 in
theorem equal_calls (A0 : Option Addr) (c0 : Nat) (l0 : List S87) (A1 : Option Addr) (c1 : Nat) (l1 : List S84) (B0 : Option Addr) (d0 : Nat) (B1 : Option Addr) (d1 : Nat) (w : World) (hr0 : Kd.C k87 w A0 l0.length l0) (hr1 : Kd.C k84 w A1 l1.length l1) (ht0 : Kd.C k87 w B0 l0.length l0) (ht1 : Kd.C k84 w B1 l1.length l1) (hs : ∀ x ∈ l1, cntL x.f1.f0 ≤ 1000) :
    Calls Try.prog 25 #[.agg #[.slice A0 l0.length c0, .slice A1 l1.length c1], .agg #[.slice B0 l0.length d0, .slice B1 l1.length d1]] w fun e w' => e = .returned (.bool true) ∧ Below w.heap.size w w' := by
  have hu28 := Try.underlying28
  have hu87 := Try.underlying87
  have hu84 := Try.underlying84
  have hu25 := Try.underlying25
  have hu53 := Try.underlying53
  have hlen1 : l1.length ≤ 9223372036854775807 := hr1.2.1
  have hlen0 : l0.length ≤ 9223372036854775807 := hr0.2.1
  have HR0 := Az.mk hr0
  have HR1 := Az.mk hr1
  have HT0 := Az.mk ht0
  have HT1 := Az.mk ht1
  have HS := Az.mk hs
  clear hr0 hr1 ht0 ht1 hs
  go_enter Try.func25, Try.ntmps25
  go_wp2_with (first
    | ((with_reducible refine gate_dst (N := 2) rfl ?_)
       refine box_event ?hg (N := 2) ?hd (cs := #[.slice A0 l0.length c0, .slice A1 l1.length c1]) (t := 25) ?hr ?_
       (case hd => rfl)
       (case hg => rfl)
       (case hr => first | (go_simp; done) | (go_simp; rfl))
       intro g2 hg2 w2 hbox hbb
       have S2 := Az.mk hbox
       have HB2 := Az.mk hbb
       clear hbox hbb hg2)
    | ((with_reducible refine gate_dst (N := 3) rfl ?_)
       refine box_event ?hg (N := 3) ?hd (cs := #[.slice B0 l0.length d0, .slice B1 l1.length d1]) (t := 25) ?hr ?_
       (case hd => rfl)
       (case hg => rfl)
       (case hr => first | (go_simp; done) | (go_simp; rfl))
       intro g3 hg3 w3 hbox hbb
       have S3 := Az.mk hbox
       have S23 := Az.mk (bkB S2.out hbb)
       have HB3 := Az.mk (bst HB2.out hbb)
       have a0 : w3.cell? ⟨g2, 0, none⟩ = some (.slice A0 l0.length c0) := (blk_cell S23.out 0).trans rfl
       have a1 : w3.cell? ⟨g2, 1, none⟩ = some (.slice A1 l1.length c1) := (blk_cell S23.out 1).trans rfl
       have b0 : w3.cell? ⟨g3, 0, none⟩ = some (.slice B0 l0.length d0) := (blk_cell hbox 0).trans rfl
       have b1 : w3.cell? ⟨g3, 1, none⟩ = some (.slice B1 l1.length d1) := (blk_cell hbox 1).trans rfl
       clear hbox hbb hg3))
  clear a0 a1 b0 b1 S2 HB2
  go_loopg [26] l0.length (fun kq v26 wr => ∃ i : Nat, v26 = .int .i64 (i : Int) ∧ Az (i + kq = l0.length) ∧ Az (Below w3.heap.size w3 wr))
  case atStart => exact ⟨0, rfl, ⟨by omega⟩, ⟨Below.refl _ _⟩⟩
  case round =>
    obtain ⟨i, rfl, Hi, HB⟩ := hrel
    by_cases hlt : i < l0.length
    · obtain ⟨ad0, he, hx1, hx2⟩ := at_T87 HR0.out (i : Int) (by omega) (by omega)
      cases he
      obtain ⟨ad1, he, hy1, hy2⟩ := at_T87 HT0.out (i : Int) (by omega) (by omega)
      cases he
      replace hx1 := cell_up HB.out (cell_up HB3.out hx1)
      replace hx2 := cell_up HB.out (cell_up HB3.out hx2)
      replace hy1 := cell_up HB.out (cell_up HB3.out hy1)
      replace hy2 := cell_up HB.out (cell_up HB3.out hy2)
      rw [Int.toNat_natCast] at hx1 hx2 hy1 hy2
      have a0 : wr.cell? ⟨g2, 0, none⟩ = some (.slice (some ad0) l0.length c0) := (blk_cell (bkB S23.out HB.out) 0).trans rfl
      have b0 : wr.cell? ⟨g3, 0, none⟩ = some (.slice (some ad1) l0.length d0) := (blk_cell (bkB S3.out HB.out) 0).trans rfl
      have p1 : (0 ≤ (i : Int)) = True := eq_true (by omega)
      have p2 : ((i : Int) < (l0.length : Int)) = True := eq_true (by omega)
      have p3 : (i < l0.length) = True := eq_true (by omega)
      generalize (rd_T87 l0 (i : Int)) = x at *
      go_wp2_with fail
      go_quiet (fail)
      go_wp2_with fail
      have hk := Hi.out
      obtain ⟨k1, rfl⟩ : ∃ k1, gk = k1 + 1 := ⟨gk - 1, by omega⟩
      go_roundg k1
      case measure => omega
      case rel => exact ⟨i + 1, by go_num, ⟨by omega⟩, ⟨pwN HB.out _⟩⟩
    have hie : i = l0.length := by have := Hi.out; omega
    clear hlt Hi
    subst hie
    have a1 : wr.cell? ⟨g2, 1, none⟩ = some (.slice A1 l1.length c1) := (blk_cell (bkB S23.out HB.out) 1).trans rfl
    go_wp2_with fail
    clear a1
    go_loopg [44] l1.length (fun kq v44 wr => ∃ i : Nat, v44 = .int .i64 (i : Int) ∧ Az (i + kq = l1.length) ∧ Az (Below w3.heap.size w3 wr))
    case atStart => exact ⟨0, rfl, ⟨by omega⟩, HB⟩
    case round =>
      clear HB
      obtain ⟨i, rfl, Hi, HB⟩ := hrel
      by_cases hlt : i < l1.length
      rotate_left
      · go_wp2_with fail
        go_ret
        exact ⟨rfl, bst HB3.out HB.out⟩
      have HBw := Az.mk (bst HB3.out HB.out)
      obtain ⟨af, A3, c3, A4, c4, he, hx0, hx1, hx2, hx3, hx4, hl3, hC3, hl4, hC4⟩ := at_T84 (Kd.C_below HR1.out HBw.out) (i : Int) (by omega) (by omega)
      cases he
      obtain ⟨ag, B3, d3, B4, d4, he, hy0, hy1, hy2, hy3, hy4, hk3, hD3, hk4, hD4⟩ := at_T84 (Kd.C_below HT1.out HBw.out) (i : Int) (by omega) (by omega)
      cases he
      rw [Int.toNat_natCast] at hx0 hx1 hx2 hx3 hx4 hy0 hy1 hy2 hy3 hy4
      have HC3 := Az.mk hC3
      have Hl3 := Az.mk hl3
      have HC4 := Az.mk hC4
      have Hl4 := Az.mk hl4
      have HD3 := Az.mk hD3
      have Hk3 := Az.mk hk3
      have HD4 := Az.mk hD4
      have Hk4 := Az.mk hk4
      have HSi := Az.mk (HS.out (rd_T84 l1 (i : Int)) (by unfold rd_T84; rw [Int.toNat_natCast, List.getD_eq_getElem?_getD, List.getElem?_eq_getElem hlt]; exact List.getElem_mem _))
      have q1 : (0 ≤ (i : Int)) = True := eq_true (by omega)
      have q2 : ((i : Int) < (l1.length : Int)) = True := eq_true (by omega)
      have q3 : (i < l1.length) = True := eq_true (by omega)
      clear hl3 hC3 hl4 hC4 hk3 hD3 hk4 hD4
      generalize rd_T84 l1 (i : Int) = x at *
      replace hx3 : wr.cell? ⟨(af.add (i * 5)).block, (af.add (i * 5)).off + 2 + 1, none⟩ = _ := hx3
      replace hx4 : wr.cell? ⟨(af.add (i * 5)).block, (af.add (i * 5)).off + 2 + 2, none⟩ = _ := hx4
      replace hy3 : wr.cell? ⟨(ag.add (i * 5)).block, (ag.add (i * 5)).off + 2 + 1, none⟩ = _ := hy3
      replace hy4 : wr.cell? ⟨(ag.add (i * 5)).block, (ag.add (i * 5)).off + 2 + 2, none⟩ = _ := hy4
      have a1 : wr.cell? ⟨g2, 1, none⟩ = some (.slice (some af) l1.length c1) := (blk_cell (bkB S23.out HB.out) 1).trans rfl
      have b1 : wr.cell? ⟨g3, 1, none⟩ = some (.slice (some ag) l1.length d1) := (blk_cell (bkB S3.out HB.out) 1).trans rfl
      have HX := Az.mk (Below.refl wr.heap.size wr)
      go_upto_region 12 with fail
      try simp only [Act.put, List.setIfInBounds_toArray, List.set_cons_succ, List.set_cons_zero]
      go_cut [91] from 47 to 91 (fun v91 wc => v91 = .bool false ∧ Az (Below w3.heap.size w3 wc))
      case first =>
        go_region_held3 (fun w' => w'.cell? ⟨g2, 1, none⟩ = some (.slice (some af) l1.length c1) ∧ w'.cell? ⟨g3, 1, none⟩ = some (.slice (some ag) l1.length d1) ∧ w'.cell? (af.add (i * 5)) = some (.string x.f0) ∧ w'.cell? ⟨(af.add (i * 5)).block, (af.add (i * 5)).off + 1, none⟩ = some (.slice A3 x.f1.f0.length c3) ∧ w'.cell? ⟨(af.add (i * 5)).block, (af.add (i * 5)).off + 2, none⟩ = some (.int .i64 x.f2.f0) ∧ w'.cell? ⟨(af.add (i * 5)).block, (af.add (i * 5)).off + 2 + 1, none⟩ = some (.int .i64 x.f2.f1) ∧ w'.cell? ⟨(af.add (i * 5)).block, (af.add (i * 5)).off + 2 + 2, none⟩ = some (.slice A4 x.f2.f2.length c4) ∧ w'.cell? (ag.add (i * 5)) = some (.string x.f0) ∧ w'.cell? ⟨(ag.add (i * 5)).block, (ag.add (i * 5)).off + 1, none⟩ = some (.slice B3 x.f1.f0.length d3) ∧ w'.cell? ⟨(ag.add (i * 5)).block, (ag.add (i * 5)).off + 2, none⟩ = some (.int .i64 x.f2.f0) ∧ w'.cell? ⟨(ag.add (i * 5)).block, (ag.add (i * 5)).off + 2 + 1, none⟩ = some (.int .i64 x.f2.f1) ∧ w'.cell? ⟨(ag.add (i * 5)).block, (ag.add (i * 5)).off + 2 + 2, none⟩ = some (.slice B4 x.f2.f2.length d4)) (go_keep)
          (first
            | (go_at_call 48
               (with_reducible refine (sequal_calls HSi.out (w := wr.drew) (Kd.C_below HC3.out (below_drew (Below.refl _ _))) Hl3.out (Kd.C_below HD3.out (below_drew (Below.refl _ _))) Hk3.out).mono ?_)
               rintro e9 wA ⟨rfl, hbA⟩
               have HX2 := Az.mk (bst (below_drew HX.out) hbA)
               have y0 := cell_up hbA (show wr.drew.cell? _ = _ from a1)
               have y1 := cell_up hbA (show wr.drew.cell? _ = _ from b1)
               have y2 := cell_up hbA (show wr.drew.cell? _ = _ from hx0)
               have y3 := cell_up hbA (show wr.drew.cell? _ = _ from hx1)
               have y4 := cell_up hbA (show wr.drew.cell? _ = _ from hx2)
               have y5 := cell_up hbA (show wr.drew.cell? _ = _ from hx3)
               have y6 := cell_up hbA (show wr.drew.cell? _ = _ from hx4)
               have y7 := cell_up hbA (show wr.drew.cell? _ = _ from hy0)
               have y8 := cell_up hbA (show wr.drew.cell? _ = _ from hy1)
               have y9 := cell_up hbA (show wr.drew.cell? _ = _ from hy2)
               have y10 := cell_up hbA (show wr.drew.cell? _ = _ from hy3)
               have y11 := cell_up hbA (show wr.drew.cell? _ = _ from hy4)
               clear hbA)
            | (go_at_call 26
               (with_reducible refine (tequal_calls _ x.f2.f0 x.f2.f1 x.f2.f2 A4 B4 c4 d4 wA (Nat.lt_succ_self _) (Kd.C_below HC4.out HX2.out) Hl4.out (Kd.C_below HD4.out HX2.out) Hk4.out).mono ?_)
               rintro e9 wB ⟨rfl, hbB⟩
               have HX3 := Az.mk (bst HX2.out hbB)
               have z0 := cell_up hbB y0
               have z1 := cell_up hbB y1
               have z2 := cell_up hbB y2
               have z3 := cell_up hbB y3
               have z4 := cell_up hbB y4
               have z5 := cell_up hbB y5
               have z6 := cell_up hbB y6
               have z7 := cell_up hbB y7
               have z8 := cell_up hbB y8
               have z9 := cell_up hbB y9
               have z10 := cell_up hbB y10
               have z11 := cell_up hbB y11
               clear hbB))
        all_goals (go_wp2_with fail; go_meet; exact ⟨rfl, ⟨bst HB.out HX3.out⟩⟩)
      case rest =>
        obtain ⟨rfl, HBc⟩ := hcut
        clear a1 b1 hx0 hx1 hx2 hx3 hx4 hy0 hy1 hy2 hy3 hy4
        go_wp2_with fail
        have hk := Hi.out
        obtain ⟨k1, rfl⟩ : ∃ k1, gk = k1 + 1 := ⟨gk - 1, by omega⟩
        go_roundg k1
        case measure => omega
        case rel => exact ⟨i + 1, by go_num, ⟨by omega⟩, HBc⟩
end Go.Proofs.Ytnfgpepggehegaa.I
namespace Go.Proofs.Ytnfgpepggehegaa.I
open Go.RowKit Go.Proofs.YtnfgpepggehegaaW.PrintWords Go.Proofs.YtnfgpepggehegaaW.PrintLast Go.Proofs.YtnfgpepggehegaaW.PrintMore
attribute [local go_sem] max2_int min2_int max_two min_two max_three min_three max_four min_four   -- for this text's walks alone
set_option linter.unusedVariables false
set_option linter.unusedSimpArgs false
def virgationref03_Copy.l0 : Nat → List (S84) → Int → Int → List (S87) → List (S84) → Option ((List (S87)) × (List (S84)))
  | 0, _, _, _, _, _ => none
  | k + 1, x13, x14, x15, x444000, x444001 => if x15 < x14 then (if 0 ≤ x15 then (if x15 < (x13.length : Int) then ((virgationref01_Copy.f k ((rd_T84 x13 x15).f1.f0)).bind fun t449 => ((virgationref02_Copy.f ((rd_T84 x13 x15).f2.f0) ((rd_T84 x13 x15).f2.f1) ((rd_T84 x13 x15).f2.f2)).bind fun bt452 => (if x444001.length < 1759218604441 then (virgationref03_Copy.l0 k x13 x14 (wrap64 (x15 + 1)) x444000 (x444001 ++ [(⟨(rd_T84 x13 x15).f0, (⟨t449⟩ : S53), (⟨bt452.1, bt452.2.1, bt452.2.2⟩ : S28)⟩ : S84)])) else (none)))) else (none)) else (none)) else (some (x444000, x444001))
def virgationref03_Copy.f (k : Nat) (l0_0 : List (S87)) (l0_1 : List (S84)) : Option ((List (S87)) × (List (S84))) := if ([] : List (S87)).length + l0_0.length < 5864062014805 then (virgationref03_Copy.l0 k l0_1 (l0_1.length : Int) 0 (([] : List (S87)) ++ l0_0) ([] : List (S84))) else (none)
def virgationref03_Copy.T6 : Bool × List (List Nat × List Nat) := (true, [([], []), ([0], [0]), ([], []), ([2], [2]), ([], []), ([4], [4]), ([5], [5]), ([], []), ([7], [7]), ([8, 6], [8]), ([3, 6, 9], [3, 6, 9]), ([10], [10]), ([1, 11, 9], [1, 11]), ([0, 1, 2, 3, 4, 5, 6, 7, 8, 9, 10, 11, 12], []), ([13, 12, 12, 0, 1, 2, 3, 4, 5, 6, 7, 8, 9, 10, 11, 12], [12, 13])])
def virgationref03_Copy.B6 : List Nat := [0, 1, 0, 4, 0, 16, 48, 0, 128, 496, 1020, 2044, 4095, 8191, 16383]
theorem virgationref03_Copy.tab6 : rtab .any (opsOf Try.f22 6) = virgationref03_Copy.T6 := by kernel_rfl
theorem virgationref03_Copy.bits6 : waitsOk virgationref03_Copy.T6.2 virgationref03_Copy.B6 = true := by kernel_rfl
set_option maxHeartbeats 8000000 in
set_option maxRecDepth 100000 in
theorem virgationref03_Copy.calls (k : Nat) (A0_0 : Option Addr) (c0_0 : Nat) (l0_0 : List (S87)) (A0_1 : Option Addr) (c0_1 : Nat) (l0_1 : List (S84)) (r1 : List (S87)) (r2 : List (S84)) (w : World) (hr0_0 : Kd.C k87 w A0_0 l0_0.length l0_0) (hc0_0 : l0_0.length ≤ c0_0) (hr0_1 : Kd.C k84 w A0_1 l0_1.length l0_1) (hc0_1 : l0_1.length ≤ c0_1) (h : virgationref03_Copy.f k l0_0 l0_1 = some (r1, r2)) :
    Calls Try.prog 22 #[.agg #[.slice A0_0 l0_0.length c0_0, .slice A0_1 l0_1.length c0_1]] w fun e w' => ∃ v0_ v1_ : Value, e = .returned (.agg #[v0_, v1_]) ∧ Kd.R k87 87 w' w.heap.size (fun _ => True) v0_ r1 ∧ Kd.R k84 84 w' w.heap.size (fun _ => True) v1_ r2 ∧ Below w.heap.size w w' := by
  have hu25 := Try.underlying25
  have hu84 := Try.underlying84
  have hu53 := Try.underlying53
  have hu28 := Try.underlying28
  have HR0_0 := Az.mk hr0_0
  have HC0_0 := Az.mk hc0_0
  clear hr0_0 hc0_0
  have HR0_1 := Az.mk hr0_1
  have HC0_1 := Az.mk hc0_1
  clear hr0_1 hc0_1
  have HB := Az.mk (Below.refl w.heap.size w)
  have H : (if ([] : List (S87)).length + l0_0.length < 5864062014805 then (virgationref03_Copy.l0 k l0_1 (l0_1.length : Int) 0 (([] : List (S87)) ++ l0_0) ([] : List (S84))) else (none)) = some (r1, r2) := h
  clear h
  by_cases c2 : ([] : List (S87)).length + l0_0.length < 5864062014805
  · rw [if_pos c2] at H
    have LMc2 := Az.mk c2
    clear c2
    obtain ⟨y444, hy444⟩ : ∃ y_ : List (S87), y_ = (([] : List (S87)) ++ l0_0) := ⟨_, rfl⟩
    replace H : (virgationref03_Copy.l0 k l0_1 (l0_1.length : Int) 0 y444 ([] : List (S84))) = some (r1, r2) := by first | (rw [hy444]; with_reducible exact H) | (have H2_ := (Option.bind_some _ _).symm.trans H; rw [hy444]; with_reducible exact H2_) | (have H2_ := (Option.bind_some _ _).symm.trans H; with_reducible exact H2_) | with_reducible exact H | (rw [hy444]; exact H) | exact H
    have Ny444 := Az.mk hy444
    clear hy444
    have H' := Az.mk H
    clear H
    go_enter Try.func22, Try.ntmps22
    go_wp2_with (first | ((with_reducible refine gate_dst (N := 1) rfl ?_); refine box_event ?hg (N := 1) ?hd (cs := #[.slice A0_0 l0_0.length c0_0, .slice A0_1 l0_1.length c0_1]) (t := 25) ?hr ?_; (case hd => rfl); (case hg => rfl); (case hr => first | (go_simp; done) | (go_simp; rfl)); intro gb441 hg w3 hbox hb; have n0_ := Az.mk (bst (by repeat (first | (with_reducible first | exact HB.out | apply bal | apply pwN | apply bd1) | exact HB.out)) hb); have n1_ := Az.mk (hbox); have n2_ := Az.mk ((by rw [hg]; exact (below_size (by repeat (first | (with_reducible first | exact HB.out | apply bal | apply pwN | apply bd1) | exact HB.out))) : w.heap.size ≤ gb441)); have n3_ := Az.mk ((by rw [hg]; exact (below_size (by repeat (first | (with_reducible first | exact HB.out | apply bal | apply pwN | apply bd1) | exact HB.out))) : w.heap.size ≤ gb441)); clear HB; have HB := n0_; have BK441 := n1_; have GW441 := n2_; have GE441 := n3_; clear n0_ n1_ n2_ n3_; clear hb hbox hg) | ((with_reducible refine gate_dst (N := 2) rfl ?_); refine box_event ?hg (N := 2) ?hd (cs := #[.slice none 0 0, .slice none 0 0]) (t := 25) ?hr ?_; (case hd => rfl); (case hg => rfl); (case hr => first | (go_simp; done) | (go_simp; rfl)); intro gb442 hg w4 hbox hb; have n0_ := Az.mk (bkB (g := gb441) (o := .cells #[.slice A0_0 l0_0.length c0_0, .slice A0_1 l0_1.length c0_1] 25 (0, 0)) (by (with_reducible repeat (first | refine bdN ?_ _ | refine blk_drew ?_ | refine bkA ?_ _)); exact BK441.out) hb); have n1_ := Az.mk (bst (by repeat (first | (with_reducible first | exact HB.out | apply bal | apply pwN | apply bd1 | refine bset ?_ GE441.out) | exact HB.out)) hb); have n2_ := Az.mk (hbox); have n3_ := Az.mk ((by rw [hg]; exact (below_size (by repeat (first | (with_reducible first | exact HB.out | apply bal | apply pwN | apply bd1 | refine bset ?_ GE441.out) | exact HB.out))) : w.heap.size ≤ gb442)); have n4_ := Az.mk ((by rw [hg]; exact (below_size (by repeat (first | (with_reducible first | exact HB.out | apply bal | apply pwN | apply bd1 | refine bset ?_ GE441.out) | exact HB.out))) : w.heap.size ≤ gb442)); have n5_ := Az.mk ((by rw [hg]; exact Nat.ne_of_lt (blk_lt (g := gb441) (o := .cells #[.slice A0_0 l0_0.length c0_0, .slice A0_1 l0_1.length c0_1] 25 (0, 0)) (by (with_reducible repeat (first | refine bdN ?_ _ | refine blk_drew ?_ | refine bkA ?_ _)); exact BK441.out)) : gb441 ≠ gb442)); have n6_ := Az.mk ((by rw [hg]; exact Nat.ne_of_gt (blk_lt (g := gb441) (o := .cells #[.slice A0_0 l0_0.length c0_0, .slice A0_1 l0_1.length c0_1] 25 (0, 0)) (by (with_reducible repeat (first | refine bdN ?_ _ | refine blk_drew ?_ | refine bkA ?_ _)); exact BK441.out)) : gb442 ≠ gb441)); clear BK441; clear HB; have BK441 := n0_; have HB := n1_; have BK442 := n2_; have GW442 := n3_; have GE442 := n4_; have NB441_442 := n5_; have NB442_441 := n6_; clear n0_ n1_ n2_ n3_ n4_ n5_ n6_; clear hb hbox hg) | ((with_reducible refine gate_dst (N := 3) rfl ?_); refine box_event ?hg (N := 3) ?hd (cs := #[.slice none 0 0, .slice none 0 0]) (t := 25) ?hr ?_; (case hd => rfl); (case hg => rfl); (case hr => first | (go_simp; done) | (go_simp; rfl)); intro gb443 hg w5 hbox hb; have n0_ := Az.mk (bkB (g := gb441) (o := .cells #[.slice A0_0 l0_0.length c0_0, .slice A0_1 l0_1.length c0_1] 25 (0, 0)) (by (with_reducible repeat (first | refine bdN ?_ _ | refine blk_drew ?_ | refine bkA ?_ _)); exact BK441.out) hb); have n1_ := Az.mk (bkB (g := gb442) (o := .cells #[.slice none 0 0, .slice none 0 0] 25 (0, 0)) (by (with_reducible repeat (first | refine bdN ?_ _ | refine blk_drew ?_ | refine bkA ?_ _)); exact BK442.out) hb); have n2_ := Az.mk (bst (by repeat (first | (with_reducible first | exact HB.out | apply bal | apply pwN | apply bd1 | refine bset ?_ GE441.out | refine bset ?_ GE442.out) | exact HB.out)) hb); have n3_ := Az.mk (hbox); have n4_ := Az.mk ((by rw [hg]; exact (below_size (by repeat (first | (with_reducible first | exact HB.out | apply bal | apply pwN | apply bd1 | refine bset ?_ GE441.out | refine bset ?_ GE442.out) | exact HB.out))) : w.heap.size ≤ gb443)); have n5_ := Az.mk ((by rw [hg]; exact (below_size (by repeat (first | (with_reducible first | exact HB.out | apply bal | apply pwN | apply bd1 | refine bset ?_ GE441.out | refine bset ?_ GE442.out) | exact HB.out))) : w.heap.size ≤ gb443)); have n6_ := Az.mk ((by rw [hg]; exact Nat.ne_of_lt (blk_lt (g := gb441) (o := .cells #[.slice A0_0 l0_0.length c0_0, .slice A0_1 l0_1.length c0_1] 25 (0, 0)) (by (with_reducible repeat (first | refine bdN ?_ _ | refine blk_drew ?_ | refine bkA ?_ _)); exact BK441.out)) : gb441 ≠ gb443)); have n7_ := Az.mk ((by rw [hg]; exact Nat.ne_of_gt (blk_lt (g := gb441) (o := .cells #[.slice A0_0 l0_0.length c0_0, .slice A0_1 l0_1.length c0_1] 25 (0, 0)) (by (with_reducible repeat (first | refine bdN ?_ _ | refine blk_drew ?_ | refine bkA ?_ _)); exact BK441.out)) : gb443 ≠ gb441)); have n8_ := Az.mk ((by rw [hg]; exact Nat.ne_of_lt (blk_lt (g := gb442) (o := .cells #[.slice none 0 0, .slice none 0 0] 25 (0, 0)) (by (with_reducible repeat (first | refine bdN ?_ _ | refine blk_drew ?_ | refine bkA ?_ _)); exact BK442.out)) : gb442 ≠ gb443)); have n9_ := Az.mk ((by rw [hg]; exact Nat.ne_of_gt (blk_lt (g := gb442) (o := .cells #[.slice none 0 0, .slice none 0 0] 25 (0, 0)) (by (with_reducible repeat (first | refine bdN ?_ _ | refine blk_drew ?_ | refine bkA ?_ _)); exact BK442.out)) : gb443 ≠ gb442)); clear BK441; clear BK442; clear HB; have BK441 := n0_; have BK442 := n1_; have HB := n2_; have BK443 := n3_; have GW443 := n4_; have GE443 := n5_; have NB441_443 := n6_; have NB443_441 := n7_; have NB442_443 := n8_; have NB443_442 := n9_; clear n0_ n1_ n2_ n3_ n4_ n5_ n6_ n7_ n8_ n9_; clear hb hbox hg; have hnb6 := NB443_441.out; have hnc6 := NB441_443.out; have hnb7 := NB443_442.out; have hnc7 := NB442_443.out; have hcz8_0 : w5.cell? ⟨gb443, 0, none⟩ = some (.slice none 0 0) := (blk_cell BK443.out 0).trans rfl; have hcz8_1 : w5.cell? ⟨gb443, 1, none⟩ = some (.slice none 0 0) := (blk_cell BK443.out 1).trans rfl; have hfz8_0 := bkF BK443.out 0; have hfz8_1 := bkF BK443.out 1; have hnb9 := NB441_442.out; have hnc9 := NB442_441.out; have hcz10_0 : w5.cell? ⟨gb441, 0, none⟩ = some (.slice A0_0 l0_0.length c0_0) := (blk_cell BK441.out 0).trans rfl; have hcz10_1 : w5.cell? ⟨gb441, 1, none⟩ = some (.slice A0_1 l0_1.length c0_1) := (blk_cell BK441.out 1).trans rfl; have hfz10_0 := bkF BK441.out 0; have hfz10_1 := bkF BK441.out 1) | ((with_reducible refine gate_builtin (b := .append) (xs := #[.tmp 7, .tmp 9]) rfl ?_); at_builtin; refine Kd.R_append_rows k87 (w0 := w) w.heap.size rfl (.tmp 7) (.tmp 9) 22 87 (.agg #[(.string ⟨#[]⟩), (.int .i64 0)]) 24 rfl Try.underlying22 info87 rfl (by decide) (by omega) (.slice none 0 0) ([] : List (S87)) l0_0 _ _ _ (fun _ => True) (fun _ => False) rfl rfl ?aO ?aR (fun _ _ h => h) (fun _ h => h.elim) ?aF ?aB ?aS ?aL ?_; (case aR => repeat (first | exact (Kd.C_below HR0_0.out HB.out) | (with_reducible refine Kd.C_alloc ?_ _) | (with_reducible refine Kd.C_drewN ?_ _) | (with_reducible refine Kd.C_drew ?_))); (case aB => exact (by repeat (first | (with_reducible first | exact HB.out | apply bal | apply pwN | apply bd1 | refine bset ?_ GE441.out | refine bset ?_ GE442.out | refine bset ?_ GE443.out) | exact HB.out))); (case aF => exact (fun _ _ => trivial)); (case aO => exact ((Kd.R_nil _ _ _ _ (fun _ => True)))); (case aS => exact (below_size (by repeat (first | (with_reducible first | exact HB.out | apply bal | apply pwN | apply bd1 | refine bset ?_ GE441.out | refine bset ?_ GE442.out | refine bset ?_ GE443.out) | exact HB.out)))); (case aL => have := LMc2.out; omega); intro v445 w11 ho hb hg hat; rw [← Ny444.out] at ho; have n0_ := Az.mk (blk_grown (g := gb441) (o := .cells #[.slice A0_0 l0_0.length c0_0, .slice A0_1 l0_1.length c0_1] 25 (0, 0)) (by (with_reducible repeat (first | refine bdN ?_ _ | refine blk_drew ?_ | refine bkA ?_ _)); exact BK441.out) hg (by simp [Value.ownBlock])); have n1_ := Az.mk (blk_grown (g := gb442) (o := .cells #[.slice none 0 0, .slice none 0 0] 25 (0, 0)) (by (with_reducible repeat (first | refine bdN ?_ _ | refine blk_drew ?_ | refine bkA ?_ _)); exact BK442.out) hg (by simp [Value.ownBlock])); have n2_ := Az.mk (blk_grown (g := gb443) (o := .cells #[.slice none 0 0, .slice none 0 0] 25 (0, 0)) (by (with_reducible repeat (first | refine bdN ?_ _ | refine blk_drew ?_ | refine bkA ?_ _)); exact BK443.out) hg (by simp [Value.ownBlock])); have n3_ := Az.mk (hb); have n4_ := Az.mk (ho); clear BK441; clear BK442; clear BK443; clear HB; have BK441 := n0_; have BK442 := n1_; have BK443 := n2_; have HB := n3_; have HO446 := n4_; clear n0_ n1_ n2_ n3_ n4_; clear ho hb hg hat; obtain ⟨Ao12, co12, eo12⟩ := Kd.R_slice HO446.out; subst eo12; have hcz13_0 : w11.cell? ⟨gb443, 0, none⟩ = some (.slice none 0 0) := (blk_cell BK443.out 0).trans rfl; have hcz13_1 : w11.cell? ⟨gb443, 1, none⟩ = some (.slice none 0 0) := (blk_cell BK443.out 1).trans rfl; have hfz13_0 := bkF BK443.out 0; have hfz13_1 := bkF BK443.out 1; have hcz14_0 : w11.cell? ⟨gb441, 0, none⟩ = some (.slice A0_0 l0_0.length c0_0) := (blk_cell BK441.out 0).trans rfl; have hcz14_1 : w11.cell? ⟨gb441, 1, none⟩ = some (.slice A0_1 l0_1.length c0_1) := (blk_cell BK441.out 1).trans rfl; have hfz14_0 := bkF BK441.out 0; have hfz14_1 := bkF BK441.out 1))
    go_loopg [15] k (fun kq v15 w' => ∃ (x15_1 : Int) (x444001_1 : List (S84)) (u444001 : Value), v15 = .int .i64 x15_1 ∧ Az (virgationref03_Copy.l0 kq l0_1 (l0_1.length : Int) x15_1 y444 x444001_1 = some (r1, r2)) ∧ Az (kq ≤ k) ∧ Az (Kd.R k87 87 w' w.heap.size (fun _ => True) (.slice Ao12 y444.length co12) y444) ∧ Az (Kd.R k84 84 w' w.heap.size (fun _ => True) u444001 x444001_1) ∧ Az (w'.heap[gb441]? = some (.cells #[(.slice A0_0 l0_0.length c0_0), (.slice A0_1 l0_1.length c0_1)] 25 (0, 0))) ∧ Az (w'.heap[gb442]? = some (.cells #[(.slice none 0 0), (.slice none 0 0)] 25 (0, 0))) ∧ Az (w'.heap[gb443]? = some (.cells #[(.slice Ao12 y444.length co12), u444001] 25 (0, 0))) ∧ Az (Below w.heap.size w w'))
    case atStart => exact ⟨(0), (([] : List (S84))), (.slice none 0 0), (by first | rfl | (simp; done) | (simp [*]; done)), H', ⟨Nat.le_refl _⟩, ⟨by (with_reducible repeat (first | apply Kd.R_alloc | apply Kd.R_drewN | apply Kd.R_drew)); exact Kd.R_mono (Kd.R_far (p := ⟨gb443, 0, none⟩) (Kd.R_types HO446.out BK443.out (by decide)) (fun _ hk => hk.2) (.slice Ao12 y444.length co12)) (fun _ hk => trivial)⟩, ⟨by first | exact Kd.R_nil _ _ _ _ _ | exact Kd.N_nil _ _ _ _ _ | exact Kd.V_nil _ _ _ _ _ | exact Kd.Q_nil _ _ _ _ _ | exact Kd.S_nil _ _ _ _ _⟩, ⟨by (with_reducible repeat (first | refine bdN ?_ _ | refine blk_drew ?_ | refine bkA ?_ _)); refine blk_far ?_ NB441_443.out _; (with_reducible repeat (first | refine bdN ?_ _ | refine blk_drew ?_ | refine bkA ?_ _)); exact BK441.out⟩, ⟨by (with_reducible repeat (first | refine bdN ?_ _ | refine blk_drew ?_ | refine bkA ?_ _)); refine blk_far ?_ NB442_443.out _; (with_reducible repeat (first | refine bdN ?_ _ | refine blk_drew ?_ | refine bkA ?_ _)); exact BK442.out⟩, ⟨by (with_reducible repeat (first | refine bdN ?_ _ | refine blk_drew ?_ | refine bkA ?_ _)); refine blk_put (cs := #[.slice none 0 0, .slice none 0 0]) ?_ 0 _ rfl; (with_reducible repeat (first | refine bdN ?_ _ | refine blk_drew ?_ | refine bkA ?_ _)); exact BK443.out⟩, ⟨by repeat (first | (with_reducible first | exact HB.out | apply bal | apply pwN | apply bd1 | refine bset ?_ GE441.out | refine bset ?_ GE442.out | refine bset ?_ GE443.out) | exact HB.out)⟩⟩
    case round =>
      clear H'
      try clear c2
      try clear p2
      try clear c6
      try clear c7
      try clear c9
      try clear hcz10_0
      try clear hcz10_1
      try clear hcz13_0
      try clear hcz13_1
      try clear hcz14_0
      try clear hcz14_1
      try clear hcz8_0
      try clear hcz8_1
      try clear hfz10_0
      try clear hfz10_1
      try clear hfz13_0
      try clear hfz13_1
      try clear hfz14_0
      try clear hfz14_1
      try clear hfz8_0
      try clear hfz8_1
      obtain ⟨x15_1, x444001_1, u444001, rfl, HA, HK1, HO_444000, HO_444001, BK441, BK442, BK443, HB⟩ := hrel
      cases gk with
      | zero => exact absurd HA.out (by simp [virgationref03_Copy.l0])
      | succ k1 =>
        have H := HA.out
        clear HA
        simp only [virgationref03_Copy.l0] at H
        by_cases c15 : x15_1 < (l0_1.length : Int)
        · rw [if_pos c15] at H
          have c15b0 : decide (x15_1 < (l0_1.length : Int)) = true := decide_eq_true c15
          clear c15
          by_cases c16 : 0 ≤ x15_1
          · rw [if_pos c16] at H
            have c16b0 : decide (0 ≤ x15_1) = true := decide_eq_true c16
            clear c16
            by_cases c17 : x15_1 < (l0_1.length : Int)
            · rw [if_pos c17] at H
              have c17b0 : decide (x15_1 < (l0_1.length : Int)) = true := decide_eq_true c17
              clear c17
              replace H := Option.bind_eq_some_iff.mp H
              obtain ⟨t449, A180, H⟩ := H
              replace H : ((virgationref02_Copy.f ((rd_T84 l0_1 x15_1).f2.f0) ((rd_T84 l0_1 x15_1).f2.f1) ((rd_T84 l0_1 x15_1).f2.f2)).bind fun bt452 => (if x444001_1.length < 1759218604441 then (virgationref03_Copy.l0 k1 l0_1 (l0_1.length : Int) (wrap64 (x15_1 + 1)) y444 (x444001_1 ++ [(⟨(rd_T84 l0_1 x15_1).f0, (⟨t449⟩ : S53), (⟨bt452.1, bt452.2.1, bt452.2.2⟩ : S28)⟩ : S84)])) else (none))) = some (r1, r2) := H
              have A18 := Az.mk A180
              clear A180
              replace H := Option.bind_eq_some_iff.mp H
              obtain ⟨⟨t452, t453, t454⟩, A190, H⟩ := H
              replace H : (if x444001_1.length < 1759218604441 then (virgationref03_Copy.l0 k1 l0_1 (l0_1.length : Int) (wrap64 (x15_1 + 1)) y444 (x444001_1 ++ [(⟨(rd_T84 l0_1 x15_1).f0, (⟨t449⟩ : S53), (⟨t452, t453, t454⟩ : S28)⟩ : S84)])) else (none)) = some (r1, r2) := H
              have A19 := Az.mk A190
              clear A190
              by_cases c20 : x444001_1.length < 1759218604441
              · rw [if_pos c20] at H
                have LMc20 := Az.mk c20
                clear c20
                obtain ⟨y457, hy457⟩ : ∃ y_ : List (S84), y_ = (x444001_1 ++ [(⟨(rd_T84 l0_1 x15_1).f0, (⟨t449⟩ : S53), (⟨t452, t453, t454⟩ : S28)⟩ : S84)]) := ⟨_, rfl⟩
                replace H : (virgationref03_Copy.l0 k1 l0_1 (l0_1.length : Int) (wrap64 (x15_1 + 1)) y444 y457) = some (r1, r2) := by first | (rw [hy457]; with_reducible exact H) | (have H2_ := (Option.bind_some _ _).symm.trans H; rw [hy457]; with_reducible exact H2_) | (have H2_ := (Option.bind_some _ _).symm.trans H; with_reducible exact H2_) | with_reducible exact H | (rw [hy457]; exact H) | exact H
                have Ny457 := Az.mk hy457
                clear hy457
                have H' := Az.mk H
                clear H
                have p447 : 0 ≤ (x15_1 : Int) := of_decide_eq_true (by first | (with_reducible assumption) | assumption)
                have q447 : x15_1 < (l0_1.length : Int) := of_decide_eq_true (by first | (with_reducible assumption) | assumption)
                obtain ⟨ad447, A447_1, c447_1, A447_4, c447_4, e447, hx447_0, hx447_1, hx447_2, hx447_3, hx447_4, hl447_1, hi447_1, hl447_4, hi447_4⟩ := at_T84 HR0_1.out x15_1 p447 q447
                cases e447
                replace hx447_0 := (HB.out.cell (World.block_lt_of_cell? w _ hx447_0)).trans hx447_0
                replace hx447_1 := (HB.out.cell (World.block_lt_of_cell? w _ hx447_1)).trans hx447_1
                replace hx447_2 := (HB.out.cell (World.block_lt_of_cell? w _ hx447_2)).trans hx447_2
                replace hx447_3 := (HB.out.cell (World.block_lt_of_cell? w _ hx447_3)).trans hx447_3
                replace hx447_4 := (HB.out.cell (World.block_lt_of_cell? w _ hx447_4)).trans hx447_4
                have HR447_1 := Az.mk hi447_1
                have HC447_1 := Az.mk hl447_1
                clear hi447_1 hl447_1
                have HR447_4 := Az.mk hi447_4
                have HC447_4 := Az.mk hl447_4
                clear hi447_4 hl447_4
                replace p447 := eq_true p447
                replace q447 := eq_true q447
                try go_wp2_with (first | ((with_reducible refine gate_dst (N := 5) rfl ?_); refine box_event ?hg (N := 5) ?hd (cs := #[.string (⟨#[]⟩ : ByteArray), .slice none 0 0, .int .i64 0, .int .i64 0, .slice none 0 0]) (t := 84) ?hr ?_; (case hd => rfl); (case hg => rfl); (case hr => first | (go_simp; done) | (go_simp; rfl)); intro gb448 hg w21 hbox hb; have n0_ := Az.mk (Kd.R_below (by (with_reducible repeat (first | apply Kd.R_alloc | apply Kd.R_drewN | apply Kd.R_drew)); exact HO_444000.out) hb); have n1_ := Az.mk (Kd.R_below (Kd.R_elderB (by (with_reducible repeat (first | apply Kd.R_alloc | apply Kd.R_drewN | apply Kd.R_drew)); exact HO_444001.out) gb448 (Nat.le_of_eq hg.symm)) hb); have n2_ := Az.mk (bkB (g := gb441) (o := .cells #[.slice A0_0 l0_0.length c0_0, .slice (some ad447) l0_1.length c0_1] 25 (0, 0)) (by (with_reducible repeat (first | refine bdN ?_ _ | refine blk_drew ?_ | refine bkA ?_ _)); exact BK441.out) hb); have n3_ := Az.mk (bkB (g := gb442) (o := .cells #[.slice none 0 0, .slice none 0 0] 25 (0, 0)) (by (with_reducible repeat (first | refine bdN ?_ _ | refine blk_drew ?_ | refine bkA ?_ _)); exact BK442.out) hb); have n4_ := Az.mk (bkB (g := gb443) (o := .cells #[.slice Ao12 y444.length co12, u444001] 25 (0, 0)) (by (with_reducible repeat (first | refine bdN ?_ _ | refine blk_drew ?_ | refine bkA ?_ _)); exact BK443.out) hb); have n5_ := Az.mk (bst (by repeat (first | (with_reducible first | exact HB.out | apply bal | apply pwN | apply bd1 | refine bset ?_ GE441.out | refine bset ?_ GE442.out | refine bset ?_ GE443.out) | exact HB.out)) hb); have n6_ := Az.mk (hbox); have n7_ := Az.mk ((by rw [hg]; exact (below_size (by repeat (first | (with_reducible first | exact HB.out | apply bal | apply pwN | apply bd1 | refine bset ?_ GE441.out | refine bset ?_ GE442.out | refine bset ?_ GE443.out) | exact HB.out))) : w.heap.size ≤ gb448)); have n8_ := Az.mk ((by rw [hg]; exact (below_size (by repeat (first | (with_reducible first | exact HB.out | apply bal | apply pwN | apply bd1 | refine bset ?_ GE441.out | refine bset ?_ GE442.out | refine bset ?_ GE443.out) | exact HB.out))) : w.heap.size ≤ gb448)); have n9_ := Az.mk ((by rw [hg]; exact Nat.ne_of_lt (blk_lt (g := gb441) (o := .cells #[.slice A0_0 l0_0.length c0_0, .slice (some ad447) l0_1.length c0_1] 25 (0, 0)) (by (with_reducible repeat (first | refine bdN ?_ _ | refine blk_drew ?_ | refine bkA ?_ _)); exact BK441.out)) : gb441 ≠ gb448)); have n10_ := Az.mk ((by rw [hg]; exact Nat.ne_of_gt (blk_lt (g := gb441) (o := .cells #[.slice A0_0 l0_0.length c0_0, .slice (some ad447) l0_1.length c0_1] 25 (0, 0)) (by (with_reducible repeat (first | refine bdN ?_ _ | refine blk_drew ?_ | refine bkA ?_ _)); exact BK441.out)) : gb448 ≠ gb441)); have n11_ := Az.mk ((by rw [hg]; exact Nat.ne_of_lt (blk_lt (g := gb442) (o := .cells #[.slice none 0 0, .slice none 0 0] 25 (0, 0)) (by (with_reducible repeat (first | refine bdN ?_ _ | refine blk_drew ?_ | refine bkA ?_ _)); exact BK442.out)) : gb442 ≠ gb448)); have n12_ := Az.mk ((by rw [hg]; exact Nat.ne_of_gt (blk_lt (g := gb442) (o := .cells #[.slice none 0 0, .slice none 0 0] 25 (0, 0)) (by (with_reducible repeat (first | refine bdN ?_ _ | refine blk_drew ?_ | refine bkA ?_ _)); exact BK442.out)) : gb448 ≠ gb442)); have n13_ := Az.mk ((by rw [hg]; exact Nat.ne_of_lt (blk_lt (g := gb443) (o := .cells #[.slice Ao12 y444.length co12, u444001] 25 (0, 0)) (by (with_reducible repeat (first | refine bdN ?_ _ | refine blk_drew ?_ | refine bkA ?_ _)); exact BK443.out)) : gb443 ≠ gb448)); have n14_ := Az.mk ((by rw [hg]; exact Nat.ne_of_gt (blk_lt (g := gb443) (o := .cells #[.slice Ao12 y444.length co12, u444001] 25 (0, 0)) (by (with_reducible repeat (first | refine bdN ?_ _ | refine blk_drew ?_ | refine bkA ?_ _)); exact BK443.out)) : gb448 ≠ gb443)); clear HO_444000; clear HO_444001; clear BK441; clear BK442; clear BK443; clear HB; have HO_444000 := n0_; have HO_444001 := n1_; have BK441 := n2_; have BK442 := n3_; have BK443 := n4_; have HB := n5_; have BK448 := n6_; have GW448 := n7_; have GE448 := n8_; have NB441_448 := n9_; have NB448_441 := n10_; have NB442_448 := n11_; have NB448_442 := n12_; have NB443_448 := n13_; have NB448_443 := n14_; clear n0_ n1_ n2_ n3_ n4_ n5_ n6_ n7_ n8_ n9_ n10_ n11_ n12_ n13_ n14_; clear hb hbox hg; have hnb22 := NB448_441.out; have hnc22 := NB441_448.out; have hnb23 := NB448_442.out; have hnc23 := NB442_448.out; have hnb24 := NB448_443.out; have hnc24 := NB443_448.out; have hcz25_0 : w21.cell? ⟨gb448, 0, none⟩ = some (.string (⟨#[]⟩ : ByteArray)) := (blk_cell BK448.out 0).trans rfl; have hcz25_1 : w21.cell? ⟨gb448, 1, none⟩ = some (.slice none 0 0) := (blk_cell BK448.out 1).trans rfl; have hcz25_2 : w21.cell? ⟨gb448, 2, none⟩ = some (.int .i64 0) := (blk_cell BK448.out 2).trans rfl; have hcz25_3 : w21.cell? ⟨gb448, 3, none⟩ = some (.int .i64 0) := (blk_cell BK448.out 3).trans rfl; have hcz25_4 : w21.cell? ⟨gb448, 4, none⟩ = some (.slice none 0 0) := (blk_cell BK448.out 4).trans rfl; have hfz25_0 := bkF BK448.out 0; have hfz25_1 := bkF BK448.out 1; have hfz25_2 := bkF BK448.out 2; have hfz25_3 := bkF BK448.out 3; have hfz25_4 := bkF BK448.out 4))
                have n0_ : Az (Kd.R k87 87 (((((w21.setCell ⟨gb448, 0, none⟩ (.string ((rd_T84 l0_1 x15_1).f0))).setCell ⟨gb448, 1, none⟩ (.slice A447_1 ((rd_T84 l0_1 x15_1).f1.f0).length c447_1)).setCell ⟨gb448, 2, none⟩ (.int .i64 ((rd_T84 l0_1 x15_1).f2.f0))).setCell ⟨gb448, 3, none⟩ (.int .i64 ((rd_T84 l0_1 x15_1).f2.f1))).setCell ⟨gb448, 4, none⟩ (.slice A447_4 ((rd_T84 l0_1 x15_1).f2.f2).length c447_4)) w.heap.size (fun _ => True) (.slice Ao12 y444.length co12) y444) := ⟨by (with_reducible repeat (first | apply Kd.R_alloc | apply Kd.R_drewN | apply Kd.R_drew)); exact Kd.R_mono (Kd.R_far (p := ⟨gb448, 4, none⟩) (Kd.R_far (p := ⟨gb448, 3, none⟩) (Kd.R_far (p := ⟨gb448, 2, none⟩) (Kd.R_far (p := ⟨gb448, 1, none⟩) (Kd.R_far (p := ⟨gb448, 0, none⟩) (Kd.R_types HO_444000.out BK448.out (by decide)) (fun _ hk => hk.2) (.string ((rd_T84 l0_1 x15_1).f0))) (fun _ hk => hk.2) (.slice A447_1 ((rd_T84 l0_1 x15_1).f1.f0).length c447_1)) (fun _ hk => hk.2) (.int .i64 ((rd_T84 l0_1 x15_1).f2.f0))) (fun _ hk => hk.2) (.int .i64 ((rd_T84 l0_1 x15_1).f2.f1))) (fun _ hk => hk.2) (.slice A447_4 ((rd_T84 l0_1 x15_1).f2.f2).length c447_4)) (fun _ hk => trivial)⟩
                have n1_ : Az (Kd.R k84 84 (((((w21.setCell ⟨gb448, 0, none⟩ (.string ((rd_T84 l0_1 x15_1).f0))).setCell ⟨gb448, 1, none⟩ (.slice A447_1 ((rd_T84 l0_1 x15_1).f1.f0).length c447_1)).setCell ⟨gb448, 2, none⟩ (.int .i64 ((rd_T84 l0_1 x15_1).f2.f0))).setCell ⟨gb448, 3, none⟩ (.int .i64 ((rd_T84 l0_1 x15_1).f2.f1))).setCell ⟨gb448, 4, none⟩ (.slice A447_4 ((rd_T84 l0_1 x15_1).f2.f2).length c447_4)) w.heap.size (fun k_ => k_ ≠ gb448) u444001 x444001_1) := ⟨by (with_reducible repeat (first | apply Kd.R_alloc | apply Kd.R_drewN | apply Kd.R_drew)); exact Kd.R_mono (Kd.R_far (p := ⟨gb448, 4, none⟩) (Kd.R_far (p := ⟨gb448, 3, none⟩) (Kd.R_far (p := ⟨gb448, 2, none⟩) (Kd.R_far (p := ⟨gb448, 1, none⟩) (Kd.R_far (p := ⟨gb448, 0, none⟩) (Kd.R_mono HO_444001.out (fun k_ hk => (⟨hk, hk.2⟩ : _ ∧ k_ ≠ gb448))) (fun _ hk => hk.2) (.string ((rd_T84 l0_1 x15_1).f0))) (fun _ hk => hk.2) (.slice A447_1 ((rd_T84 l0_1 x15_1).f1.f0).length c447_1)) (fun _ hk => hk.2) (.int .i64 ((rd_T84 l0_1 x15_1).f2.f0))) (fun _ hk => hk.2) (.int .i64 ((rd_T84 l0_1 x15_1).f2.f1))) (fun _ hk => hk.2) (.slice A447_4 ((rd_T84 l0_1 x15_1).f2.f2).length c447_4)) (fun _ hk => hk.1.2)⟩
                have n2_ : Az ((((((w21.setCell ⟨gb448, 0, none⟩ (.string ((rd_T84 l0_1 x15_1).f0))).setCell ⟨gb448, 1, none⟩ (.slice A447_1 ((rd_T84 l0_1 x15_1).f1.f0).length c447_1)).setCell ⟨gb448, 2, none⟩ (.int .i64 ((rd_T84 l0_1 x15_1).f2.f0))).setCell ⟨gb448, 3, none⟩ (.int .i64 ((rd_T84 l0_1 x15_1).f2.f1))).setCell ⟨gb448, 4, none⟩ (.slice A447_4 ((rd_T84 l0_1 x15_1).f2.f2).length c447_4)).heap[gb441]? = some (.cells #[.slice A0_0 l0_0.length c0_0, .slice (some ad447) l0_1.length c0_1] 25 (0, 0))) := ⟨by (with_reducible repeat (first | refine bdN ?_ _ | refine blk_drew ?_ | refine bkA ?_ _)); refine blk_far ?_ NB441_448.out _; (with_reducible repeat (first | refine bdN ?_ _ | refine blk_drew ?_ | refine bkA ?_ _)); refine blk_far ?_ NB441_448.out _; (with_reducible repeat (first | refine bdN ?_ _ | refine blk_drew ?_ | refine bkA ?_ _)); refine blk_far ?_ NB441_448.out _; (with_reducible repeat (first | refine bdN ?_ _ | refine blk_drew ?_ | refine bkA ?_ _)); refine blk_far ?_ NB441_448.out _; (with_reducible repeat (first | refine bdN ?_ _ | refine blk_drew ?_ | refine bkA ?_ _)); refine blk_far ?_ NB441_448.out _; (with_reducible repeat (first | refine bdN ?_ _ | refine blk_drew ?_ | refine bkA ?_ _)); exact BK441.out⟩
                have n3_ : Az ((((((w21.setCell ⟨gb448, 0, none⟩ (.string ((rd_T84 l0_1 x15_1).f0))).setCell ⟨gb448, 1, none⟩ (.slice A447_1 ((rd_T84 l0_1 x15_1).f1.f0).length c447_1)).setCell ⟨gb448, 2, none⟩ (.int .i64 ((rd_T84 l0_1 x15_1).f2.f0))).setCell ⟨gb448, 3, none⟩ (.int .i64 ((rd_T84 l0_1 x15_1).f2.f1))).setCell ⟨gb448, 4, none⟩ (.slice A447_4 ((rd_T84 l0_1 x15_1).f2.f2).length c447_4)).heap[gb442]? = some (.cells #[.slice none 0 0, .slice none 0 0] 25 (0, 0))) := ⟨by (with_reducible repeat (first | refine bdN ?_ _ | refine blk_drew ?_ | refine bkA ?_ _)); refine blk_far ?_ NB442_448.out _; (with_reducible repeat (first | refine bdN ?_ _ | refine blk_drew ?_ | refine bkA ?_ _)); refine blk_far ?_ NB442_448.out _; (with_reducible repeat (first | refine bdN ?_ _ | refine blk_drew ?_ | refine bkA ?_ _)); refine blk_far ?_ NB442_448.out _; (with_reducible repeat (first | refine bdN ?_ _ | refine blk_drew ?_ | refine bkA ?_ _)); refine blk_far ?_ NB442_448.out _; (with_reducible repeat (first | refine bdN ?_ _ | refine blk_drew ?_ | refine bkA ?_ _)); refine blk_far ?_ NB442_448.out _; (with_reducible repeat (first | refine bdN ?_ _ | refine blk_drew ?_ | refine bkA ?_ _)); exact BK442.out⟩
                have n4_ : Az ((((((w21.setCell ⟨gb448, 0, none⟩ (.string ((rd_T84 l0_1 x15_1).f0))).setCell ⟨gb448, 1, none⟩ (.slice A447_1 ((rd_T84 l0_1 x15_1).f1.f0).length c447_1)).setCell ⟨gb448, 2, none⟩ (.int .i64 ((rd_T84 l0_1 x15_1).f2.f0))).setCell ⟨gb448, 3, none⟩ (.int .i64 ((rd_T84 l0_1 x15_1).f2.f1))).setCell ⟨gb448, 4, none⟩ (.slice A447_4 ((rd_T84 l0_1 x15_1).f2.f2).length c447_4)).heap[gb443]? = some (.cells #[.slice Ao12 y444.length co12, u444001] 25 (0, 0))) := ⟨by (with_reducible repeat (first | refine bdN ?_ _ | refine blk_drew ?_ | refine bkA ?_ _)); refine blk_far ?_ NB443_448.out _; (with_reducible repeat (first | refine bdN ?_ _ | refine blk_drew ?_ | refine bkA ?_ _)); refine blk_far ?_ NB443_448.out _; (with_reducible repeat (first | refine bdN ?_ _ | refine blk_drew ?_ | refine bkA ?_ _)); refine blk_far ?_ NB443_448.out _; (with_reducible repeat (first | refine bdN ?_ _ | refine blk_drew ?_ | refine bkA ?_ _)); refine blk_far ?_ NB443_448.out _; (with_reducible repeat (first | refine bdN ?_ _ | refine blk_drew ?_ | refine bkA ?_ _)); refine blk_far ?_ NB443_448.out _; (with_reducible repeat (first | refine bdN ?_ _ | refine blk_drew ?_ | refine bkA ?_ _)); exact BK443.out⟩
                have n5_ : Az ((((((w21.setCell ⟨gb448, 0, none⟩ (.string ((rd_T84 l0_1 x15_1).f0))).setCell ⟨gb448, 1, none⟩ (.slice A447_1 ((rd_T84 l0_1 x15_1).f1.f0).length c447_1)).setCell ⟨gb448, 2, none⟩ (.int .i64 ((rd_T84 l0_1 x15_1).f2.f0))).setCell ⟨gb448, 3, none⟩ (.int .i64 ((rd_T84 l0_1 x15_1).f2.f1))).setCell ⟨gb448, 4, none⟩ (.slice A447_4 ((rd_T84 l0_1 x15_1).f2.f2).length c447_4)).heap[gb448]? = some (.cells #[.string ((rd_T84 l0_1 x15_1).f0), .slice A447_1 ((rd_T84 l0_1 x15_1).f1.f0).length c447_1, .int .i64 ((rd_T84 l0_1 x15_1).f2.f0), .int .i64 ((rd_T84 l0_1 x15_1).f2.f1), .slice A447_4 ((rd_T84 l0_1 x15_1).f2.f2).length c447_4] 84 (0, 0))) := ⟨by (with_reducible repeat (first | refine bdN ?_ _ | refine blk_drew ?_ | refine bkA ?_ _)); refine blk_put (cs := #[.string ((rd_T84 l0_1 x15_1).f0), .slice A447_1 ((rd_T84 l0_1 x15_1).f1.f0).length c447_1, .int .i64 ((rd_T84 l0_1 x15_1).f2.f0), .int .i64 ((rd_T84 l0_1 x15_1).f2.f1), .slice none 0 0]) ?_ 4 _ rfl; (with_reducible repeat (first | refine bdN ?_ _ | refine blk_drew ?_ | refine bkA ?_ _)); refine blk_put (cs := #[.string ((rd_T84 l0_1 x15_1).f0), .slice A447_1 ((rd_T84 l0_1 x15_1).f1.f0).length c447_1, .int .i64 ((rd_T84 l0_1 x15_1).f2.f0), .int .i64 0, .slice none 0 0]) ?_ 3 _ rfl; (with_reducible repeat (first | refine bdN ?_ _ | refine blk_drew ?_ | refine bkA ?_ _)); refine blk_put (cs := #[.string ((rd_T84 l0_1 x15_1).f0), .slice A447_1 ((rd_T84 l0_1 x15_1).f1.f0).length c447_1, .int .i64 0, .int .i64 0, .slice none 0 0]) ?_ 2 _ rfl; (with_reducible repeat (first | refine bdN ?_ _ | refine blk_drew ?_ | refine bkA ?_ _)); refine blk_put (cs := #[.string ((rd_T84 l0_1 x15_1).f0), .slice none 0 0, .int .i64 0, .int .i64 0, .slice none 0 0]) ?_ 1 _ rfl; (with_reducible repeat (first | refine bdN ?_ _ | refine blk_drew ?_ | refine bkA ?_ _)); refine blk_put (cs := #[.string (⟨#[]⟩ : ByteArray), .slice none 0 0, .int .i64 0, .int .i64 0, .slice none 0 0]) ?_ 0 _ rfl; (with_reducible repeat (first | refine bdN ?_ _ | refine blk_drew ?_ | refine bkA ?_ _)); exact BK448.out⟩
                have n6_ : Az (Below w.heap.size w (((((w21.setCell ⟨gb448, 0, none⟩ (.string ((rd_T84 l0_1 x15_1).f0))).setCell ⟨gb448, 1, none⟩ (.slice A447_1 ((rd_T84 l0_1 x15_1).f1.f0).length c447_1)).setCell ⟨gb448, 2, none⟩ (.int .i64 ((rd_T84 l0_1 x15_1).f2.f0))).setCell ⟨gb448, 3, none⟩ (.int .i64 ((rd_T84 l0_1 x15_1).f2.f1))).setCell ⟨gb448, 4, none⟩ (.slice A447_4 ((rd_T84 l0_1 x15_1).f2.f2).length c447_4))) := ⟨by repeat (first | (with_reducible first | exact HB.out | apply bal | apply pwN | apply bd1 | refine bset ?_ GE441.out | refine bset ?_ GE442.out | refine bset ?_ GE443.out | refine bset ?_ GE448.out) | exact HB.out)⟩
                (try clear HO_444000)
                (try clear HO_444001)
                (try clear BK441)
                (try clear BK442)
                (try clear BK443)
                (try clear BK448)
                (try clear HB)
                generalize (((((w21.setCell ⟨gb448, 0, none⟩ (.string ((rd_T84 l0_1 x15_1).f0))).setCell ⟨gb448, 1, none⟩ (.slice A447_1 ((rd_T84 l0_1 x15_1).f1.f0).length c447_1)).setCell ⟨gb448, 2, none⟩ (.int .i64 ((rd_T84 l0_1 x15_1).f2.f0))).setCell ⟨gb448, 3, none⟩ (.int .i64 ((rd_T84 l0_1 x15_1).f2.f1))).setCell ⟨gb448, 4, none⟩ (.slice A447_4 ((rd_T84 l0_1 x15_1).f2.f2).length c447_4)) = w26 at n0_ n1_ n2_ n3_ n4_ n5_ n6_ ⊢
                have HO_444000 := n0_
                have HO_444001 := n1_
                have BK441 := n2_
                have BK442 := n3_
                have BK443 := n4_
                have BK448 := n5_
                have HB := n6_
                clear n0_ n1_ n2_ n3_ n4_ n5_ n6_
                have n0_ := Az.mk (Kd.R_drew HO_444000.out)
                have n1_ := Az.mk (Kd.R_drew HO_444001.out)
                have n2_ := Az.mk (blk_drew BK441.out)
                have n3_ := Az.mk (blk_drew BK442.out)
                have n4_ := Az.mk (blk_drew BK443.out)
                have n5_ := Az.mk (blk_drew BK448.out)
                have n6_ := Az.mk (bd1 HB.out)
                clear HO_444000
                clear HO_444001
                clear BK441
                clear BK442
                clear BK443
                clear BK448
                clear HB
                have HO_444000 := n0_
                have HO_444001 := n1_
                have BK441 := n2_
                have BK442 := n3_
                have BK443 := n4_
                have BK448 := n5_
                have HB := n6_
                clear n0_ n1_ n2_ n3_ n4_ n5_ n6_
                refine start_ (n := 15) (S := fun w' => w'.cell? ⟨gb443, 0, none⟩ = some (.slice Ao12 y444.length co12) ∧ w'.cell? ⟨gb443, 1, none⟩ = some (u444001) ∧ w'.cell? ⟨gb448, 0, none⟩ = some (.string ((rd_T84 l0_1 x15_1).f0)) ∧ w'.cell? ⟨gb448, 1, none⟩ = some (.slice A447_1 ((rd_T84 l0_1 x15_1).f1.f0).length c447_1) ∧ w'.cell? ⟨gb448, 2, none⟩ = some (.int .i64 ((rd_T84 l0_1 x15_1).f2.f0)) ∧ w'.cell? ⟨gb448, 3, none⟩ = some (.int .i64 ((rd_T84 l0_1 x15_1).f2.f1)) ∧ w'.cell? ⟨gb448, 4, none⟩ = some (.slice A447_4 ((rd_T84 l0_1 x15_1).f2.f2).length c447_4)) (ds := [14]) #[false, false, false, false, false, false, false, false, false, false, false, false, false, false, false] (by kernel_rfl) rfl rfl ⟨(blk_cell BK443.out 0).trans rfl, (blk_cell BK443.out 1).trans rfl, (blk_cell BK448.out 0).trans rfl, (blk_cell BK448.out 1).trans rfl, (blk_cell BK448.out 2).trans rfl, (blk_cell BK448.out 3).trans rfl, (blk_cell BK448.out 4).trans rfl⟩ (fun hHeld => ?_); refine with_tabW virgationref03_Copy.tab6 virgationref03_Copy.bits6 (fun HT_ HW_ => ?_)
                generalize w26.drew = w27 at HO_444000 HO_444001 BK441 BK442 BK443 BK448 HB hHeld ⊢
                refine pure_ (i := 0) (N := some 19) (v := ?_) (a' := ?_) #[true, false, false, false, false, false, false, false, false, false, false, false, false, false, false] rfl rfl (any_of HT_.out (by kernel_rfl)) (fun _ _ _ h => h) (Or.inl ⟨by rfl, ?_⟩) ?_ ?_
                rotate_left
                · intro w'
                  go_simp
                  with_reducible rfl
                rotate_left
                · simp only [Act.put, List.setIfInBounds_toArray, List.set_cons_zero, List.set_cons_succ, i64_w, i32_w]
                  rfl
                refine pure_ (i := 2) (N := some 21) (v := ?_) (a' := ?_) #[true, false, true, false, false, false, false, false, false, false, false, false, false, false, false] rfl rfl (any_of HT_.out (by kernel_rfl)) (fun _ _ _ h => h) (Or.inl ⟨by rfl, ?_⟩) ?_ ?_
                rotate_left
                · intro w'
                  go_simp
                  with_reducible rfl
                rotate_left
                · simp only [Act.put, List.setIfInBounds_toArray, List.set_cons_zero, List.set_cons_succ, i64_w, i32_w]
                  rfl
                refine pure_ (i := 4) (N := some 23) (v := ?_) (a' := ?_) #[true, false, true, false, true, false, false, false, false, false, false, false, false, false, false] rfl rfl (any_of HT_.out (by kernel_rfl)) (fun _ _ _ h => h) (Or.inl ⟨by rfl, ?_⟩) ?_ ?_
                rotate_left
                · intro w'
                  go_simp
                  with_reducible rfl
                rotate_left
                · simp only [Act.put, List.setIfInBounds_toArray, List.set_cons_zero, List.set_cons_succ, i64_w, i32_w]
                  rfl
                refine pure_ (i := 7) (N := some 26) (v := ?_) (a' := ?_) #[true, false, true, false, true, false, false, true, false, false, false, false, false, false, false] rfl rfl (any_of HT_.out (by kernel_rfl)) (fun _ _ _ h => h) (Or.inl ⟨by rfl, ?_⟩) ?_ ?_
                rotate_left
                · intro w'
                  go_simp
                  with_reducible rfl
                rotate_left
                · simp only [Act.put, List.setIfInBounds_toArray, List.set_cons_zero, List.set_cons_succ, i64_w, i32_w]
                  rfl
                refine take_ (i := 1) (N := some 20) (v := ?_) (a' := ?_) #[true, true, true, false, true, false, false, true, false, false, false, false, false, false, false] rfl rfl (take_ofW HT_.out HW_.out (by kernel_rfl)) (fun _ _ _ h => h) (Or.inl ⟨by rfl, ?_⟩) hHeld ?_ ?_
                rotate_left
                · rintro w' ⟨s0, s1, s2, s3, s4, s5, s6⟩
                  go_simp
                  with_reducible rfl
                rotate_left
                · simp only [Act.put, List.setIfInBounds_toArray, List.set_cons_zero, List.set_cons_succ, i64_w, i32_w]
                  rfl
                refine take_ (i := 3) (N := some 22) (v := ?_) (a' := ?_) #[true, true, true, true, true, false, false, true, false, false, false, false, false, false, false] rfl rfl (take_ofW HT_.out HW_.out (by kernel_rfl)) (fun _ _ _ h => h) (Or.inl ⟨by rfl, ?_⟩) hHeld ?_ ?_
                rotate_left
                · rintro w' ⟨s0, s1, s2, s3, s4, s5, s6⟩
                  go_simp
                  with_reducible rfl
                rotate_left
                · simp only [Act.put, List.setIfInBounds_toArray, List.set_cons_zero, List.set_cons_succ, i64_w, i32_w]
                  rfl
                refine take_ (i := 5) (N := some 24) (v := ?_) (a' := ?_) #[true, true, true, true, true, true, false, true, false, false, false, false, false, false, false] rfl rfl (take_ofW HT_.out HW_.out (by kernel_rfl)) (fun _ _ _ h => h) (Or.inl ⟨by rfl, ?_⟩) hHeld ?_ ?_
                rotate_left
                · rintro w' ⟨s0, s1, s2, s3, s4, s5, s6⟩
                  go_simp
                  with_reducible rfl
                rotate_left
                · simp only [Act.put, List.setIfInBounds_toArray, List.set_cons_zero, List.set_cons_succ, i64_w, i32_w]
                  rfl
                refine take_ (i := 8) (N := some 27) (v := ?_) (a' := ?_) #[true, true, true, true, true, true, false, true, true, false, false, false, false, false, false] rfl rfl (take_ofW HT_.out HW_.out (by kernel_rfl)) (fun _ _ _ h => h) (Or.inl ⟨by rfl, ?_⟩) hHeld ?_ ?_
                rotate_left
                · rintro w' ⟨s0, s1, s2, s3, s4, s5, s6⟩
                  go_simp
                  with_reducible rfl
                rotate_left
                · simp only [Act.put, List.setIfInBounds_toArray, List.set_cons_zero, List.set_cons_succ, i64_w, i32_w]
                  rfl
                refine one_ (i := 6) (N := some 25) #[true, true, true, true, true, true, true, true, true, false, false, false, false, false, false] rfl rfl (one_of HT_.out (by kernel_rfl)) (by decide) (fun K hK => ?_)
                refine goes_ Try.func47 (by kernel_rfl) rfl #[.agg #[.slice A447_1 ((rd_T84 l0_1 x15_1).f1.f0).length c447_1]] (by rfl) rfl rfl (by (try simp only [List.map_toArray, List.map_cons, List.map_nil]); first | done | rfl | (simp only [List.length_drop, List.length_take]; rfl)) ?_
                with_reducible refine (virgationref01_Copy.calls k1 _ _ ((rd_T84 l0_1 x15_1).f1.f0) t449 _ ?side1 ?side2 A18.out).mono ?_
                (case side1 => repeat (first | exact (Kd.C_below HR447_1.out HB.out) | (with_reducible refine Kd.C_alloc ?_ _) | (with_reducible refine Kd.C_drewN ?_ _) | (with_reducible refine Kd.C_drew ?_)))
                (case side2 => exact HC447_1.out)
                rintro e w28 ⟨v450, rfl, ho0, hb⟩
                refine ⟨_, rfl, ?_⟩
                have n0_ := Az.mk (Kd.R_below (by (with_reducible repeat (first | apply Kd.R_alloc | apply Kd.R_drewN | apply Kd.R_drew)); exact HO_444000.out) hb)
                have n1_ := Az.mk (Kd.R_elder' (by (with_reducible repeat (first | apply Kd.R_alloc | apply Kd.R_drewN | apply Kd.R_drew)); exact HO_444001.out) (Kd.R_base ho0) hb)
                have n2_ := Az.mk (Kd.R_lower ho0 (below_size (by repeat (first | (with_reducible first | exact HB.out | apply bal | apply pwN | apply bd1 | refine bset ?_ GE441.out | refine bset ?_ GE442.out | refine bset ?_ GE443.out | refine bset ?_ GE448.out) | exact HB.out))))
                have n3_ := Az.mk (bkB (g := gb441) (o := .cells #[.slice A0_0 l0_0.length c0_0, .slice (some ad447) l0_1.length c0_1] 25 (0, 0)) (by (with_reducible repeat (first | refine bdN ?_ _ | refine blk_drew ?_ | refine bkA ?_ _)); exact BK441.out) hb)
                have n4_ := Az.mk (bkB (g := gb442) (o := .cells #[.slice none 0 0, .slice none 0 0] 25 (0, 0)) (by (with_reducible repeat (first | refine bdN ?_ _ | refine blk_drew ?_ | refine bkA ?_ _)); exact BK442.out) hb)
                have n5_ := Az.mk (bkB (g := gb443) (o := .cells #[.slice Ao12 y444.length co12, u444001] 25 (0, 0)) (by (with_reducible repeat (first | refine bdN ?_ _ | refine blk_drew ?_ | refine bkA ?_ _)); exact BK443.out) hb)
                have n6_ := Az.mk (bkB (g := gb448) (o := .cells #[.string ((rd_T84 l0_1 x15_1).f0), .slice A447_1 ((rd_T84 l0_1 x15_1).f1.f0).length c447_1, .int .i64 ((rd_T84 l0_1 x15_1).f2.f0), .int .i64 ((rd_T84 l0_1 x15_1).f2.f1), .slice A447_4 ((rd_T84 l0_1 x15_1).f2.f2).length c447_4] 84 (0, 0)) (by (with_reducible repeat (first | refine bdN ?_ _ | refine blk_drew ?_ | refine bkA ?_ _)); exact BK448.out) hb)
                have n7_ := Az.mk (bst (by repeat (first | (with_reducible first | exact HB.out | apply bal | apply pwN | apply bd1 | refine bset ?_ GE441.out | refine bset ?_ GE442.out | refine bset ?_ GE443.out | refine bset ?_ GE448.out) | exact HB.out)) hb)
                clear HO_444000
                clear HO_444001
                clear BK441
                clear BK442
                clear BK443
                clear BK448
                clear HB
                have HO_444000 := n0_
                have HO_444001 := n1_
                have HO451 := n2_
                have BK441 := n3_
                have BK442 := n4_
                have BK443 := n5_
                have BK448 := n6_
                have HB := n7_
                clear n0_ n1_ n2_ n3_ n4_ n5_ n6_ n7_
                (try clear hb)
                (try clear hb2)
                (try clear hk)
                (try clear hi)
                (try clear ho0)
                refine hK.out _ _ ⟨(blk_cell BK443.out 0).trans rfl, (blk_cell BK443.out 1).trans rfl, (blk_cell BK448.out 0).trans rfl, (blk_cell BK448.out 1).trans rfl, (blk_cell BK448.out 2).trans rfl, (blk_cell BK448.out 3).trans rfl, (blk_cell BK448.out 4).trans rfl⟩ (fun hHeld => ?_)
                clear hK K
                refine norm_ (a' := ?_) ?_ ?_
                rotate_left
                · show Act.put _ (some 25) _ = _
                  simp only [Act.put, List.setIfInBounds_toArray, List.set_cons_zero, List.set_cons_succ, i64_w, i32_w]
                  rfl
                refine one_ (i := 9) (N := some 28) #[true, true, true, true, true, true, true, true, true, true, false, false, false, false, false] rfl rfl (one_of HT_.out (by kernel_rfl)) (by decide) (fun K hK => ?_)
                refine goes_ Try.func23 (by kernel_rfl) rfl #[.agg #[.int .i64 ((rd_T84 l0_1 x15_1).f2.f0), .int .i64 ((rd_T84 l0_1 x15_1).f2.f1), .slice A447_4 ((rd_T84 l0_1 x15_1).f2.f2).length c447_4]] (by rfl) rfl rfl (by (try simp only [List.map_toArray, List.map_cons, List.map_nil]); first | done | rfl | (simp only [List.length_drop, List.length_take]; rfl)) ?_
                with_reducible refine (virgationref02_Copy.calls ((rd_T84 l0_1 x15_1).f2.f0) ((rd_T84 l0_1 x15_1).f2.f1) _ _ ((rd_T84 l0_1 x15_1).f2.f2) t452 t453 t454 _ ?side1 ?side2 A19.out).mono ?_
                (case side1 => repeat (first | exact (Kd.C_below HR447_4.out HB.out) | (with_reducible refine Kd.C_alloc ?_ _) | (with_reducible refine Kd.C_drewN ?_ _) | (with_reducible refine Kd.C_drew ?_)))
                (case side2 => exact HC447_4.out)
                rintro e w29 ⟨v455, rfl, ho0, hb⟩
                refine ⟨_, rfl, ?_⟩
                have n0_ := Az.mk (Kd.R_below (by (with_reducible repeat (first | apply Kd.R_alloc | apply Kd.R_drewN | apply Kd.R_drew)); exact HO_444000.out) hb)
                have n1_ := Az.mk (Kd.R_elder' (by (with_reducible repeat (first | apply Kd.R_alloc | apply Kd.R_drewN | apply Kd.R_drew)); exact HO_444001.out) (Kd.R_base ho0) hb)
                have n2_ := Az.mk (Kd.R_below (by (with_reducible repeat (first | apply Kd.R_alloc | apply Kd.R_drewN | apply Kd.R_drew)); exact HO451.out) hb)
                have n3_ := Az.mk (Kd.R_lower ho0 (below_size (by repeat (first | (with_reducible first | exact HB.out | apply bal | apply pwN | apply bd1 | refine bset ?_ GE441.out | refine bset ?_ GE442.out | refine bset ?_ GE443.out | refine bset ?_ GE448.out) | exact HB.out))))
                have n4_ := Az.mk (bkB (g := gb441) (o := .cells #[.slice A0_0 l0_0.length c0_0, .slice (some ad447) l0_1.length c0_1] 25 (0, 0)) (by (with_reducible repeat (first | refine bdN ?_ _ | refine blk_drew ?_ | refine bkA ?_ _)); exact BK441.out) hb)
                have n5_ := Az.mk (bkB (g := gb442) (o := .cells #[.slice none 0 0, .slice none 0 0] 25 (0, 0)) (by (with_reducible repeat (first | refine bdN ?_ _ | refine blk_drew ?_ | refine bkA ?_ _)); exact BK442.out) hb)
                have n6_ := Az.mk (bkB (g := gb443) (o := .cells #[.slice Ao12 y444.length co12, u444001] 25 (0, 0)) (by (with_reducible repeat (first | refine bdN ?_ _ | refine blk_drew ?_ | refine bkA ?_ _)); exact BK443.out) hb)
                have n7_ := Az.mk (bkB (g := gb448) (o := .cells #[.string ((rd_T84 l0_1 x15_1).f0), .slice A447_1 ((rd_T84 l0_1 x15_1).f1.f0).length c447_1, .int .i64 ((rd_T84 l0_1 x15_1).f2.f0), .int .i64 ((rd_T84 l0_1 x15_1).f2.f1), .slice A447_4 ((rd_T84 l0_1 x15_1).f2.f2).length c447_4] 84 (0, 0)) (by (with_reducible repeat (first | refine bdN ?_ _ | refine blk_drew ?_ | refine bkA ?_ _)); exact BK448.out) hb)
                have n8_ := Az.mk (bst (by repeat (first | (with_reducible first | exact HB.out | apply bal | apply pwN | apply bd1 | refine bset ?_ GE441.out | refine bset ?_ GE442.out | refine bset ?_ GE443.out | refine bset ?_ GE448.out) | exact HB.out)) hb)
                clear HO_444000
                clear HO_444001
                clear HO451
                clear BK441
                clear BK442
                clear BK443
                clear BK448
                clear HB
                have HO_444000 := n0_
                have HO_444001 := n1_
                have HO451 := n2_
                have HO456 := n3_
                have BK441 := n4_
                have BK442 := n5_
                have BK443 := n6_
                have BK448 := n7_
                have HB := n8_
                clear n0_ n1_ n2_ n3_ n4_ n5_ n6_ n7_ n8_
                (try clear hb)
                (try clear hb2)
                (try clear hk)
                (try clear hi)
                (try clear ho0)
                obtain ⟨Ao30, co30, eo30⟩ := Kd.R_slice HO456.out
                (first | subst eo30 | (injection eo30 with f1_ f2_ f3_; have f4_ := f1_.symm; have f5_ := f3_.symm; clear f1_ f2_ f3_; subst f4_; subst f5_))
                obtain ⟨Ao31, co31, eo31⟩ := Kd.R_slice HO451.out
                (first | subst eo31 | (injection eo31 with f1_ f2_ f3_; have f4_ := f1_.symm; have f5_ := f3_.symm; clear f1_ f2_ f3_; subst f4_; subst f5_))
                refine hK.out _ _ ⟨(blk_cell BK443.out 0).trans rfl, (blk_cell BK443.out 1).trans rfl, (blk_cell BK448.out 0).trans rfl, (blk_cell BK448.out 1).trans rfl, (blk_cell BK448.out 2).trans rfl, (blk_cell BK448.out 3).trans rfl, (blk_cell BK448.out 4).trans rfl⟩ (fun hHeld => ?_)
                clear hK K
                refine norm_ (a' := ?_) ?_ ?_
                rotate_left
                · show Act.put _ (some 28) _ = _
                  simp only [Act.put, List.setIfInBounds_toArray, List.set_cons_zero, List.set_cons_succ, i64_w, i32_w]
                  rfl
                refine pure_ (i := 10) (N := some 29) (v := ?_) (a' := ?_) #[true, true, true, true, true, true, true, true, true, true, true, false, false, false, false] rfl rfl (any_of HT_.out (by kernel_rfl)) (fun _ _ _ h => h) (Or.inl ⟨by rfl, ?_⟩) ?_ ?_
                rotate_left
                · intro w'
                  go_simp
                  with_reducible rfl
                rotate_left
                · simp only [Act.put, List.setIfInBounds_toArray, List.set_cons_zero, List.set_cons_succ, i64_w, i32_w]
                  rfl
                refine one_ (i := 11) (N := some 30) #[true, true, true, true, true, true, true, true, true, true, true, true, false, false, false] rfl rfl (one_of HT_.out (by kernel_rfl)) (by decide) (fun K hK => ?_)
                refine value_ (w1 := ?_) (v := ?_) (by rfl) rfl ?_ ?_
                rotate_left 2
                · go_simp
                  constructor
                  · rfl
                  · rfl
                refine hK.out _ _ ⟨(blk_cell (bkA BK443.out _) 0).trans rfl, (blk_cell (bkA BK443.out _) 1).trans rfl, (blk_cell (bkA BK448.out _) 0).trans rfl, (blk_cell (bkA BK448.out _) 1).trans rfl, (blk_cell (bkA BK448.out _) 2).trans rfl, (blk_cell (bkA BK448.out _) 3).trans rfl, (blk_cell (bkA BK448.out _) 4).trans rfl⟩ (fun hHeld => ?_)
                clear hK K
                refine norm_ (a' := ?_) ?_ ?_
                rotate_left
                · show Act.put _ (some 30) _ = _
                  simp only [Act.put, List.setIfInBounds_toArray, List.set_cons_zero, List.set_cons_succ, i64_w, i32_w]
                  rfl
                refine one_ (i := 12) (N := some 31) #[true, true, true, true, true, true, true, true, true, true, true, true, true, false, false] rfl rfl (one_of HT_.out (by kernel_rfl)) (by decide) (fun K hK => ?_)
                refine Kd.R_append_step k84 (w0 := w) w.heap.size (by rfl) (.tmp 20) (.tmp 30) 23 84 (.agg #[(.string ⟨#[]⟩), (.slice none 0 0), (.int .i64 0), (.int .i64 0), (.slice none 0 0)]) 80 rfl Try.underlying23 info84 rfl (by decide) (by omega) u444001 x444001_1 (⟨(rd_T84 l0_1 x15_1).f0, (⟨t449⟩ : S53), (⟨t452, t453, t454⟩ : S28)⟩ : S84) [.string ((rd_T84 l0_1 x15_1).f0), .slice Ao31 t449.length co31, .int .i64 t452, .int .i64 t453, .slice Ao30 t454.length co30] (fun k_ => k_ ≠ gb448) (fun k_ => ((fun k_ => k_ ≠ gb448)) k_ ∧ some k_ ≠ (u444001 : Value).ownBlock) rfl rfl ?aP (fun _ hk => hk) ?aF ?aO ?aB ?aS ?aL ?_
                (case aP => exact k84_mkM _ _ _ (⟨(rd_T84 l0_1 x15_1).f0, (⟨t449⟩ : S53), (⟨t452, t453, t454⟩ : S28)⟩ : S84) (Kd.R_mono (Kd.R_types (Kd.R_apart' (HO451.out) (Kd.R_typed HO_444001.out) (by decide)) BK448.out (by decide)) (fun k_ hk => ⟨hk.2, hk.1.2⟩)) (Kd.R_mono (Kd.R_types (Kd.R_apart' (HO456.out) (Kd.R_typed HO_444001.out) (by decide)) BK448.out (by decide)) (fun k_ hk => ⟨hk.2, hk.1.2⟩)))
                (case aB => exact (by repeat (first | (with_reducible first | exact HB.out | apply bal | apply pwN | apply bd1 | refine bset ?_ GE441.out | refine bset ?_ GE442.out | refine bset ?_ GE443.out | refine bset ?_ GE448.out) | exact HB.out)))
                (case aF => exact (fun k_ hk => Kd.freshB (g := gb448) (o := .cells #[.string ((rd_T84 l0_1 x15_1).f0), .slice A447_1 ((rd_T84 l0_1 x15_1).f1.f0).length c447_1, .int .i64 ((rd_T84 l0_1 x15_1).f2.f0), .int .i64 ((rd_T84 l0_1 x15_1).f2.f1), .slice A447_4 ((rd_T84 l0_1 x15_1).f2.f2).length c447_4] 84 (0, 0)) (by (with_reducible repeat (first | refine bdN ?_ _ | refine blk_drew ?_ | refine bkA ?_ _)); exact BK448.out) k_ hk))
                (case aO => exact (by (with_reducible repeat (first | apply Kd.R_alloc | apply Kd.R_drewN | apply Kd.R_drew)); exact Kd.R_mono HO_444001.out (fun _ hk => hk.1.1)))
                (case aS => exact (below_size (by repeat (first | (with_reducible first | exact HB.out | apply bal | apply pwN | apply bd1 | refine bset ?_ GE441.out | refine bset ?_ GE442.out | refine bset ?_ GE443.out | refine bset ?_ GE448.out) | exact HB.out))))
                (case aL => have := LMc20.out; omega)
                intro v458 w32 ho hb hg hat
                rw [← Ny457.out] at ho
                have n0_ := Az.mk (Kd.R_over' (by (with_reducible repeat (first | apply Kd.R_alloc | apply Kd.R_drewN | apply Kd.R_drew)); exact HO_444000.out) (Kd.R_typed (by (with_reducible repeat (first | apply Kd.R_alloc | apply Kd.R_drewN | apply Kd.R_drew)); exact HO_444001.out)) (by decide) hg)
                have n1_ := Az.mk (blk_grown (g := gb441) (o := .cells #[.slice A0_0 l0_0.length c0_0, .slice (some ad447) l0_1.length c0_1] 25 (0, 0)) (by (with_reducible repeat (first | refine bdN ?_ _ | refine blk_drew ?_ | refine bkA ?_ _)); exact BK441.out) hg (Kd.R_ne HO_444001.out BK441.out (by decide)))
                have n2_ := Az.mk (blk_grown (g := gb442) (o := .cells #[.slice none 0 0, .slice none 0 0] 25 (0, 0)) (by (with_reducible repeat (first | refine bdN ?_ _ | refine blk_drew ?_ | refine bkA ?_ _)); exact BK442.out) hg (Kd.R_ne HO_444001.out BK442.out (by decide)))
                have n3_ := Az.mk (blk_grown (g := gb443) (o := .cells #[.slice Ao12 y444.length co12, u444001] 25 (0, 0)) (by (with_reducible repeat (first | refine bdN ?_ _ | refine blk_drew ?_ | refine bkA ?_ _)); exact BK443.out) hg (Kd.R_ne HO_444001.out BK443.out (by decide)))
                have n4_ := Az.mk (blk_grown (g := gb448) (o := .cells #[.string ((rd_T84 l0_1 x15_1).f0), .slice A447_1 ((rd_T84 l0_1 x15_1).f1.f0).length c447_1, .int .i64 ((rd_T84 l0_1 x15_1).f2.f0), .int .i64 ((rd_T84 l0_1 x15_1).f2.f1), .slice A447_4 ((rd_T84 l0_1 x15_1).f2.f2).length c447_4] 84 (0, 0)) (by (with_reducible repeat (first | refine bdN ?_ _ | refine blk_drew ?_ | refine bkA ?_ _)); exact BK448.out) hg (Kd.R_away HO_444001.out (fun _ hk => hk.1.1)))
                have n5_ := Az.mk (hb)
                have n6_ := Az.mk (ho)
                clear HO_444000
                clear BK441
                clear BK442
                clear BK443
                clear BK448
                clear HB
                clear HO_444001
                clear HO451
                clear HO456
                have HO_444000 := n0_
                have BK441 := n1_
                have BK442 := n2_
                have BK443 := n3_
                have BK448 := n4_
                have HB := n5_
                have HO459 := n6_
                clear n0_ n1_ n2_ n3_ n4_ n5_ n6_
                clear ho hb hg hat
                obtain ⟨Ao33, co33, eo33⟩ := Kd.R_slice HO459.out
                (first | subst eo33 | (injection eo33 with f1_ f2_ f3_; have f4_ := f1_.symm; have f5_ := f3_.symm; clear f1_ f2_ f3_; subst f4_; subst f5_))
                refine hK.out _ _ ⟨(blk_cell BK443.out 0).trans rfl, (blk_cell BK443.out 1).trans rfl, (blk_cell BK448.out 0).trans rfl, (blk_cell BK448.out 1).trans rfl, (blk_cell BK448.out 2).trans rfl, (blk_cell BK448.out 3).trans rfl, (blk_cell BK448.out 4).trans rfl⟩ (fun hHeld => ?_)
                clear hK K
                refine norm_ (a' := ?_) ?_ ?_
                rotate_left
                · show Act.put _ (some 31) _ = _
                  simp only [Act.put, List.setIfInBounds_toArray, List.set_cons_zero, List.set_cons_succ, i64_w, i32_w]
                  rfl
                refine pure_ (i := 13) (N := some 32) (v := ?_) (a' := ?_) #[true, true, true, true, true, true, true, true, true, true, true, true, true, true, false] rfl rfl (any_of HT_.out (by kernel_rfl)) (fun _ _ _ h => h) (Or.inl ⟨by rfl, ?_⟩) ?_ ?_
                rotate_left
                · intro w'
                  go_simp
                  with_reducible rfl
                rotate_left
                · simp only [Act.put, List.setIfInBounds_toArray, List.set_cons_zero, List.set_cons_succ, i64_w, i32_w]
                  rfl
                refine last_ (i := 14) (N := none) #[true, true, true, true, true, true, true, true, true, true, true, true, true, true, true] rfl rfl (one_of HT_.out (by kernel_rfl)) (by decide) (fun K hK => ?_)
                have hs34 : w32.cell? ⟨gb443, 1, none⟩ = some (u444001) := (blk_cell BK443.out 1).trans rfl
                have hfs34 := bkF BK443.out 1
                have hns34_0 := NB441_443.out
                have hns34_1 := NB442_443.out
                have hns34_3 := NB448_443.out
                have hms34_0 := NB443_441.out
                have hms34_1 := NB443_442.out
                have hms34_3 := NB443_448.out
                refine skip_ (w1 := ?_) (by rfl) rfl ?_ ?_
                rotate_left
                · go_simp
                  rfl
                refine hK.out _ _ ?_
                clear hK K
                refine done_ (done_of HT_.out (by kernel_rfl)) ?_
                try go_wp2
                go_roundg k1
                case measure => have := HK1.out; omega
                case rel => exact ⟨(wrap64 (x15_1 + 1)), (y457), (.slice Ao33 y457.length co33), (by first | rfl | (simp; done) | (simp [*]; done)), H', ⟨by have := HK1.out; omega⟩, ⟨by (with_reducible repeat (first | apply Kd.R_alloc | apply Kd.R_drewN | apply Kd.R_drew)); exact Kd.R_mono (Kd.R_far (p := ⟨gb443, 1, none⟩) (Kd.R_types HO_444000.out BK443.out (by decide)) (fun _ hk => hk.2) (.slice Ao33 y457.length co33)) (fun _ hk => trivial)⟩, ⟨by (with_reducible repeat (first | apply Kd.R_alloc | apply Kd.R_drewN | apply Kd.R_drew)); exact Kd.R_mono (Kd.R_far (p := ⟨gb443, 1, none⟩) (Kd.R_types HO459.out BK443.out (by decide)) (fun _ hk => hk.2) (.slice Ao33 y457.length co33)) (fun _ hk => trivial)⟩, ⟨by (with_reducible repeat (first | refine bdN ?_ _ | refine blk_drew ?_ | refine bkA ?_ _)); refine blk_far ?_ NB441_443.out _; (with_reducible repeat (first | refine bdN ?_ _ | refine blk_drew ?_ | refine bkA ?_ _)); exact BK441.out⟩, ⟨by (with_reducible repeat (first | refine bdN ?_ _ | refine blk_drew ?_ | refine bkA ?_ _)); refine blk_far ?_ NB442_443.out _; (with_reducible repeat (first | refine bdN ?_ _ | refine blk_drew ?_ | refine bkA ?_ _)); exact BK442.out⟩, ⟨by (with_reducible repeat (first | refine bdN ?_ _ | refine blk_drew ?_ | refine bkA ?_ _)); refine blk_put (cs := #[.slice Ao12 y444.length co12, u444001]) ?_ 1 _ rfl; (with_reducible repeat (first | refine bdN ?_ _ | refine blk_drew ?_ | refine bkA ?_ _)); exact BK443.out⟩, ⟨by repeat (first | (with_reducible first | exact HB.out | apply bal | apply pwN | apply bd1 | refine bset ?_ GE441.out | refine bset ?_ GE442.out | refine bset ?_ GE443.out | refine bset ?_ GE448.out) | exact HB.out)⟩⟩
              · rw [if_neg c20] at H
                exact absurd H (by simp)
            · rw [if_neg c17] at H
              exact absurd H (by simp)
          · rw [if_neg c16] at H
            exact absurd H (by simp)
        · rw [if_neg c15] at H
          have c15b0 : decide (x15_1 < (l0_1.length : Int)) = false := decide_eq_false c15
          clear c15
          simp only [Option.some.injEq, Prod.mk.injEq] at H
          obtain ⟨rfl, rfl⟩ := H
          have hnb35 := NB443_441.out
          have hnc35 := NB441_443.out
          have hnb36 := NB443_442.out
          have hnc36 := NB442_443.out
          have hcz37_0 : wr.cell? ⟨gb443, 0, none⟩ = some (.slice Ao12 y444.length co12) := (blk_cell BK443.out 0).trans rfl
          have hcz37_1 : wr.cell? ⟨gb443, 1, none⟩ = some (u444001) := (blk_cell BK443.out 1).trans rfl
          have hfz37_0 := bkF BK443.out 0
          have hfz37_1 := bkF BK443.out 1
          have hnb38 := NB442_441.out
          have hnc38 := NB441_442.out
          have hcz39_0 : wr.cell? ⟨gb442, 0, none⟩ = some (.slice none 0 0) := (blk_cell BK442.out 0).trans rfl
          have hcz39_1 : wr.cell? ⟨gb442, 1, none⟩ = some (.slice none 0 0) := (blk_cell BK442.out 1).trans rfl
          have hfz39_0 := bkF BK442.out 0
          have hfz39_1 := bkF BK442.out 1
          obtain ⟨Ao40, co40, eo40⟩ := Kd.R_slice HO_444001.out
          subst eo40
          go_wp2
          refine bodyPost_ret (results_cell_row rfl _ _ gb442 25 #[.slice Ao12 y444.length co12, .slice Ao40 x444001_1.length co40] (0, 0) _ rfl (by (with_reducible repeat (first | refine bdN ?_ _ | refine blk_drew ?_ | refine bkA ?_ _)); refine blk_put (cs := #[.slice Ao12 y444.length co12, .slice none 0 0]) ?_ 1 _ rfl; (with_reducible repeat (first | refine bdN ?_ _ | refine blk_drew ?_ | refine bkA ?_ _)); refine blk_put (cs := #[.slice none 0 0, .slice none 0 0]) ?_ 0 _ rfl; (with_reducible repeat (first | refine bdN ?_ _ | refine blk_drew ?_ | refine bkA ?_ _)); exact BK442.out) Try.underlying25 rfl (by kernel_rfl)) rfl ?_
          exact ⟨_, _, by first | rfl | (simp [errW_none, errW_some] <;> rfl) | (simp [*, errW_none, errW_some] <;> rfl), by (with_reducible repeat (first | apply Kd.R_alloc | apply Kd.R_drewN | apply Kd.R_drew)); exact Kd.R_mono (Kd.R_far (p := ⟨gb442, 1, none⟩) (Kd.R_far (p := ⟨gb442, 0, none⟩) (Kd.R_types HO_444000.out BK442.out (by decide)) (fun _ hk => hk.2) (.slice Ao12 y444.length co12)) (fun _ hk => hk.2) (.slice Ao40 x444001_1.length co40)) (fun _ hk => trivial), by (with_reducible repeat (first | apply Kd.R_alloc | apply Kd.R_drewN | apply Kd.R_drew)); exact Kd.R_mono (Kd.R_far (p := ⟨gb442, 1, none⟩) (Kd.R_far (p := ⟨gb442, 0, none⟩) (Kd.R_types HO_444001.out BK442.out (by decide)) (fun _ hk => hk.2) (.slice Ao12 y444.length co12)) (fun _ hk => hk.2) (.slice Ao40 x444001_1.length co40)) (fun _ hk => trivial), by repeat (first | (with_reducible first | exact HB.out | apply bal | apply pwN | apply bd1 | refine bset ?_ GE441.out | refine bset ?_ GE442.out | refine bset ?_ GE443.out) | exact HB.out)⟩
  · rw [if_neg c2] at H
    exact absurd H (by simp)
end Go.Proofs.Ytnfgpepggehegaa.I
namespace Go.Proofs.Ytnfgpepggehegaa.I
open Go.RowKit Go.Proofs.YtnfgpepggehegaaW.PrintWords Go.Proofs.YtnfgpepggehegaaW.PrintLast Go.Proofs.YtnfgpepggehegaaW.PrintMore
attribute [local go_sem] max2_int min2_int max_two min_two max_three min_three max_four min_four
set_option linter.unusedVariables false
set_option maxRecDepth 100000
set_option linter.unusedSimpArgs false
theorem refcopy_ev (N : Nat) : ∀ (l : List S53), SizeOf.sizeOf l < N → cntL l ≤ 1000 → Ev (fun k => virgationref01_Copy.f k l) l := by
  induction N with
  | zero => intro l h; omega
  | succ N ih =>
  intro l hN h1
  have hlen := cntL_ge l
  have loop : ∀ (n i : Nat) (x3 : List S53), l.length - i = n → i ≤ l.length → x3.length = i → Ev (fun k => virgationref01_Copy.l0 k l (l.length : Int) (i : Int) x3) (x3 ++ l.drop i) := by
    intro n
    induction n with
    | zero =>
      intro i x3 hn hi h2
      have hd : l.drop i = [] := List.drop_eq_nil_of_le (by omega)
      rw [hd, List.append_nil]
      exact Ev.step (fun k => by rw [virgationref01_Copy.l0, if_neg (by omega)]) (Ev.now _)
    | succ n ihn =>
      intro i x3 hn hi h2
      have hil : i < l.length := by omega
      have hch := cnt_child l i hil
      refine Ev.step (fun k => by rw [virgationref01_Copy.l0, if_pos (by omega), if_pos (by omega), if_pos (by omega)]) ?_
      refine Ev.bind (a := (rd_T53 l (i : Int)).f0) ?_ ?_
      · exact ih _ (by have := rd_T53_mem l i hil; omega) (by omega)
      · refine Ev.ifp (by omega) ?_
        rw [w64 _ (by omega), rd_T53_drop l i hil, show (⟨(rd_T53 l (i : Int)).f0⟩ : S53) = rd_T53 l (i : Int) from by cases rd_T53 l (i : Int); rfl]
        have := ihn (i + 1) (x3 ++ [rd_T53 l (i : Int)]) (by omega) (by omega) (by rw [List.length_append, h2]; rfl)
        rw [List.append_assoc, show ((i + 1 : Nat) : Int) = (i : Int) + 1 from rfl] at this
        exact this
  refine Ev.step (fun k => by rw [virgationref01_Copy.f]) ?_
  have := loop l.length 0 [] (by omega) (by omega) rfl
  rw [List.drop_zero] at this
  exact this
theorem sch_sorts {l0 : List S87} {l1 : List S84} (hs : schB l0 l1 = true) : ∀ x ∈ l1, cntL x.f1.f0 ≤ 1000 := fun x hx => by
  unfold schB at hs
  simp only [Bool.and_eq_true] at hs
  have := funsL_all l1 [] hs.2.2.1 x hx
  unfold funOk at this
  simp only [Bool.and_eq_true] at this
  have := isok_cnt this.2.1
  omega
theorem rd_T84_mem2 (l : List S84) (i : Nat) (h : i < l.length) : rd_T84 l (i : Int) ∈ l := by
  unfold rd_T84
  rw [Int.toNat_natCast, List.getD_eq_getElem?_getD, List.getElem?_eq_getElem h]
  exact List.getElem_mem h
theorem sch_syms {l0 : List S87} {l1 : List S84} (hs : schB l0 l1 = true) : l0.length ≤ 64 := by
  unfold schB at hs
  simp only [Bool.and_eq_true, decide_eq_true_eq] at hs
  have := hs.1.2
  omega
theorem scopy_ev (l0 : List S87) (l1 : List S84) (h0 : l0.length ≤ 64) (h1 : l1.length ≤ 64) (hs : ∀ x ∈ l1, cntL x.f1.f0 ≤ 1000 ∧ tcntL x.f2.f2 ≤ 1000000) : Ev (fun k => virgationref03_Copy.f k l0 l1) (l0, l1) := by
  have loop : ∀ (n i : Nat) (x3 : List S84), l1.length - i = n → i ≤ l1.length → x3.length = i → Ev (fun k => virgationref03_Copy.l0 k l1 (l1.length : Int) (i : Int) l0 x3) (l0, x3 ++ l1.drop i) := by
    intro n
    induction n with
    | zero =>
      intro i x3 hn hi h2
      have hd : l1.drop i = [] := List.drop_eq_nil_of_le (by omega)
      rw [hd, List.append_nil]
      exact Ev.step (fun k => by rw [virgationref03_Copy.l0, if_neg (by omega)]) (Ev.now _)
    | succ n ihn =>
      intro i x3 hn hi h2
      have hil : i < l1.length := by omega
      have hm := hs _ (rd_T84_mem2 l1 i hil)
      refine Ev.step (fun k => by rw [virgationref03_Copy.l0, if_pos (by omega), if_pos (by omega), if_pos (by omega)]) ?_
      refine Ev.bind (a := (rd_T84 l1 (i : Int)).f1.f0) (refcopy_ev _ _ (Nat.lt_succ_self _) hm.1) ?_
      rw [show virgationref02_Copy.f (rd_T84 l1 (i : Int)).f2.f0 (rd_T84 l1 (i : Int)).f2.f1 (rd_T84 l1 (i : Int)).f2.f2 = some ((rd_T84 l1 (i : Int)).f2.f0, (rd_T84 l1 (i : Int)).f2.f1, (rd_T84 l1 (i : Int)).f2.f2) from if_pos hm.2]
      refine Ev.ifp (by omega) ?_
      rw [w64 _ (by omega), rd_T84_drop l1 i hil, show (⟨(rd_T84 l1 (i : Int)).f0, (⟨(rd_T84 l1 (i : Int)).f1.f0⟩ : S53), (⟨(rd_T84 l1 (i : Int)).f2.f0, (rd_T84 l1 (i : Int)).f2.f1, (rd_T84 l1 (i : Int)).f2.f2⟩ : S28)⟩ : S84) = rd_T84 l1 (i : Int) from by
        cases rd_T84 l1 (i : Int) with
        | mk a b c => cases b; cases c; rfl]
      have := ihn (i + 1) (x3 ++ [rd_T84 l1 (i : Int)]) (by omega) (by omega) (by rw [List.length_append, h2]; rfl)
      rw [List.append_assoc, show ((i + 1 : Nat) : Int) = (i : Int) + 1 from rfl] at this
      exact this
  refine Ev.congr (f := fun k => virgationref03_Copy.l0 k l1 (l1.length : Int) 0 l0 []) (fun k => by unfold virgationref03_Copy.f; rw [if_pos (by simp; omega)]; rfl) ?_
  have := loop l1.length 0 [] (by omega) (by omega) rfl
  rw [List.drop_zero] at this
  exact this
theorem scopy_at {w : World} {A0 : Option Addr} {c0 : Nat} {l0 : List S87} {A1 : Option Addr} {c1 : Nat} {l1 : List S84} (hs : Sch w A0 c0 l0 A1 c1 l1) (hb : schB l0 l1 = true) :
    Calls Try.prog 22 #[.agg #[.slice A0 l0.length c0, .slice A1 l1.length c1]] w fun e w' => ∃ B0 d0 B1 d1, e = .returned (.agg #[.slice B0 l0.length d0, .slice B1 l1.length d1]) ∧ Sch w' B0 d0 l0 B1 d1 l1 ∧ Below w.heap.size w w' := by
  obtain ⟨k, hk⟩ := (scopy_ev l0 l1 (sch_syms hb) (sch_parts hb).2.2 (fun x hx => ⟨sch_sorts hb x hx, by have := (sch_bodies hb).2 x hx; have := tcnt_f2 x.f2; omega⟩)).rounds
  refine (virgationref03_Copy.calls k A0 c0 l0 A1 c1 l1 l0 l1 w hs.r0 hs.h0 hs.r1 hs.h1 hk).mono ?_
  rintro e w' ⟨v0, v1, rfl, h0, h1, hb⟩
  obtain ⟨B0, d0, rfl⟩ := Kd.R_slice h0
  obtain ⟨B1, d1, rfl⟩ := Kd.R_slice h1
  have q0 := Kd.V_reads' (Kd.R_V (base' := 0) h0)
  have q1 := Kd.V_reads' (Kd.R_V (base' := 0) h1)
  exact ⟨B0, d0, B1, d1, rfl, ⟨q0.2.2, q0.2.1, q1.2.2, q1.2.1⟩, hb⟩
theorem tcopy_at {w : World} {ok : Nat → Prop} {x : S28} {A : Option Addr} {c : Nat} (ht : Tm w ok x A c) (hx : tcnt x ≤ 100000) :
    Calls Try.prog 23 #[.agg #[.int .i64 x.f0, .int .i64 x.f1, .slice A x.f2.length c]] w fun e w' => ∃ B d, e = .returned (.agg #[.int .i64 x.f0, .int .i64 x.f1, .slice B x.f2.length d]) ∧ Tm w' (fun k => k < w'.heap.size) x B d ∧ Below w.heap.size w w' := by
  refine (tcopy_calls _ x.f0 x.f1 x.f2 A c w (Nat.lt_succ_self _) (by have := tcnt_f2 x; omega) ht.c ht.le).mono ?_
  rintro e w' ⟨v, rfl, h, hb⟩
  obtain ⟨B, d, rfl⟩ := Kd.R_slice h
  have q := Kd.V_reads' (Kd.R_V (base' := 0) h)
  exact ⟨B, d, rfl, Tm.of q.2.2 q.2.1, hb⟩
theorem tequal_at {w : World} {ok ok' : Nat → Prop} {x : S28} {A A' : Option Addr} {c c' : Nat} (ht : Tm w ok x A c) (ht' : Tm w ok' x A' c') :
    Calls Try.prog 26 #[.agg #[.int .i64 x.f0, .int .i64 x.f1, .slice A x.f2.length c], .agg #[.int .i64 x.f0, .int .i64 x.f1, .slice A' x.f2.length c']] w fun e w' => e = .returned (.bool true) ∧ Below w.heap.size w w' :=
  tequal_calls _ x.f0 x.f1 x.f2 A A' c c' w (Nat.lt_succ_self _) ht.c ht.le ht'.c ht'.le
theorem sequal_at {w : World} {A0 : Option Addr} {c0 : Nat} {l0 : List S87} {A1 : Option Addr} {c1 : Nat} {l1 : List S84} {B0 : Option Addr} {d0 : Nat} {B1 : Option Addr} {d1 : Nat} (hs : Sch w A0 c0 l0 A1 c1 l1) (hs' : Sch w B0 d0 l0 B1 d1 l1) (hb : schB l0 l1 = true) :
    Calls Try.prog 25 #[.agg #[.slice A0 l0.length c0, .slice A1 l1.length c1], .agg #[.slice B0 l0.length d0, .slice B1 l1.length d1]] w fun e w' => e = .returned (.bool true) ∧ Below w.heap.size w w' :=
  equal_calls A0 c0 l0 A1 c1 l1 B0 d0 B1 d1 w hs.r0 hs.r1 hs'.r0 hs'.r1 (sch_sorts hb)
theorem step_ts {w : World} {A0 : Option Addr} {c0 : Nat} {l0 : List S87} {A1 : Option Addr} {c1 : Nat} {l1 : List S84} {ok : Nat → Prop} {x : S28} {A : Option Addr} {c : Nat} (hs : Sch w A0 c0 l0 A1 c1 l1) (ht : Tm w ok x A c) (y : S28) (m : Bool) (z : Int) (hz : stepF l0 l1 x = (y, m, z)) :
    Calls Try.prog 14 #[.agg #[.slice A0 l0.length c0, .slice A1 l1.length c1], .agg #[.int .i64 x.f0, .int .i64 x.f1, .slice A x.f2.length c]] w fun e w' => ∃ Av cv, e = .returned (.tuple #[.agg #[.int .i64 y.f0, .int .i64 y.f1, .slice Av y.f2.length cv], .bool m, .int .i64 z]) ∧ TS w' w.heap.size (SizeOf.sizeOf y.f2 + 1) y.f2 (.slice Av y.f2.length cv) ∧ Below w.heap.size w w' := by
  have h := step_calls A0 c0 l0 A1 c1 l1 x A c w hs.r0 hs.h0 hs.r1 hs.h1 ht.c ht.le
  rw [hz] at h
  refine h.mono ?_
  rintro e w' ⟨v, rfl, hR, hb⟩
  obtain ⟨Av, cv, rfl⟩ := Kd.R_slice hR
  exact ⟨Av, cv, rfl, TS_of _ (Nat.lt_succ_self _) hR, hb⟩
theorem run_ts {w : World} {A0 : Option Addr} {c0 : Nat} {l0 : List S87} {A1 : Option Addr} {c1 : Nat} {l1 : List S84} {ok : Nat → Prop} {x : S28} {A : Option Addr} {c : Nat} (hs : Sch w A0 c0 l0 A1 c1 l1) (ht : Tm w ok x A c) (fuel : Int) (y : S28) (m : Int) (z : Int) (hz : runF l0 l1 x fuel = (y, m, z)) :
    Calls Try.prog 17 #[.agg #[.slice A0 l0.length c0, .slice A1 l1.length c1], .agg #[.int .i64 x.f0, .int .i64 x.f1, .slice A x.f2.length c], .int .i64 fuel] w fun e w' => ∃ Av cv, e = .returned (.tuple #[.agg #[.int .i64 y.f0, .int .i64 y.f1, .slice Av y.f2.length cv], .int .i64 m, .int .i64 z]) ∧ TS w' w.heap.size (SizeOf.sizeOf y.f2 + 1) y.f2 (.slice Av y.f2.length cv) ∧ Below w.heap.size w w' := by
  have h := run_calls A0 c0 l0 A1 c1 l1 x A c fuel w hs.r0 hs.h0 hs.r1 hs.h1 ht.c ht.le
  rw [hz] at h
  refine h.mono ?_
  rintro e w' ⟨v, rfl, hR, hb⟩
  obtain ⟨Av, cv, rfl⟩ := Kd.R_slice hR
  exact ⟨Av, cv, rfl, TS_of _ (Nat.lt_succ_self _) hR, hb⟩
theorem IntSt.of_below {B : Nat} {w w' : World} (h : Below w.heap.size w w') : IntSt B w w' := ⟨h.os, h.tape, h.output, h.size, fun k hk => .inl (h.block k hk)⟩
end Go.Proofs.Ytnfgpepggehegaa.I
namespace Go.Proofs.Ytnfgpepggehegaa.I
open Go.RowKit Go.Proofs.YtnfgpepggehegaaW.PrintWords Go.Proofs.YtnfgpepggehegaaW.PrintLast Go.Proofs.YtnfgpepggehegaaW.PrintMore
attribute [local go_sem] max2_int min2_int max_two min_two max_three min_three max_four min_four
set_option linter.unusedVariables false
set_option maxRecDepth 100000
set_option linter.unusedSimpArgs false
def Ns (w : World) (V : List Int) (A : Option Addr) (c : Nat) : Prop := Kd.V (Kd.int .i64) 3 w 0 (fun _ => True) (.slice A V.length c) V
theorem Ns.below {w w' : World} {V : List Int} {A : Option Addr} {c : Nat} (h : Ns w V A c) (hb : Below w.heap.size w w') : Ns w' V A c := Kd.V_below h hb
end Go.Proofs.Ytnfgpepggehegaa.I
namespace Go.Proofs.Ytnfgpepggehegaa.I
open Go.RowKit Go.Proofs.YtnfgpepggehegaaW.PrintWords Go.Proofs.YtnfgpepggehegaaW.PrintLast Go.Proofs.YtnfgpepggehegaaW.PrintMore
attribute [local go_sem] max2_int min2_int max_two min_two max_three min_three max_four min_four
set_option linter.unusedVariables false
set_option maxRecDepth 100000
set_option linter.unusedSimpArgs false
theorem Ns.nil (w : World) : Ns w [] none 0 := by
  unfold Ns
  exact Kd.V_nil _ _ _ _ _
end Go.Proofs.Ytnfgpepggehegaa.I
namespace Go.Proofs.Ytnfgpepggehegaa.I
open Go.RowKit Go.Proofs.YtnfgpepggehegaaW.PrintWords Go.Proofs.YtnfgpepggehegaaW.PrintLast Go.Proofs.YtnfgpepggehegaaW.PrintMore
attribute [local go_sem] max2_int min2_int max_two min_two max_three min_three max_four min_four
set_option linter.unusedVariables false
set_option maxRecDepth 100000
set_option linter.unusedSimpArgs false
def goT (l1 : List S84) : Nat → S28 → List Int → S28 × List Int × Int
  | 0, t, acc => if t.f0 = 1 then (⟨0, 0, []⟩, acc, 8) else (t, acc, 0)
  | k + 1, t, acc => if t.f0 = 1 then (if 100000 < tcnt (nextT l1 t) then (⟨0, 0, []⟩, [], 3) else goT l1 k (nextT l1 t) (acc ++ [t.f1])) else (t, acc, 0)
def chkF (l0 : List S87) (l1 : List S84) (t : S28) (fuel : Int) : Int := if stB l0 l1 t = 0 then (if fuel < 0 ∨ 1048576 < fuel then 2 else 0) else stB l0 l1 t
end Go.Proofs.Ytnfgpepggehegaa.I
namespace Go.Proofs.Ytnfgpepggehegaa.I
open Go.RowKit Go.Proofs.YtnfgpepggehegaaW.PrintWords Go.Proofs.YtnfgpepggehegaaW.PrintLast Go.Proofs.YtnfgpepggehegaaW.PrintMore
attribute [local go_sem] max2_int min2_int max_two min_two max_three min_three max_four min_four
set_option linter.unusedVariables false
set_option maxRecDepth 100000
set_option linter.unusedSimpArgs false
set_option maxHeartbeats 8000000 in
theorem heads_calls (Ab : Option Addr) (nb cb : Nat) (Ap : Option Addr) (np cp : Nat) (g : Nat) (w : World) :
    Calls Try.prog 46 #[.agg #[.slice Ab nb cb, .slice Ap np cp], .pointer (some ⟨g, 0, none⟩)] w fun e w' => ∃ gs gc, e = .returned (.func (.func 68) #[] #[.pointer (some ⟨gc, 0, none⟩), .pointer (some ⟨gs, 0, none⟩)]) ∧ w'.heap[gs]? = some (.cells #[.slice Ab nb cb, .slice Ap np cp] 69 (0, 0)) ∧ w'.heap[gc]? = some (.cells #[.pointer (some ⟨g, 0, none⟩)] 65 (0, 0)) ∧ w.heap.size ≤ gs ∧ w.heap.size ≤ gc ∧ gs ≠ gc ∧ Below w.heap.size w w' := by
  have hu69 := Try.underlying69
  go_enter Try.func46, Try.ntmps46
  go_wp2_with (first
    | ((with_reducible refine gate_dst (N := 2) rfl ?_)
       refine box_event ?hg (N := 2) ?hd (cs := #[.slice Ab nb cb, .slice Ap np cp]) (t := 69) ?hr ?_
       (case hd => rfl)
       (case hg => rfl)
       (case hr => first | (go_simp; done) | (go_simp; rfl))
       intro gs hg_gs w2 hbox hbb
       have S2 := Az.mk hbox
       have HB2 := Az.mk hbb
       have HG2 := Az.mk (show w.heap.size ≤ gs from by omega)
       clear hbox hbb hg_gs)
    | ((with_reducible refine gate_dst (N := 3) rfl ?_)
       refine box_event ?hg (N := 3) ?hd (cs := #[.pointer (some ⟨g, 0, none⟩)]) (t := 65) ?hr ?_
       (case hd => rfl)
       (case hg => rfl)
       (case hr => first | (go_simp; done) | (go_simp; rfl))
       intro gc hg_gc w3 hbox hbb
       have S23 := Az.mk (bkB S2.out hbb)
       have S3 := Az.mk hbox
       have HB3 := Az.mk (bst HB2.out hbb)
       have HG3 := Az.mk (show w.heap.size ≤ gc from by have := HB2.out.size; omega)
       have HN := Az.mk (show gs ≠ gc from by have := blk_lt S2.out; omega)
       clear hbox hbb hg_gc))
  go_ret
  exact ⟨gs, gc, rfl, S23.out, S3.out, HG2.out, HG3.out, HN.out, HB3.out⟩
end Go.Proofs.Ytnfgpepggehegaa.I
namespace Go.Proofs.Ytnfgpepggehegaa.I
open Go.RowKit Go.Proofs.YtnfgpepggehegaaW.PrintWords Go.Proofs.YtnfgpepggehegaaW.PrintLast Go.Proofs.YtnfgpepggehegaaW.PrintMore
attribute [local go_sem] max2_int min2_int max_two min_two max_three min_three max_four min_four
set_option linter.unusedVariables false
set_option maxRecDepth 100000
set_option linter.unusedSimpArgs false
structure HP where
  w0 : World
  gs : Nat
  gc : Nat
  g5 : Nat
  g6 : Nat
  g7 : Nat
  gO : Nat
  gD : Nat
  gL : Nat
  nB : Nat
  Ab : Option Addr
  cb : Nat
  Ap : Option Addr
  np : Nat
  cp : Nat
  bs : List Value
  l1 : List S84
  fuel : Int
def HP.ok (p : HP) (own : Option Nat) (q : Nat) : Prop := (q ≠ p.gO ∧ q ≠ p.gc ∧ q ≠ p.g6 ∧ q ≠ p.g7 ∧ q ≠ p.gL ∧ q ≠ p.gD) ∧ some q ≠ own
structure HJ (p : HP) (lo : Obj) (dn : List Int) (u : S28) (Ah : Option Addr) (ch g : Nat) (W : World) : Prop where
  s : W.heap[p.gs]? = some (.cells #[.slice p.Ab p.l1.length p.cb, .slice p.Ap p.np p.cp] 69 (0, 0))
  c : W.heap[p.gc]? = some (.cells #[.pointer (some ⟨g, 0, none⟩)] 65 (0, 0))
  o : W.heap[p.gO]? = some (.cells #[.slice Ah dn.length ch] 40 (0, 0))
  f : W.heap[p.g5]? = some (.cells #[.int .i64 p.fuel] 3 (0, 0))
  r1 : W.heap[p.g6]? = some (.cells #[.slice none 0 0] 40 (0, 0))
  r2 : W.heap[p.g7]? = some (.cells #[.int .i64 0] 29 (0, 0))
  l : W.heap[p.gL]? = some lo
  d : W.heap[p.gD]? = some (.deferred (some []))
  row : Row W (p.ok (Value.slice Ah dn.length ch).ownBlock) (.slice p.Ab p.l1.length p.cb) p.bs
  bod : ClL W (p.ok (Value.slice Ah dn.length ch).ownBlock) (p.l1.map (·.f2)) p.bs
  cel : Cl W (p.ok (Value.slice Ah dn.length ch).ownBlock) u (.pointer (some ⟨g, 0, none⟩))
  out : W.ownsRow p.nB 3 1 (.slice Ah dn.length ch) dn.length (dn.map (Value.int .i64))
  bel : Below p.w0.heap.size p.w0 W
  noc : lo.isCells = false
theorem HJ.below {p : HP} {lo : Obj} {dn : List Int} {u : S28} {Ah : Option Addr} {ch g : Nat} {W W' : World} (h : HJ p lo dn u Ah ch g W) (hb : Below W.heap.size W W') : HJ p lo dn u Ah ch g W' :=
  ⟨bkB h.s hb, bkB h.c hb, bkB h.o hb, bkB h.f hb, bkB h.r1 hb, bkB h.r2 hb, bkB h.l hb, bkB h.d hb, Row_below hb h.row, ClL_below hb h.bod, Cl_below hb h.cel, pw_own_below h.out hb, bst h.bel hb, h.noc⟩
theorem obj_ne {w : World} {g g' : Nat} {lo : Obj} {cs : Array Value} {t : TypeId} (h : w.heap[g]? = some lo) (h' : w.heap[g']? = some (.cells cs t (0, 0))) (hn : lo.isCells = false) : g ≠ g' := fun he => by
  subst he
  rw [h] at h'
  injection h' with h'
  subst h'
  cases hn
theorem HJ.step {p : HP} {lo : Obj} {dn : List Int} {u y : S28} {Ah : Option Addr} {ch g g' : Nat} {W : World} (h : HJ p lo dn u Ah ch g W) (hy : Cl W (p.ok (Value.slice Ah dn.length ch).ownBlock) y (.pointer (some ⟨g', 0, none⟩))) (hg : p.w0.heap.size ≤ p.gc) : HJ p lo dn y Ah ch g' (W.setCell ⟨p.gc, 0, none⟩ (.pointer (some ⟨g', 0, none⟩))) := by
  have hk : ∀ k, p.ok (Value.slice Ah dn.length ch).ownBlock k → k < W.heap.size → (W.setCell ⟨p.gc, 0, none⟩ (.pointer (some ⟨g', 0, none⟩))).heap[k]? = W.heap[k]? := fun k hk _ => Below.heap_setCell W ⟨p.gc, 0, none⟩ _ k hk.1.2.1
  exact ⟨blk_far (p := ⟨p.gc, 0, none⟩) h.s (blk_ne h.s h.c (by decide)) _, blk_put h.c 0 _ rfl, blk_far (p := ⟨p.gc, 0, none⟩) h.o (blk_ne h.o h.c (by decide)) _, blk_far (p := ⟨p.gc, 0, none⟩) h.f (blk_ne h.f h.c (by decide)) _, blk_far (p := ⟨p.gc, 0, none⟩) h.r1 (blk_ne h.r1 h.c (by decide)) _, blk_far (p := ⟨p.gc, 0, none⟩) h.r2 (blk_ne h.r2 h.c (by decide)) _, (Below.heap_setCell W ⟨p.gc, 0, none⟩ _ p.gL (obj_ne h.l h.c h.noc)).trans h.l, (Below.heap_setCell W ⟨p.gc, 0, none⟩ _ p.gD (obj_ne h.d h.c rfl)).trans h.d,
    Kd.V_step h.row (fun k hk' hl => hk k hk' hl), ClL_imp hk (fun _ h _ => h) _ _ h.bod, Cl_imp hk (fun _ h _ => h) _ _ hy, own_setCell h.out (own_ne h.out h.c (by decide)) _, bset h.bel hg, h.noc⟩
set_option maxHeartbeats 16000000 in
theorem iter_calls (p : HP) (l0 : List S87) (n l : Nat) (lo : Obj) (JX : World → Prop) (X : S28) (L : List Int) (er : Int) (hs : schB l0 p.l1 = true) (hbg : ∀ x ∈ p.l1, tcnt x.f2 ≤ 1000000) (hgc : p.w0.heap.size ≤ p.gc)
    (hY : ∀ (dn : List Int) (u : S28) (k : Nat) (Ah : Option Addr) (ch g : Nat) (W : World), HJ p lo dn (nextT p.l1 u) Ah ch g W → u.f0 = 1 → (dn.length : Int) + k = p.fuel → goT p.l1 k u dn = (X, L, er) → YieldAt Fence.wide (n - 1) Try.prog l #[.int .i64 u.f1, .pointer (some ⟨g, 0, none⟩)] W fun e W' =>
      (e = .returned (.bool true) ∧ ¬ 100000 < tcnt (nextT p.l1 u) ∧ (∃ k', k = k' + 1 ∧ goT p.l1 k' (nextT p.l1 u) (dn ++ [u.f1]) = (X, L, er)) ∧ ∃ Ah' ch', HJ p lo (dn ++ [u.f1]) (nextT p.l1 u) Ah' ch' g W') ∨ (e = .returned (.bool false) ∧ JX W'))
    (u : S28) (g : Nat) (k : Nat) (W : World) (h0 : HJ p lo [] u none 0 g W) (hi : closedB l0 p.l1 u = true ∧ tcnt u ≤ 100000) (hk : (k : Int) = p.fuel) (hgo : goT p.l1 k u [] = (X, L, er)) :
    Calls Try.prog 68 #[.func (.yield l) #[] #[], .pointer (some ⟨p.gc, 0, none⟩), .pointer (some ⟨p.gs, 0, none⟩)] W fun e W' => (∃ v, e = .returned v) ∧ ((er = 0 ∧ ∃ u' Ah ch g', HJ p lo L u' Ah ch g' W') ∨ JX W') := by
  have hu69 := Try.underlying69
  have hu74 := Try.underlying74
  have HS := Az.mk hs
  have HBG := Az.mk hbg
  have HGC := Az.mk hgc
  have HY := Az.mk hY
  have H0 := Az.mk h0
  have HI := Az.mk hi
  have HK := Az.mk hk
  have HGO := Az.mk hgo
  clear hs hbg hgc hY h0 hi hk hgo
  go_enter Try.func68, Try.ntmps68
  go_wp2_with fail
  go_loopg [4] k (fun kq v4 wr => ∃ (dn : List Int) (u : S28) (Ah : Option Addr) (ch g : Nat), Az ((dn.length : Int) + kq = p.fuel) ∧ Az (closedB l0 p.l1 u = true ∧ tcnt u ≤ 100000) ∧ Az (goT p.l1 kq u dn = (X, L, er)) ∧ Az (HJ p lo dn u Ah ch g wr))
  case atStart => exact ⟨[], u, none, 0, g, ⟨by have := HK.out; simp; omega⟩, HI, HGO, H0⟩
  case round =>
    clear H0 HI HK HGO
    obtain ⟨dn, u, Ah, ch, g, HK, HI, HGO, HJ0⟩ := hrel
    have hrdy := ready_of HS.out HI.out.1
    have htl : ∀ x ∈ u.f2, tcnt x ≤ 1000000 := fun x hx => by have h1 := tcnt_mem hx; have h2 := tcnt_f2 u; have h3 := HI.out.2; omega
    have HRD := Az.mk hrdy
    have HTL := Az.mk htl
    clear hrdy htl
    have hcel := HJ0.out.cel
    have HCL := Az.mk hcel
    cases u with
    | mk k0 n0 l =>
    unfold Cl at hcel
    obtain ⟨g', a, vs, he, hok, hg, _, _⟩ := hcel
    injection he with he
    injection he with he
    injection he with he _ _
    subst he
    have c0 : wr.cell? ⟨p.gc, 0, none⟩ = some (.pointer (some ⟨g, 0, none⟩)) := (blk_cell HJ0.out.c 0).trans rfl
    have k0' : wr.cell? ⟨g, 0, none⟩ = some (.int .i64 k0) := (blk_cell hg 0).trans rfl
    have k1' : wr.cell? ⟨g, 1, none⟩ = some (.int .i64 n0) := (blk_cell hg 1).trans rfl
    clear hok hg
    by_cases hm : k0 = 1
    rotate_left
    · have q1 : (k0 == 1) = false := beq_eq_false_iff_ne.2 hm
      have h2 := HGO.out
      have hF : goT p.l1 gk ⟨k0, n0, l⟩ dn = (⟨k0, n0, l⟩, dn, 0) := by
        cases gk <;> (unfold goT; rw [if_neg (show ¬ (⟨k0, n0, l⟩ : S28).f0 = 1 from hm)])
      rw [hF] at h2
      injection h2 with h2 h3
      injection h3 with h3 h4
      subst h3 h4
      clear hm hF h2
      go_wp2_with fail
      go_end0
      exact ⟨⟨_, rfl⟩, .inl (by first | exact ⟨rfl, _, Ah, ch, g, HJ0.out⟩ | exact ⟨_, Ah, ch, g, HJ0.out⟩)⟩
    have hm' := hm
    subst hm'
    have HST := Az.mk (fun (w' : World) (hb : Below wr.heap.size wr w') => cstep_calls p.l1 p.Ab p.cb p.Ap p.np p.cp p.bs ⟨1, n0, l⟩ (.pointer (some ⟨g, 0, none⟩)) (fun q => p.ok (Value.slice Ah dn.length ch).ownBlock q ∧ q < w'.heap.size) w' (Kd.V_bound (Row_below hb HJ0.out.row)) (ClL_mono (fun q h1 h2 => ⟨h1, h2⟩) (ClL_below hb HJ0.out.bod)) (Cl_mono (fun q h1 h2 => ⟨h1, h2⟩) (Cl_below hb HCL.out)) (fun q h => h.2) HRD.out HBG.out HTL.out)
    have s0 : wr.cell? ⟨p.gs, 0, none⟩ = some (.slice p.Ab p.l1.length p.cb) := (blk_cell HJ0.out.s 0).trans rfl
    have s1 : wr.cell? ⟨p.gs, 1, none⟩ = some (.slice p.Ap p.np p.cp) := (blk_cell HJ0.out.s 1).trans rfl
    clear HCL
    go_upto_region 3 with (
      go_at_call 38
      (with_reducible refine (HST.out _ (Below.refl _ _)).mono ?_)
      rintro e9 wA ⟨g2, rfl, hcn, hbA⟩
      have HJA := Az.mk (HJ0.out.below hbA)
      have hlt : ∀ k, (Value.slice Ah dn.length ch).ownBlock = some k → k < wr.heap.size := fun k hk => own_lt HJ0.out.out k hk
      have HCN := Az.mk (Cl_mono (ok1 := p.ok (Value.slice Ah dn.length ch).ownBlock) (fun q h1 _ => by
        rcases h1 with h1 | h1
        · exact h1.1
        · refine ⟨⟨?_, ?_, ?_, ?_, ?_, ?_⟩, fun he => ?_⟩
          · have := blk_lt HJ0.out.o; omega
          · have := blk_lt HJ0.out.c; omega
          · have := blk_lt HJ0.out.r1; omega
          · have := blk_lt HJ0.out.r2; omega
          · have := blk_lt HJ0.out.l; omega
          · have := blk_lt HJ0.out.d; omega
          · have := hlt q he.symm; omega) hcn)
      have c1 : wA.cell? ⟨p.gc, 0, none⟩ = some (.pointer (some ⟨g, 0, none⟩)) := (blk_cell HJA.out.c 0).trans rfl
      have f1 := bkF HJA.out.c 0
      clear hcn hbA hlt)
    have HJS := Az.mk (HJA.out.step HCN.out HGC.out)
    clear c0 c1 f1 k0' k1' s0 s1 HJA HCN HST HJ0
    generalize wA.setCell ⟨p.gc, 0, none⟩ (.pointer (some ⟨g2, 0, none⟩)) = wB at *
    have c2 : wB.cell? ⟨p.gc, 0, none⟩ = some (.pointer (some ⟨g2, 0, none⟩)) := (blk_cell HJS.out.c 0).trans rfl
    obtain ⟨fn_, tmps_, assign_, body_, hy, hR⟩ := HY.out dn ⟨1, n0, l⟩ gk Ah ch g2 wB HJS.out rfl HK.out HGO.out
    have HRR := Az.mk hR
    clear hR
    refine (wpIn_wide (n := n)).1 ?_
    gi_wp2
    refine ⟨fun h => (by cases h), HRR.out.mono ?_⟩
    rintro e W' (⟨rfl, hb, ⟨k', hk', hgo'⟩, Ah', ch', hj⟩ | ⟨rfl, hj⟩)
    · have HJn := Az.mk hj
      have HGn := Az.mk hgo'
      have HIn := Az.mk (show closedB l0 p.l1 (nextT p.l1 ⟨1, n0, l⟩) = true ∧ tcnt (nextT p.l1 ⟨1, n0, l⟩) ≤ 100000 from ⟨closed_next HS.out HI.out.1, by omega⟩)
      have HKn := Az.mk (show ((dn ++ [n0]).length : Int) + k' = p.fuel from by have := HK.out; rw [List.length_append, List.length_singleton]; omega)
      clear hj hgo' hb
      gi_wp2
      go_wp2_with fail
      subst hk'
      go_roundg k'
      case measure => omega
      case rel => exact ⟨dn ++ [n0], _, Ah', ch', g2, HKn, HIn, HGn, HJn⟩
    · have HX := Az.mk hj
      clear hj
      gi_wp2
      go_wp2_with fail
      refine bodyPost_ret (results_none rfl _ _ _) rfl ?_
      exact ⟨⟨_, rfl⟩, .inr HX.out⟩
end Go.Proofs.Ytnfgpepggehegaa.I
namespace Go.Proofs.Ytnfgpepggehegaa.I
open Go.RowKit Go.Proofs.YtnfgpepggehegaaW.PrintWords Go.Proofs.YtnfgpepggehegaaW.PrintLast Go.Proofs.YtnfgpepggehegaaW.PrintMore
attribute [local go_sem] max2_int min2_int max_two min_two max_three min_three max_four min_four
set_option linter.unusedVariables false
set_option maxRecDepth 100000
set_option linter.unusedSimpArgs false
theorem results19 (tmps : Array Value) (w : World) (g g' : Nat) (v v' : Value) (h6 : tmps.getD 6 undef = .pointer (some ⟨g, 0, none⟩)) (h7 : tmps.getD 7 undef = .pointer (some ⟨g', 0, none⟩)) (hg : w.heap[g]? = some (.cells #[v] 40 (0, 0))) (hg' : w.heap[g']? = some (.cells #[v'] 29 (0, 0))) :
    (results Try.f19 tmps).run Try.prog w = .ok (.tuple #[v, v']) w := by
  have hc : w.cell? ⟨g, 0, none⟩ = some v := (blk_cell hg 0).trans rfl
  have hc' : w.cell? ⟨g', 0, none⟩ = some v' := (blk_cell hg' 0).trans rfl
  have h1 : tmps[6]?.getD undef = .pointer (some ⟨g, 0, none⟩) := by simpa using h6
  have h2 : tmps[7]?.getD undef = .pointer (some ⟨g', 0, none⟩) := by simpa using h7
  have hr : Try.f19.results = #[.cell 6 40, .cell 7 29] := rfl
  unfold results
  rw [hr]
  simp [go_sem, h1, h2, asAddr, loadVar, hc, hc']
theorem appendIn {F : Fence} {n : Nat} {W : World} {ops : Array Oper} {rest : List Oper} {o : Oper} {a : Act} {Q : Exit → Act → World → Prop} (hgd : o.guard = none) (s x : Operand)
    (ho : o.op = .call { callee := .builtin .append, args := #[s, x], argTypes := #[40, 40] }) (base : Nat) (v : Value) (dn : List Int) (y : Int) (hs : a.eval s = v) (hx : a.eval x = .slice (some ⟨W.heap.size, 0, none⟩) 1 1)
    (HO : W.ownsRow base 3 1 v dn.length (dn.map (Value.int .i64))) (hbase : base ≤ W.heap.size) (hl : dn.length ≤ 1048576)
    (h : ∀ v1 w1, w1.ownsRow base 3 1 v1 (dn ++ [y]).length ((dn ++ [y]).map (Value.int .i64)) → W.grownBy w1 v.ownBlock → (v1.ownBlock = v.ownBlock ∨ ∃ b, v1.ownBlock = some b ∧ W.heap.size ≤ b) → wpListIn F n Try.prog ops Q rest (a.put o.dst v1) w1) :
    wpListIn F n Try.prog ops Q (o :: rest) a (W.alloc (.cells #[.int .i64 y] 3)) := by
  obtain ⟨i0, hi, hzz⟩ := Option.map_eq_some_iff.1 (info3 : (Try.prog.info? 3).map (fun i => (i.zero, i.size, i.bytes)) = some (some (.int .i64 0), 1, 8))
  simp only [Prod.mk.injEq] at hzz
  obtain ⟨hz0, hz1, hz2⟩ := hzz
  obtain ⟨v1, w1, hrun, hown, hg, _, hat⟩ := run_append_own_at (P := Try.prog) (w := W.alloc (.cells #[.int .i64 y] 3)) base 40 o.type 3 i0 (.int .i64 0) 1 8 Try.underlying40 hi hz0 hz1 hz2 rfl (by omega) v dn.length (dn.map (Value.int .i64)) (HO.alloc _) ⟨W.heap.size, 0, none⟩ 1 1 [.int .i64 y] rfl
    (World.news_of_block (cs := #[.int .i64 y]) (t := 3) (fr := (0, 0)) (heap_alloc_new W _)) (by simp [Value.oneCell']) (by simp only [maxLen]; omega) (by omega) (by simp; omega)
  refine wpListIn_plain hgd fun K hK => ⟨?_, ?_⟩
  · simp [Oper.about, ho, resolve, Target.leads, Sem.run_pure]
  · rw [Oper.semAt_plain F _ _ (by rw [ho]; intro c hc'; cases hc')]
    simp [execOp, ho, resolve, invoke, builtin, hs, hx, hrun, Result.andThen]
    refine hK _ _ (h v1 w1 (by simpa using hown) (World.grownBy.trans (World.grownBy_alloc W _ _) hg) ?_)
    rcases hat with hat | hat
    · exact .inl hat
    · exact .inr ⟨_, hat, by simp⟩
theorem own_Ns {w : World} {B c : Nat} {A : Option Addr} {L : List Int} (h : w.ownsRow B 3 1 (.slice A L.length c) L.length (L.map (Value.int .i64))) : Ns w L A c := by
  refine Kd.V_mono (Kd.R_V (base' := 0) (d := Kd.int .i64) (e := 3) (base := B) (ok := fun _ => True) ⟨fun _ _ => trivial, L.map (Value.int .i64), h, by simp [show (Kd.int .i64).sz = 1 from rfl], fun j p hj => ?_⟩) (fun _ _ => trivial)
  have hl := (List.getElem?_eq_some_iff.1 hj).1
  have e : ((L.map (Value.int .i64)).drop (j * (Kd.int .i64).sz)).take (Kd.int .i64).sz = [.int .i64 p] := by
    rw [show (Kd.int .i64).sz = 1 from rfl, Nat.mul_one, List.drop_eq_getElem_cons (by simpa using hl), List.getElem_map]
    rw [(List.getElem?_eq_some_iff.1 hj).2]
    rfl
  rw [e]
  rfl
theorem HJ.put {p : HP} {lo lo' : Obj} {dn : List Int} {u : S28} {Ah : Option Addr} {ch g : Nat} {W : World} (h : HJ p lo dn u Ah ch g W) (hn : lo'.isCells = false) (hlt : p.w0.heap.size ≤ p.gL) (hld : p.gD ≠ p.gL) : HJ p lo' dn u Ah ch g (W.putObj p.gL lo') := by
  have ho : ∀ {k : Nat}, k ≠ p.gL → (W.putObj p.gL lo').heap[k]? = W.heap[k]? := fun hk => World.putObj_heap_other hk
  have hk : ∀ k, p.ok (Value.slice Ah dn.length ch).ownBlock k → k < W.heap.size → (W.putObj p.gL lo').heap[k]? = W.heap[k]? := fun k hk _ => ho hk.1.2.2.2.2.1
  have hc : ∀ {k : Nat} {cs : Array Value} {t : TypeId}, W.heap[k]? = some (.cells cs t (0, 0)) → (W.putObj p.gL lo').heap[k]? = some (.cells cs t (0, 0)) := fun hb => (ho (fun he => obj_ne h.l hb h.noc he.symm)).trans hb
  have hrow : some p.gL ≠ (Value.slice Ah dn.length ch).ownBlock := fun he => by
    rcases h.out.2 with ⟨hv, _⟩ | ⟨g', cap', cur, hv, _, hg, _⟩
    · have e : (Value.slice Ah dn.length ch).ownBlock = none := by rw [hv]; rfl
      rw [e] at he
      cases he
    · have e : (Value.slice Ah dn.length ch).ownBlock = some g' := by rw [hv]; rfl
      rw [e] at he
      injection he with he
      rw [← he, h.l] at hg
      injection hg with hg
      have hno := h.noc
      rw [hg] at hno
      cases hno
  exact ⟨hc h.s, hc h.c, hc h.o, hc h.f, hc h.r1, hc h.r2, World.putObj_heap_same (blk_lt h.l), (ho hld).trans h.d, Kd.V_step h.row (fun k hk' hl => hk k hk' hl), ClL_imp hk (fun _ h _ => h) _ _ h.bod, Cl_imp hk (fun _ h _ => h) _ _ h.cel,
    own_other h.out (grownBy_putObj' W p.gL lo') (.inr (fun he => hrow he.symm)), belowK_t h.bel ((Below.refl p.w0.heap.size W).grown (grownBy_putObj' W p.gL lo') h.bel.size (fun k e => by cases e; exact hlt)), hn⟩
end Go.Proofs.Ytnfgpepggehegaa.I
namespace Go.Proofs.Ytnfgpepggehegaa.I
open Go.RowKit Go.Proofs.YtnfgpepggehegaaW.PrintWords Go.Proofs.YtnfgpepggehegaaW.PrintLast Go.Proofs.YtnfgpepggehegaaW.PrintMore
attribute [local go_sem] max2_int min2_int max_two min_two max_three min_three max_four min_four
set_option linter.unusedVariables false
set_option maxRecDepth 100000
set_option linter.unusedSimpArgs false
def mkRec (fn : FuncId) (tmps : Array Value) (ps : Array Tmp) (assign body : Code) (D : Nat) (st : LoopState) (pe : Option Code) : Loop := { state := st, pending := pe, fn, tmps, params := ps, assign, body, defers := D }
theorem range_outer {F : Fence} {P : Program} {n : Nat} (hro : F.round = none) (hF : ∀ f, F.fn f) {g : Operand} {ps : Array Tmp} {assign body : Code} {Q : Exit → Act → World → Prop} {tmps : Array Value} {w : World} (h1 : 1 ≤ n) {gf : Nat} {lb : Array Value} (hg : ({ tmps := tmps, defers := [] } : Act).eval g = .func (.func gf) #[] lb)
    (eg : ∀ args w, (callFunc gf args).run P w = .ok (.enter gf args) w)
    (h : ∀ (fn : FuncId) (rc : LoopState → Option Code → Loop) (a' : Act), rc = mkRec fn tmps ps assign body w.heap.size → a' = { tmps := tmps, defers := [{ target := .collected w.heap.size, args := #[] }] } → CallsIn F (n - 1) P gf (#[.func (.yield (w.heap.size + 1)) #[] #[]] ++ lb) ((w.alloc (.deferred (some []))).alloc (.loop (rc .ready none))) (rangePost F n P (w.heap.size + 1) Q a')) :
    (Code.rangeFunc g ps assign body).wpIn F n P Q { tmps := tmps, defers := [] } w := by
  refine wpIn_rangeFunc ?_
  intro fn hfn
  rw [hro]
  obtain ⟨rc, hrc⟩ : ∃ rc, rc = mkRec fn tmps ps assign body w.heap.size := ⟨_, rfl⟩
  obtain ⟨W1, hW1⟩ : ∃ W1, (w.alloc (.deferred (some []))).alloc (.loop (rc .ready none)) = W1 := ⟨_, rfl⟩
  have h2 := h fn rc _ hrc rfl
  rw [hW1] at h2
  refine ⟨w.heap.size + 1, [{ target := .collected w.heap.size, args := #[] }], W1, { target := .fn (.func gf) lb, args := #[.func (.yield (w.heap.size + 1)) #[] #[]] }, W1, gf,
    #[.func (.yield (w.heap.size + 1)) #[] #[]] ++ lb, W1, ?_, ?_, ?_, ?_, fun _ => h1, ?_⟩
  · rw [← hW1, hrc]; exact run_enterLoop_outer _ _ _ _ _
  · simp only [resolve, hg]
    simp [go_sem]
  · intro f' hf'; exact hF f'
  · simp [invoke, go_sem, eg]
  · exact h2
theorem yield_round {n l : Nat} {fn : FuncId} {tmps : Array Value} {ps : Array Tmp} {assign body : Code} {D : Nat} {rc : LoopState → Option Code → Loop} {args : Array Value} {W : World} {R : Ending → World → Prop} (hrc : rc = mkRec fn tmps ps assign body D) (hl : W.heap[l]? = some (.loop (rc .ready none))) (hs : args.size = ps.size)
    (h : assign.wpIn (Fence.wide.inRound l) n Try.prog (Exit.then (fun a₁ w₁ => w₁ = W ∧ body.wpIn (Fence.wide.inRound l) n Try.prog (roundPost Try.prog l R) a₁ (W.putObj l (.loop (rc .busy none)))) (fun _ _ _ => False)) { tmps := (ps.zip args).foldl (fun t (p, v) => t.setIfInBounds p v) tmps, defers := [] } W) :
    YieldAt Fence.wide n Try.prog l args W R := by
  subst hrc
  refine ⟨fn, _, assign, body, run_yield hl hs, roundIn_of_wpIn trivial (wpIn_mono h ?_)⟩
  rintro e a₁ w₁ hq
  cases e with
  | normal =>
    obtain ⟨rfl, hq⟩ := hq
    exact ⟨_, run_beginRound hl rfl, hq⟩
  | _ => exact hq
section
variable {w : World} {l D : Nat} {fn : FuncId} {tmps : Array Value} {ps : Array Tmp} {assign body : Code} {rc : LoopState → Option Code → Loop}
theorem round_back (hrc : rc = mkRec fn tmps ps assign body D) (hl : w.heap[l]? = some (.loop (rc .busy none))) : (Instr.endRound l none).run Try.prog w = .ok (.bool true) (w.putObj l (.loop (rc .ready none))) := by
  subst hrc
  exact run_endRound none hl
theorem round_ret (hrc : rc = mkRec fn tmps ps assign body D) (hl : w.heap[l]? = some (.loop (rc .busy none))) : (Instr.endRound l (some .ret)).run Try.prog w = .ok (.bool false) (w.putObj l (.loop (rc .done (some .ret)))) := by
  subst hrc
  exact run_endRound (some .ret) hl
theorem loop_ready (hrc : rc = mkRec fn tmps ps assign body D) (hl : w.heap[l]? = some (.loop (rc .ready none))) : (Instr.endLoop l).run Try.prog w = .ok none (w.putObj l (.loop (rc .exhausted none))) := by
  subst hrc
  exact run_endLoop hl (by intro h; cases h)
theorem loop_done (hrc : rc = mkRec fn tmps ps assign body D) (hl : w.heap[l]? = some (.loop (rc .done (some .ret)))) : (Instr.endLoop l).run Try.prog w = .ok (some .ret) (w.putObj l (.loop (rc .exhausted (some .ret)))) := by
  subst hrc
  exact run_endLoop hl (by intro h; cases h)
end
theorem own_ne_obj {w : World} {base : Nat} {e : TypeId} {size n g : Nat} {v : Value} {xs : List Value} {lo : Obj} (h : w.ownsRow base e size v n xs) (hg : w.heap[g]? = some lo) (hn : lo.isCells = false) : some g ≠ v.ownBlock := fun he => by
  rcases h.2 with ⟨hv, _⟩ | ⟨g', cap', cur, hv, _, hg', _⟩
  · have e : v.ownBlock = none := by rw [hv]; rfl
    rw [e] at he
    cases he
  · have e : v.ownBlock = some g' := by rw [hv]; rfl
    rw [e] at he
    injection he with he
    rw [← he, hg] at hg'
    injection hg' with hg'
    rw [hg'] at hn
    cases hn
theorem own_base {w : World} {base : Nat} {e : TypeId} {size n : Nat} {v : Value} {xs : List Value} (h : w.ownsRow base e size v n xs) (k : Nat) (hk : v.ownBlock = some k) : base ≤ k := by
  rcases h.2 with ⟨hv, _⟩ | ⟨g', cap', cur, hv, hb, hg', _⟩
  · have e : v.ownBlock = none := by rw [hv]; rfl
    rw [e] at hk
    cases hk
  · have e : v.ownBlock = some g' := by rw [hv]; rfl
    rw [e] at hk
    injection hk with hk
    omega
theorem own_slice {w : World} {base : Nat} {e : TypeId} {size n : Nat} {v : Value} {xs : List Value} (h : w.ownsRow base e size v n xs) : ∃ A c, v = .slice A n c := by
  rcases h.2 with ⟨hv, hn⟩ | ⟨g', cap', cur, hv, _⟩
  · exact ⟨none, 0, by rw [hv, hn]⟩
  · exact ⟨_, _, hv⟩
theorem own_putObj {w : World} {base : Nat} {e : TypeId} {size n g : Nat} {v : Value} {xs : List Value} {lo : Obj} (h : w.ownsRow base e size v n xs) (hg : w.heap[g]? = some lo) (hn : lo.isCells = false) (o : Obj) : (w.putObj g o).ownsRow base e size v n xs :=
  own_other h (grownBy_putObj' w g o) (.inr (fun he => own_ne_obj h hg hn he.symm))
theorem HJ.push {p : HP} {lo : Obj} {dn : List Int} {u : S28} {Ah Ah' : Option Addr} {ch ch' g : Nat} {W w1 : World} {y : Int} (h : HJ p lo dn u Ah ch g W) (hown : w1.ownsRow p.nB 3 1 (.slice Ah' (dn ++ [y]).length ch') (dn ++ [y]).length ((dn ++ [y]).map (Value.int .i64)))
    (hg : W.grownBy w1 (Value.slice Ah dn.length ch).ownBlock) (hat : (Value.slice Ah' (dn ++ [y]).length ch').ownBlock = (Value.slice Ah dn.length ch).ownBlock ∨ ∃ b, (Value.slice Ah' (dn ++ [y]).length ch').ownBlock = some b ∧ W.heap.size ≤ b) (h5 : p.g5 < p.nB) (h0 : p.w0.heap.size ≤ p.nB) (hO : p.w0.heap.size ≤ p.gO) (h6 : p.g6 ≠ p.gO) :
    HJ p lo (dn ++ [y]) u Ah' ch' g (w1.setCell ⟨p.gO, 0, none⟩ (.slice Ah' (dn ++ [y]).length ch')) := by
  have hk : ∀ k, p.ok (Value.slice Ah dn.length ch).ownBlock k → k < W.heap.size → (w1.setCell ⟨p.gO, 0, none⟩ (.slice Ah' (dn ++ [y]).length ch')).heap[k]? = W.heap[k]? := fun k hk hl => (Below.heap_setCell w1 ⟨p.gO, 0, none⟩ _ k hk.1.1).trans (hg.block k hl hk.2)
  have hm : ∀ k, p.ok (Value.slice Ah dn.length ch).ownBlock k → k < W.heap.size → p.ok (Value.slice Ah' (dn ++ [y]).length ch').ownBlock k := fun k hk hl => ⟨hk.1, fun he => by
    rcases hat with e | ⟨b, e, hb⟩
    · exact hk.2 (he.trans e)
    · rw [e] at he
      injection he with he
      omega⟩
  have ho1 := blk_grown h.o hg (own_ne h.out h.o (by decide))
  have hbel : Below p.w0.heap.size p.w0 w1 := belowK_t h.bel ((Below.refl p.w0.heap.size W).grown hg h.bel.size (fun k e => Nat.le_trans h0 (own_base h.out k e)))
  exact ⟨blk_far (p := ⟨p.gO, 0, none⟩) (blk_grown h.s hg (own_ne h.out h.s (by decide))) (blk_ne h.s h.o (by decide)) _, blk_far (p := ⟨p.gO, 0, none⟩) (blk_grown h.c hg (own_ne h.out h.c (by decide))) (blk_ne h.c h.o (by decide)) _, blk_put ho1 0 _ rfl,
    blk_far (p := ⟨p.gO, 0, none⟩) (blk_grown h.f hg (fun he => by have := own_base h.out _ he.symm; omega)) (blk_ne h.f h.o (by decide)) _, blk_far (p := ⟨p.gO, 0, none⟩) (blk_grown h.r1 hg (own_ne h.out h.r1 (by decide))) h6 _, blk_far (p := ⟨p.gO, 0, none⟩) (blk_grown h.r2 hg (own_ne h.out h.r2 (by decide))) (blk_ne h.r2 h.o (by decide)) _,
    (Below.heap_setCell w1 ⟨p.gO, 0, none⟩ _ p.gL (obj_ne h.l h.o h.noc)).trans (blk_grown h.l hg (own_ne_obj h.out h.l h.noc)), (Below.heap_setCell w1 ⟨p.gO, 0, none⟩ _ p.gD (obj_ne h.d h.o rfl)).trans (blk_grown h.d hg (own_ne_obj h.out h.d rfl)),
    Kd.V_mono (Kd.V_step (Kd.V_bound h.row) (fun k hk' hl => hk k hk'.1 hl)) (fun k hk' => hm k hk'.1 hk'.2), ClL_imp hk hm _ _ h.bod, Cl_imp hk hm _ _ h.cel, own_setCell hown (own_ne hown ho1 (by decide)) _, bset hbel hO, h.noc⟩
structure HE (p : HP) (lo : Obj) (L : List Int) (Al : Option Addr) (cl : Nat) (er : Int) (W : World) : Prop where
  l : W.heap[p.gL]? = some lo
  d : W.heap[p.gD]? = some (.deferred (some []))
  r1 : W.heap[p.g6]? = some (.cells #[.slice Al L.length cl] 40 (0, 0))
  r2 : W.heap[p.g7]? = some (.cells #[.int .i64 er] 29 (0, 0))
  out : W.ownsRow p.nB 3 1 (.slice Al L.length cl) L.length (L.map (Value.int .i64))
  bel : Below p.w0.heap.size p.w0 W
  noc : lo.isCells = false
theorem HJ.fin {p : HP} {lo : Obj} {dn : List Int} {u : S28} {Ah : Option Addr} {ch g : Nat} {W : World} (h : HJ p lo dn u Ah ch g W) (L : List Int) (Al : Option Addr) (cl : Nat) (er : Int) (hown : W.ownsRow p.nB 3 1 (.slice Al L.length cl) L.length (L.map (Value.int .i64))) (h6 : p.w0.heap.size ≤ p.g6) (h7 : p.w0.heap.size ≤ p.g7) :
    HE p lo L Al cl er ((W.setCell ⟨p.g6, 0, none⟩ (.slice Al L.length cl)).setCell ⟨p.g7, 0, none⟩ (.int .i64 er)) := by
  have hn := blk_ne h.r1 h.r2 (by decide)
  have ho6 := own_setCell (p := ⟨p.g6, 0, none⟩) hown (own_ne hown h.r1 (by decide)) (.slice Al L.length cl)
  exact ⟨(Below.heap_setCell _ ⟨p.g7, 0, none⟩ _ p.gL (obj_ne h.l h.r2 h.noc)).trans ((Below.heap_setCell _ ⟨p.g6, 0, none⟩ _ p.gL (obj_ne h.l h.r1 h.noc)).trans h.l), (Below.heap_setCell _ ⟨p.g7, 0, none⟩ _ p.gD (obj_ne h.d h.r2 rfl)).trans ((Below.heap_setCell _ ⟨p.g6, 0, none⟩ _ p.gD (obj_ne h.d h.r1 rfl)).trans h.d),
    blk_far (p := ⟨p.g7, 0, none⟩) (blk_put (cs' := #[.slice Al L.length cl]) h.r1 0 _ rfl) hn _, blk_put (cs' := #[.int .i64 er]) (blk_far (p := ⟨p.g6, 0, none⟩) h.r2 hn.symm _) 0 _ rfl,
    own_setCell (p := ⟨p.g7, 0, none⟩) ho6 (own_ne hown h.r2 (by decide)) _, bset (bset h.bel h6) h7, h.noc⟩
theorem below_putObj {b : Nat} {w W : World} {g : Nat} (h : Below b w W) (hw : b = w.heap.size) (hg : b ≤ g) (o : Obj) : Below b w (W.putObj g o) := by
  subst hw
  exact belowK_t h ((Below.refl w.heap.size W).grown (grownBy_putObj' W g o) h.size (fun k e => by cases e; exact hg))
theorem HE.put {p : HP} {lo lo' : Obj} {L : List Int} {Al : Option Addr} {cl : Nat} {er : Int} {W : World} (h : HE p lo L Al cl er W) (hn : lo'.isCells = false) (hlt : p.w0.heap.size ≤ p.gL) (hld : p.gD ≠ p.gL) : HE p lo' L Al cl er (W.putObj p.gL lo') := by
  have hc : ∀ {k : Nat} {cs : Array Value} {t : TypeId}, W.heap[k]? = some (.cells cs t (0, 0)) → (W.putObj p.gL lo').heap[k]? = some (.cells cs t (0, 0)) := fun hb => (World.putObj_heap_other (fun he => obj_ne h.l hb h.noc he.symm)).trans hb
  exact ⟨World.putObj_heap_same (blk_lt h.l), (World.putObj_heap_other hld).trans h.d, hc h.r1, hc h.r2, own_putObj h.out h.l h.noc _, below_putObj h.bel rfl hlt _, hn⟩
theorem HE.shut {p : HP} {lo : Obj} {L : List Int} {Al : Option Addr} {cl : Nat} {er : Int} {W : World} (h : HE p lo L Al cl er W) (hD : p.w0.heap.size ≤ p.gD) : Ns (W.putObj p.gD (.deferred none)) L Al cl ∧ Below p.w0.heap.size p.w0 (W.putObj p.gD (.deferred none)) :=
  ⟨own_Ns (own_putObj h.out h.d rfl _), below_putObj h.bel rfl hD _⟩
end Go.Proofs.Ytnfgpepggehegaa.I
namespace Go.Proofs.Ytnfgpepggehegaa.I
open Go.RowKit Go.Proofs.YtnfgpepggehegaaW.PrintWords Go.Proofs.YtnfgpepggehegaaW.PrintLast Go.Proofs.YtnfgpepggehegaaW.PrintMore
attribute [local go_sem] max2_int min2_int max_two min_two max_three min_three max_four min_four
set_option linter.unusedVariables false
set_option maxRecDepth 100000
set_option linter.unusedSimpArgs false
def headsF (l0 : List S87) (l1 : List S84) (t : S28) (fuel : Int) : List Int × Int := if chkF l0 l1 t fuel = 0 then (goT l1 fuel.toNat t []).2 else ([], chkF l0 l1 t fuel)
theorem headsF_neg {l0 : List S87} {l1 : List S84} {t : S28} {z : Int} (h : stB l0 l1 t = z) (hz : z ≠ 0) (fuel : Int) : headsF l0 l1 t fuel = ([], z) := by
  unfold headsF chkF
  rw [h, if_neg hz, if_neg hz]
theorem headsF_fuel {l0 : List S87} {l1 : List S84} {t : S28} (h : stB l0 l1 t = 0) {fuel : Int} (hf : fuel < 0 ∨ 1048576 < fuel) : headsF l0 l1 t fuel = ([], 2) := by
  unfold headsF chkF
  rw [h]
  simp only [if_pos rfl, if_pos hf]
  rfl
theorem headsF_ok {l0 : List S87} {l1 : List S84} {t : S28} (h : stB l0 l1 t = 0) {fuel : Int} (hf : ¬ (fuel < 0 ∨ 1048576 < fuel)) : headsF l0 l1 t fuel = (goT l1 fuel.toNat t []).2 := by
  unfold headsF chkF
  have e : (if fuel < 0 ∨ 1048576 < fuel then (2 : Int) else 0) = 0 := if_neg hf
  rw [h, e]
  rfl
theorem ret19 {n : Nat} {tmps : Array Value} {w : World} {R : Ending → World → Prop} (g g' : Nat) (v v' : Value) (h6 : tmps.getD 6 undef = .pointer (some ⟨g, 0, none⟩)) (h7 : tmps.getD 7 undef = .pointer (some ⟨g', 0, none⟩)) (hg : w.heap[g]? = some (.cells #[v] 40 (0, 0))) (hg' : w.heap[g']? = some (.cells #[v'] 29 (0, 0))) (hR : R (.returned (.tuple #[v, v'])) w) :
    bodyPostM Fence.wide n Try.prog Try.f19 R .ret { tmps := tmps, defers := [] } w :=
  ⟨_, results19 _ _ g g' v v' h6 h7 hg hg', hR⟩
theorem ret19m {n : Nat} {tmps : Array Value} {w : World} {R : Ending → World → Prop} (D g g' : Nat) (v v' : Value) (h6 : tmps.getD 6 undef = .pointer (some ⟨g, 0, none⟩)) (h7 : tmps.getD 7 undef = .pointer (some ⟨g', 0, none⟩)) (hD : w.heap[D]? = some (.deferred (some []))) (hg : w.heap[g]? = some (.cells #[v] 40 (0, 0))) (hg' : w.heap[g']? = some (.cells #[v'] 29 (0, 0))) (hR : R (.returned (.tuple #[v, v'])) (w.putObj D (.deferred none))) :
    bodyPostM Fence.wide n Try.prog Try.f19 R .ret { tmps := tmps, defers := [{ target := .collected D, args := #[] }] } w :=
  ⟨by simp, .inl ⟨_, _, rfl, run_takeDeferred hD, ret19 (n := n) g g' v v' h6 h7 ((World.putObj_heap_other (obj_ne hD hg rfl).symm).trans hg) ((World.putObj_heap_other (obj_ne hD hg' rfl).symm).trans hg') hR⟩⟩
attribute [local go_sem] Oper.semAt_some
set_option maxHeartbeats 16000000 in
theorem pheads_at {w : World} {A0 : Option Addr} {c0 : Nat} {l0 : List S87} {A1 : Option Addr} {c1 : Nat} {l1 : List S84} {ok : Nat → Prop} {x : S28} {A : Option Addr} {c : Nat} (hs : Sch w A0 c0 l0 A1 c1 l1) (ht : Tm w ok x A c) (fuel : Int) (L : List Int) (er : Int) (hF : headsF l0 l1 x fuel = (L, er)) :
    Calls Try.prog 19 #[.agg #[.slice A0 l0.length c0, .slice A1 l1.length c1], .agg #[.int .i64 x.f0, .int .i64 x.f1, .slice A x.f2.length c], .int .i64 fuel] w fun e w' => ∃ Al cl, e = .returned (.tuple #[.slice Al L.length cl, .int .i64 er]) ∧ Ns w' L Al cl ∧ Below w.heap.size w w' := by
  have hu25 := Try.underlying25
  have hu28 := Try.underlying28
  have hu69 := Try.underlying69
  have hu74 := Try.underlying74
  have HS := Az.mk hs
  have HT := Az.mk ht
  have HF := Az.mk hF
  clear hs ht hF
  refine callsIn_wide.1 (callsIn_of_wp_marks (n := 6) Try.func19 rfl trivial ?_)
  refine wpIn_wide.2 ?_
  simp only [Try.ntmps19, List.size_toArray, List.length_cons, List.length_nil, Nat.reduceAdd, Nat.reduceSub, Array.replicate_succ, Array.replicate_zero, List.push_toArray, List.append_toArray, List.nil_append, List.cons_append]
  go_upto_region 1 with (first
    | ((with_reducible refine gate_dst (N := 3) rfl ?_)
       refine box_event ?hg (N := 3) ?hd (cs := #[.slice A0 l0.length c0, .slice A1 l1.length c1]) (t := 25) ?hr ?_
       (case hd => rfl)
       (case hg => rfl)
       (case hr => first | (go_simp; done) | (go_simp; rfl))
       intro g3 hg_g3 w2 hbox hbb
       have S32 := Az.mk hbox
       have HB2 := Az.mk hbb
       have HL3 := Az.mk (show w.heap.size ≤ g3 from by omega)
       clear hbox hbb hg_g3)
    | ((with_reducible refine gate_dst (N := 4) rfl ?_)
       refine box_event ?hg (N := 4) ?hd (cs := #[.int .i64 x.f0, .int .i64 x.f1, .slice A x.f2.length c]) (t := 28) ?hr ?_
       (case hd => rfl)
       (case hg => rfl)
       (case hr => first | (go_simp; done) | (go_simp; rfl))
       intro g4 hg_g4 w3 hbox hbb
       have S33 := Az.mk (bkB S32.out hbb)
       have S43 := Az.mk hbox
       have HB3 := Az.mk (bst HB2.out hbb)
       clear S32 HB2
       clear hbox hbb hg_g4)
    | ((with_reducible refine gate_dst (N := 5) rfl ?_)
       refine box_event ?hg (N := 5) ?hd (cs := #[.int .i64 fuel]) (t := 3) ?hr ?_
       (case hd => rfl)
       (case hg => rfl)
       (case hr => first | (go_simp; done) | (go_simp; rfl))
       intro g5 hg_g5 w4 hbox hbb
       have S34 := Az.mk (bkB S33.out hbb)
       have S44 := Az.mk (bkB S43.out hbb)
       have S54 := Az.mk hbox
       have HB4 := Az.mk (bst HB3.out hbb)
       clear S33 S43 HB3
       clear hbox hbb hg_g5)
    | ((with_reducible refine gate_dst (N := 6) rfl ?_)
       refine box_event ?hg (N := 6) ?hd (cs := #[.slice none 0 0]) (t := 40) ?hr ?_
       (case hd => rfl)
       (case hg => rfl)
       (case hr => first | (go_simp; done) | (go_simp; rfl))
       intro g6 hg_g6 w5 hbox hbb
       have S35 := Az.mk (bkB S34.out hbb)
       have S45 := Az.mk (bkB S44.out hbb)
       have S55 := Az.mk (bkB S54.out hbb)
       have S65 := Az.mk hbox
       have HG6 := Az.mk (show w.heap.size ≤ g6 from by have := HB4.out.size; omega)
       have HB5 := Az.mk (bst HB4.out hbb)
       clear S34 S44 S54 HB4
       clear hbox hbb hg_g6)
    | ((with_reducible refine gate_dst (N := 7) rfl ?_)
       refine box_event ?hg (N := 7) ?hd (cs := #[.int .i64 0]) (t := 29) ?hr ?_
       (case hd => rfl)
       (case hg => rfl)
       (case hr => first | (go_simp; done) | (go_simp; rfl))
       intro g7 hg_g7 w6 hbox hbb
       have S3 := Az.mk (bkB S35.out hbb)
       have S4 := Az.mk (bkB S45.out hbb)
       have S5 := Az.mk (bkB S55.out hbb)
       have S6 := Az.mk (bkB S65.out hbb)
       have S7 := Az.mk hbox
       have HG7 := Az.mk (show w.heap.size ≤ g7 from by have := HB5.out.size; omega)
       have HB6 := Az.mk (bst HB5.out hbb)
       clear S35 S45 S55 S65 HB5
       clear hbox hbb hg_g7))
  have e0 : w6.cell? ⟨g3, 0, none⟩ = some (.slice A0 l0.length c0) := (blk_cell S3.out 0).trans rfl
  have e1 : w6.cell? ⟨g3, 1, none⟩ = some (.slice A1 l1.length c1) := (blk_cell S3.out 1).trans rfl
  have m0 : w6.cell? ⟨g4, 0, none⟩ = some (.int .i64 x.f0) := (blk_cell S4.out 0).trans rfl
  have m1 : w6.cell? ⟨g4, 1, none⟩ = some (.int .i64 x.f1) := (blk_cell S4.out 1).trans rfl
  have m2 : w6.cell? ⟨g4, 2, none⟩ = some (.slice A x.f2.length c) := (blk_cell S4.out 2).trans rfl
  obtain ⟨z, hz⟩ : ∃ z, stB l0 l1 x = z := ⟨_, rfl⟩
  have HZ := Az.mk hz
  clear hz
  go_upto_region 2 with (
    go_at_call 11
    (with_reducible refine (check_at (HS.out.below HB6.out) (HT.out.below HB6.out) z HZ.out).mono ?_)
    rintro e9 w7 ⟨rfl, hb7⟩
    have HB7 := Az.mk (bst HB6.out hb7)
    have S37 := Az.mk (bkB S3.out hb7)
    have S47 := Az.mk (bkB S4.out hb7)
    have S57 := Az.mk (bkB S5.out hb7)
    have S67 := Az.mk (bkB S6.out hb7)
    have S77 := Az.mk (bkB S7.out hb7)
    clear hb7
    skip)
  clear e0 e1 m0 m1 m2 S3 S4 S5 S6 S7 HB6
  by_cases hz : z = 0
  rotate_left
  · have hf := HF.out
    rw [headsF_neg HZ.out hz] at hf
    injection hf with h1 h2
    subst h1 h2
    have q1 : (z != 0) = true := bne_iff_ne.2 hz
    have q2 : (z == 0) = false := beq_eq_false_iff_ne.2 hz
    clear hz HF
    have z6 : w7.cell? ⟨g6, 0, none⟩ = some (.slice none 0 0) := (blk_cell S67.out 0).trans rfl
    have z7 : w7.cell? ⟨g7, 0, none⟩ = some (.int .i64 0) := (blk_cell S77.out 0).trans rfl
    have f6 := bkF S67.out 0
    have f7 := bkF S77.out 0
    have hn := blk_ne S67.out S77.out (by decide)
    have hn' := hn.symm
    go_wp2_with fail
    exact ret19 g6 g7 (.slice none 0 0) (.int .i64 z) rfl rfl (blk_far (p := ⟨g7, 0, none⟩) (blk_put (cs' := #[.slice none 0 0]) S67.out 0 _ rfl) hn _) (blk_put (cs' := #[.int .i64 z]) (blk_far (p := ⟨g6, 0, none⟩) S77.out hn' _) 0 _ rfl) ⟨none, 0, rfl, Ns.nil _, bset (bset HB7.out HG6.out) HG7.out⟩
  subst hz
  have b5 : w7.cell? ⟨g5, 0, none⟩ = some (.int .i64 fuel) := (blk_cell S57.out 0).trans rfl
  by_cases hfu : fuel < 0 ∨ 1048576 < fuel
  · have hf := HF.out
    rw [headsF_fuel HZ.out hfu] at hf
    injection hf with h1 h2
    subst h1 h2
    have HFu := Az.mk (fuelled_no hfu)
    clear hfu HF
    go_wp2_with fail
    (with_reducible refine (step_fuelled.calls fuel 2 _ HFu.out).mono ?_)
    rintro e w8 ⟨rfl, hd8⟩
    have hb8 := Drawn0.below hd8
    have HB8 := Az.mk (bst HB7.out hb8)
    have S68 := Az.mk (bkB S67.out hb8)
    have S78 := Az.mk (bkB S77.out hb8)
    have z6 : w8.cell? ⟨g6, 0, none⟩ = some (.slice none 0 0) := (blk_cell S68.out 0).trans rfl
    have z7 : w8.cell? ⟨g7, 0, none⟩ = some (.int .i64 0) := (blk_cell S78.out 0).trans rfl
    have f6 := bkF S68.out 0
    have f7 := bkF S78.out 0
    have hn := blk_ne S68.out S78.out (by decide)
    have hn' := hn.symm
    clear hd8 hb8
    go_wp2_with fail
    exact ret19 g6 g7 (.slice none 0 0) (.int .i64 2) rfl rfl (blk_far (p := ⟨g7, 0, none⟩) (blk_put (cs' := #[.slice none 0 0]) S68.out 0 _ rfl) hn _) (blk_put (cs' := #[.int .i64 2]) (blk_far (p := ⟨g6, 0, none⟩) S78.out hn' _) 0 _ rfl) ⟨none, 0, rfl, Ns.nil _, bset (bset HB8.out HG6.out) HG7.out⟩
  obtain ⟨fu, rfl⟩ : ∃ k : Nat, fuel = (k : Int) := ⟨fuel.toNat, by omega⟩
  have hfu2 : fu ≤ 1048576 := by omega
  have HFu := Az.mk (fuelled_ok hfu)
  have HGO := Az.mk (show (goT l1 fu x []).2 = (L, er) from by have h := HF.out; rw [headsF_ok HZ.out hfu, Int.toNat_natCast] at h; exact h)
  obtain ⟨hs, htc, hcl⟩ := stB_zero HZ.out
  obtain ⟨hsm, h1, h64⟩ := sch_parts hs
  have HSB := Az.mk hs
  have HCL := Az.mk hcl
  have HTC := Az.mk htc
  have HF2 := Az.mk hfu2
  have H64 := Az.mk h64
  have HBG := Az.mk (show ∀ x ∈ l1, tcnt x.f2 ≤ 1000000 from fun x hx => by have := (sch_bodies hs).2 x hx; omega)
  have HBG2 := Az.mk (show ∀ x ∈ l1, tcntL x.f2.f2 ≤ 1000000 from fun x hx => by have := (sch_bodies hs).2 x hx; have := tcnt_f2 x.f2; omega)
  have HTL := Az.mk (show tcntL x.f2 ≤ 1000000 from by have := tcnt_f2 x; omega)
  have HTT := Az.mk (show (⟨x.f0, x.f1, x.f2⟩ : S28) = x from by cases x; rfl)
  clear hs htc hcl hsm h1 h64 HF hfu hfu2
  go_upto_region 8 with (first
    | (go_at_call 42
       (with_reducible refine (step_fuelled.calls (fu : Int) 0 _ HFu.out).mono ?_)
       rintro e w8 ⟨rfl, hd8⟩
       have hb8 := Drawn0.below hd8
       have HB8 := Az.mk (bst HB7.out hb8)
       have S38 := Az.mk (bkB S37.out hb8)
       have S48 := Az.mk (bkB S47.out hb8)
       have S58 := Az.mk (bkB S57.out hb8)
       have S68 := Az.mk (bkB S67.out hb8)
       have S78 := Az.mk (bkB S77.out hb8)
       clear hd8 hb8 b5 S37 S47 S57 S67 S77 HB7)
    | ((with_reducible refine gate_dst (N := 10) rfl ?_)
       refine box_event ?hg (N := 10) ?hd (cs := #[.slice none 0 0]) (t := 40) ?hr ?_
       (case hd => rfl)
       (case hg => rfl)
       (case hr => first | (go_simp; done) | (go_simp; rfl))
       intro gO hg_gO w9 hbox hbb
       have S39 := Az.mk (bkB S38.out hbb)
       have S49 := Az.mk (bkB S48.out hbb)
       have S59 := Az.mk (bkB S58.out hbb)
       have S69 := Az.mk (bkB S68.out hbb)
       have S79 := Az.mk (bkB S78.out hbb)
       have SO9 := Az.mk hbox
       have HG6O := Az.mk (show g6 ≠ gO from by have := blk_lt S68.out; omega)
       have HGO_ := Az.mk (show w.heap.size ≤ gO from by have := HB8.out.size; omega)
       have HB9 := Az.mk (bst HB8.out hbb)
       clear S38 S48 S58 S68 S78 HB8
       clear hbox hbb hg_gO))
  have e0 : w9.cell? ⟨g3, 0, none⟩ = some (.slice A0 l0.length c0) := (blk_cell S39.out 0).trans rfl
  have e1 : w9.cell? ⟨g3, 1, none⟩ = some (.slice A1 l1.length c1) := (blk_cell S39.out 1).trans rfl
  have m0 : w9.cell? ⟨g4, 0, none⟩ = some (.int .i64 x.f0) := (blk_cell S49.out 0).trans rfl
  have m1 : w9.cell? ⟨g4, 1, none⟩ = some (.int .i64 x.f1) := (blk_cell S49.out 1).trans rfl
  have m2 : w9.cell? ⟨g4, 2, none⟩ = some (.slice A x.f2.length c) := (blk_cell S49.out 2).trans rfl
  try simp only [Act.put, List.setIfInBounds_toArray, List.set_cons_succ, List.set_cons_zero]
  go_cut [28] from 24 to 28 (fun v28 wc => ∃ (gs gc gv : Nat) (Ab : Option Addr) (cb : Nat) (Ap : Option Addr) (cp : Nat) (bs : List Value), v28 = .func (.func 68) #[] #[.pointer (some ⟨gc, 0, none⟩), .pointer (some ⟨gs, 0, none⟩)] ∧ Az (wc.heap[gs]? = some (.cells #[.slice Ab l1.length cb, .slice Ap l1.length cp] 69 (0, 0))) ∧ Az (wc.heap[gc]? = some (.cells #[.pointer (some ⟨gv, 0, none⟩)] 65 (0, 0))) ∧ Az (w9.heap.size ≤ gs ∧ w9.heap.size ≤ gc) ∧ Az (Row wc (fun q => w9.heap.size ≤ q ∧ q ≠ gc) (.slice Ab l1.length cb) bs) ∧ Az (ClL wc (fun q => w9.heap.size ≤ q ∧ q ≠ gc) (l1.map (·.f2)) bs) ∧ Az (Cl wc (fun q => w9.heap.size ≤ q ∧ q ≠ gc) x (.pointer (some ⟨gv, 0, none⟩))) ∧ Az (Below w9.heap.size w9 wc))
  case first =>
    go_region_held3 (fun w' => w'.cell? ⟨g3, 0, none⟩ = some (.slice A0 l0.length c0) ∧ w'.cell? ⟨g3, 1, none⟩ = some (.slice A1 l1.length c1) ∧ w'.cell? ⟨g4, 0, none⟩ = some (.int .i64 x.f0) ∧ w'.cell? ⟨g4, 1, none⟩ = some (.int .i64 x.f1) ∧ w'.cell? ⟨g4, 2, none⟩ = some (.slice A x.f2.length c)) (go_keep)
      (first
        | (go_at_call 37
           (with_reducible refine (cscheme_calls A0 c0 l0.length A1 c1 l1 w9.drew (Kd.C_below HS.out.r1 (below_drew HB9.out)) H64.out HBG2.out).mono ?_)
           rintro e9 wA ⟨Ab, cb, Ap, cp, bs, rfl, hrow, hcll, hbA⟩
           have HRowA := Az.mk hrow
           have HClA := Az.mk hcll
           have HbA := Az.mk (bst (below_drew (Below.refl w9.heap.size w9)) hbA)
           have p0 := cell_up hbA (show w9.drew.cell? _ = _ from e0)
           have p1 := cell_up hbA (show w9.drew.cell? _ = _ from e1)
           have p2 := cell_up hbA (show w9.drew.cell? _ = _ from m0)
           have p3 := cell_up hbA (show w9.drew.cell? _ = _ from m1)
           have p4 := cell_up hbA (show w9.drew.cell? _ = _ from m2)
           clear hrow hcll hbA)
        | (go_at_call 39
           (with_reducible refine (cof_calls _ x.f0 x.f1 x.f2 A c wA (Nat.lt_succ_self _) HTL.out (HT.out.below (bst HB9.out HbA.out)).c HT.out.le).mono ?_)
           rintro e9 wB ⟨gv, rfl, hcv, hbB⟩
           rw [HTT.out] at hcv
           have HRowB := Az.mk (Row_below hbB HRowA.out)
           have HClB := Az.mk (ClL_below hbB HClA.out)
           have HCvB := Az.mk hcv
           have HbB := Az.mk (bst HbA.out hbB)
           have r0 := cell_up hbB p0
           have r1 := cell_up hbB p1
           have r2 := cell_up hbB p2
           have r3 := cell_up hbB p3
           have r4 := cell_up hbB p4
           clear hcv hbB)
        | (go_at_call 46
           (with_reducible refine (heads_calls Ab l1.length cb Ap l1.length cp gv wB).mono ?_)
           rintro e9 wC ⟨gs, gc, rfl, hgs, hgc, hls, hlc, hne, hbC⟩
           have HGs := Az.mk hgs
           have HGc := Az.mk hgc
           have HLs := Az.mk hls
           have HLc := Az.mk hlc
           have HbC0 := Az.mk hbC
           have HbC := Az.mk (bst HbB.out hbC)
           have s0 := cell_up hbC r0
           have s1 := cell_up hbC r1
           have s2 := cell_up hbC r2
           have s3 := cell_up hbC r3
           have s4 := cell_up hbC r4
           clear hgs hgc hls hlc hne hbC))
    all_goals (go_wp2_with fail; go_meet; exact ⟨gs, gc, gv, Ab, cb, Ap, cp, bs, rfl, HGs, HGc, ⟨by have := HbB.out.size; have := HLs.out; have := HLc.out; omega⟩, ⟨Row_below HbC0.out (Kd.V_mono (Kd.V_bound (show Kd.V (Kd.raw 1) 65 _ 0 _ (.slice Ab l1.length cb) (bs.map (fun v => [v])) from HRowB.out)) (fun q h => ⟨h.1, fun he => by have := h.2; have := HLc.out; omega⟩))⟩, ⟨ClL_below HbC0.out (ClL_mono (fun q h hl => ⟨h, fun he => by have := HLc.out; omega⟩) HClB.out)⟩, ⟨Cl_below HbC0.out (Cl_mono (fun q h hl => ⟨Nat.le_trans HbA.out.size h, fun he => by have := HLc.out; omega⟩) HCvB.out)⟩, HbC⟩)
  case rest =>
    obtain ⟨gs, gc, gv, Ab, cb, Ap, cp, bs, rfl, HGs, HGc, HLe, HRow, HClL, HClv, HBc⟩ := hcut
    clear e0 e1 m0 m1 m2 HTL HBG2 H64 HTT
    have HB10 := Az.mk (bst HB9.out HBc.out)
    have S5 := Az.mk (bkB S59.out HBc.out)
    have S6 := Az.mk (bkB S69.out HBc.out)
    have S7 := Az.mk (bkB S79.out HBc.out)
    have SO := Az.mk (bkB SO9.out HBc.out)
    have HL5 := Az.mk (blk_lt S59.out)
    have HL6 := Az.mk (blk_lt S69.out)
    have HL7 := Az.mk (blk_lt S79.out)
    have HLO := Az.mk (blk_lt SO9.out)
    clear S59 S69 S79 SO9 S39 S49
    go_wp2_with fail
    refine (wpIn_wide (n := 6)).1 ?_
    refine range_outer rfl (fun _ => trivial) (by decide) (gf := 68) (lb := #[.pointer (some ⟨gc, 0, none⟩), .pointer (some ⟨gs, 0, none⟩)]) rfl (Go.Proofs.enters_of Try.func68 (by kernel_rfl) rfl) ?_
    intro fn rc a' hrc ha
    have HRC := Az.mk hrc
    have HA := Az.mk ha
    clear hrc ha
    obtain ⟨W1, hW1⟩ : ∃ W1, (wc.alloc (.deferred (some []))).alloc (.loop (rc .ready none)) = W1 := ⟨_, rfl⟩
    rw [hW1]
    have hb1 : Below wc.heap.size wc W1 := by rw [← hW1]; exact ((Below.refl _ wc).alloc (Nat.le_refl _) _).alloc (by simp) _
    have hL1 : W1.heap[wc.heap.size + 1]? = some (.loop (rc .ready none)) := by rw [← hW1]; have := World.alloc_heap_new (wc.alloc (.deferred (some []))) (.loop (rc .ready none)); rwa [World.size_alloc] at this
    have hD1 : W1.heap[wc.heap.size]? = some (.deferred (some [])) := by rw [← hW1]; exact (Below.heap_alloc _ _ _ (by simp)).trans (World.alloc_heap_new wc _)
    clear hW1
    have hsz := HBc.out.size
    have hsz2 := HB10.out.size
    have HSZ := Az.mk hsz
    have HSZ2 := Az.mk hsz2
    have hok : ∀ q, (w9.heap.size ≤ q ∧ q ≠ gc) → q < wc.heap.size → HP.ok ⟨w, gs, gc, g5, g6, g7, gO, wc.heap.size, wc.heap.size + 1, wc.heap.size, Ab, cb, Ap, l1.length, cp, bs, l1, fu⟩ (Value.slice none 0 0).ownBlock q := fun q h hl =>
      ⟨⟨show q ≠ gO from by have := HLO.out; omega, show q ≠ gc from h.2, show q ≠ g6 from by have := HL6.out; omega, show q ≠ g7 from by have := HL7.out; omega, show q ≠ wc.heap.size + 1 from by omega, show q ≠ wc.heap.size from by omega⟩, fun he => by cases he⟩
    have H0 := Az.mk (show HJ ⟨w, gs, gc, g5, g6, g7, gO, wc.heap.size, wc.heap.size + 1, wc.heap.size, Ab, cb, Ap, l1.length, cp, bs, l1, fu⟩ (.loop (rc .ready none)) [] x none 0 gv W1 from
      ⟨bkB HGs.out hb1, bkB HGc.out hb1, bkB SO.out hb1, bkB S5.out hb1, bkB S6.out hb1, bkB S7.out hb1, hL1, hD1,
       Row_below hb1 (Kd.V_mono (Kd.V_bound HRow.out) (fun q h => hok q h.1 h.2)), ClL_below hb1 (ClL_mono (fun q h hl => hok q h hl) HClL.out), Cl_below hb1 (Cl_mono (fun q h hl => hok q h hl) HClv.out), World.ownsRow_nil .., bst HB10.out hb1, rfl⟩)
    have HG5B := Az.mk (show g5 < wc.heap.size from by have := HL5.out; omega)
    have HW0 := Az.mk (show w.heap.size ≤ wc.heap.size from hsz2)
    clear hok hb1 hL1 hD1 hsz hsz2
    refine callsIn_wide.2 ?_
    show Calls Try.prog 68 #[.func (.yield (wc.heap.size + 1)) #[] #[], .pointer (some ⟨gc, 0, none⟩), .pointer (some ⟨gs, 0, none⟩)] W1 _
    refine (iter_calls _ l0 6 (wc.heap.size + 1) (.loop (rc .ready none)) (fun W' => ∃ Al cl, HE ⟨w, gs, gc, g5, g6, g7, gO, wc.heap.size, wc.heap.size + 1, wc.heap.size, Ab, cb, Ap, l1.length, cp, bs, l1, fu⟩ (.loop (rc .done (some .ret))) L Al cl er W') (goT l1 fu x []).1 L er HSB.out HBG.out ?hgc ?hY x gv fu W1 H0.out ⟨HCL.out, HTC.out⟩ rfl (Prod.ext rfl HGO.out)).mono ?_
    case hgc => exact Nat.le_trans (bst HB9.out (Below.refl _ _)).size HLe.out.2
    case hY =>
      clear H0
      intro dn u k Ah ch g W hj hm hk hgo
      have HJ0 := Az.mk hj
      refine yield_round HRC.out hj.l rfl ?_
      clear hj
      have HJ2 := Az.mk (HJ0.out.put (lo' := .loop (rc .busy none)) rfl (show w.heap.size ≤ wc.heap.size + 1 from by have := HW0.out; omega) (show wc.heap.size ≠ wc.heap.size + 1 from by omega))
      clear HJ0
      generalize W.putObj (wc.heap.size + 1) (.loop (rc .busy none)) = W2 at *
      have HPL := Az.mk (show w.heap.size ≤ wc.heap.size + 1 from by have := HW0.out; omega)
      have HPN := Az.mk (show wc.heap.size ≠ wc.heap.size + 1 from by omega)
      have co : W2.cell? ⟨gO, 0, none⟩ = some (.slice Ah dn.length ch) := (blk_cell HJ2.out.o 0).trans rfl
      have c5 : W2.cell? ⟨g5, 0, none⟩ = some (.int .i64 fu) := (blk_cell HJ2.out.f 0).trans rfl
      have z6 : W2.cell? ⟨g6, 0, none⟩ = some (.slice none 0 0) := (blk_cell HJ2.out.r1 0).trans rfl
      have z7 : W2.cell? ⟨g7, 0, none⟩ = some (.int .i64 0) := (blk_cell HJ2.out.r2 0).trans rfl
      have f6 : W2.frozen? ⟨g6, 0, none⟩ = false := bkF HJ2.out.r1 0
      have f7 : W2.frozen? ⟨g7, 0, none⟩ = false := bkF HJ2.out.r2 0
      have hn : g6 ≠ g7 := blk_ne HJ2.out.r1 HJ2.out.r2 (by decide)
      have hn' := hn.symm
      have hgo2 : goT l1 k u dn = ((goT l1 fu x []).1, L, er) := hgo
      have hk2 : (dn.length : Int) + k = fu := hk
      clear hgo hk
      by_cases hkz : k = 0
      · subst hkz
        have hlf : (dn.length : Int) = (fu : Int) := by omega
        have hg2 : L = dn ∧ er = 8 := by
          unfold goT at hgo2
          rw [if_pos hm] at hgo2
          injection hgo2 with h1 h2
          injection h2 with h2 h3
          exact ⟨h2.symm, h3.symm⟩
        obtain ⟨hLd, her⟩ := hg2
        have HEE := Az.mk (HJ2.out.fin dn Ah ch 8 HJ2.out.out (show w.heap.size ≤ g6 from HG6.out) (show w.heap.size ≤ g7 from HG7.out))
        have q1 : ((dn.length : Int) == (fu : Int)) = true := beq_iff_eq.2 hlf
        clear hgo2 hk2 hm HJ2
        have HLd := Az.mk hLd
        have HEr := Az.mk her
        clear hLd her hlf
        gi_wp2
        rw [HLd.out, HEr.out]
        first
          | exact ⟨_, _, round_ret HRC.out HEE.out.l, .inr ⟨rfl, Ah, ch, HEE.out.put rfl HPL.out HPN.out⟩⟩
          | exact ⟨_, _, round_ret HRC.out HEE.out.l, ⟨rfl, Ah, ch, HEE.out.put rfl HPL.out HPN.out⟩⟩
      obtain ⟨k', rfl⟩ : ∃ k', k = k' + 1 := ⟨k - 1, by omega⟩
      have q1 : ((dn.length : Int) == (fu : Int)) = false := beq_eq_false_iff_ne.2 (by omega)
      have hcel := HJ2.out.cel
      obtain ⟨y, hy⟩ : ∃ y, nextT l1 u = y := ⟨_, rfl⟩
      have HY := Az.mk hy
      have hcel2 : Cl W2 (HP.ok ⟨w, gs, gc, g5, g6, g7, gO, wc.heap.size, wc.heap.size + 1, wc.heap.size, Ab, cb, Ap, l1.length, cp, bs, l1, fu⟩ (Value.slice Ah dn.length ch).ownBlock) y (.pointer (some ⟨g, 0, none⟩)) := by rw [← hy]; exact hcel
      have hgo3 : (if 100000 < tcnt y then ((⟨0, 0, []⟩ : S28), ([] : List Int), (3 : Int)) else goT l1 k' y (dn ++ [u.f1])) = ((goT l1 fu x []).1, L, er) := by
        rw [← hgo2, ← hy]
        conv => rhs; unfold goT
        rw [if_pos hm]
      clear hcel hgo2
      obtain ⟨cz, hcz⟩ : ∃ cz, csz y = cz := ⟨_, rfl⟩
      have hgt := csz_gt y
      rw [hcz] at hgt
      have HCZ := Az.mk hcz
      have n3 : W2.cell? ⟨g, 3, none⟩ = some (.int .i64 cz) := by
        cases y with
        | mk ky ny ly =>
        unfold Cl at hcel2
        obtain ⟨g', a, vs, he, hok, hg, _, _⟩ := hcel2
        injection he with he
        injection he with he
        injection he with he _ _
        subst he
        rw [← hcz]
        exact (blk_cell hg 3).trans rfl
      clear hcel2 hcz hy
      by_cases hbig : 100000 < cz
      · have p1 : (100000 < cz) = True := eq_true hbig
        rw [if_pos (hgt.1 hbig)] at hgo3
        injection hgo3 with h1 h2
        injection h2 with h2 h3
        have HL0 := Az.mk h2
        have HEr := Az.mk h3
        have HEE := Az.mk (HJ2.out.fin [] none 0 3 (World.ownsRow_nil ..) (show w.heap.size ≤ g6 from HG6.out) (show w.heap.size ≤ g7 from HG7.out))
        clear h1 h2 h3 hbig hgt hk2 hm HJ2
        gi_wp2
        rw [← HL0.out, ← HEr.out]
        first
          | exact ⟨_, _, round_ret HRC.out HEE.out.l, .inr ⟨rfl, none, 0, HEE.out.put rfl HPL.out HPN.out⟩⟩
          | exact ⟨_, _, round_ret HRC.out HEE.out.l, ⟨rfl, none, 0, HEE.out.put rfl HPL.out HPN.out⟩⟩
      have p1 : (100000 < cz) = False := eq_false hbig
      have hnb : ¬ 100000 < tcnt y := fun h => hbig (hgt.2 h)
      rw [if_neg hnb] at hgo3
      have HGN := Az.mk hgo3
      have HNB := Az.mk hnb
      have HBW := Az.mk (show wc.heap.size ≤ W2.heap.size from by have := blk_lt HJ2.out.d; exact Nat.le_of_lt this)
      have HDL := Az.mk (show dn.length ≤ 1048576 from by have := HF2.out; omega)
      clear hgo3 hnb hbig hgt hk2 hm
      gi_wp2_with (
        gi_at_builtin
        refine appendIn rfl (.tmp 41) (.tmp 43) rfl wc.heap.size _ dn u.f1 rfl rfl HJ2.out.out HBW.out HDL.out ?_
        intro v1 w1 hown hgr hat
        obtain ⟨Ah', ch', rfl⟩ := own_slice hown
        have hj3 := HJ2.out.push hown hgr hat HG5B.out HW0.out HGO_.out HG6O.out
        simp only [List.length_append, List.length_singleton] at hj3
        have HJ3 := Az.mk hj3
        have ho1 := blk_grown HJ2.out.o hgr (own_ne HJ2.out.out HJ2.out.o (by decide))
        have co1 : w1.cell? ⟨gO, 0, none⟩ = some (.slice Ah dn.length ch) := (blk_cell ho1 0).trans rfl
        have fo1 : w1.frozen? ⟨gO, 0, none⟩ = false := bkF ho1 0
        clear hown hgr hat ho1 hj3)
      first
        | exact ⟨_, _, round_back HRC.out HJ3.out.l, .inl ⟨rfl, by rw [HY.out]; exact HNB.out, ⟨k', rfl, by rw [HY.out]; exact HGN.out⟩, Ah', ch', HJ3.out.put rfl HPL.out HPN.out⟩⟩
        | (refine ⟨_, _, round_back HRC.out HJ3.out.l, ?_⟩; exact .inl ⟨rfl, by rw [HY.out]; exact HNB.out, by rw [HY.out]; exact HGN.out, Ah', ch', HJ3.out.put rfl HPL.out HPN.out⟩)
    rintro e W' ⟨⟨v, rfl⟩, (⟨hz, u', Ah, ch, g', hj⟩ | ⟨Al, cl, he⟩)⟩
    · subst hz
      have HJ4 := Az.mk (hj.put (lo' := .loop (rc .exhausted none)) rfl (show w.heap.size ≤ wc.heap.size + 1 from by have := HW0.out; omega) (show wc.heap.size ≠ wc.heap.size + 1 from by omega))
      refine ⟨none, _, loop_ready HRC.out hj.l, ?_⟩
      clear hj H0
      generalize W'.putObj (wc.heap.size + 1) (.loop (rc .exhausted none)) = W4 at *
      have HEE := Az.mk (HJ4.out.fin L Ah ch 0 HJ4.out.out (show w.heap.size ≤ g6 from HG6.out) (show w.heap.size ≤ g7 from HG7.out))
      have co : W4.cell? ⟨gO, 0, none⟩ = some (.slice Ah L.length ch) := (blk_cell HJ4.out.o 0).trans rfl
      have z6 : W4.cell? ⟨g6, 0, none⟩ = some (.slice none 0 0) := (blk_cell HJ4.out.r1 0).trans rfl
      have z7 : W4.cell? ⟨g7, 0, none⟩ = some (.int .i64 0) := (blk_cell HJ4.out.r2 0).trans rfl
      have f6 : W4.frozen? ⟨g6, 0, none⟩ = false := bkF HJ4.out.r1 0
      have f7 : W4.frozen? ⟨g7, 0, none⟩ = false := bkF HJ4.out.r2 0
      have hn : g6 ≠ g7 := blk_ne HJ4.out.r1 HJ4.out.r2 (by decide)
      have hn' := hn.symm
      have ha := HA.out
      clear HA HRC
      subst ha
      go_wp2_with fail
      exact ret19m wc.heap.size g6 g7 (.slice Ah L.length ch) (.int .i64 0) rfl rfl HEE.out.d HEE.out.r1 HEE.out.r2 ⟨Ah, ch, rfl, HEE.out.shut HW0.out⟩
    · have HE4 := Az.mk (he.put (lo' := .loop (rc .exhausted (some .ret))) rfl (show w.heap.size ≤ wc.heap.size + 1 from by have := HW0.out; omega) (show wc.heap.size ≠ wc.heap.size + 1 from by omega))
      refine ⟨some .ret, _, loop_done HRC.out he.l, ?_⟩
      have ha := HA.out
      clear HA HRC H0
      subst ha
      refine wpIn_wide.2 ?_
      clear he
      generalize W'.putObj (wc.heap.size + 1) (.loop (rc .exhausted (some .ret))) = W4 at *
      go_wp2_with fail
      exact ret19m wc.heap.size g6 g7 (.slice Al L.length cl) (.int .i64 er) rfl rfl HE4.out.d HE4.out.r1 HE4.out.r2 ⟨Al, cl, rfl, HE4.out.shut HW0.out⟩
end Go.Proofs.Ytnfgpepggehegaa.I
namespace Go.Proofs.Ytnfgpepggehegaa.I
open Go.RowKit Go.Proofs.YtnfgpepggehegaaW.PrintWords Go.Proofs.YtnfgpepggehegaaW.PrintLast Go.Proofs.YtnfgpepggehegaaW.PrintMore
attribute [local go_sem] max2_int min2_int max_two min_two max_three min_three max_four min_four
set_option linter.unusedVariables false
set_option maxRecDepth 100000
set_option linter.unusedSimpArgs false
theorem blk_set2 {w : World} {g : Nat} {t : TypeId} {a b : Value} (h : w.heap[g]? = some (.cells #[a, b] t (0, 0))) (a' b' : Value) : ((w.setCell ⟨g, 0, none⟩ a').setCell ⟨g, 1, none⟩ b').heap[g]? = some (.cells #[a', b'] t (0, 0)) :=
  blk_put (cs' := #[a', b']) (blk_put (cs' := #[a', b]) h 0 a' rfl) 1 b' rfl
theorem below_set2 {w0 w : World} {g : Nat} (h : Below w0.heap.size w0 w) (hg : w0.heap.size ≤ g) (a' b' : Value) : Below w0.heap.size w0 ((w.setCell ⟨g, 0, none⟩ a').setCell ⟨g, 1, none⟩ b') := bset (bset h hg) hg
set_option maxHeartbeats 16000000 in
theorem lawown_calls (A0 : Option Addr) (c0 : Nat) (l0 : List S87) (A1 : Option Addr) (c1 : Nat) (l1 : List S84) (t : S28) (A3 : Option Addr) (c3 : Nat) (fuel : Int) (w : World) (hr0 : Kd.C k87 w A0 l0.length l0) (hc0 : l0.length ≤ c0) (hr1 : Kd.C k84 w A1 l1.length l1) (hc1 : l1.length ≤ c1) (hr3 : Kd.C k28 w A3 t.f2.length t.f2) (hc3 : t.f2.length ≤ c3) :
    Calls Try.prog 10 #[.agg #[.slice A0 l0.length c0, .slice A1 l1.length c1], .agg #[.int .i64 t.f0, .int .i64 t.f1, .slice A3 t.f2.length c3], .int .i64 fuel] w fun e w' => e = .returned (.bool true) ∧ Below w.heap.size w w' := by
  have hu25 := Try.underlying25
  have hu28 := Try.underlying28
  have HS := Az.mk (show Sch w A0 c0 l0 A1 c1 l1 from ⟨hr0, hc0, hr1, hc1⟩)
  have HT := Az.mk (Tm.of hr3 hc3)
  clear hr0 hc0 hr1 hc1 hr3 hc3
  obtain ⟨z, hz0⟩ : ∃ z, stB l0 l1 t = z := ⟨_, rfl⟩
  have HZ := Az.mk hz0
  clear hz0
  go_enter Try.func10, Try.ntmps10
  go_upto_region 1 with (first
    | ((with_reducible refine gate_dst (N := 3) rfl ?_)
       refine box_event ?hg (N := 3) ?hd (cs := #[.slice A0 l0.length c0, .slice A1 l1.length c1]) (t := 25) ?hr ?_
       (case hd => rfl)
       (case hg => rfl)
       (case hr => first | (go_simp; done) | (go_simp; rfl))
       intro g2 hg_g2 w2 hbox hbb
       have S22 := Az.mk hbox
       have HB2 := Az.mk hbb
       clear hbox hbb hg_g2)
    | ((with_reducible refine gate_dst (N := 4) rfl ?_)
       refine box_event ?hg (N := 4) ?hd (cs := #[.int .i64 t.f0, .int .i64 t.f1, .slice A3 t.f2.length c3]) (t := 28) ?hr ?_
       (case hd => rfl)
       (case hg => rfl)
       (case hr => first | (go_simp; done) | (go_simp; rfl))
       intro g3 hg_g3 w3 hbox hbb
       have S2 := Az.mk (bkB S22.out hbb)
       have HB3 := Az.mk (bst HB2.out hbb)
       have S3 := Az.mk hbox
       clear S22 HB2
       clear hbox hbb hg_g3))
  have e0 : w3.cell? ⟨g2, 0, none⟩ = some (.slice A0 l0.length c0) := (blk_cell S2.out 0).trans rfl
  have e1 : w3.cell? ⟨g2, 1, none⟩ = some (.slice A1 l1.length c1) := (blk_cell S2.out 1).trans rfl
  have m0 : w3.cell? ⟨g3, 0, none⟩ = some (.int .i64 t.f0) := (blk_cell S3.out 0).trans rfl
  have m1 : w3.cell? ⟨g3, 1, none⟩ = some (.int .i64 t.f1) := (blk_cell S3.out 1).trans rfl
  have m2 : w3.cell? ⟨g3, 2, none⟩ = some (.slice A3 t.f2.length c3) := (blk_cell S3.out 2).trans rfl
  have HCK := Az.mk (refcheck_at (HS.out.below HB3.out) (HT.out.below HB3.out) z HZ.out)
  by_cases hz : z = 0
  rotate_left
  · have q1 : (z != 0) = true := bne_iff_ne.2 hz
    have q2 : (z == 0) = false := beq_eq_false_iff_ne.2 hz
    clear hz HZ
    go_upto_region 2 with (
    go_at_call 12
    (with_reducible refine (HCK.out).mono ?_)
    rintro e9 w4 ⟨rfl, hb4⟩
    have HB4 := Az.mk (bst HB3.out hb4)
    clear hb4
    skip)
    go_wp2_with fail
    (with_reducible refine (alive_calls _).mono ?_)
    rintro e9 wZ ⟨rfl, hbZ⟩
    have HZZ := Az.mk (bst HB4.out hbZ)
    clear hbZ
    go_wp2_with fail
    go_ret
    exact ⟨rfl, HZZ.out⟩
  subst hz
  by_cases hf : 100 < fuel
  · have q1 : (100 < fuel) = True := eq_true hf
    clear hf
    go_upto_region 2 with (
    go_at_call 12
    (with_reducible refine (HCK.out).mono ?_)
    rintro e9 w4 ⟨rfl, hb4⟩
    have HB4 := Az.mk (bst HB3.out hb4)
    clear hb4
    skip)
    go_wp2_with fail
    (with_reducible refine (alive_calls _).mono ?_)
    rintro e9 wZ ⟨rfl, hbZ⟩
    have HZZ := Az.mk (bst HB4.out hbZ)
    clear hbZ
    go_wp2_with fail
    go_ret
    exact ⟨rfl, HZZ.out⟩
  have q1 : (100 < fuel) = False := eq_false hf
  clear hf
  obtain ⟨hsb, htc, hcl⟩ := stB_zero HZ.out
  have HSB := Az.mk hsb
  have HTC := Az.mk htc
  clear hsb htc hcl
  obtain ⟨⟨y, ms, zs⟩, hF1⟩ : ∃ F, stepF l0 l1 t = F := ⟨_, rfl⟩
  obtain ⟨⟨u, nr, zr⟩, hF2⟩ : ∃ F, runF l0 l1 t fuel = F := ⟨_, rfl⟩
  obtain ⟨⟨L, zh⟩, hF3⟩ : ∃ F, headsF l0 l1 t fuel = F := ⟨_, rfl⟩
  have HF1 := Az.mk hF1
  have HF2 := Az.mk hF2
  have HF3 := Az.mk hF3
  clear hF1 hF2 hF3
  go_upto_region 3 with (
    go_at_call 12
    (with_reducible refine (HCK.out).mono ?_)
    rintro e9 w4 ⟨rfl, hb4⟩
    have HB4 := Az.mk (bst HB3.out hb4)
    have S24 := Az.mk (bkB S2.out hb4)
    have S34 := Az.mk (bkB S3.out hb4)
    clear hb4
    skip)
  clear e0 e1 m0 m1 m2 S2 S3 HCK
  have e0 : w4.cell? ⟨g2, 0, none⟩ = some (.slice A0 l0.length c0) := (blk_cell S24.out 0).trans rfl
  have e1 : w4.cell? ⟨g2, 1, none⟩ = some (.slice A1 l1.length c1) := (blk_cell S24.out 1).trans rfl
  go_upto_region 4 with (first
    | (go_at_call 22
       (with_reducible refine (scopy_at (HS.out.below HB4.out) HSB.out).mono ?_)
       rintro e9 w5 ⟨B0, d0, B1, d1, rfl, hsc, hb5⟩
       have HSC := Az.mk hsc
       have HB5 := Az.mk (bst HB4.out hb5)
       have S25 := Az.mk (bkB S24.out hb5)
       have S35 := Az.mk (bkB S34.out hb5)
       clear hsc hb5 S24 S34
       skip)
    | ((with_reducible refine gate_dst (N := 7) rfl ?_)
       refine box_event ?hg (N := 7) ?hd (cs := #[.slice none 0 0, .slice none 0 0]) (t := 25) ?hr ?_
       (case hd => rfl)
       (case hg => rfl)
       (case hr => first | (go_simp; done) | (go_simp; rfl))
       intro g7 hg_g7 w6 hbox hbb
       have hgw_ := HB5.out.size
       have Hg7g := Az.mk (Nat.le_of_eq hg_g7.symm)
       have Hg7b := Az.mk (below_set2 (bst HB5.out hbb) (show w.heap.size ≤ g7 from by omega) (.slice B0 l0.length d0) (.slice B1 l1.length d1))
       have Hg7w := Az.mk (below_set2 hbb (Nat.le_of_eq hg_g7.symm) (.slice B0 l0.length d0) (.slice B1 l1.length d1))
       have Hg7s := Az.mk (blk_set2 hbox (.slice B0 l0.length d0) (.slice B1 l1.length d1))
       have hcz0 := (blk_cell hbox 0).trans rfl
       have hcz1 := (blk_cell hbox 1).trans rfl
       have hfz0 := bkF hbox 0
       have hfz1 := bkF hbox 1
       clear hgw_
       clear hbox hbb hg_g7))
  clear hcz0 hcz1 hfz0 hfz1 e0 e1
  generalize ((w6.setCell ⟨g7, 0, none⟩ (.slice B0 l0.length d0)).setCell ⟨g7, 1, none⟩ (.slice B1 l1.length d1)) = wp at *
  have S2p := Az.mk (bkB S25.out Hg7w.out)
  have S3p := Az.mk (bkB S35.out Hg7w.out)
  have HSCp := Az.mk (HSC.out.below Hg7w.out)
  clear S25 S35 HSC
  have m0 : wp.cell? ⟨g3, 0, none⟩ = some (.int .i64 t.f0) := (blk_cell S3p.out 0).trans rfl
  have m1 : wp.cell? ⟨g3, 1, none⟩ = some (.int .i64 t.f1) := (blk_cell S3p.out 1).trans rfl
  have m2 : wp.cell? ⟨g3, 2, none⟩ = some (.slice A3 t.f2.length c3) := (blk_cell S3p.out 2).trans rfl
  go_upto_region 5 with (first
    | (go_at_call 23
       (with_reducible refine (tcopy_at (HT.out.below Hg7b.out) HTC.out).mono ?_)
       rintro e9 w7 ⟨Bt, dt, rfl, htc, hb7⟩
       have HTP := Az.mk htc
       have HB7 := Az.mk (bst Hg7b.out hb7)
       have S27 := Az.mk (bkB S2p.out hb7)
       have S37 := Az.mk (bkB S3p.out hb7)
       have S77 := Az.mk (bkB Hg7s.out hb7)
       have HSC7 := Az.mk (HSCp.out.below hb7)
       clear htc hb7
       skip)
    | ((with_reducible refine gate_dst (N := 8) rfl ?_)
       refine box_event ?hg (N := 8) ?hd (cs := #[.int .i64 0, .int .i64 0, .slice none 0 0]) (t := 28) ?hr ?_
       (case hd => rfl)
       (case hg => rfl)
       (case hr => first | (go_simp; done) | (go_simp; rfl))
       intro g8 hg_g8 w8 hbox hbb
       have hgw_ := HB7.out.size
       have Hg8g := Az.mk (Nat.le_of_eq hg_g8.symm)
       have Hg8b := Az.mk (below_set3 (bst HB7.out hbb) (show w.heap.size ≤ g8 from by omega) (.int .i64 t.f0) (.int .i64 t.f1) (.slice Bt t.f2.length dt))
       have Hg8w := Az.mk (below_set3 hbb (Nat.le_of_eq hg_g8.symm) (.int .i64 t.f0) (.int .i64 t.f1) (.slice Bt t.f2.length dt))
       have Hg8s := Az.mk (blk_set3 hbox (.int .i64 t.f0) (.int .i64 t.f1) (.slice Bt t.f2.length dt))
       have hcz0 := (blk_cell hbox 0).trans rfl
       have hcz1 := (blk_cell hbox 1).trans rfl
       have hcz2 := (blk_cell hbox 2).trans rfl
       have hfz0 := bkF hbox 0
       have hfz1 := bkF hbox 1
       have hfz2 := bkF hbox 2
       clear hgw_
       clear hbox hbb hg_g8))
  clear hcz0 hcz1 hcz2 hfz0 hfz1 hfz2 m0 m1 m2
  generalize (((w8.setCell ⟨g8, 0, none⟩ (.int .i64 t.f0)).setCell ⟨g8, 1, none⟩ (.int .i64 t.f1)).setCell ⟨g8, 2, none⟩ (.slice Bt t.f2.length dt)) = wq at *
  have S2q := Az.mk (bkB S27.out Hg8w.out)
  have S3q := Az.mk (bkB S37.out Hg8w.out)
  have S7q := Az.mk (bkB S77.out Hg8w.out)
  have HSCq := Az.mk (HSC7.out.below Hg8w.out)
  have HTPq := Az.mk (HTP.out.below Hg8w.out)
  have HSq := Az.mk (HS.out.below Hg8b.out)
  have HTq := Az.mk (HT.out.below Hg8b.out)
  clear S2p S3p S27 S37 S77 HSCp HSC7 HTP HS HT
  have e0 : wq.cell? ⟨g2, 0, none⟩ = some (.slice A0 l0.length c0) := (blk_cell S2q.out 0).trans rfl
  have e1 : wq.cell? ⟨g2, 1, none⟩ = some (.slice A1 l1.length c1) := (blk_cell S2q.out 1).trans rfl
  have m0 : wq.cell? ⟨g3, 0, none⟩ = some (.int .i64 t.f0) := (blk_cell S3q.out 0).trans rfl
  have m1 : wq.cell? ⟨g3, 1, none⟩ = some (.int .i64 t.f1) := (blk_cell S3q.out 1).trans rfl
  have m2 : wq.cell? ⟨g3, 2, none⟩ = some (.slice A3 t.f2.length c3) := (blk_cell S3q.out 2).trans rfl
  go_upto_region 6 with (first
    | (go_at_call 14
       (with_reducible refine (step_ts HSq.out HTq.out y ms zs HF1.out).mono ?_)
       rintro e9 w9 ⟨Av, cv, rfl, hts, hb9⟩
       have HTS := Az.mk hts
       have HB9 := Az.mk hb9
       have HB9w := Az.mk (bst Hg8b.out hb9)
       clear hts hb9
       skip)
    | ((with_reducible refine gate_dst (N := 9) rfl ?_)
       refine box_event ?hg (N := 9) ?hd (cs := #[.int .i64 0, .int .i64 0, .slice none 0 0]) (t := 28) ?hr ?_
       (case hd => rfl)
       (case hg => rfl)
       (case hr => first | (go_simp; done) | (go_simp; rfl))
       intro g9 hg_g9 wa hbox hbb
       have hgw_ := HB9w.out.size
       have Hg9g := Az.mk (Nat.le_of_eq hg_g9.symm)
       have Hg9b := Az.mk (below_set3 (bst HB9w.out hbb) (show w.heap.size ≤ g9 from by omega) (.int .i64 y.f0) (.int .i64 y.f1) (.slice Av y.f2.length cv))
       have Hg9w := Az.mk (below_set3 hbb (Nat.le_of_eq hg_g9.symm) (.int .i64 y.f0) (.int .i64 y.f1) (.slice Av y.f2.length cv))
       have Hg9s := Az.mk (blk_set3 hbox (.int .i64 y.f0) (.int .i64 y.f1) (.slice Av y.f2.length cv))
       have hcz0 := (blk_cell hbox 0).trans rfl
       have hcz1 := (blk_cell hbox 1).trans rfl
       have hcz2 := (blk_cell hbox 2).trans rfl
       have hfz0 := bkF hbox 0
       have hfz1 := bkF hbox 1
       have hfz2 := bkF hbox 2
       clear hgw_
       clear hbox hbb hg_g9))
  clear hcz0 hcz1 hcz2 hfz0 hfz1 hfz2 e0 e1 m0 m1 m2
  generalize (((wa.setCell ⟨g9, 0, none⟩ (.int .i64 y.f0)).setCell ⟨g9, 1, none⟩ (.int .i64 y.f1)).setCell ⟨g9, 2, none⟩ (.slice Av y.f2.length cv)) = wr at *
  have HTSr := Az.mk (TS_keep (IntSt.of_below Hg9w.out) HTS.out)
  have HBr := Az.mk (bst HB9.out Hg9w.out)
  have y0 : wr.cell? ⟨g9, 0, none⟩ = some (.int .i64 y.f0) := (blk_cell Hg9s.out 0).trans rfl
  have y1 : wr.cell? ⟨g9, 1, none⟩ = some (.int .i64 y.f1) := (blk_cell Hg9s.out 1).trans rfl
  have y2 : wr.cell? ⟨g9, 2, none⟩ = some (.slice Av y.f2.length cv) := (blk_cell Hg9s.out 2).trans rfl
  go_upto_region 7 with (
    go_at_call 24
    (with_reducible refine (turn_calls wq.heap.size _ y.f2 _ wr HTSr.out).mono ?_)
    rintro e9 wb ⟨rfl, hib⟩
    have HIB := Az.mk (hib.elder HBr.out (Nat.le_refl _) HBr.out.size)
    clear hib
    skip)
  clear y0 y1 y2 HTS HTSr Hg9s
  have e0 : wb.cell? ⟨g2, 0, none⟩ = some (.slice A0 l0.length c0) := (blk_cell (bkB S2q.out HIB.out) 0).trans rfl
  have e1 : wb.cell? ⟨g2, 1, none⟩ = some (.slice A1 l1.length c1) := (blk_cell (bkB S2q.out HIB.out) 1).trans rfl
  have m0 : wb.cell? ⟨g3, 0, none⟩ = some (.int .i64 t.f0) := (blk_cell (bkB S3q.out HIB.out) 0).trans rfl
  have m1 : wb.cell? ⟨g3, 1, none⟩ = some (.int .i64 t.f1) := (blk_cell (bkB S3q.out HIB.out) 1).trans rfl
  have m2 : wb.cell? ⟨g3, 2, none⟩ = some (.slice A3 t.f2.length c3) := (blk_cell (bkB S3q.out HIB.out) 2).trans rfl
  go_upto_region 8 with (first
    | (go_at_call 17
       (with_reducible refine (run_ts (HSq.out.below HIB.out) (HTq.out.below HIB.out) fuel u nr zr HF2.out).mono ?_)
       rintro e9 wc ⟨Au, cu, rfl, hts, hbc⟩
       have HTS := Az.mk hts
       have HBC := Az.mk hbc
       have HBCw := Az.mk (bst (bst Hg8b.out HIB.out) hbc)
       clear hts hbc
       skip)
    | ((with_reducible refine gate_dst (N := 12) rfl ?_)
       refine box_event ?hg (N := 12) ?hd (cs := #[.int .i64 0, .int .i64 0, .slice none 0 0]) (t := 28) ?hr ?_
       (case hd => rfl)
       (case hg => rfl)
       (case hr => first | (go_simp; done) | (go_simp; rfl))
       intro gu hg_gu wd hbox hbb
       have hgw_ := HBCw.out.size
       have Hgug := Az.mk (Nat.le_of_eq hg_gu.symm)
       have Hgub := Az.mk (below_set3 (bst HBCw.out hbb) (show w.heap.size ≤ gu from by omega) (.int .i64 u.f0) (.int .i64 u.f1) (.slice Au u.f2.length cu))
       have Hguw := Az.mk (below_set3 hbb (Nat.le_of_eq hg_gu.symm) (.int .i64 u.f0) (.int .i64 u.f1) (.slice Au u.f2.length cu))
       have Hgus := Az.mk (blk_set3 hbox (.int .i64 u.f0) (.int .i64 u.f1) (.slice Au u.f2.length cu))
       have hcz0 := (blk_cell hbox 0).trans rfl
       have hcz1 := (blk_cell hbox 1).trans rfl
       have hcz2 := (blk_cell hbox 2).trans rfl
       have hfz0 := bkF hbox 0
       have hfz1 := bkF hbox 1
       have hfz2 := bkF hbox 2
       clear hgw_
       clear hbox hbb hg_gu))
  clear hcz0 hcz1 hcz2 hfz0 hfz1 hfz2 e0 e1 m0 m1 m2
  generalize (((wd.setCell ⟨gu, 0, none⟩ (.int .i64 u.f0)).setCell ⟨gu, 1, none⟩ (.int .i64 u.f1)).setCell ⟨gu, 2, none⟩ (.slice Au u.f2.length cu)) = we at *
  have HTSr := Az.mk (TS_keep (IntSt.of_below Hguw.out) HTS.out)
  have HBr2 := Az.mk (bst HIB.out (bst HBC.out Hguw.out))
  have HSZ := Az.mk HIB.out.size
  have y0 : we.cell? ⟨gu, 0, none⟩ = some (.int .i64 u.f0) := (blk_cell Hgus.out 0).trans rfl
  have y1 : we.cell? ⟨gu, 1, none⟩ = some (.int .i64 u.f1) := (blk_cell Hgus.out 1).trans rfl
  have y2 : we.cell? ⟨gu, 2, none⟩ = some (.slice Au u.f2.length cu) := (blk_cell Hgus.out 2).trans rfl
  go_upto_region 9 with (
    go_at_call 24
    (with_reducible refine (turn_calls wb.heap.size _ u.f2 _ we HTSr.out).mono ?_)
    rintro e9 wf ⟨rfl, hib⟩
    have HIF := Az.mk (hib.elder HBr2.out HSZ.out HBr2.out.size)
    clear hib
    skip)
  clear y0 y1 y2 HTS HTSr Hgus
  have e0 : wf.cell? ⟨g2, 0, none⟩ = some (.slice A0 l0.length c0) := (blk_cell (bkB S2q.out HIF.out) 0).trans rfl
  have e1 : wf.cell? ⟨g2, 1, none⟩ = some (.slice A1 l1.length c1) := (blk_cell (bkB S2q.out HIF.out) 1).trans rfl
  have m0 : wf.cell? ⟨g3, 0, none⟩ = some (.int .i64 t.f0) := (blk_cell (bkB S3q.out HIF.out) 0).trans rfl
  have m1 : wf.cell? ⟨g3, 1, none⟩ = some (.int .i64 t.f1) := (blk_cell (bkB S3q.out HIF.out) 1).trans rfl
  have m2 : wf.cell? ⟨g3, 2, none⟩ = some (.slice A3 t.f2.length c3) := (blk_cell (bkB S3q.out HIF.out) 2).trans rfl
  go_upto_region 10 with (
    go_at_call 19
    (with_reducible refine (pheads_at (HSq.out.below HIF.out) (HTq.out.below HIF.out) fuel L zh HF3.out).mono ?_)
    rintro e9 wg ⟨Al, cl, rfl, hnl, hbg⟩
    have HBG := Az.mk (bst HIF.out hbg)
    clear hnl hbg
    skip)
  clear e0 e1 m0 m1 m2
  have S2g := Az.mk (bkB S2q.out HBG.out)
  have S3g := Az.mk (bkB S3q.out HBG.out)
  have S7g := Az.mk (bkB S7q.out HBG.out)
  have S8g := Az.mk (bkB Hg8s.out HBG.out)
  have e0 : wg.cell? ⟨g2, 0, none⟩ = some (.slice A0 l0.length c0) := (blk_cell S2g.out 0).trans rfl
  have e1 : wg.cell? ⟨g2, 1, none⟩ = some (.slice A1 l1.length c1) := (blk_cell S2g.out 1).trans rfl
  have x0 : wg.cell? ⟨g7, 0, none⟩ = some (.slice B0 l0.length d0) := (blk_cell S7g.out 0).trans rfl
  have x1 : wg.cell? ⟨g7, 1, none⟩ = some (.slice B1 l1.length d1) := (blk_cell S7g.out 1).trans rfl
  go_wp2_with (first
    | (go_at_call 25
       (with_reducible refine (sequal_at (HSq.out.below HBG.out) (HSCq.out.below HBG.out) HSB.out).mono ?_)
       rintro e9 wh ⟨rfl, hbh⟩
       have HBH := Az.mk (bst HBG.out hbh)
       have m0 := (blk_cell (bkB S3g.out hbh) 0).trans rfl
       have m1 := (blk_cell (bkB S3g.out hbh) 1).trans rfl
       have m2 := (blk_cell (bkB S3g.out hbh) 2).trans rfl
       have y0 := (blk_cell (bkB S8g.out hbh) 0).trans rfl
       have y1 := (blk_cell (bkB S8g.out hbh) 1).trans rfl
       have y2 := (blk_cell (bkB S8g.out hbh) 2).trans rfl
       clear hbh
       skip)
    | (go_at_call 26
       (with_reducible refine (tequal_at (HTq.out.below HBH.out) (HTPq.out.below HBH.out)).mono ?_)
       rintro e9 wi ⟨rfl, hbi⟩
       have HBI := Az.mk (bst Hg8b.out (bst HBH.out hbi))
       clear hbi
       skip)
    | (at_builtin; fail))
  (with_reducible refine (alive_calls _).mono ?_)
  rintro e9 wZ ⟨rfl, hbZ⟩
  have HZZ := Az.mk (bst HBI.out hbZ)
  clear hbZ
  go_wp2_with fail
  go_ret
  exact ⟨rfl, HZZ.out⟩
end Go.Proofs.Ytnfgpepggehegaa.I
namespace Go.Proofs.Ytnfgpepggehegaa.I
open Go.RowKit Go.Proofs.YtnfgpepggehegaaW.PrintWords Go.Proofs.Ytnfgpepggehegaa.VOpen
set_option linter.unusedVariables false
def virgationlaw05_StepOwn.f (k : Nat) (l0 : List S87) (l1 : List S84) (a b : Int) (l : List S28) (i0 : Int) : Option Bool := some true
theorem virgationlaw05_StepOwn.calls (k : Nat) (A0 : Option Addr) (c0 : Nat) (l0 : List S87) (A1 : Option Addr) (c1 : Nat) (l1 : List S84) (a b : Int) (A3 : Option Addr) (c3 : Nat) (l : List S28) (i0 : Int) (r : Bool) (w : World) (hr0 : Kd.C k87 w A0 l0.length l0) (hc0 : l0.length ≤ c0) (hr1 : Kd.C k84 w A1 l1.length l1) (hc1 : l1.length ≤ c1) (hr3 : Kd.C k28 w A3 l.length l) (hc3 : l.length ≤ c3) (h : virgationlaw05_StepOwn.f k l0 l1 a b l i0 = some r) :
    Calls Try.prog 10 #[.agg #[.slice A0 l0.length c0, .slice A1 l1.length c1], .agg #[.int .i64 a, .int .i64 b, .slice A3 l.length c3], .int .i64 i0] w fun e w' => e = .returned (.bool r) ∧ Below w.heap.size w w' := by
  injection h with h
  subst h
  exact lawown_calls A0 c0 l0 A1 c1 l1 ⟨a, b, l⟩ A3 c3 i0 w hr0 hc0 hr1 hc1 hr3 hc3
theorem pure_StepOwn : ∀ (x0 : S25) (x1 : S28) (x2 : Int), (wf25 x0) → (wf28 x1) → ((Lit.int .i64 x2).wf = true) → ∃ k, virgationlaw05_StepOwn.f k x0.f0 x0.f1 x1.f0 x1.f1 x1.f2 x2 = some true := by
  intros
  exact ⟨0, rfl⟩
end Go.Proofs.Ytnfgpepggehegaa.I
