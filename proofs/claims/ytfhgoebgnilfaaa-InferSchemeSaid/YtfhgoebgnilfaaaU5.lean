/- Texts of this session's proof, laid together: IX3, IX4, IX5, IZ0, IZ1, IZ3, IT5, IT6. -/
import Derived.Deep.RegionLaw
import Derived.Deep.RegionHeld3
import Derived.Deep.QuietTactic
import Derived.BigQuiet
import Derived.Test.YtfhgoebgnilfaaaU4
namespace Go.Proofs.Ytfhgoebgnilfaaa.I
open Go.RowKit Go.Proofs.YtfhgoebgnilfaaaW.PrintWords Go.Proofs.YtfhgoebgnilfaaaW.PrintLast Go.Proofs.YtfhgoebgnilfaaaW.PrintMore
attribute [local go_sem] max2_int min2_int max_two min_two max_three min_three max_four min_four
set_option linter.unusedVariables false
set_option maxRecDepth 100000
set_option linter.unusedSimpArgs false
theorem cel1 {w : World} {p : Addr} {v : Value} (h : w.cell? p = some v) : ∀ o : Obj, (w.alloc o).cell? p = some v := fun o => cell_up (below_alloc (Below.refl _ _) o) h
theorem take46_snoc {l : List S46} {i : Nat} (h : i < l.length) : (l.take i).map (·.f1) ++ [⟨(rd_T46 l (i : Int)).f1.f0⟩] = (l.take (i + 1)).map (·.f1) := by
  have e1 : l.take (i + 1) = l.take i ++ [l[i]] := by rw [List.take_add_one, List.getElem?_eq_getElem h]; rfl
  have e2 : rd_T46 l (i : Int) = l[i] := by unfold rd_T46; rw [Int.toNat_natCast, List.getD_eq_getElem?_getD, List.getElem?_eq_getElem h]; rfl
  rw [e1, e2, List.map_append]
  cases h2 : l[i] with
  | mk a b c =>
    cases b
    rfl
set_option maxHeartbeats 16000000 in
theorem place_calls (A0 : Option Addr) (c0 : Nat) (l0 : List S59) (A1 : Option Addr) (c1 : Nat) (l1 : List S46) (j : Nat) (hj : j < l1.length) (w : World) (hr1 : Kd.C k46 w A1 l1.length l1) (hc1 : l1.length ≤ c1) (h64 : l1.length ≤ 64) :
    Calls Try.prog 51 #[.agg #[.slice A0 l0.length c0, .slice A1 l1.length c1], .int .i64 (j : Int)] w fun e w' => ∃ v A2 c2, e = .returned (.agg #[.slice A0 l0.length c0, v, .slice A2 (rd_T46 l1 (j : Int)).f1.f0.length c2]) ∧ Kd.V k41 41 w' w.heap.size (fun _ => True) v (l1.map (·.f1)) ∧ Kd.V k41 41 w' w.heap.size (fun _ => True) (.slice A2 (rd_T46 l1 (j : Int)).f1.f0.length c2) (rd_T46 l1 (j : Int)).f1.f0 ∧ Below w.heap.size w w' := by
  have hu105 := Try.underlying105
  have hu38 := Try.underlying38
  have hu46 := Try.underlying46
  have hu41 := Try.underlying41
  have hu44 := Try.underlying44
  obtain ⟨ad, A2, c2, A4, c4, rfl, hx0, hx1, hx2, hx3, hx4, hl2, hC2, hl4, hC4⟩ := at_T46 hr1 (j : Int) (by omega) (by omega)
  rw [Int.toNat_natCast] at hx1
  have HR1 := Aside0.mk hr1
  have HV2 := Aside0.mk (show Kd.V k41 41 w w.heap.size (fun _ => True) (.slice A2 (rd_T46 l1 (j : Int)).f1.f0.length c2) (rd_T46 l1 (j : Int)).f1.f0 from Kd.V_mk hl2 (Kd.F_mono (Kd.C_F k41_heap hC2) (fun _ _ => trivial)))
  have H64 := Aside0.mk h64
  have p1 : (0 ≤ (j : Int)) = True := eq_true (by omega)
  have p2 : ((j : Int) < (l1.length : Int)) = True := eq_true (by omega)
  have p3 : (j < l1.length) = True := eq_true (by omega)
  have HX1 := Aside0.mk hx1
  clear hr1 hx0 hx2 hx3 hx4 hl2 hC2 hl4 hC4 h64 hx1 hj
  generalize (rd_T46 l1 (j : Int)).f1.f0 = pa at *
  go_enter Try.func51, Try.ntmps51
  go_upto_region 1 with (first
   | ((with_reducible refine gate_dst (N := 2) rfl ?_)
      refine box_event ?hg (N := 2) ?hd (cs := #[.slice A0 l0.length c0, .slice (some ad) l1.length c1]) (t := 38) ?hr ?_
      (case hd => rfl)
      (case hg => rfl)
      (case hr => first | (go_simp; done) | (go_simp; rfl))
      intro g2 hg2 w2 hbox hb2
      have S22 := Aside0.mk hbox
      have HB2 := Aside0.mk hb2
      clear hbox hb2 hg2)
   | ((with_reducible refine gate_dst (N := 4) rfl ?_)
      refine box_event ?hg (N := 4) ?hd (cs := #[.slice none 0 0, .slice none 0 0, .slice none 0 0]) (t := 105) ?hr ?_
      (case hd => rfl)
      (case hg => rfl)
      (case hr => first | (go_simp; done) | (go_simp; rfl))
      intro g4 hg4 w4 hbox hb4
      have hw4 : w.heap.size ≤ g4 := by have := HB2.out.size; omega
      have S24 := Aside0.mk (blk_below S22.out hb4)
      have S44 := Aside0.mk hbox
      have HB4 := Aside0.mk (below_step HB2.out hb4)
      have a0 : w4.cell? ⟨g2, 0, none⟩ = some (.slice A0 l0.length c0) := (blk_cell S24.out 0).trans rfl
      have a1 : w4.cell? ⟨g2, 1, none⟩ = some (.slice (some ad) l1.length c1) := (blk_cell S24.out 1).trans rfl
      have x1 := cell_up HB4.out HX1.out
      have a0' := cel1 a0
      have a1' := cel1 a1
      have x1' := cel1 x1
      clear hbox hb4 hg4 S22 HB2))
  simp only [Act.put, List.setIfInBounds_toArray, List.set_cons_succ, List.set_cons_zero]
  go_cut [5] from 8 to 17 (fun v5 wc => v5 = .pointer (some ⟨w4.heap.size, 0, none⟩) ∧ wc = (w4.alloc (.cells #[.slice A0 l0.length c0, .slice none 0 0, .slice A2 pa.length c2] 105)).drew)
  case first =>
    go_region
    all_goals (go_wp2_with fail; go_meet; exact ⟨rfl, rfl⟩)
  case rest =>
    obtain ⟨rfl, rfl⟩ := hcut
    clear a0 a1 x1 a0' a1' x1'
    have hb5 : Below w4.heap.size w4 (w4.alloc (.cells #[.slice A0 l0.length c0, .slice none 0 0, .slice A2 pa.length c2] 105)).drew := below_drew (below_alloc (Below.refl _ _) _)
    have S5 := Aside0.mk (show (w4.alloc (.cells #[.slice A0 l0.length c0, .slice none 0 0, .slice A2 pa.length c2] 105)).drew.heap[w4.heap.size]? = some (.cells #[.slice A0 l0.length c0, .slice none 0 0, .slice A2 pa.length c2] 105 (0, 0)) from blk_drew (blk_new _ _))
    have HB5 := Aside0.mk (below_step HB4.out hb5)
    have S25 := Aside0.mk (blk_below S24.out hb5)
    have S45 := Aside0.mk (blk_below S44.out hb5)
    have hw5 : w.heap.size ≤ w4.heap.size := HB4.out.size
    have hn45 : g4 ≠ w4.heap.size := by have := blk_lt S44.out; omega
    clear hb5 S24 S44 HB4
    generalize (w4.alloc (.cells #[.slice A0 l0.length c0, .slice none 0 0, .slice A2 pa.length c2] 105)).drew = w5 at *
    generalize w4.heap.size = g5 at *
    have b1 : w5.cell? ⟨g2, 1, none⟩ = some (.slice (some ad) l1.length c1) := (blk_cell S25.out 1).trans rfl
    go_wp2_with fail
    clear b1
    go_loopg [21] l1.length (fun kq v21 wr => ∃ (i : Nat) (Af : Option Addr) (cf : Nat), v21 = .int .i64 (i : Int) ∧ Aside0 (i + kq = l1.length) ∧ Aside0 (Kd.N k41 41 wr w.heap.size (fun k => k ≠ g4 ∧ k ≠ g5) (.slice Af i cf) ((l1.take i).map (·.f1))) ∧ Aside0 (wr.heap[g5]? = some (.cells #[.slice A0 l0.length c0, .slice Af i cf, .slice A2 pa.length c2] 105 (0, 0))) ∧ Aside0 (wr.heap[g4]? = some (.cells #[.slice none 0 0, .slice none 0 0, .slice none 0 0] 105 (0, 0))) ∧ Aside0 (Below w.heap.size w wr))
    case atStart => exact ⟨0, none, 0, rfl, ⟨by omega⟩, ⟨Kd.N_nil _ _ _ _ _⟩, S5, S45, HB5⟩
    case round =>
      clear S5 S45 HB5 S25
      obtain ⟨i, Af, cf, rfl, Hi, HN, S5, S4, HB⟩ := hrel
      have h64' := H64.out
      by_cases hlt : i < l1.length
      rotate_left
      · have hie : i = l1.length := by have := Hi.out; omega
        subst hie
        have e0 : wr.cell? ⟨g5, 0, none⟩ = some (.slice A0 l0.length c0) := (blk_cell S5.out 0).trans rfl
        have e1 : wr.cell? ⟨g5, 1, none⟩ = some (.slice Af l1.length cf) := (blk_cell S5.out 1).trans rfl
        have e2 : wr.cell? ⟨g5, 2, none⟩ = some (.slice A2 pa.length c2) := (blk_cell S5.out 2).trans rfl
        have d0 : wr.cell? ⟨g4, 0, none⟩ = some (.slice none 0 0) := (blk_cell S4.out 0).trans rfl
        have d1 : wr.cell? ⟨g4, 1, none⟩ = some (.slice none 0 0) := (blk_cell S4.out 1).trans rfl
        have d2 : wr.cell? ⟨g4, 2, none⟩ = some (.slice none 0 0) := (blk_cell S4.out 2).trans rfl
        have f0 := blk_frozen S4.out 0
        have f1 := blk_frozen S4.out 1
        have f2 := blk_frozen S4.out 2
        go_wp2_with fail
        have Sz := blk_put (cs' := #[.slice A0 l0.length c0, .slice Af l1.length cf, .slice A2 pa.length c2]) (blk_put (cs' := #[.slice A0 l0.length c0, .slice Af l1.length cf, .slice none 0 0]) (blk_put (cs' := #[.slice A0 l0.length c0, .slice none 0 0, .slice none 0 0]) S4.out 0 (.slice A0 l0.length c0) rfl) 1 (.slice Af l1.length cf) rfl) 2 (.slice A2 pa.length c2) rfl
        refine bodyPost_ret (results_cell_row rfl _ _ g4 105 #[.slice A0 l0.length c0, .slice Af l1.length cf, .slice A2 pa.length c2] (0, 0) _ rfl Sz Try.underlying105 rfl (by kernel_rfl)) rfl ?_
        have hN := HN.out
        rw [List.take_length] at hN
        have hV := Kd.V_far (p := ⟨g4, 2, none⟩) (Kd.V_far (p := ⟨g4, 1, none⟩) (Kd.V_far (p := ⟨g4, 0, none⟩) (Kd.N_V (base' := w.heap.size) hN) (fun k hk => hk.1) (.slice A0 l0.length c0)) (fun k hk => hk.1) (.slice Af l1.length cf)) (fun k hk => hk.1) (.slice A2 pa.length c2)
        have hbz := below_set (g := g4) (j := 2) (v := .slice A2 pa.length c2) (below_set (g := g4) (j := 1) (v := .slice Af l1.length cf) (below_set (g := g4) (j := 0) (v := .slice A0 l0.length c0) HB.out hw4) hw4) hw4
        exact ⟨_, A2, c2, rfl, Kd.V_mono hV (fun _ _ => trivial), Kd.V_below HV2.out hbz, hbz⟩
      obtain ⟨ad', A3, c3, A4, c4, he, hx0, hx1, hx2, hx3, hx4, hl3, hC3, hl4, hC4⟩ := at_T46 HR1.out (i : Int) (by omega) (by omega)
      cases he
      replace hx0 := (HB.out.cell (World.block_lt_of_cell? w _ hx0)).trans hx0
      replace hx1 := (HB.out.cell (World.block_lt_of_cell? w _ hx1)).trans hx1
      replace hx2 := (HB.out.cell (World.block_lt_of_cell? w _ hx2)).trans hx2
      replace hx3 := (HB.out.cell (World.block_lt_of_cell? w _ hx3)).trans hx3
      replace hx4 := (HB.out.cell (World.block_lt_of_cell? w _ hx4)).trans hx4
      rw [Int.toNat_natCast] at hx0 hx1 hx2 hx3 hx4
      have HSN := Aside0.mk (take46_snoc hlt)
      have HF3 := Aside0.mk (Kd.C_F k41_heap hC3)
      have Hl3 := Aside0.mk hl3
      have q1 : (0 ≤ (i : Int)) = True := eq_true (by omega)
      have q2 : ((i : Int) < (l1.length : Int)) = True := eq_true (by omega)
      have q3 : (i < l1.length) = True := eq_true (by omega)
      clear hC3 hl4 hC4 hl3
      generalize rd_T46 l1 (i : Int) = x at *
      go_wp2_with (first
        | ((with_reducible refine gate_dst (N := 7) rfl ?_)
           refine box_event ?hg (N := 7) ?hd (cs := #[.string (⟨#[]⟩ : ByteArray), .slice none 0 0, .int .i64 0, .int .i64 0, .slice none 0 0]) (t := 46) ?hr ?_
           (case hd => rfl)
           (case hg => rfl)
           (case hr => first | (go_simp; done) | (go_simp; rfl))
           intro gi hgi w6 hbox hb6
           have hgw : wr.heap.size ≤ gi := by omega
           have Hbw := Aside0.mk (below_set (g := gi) (j := 4) (v := .slice A4 x.f2.f2.length c4) (below_set (g := gi) (j := 3) (v := .int .i64 x.f2.f1) (below_set (g := gi) (j := 2) (v := .int .i64 x.f2.f0) (below_set (g := gi) (j := 1) (v := .slice A3 x.f1.f0.length c3) (below_set (g := gi) (j := 0) (v := .string x.f0) hb6 hgw) hgw) hgw) hgw) hgw)
           have Hgi := Aside0.mk (blk_put (cs' := #[.string x.f0, .slice A3 x.f1.f0.length c3, .int .i64 x.f2.f0, .int .i64 x.f2.f1, .slice A4 x.f2.f2.length c4]) (blk_put (cs' := #[.string x.f0, .slice A3 x.f1.f0.length c3, .int .i64 x.f2.f0, .int .i64 x.f2.f1, .slice none 0 0]) (blk_put (cs' := #[.string x.f0, .slice A3 x.f1.f0.length c3, .int .i64 x.f2.f0, .int .i64 0, .slice none 0 0]) (blk_put (cs' := #[.string x.f0, .slice A3 x.f1.f0.length c3, .int .i64 0, .int .i64 0, .slice none 0 0]) (blk_put (cs' := #[.string x.f0, .slice none 0 0, .int .i64 0, .int .i64 0, .slice none 0 0]) hbox 0 (.string x.f0) rfl) 1 (.slice A3 x.f1.f0.length c3) rfl) 2 (.int .i64 x.f2.f0) rfl) 3 (.int .i64 x.f2.f1) rfl) 4 (.slice A4 x.f2.f2.length c4) rfl)
           have hcz0 := (blk_cell hbox 0).trans rfl
           have hfz0 := blk_frozen hbox 0
           have hcz1 := (blk_cell hbox 1).trans rfl
           have hfz1 := blk_frozen hbox 1
           have hcz2 := (blk_cell hbox 2).trans rfl
           have hfz2 := blk_frozen hbox 2
           have hcz3 := (blk_cell hbox 3).trans rfl
           have hfz3 := blk_frozen hbox 3
           have hcz4 := (blk_cell hbox 4).trans rfl
           have hfz4 := blk_frozen hbox 4
           have m1 := (blk_cell Hgi.out 1).trans rfl
           have m5 := (blk_cell (blk_below S5.out Hbw.out) 1).trans rfl
           clear hbox hb6 hgi hgw)
        | (at_builtin; refine holdX ?_))
      unfold HoldX
      clear hcz0 hcz1 hcz2 hcz3 hcz4 hfz0 hfz1 hfz2 hfz3 hfz4 m1 m5 hx0 hx1 hx2 hx3 hx4
      have hs : (((((w6.setCell ⟨gi, 0, none⟩ (.string x.f0)).setCell ⟨gi, 1, none⟩ (.slice A3 x.f1.f0.length c3)).setCell ⟨gi, 2, none⟩ (.int .i64 x.f2.f0)).setCell ⟨gi, 3, none⟩ (.int .i64 x.f2.f1)).setCell ⟨gi, 4, none⟩ (.slice A4 x.f2.f2.length c4)).heap.size = w6.heap.size := by simp only [World.size_setCell]
      rw [← hs]
      clear hs
      generalize (((((w6.setCell ⟨gi, 0, none⟩ (.string x.f0)).setCell ⟨gi, 1, none⟩ (.slice A3 x.f1.f0.length c3)).setCell ⟨gi, 2, none⟩ (.int .i64 x.f2.f0)).setCell ⟨gi, 3, none⟩ (.int .i64 x.f2.f1)).setCell ⟨gi, 4, none⟩ (.slice A4 x.f2.f2.length c4)) = wq at *
      have HBq := Aside0.mk (below_step HB.out Hbw.out)
      have HNq := Aside0.mk (Kd.N_below HN.out Hbw.out)
      have S5q := Aside0.mk (blk_below S5.out Hbw.out)
      have S4q := Aside0.mk (blk_below S4.out Hbw.out)
      clear Hbw HN S5 S4 HB Hgi
      refine Kd.N_append k41 (w0 := w) w.heap.size rfl (.tmp 26) (.tmp 29) 31 41 (.agg #[.slice none 0 0]) 24 rfl Try.underlying31 infoS41 rfl (by decide) (by omega) (.slice Af i cf) ((l1.take i).map (·.f1)) ⟨x.f1.f0⟩ [.slice A3 x.f1.f0.length c3] (fun k => k ≠ g4 ∧ k ≠ g5) (fun k => k < w.heap.size) rfl rfl (k41_mkF _ _ (⟨x.f1.f0⟩ : S41) Hl3.out (Kd.F_below HF3.out HBq.out)) (fun k hk => ⟨⟨by omega, by omega⟩, fun e => by have := Kd.N_base HNq.out k e.symm; omega⟩) (fun k hk => by have := blk_lt S4q.out; have := blk_lt S5q.out; exact ⟨by omega, by omega⟩) HNq.out HBq.out HBq.out.size (by rw [List.length_map, List.length_take]; have := H64.out; omega) ?_
      intro v2 w7 hn7 hb7 hg7 hat
      rw [HSN.out] at hn7
      obtain ⟨A5, c5, e2⟩ := Kd.N_slice hn7
      rw [List.length_map, List.length_take, Nat.min_eq_left (by omega)] at e2
      subst e2
      have HN7 := Aside0.mk hn7
      have HB7 := Aside0.mk hb7
      have S57 := Aside0.mk (blk_grown S5q.out hg7 (Kd.N_away HNq.out (fun k hk => hk.2)))
      have S47 := Aside0.mk (blk_grown S4q.out hg7 (Kd.N_away HNq.out (fun k hk => hk.1)))
      have m5 : w7.cell? ⟨g5, 1, none⟩ = some (.slice Af i cf) := (blk_cell S57.out 1).trans rfl
      have f5 := blk_frozen S57.out 1
      clear hn7 hb7 hg7 hat HNq S5q S4q HBq HSN HF3 Hl3
      go_wp2_with fail
      have HN8 := Aside0.mk (Kd.N_far (p := ⟨g5, 1, none⟩) HN7.out (fun k hk => hk.2) (.slice A5 (i + 1) c5))
      have HB8 := Aside0.mk (below_set (g := g5) (j := 1) (v := .slice A5 (i + 1) c5) HB7.out hw5)
      have S58 := Aside0.mk (blk_put (cs' := #[.slice A0 l0.length c0, .slice A5 (i + 1) c5, .slice A2 pa.length c2]) S57.out 1 (.slice A5 (i + 1) c5) rfl)
      have S48 := Aside0.mk (blk_far (p := ⟨g5, 1, none⟩) S47.out hn45 (.slice A5 (i + 1) c5))
      have hk := Hi.out
      obtain ⟨k1, rfl⟩ : ∃ k1, gk = k1 + 1 := ⟨gk - 1, by omega⟩
      go_roundg k1
      case measure => omega
      case rel => exact ⟨i + 1, A5, c5, by go_num, ⟨by omega⟩, HN8, S58, S48, HB8⟩
end Go.Proofs.Ytfhgoebgnilfaaa.I
namespace Go.Proofs.Ytfhgoebgnilfaaa.I
open Go.RowKit Go.Proofs.YtfhgoebgnilfaaaW.PrintWords Go.Proofs.YtfhgoebgnilfaaaW.PrintLast Go.Proofs.YtfhgoebgnilfaaaW.PrintMore
attribute [local go_sem] max2_int min2_int max_two min_two max_three min_three max_four min_four
set_option linter.unusedVariables false
set_option maxRecDepth 100000
set_option linter.unusedSimpArgs false
def funOk (f : S46) : Bool := nameOk f.f0 && (isok f.f1.f0 && !big f.f2)
def funsL : List S46 → List ByteArray → Bool
  | [], _ => true
  | f :: fs, L => (funOk f && !isIn L f.f0) && funsL fs (L ++ [f.f0])
def bodiesL (sy : List S59) (fu : List S41) : List S46 → Bool
  | [] => true
  | f :: fs => (match ofT sy fu f.f1.f0 f.f2 with
    | none => false
    | some s => decide (s.length = 0)) && bodiesL sy fu fs
def names46 (l : List S46) : List ByteArray := l.map (fun x => x.f0)
def schB (sy : List S59) (fs : List S46) : Bool := (symsL sy [] && decide (sy.length ≤ 24)) && ((decide (1 ≤ fs.length) && decide (fs.length ≤ 64)) && (funsL fs [] && (decide ((rd_T46 fs 0).f1.f0.length = 0) && bodiesL sy (fs.map (·.f1)) fs)))
theorem rd_T46_drop (l : List S46) (i : Nat) (h : i < l.length) : l.drop i = rd_T46 l (i : Int) :: l.drop (i + 1) := by
  unfold rd_T46
  rw [Int.toNat_natCast, List.getD_eq_getElem?_getD, List.getElem?_eq_getElem h, List.drop_eq_getElem_cons h]; rfl
theorem rd_T46_take (l : List S46) (i : Nat) (h : i < l.length) : names46 (l.take i) ++ [(rd_T46 l (i : Int)).f0] = names46 (l.take (i + 1)) := by
  unfold rd_T46 names46
  rw [Int.toNat_natCast, List.getD_eq_getElem?_getD, List.getElem?_eq_getElem h, List.take_add_one, List.getElem?_eq_getElem h, List.map_append]; rfl
theorem syms_calls {l : List S59} {w : World} {A : Option Addr} {c : Nat} (hr : Kd.C k59 w A l.length l) (hc : l.length ≤ c) :
    Calls Try.prog 32 #[.slice A l.length c] w fun e w' => e = .returned (.bool (symsL l [] && decide (l.length ≤ 24))) ∧ Below w.heap.size w w' := by
  obtain ⟨k, hk⟩ := (symbols_ev l).rounds
  exact virgationref02_Symbols.calls k A c l _ w hr hc hk
theorem name_calls (s : ByteArray) (w : World) : Calls Try.prog 33 #[.string s] w fun e w' => e = .returned (.bool (nameOk s)) ∧ Below w.heap.size w w' := by
  obtain ⟨k, hk⟩ := (refname_ev s).rounds
  refine (virgationref02_Name.calls k s _ w hk).mono ?_
  rintro e w' ⟨h1, h2⟩
  exact ⟨h1, drawn_below h2⟩
theorem isok_calls {l : List S41} {w : World} {A : Option Addr} {c : Nat} (hr : Kd.C k41 w A l.length l) (hc : l.length ≤ c) :
    Calls Try.prog 17 #[.agg #[.slice A l.length c]] w fun e w' => e = .returned (.bool (isok l)) ∧ Below w.heap.size w w' := by
  obtain ⟨k, hk⟩ := (is_ev l).rounds
  exact virgationref01_Is.calls k A c l _ w hr hc hk
theorem tnodes_calls (a b : Int) {l : List S44} {w : World} {A : Option Addr} {c : Nat} (hr : Kd.C k44 w A l.length l) (hc : l.length ≤ c) :
    Calls Try.prog 34 #[.agg #[.int .i64 a, .int .i64 b, .slice A l.length c], .int .i64 400] w fun e w' => e = .returned (.int .i64 (min (1 + tcntL l) 401)) ∧ Below w.heap.size w w' := by
  obtain ⟨k, hk⟩ := (tnodes_ev _ a b l 400 (Nat.lt_succ_self _) (by omega) (by omega)).rounds
  exact virgationref02_Nodes.calls k a b A c l 400 _ w hr hc hk
theorem tdepth_calls (a b : Int) {l : List S44} (hl : tcntL l ≤ 1000) {w : World} {A : Option Addr} {c : Nat} (hr : Kd.C k44 w A l.length l) (hc : l.length ≤ c) :
    Calls Try.prog 35 #[.agg #[.int .i64 a, .int .i64 b, .slice A l.length c]] w fun e w' => e = .returned (.int .i64 (1 + tdepL l)) ∧ Below w.heap.size w w' := by
  obtain ⟨k, hk⟩ := (tdepth_ev _ a b l (Nat.lt_succ_self _) hl).rounds
  exact virgationref02_Depth.calls k a b A c l _ w hr hc hk
theorem symsL_ranks : ∀ (l : List S59) (L : List ByteArray), symsL l L = true → ∀ x ∈ l, 0 ≤ x.f1 ∧ x.f1 ≤ 4
  | [], _, _, x, hx => by cases hx
  | y :: ys, L, h, x, hx => by
    unfold symsL at h
    split at h
    · cases h
    · rename_i hb
      rcases List.mem_cons.1 hx with e | hx
      · subst e
        unfold symBad at hb
        simp only [Bool.or_eq_true, Bool.not_eq_true', decide_eq_true_eq, not_or] at hb
        omega
      · exact symsL_ranks ys _ h x hx
theorem funsL_all : ∀ (l : List S46) (L : List ByteArray), funsL l L = true → ∀ x ∈ l, funOk x = true
  | [], _, _, x, hx => by cases hx
  | y :: ys, L, h, x, hx => by
    unfold funsL at h
    simp only [Bool.and_eq_true] at h
    rcases List.mem_cons.1 hx with e | hx
    · subst e; exact h.1.1
    · exact funsL_all ys _ h.2 x hx
theorem drop41_small {l : List S41} (h : cntL l ≤ 1000) : ∀ x ∈ l, cntL x.f0 ≤ 1000 := by
  induction l with
  | nil => intro x hx; cases hx
  | cons y ys ih =>
    intro x hx
    have h1 := cnt_f0 y
    have h2 := cntL_ge ys
    have h3 := cntL_ge y.f0
    simp only [cntL] at h
    rcases List.mem_cons.1 hx with e | hx
    · subst e; omega
    · exact ih (by omega) x hx
theorem small_of {sy : List S59} {fs : List S46} (h1 : symsL sy [] = true) (h2 : funsL fs [] = true) {f : S46} (hf : f ∈ fs) : SmallP sy (fs.map (·.f1)) f.f1.f0 := by
  have hk : ∀ x ∈ fs, cntL x.f1.f0 ≤ 59 := fun x hx => by
    have := funsL_all fs [] h2 x hx
    unfold funOk at this
    simp only [Bool.and_eq_true] at this
    exact isok_cnt this.2.1
  refine ⟨fun x hx => by have := symsL_ranks sy [] h1 x hx; omega, fun x hx => ?_, drop41_small (by have := hk f hf; omega)⟩
  obtain ⟨y, hy, rfl⟩ := List.mem_map.1 hx
  have := hk y hy
  omega
theorem of_calls2 (A0 : Option Addr) (c0 : Nat) (l0 : List S59) (A1 : Option Addr) (c1 nf : Nat) (l1 : List S41) (A2 : Option Addr) (c2 : Nat) (l2 : List S41) (hnf : l1.length = nf) (hsm : SmallP l0 l1 l2) (t : S44) (A3 : Option Addr) (c3 : Nat) (w : World)
    (h0 : Kd.C k59 w A0 l0.length l0) (h1 : Kd.V k41 41 w w.heap.size (fun _ => True) (.slice A1 nf c1) l1) (h2 : Kd.V k41 41 w w.heap.size (fun _ => True) (.slice A2 l2.length c2) l2) (h3 : Kd.C k44 w A3 t.f2.length t.f2) (hc3 : t.f2.length ≤ c3) :
    Calls Try.prog 50 #[.agg #[.slice A0 l0.length c0, .slice A1 nf c1, .slice A2 l2.length c2], .agg #[.int .i64 t.f0, .int .i64 t.f1, .slice A3 t.f2.length c3]] w fun e w' => ∃ Av cv, e = .returned (.tuple #[.agg #[.slice Av ((ofT l0 l1 l2 t).getD []).length cv], .bool (ofT l0 l1 l2 t).isSome]) ∧ Below w.heap.size w w' := by
  subst hnf
  have e : (⟨t.f0, t.f1, t.f2⟩ : S44) = t := by cases t; rfl
  have h := of_calls (fun _ => True) A0 c0 l0 A1 c1 l1 A2 c2 l2 hsm _ t.f2 (Nat.lt_succ_self _) t.f0 t.f1 A3 c3 w h0 h1 h2 h3 hc3
  rw [e] at h
  refine h.mono ?_
  rintro e w' ⟨v, rfl, hv, hb⟩
  obtain ⟨A, c, rfl⟩ := Kd.V_slice hv
  exact ⟨A, c, rfl, hb⟩
theorem bodiesL_drop {sy : List S59} {fu : List S41} {l : List S46} {i : Nat} (h : i < l.length) : bodiesL sy fu (l.drop i) = ((match ofT sy fu (rd_T46 l (i : Int)).f1.f0 (rd_T46 l (i : Int)).f2 with
    | none => false
    | some s => decide (s.length = 0)) && bodiesL sy fu (l.drop (i + 1))) := by rw [rd_T46_drop l i h, bodiesL]
end Go.Proofs.Ytfhgoebgnilfaaa.I
namespace Go.Proofs.Ytfhgoebgnilfaaa.I
open Go.RowKit Go.Proofs.YtfhgoebgnilfaaaW.PrintWords Go.Proofs.YtfhgoebgnilfaaaW.PrintLast Go.Proofs.YtfhgoebgnilfaaaW.PrintMore
attribute [local go_sem] max2_int min2_int max_two min_two max_three min_three max_four min_four
set_option linter.unusedVariables false
set_option maxRecDepth 100000
set_option linter.unusedSimpArgs false
set_option maxHeartbeats 16000000 in
theorem refis_calls (A0 : Option Addr) (c0 : Nat) (l0 : List S59) (A1 : Option Addr) (c1 : Nat) (l1 : List S46) (w : World) (hr0 : Kd.C k59 w A0 l0.length l0) (hc0 : l0.length ≤ c0) (hr1 : Kd.C k46 w A1 l1.length l1) (hc1 : l1.length ≤ c1) :
    Calls Try.prog 16 #[.agg #[.slice A0 l0.length c0, .slice A1 l1.length c1]] w fun e w' => e = .returned (.bool (schB l0 l1)) ∧ Below w.heap.size w w' := by
  have hu38 := Try.underlying38
  have hu46 := Try.underlying46
  have hu44 := Try.underlying44
  have hu41 := Try.underlying41
  have hlen : l1.length ≤ 9223372036854775807 := hr1.2.1
  obtain ⟨r, hr⟩ : ∃ r, r = schB l0 l1 := ⟨_, rfl⟩
  rw [← hr]
  have HR0 := Aside0.mk hr0
  have HC0 := Aside0.mk hc0
  have HR1 := Aside0.mk hr1
  have HC1 := Aside0.mk hc1
  have HE := Aside0.mk hr
  clear hr0 hc0 hr1 hc1 hr
  go_enter Try.func16, Try.ntmps16
  go_wp2_with (
      (with_reducible refine gate_dst (N := 1) rfl ?_)
      refine box_event ?hg (N := 1) ?hd (cs := #[.slice A0 l0.length c0, .slice A1 l1.length c1]) (t := 38) ?hr ?_
      (case hd => rfl)
      (case hg => rfl)
      (case hr => first | (go_simp; done) | (go_simp; rfl))
      intro g1 hg1 w1 hbox hb1
      have S11 := Aside0.mk hbox
      have HB1 := Aside0.mk hb1
      have a0 : w1.cell? ⟨g1, 0, none⟩ = some (.slice A0 l0.length c0) := (blk_cell hbox 0).trans rfl
      clear hbox hb1 hg1)
  (with_reducible refine (syms_calls (Kd.C_below HR0.out HB1.out) HC0.out).mono ?_)
  rintro e w2 ⟨rfl, hb2⟩
  have HB2 := Aside0.mk (below_step HB1.out hb2)
  have S12 := Aside0.mk (blk_below S11.out hb2)
  have a1 : w2.cell? ⟨g1, 1, none⟩ = some (.slice A1 l1.length c1) := (blk_cell S12.out 1).trans rfl
  clear hb2 a0 S11 HB1
  have HSB := Aside0.mk (show r = ((symsL l0 [] && decide (l0.length ≤ 24)) && ((decide (1 ≤ l1.length) && decide (l1.length ≤ 64)) && (funsL l1 [] && (decide ((rd_T46 l1 0).f1.f0.length = 0) && bodiesL l0 (l1.map (·.f1)) l1)))) from HE.out)
  have HSY := Aside0.mk (show (symsL l0 [] && decide (l0.length ≤ 24)) = true → symsL l0 [] = true from fun h => by simp only [Bool.and_eq_true] at h; exact h.1)
  clear HE
  generalize (symsL l0 [] && decide (l0.length ≤ 24)) = sb at *
  cases sb with
  | false =>
    have hr : r = false := HSB.out
    subst hr
    clear HSB HSY
    go_wp2_with fail
    go_ret
    exact ⟨rfl, HB2.out⟩
  | true =>
  have hsy := HSY.out rfl
  have HSY2 := Aside0.mk hsy
  clear hsy HSY
  by_cases h1 : l1.length < 1
  · have hr : r = false := by have := HSB.out; rw [this, decide_eq_false (by omega : ¬ 1 ≤ l1.length)]; rfl
    have q0 : l1.length = 0 := by omega
    subst hr
    clear HSB
    go_wp2_with fail
    go_ret
    exact ⟨rfl, HB2.out⟩
  have q1 : ((l1.length : Int) < 1) = False := eq_false (by omega)
  have q2 : (l1.length < 1) = False := eq_false h1
  by_cases h2 : 64 < l1.length
  · have hr : r = false := by have := HSB.out; rw [this, decide_eq_false (by omega : ¬ l1.length ≤ 64)]; simp
    have q3 : (64 < l1.length) = True := eq_true h2
    subst hr
    clear HSB
    go_wp2_with fail
    go_ret
    exact ⟨rfl, HB2.out⟩
  have q3 : (64 < l1.length) = False := eq_false h2
  have q3' : ((64 : Int) < (l1.length : Int)) = False := eq_false (by omega)
  have HS2 := Aside0.mk (show r = (funsL l1 [] && (decide ((rd_T46 l1 0).f1.f0.length = 0) && bodiesL l0 (l1.map (·.f1)) l1)) from by rw [HSB.out, decide_eq_true (by omega : 1 ≤ l1.length), decide_eq_true (by omega : l1.length ≤ 64)]; rfl)
  clear HSB
  go_wp2_with fail
  clear q1 q2 q3 q3'
  obtain ⟨q, hq⟩ : ∃ q, q = funsL l1 [] := ⟨_, rfl⟩
  rw [← hq] at HS2
  have HQ := Aside0.mk (show q = funsL (l1.drop 0) (names46 (l1.take 0)) from hq)
  have HQ0 := Aside0.mk hq
  have H1 := Aside0.mk h1
  have H2 := Aside0.mk h2
  clear hq a1 h1 h2
  go_loopg [30] l1.length (fun kq v30 wr => ∃ i : Nat, v30 = .int .i64 (i : Int) ∧ Aside0 (i + kq = l1.length) ∧ Aside0 (q = funsL (l1.drop i) (names46 (l1.take i))) ∧ Aside0 (Below w2.heap.size w2 wr))
  case atStart => exact ⟨0, rfl, ⟨by omega⟩, HQ, ⟨Below.refl _ _⟩⟩
  case round =>
    clear HQ
    obtain ⟨i, rfl, Hi, HQ, HB⟩ := hrel
    have h64' : l1.length ≤ 64 := by have := H2.out; omega
    by_cases hlt : i < l1.length
    rotate_left
    · have hie : i = l1.length := by have := Hi.out; omega
      have hq : q = true := by have := HQ.out; rw [hie, List.drop_length] at this; rw [this, funsL]
      have HS3 := Aside0.mk (show r = (decide ((rd_T46 l1 0).f1.f0.length = 0) && bodiesL l0 (l1.map (·.f1)) l1) from by rw [HS2.out, hq]; rfl)
      have HFL := Aside0.mk (show funsL l1 [] = true from by rw [← HQ0.out]; exact hq)
      clear hq HQ HS2 HQ0 Hi hlt
      subst hie
      have HB3 := Aside0.mk (below_step HB2.out HB.out)
      have S13 := Aside0.mk (blk_below S12.out HB.out)
      have n1 := H1.out
      have e1 : wr.cell? ⟨g1, 1, none⟩ = some (.slice A1 l1.length c1) := (blk_cell S13.out 1).trans rfl
      obtain ⟨ad, A3, c3, A4, c4, rfl, hx0, hx1, hx2, hx3, hx4, hl3, hC3, hl4, hC4⟩ := at_T46 (Kd.C_below HR1.out HB3.out) 0 (by omega) (by omega)
      clear hx0 hx2 hx3 hx4 hl3 hC3 hl4 hC4
      replace hx1 : wr.cell? ⟨ad.block, ad.off + 1, none⟩ = _ := hx1
      have q1 : (0 < l1.length) = True := eq_true (by omega)
      have q2 : ((0 : Int) < (l1.length : Int)) = True := eq_true (by omega)
      generalize hm : (rd_T46 l1 0).f1.f0.length = m at *
      clear hm n1
      by_cases hm : m = 0
      rotate_left
      · have hr : r = false := by rw [HS3.out, decide_eq_false hm]; rfl
        subst hr
        have q3 : (0 < m) = True := eq_true (by omega)
        clear hm
        go_wp2_with fail
        go_ret
        exact ⟨rfl, HB3.out⟩
      subst hm
      go_wp2_with fail
      clear e1 hx1 q1 q2
      have HBL := Aside0.mk (show r = bodiesL l0 (l1.map (·.f1)) (l1.drop 0) from HS3.out)
      clear HS3
      go_loopg [84] l1.length (fun kq v84 wr => ∃ i : Nat, v84 = .int .i64 (i : Int) ∧ Aside0 (i + kq = l1.length) ∧ Aside0 (r = bodiesL l0 (l1.map (·.f1)) (l1.drop i)) ∧ Aside0 (Below w2.heap.size w2 wr))
      case atStart => exact ⟨0, rfl, ⟨by omega⟩, HBL, HB⟩
      case round =>
        clear HBL HB HB3 S13
        obtain ⟨i, rfl, Hi, HBL, HB⟩ := hrel
        by_cases hlt : i < l1.length
        rotate_left
        · have hie : i = l1.length := by have := Hi.out; omega
          have hr : r = true := by have := HBL.out; rw [hie, List.drop_length] at this; rw [this, bodiesL]
          subst hr
          subst hie
          clear hlt HBL
          go_wp2_with fail
          go_ret
          exact ⟨rfl, below_step HB2.out HB.out⟩
        have HB3 := Aside0.mk (below_step HB2.out HB.out)
        obtain ⟨ad', A3, c3, A4, c4, he, hx0, hx1, hx2, hx3, hx4, hl3, hC3, hl4, hC4⟩ := at_T46 (Kd.C_below HR1.out HB3.out) (i : Int) (by omega) (by omega)
        cases he
        rw [Int.toNat_natCast] at hx0 hx1 hx2 hx3 hx4
        have HC4 := Aside0.mk hC4
        have Hl4 := Aside0.mk hl4
        have HLt := Aside0.mk hlt
        have HBL2 := Aside0.mk (HBL.out.trans (bodiesL_drop hlt))
        have hmem : rd_T46 l1 (i : Int) ∈ l1 := by unfold rd_T46; rw [Int.toNat_natCast, List.getD_eq_getElem?_getD, List.getElem?_eq_getElem hlt]; exact List.getElem_mem _
        have HSM := Aside0.mk (small_of HSY2.out HFL.out hmem)
        have HPL := Aside0.mk (fun (w : World) (h : Kd.C k46 w (some ad) l1.length l1) => place_calls A0 c0 l0 (some ad) c1 l1 i hlt w h HC1.out h64')
        have q1 : (0 ≤ (i : Int)) = True := eq_true (by omega)
        have q2 : ((i : Int) < (l1.length : Int)) = True := eq_true (by omega)
        have q3 : (i < l1.length) = True := eq_true (by omega)
        clear hC3 hl4 hC4 hl3 HBL hmem
        generalize rd_T46 l1 (i : Int) = x at *
        go_upto_region 20 with (
           (with_reducible refine gate_dst (N := 8) rfl ?_)
           refine box_event ?hg (N := 8) ?hd (cs := #[.string (⟨#[]⟩ : ByteArray), .slice none 0 0, .int .i64 0, .int .i64 0, .slice none 0 0]) (t := 46) ?hr ?_
           (case hd => rfl)
           (case hg => rfl)
           (case hr => first | (go_simp; done) | (go_simp; rfl))
           intro gi hgi w6 hbox hb6
           have hgw : wr.heap.size ≤ gi := by omega
           have Hbw := Aside0.mk (below_set (g := gi) (j := 4) (v := .slice A4 x.f2.f2.length c4) (below_set (g := gi) (j := 3) (v := .int .i64 x.f2.f1) (below_set (g := gi) (j := 2) (v := .int .i64 x.f2.f0) (below_set (g := gi) (j := 1) (v := .slice A3 x.f1.f0.length c3) (below_set (g := gi) (j := 0) (v := .string x.f0) hb6 hgw) hgw) hgw) hgw) hgw)
           have Hgi := Aside0.mk (blk_put (cs' := #[.string x.f0, .slice A3 x.f1.f0.length c3, .int .i64 x.f2.f0, .int .i64 x.f2.f1, .slice A4 x.f2.f2.length c4]) (blk_put (cs' := #[.string x.f0, .slice A3 x.f1.f0.length c3, .int .i64 x.f2.f0, .int .i64 x.f2.f1, .slice none 0 0]) (blk_put (cs' := #[.string x.f0, .slice A3 x.f1.f0.length c3, .int .i64 x.f2.f0, .int .i64 0, .slice none 0 0]) (blk_put (cs' := #[.string x.f0, .slice A3 x.f1.f0.length c3, .int .i64 0, .int .i64 0, .slice none 0 0]) (blk_put (cs' := #[.string x.f0, .slice none 0 0, .int .i64 0, .int .i64 0, .slice none 0 0]) hbox 0 (.string x.f0) rfl) 1 (.slice A3 x.f1.f0.length c3) rfl) 2 (.int .i64 x.f2.f0) rfl) 3 (.int .i64 x.f2.f1) rfl) 4 (.slice A4 x.f2.f2.length c4) rfl)
           have hcz0 := (blk_cell hbox 0).trans rfl
           have hfz0 := blk_frozen hbox 0
           have hcz1 := (blk_cell hbox 1).trans rfl
           have hfz1 := blk_frozen hbox 1
           have hcz2 := (blk_cell hbox 2).trans rfl
           have hfz2 := blk_frozen hbox 2
           have hcz3 := (blk_cell hbox 3).trans rfl
           have hfz3 := blk_frozen hbox 3
           have hcz4 := (blk_cell hbox 4).trans rfl
           have hfz4 := blk_frozen hbox 4
           clear hbox hb6 hgi hgw)
        clear hcz0 hcz1 hcz2 hcz3 hcz4 hfz0 hfz1 hfz2 hfz3 hfz4 hx0 hx1 hx2 hx3 hx4
        generalize (((((w6.setCell ⟨gi, 0, none⟩ (.string x.f0)).setCell ⟨gi, 1, none⟩ (.slice A3 x.f1.f0.length c3)).setCell ⟨gi, 2, none⟩ (.int .i64 x.f2.f0)).setCell ⟨gi, 3, none⟩ (.int .i64 x.f2.f1)).setCell ⟨gi, 4, none⟩ (.slice A4 x.f2.f2.length c4)) = wq at *
        have HBq := Aside0.mk (below_step HB.out Hbw.out)
        have HBQ := Aside0.mk (below_step HB3.out Hbw.out)
        have S1q := Aside0.mk (blk_below S12.out HBq.out)
        have e0 : wq.cell? ⟨g1, 0, none⟩ = some (.slice A0 l0.length c0) := (blk_cell S1q.out 0).trans rfl
        have e1 : wq.cell? ⟨g1, 1, none⟩ = some (.slice (some ad) l1.length c1) := (blk_cell S1q.out 1).trans rfl
        have m2 : wq.cell? ⟨gi, 2, none⟩ = some (.int .i64 x.f2.f0) := (blk_cell Hgi.out 2).trans rfl
        have m3 : wq.cell? ⟨gi, 3, none⟩ = some (.int .i64 x.f2.f1) := (blk_cell Hgi.out 3).trans rfl
        have m4 : wq.cell? ⟨gi, 4, none⟩ = some (.slice A4 x.f2.f2.length c4) := (blk_cell Hgi.out 4).trans rfl
        have e0' := cel1 e0
        have e1' := cel1 e1
        have m2' := cel1 m2
        have m3' := cel1 m3
        have m4' := cel1 m4
        try simp only [Act.put, List.setIfInBounds_toArray, List.set_cons_succ, List.set_cons_zero]
        go_cut [9, 10] from 90 to 97 (fun v9 v10 wc => ∃ (g9 : Nat) (Ay : Option Addr) (cy : Nat), v9 = .pointer (some ⟨g9, 0, none⟩) ∧ v10 = .bool (ofT l0 (l1.map (·.f1)) x.f1.f0 x.f2).isSome ∧ Aside0 (wc.heap[g9]? = some (.cells #[.slice Ay ((ofT l0 (l1.map (·.f1)) x.f1.f0 x.f2).getD []).length cy] 41 (0, 0))) ∧ Aside0 (Below w2.heap.size w2 wc))
        case first =>
          go_region_law
            (first
              | (go_simp
                 go_at_call 51
                 first
                 | ((with_reducible refine (HPL.out wq.drew (Kd.C_below HR1.out (below_drew HBQ.out))).mono ?_)
                    rintro e9 wA ⟨vA, A7, c7, rfl, hvA, hvB, hbA⟩
                    obtain ⟨Av, cv, rfl⟩ := Kd.V_slice hvA
                    rw [List.length_map] at hvA ⊢
                    have HVA := Aside0.mk (show Kd.V k41 41 wA wA.heap.size (fun _ => True) (.slice Av l1.length cv) (l1.map (·.f1)) from hvA)
                    have HVB := Aside0.mk (show Kd.V k41 41 wA wA.heap.size (fun _ => True) (.slice A7 x.f1.f0.length c7) x.f1.f0 from hvB)
                    have HBA := Aside0.mk (below_step (below_drew HBq.out) hbA)
                    have HbwA := Aside0.mk (below_step (below_drew Hbw.out) hbA)
                    have a2 := cell_up hbA (show (wq.drew).cell? _ = _ from id m2)
                    have a3 := cell_up hbA (show (wq.drew).cell? _ = _ from id m3)
                    have a4 := cell_up hbA (show (wq.drew).cell? _ = _ from id m4)
                    have a2' := cel1 a2
                    have a3' := cel1 a3
                    have a4' := cel1 a4
                    skip
                    clear hvA hvB hbA)
                 | ((with_reducible refine (HPL.out (wq.alloc (.cells #[.slice none 0 0] 41)).drew (Kd.C_below HR1.out (below_drew (below_alloc HBQ.out _)))).mono ?_)
                    rintro e9 wA ⟨vA, A7, c7, rfl, hvA, hvB, hbA⟩
                    obtain ⟨Av, cv, rfl⟩ := Kd.V_slice hvA
                    rw [List.length_map] at hvA ⊢
                    have HVA := Aside0.mk (show Kd.V k41 41 wA wA.heap.size (fun _ => True) (.slice Av l1.length cv) (l1.map (·.f1)) from hvA)
                    have HVB := Aside0.mk (show Kd.V k41 41 wA wA.heap.size (fun _ => True) (.slice A7 x.f1.f0.length c7) x.f1.f0 from hvB)
                    have HBA := Aside0.mk (below_step (below_drew (below_alloc HBq.out _)) hbA)
                    have HbwA := Aside0.mk (below_step (below_drew (below_alloc Hbw.out _)) hbA)
                    have a2 := cell_up hbA (show ((wq.alloc (.cells #[.slice none 0 0] 41)).drew).cell? _ = _ from cel1 m2 _)
                    have a3 := cell_up hbA (show ((wq.alloc (.cells #[.slice none 0 0] 41)).drew).cell? _ = _ from cel1 m3 _)
                    have a4 := cell_up hbA (show ((wq.alloc (.cells #[.slice none 0 0] 41)).drew).cell? _ = _ from cel1 m4 _)
                    have a2' := cel1 a2
                    have a3' := cel1 a3
                    have a4' := cel1 a4
                    have HG9 := Aside0.mk (show wA.heap[wq.heap.size]? = some (.cells #[.slice none 0 0] 41 (0, 0)) from blk_below (blk_drew (blk_new wq (.cells #[.slice none 0 0] 41))) hbA)
                    clear hvA hvB hbA))
              | (go_simp
                 go_at_call 50
                 first
                 | ((with_reducible refine (of_calls2 A0 c0 l0 Av cv l1.length (l1.map (·.f1)) A7 c7 x.f1.f0 (List.length_map _) HSM.out x.f2 A4 c4 wA (Kd.C_below HR0.out (below_step HB2.out (HBA.out))) (HVA.out) (HVB.out) (Kd.C_below HC4.out (HbwA.out)) Hl4.out).mono ?_)
                    rintro e9 wB ⟨Ay, cy, rfl, hbB⟩
                    have HBB := Aside0.mk (below_step HBA.out hbB)
                    try (have G := blk_below HG9.out hbB
                         have k9 := (blk_cell G 0).trans rfl
                         have f9 := blk_frozen G 0
                         have HG9B := Aside0.mk G
                         clear G)
                    clear hbB)
                 | ((with_reducible refine (of_calls2 A0 c0 l0 Av cv l1.length (l1.map (·.f1)) A7 c7 x.f1.f0 (List.length_map _) HSM.out x.f2 A4 c4 (wA.alloc (.cells #[.slice none 0 0] 41)) (Kd.C_below HR0.out (below_step HB2.out (below_alloc HBA.out _))) (Kd.V_alloc HVA.out _) (Kd.V_alloc HVB.out _) (Kd.C_below HC4.out (below_alloc HbwA.out _)) Hl4.out).mono ?_)
                    rintro e9 wB ⟨Ay, cy, rfl, hbB⟩
                    have HBB := Aside0.mk (below_step (below_alloc HBA.out _) hbB)
                    have G := blk_below (blk_new wA (.cells #[.slice none 0 0] 41)) hbB
                    have k9 := (blk_cell G 0).trans rfl
                    have f9 := blk_frozen G 0
                    have HG9B := Aside0.mk G
                    clear G hbB)))
          all_goals (
            go_wp2_with fail
            go_meet
            first
            | exact ⟨_, Ay, cy, rfl, rfl, ⟨blk_new _ _⟩, ⟨below_alloc HBB.out _⟩⟩
            | exact ⟨_, Ay, cy, rfl, rfl, ⟨blk_put HG9B.out 0 _ rfl⟩, ⟨below_set HBB.out (by first | exact HBA.out.size | exact HBq.out.size)⟩⟩)
        case rest =>
          obtain ⟨g9, Ay, cy, rfl, rfl, S9, HB9⟩ := hcut
          clear e0 e1 m2 m3 m4 e0' e1' m2' m3' m4' S1q HBQ HBq Hgi HPL HSM HC4 Hl4 Hbw HB HB3
          generalize ofT l0 (l1.map (·.f1)) x.f1.f0 x.f2 = o at *
          cases o with
          | none =>
            have hr : r = false := HBL2.out
            subst hr
            clear HBL2
            go_wp2_with fail
            go_ret
            exact ⟨rfl, below_step HB2.out HB9.out⟩
          | some s =>
            have c9 : wc.cell? ⟨g9, 0, none⟩ = some (.slice Ay s.length cy) := (blk_cell S9.out 0).trans rfl
            have HBL3 := Aside0.mk (show r = (decide (s.length = 0) && bodiesL l0 (l1.map (·.f1)) (l1.drop (i + 1))) from HBL2.out)
            clear HBL2 S9
            generalize s.length = m at *
            by_cases hm : m = 0
            · have HN := Aside0.mk (show r = bodiesL l0 (l1.map (·.f1)) (l1.drop (i + 1)) from by rw [HBL3.out, decide_eq_true hm]; rfl)
              subst hm
              clear HBL3
              go_wp2_with fail
              have hk := Hi.out
              obtain ⟨k1, rfl⟩ : ∃ k1, gk = k1 + 1 := ⟨gk - 1, by omega⟩
              go_roundg k1
              case measure => omega
              case rel => exact ⟨i + 1, by go_num, ⟨by omega⟩, HN, HB9⟩
            · have hr : r = false := by rw [HBL3.out, decide_eq_false hm]; rfl
              subst hr
              have q4 : (0 < m) = True := eq_true (by omega)
              clear hm HBL3
              go_wp2_with fail
              go_ret
              exact ⟨rfl, below_step HB2.out HB9.out⟩
    obtain ⟨ad', A3, c3, A4, c4, rfl, hx0, hx1, hx2, hx3, hx4, hl3, hC3, hl4, hC4⟩ := at_T46 (Kd.C_below HR1.out (below_step HB2.out HB.out)) (i : Int) (by omega) (by omega)
    rw [Int.toNat_natCast] at hx0 hx1 hx2 hx3 hx4
    have HC3 := Aside0.mk hC3
    have HC4 := Aside0.mk hC4
    have Hl3 := Aside0.mk hl3
    have Hl4 := Aside0.mk hl4
    have HF := Aside0.mk (show q = ((funOk (rd_T46 l1 (i : Int)) && !isIn (names46 (l1.take i)) (rd_T46 l1 (i : Int)).f0) && funsL (l1.drop (i + 1)) (names46 (l1.take (i + 1)))) from by rw [HQ.out, rd_T46_drop l1 i hlt, funsL, rd_T46_take l1 i hlt])
    have q1 : (0 ≤ (i : Int)) = True := eq_true (by omega)
    have q2 : ((i : Int) < (l1.length : Int)) = True := eq_true (by omega)
    have q3 : (i < l1.length) = True := eq_true (by omega)
    clear hC3 hl4 hC4 hl3 HQ
    generalize rd_T46 l1 (i : Int) = x at *
    go_wp2_with (
           (with_reducible refine gate_dst (N := 4) rfl ?_)
           refine box_event ?hg (N := 4) ?hd (cs := #[.string (⟨#[]⟩ : ByteArray), .slice none 0 0, .int .i64 0, .int .i64 0, .slice none 0 0]) (t := 46) ?hr ?_
           (case hd => rfl)
           (case hg => rfl)
           (case hr => first | (go_simp; done) | (go_simp; rfl))
           intro gi hgi w6 hbox hb6
           have hgw : wr.heap.size ≤ gi := by omega
           have Hbw := Aside0.mk (below_set (g := gi) (j := 4) (v := .slice A4 x.f2.f2.length c4) (below_set (g := gi) (j := 3) (v := .int .i64 x.f2.f1) (below_set (g := gi) (j := 2) (v := .int .i64 x.f2.f0) (below_set (g := gi) (j := 1) (v := .slice A3 x.f1.f0.length c3) (below_set (g := gi) (j := 0) (v := .string x.f0) hb6 hgw) hgw) hgw) hgw) hgw)
           have Hgi := Aside0.mk (blk_put (cs' := #[.string x.f0, .slice A3 x.f1.f0.length c3, .int .i64 x.f2.f0, .int .i64 x.f2.f1, .slice A4 x.f2.f2.length c4]) (blk_put (cs' := #[.string x.f0, .slice A3 x.f1.f0.length c3, .int .i64 x.f2.f0, .int .i64 x.f2.f1, .slice none 0 0]) (blk_put (cs' := #[.string x.f0, .slice A3 x.f1.f0.length c3, .int .i64 x.f2.f0, .int .i64 0, .slice none 0 0]) (blk_put (cs' := #[.string x.f0, .slice A3 x.f1.f0.length c3, .int .i64 0, .int .i64 0, .slice none 0 0]) (blk_put (cs' := #[.string x.f0, .slice none 0 0, .int .i64 0, .int .i64 0, .slice none 0 0]) hbox 0 (.string x.f0) rfl) 1 (.slice A3 x.f1.f0.length c3) rfl) 2 (.int .i64 x.f2.f0) rfl) 3 (.int .i64 x.f2.f1) rfl) 4 (.slice A4 x.f2.f2.length c4) rfl)
           have hcz0 := (blk_cell hbox 0).trans rfl
           have hfz0 := blk_frozen hbox 0
           have hcz1 := (blk_cell hbox 1).trans rfl
           have hfz1 := blk_frozen hbox 1
           have hcz2 := (blk_cell hbox 2).trans rfl
           have hfz2 := blk_frozen hbox 2
           have hcz3 := (blk_cell hbox 3).trans rfl
           have hfz3 := blk_frozen hbox 3
           have hcz4 := (blk_cell hbox 4).trans rfl
           have hfz4 := blk_frozen hbox 4
           have m0 := (blk_cell Hgi.out 0).trans rfl
           clear hbox hb6 hgi hgw)
    clear hcz0 hcz1 hcz2 hcz3 hcz4 hfz0 hfz1 hfz2 hfz3 hfz4 m0 hx0 hx1 hx2 hx3 hx4
    generalize (((((w6.setCell ⟨gi, 0, none⟩ (.string x.f0)).setCell ⟨gi, 1, none⟩ (.slice A3 x.f1.f0.length c3)).setCell ⟨gi, 2, none⟩ (.int .i64 x.f2.f0)).setCell ⟨gi, 3, none⟩ (.int .i64 x.f2.f1)).setCell ⟨gi, 4, none⟩ (.slice A4 x.f2.f2.length c4)) = wq at *
    have HF2 := Aside0.mk (show q = (((nameOk x.f0 && (isok x.f1.f0 && !(decide (400 < tcnt x.f2) || decide (30 < tdep x.f2)))) && !isIn (names46 (l1.take i)) x.f0) && funsL (l1.drop (i + 1)) (names46 (l1.take (i + 1)))) from HF.out)
    clear HF
    (with_reducible refine (name_calls x.f0 _).mono ?_)
    rintro e w8 ⟨rfl, hb8⟩
    have Hbw8 := Aside0.mk (below_step Hbw.out hb8)
    have Hgi8 := Aside0.mk (blk_below Hgi.out hb8)
    clear hb8 Hbw Hgi
    generalize nameOk x.f0 = b at *
    cases b with
    | false =>
      have hr : r = false := by have := HF2.out; rw [HS2.out, this]; rfl
      subst hr
      clear HF2 HS2
      go_wp2_with fail
      go_ret
      exact ⟨rfl, below_step (below_step HB2.out HB.out) Hbw8.out⟩
    | true =>
    have m1 : w8.cell? ⟨gi, 1, none⟩ = some (.slice A3 x.f1.f0.length c3) := (blk_cell Hgi8.out 1).trans rfl
    go_wp2_with fail
    (with_reducible refine (isok_calls (Kd.C_below HC3.out Hbw8.out) Hl3.out).mono ?_)
    rintro e w9 ⟨rfl, hb9⟩
    have Hbw9 := Aside0.mk (below_step Hbw8.out hb9)
    have Hgi9 := Aside0.mk (blk_below Hgi8.out hb9)
    clear hb9 Hbw8 Hgi8 m1
    generalize isok x.f1.f0 = b at *
    cases b with
    | false =>
      have hr : r = false := by have := HF2.out; rw [HS2.out, this]; rfl
      subst hr
      clear HF2 HS2
      go_wp2_with fail
      go_ret
      exact ⟨rfl, below_step (below_step HB2.out HB.out) Hbw9.out⟩
    | true =>
    have m2 : w9.cell? ⟨gi, 2, none⟩ = some (.int .i64 x.f2.f0) := (blk_cell Hgi9.out 2).trans rfl
    have m3 : w9.cell? ⟨gi, 3, none⟩ = some (.int .i64 x.f2.f1) := (blk_cell Hgi9.out 3).trans rfl
    have m4 : w9.cell? ⟨gi, 4, none⟩ = some (.slice A4 x.f2.f2.length c4) := (blk_cell Hgi9.out 4).trans rfl
    go_wp2_with fail
    (with_reducible refine (tnodes_calls x.f2.f0 x.f2.f1 (Kd.C_below HC4.out Hbw9.out) Hl4.out).mono ?_)
    rintro e wA ⟨rfl, hbA⟩
    have HbwA := Aside0.mk (below_step Hbw9.out hbA)
    have HgiA := Aside0.mk (blk_below Hgi9.out hbA)
    clear hbA Hbw9 Hgi9 m2 m3 m4
    have hcn := tcnt_f2 x.f2
    by_cases hn : 400 < tcnt x.f2
    · have hr : r = false := by have := HF2.out; rw [HS2.out, this, decide_eq_true hn]; rfl
      rw [show min (1 + tcntL x.f2.f2) 401 = 401 from by omega]
      subst hr
      clear HF2 HS2 hn hcn
      go_wp2_with fail
      go_ret
      exact ⟨rfl, below_step (below_step HB2.out HB.out) HbwA.out⟩
    obtain ⟨nn, hnn⟩ : ∃ nn, nn = min (1 + tcntL x.f2.f2) 401 := ⟨_, rfl⟩
    rw [← hnn]
    have p400 : ((400 : Int) < nn) = False := eq_false (by omega)
    have Hcn := Aside0.mk (show tcntL x.f2.f2 ≤ 1000 from by omega)
    have HF3 := Aside0.mk (show q = ((!(decide (30 < tdep x.f2)) && !isIn (names46 (l1.take i)) x.f0) && funsL (l1.drop (i + 1)) (names46 (l1.take (i + 1)))) from by rw [HF2.out, decide_eq_false hn]; rfl)
    clear HF2 hn hcn hnn
    have m2 : wA.cell? ⟨gi, 2, none⟩ = some (.int .i64 x.f2.f0) := (blk_cell HgiA.out 2).trans rfl
    have m3 : wA.cell? ⟨gi, 3, none⟩ = some (.int .i64 x.f2.f1) := (blk_cell HgiA.out 3).trans rfl
    have m4 : wA.cell? ⟨gi, 4, none⟩ = some (.slice A4 x.f2.f2.length c4) := (blk_cell HgiA.out 4).trans rfl
    go_wp2_with fail
    (with_reducible refine (tdepth_calls x.f2.f0 x.f2.f1 Hcn.out (Kd.C_below HC4.out HbwA.out) Hl4.out).mono ?_)
    rintro e wB ⟨rfl, hbB⟩
    have HbwB := Aside0.mk (below_step HbwA.out hbB)
    have HgiB := Aside0.mk (blk_below HgiA.out hbB)
    clear hbB HbwA HgiA m2 m3 m4 p400
    have hde := tdep_f2 x.f2
    rw [← hde]
    clear hde
    by_cases hd : 30 < tdep x.f2
    · have hr : r = false := by have := HF3.out; rw [HS2.out, this, decide_eq_true hd]; rfl
      have p30 : ((30 : Int) < tdep x.f2) = True := eq_true hd
      subst hr
      clear HF3 HS2 hd
      go_wp2_with fail
      go_ret
      exact ⟨rfl, below_step (below_step HB2.out HB.out) HbwB.out⟩
    have p30 : ((30 : Int) < tdep x.f2) = False := eq_false hd
    have HF4 := Aside0.mk (show q = ((!isIn (names46 (l1.take i)) x.f0) && funsL (l1.drop (i + 1)) (names46 (l1.take (i + 1)))) from by rw [HF3.out, decide_eq_false hd]; rfl)
    clear HF3 hd
    have HB5 := Aside0.mk (below_step HB.out HbwB.out)
    have S15 := Aside0.mk (blk_below S12.out HB5.out)
    have e1 : wB.cell? ⟨g1, 1, none⟩ = some (.slice (some ad') l1.length c1) := (blk_cell S15.out 1).trans rfl
    have pc : (i ≤ c1) = True := eq_true (by have := HC1.out; omega)
    go_wp2_with fail
    clear p30 e1 pc
    have hko := Hi.out
    obtain ⟨ko, rfl⟩ : ∃ ko, gk = ko + 1 := ⟨gk - 1, by omega⟩
    clear hko
    obtain ⟨z, hz⟩ : ∃ z, z = isIn (names46 (l1.take i)) x.f0 := ⟨_, rfl⟩
    rw [← hz] at HF4
    have HZ := Aside0.mk (show z = isIn (names46 ((l1.take i).drop 0)) x.f0 from hz)
    clear hz HbwB
    go_loopg [62] i (fun kq v62 wr2 => ∃ j : Nat, v62 = .int .i64 (j : Int) ∧ Aside0 (j + kq = i) ∧ Aside0 (z = isIn (names46 ((l1.take i).drop j)) x.f0) ∧ Aside0 (Below wB.heap.size wB wr2))
    case atStart => exact ⟨0, rfl, ⟨by omega⟩, HZ, ⟨Below.refl _ _⟩⟩
    case round =>
      clear HZ
      obtain ⟨j, rfl, Hj, HZ, HBi⟩ := hrel
      by_cases hjt : j < i
      rotate_left
      · have hje : j = i := by have := Hj.out; omega
        have hz : z = false := by have := HZ.out; rw [hje, List.drop_of_length_le (by rw [List.length_take]; omega)] at this; exact this
        have HN := Aside0.mk (show q = funsL (l1.drop (i + 1)) (names46 (l1.take (i + 1))) from by rw [HF4.out, hz]; rfl)
        have HB7 := Aside0.mk (below_step HB5.out HBi.out)
        subst hje
        clear hz HZ HF4 HBi
        go_wp2_with fail
        go_roundg ko
        case measure => omega
        case rel => exact ⟨j + 1, by go_num, ⟨by have := Hi.out; omega⟩, HN, HB7⟩
      have HB6 := Aside0.mk (below_step HB5.out HBi.out)
      obtain ⟨ad2, A5, c5, A6, c6, he, hx0, hx1, hx2, hx3, hx4, hl5, hC5, hl6, hC6⟩ := at_T46 (Kd.C_below HR1.out (below_step HB2.out HB6.out)) (j : Int) (by omega) (by omega)
      cases he
      rw [Int.toNat_natCast] at hx0 hx1 hx2 hx3 hx4
      have HZ2 := Aside0.mk (show z = ((rd_T46 l1 (j : Int)).f0.data.toList == x.f0.data.toList || isIn (names46 ((l1.take i).drop (j + 1))) x.f0) from by
        rw [HZ.out, rd_T46_drop (l1.take i) j (by rw [List.length_take]; omega)]
        have e : rd_T46 (l1.take i) (j : Int) = rd_T46 l1 (j : Int) := by unfold rd_T46; rw [Int.toNat_natCast, List.getD_eq_getElem?_getD, List.getD_eq_getElem?_getD, List.getElem?_take_of_lt hjt]
        rw [e]
        rfl)
      have q4 : (0 ≤ (j : Int)) = True := eq_true (by omega)
      have q5 : ((j : Int) < (i : Int)) = True := eq_true (by omega)
      have q6 : (j < i) = True := eq_true (by omega)
      clear hl5 hC5 hl6 hC6 HZ
      generalize rd_T46 l1 (j : Int) = y at *
      obtain ⟨bb, hbb⟩ : ∃ bb, (x.f0.toList == y.f0.toList) = bb := ⟨_, rfl⟩
      have HBB := Aside0.mk (show (y.f0.data.toList == x.f0.data.toList) = bb from by
        rw [← hbb, ← Go.ByteArray.toList_eq, ← Go.ByteArray.toList_eq]
        exact BEq.comm)
      rw [HBB.out] at HZ2
      clear HBB
      go_wp2_with (
           (with_reducible refine gate_dst (N := 6) rfl ?_)
           refine box_event ?hg (N := 6) ?hd (cs := #[.string (⟨#[]⟩ : ByteArray), .slice none 0 0, .int .i64 0, .int .i64 0, .slice none 0 0]) (t := 46) ?hr ?_
           (case hd => rfl)
           (case hg => rfl)
           (case hr => first | (go_simp; done) | (go_simp; rfl))
           intro gy hgy w6 hbox hb6
           have hgw : wr.heap.size ≤ gy := by omega
           have Hbw := Aside0.mk (below_set (g := gy) (j := 4) (v := .slice A6 y.f2.f2.length c6) (below_set (g := gy) (j := 3) (v := .int .i64 y.f2.f1) (below_set (g := gy) (j := 2) (v := .int .i64 y.f2.f0) (below_set (g := gy) (j := 1) (v := .slice A5 y.f1.f0.length c5) (below_set (g := gy) (j := 0) (v := .string y.f0) hb6 hgw) hgw) hgw) hgw) hgw)
           have Hgy := Aside0.mk (blk_put (cs' := #[.string y.f0, .slice A5 y.f1.f0.length c5, .int .i64 y.f2.f0, .int .i64 y.f2.f1, .slice A6 y.f2.f2.length c6]) (blk_put (cs' := #[.string y.f0, .slice A5 y.f1.f0.length c5, .int .i64 y.f2.f0, .int .i64 y.f2.f1, .slice none 0 0]) (blk_put (cs' := #[.string y.f0, .slice A5 y.f1.f0.length c5, .int .i64 y.f2.f0, .int .i64 0, .slice none 0 0]) (blk_put (cs' := #[.string y.f0, .slice A5 y.f1.f0.length c5, .int .i64 0, .int .i64 0, .slice none 0 0]) (blk_put (cs' := #[.string y.f0, .slice none 0 0, .int .i64 0, .int .i64 0, .slice none 0 0]) hbox 0 (.string y.f0) rfl) 1 (.slice A5 y.f1.f0.length c5) rfl) 2 (.int .i64 y.f2.f0) rfl) 3 (.int .i64 y.f2.f1) rfl) 4 (.slice A6 y.f2.f2.length c6) rfl)
           have hcz0 := (blk_cell hbox 0).trans rfl
           have hfz0 := blk_frozen hbox 0
           have hcz1 := (blk_cell hbox 1).trans rfl
           have hfz1 := blk_frozen hbox 1
           have hcz2 := (blk_cell hbox 2).trans rfl
           have hfz2 := blk_frozen hbox 2
           have hcz3 := (blk_cell hbox 3).trans rfl
           have hfz3 := blk_frozen hbox 3
           have hcz4 := (blk_cell hbox 4).trans rfl
           have hfz4 := blk_frozen hbox 4
           have m0 := (blk_cell Hgy.out 0).trans rfl
           have m1 := (blk_cell (blk_below HgiB.out (below_step HBi.out Hbw.out)) 0).trans rfl
           clear hbox hb6 hgy hgw)
      rotate_left
      · have HZ3 := Aside0.mk (show z = isIn (names46 ((l1.take i).drop (j + 1))) x.f0 from HZ2.out.trans (by rw [‹bb = false›]; rfl))
        have HBi2 := Aside0.mk (below_step HBi.out Hbw.out)
        clear hcz0 hcz1 hcz2 hcz3 hcz4 hfz0 hfz1 hfz2 hfz3 hfz4 m0 m1 hx0 hx1 hx2 hx3 hx4 HZ2
        have hk := Hj.out
        obtain ⟨k1, rfl⟩ : ∃ k1, gk = k1 + 1 := ⟨gk - 1, by omega⟩
        go_roundg k1
        case measure => omega
        case rel => exact ⟨j + 1, by go_num, ⟨by omega⟩, HZ3, HBi2⟩
      · have hr : r = false := by rw [HS2.out, HF4.out, HZ2.out, ‹bb = true›]; rfl
        subst hr
        go_ret
        exact ⟨rfl, below_step (below_step HB2.out HB6.out) Hbw.out⟩
end Go.Proofs.Ytfhgoebgnilfaaa.I
namespace Go.Proofs.Ytfhgoebgnilfaaa.I
open Go.RowKit Go.Proofs.YtfhgoebgnilfaaaW.PrintWords Go.Proofs.YtfhgoebgnilfaaaW.PrintLast Go.Proofs.YtfhgoebgnilfaaaW.PrintMore
attribute [local go_sem] max2_int min2_int max_two min_two max_three min_three max_four min_four
set_option linter.unusedVariables false
set_option maxRecDepth 100000
set_option linter.unusedSimpArgs false
theorem take44_snoc {l : List S44} {i : Nat} (h : i < l.length) : l.take i ++ [rd_T44 l (i : Int)] = l.take (i + 1) := by
  have e2 : rd_T44 l (i : Int) = l[i] := by unfold rd_T44; rw [Int.toNat_natCast, List.getD_eq_getElem?_getD, List.getElem?_eq_getElem h]; rfl
  rw [List.take_add_one, List.getElem?_eq_getElem h, e2]; rfl
set_option maxHeartbeats 8000000 in
theorem copy24 (N : Nat) : ∀ (a b : Int) (l : List S44) (A : Option Addr) (c : Nat) (w : World), SizeOf.sizeOf l < N → tcntL l ≤ 1000 → Kd.C k44 w A l.length l → l.length ≤ c →
    Calls Try.prog 24 #[.agg #[.int .i64 a, .int .i64 b, .slice A l.length c]] w fun e w' => ∃ v, e = .returned (.agg #[.int .i64 a, .int .i64 b, v]) ∧ Kd.R k44 44 w' w.heap.size (fun _ => True) v l ∧ Below w.heap.size w w' := by
  have hu44 := Try.underlying44
  have hu42 := Try.underlying42
  induction N with
  | zero => intro a b l A c w hN; omega
  | succ N ih =>
  intro a b l A c w hN ht hr hc
  have hlen : l.length ≤ 9223372036854775807 := hr.2.1
  have HR := Aside0.mk hr
  have HC := Aside0.mk hc
  have HN := Aside0.mk hN
  have HT := Aside0.mk ht
  have HL := Aside0.mk (show l.length ≤ 1000 from by have := tcntL_ge l; omega)
  have IH := Aside0.mk ih
  clear hr hc hN ht ih
  go_enter Try.func24, Try.ntmps24
  go_wp2_with (first
    | ((with_reducible refine gate_dst (N := 1) rfl ?_)
       refine box_event ?hg (N := 1) ?hd (cs := #[.int .i64 a, .int .i64 b, .slice A l.length c]) (t := 44) ?hr ?_
       (case hd => rfl)
       (case hg => rfl)
       (case hr => first | (go_simp; done) | (go_simp; rfl))
       intro g1 hg1 w1 hbox hb1
       have S1 := Aside0.mk hbox
       have HB1 := Aside0.mk hb1
       clear hbox hb1 hg1)
    | ((with_reducible refine gate_dst (N := 2) rfl ?_)
       refine box_event ?hg (N := 2) ?hd (cs := #[.int .i64 0, .int .i64 0, .slice none 0 0]) (t := 44) ?hr ?_
       (case hd => rfl)
       (case hg => rfl)
       (case hr => first | (go_simp; done) | (go_simp; rfl))
       intro g2 hg2 w2 hbox hb2
       have S2 := Aside0.mk hbox
       have S12 := Aside0.mk (blk_below S1.out hb2)
       have HB2 := Aside0.mk (below_step HB1.out hb2)
       have HG2 := Aside0.mk (show w.heap.size ≤ g2 from by have := HB1.out.size; omega)
       have e0 : w2.cell? ⟨g1, 0, none⟩ = some (.int .i64 a) := (blk_cell S12.out 0).trans rfl
       have e1 : w2.cell? ⟨g1, 1, none⟩ = some (.int .i64 b) := (blk_cell S12.out 1).trans rfl
       clear hbox hb2 hg2 S1)
    | ((with_reducible refine gate_dst (N := 3) rfl ?_)
       refine box_event ?hg (N := 3) ?hd (cs := #[.int .i64 0, .int .i64 0, .slice none 0 0]) (t := 44) ?hr ?_
       (case hd => rfl)
       (case hg => rfl)
       (case hr => first | (go_simp; done) | (go_simp; rfl))
       intro g3 hg3 w3 hbox hb3
       have hgw : w2.heap.size ≤ g3 := by omega
       have Hbw := Aside0.mk (below_set (g := g3) (j := 2) (v := .slice none 0 0) (below_set (g := g3) (j := 1) (v := .int .i64 b) (below_set (g := g3) (j := 0) (v := .int .i64 a) hb3 hgw) hgw) hgw)
       have S3 := Aside0.mk (blk_put (cs' := #[.int .i64 a, .int .i64 b, .slice none 0 0]) (blk_put (cs' := #[.int .i64 a, .int .i64 b, .slice none 0 0]) (blk_put (cs' := #[.int .i64 a, .int .i64 0, .slice none 0 0]) hbox 0 (.int .i64 a) rfl) 1 (.int .i64 b) rfl) 2 (.slice none 0 0) rfl)
       have HG3 := Aside0.mk (show w.heap.size ≤ g3 from by have := HB2.out.size; omega)
       have H23 := Aside0.mk (show g2 ≠ g3 from by have := blk_lt S2.out; omega)
       have e2 : (((w3.setCell ⟨g3, 0, none⟩ (.int .i64 a)).setCell ⟨g3, 1, none⟩ (.int .i64 b)).setCell ⟨g3, 2, none⟩ (.slice none 0 0)).cell? ⟨g1, 2, none⟩ = some (.slice A l.length c) := (blk_cell (blk_below S12.out Hbw.out) 2).trans rfl
       have hcz0 := (blk_cell hbox 0).trans rfl
       have hfz0 := blk_frozen hbox 0
       have hcz1 := (blk_cell hbox 1).trans rfl
       have hfz1 := blk_frozen hbox 1
       have hcz2 := (blk_cell hbox 2).trans rfl
       have hfz2 := blk_frozen hbox 2
       clear hbox hb3 hg3 hgw e0 e1))
  clear hcz0 hcz1 hcz2 hfz0 hfz1 hfz2 e2
  generalize (((w3.setCell ⟨g3, 0, none⟩ (.int .i64 a)).setCell ⟨g3, 1, none⟩ (.int .i64 b)).setCell ⟨g3, 2, none⟩ (.slice none 0 0)) = w4 at *
  have HB4 := Aside0.mk (below_step HB2.out Hbw.out)
  have S24 := Aside0.mk (blk_below S2.out Hbw.out)
  clear S12 S2 HB1 HB2 Hbw
  go_loopg [14] l.length (fun kq v14 wr => ∃ (i : Nat) (Ax : Option Addr) (cx : Nat), v14 = .int .i64 (i : Int) ∧ Aside0 (i + kq = l.length) ∧ Aside0 (Kd.R k44 44 wr w.heap.size (fun k => k ≠ g2 ∧ k ≠ g3) (.slice Ax i cx) (l.take i)) ∧ Aside0 (wr.heap[g3]? = some (.cells #[.int .i64 a, .int .i64 b, .slice Ax i cx] 44 (0, 0))) ∧ Aside0 (wr.heap[g2]? = some (.cells #[.int .i64 0, .int .i64 0, .slice none 0 0] 44 (0, 0))) ∧ Aside0 (Below w.heap.size w wr))
  case atStart => exact ⟨0, none, 0, rfl, ⟨by omega⟩, ⟨Kd.R_nil _ _ _ _ _⟩, S3, S24, HB4⟩
  case round =>
    clear S3 S24 HB4
    obtain ⟨i, Ax, cx, rfl, Hi, HRx, S3, S2, HB⟩ := hrel
    by_cases hlt : i < l.length
    rotate_left
    · have hie : i = l.length := by have := Hi.out; omega
      subst hie
      have HRx' := HRx.out
      rw [List.take_length] at HRx'
      have HF := Aside0.mk HRx'
      have d0 : wr.cell? ⟨g3, 0, none⟩ = some (.int .i64 a) := (blk_cell S3.out 0).trans rfl
      have d1 : wr.cell? ⟨g3, 1, none⟩ = some (.int .i64 b) := (blk_cell S3.out 1).trans rfl
      have d2 : wr.cell? ⟨g3, 2, none⟩ = some (.slice Ax l.length cx) := (blk_cell S3.out 2).trans rfl
      have z0 : wr.cell? ⟨g2, 0, none⟩ = some (.int .i64 0) := (blk_cell S2.out 0).trans rfl
      have z1 : wr.cell? ⟨g2, 1, none⟩ = some (.int .i64 0) := (blk_cell S2.out 1).trans rfl
      have z2 : wr.cell? ⟨g2, 2, none⟩ = some (.slice none 0 0) := (blk_cell S2.out 2).trans rfl
      have f0 := blk_frozen S2.out 0
      have f1 := blk_frozen S2.out 1
      have f2 := blk_frozen S2.out 2
      clear HRx' HRx Hi hlt
      go_wp2_with fail
      have Sz := blk_put (cs' := #[.int .i64 a, .int .i64 b, .slice Ax l.length cx]) (blk_put (cs' := #[.int .i64 a, .int .i64 b, .slice none 0 0]) (blk_put (cs' := #[.int .i64 a, .int .i64 0, .slice none 0 0]) S2.out 0 (.int .i64 a) rfl) 1 (.int .i64 b) rfl) 2 (.slice Ax l.length cx) rfl
      refine bodyPost_ret (results_cell_row rfl _ _ g2 44 #[.int .i64 a, .int .i64 b, .slice Ax l.length cx] (0, 0) _ rfl Sz Try.underlying44 rfl (by kernel_rfl)) rfl ?_
      exact ⟨_, rfl, Kd.R_mono (Kd.R_far (p := ⟨g2, 2, none⟩) (Kd.R_far (p := ⟨g2, 1, none⟩) (Kd.R_far (p := ⟨g2, 0, none⟩) HF.out (fun k hk => hk.1) (.int .i64 a)) (fun k hk => hk.1) (.int .i64 b)) (fun k hk => hk.1) (.slice Ax l.length cx)) (fun _ _ => trivial), below_set (below_set (below_set HB.out HG2.out) HG2.out) HG2.out⟩
    cases gk with
    | zero => exact absurd Hi.out (by omega)
    | succ k1 =>
    obtain ⟨ad, A4, c4, he, hx2, hx3, hx4, hl4, hC4⟩ := at_T44 HR.out (i : Int) (by omega) (by omega)
    cases he
    replace hx2 := cell_up HB.out hx2
    replace hx3 := cell_up HB.out hx3
    replace hx4 := cell_up HB.out hx4
    rw [Int.toNat_natCast] at hx2 hx3 hx4
    have HC4 := Aside0.mk (Kd.C_below hC4 HB.out)
    have Hl4 := Aside0.mk hl4
    have HSN := Aside0.mk (take44_snoc hlt)
    have HSZ := Aside0.mk (show SizeOf.sizeOf (rd_T44 l (i : Int)).f2 < N from by have := rd_T44_mem l i hlt; have := HN.out; omega)
    have HTC := Aside0.mk (show tcntL (rd_T44 l (i : Int)).f2 ≤ 1000 from by have := tcnt_child l i hlt; have := HT.out; omega)
    have Hlt := Aside0.mk hlt
    have q1 : (0 ≤ (i : Int)) = True := eq_true (by omega)
    have q2 : ((i : Int) < (l.length : Int)) = True := eq_true (by omega)
    have q3 : (i < l.length) = True := eq_true (by omega)
    clear hl4 hC4
    generalize rd_T44 l (i : Int) = x at *
    go_upto_region 5 with (
      (with_reducible refine gate_dst (N := 5) rfl ?_)
      refine box_event ?hg (N := 5) ?hd (cs := #[.int .i64 0, .int .i64 0, .slice none 0 0]) (t := 44) ?hr ?_
      (case hd => rfl)
      (case hg => rfl)
      (case hr => first | (go_simp; done) | (go_simp; rfl))
      intro gi hgi w6 hbox hbb
      have hgw : wr.heap.size ≤ gi := by omega
      have Hbw := Aside0.mk (below_set (g := gi) (j := 2) (v := .slice A4 x.f2.length c4) (below_set (g := gi) (j := 1) (v := .int .i64 x.f1) (below_set (g := gi) (j := 0) (v := .int .i64 x.f0) hbb hgw) hgw) hgw)
      have Sgi := Aside0.mk (blk_put (cs' := #[.int .i64 x.f0, .int .i64 x.f1, .slice A4 x.f2.length c4]) (blk_put (cs' := #[.int .i64 x.f0, .int .i64 x.f1, .slice none 0 0]) (blk_put (cs' := #[.int .i64 x.f0, .int .i64 0, .slice none 0 0]) hbox 0 (.int .i64 x.f0) rfl) 1 (.int .i64 x.f1) rfl) 2 (.slice A4 x.f2.length c4) rfl)
      have hcz0 := (blk_cell hbox 0).trans rfl
      have hfz0 := blk_frozen hbox 0
      have hcz1 := (blk_cell hbox 1).trans rfl
      have hfz1 := blk_frozen hbox 1
      have hcz2 := (blk_cell hbox 2).trans rfl
      have hfz2 := blk_frozen hbox 2
      clear hbox hbb hgi hgw)
    clear hcz0 hcz1 hcz2 hfz0 hfz1 hfz2 hx2 hx3 hx4
    generalize (((w6.setCell ⟨gi, 0, none⟩ (.int .i64 x.f0)).setCell ⟨gi, 1, none⟩ (.int .i64 x.f1)).setCell ⟨gi, 2, none⟩ (.slice A4 x.f2.length c4)) = wq at *
    have HBq := Aside0.mk (below_step HB.out Hbw.out)
    have HRq := Aside0.mk (Kd.R_below HRx.out Hbw.out)
    have S3q := Aside0.mk (blk_below S3.out Hbw.out)
    have S2q := Aside0.mk (blk_below S2.out Hbw.out)
    have HCq := Aside0.mk (Kd.C_below HC4.out Hbw.out)
    have n0 : wq.cell? ⟨gi, 0, none⟩ = some (.int .i64 x.f0) := (blk_cell Sgi.out 0).trans rfl
    have n1 : wq.cell? ⟨gi, 1, none⟩ = some (.int .i64 x.f1) := (blk_cell Sgi.out 1).trans rfl
    have n2 : wq.cell? ⟨gi, 2, none⟩ = some (.slice A4 x.f2.length c4) := (blk_cell Sgi.out 2).trans rfl
    have m1 : wq.cell? ⟨g3, 2, none⟩ = some (.slice Ax i cx) := (blk_cell S3q.out 2).trans rfl
    clear HB HRx S3 S2 HC4 Hbw Sgi
    go_region_law
      (first
        | (refine Kd.R_append_step k44 (w0 := w) w.heap.size rfl (.tmp 19) (.tmp 22) 42 44 (.agg #[.int .i64 0, .int .i64 0, .slice none 0 0]) 40 rfl Try.underlying42 (by kernel_rfl) rfl (by decide) (by omega) (.slice Ax i cx) (l.take i) x [.int .i64 x.f0, .int .i64 x.f1, .slice A6 x.f2.length c6] (fun k => k ≠ g2 ∧ k ≠ g3) (fun k => wq.heap.size ≤ k) rfl rfl (k44_mkM _ _ _ x HR4.out) (fun k hk => ⟨⟨by have := blk_lt S2q.out; omega, by have := blk_lt S3q.out; omega⟩, fun e => by have := Kd.R_lt HRq.out k e.symm; omega⟩) (fun k hk => ⟨by have := blk_lt S2A.out; omega, by have := blk_lt S3A.out; omega⟩) HRA.out HBA.out HBA.out.size (by rw [List.length_take]; have := HL.out; omega) ?_
           intro v2 w7 hrf hb7 hg7 hat
           rw [HSN.out] at hrf
           obtain ⟨A5, c5, e5⟩ := Kd.R_slice hrf
           rw [List.length_take, Nat.min_eq_left (by have := Hlt.out; omega)] at e5
           subst e5
           have HR7 := Aside0.mk hrf
           have HB7 := Aside0.mk hb7
           have S37 := Aside0.mk (blk_grown S3A.out hg7 (Kd.R_away HRA.out (fun k hk => hk.2)))
           have S27 := Aside0.mk (blk_grown S2A.out hg7 (Kd.R_away HRA.out (fun k hk => hk.1)))
           have m7 : w7.cell? ⟨g3, 2, none⟩ = some (.slice Ax i cx) := (blk_cell S37.out 2).trans rfl
           have f7 := blk_frozen S37.out 2
           clear hrf hb7 hg7 hat a1)
        | (go_simp
           go_at_call 24
           (with_reducible refine (IH.out x.f0 x.f1 x.f2 A4 c4 wq.drew HSZ.out HTC.out (Kd.C_below HCq.out (below_drew (Below.refl _ _))) Hl4.out).mono ?_)
           rintro e9 wA ⟨v4, rfl, hR4, hbA⟩
           obtain ⟨A6, c6, rfl⟩ := Kd.R_slice hR4
           have HR4 := Aside0.mk (Kd.R_lower (Kd.R_mono (Kd.R_bound hR4) (fun k hk => (show wq.heap.size ≤ k from hk.2.1))) (show w.heap.size ≤ wq.drew.heap.size from HBq.out.size))
           have HRA := Aside0.mk (Kd.R_below (Kd.R_drew HRq.out) hbA)
           have HBA := Aside0.mk (below_step (below_drew HBq.out) hbA)
           have S3A := Aside0.mk (blk_below (blk_drew S3q.out) hbA)
           have S2A := Aside0.mk (blk_below (blk_drew S2q.out) hbA)
           have a1 : wA.cell? ⟨g3, 2, none⟩ = some (.slice Ax i cx) := (blk_cell S3A.out 2).trans rfl
           have a2 := cel1 a1
           clear hR4 hbA))
    all_goals (
      clear n0 n1 n2 m1 m7 f7 a2
      have HR8 := Aside0.mk (Kd.R_far (p := ⟨g3, 2, none⟩) HR7.out (fun k hk => hk.2) (.slice A5 (i + 1) c5))
      have S38 := Aside0.mk (blk_put (cs' := #[.int .i64 a, .int .i64 b, .slice A5 (i + 1) c5]) S37.out 2 (.slice A5 (i + 1) c5) rfl)
      have S28 := Aside0.mk (blk_far (p := ⟨g3, 2, none⟩) S27.out (fun he => H23.out he) (.slice A5 (i + 1) c5))
      have HB8 := Aside0.mk (below_set (j := 2) (v := .slice A5 (i + 1) c5) HB7.out HG3.out)
      go_wp2_with fail
      go_roundg k1
      case measure => omega
      case rel => exact ⟨i + 1, A5, c5, by go_num, ⟨by have := Hi.out; omega⟩, HR8, S38, S28, HB8⟩)
set_option maxHeartbeats 8000000 in
theorem copy54 (N : Nat) : ∀ (a b : Int) (l : List S44) (A : Option Addr) (c : Nat) (w : World), SizeOf.sizeOf l < N → tcntL l ≤ 1000 → Kd.C k44 w A l.length l → l.length ≤ c →
    Calls Try.prog 54 #[.agg #[.int .i64 a, .int .i64 b, .slice A l.length c]] w fun e w' => ∃ v, e = .returned (.agg #[.int .i64 a, .int .i64 b, v]) ∧ Kd.R k44 44 w' w.heap.size (fun _ => True) v l ∧ Below w.heap.size w w' := by
  have hu44 := Try.underlying44
  have hu42 := Try.underlying42
  induction N with
  | zero => intro a b l A c w hN; omega
  | succ N ih =>
  intro a b l A c w hN ht hr hc
  have hlen : l.length ≤ 9223372036854775807 := hr.2.1
  have HR := Aside0.mk hr
  have HC := Aside0.mk hc
  have HN := Aside0.mk hN
  have HT := Aside0.mk ht
  have HL := Aside0.mk (show l.length ≤ 1000 from by have := tcntL_ge l; omega)
  have IH := Aside0.mk ih
  clear hr hc hN ht ih
  go_enter Try.func54, Try.ntmps54
  go_wp2_with (first
    | ((with_reducible refine gate_dst (N := 1) rfl ?_)
       refine box_event ?hg (N := 1) ?hd (cs := #[.int .i64 a, .int .i64 b, .slice A l.length c]) (t := 44) ?hr ?_
       (case hd => rfl)
       (case hg => rfl)
       (case hr => first | (go_simp; done) | (go_simp; rfl))
       intro g1 hg1 w1 hbox hb1
       have S1 := Aside0.mk hbox
       have HB1 := Aside0.mk hb1
       clear hbox hb1 hg1)
    | ((with_reducible refine gate_dst (N := 2) rfl ?_)
       refine box_event ?hg (N := 2) ?hd (cs := #[.int .i64 0, .int .i64 0, .slice none 0 0]) (t := 44) ?hr ?_
       (case hd => rfl)
       (case hg => rfl)
       (case hr => first | (go_simp; done) | (go_simp; rfl))
       intro g2 hg2 w2 hbox hb2
       have S2 := Aside0.mk hbox
       have S12 := Aside0.mk (blk_below S1.out hb2)
       have HB2 := Aside0.mk (below_step HB1.out hb2)
       have HG2 := Aside0.mk (show w.heap.size ≤ g2 from by have := HB1.out.size; omega)
       have e0 : w2.cell? ⟨g1, 0, none⟩ = some (.int .i64 a) := (blk_cell S12.out 0).trans rfl
       have e1 : w2.cell? ⟨g1, 1, none⟩ = some (.int .i64 b) := (blk_cell S12.out 1).trans rfl
       clear hbox hb2 hg2 S1)
    | ((with_reducible refine gate_dst (N := 3) rfl ?_)
       refine box_event ?hg (N := 3) ?hd (cs := #[.int .i64 0, .int .i64 0, .slice none 0 0]) (t := 44) ?hr ?_
       (case hd => rfl)
       (case hg => rfl)
       (case hr => first | (go_simp; done) | (go_simp; rfl))
       intro g3 hg3 w3 hbox hb3
       have hgw : w2.heap.size ≤ g3 := by omega
       have Hbw := Aside0.mk (below_set (g := g3) (j := 2) (v := .slice none 0 0) (below_set (g := g3) (j := 1) (v := .int .i64 b) (below_set (g := g3) (j := 0) (v := .int .i64 a) hb3 hgw) hgw) hgw)
       have S3 := Aside0.mk (blk_put (cs' := #[.int .i64 a, .int .i64 b, .slice none 0 0]) (blk_put (cs' := #[.int .i64 a, .int .i64 b, .slice none 0 0]) (blk_put (cs' := #[.int .i64 a, .int .i64 0, .slice none 0 0]) hbox 0 (.int .i64 a) rfl) 1 (.int .i64 b) rfl) 2 (.slice none 0 0) rfl)
       have HG3 := Aside0.mk (show w.heap.size ≤ g3 from by have := HB2.out.size; omega)
       have H23 := Aside0.mk (show g2 ≠ g3 from by have := blk_lt S2.out; omega)
       have e2 : (((w3.setCell ⟨g3, 0, none⟩ (.int .i64 a)).setCell ⟨g3, 1, none⟩ (.int .i64 b)).setCell ⟨g3, 2, none⟩ (.slice none 0 0)).cell? ⟨g1, 2, none⟩ = some (.slice A l.length c) := (blk_cell (blk_below S12.out Hbw.out) 2).trans rfl
       have hcz0 := (blk_cell hbox 0).trans rfl
       have hfz0 := blk_frozen hbox 0
       have hcz1 := (blk_cell hbox 1).trans rfl
       have hfz1 := blk_frozen hbox 1
       have hcz2 := (blk_cell hbox 2).trans rfl
       have hfz2 := blk_frozen hbox 2
       clear hbox hb3 hg3 hgw e0 e1))
  clear hcz0 hcz1 hcz2 hfz0 hfz1 hfz2 e2
  generalize (((w3.setCell ⟨g3, 0, none⟩ (.int .i64 a)).setCell ⟨g3, 1, none⟩ (.int .i64 b)).setCell ⟨g3, 2, none⟩ (.slice none 0 0)) = w4 at *
  have HB4 := Aside0.mk (below_step HB2.out Hbw.out)
  have S24 := Aside0.mk (blk_below S2.out Hbw.out)
  clear S12 S2 HB1 HB2 Hbw
  go_loopg [14] l.length (fun kq v14 wr => ∃ (i : Nat) (Ax : Option Addr) (cx : Nat), v14 = .int .i64 (i : Int) ∧ Aside0 (i + kq = l.length) ∧ Aside0 (Kd.R k44 44 wr w.heap.size (fun k => k ≠ g2 ∧ k ≠ g3) (.slice Ax i cx) (l.take i)) ∧ Aside0 (wr.heap[g3]? = some (.cells #[.int .i64 a, .int .i64 b, .slice Ax i cx] 44 (0, 0))) ∧ Aside0 (wr.heap[g2]? = some (.cells #[.int .i64 0, .int .i64 0, .slice none 0 0] 44 (0, 0))) ∧ Aside0 (Below w.heap.size w wr))
  case atStart => exact ⟨0, none, 0, rfl, ⟨by omega⟩, ⟨Kd.R_nil _ _ _ _ _⟩, S3, S24, HB4⟩
  case round =>
    clear S3 S24 HB4
    obtain ⟨i, Ax, cx, rfl, Hi, HRx, S3, S2, HB⟩ := hrel
    by_cases hlt : i < l.length
    rotate_left
    · have hie : i = l.length := by have := Hi.out; omega
      subst hie
      have HRx' := HRx.out
      rw [List.take_length] at HRx'
      have HF := Aside0.mk HRx'
      have d0 : wr.cell? ⟨g3, 0, none⟩ = some (.int .i64 a) := (blk_cell S3.out 0).trans rfl
      have d1 : wr.cell? ⟨g3, 1, none⟩ = some (.int .i64 b) := (blk_cell S3.out 1).trans rfl
      have d2 : wr.cell? ⟨g3, 2, none⟩ = some (.slice Ax l.length cx) := (blk_cell S3.out 2).trans rfl
      have z0 : wr.cell? ⟨g2, 0, none⟩ = some (.int .i64 0) := (blk_cell S2.out 0).trans rfl
      have z1 : wr.cell? ⟨g2, 1, none⟩ = some (.int .i64 0) := (blk_cell S2.out 1).trans rfl
      have z2 : wr.cell? ⟨g2, 2, none⟩ = some (.slice none 0 0) := (blk_cell S2.out 2).trans rfl
      have f0 := blk_frozen S2.out 0
      have f1 := blk_frozen S2.out 1
      have f2 := blk_frozen S2.out 2
      clear HRx' HRx Hi hlt
      go_wp2_with fail
      have Sz := blk_put (cs' := #[.int .i64 a, .int .i64 b, .slice Ax l.length cx]) (blk_put (cs' := #[.int .i64 a, .int .i64 b, .slice none 0 0]) (blk_put (cs' := #[.int .i64 a, .int .i64 0, .slice none 0 0]) S2.out 0 (.int .i64 a) rfl) 1 (.int .i64 b) rfl) 2 (.slice Ax l.length cx) rfl
      refine bodyPost_ret (results_cell_row rfl _ _ g2 44 #[.int .i64 a, .int .i64 b, .slice Ax l.length cx] (0, 0) _ rfl Sz Try.underlying44 rfl (by kernel_rfl)) rfl ?_
      exact ⟨_, rfl, Kd.R_mono (Kd.R_far (p := ⟨g2, 2, none⟩) (Kd.R_far (p := ⟨g2, 1, none⟩) (Kd.R_far (p := ⟨g2, 0, none⟩) HF.out (fun k hk => hk.1) (.int .i64 a)) (fun k hk => hk.1) (.int .i64 b)) (fun k hk => hk.1) (.slice Ax l.length cx)) (fun _ _ => trivial), below_set (below_set (below_set HB.out HG2.out) HG2.out) HG2.out⟩
    cases gk with
    | zero => exact absurd Hi.out (by omega)
    | succ k1 =>
    obtain ⟨ad, A4, c4, he, hx2, hx3, hx4, hl4, hC4⟩ := at_T44 HR.out (i : Int) (by omega) (by omega)
    cases he
    replace hx2 := cell_up HB.out hx2
    replace hx3 := cell_up HB.out hx3
    replace hx4 := cell_up HB.out hx4
    rw [Int.toNat_natCast] at hx2 hx3 hx4
    have HC4 := Aside0.mk (Kd.C_below hC4 HB.out)
    have Hl4 := Aside0.mk hl4
    have HSN := Aside0.mk (take44_snoc hlt)
    have HSZ := Aside0.mk (show SizeOf.sizeOf (rd_T44 l (i : Int)).f2 < N from by have := rd_T44_mem l i hlt; have := HN.out; omega)
    have HTC := Aside0.mk (show tcntL (rd_T44 l (i : Int)).f2 ≤ 1000 from by have := tcnt_child l i hlt; have := HT.out; omega)
    have Hlt := Aside0.mk hlt
    have q1 : (0 ≤ (i : Int)) = True := eq_true (by omega)
    have q2 : ((i : Int) < (l.length : Int)) = True := eq_true (by omega)
    have q3 : (i < l.length) = True := eq_true (by omega)
    clear hl4 hC4
    generalize rd_T44 l (i : Int) = x at *
    go_upto_region 5 with (
      (with_reducible refine gate_dst (N := 5) rfl ?_)
      refine box_event ?hg (N := 5) ?hd (cs := #[.int .i64 0, .int .i64 0, .slice none 0 0]) (t := 44) ?hr ?_
      (case hd => rfl)
      (case hg => rfl)
      (case hr => first | (go_simp; done) | (go_simp; rfl))
      intro gi hgi w6 hbox hbb
      have hgw : wr.heap.size ≤ gi := by omega
      have Hbw := Aside0.mk (below_set (g := gi) (j := 2) (v := .slice A4 x.f2.length c4) (below_set (g := gi) (j := 1) (v := .int .i64 x.f1) (below_set (g := gi) (j := 0) (v := .int .i64 x.f0) hbb hgw) hgw) hgw)
      have Sgi := Aside0.mk (blk_put (cs' := #[.int .i64 x.f0, .int .i64 x.f1, .slice A4 x.f2.length c4]) (blk_put (cs' := #[.int .i64 x.f0, .int .i64 x.f1, .slice none 0 0]) (blk_put (cs' := #[.int .i64 x.f0, .int .i64 0, .slice none 0 0]) hbox 0 (.int .i64 x.f0) rfl) 1 (.int .i64 x.f1) rfl) 2 (.slice A4 x.f2.length c4) rfl)
      have hcz0 := (blk_cell hbox 0).trans rfl
      have hfz0 := blk_frozen hbox 0
      have hcz1 := (blk_cell hbox 1).trans rfl
      have hfz1 := blk_frozen hbox 1
      have hcz2 := (blk_cell hbox 2).trans rfl
      have hfz2 := blk_frozen hbox 2
      clear hbox hbb hgi hgw)
    clear hcz0 hcz1 hcz2 hfz0 hfz1 hfz2 hx2 hx3 hx4
    generalize (((w6.setCell ⟨gi, 0, none⟩ (.int .i64 x.f0)).setCell ⟨gi, 1, none⟩ (.int .i64 x.f1)).setCell ⟨gi, 2, none⟩ (.slice A4 x.f2.length c4)) = wq at *
    have HBq := Aside0.mk (below_step HB.out Hbw.out)
    have HRq := Aside0.mk (Kd.R_below HRx.out Hbw.out)
    have S3q := Aside0.mk (blk_below S3.out Hbw.out)
    have S2q := Aside0.mk (blk_below S2.out Hbw.out)
    have HCq := Aside0.mk (Kd.C_below HC4.out Hbw.out)
    have n0 : wq.cell? ⟨gi, 0, none⟩ = some (.int .i64 x.f0) := (blk_cell Sgi.out 0).trans rfl
    have n1 : wq.cell? ⟨gi, 1, none⟩ = some (.int .i64 x.f1) := (blk_cell Sgi.out 1).trans rfl
    have n2 : wq.cell? ⟨gi, 2, none⟩ = some (.slice A4 x.f2.length c4) := (blk_cell Sgi.out 2).trans rfl
    have m1 : wq.cell? ⟨g3, 2, none⟩ = some (.slice Ax i cx) := (blk_cell S3q.out 2).trans rfl
    clear HB HRx S3 S2 HC4 Hbw Sgi
    go_region_law
      (first
        | (refine Kd.R_append_step k44 (w0 := w) w.heap.size rfl (.tmp 19) (.tmp 22) 42 44 (.agg #[.int .i64 0, .int .i64 0, .slice none 0 0]) 40 rfl Try.underlying42 (by kernel_rfl) rfl (by decide) (by omega) (.slice Ax i cx) (l.take i) x [.int .i64 x.f0, .int .i64 x.f1, .slice A6 x.f2.length c6] (fun k => k ≠ g2 ∧ k ≠ g3) (fun k => wq.heap.size ≤ k) rfl rfl (k44_mkM _ _ _ x HR4.out) (fun k hk => ⟨⟨by have := blk_lt S2q.out; omega, by have := blk_lt S3q.out; omega⟩, fun e => by have := Kd.R_lt HRq.out k e.symm; omega⟩) (fun k hk => ⟨by have := blk_lt S2A.out; omega, by have := blk_lt S3A.out; omega⟩) HRA.out HBA.out HBA.out.size (by rw [List.length_take]; have := HL.out; omega) ?_
           intro v2 w7 hrf hb7 hg7 hat
           rw [HSN.out] at hrf
           obtain ⟨A5, c5, e5⟩ := Kd.R_slice hrf
           rw [List.length_take, Nat.min_eq_left (by have := Hlt.out; omega)] at e5
           subst e5
           have HR7 := Aside0.mk hrf
           have HB7 := Aside0.mk hb7
           have S37 := Aside0.mk (blk_grown S3A.out hg7 (Kd.R_away HRA.out (fun k hk => hk.2)))
           have S27 := Aside0.mk (blk_grown S2A.out hg7 (Kd.R_away HRA.out (fun k hk => hk.1)))
           have m7 : w7.cell? ⟨g3, 2, none⟩ = some (.slice Ax i cx) := (blk_cell S37.out 2).trans rfl
           have f7 := blk_frozen S37.out 2
           clear hrf hb7 hg7 hat a1)
        | (go_simp
           go_at_call 54
           (with_reducible refine (IH.out x.f0 x.f1 x.f2 A4 c4 wq.drew HSZ.out HTC.out (Kd.C_below HCq.out (below_drew (Below.refl _ _))) Hl4.out).mono ?_)
           rintro e9 wA ⟨v4, rfl, hR4, hbA⟩
           obtain ⟨A6, c6, rfl⟩ := Kd.R_slice hR4
           have HR4 := Aside0.mk (Kd.R_lower (Kd.R_mono (Kd.R_bound hR4) (fun k hk => (show wq.heap.size ≤ k from hk.2.1))) (show w.heap.size ≤ wq.drew.heap.size from HBq.out.size))
           have HRA := Aside0.mk (Kd.R_below (Kd.R_drew HRq.out) hbA)
           have HBA := Aside0.mk (below_step (below_drew HBq.out) hbA)
           have S3A := Aside0.mk (blk_below (blk_drew S3q.out) hbA)
           have S2A := Aside0.mk (blk_below (blk_drew S2q.out) hbA)
           have a1 : wA.cell? ⟨g3, 2, none⟩ = some (.slice Ax i cx) := (blk_cell S3A.out 2).trans rfl
           have a2 := cel1 a1
           clear hR4 hbA))
    all_goals (
      clear n0 n1 n2 m1 m7 f7 a2
      have HR8 := Aside0.mk (Kd.R_far (p := ⟨g3, 2, none⟩) HR7.out (fun k hk => hk.2) (.slice A5 (i + 1) c5))
      have S38 := Aside0.mk (blk_put (cs' := #[.int .i64 a, .int .i64 b, .slice A5 (i + 1) c5]) S37.out 2 (.slice A5 (i + 1) c5) rfl)
      have S28 := Aside0.mk (blk_far (p := ⟨g3, 2, none⟩) S27.out (fun he => H23.out he) (.slice A5 (i + 1) c5))
      have HB8 := Aside0.mk (below_set (j := 2) (v := .slice A5 (i + 1) c5) HB7.out HG3.out)
      go_wp2_with fail
      go_roundg k1
      case measure => omega
      case rel => exact ⟨i + 1, A5, c5, by go_num, ⟨by have := Hi.out; omega⟩, HR8, S38, S28, HB8⟩)
end Go.Proofs.Ytfhgoebgnilfaaa.I
namespace Go.Proofs.Ytfhgoebgnilfaaa.I
open Go.RowKit Go.Proofs.YtfhgoebgnilfaaaW.PrintWords Go.Proofs.YtfhgoebgnilfaaaW.PrintLast Go.Proofs.YtfhgoebgnilfaaaW.PrintMore
attribute [local go_sem] max2_int min2_int max_two min_two max_three min_three max_four min_four
set_option linter.unusedVariables false
set_option maxRecDepth 100000
set_option linter.unusedSimpArgs false
set_option maxHeartbeats 8000000 in
theorem scheme21_err (A0 : Option Addr) (c0 : Nat) (l0 : List S59) (A1 : Option Addr) (c1 : Nat) (l1 : List S56) (out : List S41) (er : Int) (w : World) (hr0 : Kd.C k59 w A0 l0.length l0) (hc0 : l0.length ≤ c0) (hr1 : Kd.C k56 w A1 l1.length l1) (hc1 : l1.length ≤ c1) (h : ∀ w, Kd.C k59 w A0 l0.length l0 → Kd.C k56 w A1 l1.length l1 → Calls Try.prog 14 #[.slice A0 l0.length c0, .slice A1 l1.length c1] w fun e w' => ∃ v, e = .returned (.tuple #[v, .int .i64 er]) ∧ Kd.R k41 41 w' w.heap.size (fun _ => True) v out ∧ Below w.heap.size w w') (he : er ≠ 0) :
    Calls Try.prog 21 #[.slice A0 l0.length c0, .slice A1 l1.length c1] w fun e w' => e = .returned (.tuple #[.agg #[.slice none 0 0, .slice none 0 0], .int .i64 er]) ∧ Below w.heap.size w w' := by
  have hu56 := Try.underlying56
  have hu44 := Try.underlying44
  have hu41 := Try.underlying41
  have hu46 := Try.underlying46
  have hu38 := Try.underlying38
  have HR0 := Aside0.mk hr0
  have HC0 := Aside0.mk hc0
  have HR1 := Aside0.mk hr1
  have HC1 := Aside0.mk hc1
  have H := Aside0.mk h
  have hlen1 : l1.length ≤ 9223372036854775807 := hr1.2.1
  have hne : (er != 0) = true := bne_iff_ne.2 he
  clear hr0 hc0 hr1 hc1 h he
  go_enter Try.func21, Try.ntmps21
  go_wp2_with (
    (with_reducible refine gate_dst (N := 4) rfl ?_)
    refine box_event ?hg (N := 4) ?hd (cs := #[.slice none 0 0, .slice none 0 0]) (t := 38) ?hr ?_
    (case hd => rfl)
    (case hg => rfl)
    (case hr => first | (go_simp; done) | (go_simp; rfl))
    intro g4 hg4 w2 hbox hb2
    have S4 := Aside0.mk hbox
    have HB2 := Aside0.mk hb2
    have Hg4 := Aside0.mk hg4
    clear hbox hb2 hg4)
  (with_reducible refine (H.out w2 (Kd.C_below HR0.out HB2.out) (Kd.C_below HR1.out HB2.out)).mono ?_)
  rintro e w3 ⟨v, rfl, hR3, hb3⟩
  obtain ⟨Ao, co, rfl⟩ := Kd.R_slice hR3
  have S43 := Aside0.mk (blk_below S4.out hb3)
  have HB3 := Aside0.mk (below_step HB2.out hb3)
  clear hb3 hR3 S4
  have hz0 : w3.cell? ⟨g4, 0, none⟩ = some (.slice none 0 0) := (blk_cell S43.out 0).trans rfl
  have hz1 : w3.cell? ⟨g4, 1, none⟩ = some (.slice none 0 0) := (blk_cell S43.out 1).trans rfl
  have hf0 := blk_frozen S43.out 0
  have hf1 := blk_frozen S43.out 1
  have HG := Aside0.mk (by have := Hg4.out; omega : w.heap.size ≤ g4)
  go_wp2_with fail
  refine bodyPost_ret (results_ct rfl _ _ g4 38 #[.slice none 0 0, .slice none 0 0] (0, 0) _ rfl (blk_put (blk_put S43.out 0 (.slice none 0 0) rfl) 1 (.slice none 0 0) rfl) Try.underlying38 rfl (by kernel_rfl)) rfl ?_
  exact ⟨rfl, below_set (below_set HB3.out HG.out) HG.out⟩
set_option maxHeartbeats 8000000 in
theorem scheme21_ok (A0 : Option Addr) (c0 : Nat) (l0 : List S59) (A1 : Option Addr) (c1 : Nat) (l1 : List S56) (out : List S41) (w : World) (hr0 : Kd.C k59 w A0 l0.length l0) (hc0 : l0.length ≤ c0) (hr1 : Kd.C k56 w A1 l1.length l1) (hc1 : l1.length ≤ c1) (h : ∀ w, Kd.C k59 w A0 l0.length l0 → Kd.C k56 w A1 l1.length l1 → Calls Try.prog 14 #[.slice A0 l0.length c0, .slice A1 l1.length c1] w fun e w' => ∃ v, e = .returned (.tuple #[v, .int .i64 0]) ∧ Kd.R k41 41 w' w.heap.size (fun _ => True) v out ∧ Below w.heap.size w w')
    (hcp : ∀ x ∈ l1, tcntL x.f2.f2 ≤ 1000) (ho : out.length = l1.length) (h24 : l0.length ≤ 24) (h64 : l1.length ≤ 64) :
    Calls Try.prog 21 #[.slice A0 l0.length c0, .slice A1 l1.length c1] w fun e w' => ∃ v1 v2, e = .returned (.tuple #[.agg #[v1, v2], .int .i64 0]) ∧ Kd.R k59 59 w' w.heap.size (fun _ => True) v1 l0 ∧ Kd.R k46 46 w' w.heap.size (fun _ => True) v2 (mkFuns (l1.map to48) out) ∧ Below w.heap.size w w' := by
  have hu56 := Try.underlying56
  have hu44 := Try.underlying44
  have hu41 := Try.underlying41
  have hu46 := Try.underlying46
  have hu38 := Try.underlying38
  have HR0 := Aside0.mk hr0
  have HC0 := Aside0.mk hc0
  have HR1 := Aside0.mk hr1
  have HC1 := Aside0.mk hc1
  have H := Aside0.mk h
  have hlen1 : l1.length ≤ 9223372036854775807 := hr1.2.1
  have HCP := Aside0.mk hcp
  clear hr0 hc0 hr1 hc1 h hcp
  go_enter Try.func21, Try.ntmps21
  go_wp2_with (
    (with_reducible refine gate_dst (N := 4) rfl ?_)
    refine box_event ?hg (N := 4) ?hd (cs := #[.slice none 0 0, .slice none 0 0]) (t := 38) ?hr ?_
    (case hd => rfl)
    (case hg => rfl)
    (case hr => first | (go_simp; done) | (go_simp; rfl))
    intro g4 hg4 w2 hbox hb2
    have S4 := Aside0.mk hbox
    have HB2 := Aside0.mk hb2
    have Hg4 := Aside0.mk hg4
    clear hbox hb2 hg4)
  (with_reducible refine (H.out w2 (Kd.C_below HR0.out HB2.out) (Kd.C_below HR1.out HB2.out)).mono ?_)
  rintro e w3 ⟨v, rfl, hR3, hb3⟩
  obtain ⟨Ao, co, rfl⟩ := Kd.R_slice hR3
  have S43 := Aside0.mk (blk_below S4.out hb3)
  have HB3 := Aside0.mk (below_step HB2.out hb3)
  have HRo := Aside0.mk (Kd.R_lower hR3 HB2.out.size)
  clear hb3 hR3 S4
  go_wp2_with (first
    | ((with_reducible refine gate_dst (N := 8) rfl ?_)
       refine box_event ?hg (N := 8) ?hd (cs := #[.slice none 0 0, .slice none 0 0]) (t := 38) ?hr ?_
       (case hd => rfl)
       (case hg => rfl)
       (case hr => first | (go_simp; done) | (go_simp; rfl))
       intro g8 hg8 w5 hbox hb5
       have S8 := Aside0.mk hbox
       have S45 := Aside0.mk (blk_below S43.out hb5)
       have HB5 := Aside0.mk (below_step HB3.out hb5)
       have HRo5 := Aside0.mk (Kd.R_below HRo.out hb5)
       have Hg8 := Aside0.mk (show w.heap.size ≤ g8 from by have := HB3.out.size; omega)
       have H48 := Aside0.mk (show g4 ≠ g8 from by have := blk_lt S43.out; omega)
       have e0 : w5.cell? ⟨g8, 0, none⟩ = some (.slice none 0 0) := (blk_cell hbox 0).trans rfl
       clear hbox hb5 hg8)
    | (at_builtin; refine holdI5 ?_))
  unfold HoldI5
  clear e0 S43 HB3 HRo
  refine Kd.R_append_rows k59 (Rr := k59.K w5) (w0 := w) w.heap.size rfl (.tmp 22) (.tmp 23) 22 59 (.agg #[.string ⟨#[]⟩, .int .i64 0]) 24 rfl Try.underlying22 (by kernel_rfl) rfl (by decide) (by omega) (.slice none 0 0) [] l0 A0 l0.length c0 (fun _ => True) (fun _ => False) rfl rfl ?aO ?aR ?aK (fun _ hk => hk.elim) (fun _ _ => trivial) HB5.out HB5.out.size (by simp only [List.length_nil]; omega) ?_
  (case aO => exact Kd.R_nil _ _ _ _ _)
  (case aR => exact Kd.C_below HR0.out HB5.out)
  (case aK => intro x cs hx; rw [k59_open hx]; exact k59_mkM _ _ _ x)
  intro vs w4 hs4 hb4 hg4 _
  rw [List.nil_append] at hs4
  obtain ⟨As, cs, rfl⟩ := Kd.R_slice hs4
  have S44 := Aside0.mk (blk_grown S45.out hg4 (by simp [Value.ownBlock]))
  have S84 := Aside0.mk (blk_grown S8.out hg4 (by simp [Value.ownBlock]))
  have HB4 := Aside0.mk hb4
  have HRs := Aside0.mk hs4
  have HRo4 := Aside0.mk (Kd.R_grown HRo5.out hg4 (fun k _ he => by simp [Value.ownBlock] at he))
  have f8 := blk_frozen S84.out 0
  have z8 : w4.cell? ⟨g8, 0, none⟩ = some (.slice none 0 0) := (blk_cell S84.out 0).trans rfl
  clear hs4 hb4 hg4 HRo5 S45 HB5 S8
  go_upto_region 6 with (fail)
  generalize hw6 : w4.setCell { block := g8, off := 0 } (.slice As l0.length cs) = w6 at *
  have S8 := Aside0.mk (show w6.heap[g8]? = some (.cells #[.slice As l0.length cs, .slice none 0 0] 38 (0, 0)) from by rw [← hw6]; exact blk_put S84.out 0 _ rfl)
  have S46 := Aside0.mk (show w6.heap[g4]? = some (.cells #[.slice none 0 0, .slice none 0 0] 38 (0, 0)) from by rw [← hw6]; exact blk_far (p := ⟨g8, 0, none⟩) S44.out (fun he => H48.out he) _)
  have HB6 := Aside0.mk (show Below w.heap.size w w6 from by rw [← hw6]; exact below_set HB4.out Hg8.out)
  have HRs6 := Aside0.mk (show Kd.R k59 59 w6 w.heap.size (fun _ => True) (.slice As l0.length cs) l0 from by rw [← hw6]; exact Kd.R_set HRs.out S84.out (by decide) 0 _)
  have HRo6 := Aside0.mk (show Kd.R k41 41 w6 w.heap.size (fun _ => True) (.slice Ao out.length co) out from by rw [← hw6]; exact Kd.R_set HRo4.out S84.out (by decide) 0 _)
  have Hho := Aside0.mk ho
  clear hw6 f8 z8 S44 HB4 HRs HRo4 ho S84
  go_wp2_with fail
  go_loopg [28] l1.length (fun kq v28 wr => ∃ (i : Nat) (Af : Option Addr) (cf : Nat), v28 = .int .i64 (i : Int) ∧ Aside0 (i + kq = l1.length) ∧ Aside0 (Kd.R k46 46 wr w.heap.size (fun _ => True) (.slice Af i cf) (mkFuns ((l1.map to48).take i) (out.take i))) ∧ Aside0 (Kd.R k59 59 wr w.heap.size (fun _ => True) (.slice As l0.length cs) l0) ∧ Aside0 (Kd.R k41 41 wr w.heap.size (fun _ => True) (.slice Ao out.length co) out) ∧ Aside0 (wr.heap[g8]? = some (.cells #[.slice As l0.length cs, .slice Af i cf] 38 (0, 0))) ∧ Aside0 (wr.heap[g4]? = some (.cells #[.slice none 0 0, .slice none 0 0] 38 (0, 0))) ∧ Aside0 (Below w.heap.size w wr))
  case atStart => exact ⟨0, none, 0, rfl, ⟨by omega⟩, ⟨Kd.R_nil _ _ _ _ _⟩, HRs6, HRo6, S8, S46, HB6⟩
  case round =>
    clear HRs6 HRo6 S8 S46 HB6
    obtain ⟨i, Af, cf, rfl, Hi, HRf, HRs, HRo, S8, S4, HB⟩ := hrel
    by_cases hlt : i < l1.length
    · cases gk with
      | zero => exact absurd Hi.out (by omega)
      | succ k1 =>
      have hlo : i < out.length := by rw [Hho.out]; exact hlt
      have Hlt := Aside0.mk hlt
      have HSN := Aside0.mk (show mkFuns ((l1.map to48).take i) (out.take i) ++ [⟨l1[i].f0, out[i], l1[i].f2⟩] = mkFuns ((l1.map to48).take (i + 1)) (out.take (i + 1)) from by have := mkFuns_snoc (l := l1.map to48) (by rw [List.length_map]; exact hlt) hlo; rw [List.getElem_map] at this; exact this)
      obtain ⟨ad0, A4, c4, he, hx1, hx2, hx3, hx4, hx5, hl4, hC4⟩ := at_T56 HR1.out (i : Int) (by omega) (by omega)
      cases he
      replace hx1 := (HB.out.cell (World.block_lt_of_cell? w _ hx1)).trans hx1
      replace hx2 := (HB.out.cell (World.block_lt_of_cell? w _ hx2)).trans hx2
      replace hx3 := (HB.out.cell (World.block_lt_of_cell? w _ hx3)).trans hx3
      replace hx4 := (HB.out.cell (World.block_lt_of_cell? w _ hx4)).trans hx4
      replace hx5 := (HB.out.cell (World.block_lt_of_cell? w _ hx5)).trans hx5
      rw [Int.toNat_natCast] at hx1 hx2 hx3 hx4 hx5
      have Hl4 := Aside0.mk hl4
      have HC4 := Aside0.mk hC4
      have hxe : rd_T56 l1 (i : Int) = l1[i] := by unfold rd_T56; rw [Int.toNat_natCast, List.getD_eq_getElem?_getD, List.getElem?_eq_getElem hlt]; rfl
      have HCPi := Aside0.mk (HCP.out l1[i] (List.getElem_mem hlt))
      rw [hxe] at hx1 hx2 hx3 hx4 hx5
      have HC4' := HC4.out
      have Hl4' := Hl4.out
      rw [hxe] at HC4' Hl4'
      have HC5 := Aside0.mk HC4'
      have Hl5 := Aside0.mk Hl4'
      clear hl4 hC4 hxe HC4 Hl4 HC4' Hl4'
      have p1 : (0 ≤ (i : Int)) = True := eq_true (by omega)
      have p2 : ((i : Int) < (l1.length : Int)) = True := eq_true (by omega)
      have p3 : (i < l1.length) = True := eq_true (by omega)
      have q2 : ((i : Int) < (out.length : Int)) = True := eq_true (by omega)
      have q3 : (i < out.length) = True := eq_true (by omega)
      generalize l1[i] = x at *
      go_upto_region 9 with (
          (with_reducible refine gate_dst (N := 10) rfl ?_)
          refine box_event ?hg (N := 10) ?hd (cs := #[.string (⟨#[]⟩ : ByteArray), .int .i64 0, .int .i64 0, .int .i64 0, .slice none 0 0]) (t := 56) ?hr ?_
          (case hd => rfl)
          (case hg => rfl)
          (case hr => first | (go_simp; done) | (go_simp; rfl))
          intro gi hgi w6 hbox hb3
          have hgw : wr.heap.size ≤ gi := by omega
          have hbw := below_set (g := gi) (j := 4) (v := .slice A4 x.f2.f2.length c4) (below_set (g := gi) (j := 3) (v := .int .i64 x.f2.f1) (below_set (g := gi) (j := 2) (v := .int .i64 x.f2.f0) (below_set (g := gi) (j := 1) (v := .int .i64 x.f1) (below_set (g := gi) (j := 0) (v := .string x.f0) hb3 hgw) hgw) hgw) hgw) hgw
          have Hbw := Aside0.mk hbw
          have Hgi := Aside0.mk (blk_put (cs' := #[.string x.f0, .int .i64 x.f1, .int .i64 x.f2.f0, .int .i64 x.f2.f1, .slice A4 x.f2.f2.length c4]) (blk_put (cs' := #[.string x.f0, .int .i64 x.f1, .int .i64 x.f2.f0, .int .i64 x.f2.f1, .slice none 0 0]) (blk_put (cs' := #[.string x.f0, .int .i64 x.f1, .int .i64 x.f2.f0, .int .i64 0, .slice none 0 0]) (blk_put (cs' := #[.string x.f0, .int .i64 x.f1, .int .i64 0, .int .i64 0, .slice none 0 0]) (blk_put (cs' := #[.string x.f0, .int .i64 0, .int .i64 0, .int .i64 0, .slice none 0 0]) (hbox) 0 (.string x.f0) rfl) 1 (.int .i64 x.f1) rfl) 2 (.int .i64 x.f2.f0) rfl) 3 (.int .i64 x.f2.f1) rfl) 4 (.slice A4 x.f2.f2.length c4) rfl)
          have hcz0 := (blk_cell hbox 0).trans rfl
          have hfz0 := blk_frozen hbox 0
          have hcz1 := (blk_cell hbox 1).trans rfl
          have hfz1 := blk_frozen hbox 1
          have hcz2 := (blk_cell hbox 2).trans rfl
          have hfz2 := blk_frozen hbox 2
          have hcz3 := (blk_cell hbox 3).trans rfl
          have hfz3 := blk_frozen hbox 3
          have hcz4 := (blk_cell hbox 4).trans rfl
          have hfz4 := blk_frozen hbox 4
          clear hbox hb3 hgi hgw hbw)
      clear hcz0 hcz1 hcz2 hcz3 hcz4 hfz0 hfz1 hfz2 hfz3 hfz4 hx1 hx2 hx3 hx4 hx5
      generalize (((((w6.setCell ⟨gi, 0, none⟩ (.string x.f0)).setCell ⟨gi, 1, none⟩ (.int .i64 x.f1)).setCell ⟨gi, 2, none⟩ (.int .i64 x.f2.f0)).setCell ⟨gi, 3, none⟩ (.int .i64 x.f2.f1)).setCell ⟨gi, 4, none⟩ (.slice A4 x.f2.f2.length c4)) = wq at *
      obtain ⟨go, cpo, hov, _, _, _⟩ := Kd.R_form HRo.out (by omega)
      injection hov with hov1 _ hov2
      subst hov1 hov2
      obtain ⟨co1, hcl, hM, hcc, _⟩ := Kd.R_elem HRo.out z41 (i : Int) (by omega) (by omega)
      obtain ⟨v0, rfl, hR0⟩ := k41_openM hM
      have hoe : out.getD (i : Int).toNat z41 = out[i] := by rw [Int.toNat_natCast, List.getD_eq_getElem?_getD, List.getElem?_eq_getElem hlo]; rfl
      rw [hoe] at hR0
      generalize out[i] = y at *
      obtain ⟨Av, cv, rfl⟩ := Kd.R_slice hR0
      have hov := hcc 0 _ rfl
      rw [Int.toNat_natCast] at hov
      have hovr : wr.cell? ⟨go, i, none⟩ = some (.slice Av y.f0.length cv) := (congrArg (fun j => wr.cell? ⟨go, j, none⟩) (show i = i * (k41).sz + 0 from by show i = i * 1 + 0; omega)).trans hov
      have hovq := cell_up Hbw.out hovr
      have HR0 := Aside0.mk (Kd.R_below hR0 Hbw.out)
      have HMq := Aside0.mk (Kd.R_below HRf.out Hbw.out)
      have S8q := Aside0.mk (blk_below S8.out Hbw.out)
      have HBq := Aside0.mk (below_step HB.out Hbw.out)
      have n0 : wq.cell? ⟨gi, 0, none⟩ = some (.string x.f0) := (blk_cell Hgi.out 0).trans rfl
      have n2 : wq.cell? ⟨gi, 2, none⟩ = some (.int .i64 x.f2.f0) := (blk_cell Hgi.out 2).trans rfl
      have n3 : wq.cell? ⟨gi, 3, none⟩ = some (.int .i64 x.f2.f1) := (blk_cell Hgi.out 3).trans rfl
      have n4 : wq.cell? ⟨gi, 4, none⟩ = some (.slice A4 x.f2.f2.length c4) := (blk_cell Hgi.out 4).trans rfl
      have m1 : wq.cell? ⟨g8, 1, none⟩ = some (.slice Af i cf) := (blk_cell S8q.out 1).trans rfl
      clear hcc hM hcl hov hovr hR0 hoe
      go_region_law
        (first
          | (refine Kd.R_append_step k46 (w0 := w) w.heap.size rfl (.tmp 34) (.tmp 45) 36 46 (.agg #[.string ⟨#[]⟩, .slice none 0 0, .int .i64 0, .int .i64 0, .slice none 0 0]) 80 rfl Try.underlying36 (by kernel_rfl) rfl (by decide) (by omega) (.slice Af i cf) (mkFuns ((l1.map to48).take i) (out.take i)) ⟨x.f0, y, x.f2⟩ [.string x.f0, .slice Av y.f0.length cv, .int .i64 x.f2.f0, .int .i64 x.f2.f1, v4] (fun _ => True) (fun k => ∃ q cells, q ≠ 46 ∧ wA.heap[k]? = some (.cells cells q (0, 0))) rfl rfl (by exact k46_mkM _ _ _ ⟨x.f0, y, x.f2⟩ (Kd.R_mono (Kd.R_bound HR0A.out) (fun k hk => by obtain ⟨_, _, _, q, hq, cells, hc⟩ := hk; refine ⟨q, cells, ?_, hc⟩; rcases List.mem_cons.1 hq with rfl | hq; decide; rw [List.mem_singleton.1 hq]; decide)) (Kd.R_mono (Kd.R_bound HR4A.out) (fun k hk => by obtain ⟨_, _, _, q, hq, cells, hc⟩ := hk; refine ⟨q, cells, ?_, hc⟩; rcases List.mem_cons.1 hq with rfl | hq; decide; rw [List.mem_singleton.1 hq]; decide))) (fun k hk => ⟨trivial, fun he => by obtain ⟨q, cells, hq, hc⟩ := hk; obtain ⟨c2, h2⟩ := Kd.R_typed HRfA.out k he.symm; exact hq (blk_type hc h2)⟩) (fun _ _ => trivial) HRfA.out HBA.out HBA.out.size (by rw [mkFuns_len (by rw [List.length_map]; have := Hlt.out; omega) (by rw [List.length_map]; exact Hho.out.symm)]; omega) ?_
             intro v2 w7 hrf hb7 hg7 hat
             rw [HSN.out] at hrf
             obtain ⟨A2, c2, e2⟩ := Kd.R_slice hrf
             rw [mkFuns_len (i := i + 1) (by rw [List.length_map]; exact Hlt.out) (by rw [List.length_map]; exact Hho.out.symm)] at e2
             subst e2
             have tf := Kd.R_typed HRfA.out
             have HRf7 := Aside0.mk hrf
             have HB7 := Aside0.mk hb7
             have HRs7 := Aside0.mk (Kd.R_over' HRsA.out tf (by decide) hg7)
             have HRo7 := Aside0.mk (Kd.R_over' HRoA.out tf (by decide) hg7)
             have S87 := Aside0.mk (blk_grownT S8A.out hg7 (fun k hk => by obtain ⟨c, hc⟩ := tf k hk; exact ⟨46, c, by decide, hc⟩))
             have S47 := Aside0.mk (blk_grownT S4A.out hg7 (fun k hk => by obtain ⟨c, hc⟩ := tf k hk; exact ⟨46, c, by decide, hc⟩))
             have Hgi7 := Aside0.mk (blk_grownT HgiA.out hg7 (fun k hk => by obtain ⟨c, hc⟩ := tf k hk; exact ⟨46, c, by decide, hc⟩))
             have d0 : w7.cell? ⟨gi, 0, none⟩ = some (.string x.f0) := (blk_cell Hgi7.out 0).trans rfl
             have d2 : w7.cell? ⟨gi, 2, none⟩ = some (.int .i64 x.f2.f0) := (blk_cell Hgi7.out 2).trans rfl
             have d3 : w7.cell? ⟨gi, 3, none⟩ = some (.int .i64 x.f2.f1) := (blk_cell Hgi7.out 3).trans rfl
             have d4 : w7.cell? ⟨gi, 4, none⟩ = some (.slice A4 x.f2.f2.length c4) := (blk_cell Hgi7.out 4).trans rfl
             have d5 : w7.cell? ⟨go, i, none⟩ = some (.slice Av y.f0.length cv) := (World.cell?_of_block (hg7.block go (World.block_lt_of_cell? wA _ a5) (fun he => by obtain ⟨c, hc⟩ := tf go he.symm; obtain ⟨c', hc'⟩ := Kd.R_typed HRoA.out go (by simp [Value.ownBlock]); exact absurd (blk_type hc hc') (by decide)))).trans a5
             have d6 : w7.cell? ⟨g8, 1, none⟩ = some (.slice Af i cf) := (blk_cell S87.out 1).trans rfl
             have d7 : w7.frozen? ⟨g8, 1, none⟩ = false := blk_frozen S87.out 1
             have e1 : g8 ≠ gi := blk_ne S87.out Hgi7.out (by decide)
             have e2 : g8 ≠ go := fun he => (by obtain ⟨c', hc'⟩ := Kd.R_typed HRo7.out go (by simp [Value.ownBlock]); rw [← he] at hc'; exact absurd (blk_type hc' S87.out) (by decide))
             clear hrf hb7 hg7 hat tf a0 a2 a3 a4 a5 a6 a7)
          | (go_simp
             go_at_call 24
             (with_reducible refine (copy24 _ x.f2.f0 x.f2.f1 x.f2.f2 A4 c4 wq.drew (Nat.lt_succ_self _) HCPi.out (Kd.C_below HC5.out (below_drew HBq.out)) Hl5.out).mono ?_)
             rintro e wA ⟨v4, rfl, hR4, hbA⟩
             have HRfA := Aside0.mk (Kd.R_below (Kd.R_drew HMq.out) hbA)
             have HR0A := Aside0.mk (Kd.R_below (Kd.R_drew HR0.out) hbA)
             have HBA := Aside0.mk (below_step (below_drew HBq.out) hbA)
             have HbwA := Aside0.mk (below_step (below_drew Hbw.out) hbA)
             have HR4A := Aside0.mk (Kd.R_lower hR4 (show w.heap.size ≤ wq.drew.heap.size from HBq.out.size))
             have S8A := Aside0.mk (blk_below (blk_drew S8q.out) hbA)
             have a0 := cell_up hbA (show wq.drew.cell? _ = _ from n0)
             have a2 := cell_up hbA (show wq.drew.cell? _ = _ from n2)
             have a3 := cell_up hbA (show wq.drew.cell? _ = _ from n3)
             have a4 := cell_up hbA (show wq.drew.cell? _ = _ from n4)
             have a5 := cell_up hbA (show wq.drew.cell? _ = _ from hovq)
             have a6 := cell_up hbA (show wq.drew.cell? _ = _ from m1)
             have a7 : ∀ o : Obj, (wA.alloc o).cell? ⟨g8, 1, none⟩ = some (.slice Af i cf) := fun o => (blk_cell (blk_alloc S8A.out o) 1).trans rfl
             have HgiA := Aside0.mk (blk_below (blk_drew Hgi.out) hbA)
             have HRsA := Aside0.mk (Kd.R_below HRs.out HbwA.out)
             have HRoA := Aside0.mk (Kd.R_below HRo.out HbwA.out)
             have S4A := Aside0.mk (blk_below S4.out HbwA.out)
             clear hR4 hbA))
      all_goals (
        generalize hw8 : w7.setCell { block := g8, off := 1 } (.slice A2 (i + 1) c2) = w8 at *
        have HRf8 := Aside0.mk (show Kd.R k46 46 w8 w.heap.size (fun _ => True) (.slice A2 (i + 1) c2) _ from by rw [← hw8]; exact Kd.R_set HRf7.out S87.out (by decide) 1 _)
        have HRs8 := Aside0.mk (show Kd.R k59 59 w8 w.heap.size (fun _ => True) (.slice As l0.length cs) l0 from by rw [← hw8]; exact Kd.R_set HRs7.out S87.out (by decide) 1 _)
        have HRo8 := Aside0.mk (show Kd.R k41 41 w8 w.heap.size (fun _ => True) (.slice (some ⟨go, 0, none⟩) out.length co) out from by rw [← hw8]; exact Kd.R_set HRo7.out S87.out (by decide) 1 _)
        have S88 := Aside0.mk (show w8.heap[g8]? = some (.cells #[.slice As l0.length cs, .slice A2 (i + 1) c2] 38 (0, 0)) from by rw [← hw8]; exact blk_put S87.out 1 _ rfl)
        have S48 := Aside0.mk (show w8.heap[g4]? = some (.cells #[.slice none 0 0, .slice none 0 0] 38 (0, 0)) from by rw [← hw8]; exact blk_far (p := ⟨g8, 1, none⟩) S47.out (fun he => H48.out he) _)
        have HB8 := Aside0.mk (show Below w.heap.size w w8 from by rw [← hw8]; exact below_set HB7.out Hg8.out)
        clear hw8 d0 d2 d3 d4 d5 d6 d7 n0 n2 n3 n4 m1 hovq
        go_wp2_with fail
        go_roundg k1
        case measure => omega
        case rel => exact ⟨i + 1, A2, c2, by go_num, ⟨by have := Hi.out; omega⟩, HRf8, HRs8, HRo8, S88, S48, HB8⟩)
    · have hie : i = l1.length := by have := Hi.out; omega
      subst hie
      have hq0 : wr.cell? ⟨g8, 0, none⟩ = some (.slice As l0.length cs) := (blk_cell S8.out 0).trans rfl
      have hq1 : wr.cell? ⟨g8, 1, none⟩ = some (.slice Af l1.length cf) := (blk_cell S8.out 1).trans rfl
      have hz0 : wr.cell? ⟨g4, 0, none⟩ = some (.slice none 0 0) := (blk_cell S4.out 0).trans rfl
      have hz1 : wr.cell? ⟨g4, 1, none⟩ = some (.slice none 0 0) := (blk_cell S4.out 1).trans rfl
      have hf0 := blk_frozen S4.out 0
      have hf1 := blk_frozen S4.out 1
      have HRf' := HRf.out
      rw [List.take_of_length_le (by rw [List.length_map]; exact Nat.le_refl _), List.take_of_length_le (by rw [Hho.out]; exact Nat.le_refl _)] at HRf'
      have HF := Aside0.mk HRf'
      have HG := Aside0.mk (by have := Hg4.out; omega : w.heap.size ≤ g4)
      clear HRf' HRf
      go_wp2_with fail
      refine bodyPost_ret (results_ct rfl _ _ g4 38 #[.slice As l0.length cs, .slice Af l1.length cf] (0, 0) _ rfl (blk_put (blk_put S4.out 0 (.slice As l0.length cs) rfl) 1 (.slice Af l1.length cf) rfl) Try.underlying38 rfl (by kernel_rfl)) rfl ?_
      have S4' := blk_put (cs' := #[.slice As l0.length cs, .slice none 0 0]) S4.out 0 (.slice As l0.length cs) rfl
      exact ⟨_, _, rfl, Kd.R_set (Kd.R_set HRs.out S4.out (by decide) 0 _) S4' (by decide) 1 _, Kd.R_set (Kd.R_set HF.out S4.out (by decide) 0 _) S4' (by decide) 1 _, below_set (below_set HB.out HG.out) HG.out⟩
set_option maxHeartbeats 8000000 in
theorem scheme20_err (A0 : Option Addr) (c0 : Nat) (l0 : List S59) (A1 : Option Addr) (c1 : Nat) (l1 : List S48) (out : List S41) (er : Int) (w : World) (hr0 : Kd.C k59 w A0 l0.length l0) (hc0 : l0.length ≤ c0) (hr1 : Kd.C k48 w A1 l1.length l1) (hc1 : l1.length ≤ c1) (h : ∀ w, Kd.C k59 w A0 l0.length l0 → Kd.C k48 w A1 l1.length l1 → Calls Try.prog 13 #[.slice A0 l0.length c0, .slice A1 l1.length c1] w fun e w' => ∃ v, e = .returned (.tuple #[v, .int .i64 er]) ∧ Kd.R k41 41 w' w.heap.size (fun _ => True) v out ∧ Below w.heap.size w w') (he : er ≠ 0) :
    Calls Try.prog 20 #[.slice A0 l0.length c0, .slice A1 l1.length c1] w fun e w' => e = .returned (.tuple #[.agg #[.slice none 0 0, .slice none 0 0], .int .i64 er]) ∧ Below w.heap.size w w' := by
  have hu48 := Try.underlying48
  have hu44 := Try.underlying44
  have hu41 := Try.underlying41
  have hu46 := Try.underlying46
  have hu38 := Try.underlying38
  have HR0 := Aside0.mk hr0
  have HC0 := Aside0.mk hc0
  have HR1 := Aside0.mk hr1
  have HC1 := Aside0.mk hc1
  have H := Aside0.mk h
  have hlen1 : l1.length ≤ 9223372036854775807 := hr1.2.1
  have hne : (er != 0) = true := bne_iff_ne.2 he
  clear hr0 hc0 hr1 hc1 h he
  go_enter Try.func20, Try.ntmps20
  go_wp2_with (
    (with_reducible refine gate_dst (N := 4) rfl ?_)
    refine box_event ?hg (N := 4) ?hd (cs := #[.slice none 0 0, .slice none 0 0]) (t := 38) ?hr ?_
    (case hd => rfl)
    (case hg => rfl)
    (case hr => first | (go_simp; done) | (go_simp; rfl))
    intro g4 hg4 w2 hbox hb2
    have S4 := Aside0.mk hbox
    have HB2 := Aside0.mk hb2
    have Hg4 := Aside0.mk hg4
    clear hbox hb2 hg4)
  (with_reducible refine (H.out w2 (Kd.C_below HR0.out HB2.out) (Kd.C_below HR1.out HB2.out)).mono ?_)
  rintro e w3 ⟨v, rfl, hR3, hb3⟩
  obtain ⟨Ao, co, rfl⟩ := Kd.R_slice hR3
  have S43 := Aside0.mk (blk_below S4.out hb3)
  have HB3 := Aside0.mk (below_step HB2.out hb3)
  clear hb3 hR3 S4
  have hz0 : w3.cell? ⟨g4, 0, none⟩ = some (.slice none 0 0) := (blk_cell S43.out 0).trans rfl
  have hz1 : w3.cell? ⟨g4, 1, none⟩ = some (.slice none 0 0) := (blk_cell S43.out 1).trans rfl
  have hf0 := blk_frozen S43.out 0
  have hf1 := blk_frozen S43.out 1
  have HG := Aside0.mk (by have := Hg4.out; omega : w.heap.size ≤ g4)
  go_wp2_with fail
  refine bodyPost_ret (results_ct rfl _ _ g4 38 #[.slice none 0 0, .slice none 0 0] (0, 0) _ rfl (blk_put (blk_put S43.out 0 (.slice none 0 0) rfl) 1 (.slice none 0 0) rfl) Try.underlying38 rfl (by kernel_rfl)) rfl ?_
  exact ⟨rfl, below_set (below_set HB3.out HG.out) HG.out⟩
set_option maxHeartbeats 8000000 in
theorem scheme20_ok (A0 : Option Addr) (c0 : Nat) (l0 : List S59) (A1 : Option Addr) (c1 : Nat) (l1 : List S48) (out : List S41) (w : World) (hr0 : Kd.C k59 w A0 l0.length l0) (hc0 : l0.length ≤ c0) (hr1 : Kd.C k48 w A1 l1.length l1) (hc1 : l1.length ≤ c1) (h : ∀ w, Kd.C k59 w A0 l0.length l0 → Kd.C k48 w A1 l1.length l1 → Calls Try.prog 13 #[.slice A0 l0.length c0, .slice A1 l1.length c1] w fun e w' => ∃ v, e = .returned (.tuple #[v, .int .i64 0]) ∧ Kd.R k41 41 w' w.heap.size (fun _ => True) v out ∧ Below w.heap.size w w')
    (hcp : ∀ x ∈ l1, tcntL x.f2.f2 ≤ 1000) (ho : out.length = l1.length) (h24 : l0.length ≤ 24) (h64 : l1.length ≤ 64) :
    Calls Try.prog 20 #[.slice A0 l0.length c0, .slice A1 l1.length c1] w fun e w' => ∃ v1 v2, e = .returned (.tuple #[.agg #[v1, v2], .int .i64 0]) ∧ Kd.R k59 59 w' w.heap.size (fun _ => True) v1 l0 ∧ Kd.R k46 46 w' w.heap.size (fun _ => True) v2 (mkFuns l1 out) ∧ Below w.heap.size w w' := by
  have hu48 := Try.underlying48
  have hu44 := Try.underlying44
  have hu41 := Try.underlying41
  have hu46 := Try.underlying46
  have hu38 := Try.underlying38
  have HR0 := Aside0.mk hr0
  have HC0 := Aside0.mk hc0
  have HR1 := Aside0.mk hr1
  have HC1 := Aside0.mk hc1
  have H := Aside0.mk h
  have hlen1 : l1.length ≤ 9223372036854775807 := hr1.2.1
  have HCP := Aside0.mk hcp
  clear hr0 hc0 hr1 hc1 h hcp
  go_enter Try.func20, Try.ntmps20
  go_wp2_with (
    (with_reducible refine gate_dst (N := 4) rfl ?_)
    refine box_event ?hg (N := 4) ?hd (cs := #[.slice none 0 0, .slice none 0 0]) (t := 38) ?hr ?_
    (case hd => rfl)
    (case hg => rfl)
    (case hr => first | (go_simp; done) | (go_simp; rfl))
    intro g4 hg4 w2 hbox hb2
    have S4 := Aside0.mk hbox
    have HB2 := Aside0.mk hb2
    have Hg4 := Aside0.mk hg4
    clear hbox hb2 hg4)
  (with_reducible refine (H.out w2 (Kd.C_below HR0.out HB2.out) (Kd.C_below HR1.out HB2.out)).mono ?_)
  rintro e w3 ⟨v, rfl, hR3, hb3⟩
  obtain ⟨Ao, co, rfl⟩ := Kd.R_slice hR3
  have S43 := Aside0.mk (blk_below S4.out hb3)
  have HB3 := Aside0.mk (below_step HB2.out hb3)
  have HRo := Aside0.mk (Kd.R_lower hR3 HB2.out.size)
  clear hb3 hR3 S4
  go_wp2_with (at_builtin; refine holdI5 ?_)
  unfold HoldI5
  refine Kd.R_append_rows k59 (Rr := k59.K w3) (w0 := w) w.heap.size rfl (.const (.slice none 0 0)) (.tmp 21) 22 59 (.agg #[.string ⟨#[]⟩, .int .i64 0]) 24 rfl Try.underlying22 (by kernel_rfl) rfl (by decide) (by omega) (.slice none 0 0) [] l0 A0 l0.length c0 (fun _ => True) (fun _ => False) rfl rfl ?aO ?aR ?aK (fun _ hk => hk.elim) (fun _ _ => trivial) HB3.out HB3.out.size (by simp only [List.length_nil]; omega) ?_
  (case aO => exact Kd.R_nil _ _ _ _ _)
  (case aR => exact Kd.C_below HR0.out HB3.out)
  (case aK => intro x cs hx; rw [k59_open hx]; exact k59_mkM _ _ _ x)
  intro vs w4 hs4 hb4 hg4 _
  rw [List.nil_append] at hs4
  obtain ⟨As, cs, rfl⟩ := Kd.R_slice hs4
  have S44 := Aside0.mk (blk_grown S43.out hg4 (by simp [Value.ownBlock]))
  have HB4 := Aside0.mk hb4
  have HRs := Aside0.mk hs4
  have HRo4 := Aside0.mk (Kd.R_grown HRo.out hg4 (fun k _ he => by simp [Value.ownBlock] at he))
  clear hs4 hb4 hg4 HRo S43 HB3
  go_upto_region 5 with (
    (with_reducible refine gate_dst (N := 8) rfl ?_)
    refine box_event ?hg (N := 8) ?hd (cs := #[.slice none 0 0, .slice none 0 0]) (t := 38) ?hr ?_
    (case hd => rfl)
    (case hg => rfl)
    (case hr => first | (go_simp; done) | (go_simp; rfl))
    intro g8 hg8 w5 hbox hb5
    have hbw := below_set (g := g8) (j := 1) (v := .slice none 0 0) (below_set (g := g8) (j := 0) (v := .slice As l0.length cs) hb5 (Nat.le_of_eq hg8.symm)) (Nat.le_of_eq hg8.symm)
    have hcz0 := (blk_cell hbox 0).trans rfl
    have hcz1 := (blk_cell hbox 1).trans rfl
    have hfz0 := blk_frozen hbox 0
    have hfz1 := blk_frozen hbox 1
    have S8 := Aside0.mk (blk_put (cs' := #[.slice As l0.length cs, .slice none 0 0]) (blk_put (cs' := #[.slice As l0.length cs, .slice none 0 0]) hbox 0 (.slice As l0.length cs) rfl) 1 (.slice none 0 0) rfl)
    have Hbw := Aside0.mk hbw
    have Hg8 := Aside0.mk (show w.heap.size ≤ g8 from by have := HB4.out.size; omega)
    have H48 := Aside0.mk (show g4 ≠ g8 from by have := blk_lt S44.out; omega)
    clear hbox hb5 hg8 hbw)
  generalize ((w5.setCell { block := g8, off := 0 } (.slice As l0.length cs)).setCell { block := g8, off := 1 } (.slice none 0 0)) = w6 at *
  have S46 := Aside0.mk (blk_below S44.out Hbw.out)
  have HB6 := Aside0.mk (below_step HB4.out Hbw.out)
  have HRs6 := Aside0.mk (Kd.R_below HRs.out Hbw.out)
  have HRo6 := Aside0.mk (Kd.R_below HRo4.out Hbw.out)
  have Hho := Aside0.mk ho
  clear hcz0 hcz1 hfz0 hfz1 S44 HB4 HRs HRo4 Hbw ho
  go_wp2_with fail
  go_loopg [26] l1.length (fun kq v26 wr => ∃ (i : Nat) (Af : Option Addr) (cf : Nat), v26 = .int .i64 (i : Int) ∧ Aside0 (i + kq = l1.length) ∧ Aside0 (Kd.R k46 46 wr w.heap.size (fun _ => True) (.slice Af i cf) (mkFuns (l1.take i) (out.take i))) ∧ Aside0 (Kd.R k59 59 wr w.heap.size (fun _ => True) (.slice As l0.length cs) l0) ∧ Aside0 (Kd.R k41 41 wr w.heap.size (fun _ => True) (.slice Ao out.length co) out) ∧ Aside0 (wr.heap[g8]? = some (.cells #[.slice As l0.length cs, .slice Af i cf] 38 (0, 0))) ∧ Aside0 (wr.heap[g4]? = some (.cells #[.slice none 0 0, .slice none 0 0] 38 (0, 0))) ∧ Aside0 (Below w.heap.size w wr))
  case atStart => exact ⟨0, none, 0, rfl, ⟨by omega⟩, ⟨Kd.R_nil _ _ _ _ _⟩, HRs6, HRo6, S8, S46, HB6⟩
  case round =>
    clear HRs6 HRo6 S8 S46 HB6
    obtain ⟨i, Af, cf, rfl, Hi, HRf, HRs, HRo, S8, S4, HB⟩ := hrel
    by_cases hlt : i < l1.length
    · cases gk with
      | zero => exact absurd Hi.out (by omega)
      | succ k1 =>
      have hlo : i < out.length := by rw [Hho.out]; exact hlt
      have Hlt := Aside0.mk hlt
      have HSN := Aside0.mk (mkFuns_snoc hlt hlo)
      obtain ⟨ad0, A4, c4, he, hx1, hx2, hx3, hx4, hx5, hl4, hC4⟩ := at_T48 HR1.out (i : Int) (by omega) (by omega)
      cases he
      replace hx1 := (HB.out.cell (World.block_lt_of_cell? w _ hx1)).trans hx1
      replace hx2 := (HB.out.cell (World.block_lt_of_cell? w _ hx2)).trans hx2
      replace hx3 := (HB.out.cell (World.block_lt_of_cell? w _ hx3)).trans hx3
      replace hx4 := (HB.out.cell (World.block_lt_of_cell? w _ hx4)).trans hx4
      replace hx5 := (HB.out.cell (World.block_lt_of_cell? w _ hx5)).trans hx5
      rw [Int.toNat_natCast] at hx1 hx2 hx3 hx4 hx5
      have Hl4 := Aside0.mk hl4
      have HC4 := Aside0.mk hC4
      have hxe : rd_T48 l1 (i : Int) = l1[i] := by unfold rd_T48; rw [Int.toNat_natCast, List.getD_eq_getElem?_getD, List.getElem?_eq_getElem hlt]; rfl
      have HCPi := Aside0.mk (HCP.out l1[i] (List.getElem_mem hlt))
      rw [hxe] at hx1 hx2 hx3 hx4 hx5
      have HC4' := HC4.out
      have Hl4' := Hl4.out
      rw [hxe] at HC4' Hl4'
      have HC5 := Aside0.mk HC4'
      have Hl5 := Aside0.mk Hl4'
      clear hl4 hC4 hxe HC4 Hl4 HC4' Hl4'
      have p1 : (0 ≤ (i : Int)) = True := eq_true (by omega)
      have p2 : ((i : Int) < (l1.length : Int)) = True := eq_true (by omega)
      have p3 : (i < l1.length) = True := eq_true (by omega)
      have q2 : ((i : Int) < (out.length : Int)) = True := eq_true (by omega)
      have q3 : (i < out.length) = True := eq_true (by omega)
      generalize l1[i] = x at *
      go_upto_region 8 with (
          (with_reducible refine gate_dst (N := 10) rfl ?_)
          refine box_event ?hg (N := 10) ?hd (cs := #[.string (⟨#[]⟩ : ByteArray), .int .i64 0, .int .i64 0, .int .i64 0, .slice none 0 0]) (t := 48) ?hr ?_
          (case hd => rfl)
          (case hg => rfl)
          (case hr => first | (go_simp; done) | (go_simp; rfl))
          intro gi hgi w6 hbox hb3
          have hgw : wr.heap.size ≤ gi := by omega
          have hbw := below_set (g := gi) (j := 4) (v := .slice A4 x.f2.f2.length c4) (below_set (g := gi) (j := 3) (v := .int .i64 x.f2.f1) (below_set (g := gi) (j := 2) (v := .int .i64 x.f2.f0) (below_set (g := gi) (j := 1) (v := .int .i64 x.f1) (below_set (g := gi) (j := 0) (v := .string x.f0) hb3 hgw) hgw) hgw) hgw) hgw
          have Hbw := Aside0.mk hbw
          have Hgi := Aside0.mk (blk_put (cs' := #[.string x.f0, .int .i64 x.f1, .int .i64 x.f2.f0, .int .i64 x.f2.f1, .slice A4 x.f2.f2.length c4]) (blk_put (cs' := #[.string x.f0, .int .i64 x.f1, .int .i64 x.f2.f0, .int .i64 x.f2.f1, .slice none 0 0]) (blk_put (cs' := #[.string x.f0, .int .i64 x.f1, .int .i64 x.f2.f0, .int .i64 0, .slice none 0 0]) (blk_put (cs' := #[.string x.f0, .int .i64 x.f1, .int .i64 0, .int .i64 0, .slice none 0 0]) (blk_put (cs' := #[.string x.f0, .int .i64 0, .int .i64 0, .int .i64 0, .slice none 0 0]) (hbox) 0 (.string x.f0) rfl) 1 (.int .i64 x.f1) rfl) 2 (.int .i64 x.f2.f0) rfl) 3 (.int .i64 x.f2.f1) rfl) 4 (.slice A4 x.f2.f2.length c4) rfl)
          have hcz0 := (blk_cell hbox 0).trans rfl
          have hfz0 := blk_frozen hbox 0
          have hcz1 := (blk_cell hbox 1).trans rfl
          have hfz1 := blk_frozen hbox 1
          have hcz2 := (blk_cell hbox 2).trans rfl
          have hfz2 := blk_frozen hbox 2
          have hcz3 := (blk_cell hbox 3).trans rfl
          have hfz3 := blk_frozen hbox 3
          have hcz4 := (blk_cell hbox 4).trans rfl
          have hfz4 := blk_frozen hbox 4
          clear hbox hb3 hgi hgw hbw)
      clear hcz0 hcz1 hcz2 hcz3 hcz4 hfz0 hfz1 hfz2 hfz3 hfz4 hx1 hx2 hx3 hx4 hx5
      generalize (((((w6.setCell ⟨gi, 0, none⟩ (.string x.f0)).setCell ⟨gi, 1, none⟩ (.int .i64 x.f1)).setCell ⟨gi, 2, none⟩ (.int .i64 x.f2.f0)).setCell ⟨gi, 3, none⟩ (.int .i64 x.f2.f1)).setCell ⟨gi, 4, none⟩ (.slice A4 x.f2.f2.length c4)) = wq at *
      obtain ⟨go, cpo, hov, _, _, _⟩ := Kd.R_form HRo.out (by omega)
      injection hov with hov1 _ hov2
      subst hov1 hov2
      obtain ⟨co1, hcl, hM, hcc, _⟩ := Kd.R_elem HRo.out z41 (i : Int) (by omega) (by omega)
      obtain ⟨v0, rfl, hR0⟩ := k41_openM hM
      have hoe : out.getD (i : Int).toNat z41 = out[i] := by rw [Int.toNat_natCast, List.getD_eq_getElem?_getD, List.getElem?_eq_getElem hlo]; rfl
      rw [hoe] at hR0
      generalize out[i] = y at *
      obtain ⟨Av, cv, rfl⟩ := Kd.R_slice hR0
      have hov := hcc 0 _ rfl
      rw [Int.toNat_natCast] at hov
      have hovr : wr.cell? ⟨go, i, none⟩ = some (.slice Av y.f0.length cv) := (congrArg (fun j => wr.cell? ⟨go, j, none⟩) (show i = i * (k41).sz + 0 from by show i = i * 1 + 0; omega)).trans hov
      have hovq := cell_up Hbw.out hovr
      have HR0 := Aside0.mk (Kd.R_below hR0 Hbw.out)
      have HMq := Aside0.mk (Kd.R_below HRf.out Hbw.out)
      have S8q := Aside0.mk (blk_below S8.out Hbw.out)
      have HBq := Aside0.mk (below_step HB.out Hbw.out)
      have n0 : wq.cell? ⟨gi, 0, none⟩ = some (.string x.f0) := (blk_cell Hgi.out 0).trans rfl
      have n2 : wq.cell? ⟨gi, 2, none⟩ = some (.int .i64 x.f2.f0) := (blk_cell Hgi.out 2).trans rfl
      have n3 : wq.cell? ⟨gi, 3, none⟩ = some (.int .i64 x.f2.f1) := (blk_cell Hgi.out 3).trans rfl
      have n4 : wq.cell? ⟨gi, 4, none⟩ = some (.slice A4 x.f2.f2.length c4) := (blk_cell Hgi.out 4).trans rfl
      have m1 : wq.cell? ⟨g8, 1, none⟩ = some (.slice Af i cf) := (blk_cell S8q.out 1).trans rfl
      clear hcc hM hcl hov hovr hR0 hoe
      go_region_law
        (first
          | (refine Kd.R_append_step k46 (w0 := w) w.heap.size rfl (.tmp 32) (.tmp 43) 36 46 (.agg #[.string ⟨#[]⟩, .slice none 0 0, .int .i64 0, .int .i64 0, .slice none 0 0]) 80 rfl Try.underlying36 (by kernel_rfl) rfl (by decide) (by omega) (.slice Af i cf) (mkFuns (l1.take i) (out.take i)) ⟨x.f0, y, x.f2⟩ [.string x.f0, .slice Av y.f0.length cv, .int .i64 x.f2.f0, .int .i64 x.f2.f1, v4] (fun _ => True) (fun k => ∃ q cells, q ≠ 46 ∧ wA.heap[k]? = some (.cells cells q (0, 0))) rfl rfl (by exact k46_mkM _ _ _ ⟨x.f0, y, x.f2⟩ (Kd.R_mono (Kd.R_bound HR0A.out) (fun k hk => by obtain ⟨_, _, _, q, hq, cells, hc⟩ := hk; refine ⟨q, cells, ?_, hc⟩; rcases List.mem_cons.1 hq with rfl | hq; decide; rw [List.mem_singleton.1 hq]; decide)) (Kd.R_mono (Kd.R_bound HR4A.out) (fun k hk => by obtain ⟨_, _, _, q, hq, cells, hc⟩ := hk; refine ⟨q, cells, ?_, hc⟩; rcases List.mem_cons.1 hq with rfl | hq; decide; rw [List.mem_singleton.1 hq]; decide))) (fun k hk => ⟨trivial, fun he => by obtain ⟨q, cells, hq, hc⟩ := hk; obtain ⟨c2, h2⟩ := Kd.R_typed HRfA.out k he.symm; exact hq (blk_type hc h2)⟩) (fun _ _ => trivial) HRfA.out HBA.out HBA.out.size (by rw [mkFuns_len (by have := Hlt.out; omega) Hho.out.symm]; omega) ?_
             intro v2 w7 hrf hb7 hg7 hat
             rw [HSN.out] at hrf
             obtain ⟨A2, c2, e2⟩ := Kd.R_slice hrf
             rw [mkFuns_len (i := i + 1) Hlt.out Hho.out.symm] at e2
             subst e2
             have tf := Kd.R_typed HRfA.out
             have HRf7 := Aside0.mk hrf
             have HB7 := Aside0.mk hb7
             have HRs7 := Aside0.mk (Kd.R_over' HRsA.out tf (by decide) hg7)
             have HRo7 := Aside0.mk (Kd.R_over' HRoA.out tf (by decide) hg7)
             have S87 := Aside0.mk (blk_grownT S8A.out hg7 (fun k hk => by obtain ⟨c, hc⟩ := tf k hk; exact ⟨46, c, by decide, hc⟩))
             have S47 := Aside0.mk (blk_grownT S4A.out hg7 (fun k hk => by obtain ⟨c, hc⟩ := tf k hk; exact ⟨46, c, by decide, hc⟩))
             have Hgi7 := Aside0.mk (blk_grownT HgiA.out hg7 (fun k hk => by obtain ⟨c, hc⟩ := tf k hk; exact ⟨46, c, by decide, hc⟩))
             have d0 : w7.cell? ⟨gi, 0, none⟩ = some (.string x.f0) := (blk_cell Hgi7.out 0).trans rfl
             have d2 : w7.cell? ⟨gi, 2, none⟩ = some (.int .i64 x.f2.f0) := (blk_cell Hgi7.out 2).trans rfl
             have d3 : w7.cell? ⟨gi, 3, none⟩ = some (.int .i64 x.f2.f1) := (blk_cell Hgi7.out 3).trans rfl
             have d4 : w7.cell? ⟨gi, 4, none⟩ = some (.slice A4 x.f2.f2.length c4) := (blk_cell Hgi7.out 4).trans rfl
             have d5 : w7.cell? ⟨go, i, none⟩ = some (.slice Av y.f0.length cv) := (World.cell?_of_block (hg7.block go (World.block_lt_of_cell? wA _ a5) (fun he => by obtain ⟨c, hc⟩ := tf go he.symm; obtain ⟨c', hc'⟩ := Kd.R_typed HRoA.out go (by simp [Value.ownBlock]); exact absurd (blk_type hc hc') (by decide)))).trans a5
             have d6 : w7.cell? ⟨g8, 1, none⟩ = some (.slice Af i cf) := (blk_cell S87.out 1).trans rfl
             have d7 : w7.frozen? ⟨g8, 1, none⟩ = false := blk_frozen S87.out 1
             have e1 : g8 ≠ gi := blk_ne S87.out Hgi7.out (by decide)
             have e2 : g8 ≠ go := fun he => (by obtain ⟨c', hc'⟩ := Kd.R_typed HRo7.out go (by simp [Value.ownBlock]); rw [← he] at hc'; exact absurd (blk_type hc' S87.out) (by decide))
             clear hrf hb7 hg7 hat tf a0 a2 a3 a4 a5 a6 a7)
          | (go_simp
             go_at_call 54
             (with_reducible refine (copy54 _ x.f2.f0 x.f2.f1 x.f2.f2 A4 c4 wq.drew (Nat.lt_succ_self _) HCPi.out (Kd.C_below HC5.out (below_drew HBq.out)) Hl5.out).mono ?_)
             rintro e wA ⟨v4, rfl, hR4, hbA⟩
             have HRfA := Aside0.mk (Kd.R_below (Kd.R_drew HMq.out) hbA)
             have HR0A := Aside0.mk (Kd.R_below (Kd.R_drew HR0.out) hbA)
             have HBA := Aside0.mk (below_step (below_drew HBq.out) hbA)
             have HbwA := Aside0.mk (below_step (below_drew Hbw.out) hbA)
             have HR4A := Aside0.mk (Kd.R_lower hR4 (show w.heap.size ≤ wq.drew.heap.size from HBq.out.size))
             have S8A := Aside0.mk (blk_below (blk_drew S8q.out) hbA)
             have a0 := cell_up hbA (show wq.drew.cell? _ = _ from n0)
             have a2 := cell_up hbA (show wq.drew.cell? _ = _ from n2)
             have a3 := cell_up hbA (show wq.drew.cell? _ = _ from n3)
             have a4 := cell_up hbA (show wq.drew.cell? _ = _ from n4)
             have a5 := cell_up hbA (show wq.drew.cell? _ = _ from hovq)
             have a6 := cell_up hbA (show wq.drew.cell? _ = _ from m1)
             have a7 : ∀ o : Obj, (wA.alloc o).cell? ⟨g8, 1, none⟩ = some (.slice Af i cf) := fun o => (blk_cell (blk_alloc S8A.out o) 1).trans rfl
             have HgiA := Aside0.mk (blk_below (blk_drew Hgi.out) hbA)
             have HRsA := Aside0.mk (Kd.R_below HRs.out HbwA.out)
             have HRoA := Aside0.mk (Kd.R_below HRo.out HbwA.out)
             have S4A := Aside0.mk (blk_below S4.out HbwA.out)
             clear hR4 hbA))
      all_goals (
        generalize hw8 : w7.setCell { block := g8, off := 1 } (.slice A2 (i + 1) c2) = w8 at *
        have HRf8 := Aside0.mk (show Kd.R k46 46 w8 w.heap.size (fun _ => True) (.slice A2 (i + 1) c2) _ from by rw [← hw8]; exact Kd.R_set HRf7.out S87.out (by decide) 1 _)
        have HRs8 := Aside0.mk (show Kd.R k59 59 w8 w.heap.size (fun _ => True) (.slice As l0.length cs) l0 from by rw [← hw8]; exact Kd.R_set HRs7.out S87.out (by decide) 1 _)
        have HRo8 := Aside0.mk (show Kd.R k41 41 w8 w.heap.size (fun _ => True) (.slice (some ⟨go, 0, none⟩) out.length co) out from by rw [← hw8]; exact Kd.R_set HRo7.out S87.out (by decide) 1 _)
        have S88 := Aside0.mk (show w8.heap[g8]? = some (.cells #[.slice As l0.length cs, .slice A2 (i + 1) c2] 38 (0, 0)) from by rw [← hw8]; exact blk_put S87.out 1 _ rfl)
        have S48 := Aside0.mk (show w8.heap[g4]? = some (.cells #[.slice none 0 0, .slice none 0 0] 38 (0, 0)) from by rw [← hw8]; exact blk_far (p := ⟨g8, 1, none⟩) S47.out (fun he => H48.out he) _)
        have HB8 := Aside0.mk (show Below w.heap.size w w8 from by rw [← hw8]; exact below_set HB7.out Hg8.out)
        clear hw8 d0 d2 d3 d4 d5 d6 d7 n0 n2 n3 n4 m1 hovq
        go_wp2_with fail
        go_roundg k1
        case measure => omega
        case rel => exact ⟨i + 1, A2, c2, by go_num, ⟨by have := Hi.out; omega⟩, HRf8, HRs8, HRo8, S88, S48, HB8⟩)
    · have hie : i = l1.length := by have := Hi.out; omega
      subst hie
      have hq0 : wr.cell? ⟨g8, 0, none⟩ = some (.slice As l0.length cs) := (blk_cell S8.out 0).trans rfl
      have hq1 : wr.cell? ⟨g8, 1, none⟩ = some (.slice Af l1.length cf) := (blk_cell S8.out 1).trans rfl
      have hz0 : wr.cell? ⟨g4, 0, none⟩ = some (.slice none 0 0) := (blk_cell S4.out 0).trans rfl
      have hz1 : wr.cell? ⟨g4, 1, none⟩ = some (.slice none 0 0) := (blk_cell S4.out 1).trans rfl
      have hf0 := blk_frozen S4.out 0
      have hf1 := blk_frozen S4.out 1
      have HRf' := HRf.out
      rw [List.take_length, List.take_of_length_le (by rw [Hho.out]; exact Nat.le_refl _)] at HRf'
      have HF := Aside0.mk HRf'
      have HG := Aside0.mk (by have := Hg4.out; omega : w.heap.size ≤ g4)
      clear HRf' HRf
      go_wp2_with fail
      refine bodyPost_ret (results_ct rfl _ _ g4 38 #[.slice As l0.length cs, .slice Af l1.length cf] (0, 0) _ rfl (blk_put (blk_put S4.out 0 (.slice As l0.length cs) rfl) 1 (.slice Af l1.length cf) rfl) Try.underlying38 rfl (by kernel_rfl)) rfl ?_
      have S4' := blk_put (cs' := #[.slice As l0.length cs, .slice none 0 0]) S4.out 0 (.slice As l0.length cs) rfl
      exact ⟨_, _, rfl, Kd.R_set (Kd.R_set HRs.out S4.out (by decide) 0 _) S4' (by decide) 1 _, Kd.R_set (Kd.R_set HF.out S4.out (by decide) 0 _) S4' (by decide) 1 _, below_set (below_set HB.out HG.out) HG.out⟩
end Go.Proofs.Ytfhgoebgnilfaaa.I
namespace Go.Proofs.Ytfhgoebgnilfaaa.I
open Go.RowKit Go.Proofs.YtfhgoebgnilfaaaW.PrintWords Go.Proofs.YtfhgoebgnilfaaaW.PrintLast Go.Proofs.YtfhgoebgnilfaaaW.PrintMore
attribute [local go_sem] max2_int min2_int max_two min_two max_three min_three max_four min_four
set_option linter.unusedVariables false
set_option maxRecDepth 100000
set_option linter.unusedSimpArgs false
set_option maxHeartbeats 8000000 in
theorem tequal_calls (N : Nat) : ∀ (a b : Int) (l : List S44) (A A' : Option Addr) (c c' : Nat) (w : World), SizeOf.sizeOf l < N → Kd.C k44 w A l.length l → l.length ≤ c → Kd.C k44 w A' l.length l → l.length ≤ c' →
    Calls Try.prog 26 #[.agg #[.int .i64 a, .int .i64 b, .slice A l.length c], .agg #[.int .i64 a, .int .i64 b, .slice A' l.length c']] w fun e w' => e = .returned (.bool true) ∧ Below w.heap.size w w' := by
  have hu44 := Try.underlying44
  have hu42 := Try.underlying42
  induction N with
  | zero => intro a b l A A' c c' w hN; omega
  | succ N ih =>
  intro a b l A A' c c' w hN hr hc hr' hc'
  have hlen : l.length ≤ 9223372036854775807 := hr.2.1
  have HR := Aside0.mk hr
  have HC := Aside0.mk hc
  have HR' := Aside0.mk hr'
  have HC' := Aside0.mk hc'
  have HN := Aside0.mk hN
  have IH := Aside0.mk ih
  clear hr hc hr' hc' hN ih
  go_enter Try.func26, Try.ntmps26
  go_wp2_with (first
    | ((with_reducible refine gate_dst (N := 2) rfl ?_)
       refine box_event ?hg (N := 2) ?hd (cs := #[.int .i64 a, .int .i64 b, .slice A l.length c]) (t := 44) ?hr ?_
       (case hd => rfl)
       (case hg => rfl)
       (case hr => first | (go_simp; done) | (go_simp; rfl))
       intro g2 hg2 w2 hbox hbb
       have S2 := Aside0.mk hbox
       have HB2 := Aside0.mk hbb
       clear hbox hbb hg2)
    | ((with_reducible refine gate_dst (N := 3) rfl ?_)
       refine box_event ?hg (N := 3) ?hd (cs := #[.int .i64 a, .int .i64 b, .slice A' l.length c']) (t := 44) ?hr ?_
       (case hd => rfl)
       (case hg => rfl)
       (case hr => first | (go_simp; done) | (go_simp; rfl))
       intro g3 hg3 w3 hbox hbb
       have S3 := Aside0.mk hbox
       have S23 := Aside0.mk (blk_below S2.out hbb)
       have HB3 := Aside0.mk (below_step HB2.out hbb)
       have a0 : w3.cell? ⟨g2, 0, none⟩ = some (.int .i64 a) := (blk_cell S23.out 0).trans rfl
       have a1 : w3.cell? ⟨g2, 1, none⟩ = some (.int .i64 b) := (blk_cell S23.out 1).trans rfl
       have a2 : w3.cell? ⟨g2, 2, none⟩ = some (.slice A l.length c) := (blk_cell S23.out 2).trans rfl
       have b0 : w3.cell? ⟨g3, 0, none⟩ = some (.int .i64 a) := (blk_cell hbox 0).trans rfl
       have b1 : w3.cell? ⟨g3, 1, none⟩ = some (.int .i64 b) := (blk_cell hbox 1).trans rfl
       have b2 : w3.cell? ⟨g3, 2, none⟩ = some (.slice A' l.length c') := (blk_cell hbox 2).trans rfl
       clear hbox hbb hg3))
  clear a0 a1 a2 b0 b1 b2 S2 HB2
  go_loopg [30] l.length (fun kq v30 wr => ∃ i : Nat, v30 = .int .i64 (i : Int) ∧ Aside0 (i + kq = l.length) ∧ Aside0 (Below w3.heap.size w3 wr))
  case atStart => exact ⟨0, rfl, ⟨by omega⟩, ⟨Below.refl _ _⟩⟩
  case round =>
    obtain ⟨i, rfl, Hi, HB⟩ := hrel
    by_cases hlt : i < l.length
    rotate_left
    · go_wp2_with fail
      go_ret
      exact ⟨rfl, below_step HB3.out HB.out⟩
    have HBw := Aside0.mk (below_step HB3.out HB.out)
    obtain ⟨ad, A4, c4, he, hx2, hx3, hx4, hl4, hC4⟩ := at_T44 (Kd.C_below HR.out HBw.out) (i : Int) (by omega) (by omega)
    cases he
    obtain ⟨ad', A5, c5, he, hy2, hy3, hy4, hl5, hC5⟩ := at_T44 (Kd.C_below HR'.out HBw.out) (i : Int) (by omega) (by omega)
    cases he
    rw [Int.toNat_natCast] at hx2 hx3 hx4 hy2 hy3 hy4
    have HC4 := Aside0.mk hC4
    have Hl4 := Aside0.mk hl4
    have HC5 := Aside0.mk hC5
    have Hl5 := Aside0.mk hl5
    have HSZ := Aside0.mk (show SizeOf.sizeOf (rd_T44 l (i : Int)).f2 < N from by have := rd_T44_mem l i hlt; have := HN.out; omega)
    have q1 : (0 ≤ (i : Int)) = True := eq_true (by omega)
    have q2 : ((i : Int) < (l.length : Int)) = True := eq_true (by omega)
    have q3 : (i < l.length) = True := eq_true (by omega)
    clear hl4 hC4 hl5 hC5
    generalize rd_T44 l (i : Int) = x at *
    have a2 : wr.cell? ⟨g2, 2, none⟩ = some (.slice (some ad) l.length c) := (blk_cell (blk_below S23.out HB.out) 2).trans rfl
    have b2 : wr.cell? ⟨g3, 2, none⟩ = some (.slice (some ad') l.length c') := (blk_cell (blk_below S3.out HB.out) 2).trans rfl
    go_upto_region 6 with fail
    try simp only [Act.put, List.setIfInBounds_toArray, List.set_cons_succ, List.set_cons_zero]
    go_cut [44] from 33 to 44 (fun v44 wc => v44 = .bool false ∧ Aside0 (Below w3.heap.size w3 wc))
    case first =>
      go_region_held3 (fun w' => w'.cell? ⟨g2, 2, none⟩ = some (.slice (some ad) l.length c) ∧ w'.cell? ⟨g3, 2, none⟩ = some (.slice (some ad') l.length c') ∧ w'.cell? (ad.add (i * 3)) = some (.int .i64 x.f0) ∧ w'.cell? ⟨(ad.add (i * 3)).block, (ad.add (i * 3)).off + 1, none⟩ = some (.int .i64 x.f1) ∧ w'.cell? ⟨(ad.add (i * 3)).block, (ad.add (i * 3)).off + 2, none⟩ = some (.slice A4 x.f2.length c4) ∧ w'.cell? (ad'.add (i * 3)) = some (.int .i64 x.f0) ∧ w'.cell? ⟨(ad'.add (i * 3)).block, (ad'.add (i * 3)).off + 1, none⟩ = some (.int .i64 x.f1) ∧ w'.cell? ⟨(ad'.add (i * 3)).block, (ad'.add (i * 3)).off + 2, none⟩ = some (.slice A5 x.f2.length c5)) (go_keep)
        (first
          | (go_at_call 26
             (with_reducible refine (IH.out x.f0 x.f1 x.f2 A4 A5 c4 c5 _ HSZ.out (Kd.C_below HC4.out (below_drew (Below.refl _ _))) Hl4.out (Kd.C_below HC5.out (below_drew (Below.refl _ _))) Hl5.out).mono ?_)
             rintro e9 wA ⟨rfl, hbA⟩
             have HBA := Aside0.mk (below_step (below_drew HB.out) hbA)
             have z0 := cell_up hbA (show wr.drew.cell? _ = _ from a2)
             have z1 := cell_up hbA (show wr.drew.cell? _ = _ from b2)
             have z2 := cell_up hbA (show wr.drew.cell? _ = _ from hx2)
             have z3 := cell_up hbA (show wr.drew.cell? _ = _ from hx3)
             have z4 := cell_up hbA (show wr.drew.cell? _ = _ from hx4)
             have z5 := cell_up hbA (show wr.drew.cell? _ = _ from hy2)
             have z6 := cell_up hbA (show wr.drew.cell? _ = _ from hy3)
             have z7 := cell_up hbA (show wr.drew.cell? _ = _ from hy4)
             clear hbA))
      all_goals (go_wp2_with fail; go_meet; exact ⟨rfl, HBA⟩)
    case rest =>
      obtain ⟨rfl, HBc⟩ := hcut
      clear a2 b2 hx2 hx3 hx4 hy2 hy3 hy4
      go_wp2_with fail
      have hk := Hi.out
      obtain ⟨k1, rfl⟩ : ∃ k1, gk = k1 + 1 := ⟨gk - 1, by omega⟩
      go_roundg k1
      case measure => omega
      case rel => exact ⟨i + 1, by go_num, ⟨by omega⟩, HBc⟩
theorem sequal_calls {l : List S41} (hl : cntL l ≤ 1000) {w : World} {A A' : Option Addr} {c c' : Nat} (hr : Kd.C k41 w A l.length l) (hc : l.length ≤ c) (hr' : Kd.C k41 w A' l.length l) (hc' : l.length ≤ c') :
    Calls Try.prog 64 #[.agg #[.slice A l.length c], .agg #[.slice A' l.length c']] w fun e w' => e = .returned (.bool true) ∧ Below w.heap.size w w' := by
  obtain ⟨k, hk⟩ := (equal_ev _ l l (Nat.lt_succ_self _) hl).rounds
  rw [eqL_refl] at hk
  exact virgationref01_Equal.calls k A c l A' c' l _ w hr hc hr' hc' hk
set_option maxHeartbeats 8000000 in
theorem equal_calls (A0 : Option Addr) (c0 : Nat) (l0 : List S59) (A1 : Option Addr) (c1 : Nat) (l1 : List S46) (B0 : Option Addr) (d0 : Nat) (B1 : Option Addr) (d1 : Nat) (w : World) (hr0 : Kd.C k59 w A0 l0.length l0) (hr1 : Kd.C k46 w A1 l1.length l1) (ht0 : Kd.C k59 w B0 l0.length l0) (ht1 : Kd.C k46 w B1 l1.length l1) (hs : ∀ x ∈ l1, cntL x.f1.f0 ≤ 1000) :
    Calls Try.prog 55 #[.agg #[.slice A0 l0.length c0, .slice A1 l1.length c1], .agg #[.slice B0 l0.length d0, .slice B1 l1.length d1]] w fun e w' => e = .returned (.bool true) ∧ Below w.heap.size w w' := by
  have hu44 := Try.underlying44
  have hu59 := Try.underlying59
  have hu46 := Try.underlying46
  have hu38 := Try.underlying38
  have hu41 := Try.underlying41
  have hlen1 : l1.length ≤ 9223372036854775807 := hr1.2.1
  have hlen0 : l0.length ≤ 9223372036854775807 := hr0.2.1
  have HR0 := Aside0.mk hr0
  have HR1 := Aside0.mk hr1
  have HT0 := Aside0.mk ht0
  have HT1 := Aside0.mk ht1
  have HS := Aside0.mk hs
  clear hr0 hr1 ht0 ht1 hs
  go_enter Try.func55, Try.ntmps55
  go_wp2_with (first
    | ((with_reducible refine gate_dst (N := 2) rfl ?_)
       refine box_event ?hg (N := 2) ?hd (cs := #[.slice A0 l0.length c0, .slice A1 l1.length c1]) (t := 38) ?hr ?_
       (case hd => rfl)
       (case hg => rfl)
       (case hr => first | (go_simp; done) | (go_simp; rfl))
       intro g2 hg2 w2 hbox hbb
       have S2 := Aside0.mk hbox
       have HB2 := Aside0.mk hbb
       clear hbox hbb hg2)
    | ((with_reducible refine gate_dst (N := 3) rfl ?_)
       refine box_event ?hg (N := 3) ?hd (cs := #[.slice B0 l0.length d0, .slice B1 l1.length d1]) (t := 38) ?hr ?_
       (case hd => rfl)
       (case hg => rfl)
       (case hr => first | (go_simp; done) | (go_simp; rfl))
       intro g3 hg3 w3 hbox hbb
       have S3 := Aside0.mk hbox
       have S23 := Aside0.mk (blk_below S2.out hbb)
       have HB3 := Aside0.mk (below_step HB2.out hbb)
       have a0 : w3.cell? ⟨g2, 0, none⟩ = some (.slice A0 l0.length c0) := (blk_cell S23.out 0).trans rfl
       have a1 : w3.cell? ⟨g2, 1, none⟩ = some (.slice A1 l1.length c1) := (blk_cell S23.out 1).trans rfl
       have b0 : w3.cell? ⟨g3, 0, none⟩ = some (.slice B0 l0.length d0) := (blk_cell hbox 0).trans rfl
       have b1 : w3.cell? ⟨g3, 1, none⟩ = some (.slice B1 l1.length d1) := (blk_cell hbox 1).trans rfl
       clear hbox hbb hg3))
  clear a0 a1 b0 b1 S2 HB2
  go_loopg [26] l0.length (fun kq v26 wr => ∃ i : Nat, v26 = .int .i64 (i : Int) ∧ Aside0 (i + kq = l0.length) ∧ Aside0 (Below w3.heap.size w3 wr))
  case atStart => exact ⟨0, rfl, ⟨by omega⟩, ⟨Below.refl _ _⟩⟩
  case round =>
    obtain ⟨i, rfl, Hi, HB⟩ := hrel
    by_cases hlt : i < l0.length
    · obtain ⟨ad0, he, hx1, hx2⟩ := at_T59 HR0.out (i : Int) (by omega) (by omega)
      cases he
      obtain ⟨ad1, he, hy1, hy2⟩ := at_T59 HT0.out (i : Int) (by omega) (by omega)
      cases he
      replace hx1 := cell_up HB.out (cell_up HB3.out hx1)
      replace hx2 := cell_up HB.out (cell_up HB3.out hx2)
      replace hy1 := cell_up HB.out (cell_up HB3.out hy1)
      replace hy2 := cell_up HB.out (cell_up HB3.out hy2)
      rw [Int.toNat_natCast] at hx1 hx2 hy1 hy2
      have a0 : wr.cell? ⟨g2, 0, none⟩ = some (.slice (some ad0) l0.length c0) := (blk_cell (blk_below S23.out HB.out) 0).trans rfl
      have b0 : wr.cell? ⟨g3, 0, none⟩ = some (.slice (some ad1) l0.length d0) := (blk_cell (blk_below S3.out HB.out) 0).trans rfl
      have p1 : (0 ≤ (i : Int)) = True := eq_true (by omega)
      have p2 : ((i : Int) < (l0.length : Int)) = True := eq_true (by omega)
      have p3 : (i < l0.length) = True := eq_true (by omega)
      generalize (rd_T59 l0 (i : Int)) = x at *
      go_wp2_with fail
      go_quiet (fail)
      go_wp2_with fail
      have hk := Hi.out
      obtain ⟨k1, rfl⟩ : ∃ k1, gk = k1 + 1 := ⟨gk - 1, by omega⟩
      go_roundg k1
      case measure => omega
      case rel => exact ⟨i + 1, by go_num, ⟨by omega⟩, ⟨pw_below_drewN HB.out _⟩⟩
    have hie : i = l0.length := by have := Hi.out; omega
    clear hlt Hi
    subst hie
    have a1 : wr.cell? ⟨g2, 1, none⟩ = some (.slice A1 l1.length c1) := (blk_cell (blk_below S23.out HB.out) 1).trans rfl
    go_wp2_with fail
    clear a1
    go_loopg [44] l1.length (fun kq v44 wr => ∃ i : Nat, v44 = .int .i64 (i : Int) ∧ Aside0 (i + kq = l1.length) ∧ Aside0 (Below w3.heap.size w3 wr))
    case atStart => exact ⟨0, rfl, ⟨by omega⟩, HB⟩
    case round =>
      clear HB
      obtain ⟨i, rfl, Hi, HB⟩ := hrel
      by_cases hlt : i < l1.length
      rotate_left
      · go_wp2_with fail
        go_ret
        exact ⟨rfl, below_step HB3.out HB.out⟩
      have HBw := Aside0.mk (below_step HB3.out HB.out)
      obtain ⟨af, A3, c3, A4, c4, he, hx0, hx1, hx2, hx3, hx4, hl3, hC3, hl4, hC4⟩ := at_T46 (Kd.C_below HR1.out HBw.out) (i : Int) (by omega) (by omega)
      cases he
      obtain ⟨ag, B3, d3, B4, d4, he, hy0, hy1, hy2, hy3, hy4, hk3, hD3, hk4, hD4⟩ := at_T46 (Kd.C_below HT1.out HBw.out) (i : Int) (by omega) (by omega)
      cases he
      rw [Int.toNat_natCast] at hx0 hx1 hx2 hx3 hx4 hy0 hy1 hy2 hy3 hy4
      have HC3 := Aside0.mk hC3
      have Hl3 := Aside0.mk hl3
      have HC4 := Aside0.mk hC4
      have Hl4 := Aside0.mk hl4
      have HD3 := Aside0.mk hD3
      have Hk3 := Aside0.mk hk3
      have HD4 := Aside0.mk hD4
      have Hk4 := Aside0.mk hk4
      have HSi := Aside0.mk (HS.out (rd_T46 l1 (i : Int)) (by unfold rd_T46; rw [Int.toNat_natCast, List.getD_eq_getElem?_getD, List.getElem?_eq_getElem hlt]; exact List.getElem_mem _))
      have q1 : (0 ≤ (i : Int)) = True := eq_true (by omega)
      have q2 : ((i : Int) < (l1.length : Int)) = True := eq_true (by omega)
      have q3 : (i < l1.length) = True := eq_true (by omega)
      clear hl3 hC3 hl4 hC4 hk3 hD3 hk4 hD4
      generalize rd_T46 l1 (i : Int) = x at *
      replace hx3 : wr.cell? ⟨(af.add (i * 5)).block, (af.add (i * 5)).off + 2 + 1, none⟩ = _ := hx3
      replace hx4 : wr.cell? ⟨(af.add (i * 5)).block, (af.add (i * 5)).off + 2 + 2, none⟩ = _ := hx4
      replace hy3 : wr.cell? ⟨(ag.add (i * 5)).block, (ag.add (i * 5)).off + 2 + 1, none⟩ = _ := hy3
      replace hy4 : wr.cell? ⟨(ag.add (i * 5)).block, (ag.add (i * 5)).off + 2 + 2, none⟩ = _ := hy4
      have a1 : wr.cell? ⟨g2, 1, none⟩ = some (.slice (some af) l1.length c1) := (blk_cell (blk_below S23.out HB.out) 1).trans rfl
      have b1 : wr.cell? ⟨g3, 1, none⟩ = some (.slice (some ag) l1.length d1) := (blk_cell (blk_below S3.out HB.out) 1).trans rfl
      have HX := Aside0.mk (Below.refl wr.heap.size wr)
      go_upto_region 12 with fail
      try simp only [Act.put, List.setIfInBounds_toArray, List.set_cons_succ, List.set_cons_zero]
      go_cut [91] from 47 to 91 (fun v91 wc => v91 = .bool false ∧ Aside0 (Below w3.heap.size w3 wc))
      case first =>
        go_region_held3 (fun w' => w'.cell? ⟨g2, 1, none⟩ = some (.slice (some af) l1.length c1) ∧ w'.cell? ⟨g3, 1, none⟩ = some (.slice (some ag) l1.length d1) ∧ w'.cell? (af.add (i * 5)) = some (.string x.f0) ∧ w'.cell? ⟨(af.add (i * 5)).block, (af.add (i * 5)).off + 1, none⟩ = some (.slice A3 x.f1.f0.length c3) ∧ w'.cell? ⟨(af.add (i * 5)).block, (af.add (i * 5)).off + 2, none⟩ = some (.int .i64 x.f2.f0) ∧ w'.cell? ⟨(af.add (i * 5)).block, (af.add (i * 5)).off + 2 + 1, none⟩ = some (.int .i64 x.f2.f1) ∧ w'.cell? ⟨(af.add (i * 5)).block, (af.add (i * 5)).off + 2 + 2, none⟩ = some (.slice A4 x.f2.f2.length c4) ∧ w'.cell? (ag.add (i * 5)) = some (.string x.f0) ∧ w'.cell? ⟨(ag.add (i * 5)).block, (ag.add (i * 5)).off + 1, none⟩ = some (.slice B3 x.f1.f0.length d3) ∧ w'.cell? ⟨(ag.add (i * 5)).block, (ag.add (i * 5)).off + 2, none⟩ = some (.int .i64 x.f2.f0) ∧ w'.cell? ⟨(ag.add (i * 5)).block, (ag.add (i * 5)).off + 2 + 1, none⟩ = some (.int .i64 x.f2.f1) ∧ w'.cell? ⟨(ag.add (i * 5)).block, (ag.add (i * 5)).off + 2 + 2, none⟩ = some (.slice B4 x.f2.f2.length d4)) (go_keep)
          (first
            | (go_at_call 64
               (with_reducible refine (sequal_calls HSi.out (w := wr.drew) (Kd.C_below HC3.out (below_drew (Below.refl _ _))) Hl3.out (Kd.C_below HD3.out (below_drew (Below.refl _ _))) Hk3.out).mono ?_)
               rintro e9 wA ⟨rfl, hbA⟩
               have HX2 := Aside0.mk (below_step (below_drew HX.out) hbA)
               have y0 := cell_up hbA (show wr.drew.cell? _ = _ from a1)
               have y1 := cell_up hbA (show wr.drew.cell? _ = _ from b1)
               have y2 := cell_up hbA (show wr.drew.cell? _ = _ from hx0)
               have y3 := cell_up hbA (show wr.drew.cell? _ = _ from hx1)
               have y4 := cell_up hbA (show wr.drew.cell? _ = _ from hx2)
               have y5 := cell_up hbA (show wr.drew.cell? _ = _ from hx3)
               have y6 := cell_up hbA (show wr.drew.cell? _ = _ from hx4)
               have y7 := cell_up hbA (show wr.drew.cell? _ = _ from hy0)
               have y8 := cell_up hbA (show wr.drew.cell? _ = _ from hy1)
               have y9 := cell_up hbA (show wr.drew.cell? _ = _ from hy2)
               have y10 := cell_up hbA (show wr.drew.cell? _ = _ from hy3)
               have y11 := cell_up hbA (show wr.drew.cell? _ = _ from hy4)
               clear hbA)
            | (go_at_call 26
               (with_reducible refine (tequal_calls _ x.f2.f0 x.f2.f1 x.f2.f2 A4 B4 c4 d4 wA (Nat.lt_succ_self _) (Kd.C_below HC4.out HX2.out) Hl4.out (Kd.C_below HD4.out HX2.out) Hk4.out).mono ?_)
               rintro e9 wB ⟨rfl, hbB⟩
               have HX3 := Aside0.mk (below_step HX2.out hbB)
               have z0 := cell_up hbB y0
               have z1 := cell_up hbB y1
               have z2 := cell_up hbB y2
               have z3 := cell_up hbB y3
               have z4 := cell_up hbB y4
               have z5 := cell_up hbB y5
               have z6 := cell_up hbB y6
               have z7 := cell_up hbB y7
               have z8 := cell_up hbB y8
               have z9 := cell_up hbB y9
               have z10 := cell_up hbB y10
               have z11 := cell_up hbB y11
               clear hbB))
        all_goals (go_wp2_with fail; go_meet; exact ⟨rfl, ⟨below_step HB.out HX3.out⟩⟩)
      case rest =>
        obtain ⟨rfl, HBc⟩ := hcut
        clear a1 b1 hx0 hx1 hx2 hx3 hx4 hy0 hy1 hy2 hy3 hy4
        go_wp2_with fail
        have hk := Hi.out
        obtain ⟨k1, rfl⟩ : ∃ k1, gk = k1 + 1 := ⟨gk - 1, by omega⟩
        go_roundg k1
        case measure => omega
        case rel => exact ⟨i + 1, by go_num, ⟨by omega⟩, HBc⟩
set_option maxHeartbeats 8000000 in
theorem same_calls (A0 : Option Addr) (c0 : Nat) (l0 : List S59) (A1 : Option Addr) (c1 : Nat) (l1 : List S46) (B0 : Option Addr) (d0 : Nat) (B1 : Option Addr) (d1 : Nat) (w : World) (hr0 : Kd.C k59 w A0 l0.length l0) (hc0 : l0.length ≤ c0) (hr1 : Kd.C k46 w A1 l1.length l1) (hc1 : l1.length ≤ c1) (ht0 : Kd.C k59 w B0 l0.length l0) (hd0 : l0.length ≤ d0) (ht1 : Kd.C k46 w B1 l1.length l1) (hd1 : l1.length ≤ d1) (hs : schB l0 l1 = true) :
    Calls Try.prog 22 #[.agg #[.slice A0 l0.length c0, .slice A1 l1.length c1], .agg #[.slice B0 l0.length d0, .slice B1 l1.length d1]] w fun e w' => e = .returned (.bool true) ∧ Below w.heap.size w w' := by
  have hu59 := Try.underlying59
  have hu46 := Try.underlying46
  have hu38 := Try.underlying38
  have hcn : ∀ x ∈ l1, cntL x.f1.f0 ≤ 1000 := fun x hx => by
    unfold schB at hs
    simp only [Bool.and_eq_true] at hs
    have := funsL_all l1 [] hs.2.2.1 x hx
    unfold funOk at this
    simp only [Bool.and_eq_true] at this
    have := isok_cnt this.2.1
    omega
  have I1 := Aside0.mk (fun (w : World) (h0 : Kd.C k59 w A0 l0.length l0) (h1 : Kd.C k46 w A1 l1.length l1) => by have := refis_calls A0 c0 l0 A1 c1 l1 w h0 hc0 h1 hc1; rw [hs] at this; exact this)
  have I2 := Aside0.mk (fun (w : World) (h0 : Kd.C k59 w B0 l0.length l0) (h1 : Kd.C k46 w B1 l1.length l1) => by have := refis_calls B0 d0 l0 B1 d1 l1 w h0 hd0 h1 hd1; rw [hs] at this; exact this)
  have I3 := Aside0.mk (fun (w : World) (h0 : Kd.C k59 w A0 l0.length l0) (h1 : Kd.C k46 w A1 l1.length l1) (h2 : Kd.C k59 w B0 l0.length l0) (h3 : Kd.C k46 w B1 l1.length l1) => equal_calls A0 c0 l0 A1 c1 l1 B0 d0 B1 d1 w h0 h1 h2 h3 hcn)
  have HR0 := Aside0.mk hr0
  have HR1 := Aside0.mk hr1
  have HT0 := Aside0.mk ht0
  have HT1 := Aside0.mk ht1
  clear hr0 hr1 ht0 ht1 hs hc0 hc1 hd0 hd1 hcn
  go_enter Try.func22, Try.ntmps22
  go_wp2_with (first
    | ((with_reducible refine gate_dst (N := 2) rfl ?_)
       refine box_event ?hg (N := 2) ?hd (cs := #[.slice A0 l0.length c0, .slice A1 l1.length c1]) (t := 38) ?hr ?_
       (case hd => rfl)
       (case hg => rfl)
       (case hr => first | (go_simp; done) | (go_simp; rfl))
       intro g2 hg2 w2 hbox hbb
       have S2 := Aside0.mk hbox
       have HB2 := Aside0.mk hbb
       clear hbox hbb hg2)
    | ((with_reducible refine gate_dst (N := 3) rfl ?_)
       refine box_event ?hg (N := 3) ?hd (cs := #[.slice B0 l0.length d0, .slice B1 l1.length d1]) (t := 38) ?hr ?_
       (case hd => rfl)
       (case hg => rfl)
       (case hr => first | (go_simp; done) | (go_simp; rfl))
       intro g3 hg3 w3 hbox hbb
       have S3 := Aside0.mk hbox
       have S23 := Aside0.mk (blk_below S2.out hbb)
       have HB3 := Aside0.mk (below_step HB2.out hbb)
       have a0 : w3.cell? ⟨g2, 0, none⟩ = some (.slice A0 l0.length c0) := (blk_cell S23.out 0).trans rfl
       have a1 : w3.cell? ⟨g2, 1, none⟩ = some (.slice A1 l1.length c1) := (blk_cell S23.out 1).trans rfl
       clear hbox hbb hg3))
  (with_reducible refine (I1.out _ (Kd.C_below HR0.out HB3.out) (Kd.C_below HR1.out HB3.out)).mono ?_)
  rintro e w4 ⟨rfl, hb4⟩
  have HB4 := Aside0.mk (below_step HB3.out hb4)
  have S24 := Aside0.mk (blk_below S23.out hb4)
  have S34 := Aside0.mk (blk_below S3.out hb4)
  have b0 : w4.cell? ⟨g3, 0, none⟩ = some (.slice B0 l0.length d0) := (blk_cell S34.out 0).trans rfl
  have b1 : w4.cell? ⟨g3, 1, none⟩ = some (.slice B1 l1.length d1) := (blk_cell S34.out 1).trans rfl
  clear a0 a1 hb4 HB3 S23 S3 S2 HB2
  go_wp2_with fail
  (with_reducible refine (I2.out _ (Kd.C_below HT0.out HB4.out) (Kd.C_below HT1.out HB4.out)).mono ?_)
  rintro e w5 ⟨rfl, hb5⟩
  have HB5 := Aside0.mk (below_step HB4.out hb5)
  have S25 := Aside0.mk (blk_below S24.out hb5)
  have S35 := Aside0.mk (blk_below S34.out hb5)
  have a0 : w5.cell? ⟨g2, 0, none⟩ = some (.slice A0 l0.length c0) := (blk_cell S25.out 0).trans rfl
  have a1 : w5.cell? ⟨g2, 1, none⟩ = some (.slice A1 l1.length c1) := (blk_cell S25.out 1).trans rfl
  have d2 : w5.cell? ⟨g3, 0, none⟩ = some (.slice B0 l0.length d0) := (blk_cell S35.out 0).trans rfl
  have d3 : w5.cell? ⟨g3, 1, none⟩ = some (.slice B1 l1.length d1) := (blk_cell S35.out 1).trans rfl
  clear b0 b1 hb5 HB4 S24 S34
  go_wp2_with fail
  (with_reducible refine (I3.out _ (Kd.C_below HR0.out HB5.out) (Kd.C_below HR1.out HB5.out) (Kd.C_below HT0.out HB5.out) (Kd.C_below HT1.out HB5.out)).mono ?_)
  rintro e w6 ⟨rfl, hb6⟩
  have HB6 := Aside0.mk (below_step HB5.out hb6)
  clear hb6 a0 a1 d2 d3
  go_wp2_with fail
  go_ret
  exact ⟨rfl, HB6.out⟩
end Go.Proofs.Ytfhgoebgnilfaaa.I
namespace Go.Proofs.Ytfhgoebgnilfaaa.I
open Go.RowKit
set_option linter.unusedVariables false
structure GN where
  k : Nat
  a : Nat
  b : Nat
inductive GEnd (s : List GN) : Nat → Nat → Nat → Prop
  | stop {i : Nat} {n : GN} : s[i]? = some n → n.k ≠ 3 → GEnd s 0 i i
  | go {m i r : Nat} {n : GN} : s[i]? = some n → n.k = 3 → GEnd s m n.a r → GEnd s (m + 1) i r
inductive GUni : List GN → Nat → Nat → Bool → List GN → Prop
  | same {s : List GN} {a b p i j : Nat} : GEnd s i a p → GEnd s j b p → GUni s a b true s
  | openL {s : List GN} {a b p q i j : Nat} {x : GN} : GEnd s i a p → GEnd s j b q → p ≠ q → s[p]? = some x → x.k = 0 → GUni s a b true (s.set p ⟨3, q, 0⟩)
  | openR {s : List GN} {a b p q i j : Nat} {x y : GN} : GEnd s i a p → GEnd s j b q → p ≠ q → s[p]? = some x → s[q]? = some y → x.k ≠ 0 → y.k = 0 → GUni s a b true (s.set q ⟨3, p, 0⟩)
  | clash {s : List GN} {a b p q i j : Nat} {x y : GN} : GEnd s i a p → GEnd s j b q → p ≠ q → s[p]? = some x → s[q]? = some y → x.k ≠ 0 → y.k ≠ 0 → x.k ≠ y.k → GUni s a b false s
  | base {s : List GN} {a b p q i j : Nat} {x y : GN} : GEnd s i a p → GEnd s j b q → p ≠ q → s[p]? = some x → s[q]? = some y → x.k = 1 → y.k = 1 → GUni s a b true (s.set p ⟨3, q, 0⟩)
  | arF {s s1 : List GN} {a b p q i j : Nat} {x y : GN} : GEnd s i a p → GEnd s j b q → p ≠ q → s[p]? = some x → s[q]? = some y → x.k = 2 → y.k = 2 → GUni (s.set p ⟨3, q, 0⟩) x.a y.a false s1 → GUni s a b false s1
  | arT {s s1 s2 : List GN} {a b p q i j : Nat} {x y : GN} {r : Bool} : GEnd s i a p → GEnd s j b q → p ≠ q → s[p]? = some x → s[q]? = some y → x.k = 2 → y.k = 2 → GUni (s.set p ⟨3, q, 0⟩) x.a y.a true s1 → GUni s1 x.b y.b r s2 → GUni s a b r s2
def GSol (s : List GN) (ρ : Nat → KT) : Prop :=
  ∀ (i : Nat) (n : GN), s[i]? = some n → (n.k = 1 → ρ i = .o) ∧ (n.k = 2 → ρ i = .ar (ρ n.a) (ρ n.b)) ∧ (n.k = 3 → ρ i = ρ n.a)
structure GWF (s : List GN) : Prop where
  rng : ∀ (i : Nat) (n : GN), s[i]? = some n → n.k ≤ 3 ∧ (n.k = 2 → n.a < s.length ∧ n.b < s.length) ∧ (n.k = 3 → n.a < s.length)
  fin : ∀ i, i < s.length → ∃ m r, GEnd s m i r
theorem GEnd.lt {s : List GN} {m i r : Nat} (h : GEnd s m i r) : i < s.length ∧ r < s.length ∧ ∃ n, s[r]? = some n ∧ n.k ≠ 3 := by
  induction h with
  | stop h1 h2 => exact ⟨(List.getElem?_eq_some_iff.1 h1).1, (List.getElem?_eq_some_iff.1 h1).1, _, h1, h2⟩
  | go h1 h2 _ ih => exact ⟨(List.getElem?_eq_some_iff.1 h1).1, ih.2⟩
theorem GEnd.sol {s : List GN} {ρ : Nat → KT} (hs : GSol s ρ) {m i r : Nat} (h : GEnd s m i r) : ρ i = ρ r := by
  induction h with
  | stop h1 h2 => rfl
  | go h1 h2 _ ih => exact ((hs _ _ h1).2.2 h2).trans ih
theorem GEnd.link {s : List GN} {p q : Nat} {x y : GN} (hp : s[p]? = some x) (hx : x.k ≠ 3) (hq : s[q]? = some y) (hy : y.k ≠ 3) (hpq : p ≠ q) {m i r : Nat} (h : GEnd s m i r) : ∃ m' r', GEnd (s.set p ⟨3, q, 0⟩) m' i r' := by
  have hpl : p < s.length := (List.getElem?_eq_some_iff.1 hp).1
  have hq' : GEnd (s.set p ⟨3, q, 0⟩) 0 q q := .stop (n := y) (by rw [List.getElem?_set, if_neg hpq]; exact hq) hy
  have hp' : GEnd (s.set p ⟨3, q, 0⟩) 1 p q := .go (n := ⟨3, q, 0⟩) (by rw [List.getElem?_set, if_pos rfl, if_pos hpl]) rfl hq'
  induction h with
  | @stop i n h1 h2 =>
    by_cases e : i = p
    · subst e; exact ⟨_, _, hp'⟩
    · exact ⟨0, i, .stop (n := n) (by rw [List.getElem?_set, if_neg (fun h => e h.symm)]; exact h1) h2⟩
  | @go m i r n h1 h2 _ ih =>
    obtain ⟨m', r', h'⟩ := ih
    refine ⟨m' + 1, r', .go (n := n) ?_ h2 h'⟩
    rw [List.getElem?_set, if_neg (fun e => by subst e; rw [hp] at h1; injection h1 with h1; rw [← h1] at h2; exact hx h2)]
    exact h1
theorem GWF.link {s : List GN} (w : GWF s) {p q : Nat} {x y : GN} (hp : s[p]? = some x) (hx : x.k ≠ 3) (hq : s[q]? = some y) (hy : y.k ≠ 3) (hpq : p ≠ q) : GWF (s.set p ⟨3, q, 0⟩) := by
  refine ⟨fun i n hn => ?_, fun i hi => ?_⟩
  · rw [List.length_set]
    rw [List.getElem?_set] at hn
    by_cases e : p = i
    · rw [if_pos e, if_pos (by subst e; exact (List.getElem?_eq_some_iff.1 hp).1)] at hn
      injection hn with hn
      subst hn
      exact ⟨Nat.le_refl _, (fun h => by cases h), fun _ => (List.getElem?_eq_some_iff.1 hq).1⟩
    · rw [if_neg e] at hn
      exact w.rng i n hn
  · rw [List.length_set] at hi
    obtain ⟨m, r, h⟩ := w.fin i hi
    exact h.link hp hx hq hy hpq
theorem GSol.link {s : List GN} {p q : Nat} {x : GN} (hp : s[p]? = some x) {ρ : Nat → KT} :
    GSol (s.set p ⟨3, q, 0⟩) ρ ↔ (∀ (i : Nat) (n : GN), i ≠ p → s[i]? = some n → (n.k = 1 → ρ i = .o) ∧ (n.k = 2 → ρ i = .ar (ρ n.a) (ρ n.b)) ∧ (n.k = 3 → ρ i = ρ n.a)) ∧ ρ p = ρ q := by
  have hpl : p < s.length := (List.getElem?_eq_some_iff.1 hp).1
  constructor
  · intro h
    refine ⟨fun i n hi hn => h i n (by rw [List.getElem?_set, if_neg (fun e => hi e.symm)]; exact hn), ?_⟩
    exact (h p ⟨3, q, 0⟩ (by rw [List.getElem?_set, if_pos rfl, if_pos hpl])).2.2 rfl
  · rintro ⟨h, e⟩ i n hn
    rw [List.getElem?_set] at hn
    by_cases ei : p = i
    · rw [if_pos ei, if_pos (by subst ei; exact hpl)] at hn
      injection hn with hn
      subst hn ei
      exact ⟨(fun h => by cases h), (fun h => by cases h), fun _ => e⟩
    · rw [if_neg ei] at hn
      exact h i n (fun e => ei e.symm) hn
theorem GSol.split {s : List GN} {p : Nat} {x : GN} (hp : s[p]? = some x) {ρ : Nat → KT} :
    GSol s ρ ↔ (∀ (i : Nat) (n : GN), i ≠ p → s[i]? = some n → (n.k = 1 → ρ i = .o) ∧ (n.k = 2 → ρ i = .ar (ρ n.a) (ρ n.b)) ∧ (n.k = 3 → ρ i = ρ n.a)) ∧ (x.k = 1 → ρ p = .o) ∧ (x.k = 2 → ρ p = .ar (ρ x.a) (ρ x.b)) ∧ (x.k = 3 → ρ p = ρ x.a) := by
  constructor
  · exact fun h => ⟨fun i n _ hn => h i n hn, h p x hp⟩
  · rintro ⟨h, e⟩ i n hn
    by_cases ei : i = p
    · subst ei
      rw [hp] at hn
      injection hn with hn
      subst hn
      exact e
    · exact h i n ei hn
def nol (n : GN) : Bool := n.k != 3
def NL (s : List GN) : Nat := s.countP nol
theorem NL_set {s : List GN} {p q : Nat} {x : GN} (hp : s[p]? = some x) (hx : x.k ≠ 3) : NL (s.set p ⟨3, q, 0⟩) < NL s := by
  unfold NL
  induction s generalizing p with
  | nil => simp at hp
  | cons z s ih =>
    cases p with
    | zero =>
      injection hp with hp
      subst hp
      have e1 : nol z = true := bne_iff_ne.2 hx
      have e2 : nol ⟨3, q, 0⟩ = false := rfl
      rw [List.set_cons_zero, List.countP_cons, List.countP_cons, e1, e2]
      simp
    | succ p =>
      have := ih (p := p) hp
      rw [List.set_cons_succ, List.countP_cons, List.countP_cons]
      omega
structure Unified (s : List GN) (a b : Nat) (r : Bool) (s' : List GN) : Prop where
  len : s'.length = s.length
  wf : GWF s'
  nl : NL s' ≤ NL s
  yes : r = true → ∀ ρ, GSol s' ρ ↔ GSol s ρ ∧ ρ a = ρ b
  no : r = false → ∀ ρ, GSol s ρ → ρ a ≠ ρ b
theorem GUni.ok {s : List GN} {a b : Nat} {r : Bool} {s' : List GN} (h : GUni s a b r s') : GWF s → Unified s a b r s' := by
  induction h with
  | same h1 h2 =>
    intro w
    exact ⟨rfl, w, Nat.le_refl _, fun _ ρ => ⟨fun hs => ⟨hs, (h1.sol hs).trans (h2.sol hs).symm⟩, fun h => h.1⟩, fun e => (by cases e)⟩
  | @openL s a b p q i j x h1 h2 hpq hx h0 =>
    intro w
    obtain ⟨_, _, y, hy, hy3⟩ := h2.lt
    refine ⟨List.length_set .., w.link hx (by omega) hy hy3 hpq, Nat.le_of_lt (NL_set hx (by omega)), fun _ ρ => ?_, fun e => (by cases e)⟩
    rw [GSol.link hx]
    constructor
    · rintro ⟨h, e⟩
      have hs : GSol s ρ := (GSol.split hx).2 ⟨h, fun e => by omega, fun e => by omega, fun e => by omega⟩
      exact ⟨hs, by rw [h1.sol hs, h2.sol hs, e]⟩
    · rintro ⟨hs, e⟩
      rw [h1.sol hs, h2.sol hs] at e
      exact ⟨((GSol.split hx).1 hs).1, e⟩
  | @openR s a b p q i j x y h1 h2 hpq hx hy hx0 h0 =>
    intro w
    obtain ⟨_, _, x', hx', hx3⟩ := h1.lt
    rw [hx] at hx'
    injection hx' with hx'
    subst hx'
    refine ⟨List.length_set .., w.link hy (by omega) hx hx3 (fun e => hpq e.symm), Nat.le_of_lt (NL_set hy (by omega)), fun _ ρ => ?_, fun e => (by cases e)⟩
    rw [GSol.link hy]
    constructor
    · rintro ⟨h, e⟩
      have hs : GSol s ρ := (GSol.split hy).2 ⟨h, fun e => by omega, fun e => by omega, fun e => by omega⟩
      exact ⟨hs, by rw [h1.sol hs, h2.sol hs, e]⟩
    · rintro ⟨hs, e⟩
      rw [h1.sol hs, h2.sol hs] at e
      exact ⟨((GSol.split hy).1 hs).1, e.symm⟩
  | @clash s a b p q i j x y h1 h2 hpq hx hy hx0 hy0 hk =>
    intro w
    obtain ⟨_, _, x', hx', hx3⟩ := h1.lt
    obtain ⟨_, _, y', hy', hy3⟩ := h2.lt
    rw [hx] at hx'
    injection hx' with hx'
    subst hx'
    rw [hy] at hy'
    injection hy' with hy'
    subst hy'
    have r1 := (w.rng _ _ hx).1
    have r2 := (w.rng _ _ hy).1
    refine ⟨rfl, w, Nat.le_refl _, fun e => (by cases e), fun _ ρ hs e => ?_⟩
    rw [h1.sol hs, h2.sol hs] at e
    have e1 := hs p _ hx
    have e2 := hs q _ hy
    by_cases k1 : x.k = 1
    · have k2 : y.k = 2 := by omega
      rw [e1.1 k1, e2.2.1 k2] at e
      cases e
    · have k1' : x.k = 2 := by omega
      have k2 : y.k = 1 := by omega
      rw [e1.2.1 k1', e2.1 k2] at e
      cases e
  | @base s a b p q i j x y h1 h2 hpq hx hy hx1 hy1 =>
    intro w
    refine ⟨List.length_set .., w.link hx (by omega) hy (by omega) hpq, Nat.le_of_lt (NL_set hx (by omega)), fun _ ρ => ?_, fun e => (by cases e)⟩
    rw [GSol.link hx]
    constructor
    · rintro ⟨h, e⟩
      have hs : GSol s ρ := (GSol.split hx).2 ⟨h, fun _ => by rw [e]; exact (h q y (fun e => hpq e.symm) hy).1 hy1, fun e => by omega, fun e => by omega⟩
      exact ⟨hs, by rw [h1.sol hs, h2.sol hs, e]⟩
    · rintro ⟨hs, e⟩
      rw [h1.sol hs, h2.sol hs] at e
      exact ⟨((GSol.split hx).1 hs).1, e⟩
  | @arF s s1 a b p q i j x y h1 h2 hpq hx hy hx2 hy2 hu ih =>
    intro w
    have w1 := w.link hx (by omega) hy (by omega) hpq
    have U := ih w1
    refine ⟨U.len.trans (List.length_set ..), U.wf, Nat.le_trans U.nl (Nat.le_of_lt (NL_set hx (by omega))), fun e => (by cases e), fun _ ρ hs e => ?_⟩
    rw [h1.sol hs, h2.sol hs] at e
    have e1 := (hs p _ hx).2.1 hx2
    have e2 := (hs q _ hy).2.1 hy2
    have hs1 : GSol (s.set p ⟨3, q, 0⟩) ρ := (GSol.link hx).2 ⟨((GSol.split hx).1 hs).1, e⟩
    rw [e1, e2] at e
    injection e with e3 e4
    exact U.no rfl ρ hs1 e3
  | @arT s s1 s2 a b p q i j x y r h1 h2 hpq hx hy hx2 hy2 hu hv ih1 ih2 =>
    intro w
    have w1 := w.link hx (by omega) hy (by omega) hpq
    have U := ih1 w1
    have V := ih2 U.wf
    refine ⟨V.len.trans (U.len.trans (List.length_set ..)), V.wf, Nat.le_trans V.nl (Nat.le_trans U.nl (Nat.le_of_lt (NL_set hx (by omega)))), fun hr ρ => ?_, fun hr ρ hs e => ?_⟩
    · rw [V.yes hr, U.yes rfl, GSol.link hx]
      constructor
      · rintro ⟨⟨⟨h, e⟩, ea⟩, eb⟩
        have hq := (h q y (fun e => hpq e.symm) hy).2.1 hy2
        have hs : GSol s ρ := (GSol.split hx).2 ⟨h, fun e => by omega, fun _ => by rw [e, hq, ea, eb], fun e => by omega⟩
        exact ⟨hs, by rw [h1.sol hs, h2.sol hs, e]⟩
      · rintro ⟨hs, e⟩
        rw [h1.sol hs, h2.sol hs] at e
        have e1 := (hs p _ hx).2.1 hx2
        have e2 := (hs q _ hy).2.1 hy2
        have e0 := e
        rw [e1, e2] at e
        injection e with e3 e4
        exact ⟨⟨⟨((GSol.split hx).1 hs).1, e0⟩, e3⟩, e4⟩
    · rw [h1.sol hs, h2.sol hs] at e
      have e1 := (hs p _ hx).2.1 hx2
      have e2 := (hs q _ hy).2.1 hy2
      have hs1 : GSol (s.set p ⟨3, q, 0⟩) ρ := (GSol.link hx).2 ⟨((GSol.split hx).1 hs).1, e⟩
      rw [e1, e2] at e
      injection e with e3 e4
      exact V.no hr ρ ((U.yes rfl ρ).2 ⟨hs1, e3⟩) e4
theorem GUni.tot : ∀ (n : Nat) (s : List GN) (a b : Nat), GWF s → NL s ≤ n → a < s.length → b < s.length → ∃ r s', GUni s a b r s' := by
  intro n
  induction n with
  | zero =>
    intro s a b w hn ha hb
    obtain ⟨m, r, h⟩ := w.fin a ha
    obtain ⟨_, _, x, hx, hx3⟩ := h.lt
    have := NL_set (q := 0) hx hx3
    omega
  | succ n ih =>
    intro s a b w hn ha hb
    obtain ⟨i, p, h1⟩ := w.fin a ha
    obtain ⟨j, q, h2⟩ := w.fin b hb
    obtain ⟨_, _, x, hx, hx3⟩ := h1.lt
    obtain ⟨_, _, y, hy, hy3⟩ := h2.lt
    by_cases hpq : p = q
    · subst hpq; exact ⟨_, _, .same h1 h2⟩
    by_cases x0 : x.k = 0
    · exact ⟨_, _, .openL h1 h2 hpq hx x0⟩
    by_cases y0 : y.k = 0
    · exact ⟨_, _, .openR h1 h2 hpq hx hy x0 y0⟩
    by_cases hk : x.k = y.k
    rotate_left
    · exact ⟨_, _, .clash h1 h2 hpq hx hy x0 y0 hk⟩
    have r1 := w.rng _ _ hx
    have r2 := w.rng _ _ hy
    by_cases x1 : x.k = 1
    · exact ⟨_, _, .base h1 h2 hpq hx hy x1 (by omega)⟩
    have x2 : x.k = 2 := by omega
    have y2 : y.k = 2 := by omega
    have w1 := w.link hx (by omega) hy (by omega) hpq
    have l1 : (s.set p ⟨3, q, 0⟩).length = s.length := List.length_set ..
    have n1 := NL_set (q := q) hx hx3
    obtain ⟨r, s1, hu⟩ := ih (s.set p ⟨3, q, 0⟩) x.a y.a w1 (by omega) (by rw [l1]; exact (r1.2.1 x2).1) (by rw [l1]; exact (r2.2.1 y2).1)
    have U := hu.ok w1
    cases r with
    | false => exact ⟨_, _, .arF h1 h2 hpq hx hy x2 y2 hu⟩
    | true =>
      have l2 := U.len
      have n2 := U.nl
      obtain ⟨r, s2, hv⟩ := ih s1 x.b y.b U.wf (by omega) (by rw [l2, l1]; exact (r1.2.1 x2).2) (by rw [l2, l1]; exact (r2.2.1 y2).2)
      exact ⟨_, _, .arT h1 h2 hpq hx hy x2 y2 hu hv⟩
end Go.Proofs.Ytfhgoebgnilfaaa.I
namespace Go.Proofs.Ytfhgoebgnilfaaa.I
open Go.RowKit
set_option linter.unusedVariables false
theorem gget_push {s : List GN} {n m : GN} {i : Nat} (h : (s ++ [n])[i]? = some m) : (i < s.length ∧ s[i]? = some m) ∨ (i = s.length ∧ m = n) := by
  rcases Nat.lt_trichotomy i s.length with hi | hi | hi
  · rw [List.getElem?_append_left hi] at h
    exact .inl ⟨hi, h⟩
  · subst hi
    rw [List.getElem?_append_right (Nat.le_refl _), Nat.sub_self] at h
    injection h with h
    exact .inr ⟨rfl, h.symm⟩
  · rw [List.getElem?_eq_none (by rw [List.length_append]; simp only [List.length_cons, List.length_nil]; omega)] at h
    cases h
theorem GEnd.push {s : List GN} {n : GN} {m i r : Nat} (h : GEnd s m i r) : GEnd (s ++ [n]) m i r := by
  induction h with
  | stop h1 h2 => exact .stop (by rw [List.getElem?_append_left (List.getElem?_eq_some_iff.1 h1).1]; exact h1) h2
  | go h1 h2 _ ih => exact .go (by rw [List.getElem?_append_left (List.getElem?_eq_some_iff.1 h1).1]; exact h1) h2 ih
theorem GWF.push {s : List GN} (w : GWF s) {n : GN} (hk : n.k < 3) (hr : n.k = 2 → n.a < s.length ∧ n.b < s.length) : GWF (s ++ [n]) := by
  refine ⟨fun i m hm => ?_, fun i hi => ?_⟩
  · rw [List.length_append, List.length_singleton]
    rcases gget_push hm with ⟨hi, hm⟩ | ⟨rfl, rfl⟩
    · have := w.rng i m hm
      exact ⟨this.1, fun h => ⟨by have := (this.2.1 h).1; omega, by have := (this.2.1 h).2; omega⟩, fun h => by have := this.2.2 h; omega⟩
    · exact ⟨by omega, fun h => ⟨by have := (hr h).1; omega, by have := (hr h).2; omega⟩, fun h => by omega⟩
  · rw [List.length_append, List.length_singleton] at hi
    by_cases e : i = s.length
    · subst e
      exact ⟨0, s.length, .stop (n := n) (by rw [List.getElem?_append_right (Nat.le_refl _), Nat.sub_self]; rfl) (by omega)⟩
    · obtain ⟨m, r, h⟩ := w.fin i (by omega)
      exact ⟨m, r, h.push⟩
theorem GSol.push {s : List GN} {n : GN} {ρ : Nat → KT} : GSol (s ++ [n]) ρ ↔ GSol s ρ ∧ (n.k = 1 → ρ s.length = .o) ∧ (n.k = 2 → ρ s.length = .ar (ρ n.a) (ρ n.b)) ∧ (n.k = 3 → ρ s.length = ρ n.a) := by
  constructor
  · intro h
    exact ⟨fun i m hm => h i m (by rw [List.getElem?_append_left (List.getElem?_eq_some_iff.1 hm).1]; exact hm), h s.length n (by rw [List.getElem?_append_right (Nat.le_refl _), Nat.sub_self]; rfl)⟩
  · rintro ⟨h, e⟩ i m hm
    rcases gget_push hm with ⟨hi, hm⟩ | ⟨rfl, rfl⟩
    · exact h i m hm
    · exact e
theorem GSol.agree {s : List GN} (w : GWF s) {ρ ρ' : Nat → KT} (e : ∀ i, i < s.length → ρ' i = ρ i) (hs : GSol s ρ) : GSol s ρ' := by
  intro i n hn
  have hi : i < s.length := (List.getElem?_eq_some_iff.1 hn).1
  have r := w.rng i n hn
  have h := hs i n hn
  refine ⟨fun k => by rw [e i hi]; exact h.1 k, fun k => ?_, fun k => ?_⟩
  · rw [e i hi, e _ (r.2.1 k).1, e _ (r.2.1 k).2]; exact h.2.1 k
  · rw [e i hi, e _ (r.2.2 k)]; exact h.2.2 k
structure GExt (s s' : List GN) : Prop where
  len : s.length ≤ s'.length
  wf : GWF s'
  down : ∀ ρ, GSol s' ρ → GSol s ρ
theorem GExt.refl {s : List GN} (w : GWF s) : GExt s s := ⟨Nat.le_refl _, w, fun _ hs => hs⟩
theorem GExt.trans {s s1 s2 : List GN} (a : GExt s s1) (b : GExt s1 s2) : GExt s s2 := ⟨Nat.le_trans a.len b.len, b.wf, fun ρ hs => a.down ρ (b.down ρ hs)⟩
theorem gpush_open {s : List GN} (w : GWF s) : GExt s (s ++ [⟨0, 0, 0⟩]) ∧ ∀ ρ, GSol (s ++ [⟨0, 0, 0⟩]) ρ ↔ GSol s ρ := by
  have h : ∀ ρ, GSol (s ++ [⟨0, 0, 0⟩]) ρ ↔ GSol s ρ := fun ρ => by
    rw [GSol.push]
    exact ⟨fun h => h.1, fun h => ⟨h, (fun e => by cases e), (fun e => by cases e), (fun e => by cases e)⟩⟩
  exact ⟨⟨by rw [List.length_append]; omega, w.push (by decide) (fun e => by cases e), fun ρ hs => (h ρ).1 hs⟩, h⟩
theorem gpush_arrow {s : List GN} (w : GWF s) {a b : Nat} (ha : a < s.length) (hb : b < s.length) : GExt s (s ++ [⟨2, a, b⟩]) ∧ ∀ ρ, GSol (s ++ [⟨2, a, b⟩]) ρ ↔ GSol s ρ ∧ ρ s.length = .ar (ρ a) (ρ b) := by
  have h : ∀ ρ, GSol (s ++ [⟨2, a, b⟩]) ρ ↔ GSol s ρ ∧ ρ s.length = .ar (ρ a) (ρ b) := fun ρ => by
    rw [GSol.push]
    exact ⟨fun h => ⟨h.1, h.2.2.1 rfl⟩, fun h => ⟨h.1, (fun e => by cases e), (fun _ => h.2), (fun e => by cases e)⟩⟩
  exact ⟨⟨by rw [List.length_append]; omega, w.push (Nat.lt_succ_self 2) (fun _ => ⟨ha, hb⟩), fun ρ hs => ((h ρ).1 hs).1⟩, h⟩
def gchainR : List GN → Nat → List Nat → Nat × List GN
  | s, d0, [] => (d0, s)
  | s, d0, p :: ps => gchainR (s ++ [⟨2, p, d0⟩]) s.length ps
def gchain (s : List GN) (from_ : List Nat) (d0 : Nat) : Nat × List GN := gchainR s d0 from_.reverse
theorem gchainR_ok : ∀ (ps : List Nat) {s : List GN} {d0 : Nat}, GWF s → d0 < s.length → (∀ p, p ∈ ps → p < s.length) →
    GExt s (gchainR s d0 ps).2 ∧ (gchainR s d0 ps).1 < (gchainR s d0 ps).2.length ∧ (∀ ρ, GSol (gchainR s d0 ps).2 ρ → ρ (gchainR s d0 ps).1 = ars (ps.reverse.map ρ) (ρ d0)) ∧ (∀ ρ, GSol s ρ → ∃ ρ', (∀ i, i < s.length → ρ' i = ρ i) ∧ GSol (gchainR s d0 ps).2 ρ')
  | [], s, d0, w, ht, hp => ⟨GExt.refl w, ht, fun ρ hs => rfl, fun ρ hs => ⟨ρ, fun _ _ => rfl, hs⟩⟩
  | p :: ps, s, d0, w, ht, hp => by
    obtain ⟨x1, hS⟩ := gpush_arrow w (hp p List.mem_cons_self) ht
    have l1 : (s ++ [(⟨2, p, d0⟩ : GN)]).length = s.length + 1 := by rw [List.length_append]; rfl
    obtain ⟨a1, a2, a3, a4⟩ := gchainR_ok ps (d0 := s.length) x1.wf (by rw [l1]; omega) (fun q hq => by rw [l1]; have := hp q (List.mem_cons_of_mem _ hq); omega)
    refine ⟨x1.trans a1, a2, fun ρ hs => ?_, fun ρ hs => ?_⟩
    · show ρ (gchainR (s ++ [⟨2, p, d0⟩]) s.length ps).1 = _
      rw [a3 ρ hs, List.reverse_cons, List.map_append, ((hS ρ).1 (a1.down ρ hs)).2]
      exact (ars_snoc _ _ _).symm
    · have hs1 : GSol (s ++ [⟨2, p, d0⟩]) (upd ρ s.length (.ar (ρ p) (ρ d0))) := by
        have hpl := hp p List.mem_cons_self
        refine (hS _).2 ⟨GSol.agree w (fun i hi => by unfold upd; rw [if_neg (by omega)]) hs, ?_⟩
        unfold upd
        rw [if_pos rfl, if_neg (by omega), if_neg (by omega)]
      obtain ⟨ρ', he, hs'⟩ := a4 _ hs1
      exact ⟨ρ', fun i hi => (he i (by rw [l1]; omega)).trans (by unfold upd; rw [if_neg (by omega)]), hs'⟩
theorem gchain_ok (ps : List Nat) {s : List GN} {d0 : Nat} (w : GWF s) (ht : d0 < s.length) (hp : ∀ p, p ∈ ps → p < s.length) :
    GExt s (gchain s ps d0).2 ∧ (gchain s ps d0).1 < (gchain s ps d0).2.length ∧ (∀ ρ, GSol (gchain s ps d0).2 ρ → ρ (gchain s ps d0).1 = ars (ps.map ρ) (ρ d0)) ∧ (∀ ρ, GSol s ρ → ∃ ρ', (∀ i, i < s.length → ρ' i = ρ i) ∧ GSol (gchain s ps d0).2 ρ') := by
  have h := gchainR_ok ps.reverse w ht (fun p hpr => hp p (List.mem_reverse.1 hpr))
  rw [List.reverse_reverse] at h
  exact h
inductive GSort (hd : Int → Int → Option Nat) : List GN → Nat → List S44 → Option Nat → List GN → Prop
  | nil {s : List GN} {n : Nat} : GSort hd s n [] (some n) s
  | bad {s s1 : List GN} {n m : Nat} {x : S44} {xs : List S44} : hd x.f0 x.f1 = some m → GSort hd s m x.f2 none s1 → GSort hd s n (x :: xs) none s1
  | clash {s s1 s2 : List GN} {n m a : Nat} {x : S44} {xs : List S44} : hd x.f0 x.f1 = some m → GSort hd s m x.f2 (some a) s1 → GUni (s1 ++ [⟨0, 0, 0⟩] ++ [⟨2, a, s1.length⟩]) n (s1.length + 1) false s2 → GSort hd s n (x :: xs) none s2
  | step {s s1 s2 s3 : List GN} {n m a : Nat} {x : S44} {xs : List S44} {r : Option Nat} : hd x.f0 x.f1 = some m → GSort hd s m x.f2 (some a) s1 → GUni (s1 ++ [⟨0, 0, 0⟩] ++ [⟨2, a, s1.length⟩]) n (s1.length + 1) true s2 → GSort hd s2 s1.length xs r s3 → GSort hd s n (x :: xs) r s3
def hdN (hd : Int → Int → Option Nat) (ρ : Nat → KT) (k n : Int) : Option KT := (hd k n).map ρ
structure GTermed (s : List GN) (P : (Nat → KT) → KT → Prop) (r : Option Nat) (s' : List GN) : Prop where
  yes : ∀ k, r = some k → k < s'.length ∧ GExt s s' ∧ (∀ ρ, GSol s' ρ → P ρ (ρ k)) ∧ (∀ ρ t, GSol s ρ → P ρ t → ∃ ρ', (∀ i, i < s.length → ρ' i = ρ i) ∧ GSol s' ρ' ∧ ρ' k = t)
  no : r = none → ∀ ρ t, GSol s ρ → ¬ P ρ t
theorem hdN_agree {hd : Int → Int → Option Nat} {N : Nat} (hh : ∀ k n m, hd k n = some m → m < N) {ρ ρ' : Nat → KT} (e : ∀ i, i < N → ρ' i = ρ i) : hdN hd ρ' = hdN hd ρ := by
  funext k n
  unfold hdN
  cases hm : hd k n with
  | none => rfl
  | some m => simp only [Option.map_some]; rw [e m (hh k n m hm)]
theorem gtwo {s1 : List GN} (w : GWF s1) {a : Nat} (ha : a < s1.length) : GExt s1 (s1 ++ [⟨0, 0, 0⟩] ++ [⟨2, a, s1.length⟩]) ∧ (s1 ++ [(⟨0, 0, 0⟩ : GN)] ++ [(⟨2, a, s1.length⟩ : GN)]).length = s1.length + 2 ∧
    (∀ ρ, GSol (s1 ++ [⟨0, 0, 0⟩] ++ [⟨2, a, s1.length⟩]) ρ ↔ GSol s1 ρ ∧ ρ (s1.length + 1) = .ar (ρ a) (ρ s1.length)) := by
  obtain ⟨x2, hS2⟩ := gpush_open w
  have l2 : (s1 ++ [(⟨0, 0, 0⟩ : GN)]).length = s1.length + 1 := by rw [List.length_append]; rfl
  obtain ⟨x3, hS3⟩ := gpush_arrow x2.wf (a := a) (b := s1.length) (by rw [l2]; omega) (by rw [l2]; omega)
  refine ⟨x2.trans x3, by rw [List.length_append, l2]; rfl, fun ρ => ?_⟩
  rw [hS3, hS2, l2]
theorem GSort.ok {hd : Int → Int → Option Nat} {s : List GN} {n : Nat} {l : List S44} {r : Option Nat} {s' : List GN} (h : GSort hd s n l r s') : GWF s → n < s.length → (∀ k n m, hd k n = some m → m < s.length) →
    GTermed s (fun ρ t => TyL (hdN hd ρ) (ρ n) l t) r s' := by
  induction h with
  | @nil s n =>
    intro w hn hh
    refine ⟨fun k hk => ?_, fun e => (by cases e)⟩
    injection hk with hk
    subst hk
    exact ⟨hn, GExt.refl w, fun ρ _ => by unfold TyL; rfl, fun ρ t hs ht => ⟨ρ, fun _ _ => rfl, hs, by unfold TyL at ht; exact ht.symm⟩⟩
  | @bad s s1 n m x xs hm _ ih =>
    intro w hn hh
    have T := ih w (hh _ _ _ hm) hh
    refine ⟨fun k hk => (by cases hk), fun _ ρ t hs ht => ?_⟩
    unfold TyL at ht
    obtain ⟨a, b, _, ha, _⟩ := ht
    obtain ⟨xk, xn, xl⟩ := x
    unfold Ty at ha
    obtain ⟨t0, h0, ha⟩ := ha
    unfold hdN at h0
    rw [hm] at h0
    simp only [Option.map_some] at h0
    injection h0 with h0
    subst h0
    exact T.no rfl ρ a hs ha
  | @clash s s1 s2 n m a x xs hm _ hu ih =>
    intro w hn hh
    have T := ih w (hh _ _ _ hm) hh
    obtain ⟨hal, ext1, d1, u1⟩ := T.yes a rfl
    obtain ⟨x3, l3, eqs⟩ := gtwo ext1.wf hal
    have U := hu.ok x3.wf
    have hn1 : n < s1.length := Nat.lt_of_lt_of_le hn ext1.len
    have x03 := ext1.trans x3
    refine ⟨fun k hk => (by cases hk), fun _ ρ t hs ht => ?_⟩
    · unfold TyL at ht
      obtain ⟨a', b, hab, ha, _⟩ := ht
      obtain ⟨xk, xn, xl⟩ := x
      unfold Ty at ha
      obtain ⟨t0, h0, ha⟩ := ha
      unfold hdN at h0
      rw [hm] at h0
      simp only [Option.map_some] at h0
      injection h0 with h0
      subst h0
      obtain ⟨ρ1, ag1, hs1, hx1⟩ := u1 ρ a' hs ha
      have ag : ∀ i : Nat, i < s1.length → upd (upd ρ1 s1.length b) (s1.length + 1) (.ar a' b) i = ρ1 i := fun i hi => by unfold upd; rw [if_neg (by omega), if_neg (by omega)]
      refine U.no rfl (upd (upd ρ1 s1.length b) (s1.length + 1) (.ar a' b)) ((eqs _).2 ⟨GSol.agree ext1.wf ag hs1, ?_⟩) ?_
      · rw [ag a hal, hx1]
        unfold upd
        rw [if_pos rfl, if_neg (by omega), if_pos rfl]
      · rw [ag n hn1, ag1 n hn, hab]
        unfold upd
        rw [if_pos rfl]
  | @step s s1 s2 s3 n m a x xs r hm _ hu _ ih1 ih2 =>
    intro w hn hh
    have T := ih1 w (hh _ _ _ hm) hh
    obtain ⟨hal, ext1, d1, u1⟩ := T.yes a rfl
    obtain ⟨x3, l3, eqs⟩ := gtwo ext1.wf hal
    have U := hu.ok x3.wf
    have hS4 := U.yes rfl
    have hn1 : n < s1.length := Nat.lt_of_lt_of_le hn ext1.len
    have x03 := ext1.trans x3
    have l4 : s2.length = s1.length + 2 := U.len.trans l3
    have x4 : GExt s s2 := ⟨by rw [l4]; have := ext1.len; omega, U.wf, fun ρ hs => x03.down ρ ((hS4 ρ).1 hs).1⟩
    have T2 := ih2 U.wf (by omega) (fun k n m hm => Nat.lt_of_lt_of_le (hh k n m hm) x4.len)
    obtain ⟨xk, xn, xl⟩ := x
    have key : ∀ ρ t, GSol s ρ → TyL (hdN hd ρ) (ρ n) (⟨xk, xn, xl⟩ :: xs) t → ∃ ρ', (∀ i, i < s.length → ρ' i = ρ i) ∧ GSol s2 ρ' ∧ TyL (hdN hd ρ') (ρ' s1.length) xs t := by
      intro ρ t hs ht
      unfold TyL at ht
      obtain ⟨a', b, hab, ha, hb⟩ := ht
      unfold Ty at ha
      obtain ⟨t0, h0, ha⟩ := ha
      unfold hdN at h0
      rw [hm] at h0
      simp only [Option.map_some] at h0
      injection h0 with h0
      subst h0
      obtain ⟨ρ1, ag1, hs1, hx1⟩ := u1 ρ a' hs ha
      have ag : ∀ i : Nat, i < s1.length → upd (upd ρ1 s1.length b) (s1.length + 1) (.ar a' b) i = ρ1 i := fun i hi => by unfold upd; rw [if_neg (by omega), if_neg (by omega)]
      have agS : ∀ i, i < s.length → upd (upd ρ1 s1.length b) (s1.length + 1) (.ar a' b) i = ρ i := fun i hi => (ag i (Nat.lt_of_lt_of_le hi ext1.len)).trans (ag1 i hi)
      refine ⟨upd (upd ρ1 s1.length b) (s1.length + 1) (.ar a' b), agS, (hS4 _).2 ⟨(eqs _).2 ⟨GSol.agree ext1.wf ag hs1, ?_⟩, ?_⟩, ?_⟩
      · rw [ag a hal, hx1]
        unfold upd
        rw [if_pos rfl, if_neg (by omega), if_pos rfl]
      · rw [ag n hn1, ag1 n hn, hab]
        unfold upd
        rw [if_pos rfl]
      · rw [hdN_agree hh agS]
        have hbv : upd (upd ρ1 s1.length b) (s1.length + 1) (.ar a' b) s1.length = b := by unfold upd; rw [if_neg (by omega), if_pos rfl]
        rw [hbv]
        exact hb
    refine ⟨fun q hq => ?_, fun hr ρ t hs ht => ?_⟩
    · obtain ⟨a1, ext2, a3, a4⟩ := T2.yes q hq
      refine ⟨a1, x4.trans ext2, fun ρ hs => ?_, fun ρ t hs ht => ?_⟩
      · have hs2 := ext2.down ρ hs
        obtain ⟨b1, b2⟩ := (hS4 ρ).1 hs2
        obtain ⟨c1, c2⟩ := (eqs ρ).1 b1
        unfold TyL
        refine ⟨ρ a, ρ s1.length, by rw [b2, c2], ?_, a3 ρ hs⟩
        unfold Ty
        exact ⟨ρ m, by unfold hdN; rw [hm]; rfl, d1 ρ c1⟩
      · obtain ⟨ρ1, ag1, hs1, ht1⟩ := key ρ t hs ht
        obtain ⟨ρ2, ag2, hs2, hq2⟩ := a4 ρ1 t hs1 ht1
        exact ⟨ρ2, fun i hi => (ag2 i (Nat.lt_of_lt_of_le hi x4.len)).trans (ag1 i hi), hs2, hq2⟩
    · obtain ⟨ρ1, ag1, hs1, ht1⟩ := key ρ t hs ht
      exact T2.no hr ρ1 t hs1 ht1
end Go.Proofs.Ytfhgoebgnilfaaa.I
