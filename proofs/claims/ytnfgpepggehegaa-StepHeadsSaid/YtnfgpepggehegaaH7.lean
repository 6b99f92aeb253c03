/- Texts of this session's proof, laid together: IB5, IZ0, I11, I12, ID1, IE2, ID2, ID3, ID4. -/
import Derived.Deep.RegionLaw
import Derived.Deep.RegionHeld3
import Derived.Deep.QuietTactic
import Derived.BigQuiet
import Derived.Test.YtnfgpepggehegaaH6
namespace Go.Proofs.Ytnfgpepggehegaa.I
open Go.RowKit Go.Proofs.YtnfgpepggehegaaW.PrintWords Go.Proofs.YtnfgpepggehegaaW.PrintLast Go.Proofs.YtnfgpepggehegaaW.PrintMore
attribute [local go_sem] max2_int min2_int max_two min_two max_three min_three max_four min_four
set_option linter.unusedVariables false
set_option maxRecDepth 100000
set_option linter.unusedSimpArgs false
theorem start_ex (w : World) : Calls Try.prog 35 #[] w fun e w' => ∃ As cs, e = .returned (.agg #[.int .i64 1, .int .i64 0, .slice As 0 cs]) ∧ Kd.C k28 w' As 0 [] ∧ Below w.heap.size w w' := by
  refine (virgationlaw05_start.calls 1 0 [] w rfl).mono ?_
  rintro e w' ⟨v, rfl, hR, hb⟩
  obtain ⟨As, cs, rfl⟩ := Kd.R_slice hR
  exact ⟨As, cs, rfl, (Kd.R_reads' hR).2.2, hb⟩
theorem V_new {α : Type} {d : Kd α} {e : Nat} {W : World} {B : Nat} {v : Value} {xs : List α} (h : Kd.R d e W B (fun _ => True) v xs) : ∃ A c, v = .slice A xs.length c ∧ Kd.V d e W 0 (fun k => B ≤ k) (.slice A xs.length c) xs := by
  obtain ⟨A, c, rfl⟩ := Kd.R_slice h
  exact ⟨A, c, rfl, Kd.V_mono (Kd.R_V (base' := 0) (Kd.R_bound h)) (fun k hk => hk.2.1)⟩
theorem step_ex (A0 : Option Addr) (c0 : Nat) (A1 : Option Addr) (c1 : Nat) (As : Option Addr) (cs : Nat) (w : World) (hr0 : Kd.C k87 w A0 exSy.length exSy) (hc0 : exSy.length ≤ c0) (hr1 : Kd.C k84 w A1 exOut.length exOut) (hc1 : exOut.length ≤ c1) (hr3 : Kd.C k28 w As 0 []) :
    Calls Try.prog 14 #[.agg #[.slice A0 3 c0, .slice A1 2 c1], .agg #[.int .i64 1, .int .i64 0, .slice As 0 cs]] w fun e w' => ∃ Av cv, e = .returned (.tuple #[.agg #[.int .i64 1, .int .i64 1, .slice Av 1 cv], .bool true, .int .i64 0]) ∧ Kd.V k28 28 w' 0 (fun k => w.heap.size ≤ k) (.slice Av 1 cv) [xc] ∧ Below w.heap.size w w' := by
  refine (step_calls A0 c0 exSy A1 c1 exOut xt As cs w hr0 hc0 hr1 hc1 hr3 (Nat.zero_le _)).mono ?_
  rw [ex_step]
  rintro e w' ⟨v, rfl, hR, hb⟩
  obtain ⟨Av, cv, rfl, hV⟩ := V_new hR
  exact ⟨Av, cv, rfl, hV, hb⟩
theorem run_ex (A0 : Option Addr) (c0 : Nat) (A1 : Option Addr) (c1 : Nat) (As : Option Addr) (cs : Nat) (w : World) (hr0 : Kd.C k87 w A0 exSy.length exSy) (hc0 : exSy.length ≤ c0) (hr1 : Kd.C k84 w A1 exOut.length exOut) (hc1 : exOut.length ≤ c1) (hr3 : Kd.C k28 w As 0 []) :
    Calls Try.prog 17 #[.agg #[.slice A0 3 c0, .slice A1 2 c1], .agg #[.int .i64 1, .int .i64 0, .slice As 0 cs], .int .i64 2] w fun e w' => ∃ Av cv, e = .returned (.tuple #[.agg #[.int .i64 2, .int .i64 0, .slice Av 2 cv], .int .i64 2, .int .i64 0]) ∧ Kd.V k28 28 w' 0 (fun k => w.heap.size ≤ k) (.slice Av 2 cv) xr.f2 ∧ Below w.heap.size w w' := by
  refine (run_calls A0 c0 exSy A1 c1 exOut xt As cs 2 w hr0 hc0 hr1 hc1 hr3 (Nat.zero_le _)).mono ?_
  rw [ex_run]
  rintro e w' ⟨v, rfl, hR, hb⟩
  obtain ⟨Av, cv, rfl, hV⟩ := V_new hR
  exact ⟨Av, cv, rfl, hV, hb⟩
theorem term_ex1 (A0 : Option Addr) (c0 : Nat) (A1 : Option Addr) (c1 : Nat) (Av : Option Addr) (cv : Nat) (w : World) (hr0 : Kd.C k87 w A0 exSy.length exSy) (hc0 : exSy.length ≤ c0) (hr1 : Kd.C k84 w A1 exOut.length exOut) (hc1 : exOut.length ≤ c1) (hv : Kd.V k28 28 w 0 (fun _ => True) (.slice Av 1 cv) [xc]) :
    Calls Try.prog 36 #[.agg #[.slice A0 3 c0, .slice A1 2 c1], .agg #[.int .i64 1, .int .i64 1, .slice Av 1 cv]] w fun e w' => e = .returned (.string ⟨#[102, 32, 35, 99]⟩) ∧ Below w.heap.size w w' :=
  virgationref03_Term.calls 60 A0 c0 exSy A1 c1 exOut 1 1 Av cv [xc] _ w hr0 hc0 hr1 hc1 (Kd.V_reads' hv).2.2 (Kd.V_reads' hv).2.1 ex_t1
theorem term_ex2 (A0 : Option Addr) (c0 : Nat) (A1 : Option Addr) (c1 : Nat) (Av : Option Addr) (cv : Nat) (w : World) (hr0 : Kd.C k87 w A0 exSy.length exSy) (hc0 : exSy.length ≤ c0) (hr1 : Kd.C k84 w A1 exOut.length exOut) (hc1 : exOut.length ≤ c1) (hv : Kd.V k28 28 w 0 (fun _ => True) (.slice Av 2 cv) xr.f2) :
    Calls Try.prog 36 #[.agg #[.slice A0 3 c0, .slice A1 2 c1], .agg #[.int .i64 2, .int .i64 0, .slice Av 2 cv]] w fun e w' => e = .returned (.string ⟨#[35, 97, 32, 35, 99, 32, 40, 102, 32, 40, 35, 98, 32, 35, 99, 41, 41]⟩) ∧ Below w.heap.size w w' :=
  virgationref03_Term.calls 60 A0 c0 exSy A1 c1 exOut 2 0 Av cv xr.f2 _ w hr0 hc0 hr1 hc1 (Kd.V_reads' hv).2.2 (Kd.V_reads' hv).2.1 ex_t2
set_option maxHeartbeats 16000000 in
theorem alive_calls (w : World) : Calls Try.prog 13 #[] w fun e w' => e = .returned (.bool true) ∧ Below w.heap.size w w' := by
  have hu25 := Try.underlying25
  have hu28 := Try.underlying28
  go_enter Try.func13, Try.ntmps13
  go_upto_region 2 with (first
    | (go_at_call 34
       (with_reducible refine (get_ex _ (by kernel_rfl) _).mono ?_)
       rintro e9 w2 ⟨A0, c0, A1, c1, rfl, hr0, hc0, hr1, hc1, hb2⟩
       have HR0 := Az.mk hr0
       have HC0 := Az.mk hc0
       have HR1 := Az.mk hr1
       have HC1 := Az.mk hc1
       have HB2 := Az.mk hb2
       clear hr0 hc0 hr1 hc1 hb2)
    | ((with_reducible refine gate_dst (N := 1) rfl ?_)
       refine box_event ?hg (N := 1) ?hd (cs := #[.slice none 0 0, .slice none 0 0]) (t := 25) ?hr ?_
       (case hd => rfl)
       (case hg => rfl)
       (case hr => first | (go_simp; done) | (go_simp; rfl))
       intro g1 hg1 w3 hbox hb3
       have hgw : w2.heap.size ≤ g1 := by omega
       have Hbw := Az.mk (bset (g := g1) (j := 1) (v := .slice A1 2 c1) (bset (g := g1) (j := 0) (v := .slice A0 3 c0) hb3 hgw) hgw)
       have S1 := Az.mk (blk_put (cs' := #[.slice A0 3 c0, .slice A1 2 c1]) (blk_put (cs' := #[.slice A0 3 c0, .slice none 0 0]) hbox 0 (.slice A0 3 c0) rfl) 1 (.slice A1 2 c1) rfl)
       have hcz0 := (blk_cell hbox 0).trans rfl
       have hcz1 := (blk_cell hbox 1).trans rfl
       have hfz0 := bkF hbox 0
       have hfz1 := bkF hbox 1
       clear hbox hb3 hg1 hgw))
  clear hcz0 hcz1 hfz0 hfz1
  generalize ((w3.setCell ⟨g1, 0, none⟩ (.slice A0 3 c0)).setCell ⟨g1, 1, none⟩ (.slice A1 2 c1)) = wq at *
  have HBq := Az.mk (bst HB2.out Hbw.out)
  have HR0q := Az.mk (Kd.C_below HR0.out Hbw.out)
  have HR1q := Az.mk (Kd.C_below HR1.out Hbw.out)
  clear HR0 HR1 Hbw HB2
  have e0 : wq.cell? ⟨g1, 0, none⟩ = some (.slice A0 3 c0) := (blk_cell S1.out 0).trans rfl
  have e1 : wq.cell? ⟨g1, 1, none⟩ = some (.slice A1 2 c1) := (blk_cell S1.out 1).trans rfl
  have e0' := cel1 e0
  have e1' := cel1 e1
  have HCT := Az.mk (fun (w' : World) (As : Option Addr) (cs : Nat) (hb : Below wq.heap.size wq w') (h : Kd.C k28 w' As 0 []) => step_ex A0 c0 A1 c1 As cs w' (Kd.C_below HR0q.out hb) HC0.out (Kd.C_below HR1q.out hb) HC1.out h)
  try simp only [Act.put, List.setIfInBounds_toArray, List.set_cons_succ, List.set_cons_zero]
  go_cut [3, 4, 5] from 14 to 19 (fun va vb vd wc => ∃ (g : Nat) (Av : Option Addr) (cv : Nat), va = .pointer (some ⟨g, 0, none⟩) ∧ vb = .bool true ∧ vd = .int .i64 0 ∧ Az (wc.heap[g]? = some (.cells #[.int .i64 1, .int .i64 1, .slice Av 1 cv] 28 (0, 0))) ∧ Az (Kd.V k28 28 wc 0 (fun _ => True) (.slice Av 1 cv) [xc]) ∧ Az (Below wq.heap.size wq wc))
  case first =>
    go_region_law
      (first
        | (go_simp
           go_at_call 35
           first
           | ((with_reducible refine (start_ex wq.drew).mono ?_)
              rintro e9 wA ⟨As, cs, rfl, hCs, hbA⟩
              have HCA := Az.mk hCs
              have HBA := Az.mk (bst (below_drew (Below.refl wq.heap.size wq)) hbA)
              have a0 := cell_up hbA (show (wq.drew).cell? _ = _ from id e0)
              have a1 := cell_up hbA (show (wq.drew).cell? _ = _ from id e1)
              have a0' := cel1 a0
              have a1' := cel1 a1
              clear hCs hbA)
           | ((with_reducible refine (start_ex (wq.alloc (.cells #[.int .i64 0, .int .i64 0, .slice none 0 0] 28)).drew).mono ?_)
              rintro e9 wA ⟨As, cs, rfl, hCs, hbA⟩
              have HCA := Az.mk hCs
              have HBA := Az.mk (bst (below_drew (bal (Below.refl wq.heap.size wq) _)) hbA)
              have a0 := cell_up hbA (show ((wq.alloc (.cells #[.int .i64 0, .int .i64 0, .slice none 0 0] 28)).drew).cell? _ = _ from cel1 e0 _)
              have a1 := cell_up hbA (show ((wq.alloc (.cells #[.int .i64 0, .int .i64 0, .slice none 0 0] 28)).drew).cell? _ = _ from cel1 e1 _)
              have a0' := cel1 a0
              have a1' := cel1 a1
              have HG9 := Az.mk (bkB (blk_drew (blk_new wq (.cells #[.int .i64 0, .int .i64 0, .slice none 0 0] 28))) hbA)
              clear hCs hbA))
        | (go_simp
           go_at_call 14
           first
           | ((with_reducible refine (HCT.out wA As cs HBA.out HCA.out).mono ?_)
              rintro e9 wB ⟨Av, cv, rfl, hV, hbB⟩
              have HVB := Az.mk hV
              have HBB := Az.mk (bst HBA.out hbB)
              try (have G := bkB HG9.out hbB
                   have k90 := (blk_cell G 0).trans rfl
                   have k91 := (blk_cell G 1).trans rfl
                   have k92 := (blk_cell G 2).trans rfl
                   have f90 := bkF G 0
                   have f91 := bkF G 1
                   have f92 := bkF G 2
                   have HG9B := Az.mk G
                   have HNE := Az.mk (show ∀ k, wA.heap.size ≤ k → k ≠ wq.heap.size from fun k hk => by have := blk_lt HG9.out; omega)
                   clear G)
              clear hV hbB)
           | ((with_reducible refine (HCT.out (wA.alloc (.cells #[.int .i64 0, .int .i64 0, .slice none 0 0] 28)) As cs (bal HBA.out _) (Kd.C_alloc HCA.out _)).mono ?_)
              rintro e9 wB ⟨Av, cv, rfl, hV, hbB⟩
              have HVB := Az.mk hV
              have HBB := Az.mk (bst (bal HBA.out _) hbB)
              have G := bkB (blk_new wA (.cells #[.int .i64 0, .int .i64 0, .slice none 0 0] 28)) hbB
              have k90 := (blk_cell G 0).trans rfl
              have k91 := (blk_cell G 1).trans rfl
              have k92 := (blk_cell G 2).trans rfl
              have f90 := bkF G 0
              have f91 := bkF G 1
              have f92 := bkF G 2
              have HG9B := Az.mk G
              have HNE := Az.mk (show ∀ k, (wA.alloc (.cells #[.int .i64 0, .int .i64 0, .slice none 0 0] 28)).heap.size ≤ k → k ≠ wA.heap.size from fun k hk => by have := blk_lt (blk_new wA (.cells #[.int .i64 0, .int .i64 0, .slice none 0 0] 28)); omega)
              clear G hV hbB)))
    all_goals (
      go_wp2_with fail
      go_meet
      first
      | exact ⟨_, Av, cv, rfl, rfl, rfl, ⟨blk_new _ _⟩, ⟨Kd.V_mono (Kd.V_alloc HVB.out _) (fun _ _ => trivial)⟩, ⟨bal HBB.out _⟩⟩
      | exact ⟨_, Av, cv, rfl, rfl, rfl, ⟨blk_put (cs' := #[.int .i64 1, .int .i64 1, .slice Av 1 cv]) (blk_put (cs' := #[.int .i64 1, .int .i64 1, .slice none 0 0]) (blk_put (cs' := #[.int .i64 1, .int .i64 0, .slice none 0 0]) HG9B.out 0 _ rfl) 1 _ rfl) 2 _ rfl⟩, ⟨Kd.V_mono (Kd.V_far (p := ⟨_, 2, none⟩) (Kd.V_far (p := ⟨_, 1, none⟩) (Kd.V_far (p := ⟨_, 0, none⟩) HVB.out HNE.out _) HNE.out _) HNE.out _) (fun _ _ => trivial)⟩, ⟨bset (bset (bset HBB.out (by first | exact HBA.out.size | exact Nat.le_refl _)) (by first | exact HBA.out.size | exact Nat.le_refl _)) (by first | exact HBA.out.size | exact Nat.le_refl _)⟩⟩)
  case rest =>
  obtain ⟨gx, Ax, cx, rfl, rfl, rfl, Sx, HVx, HBx⟩ := hcut
  clear e0 e1 e0' e1' HCT
  have HBr := Az.mk (bst HBq.out HBx.out)
  have HR0r := Az.mk (Kd.C_below HR0q.out HBx.out)
  have HR1r := Az.mk (Kd.C_below HR1q.out HBx.out)
  have S1r := Az.mk (bkB S1.out HBx.out)
  clear HBq HR0q HR1q S1 HBx
  obtain ⟨w4, hw4⟩ : ∃ w4, w4 = wc := ⟨_, rfl⟩
  subst hw4
  go_upto_region 3 with fail
  have e0 : w4.cell? ⟨g1, 0, none⟩ = some (.slice A0 3 c0) := (blk_cell S1r.out 0).trans rfl
  have e1 : w4.cell? ⟨g1, 1, none⟩ = some (.slice A1 2 c1) := (blk_cell S1r.out 1).trans rfl
  have e0' := cel1 e0
  have e1' := cel1 e1
  have HCT := Az.mk (fun (w' : World) (As : Option Addr) (cs : Nat) (hb : Below w4.heap.size w4 w') (h : Kd.C k28 w' As 0 []) => run_ex A0 c0 A1 c1 As cs w' (Kd.C_below HR0r.out hb) HC0.out (Kd.C_below HR1r.out hb) HC1.out h)
  try simp only [Act.put, List.setIfInBounds_toArray, List.set_cons_succ, List.set_cons_zero]
  go_cut [6, 7, 8] from 21 to 26 (fun va vb vd wc => ∃ (g : Nat) (Av : Option Addr) (cv : Nat), va = .pointer (some ⟨g, 0, none⟩) ∧ vb = .int .i64 2 ∧ vd = .int .i64 0 ∧ Az (wc.heap[g]? = some (.cells #[.int .i64 2, .int .i64 0, .slice Av 2 cv] 28 (0, 0))) ∧ Az (Kd.V k28 28 wc 0 (fun _ => True) (.slice Av 2 cv) xr.f2) ∧ Az (Below w4.heap.size w4 wc))
  case first =>
    go_region_law
      (first
        | (go_simp
           go_at_call 35
           first
           | ((with_reducible refine (start_ex w4.drew).mono ?_)
              rintro e9 wA ⟨As, cs, rfl, hCs, hbA⟩
              have HCA := Az.mk hCs
              have HBA := Az.mk (bst (below_drew (Below.refl w4.heap.size w4)) hbA)
              have a0 := cell_up hbA (show (w4.drew).cell? _ = _ from id e0)
              have a1 := cell_up hbA (show (w4.drew).cell? _ = _ from id e1)
              have a0' := cel1 a0
              have a1' := cel1 a1
              clear hCs hbA)
           | ((with_reducible refine (start_ex (w4.alloc (.cells #[.int .i64 0, .int .i64 0, .slice none 0 0] 28)).drew).mono ?_)
              rintro e9 wA ⟨As, cs, rfl, hCs, hbA⟩
              have HCA := Az.mk hCs
              have HBA := Az.mk (bst (below_drew (bal (Below.refl w4.heap.size w4) _)) hbA)
              have a0 := cell_up hbA (show ((w4.alloc (.cells #[.int .i64 0, .int .i64 0, .slice none 0 0] 28)).drew).cell? _ = _ from cel1 e0 _)
              have a1 := cell_up hbA (show ((w4.alloc (.cells #[.int .i64 0, .int .i64 0, .slice none 0 0] 28)).drew).cell? _ = _ from cel1 e1 _)
              have a0' := cel1 a0
              have a1' := cel1 a1
              have HG9 := Az.mk (bkB (blk_drew (blk_new w4 (.cells #[.int .i64 0, .int .i64 0, .slice none 0 0] 28))) hbA)
              clear hCs hbA))
        | (go_simp
           go_at_call 17
           first
           | ((with_reducible refine (HCT.out wA As cs HBA.out HCA.out).mono ?_)
              rintro e9 wB ⟨Av, cv, rfl, hV, hbB⟩
              have HVB := Az.mk hV
              have HBB := Az.mk (bst HBA.out hbB)
              try (have G := bkB HG9.out hbB
                   have k90 := (blk_cell G 0).trans rfl
                   have k91 := (blk_cell G 1).trans rfl
                   have k92 := (blk_cell G 2).trans rfl
                   have f90 := bkF G 0
                   have f91 := bkF G 1
                   have f92 := bkF G 2
                   have HG9B := Az.mk G
                   have HNE := Az.mk (show ∀ k, wA.heap.size ≤ k → k ≠ w4.heap.size from fun k hk => by have := blk_lt HG9.out; omega)
                   clear G)
              clear hV hbB)
           | ((with_reducible refine (HCT.out (wA.alloc (.cells #[.int .i64 0, .int .i64 0, .slice none 0 0] 28)) As cs (bal HBA.out _) (Kd.C_alloc HCA.out _)).mono ?_)
              rintro e9 wB ⟨Av, cv, rfl, hV, hbB⟩
              have HVB := Az.mk hV
              have HBB := Az.mk (bst (bal HBA.out _) hbB)
              have G := bkB (blk_new wA (.cells #[.int .i64 0, .int .i64 0, .slice none 0 0] 28)) hbB
              have k90 := (blk_cell G 0).trans rfl
              have k91 := (blk_cell G 1).trans rfl
              have k92 := (blk_cell G 2).trans rfl
              have f90 := bkF G 0
              have f91 := bkF G 1
              have f92 := bkF G 2
              have HG9B := Az.mk G
              have HNE := Az.mk (show ∀ k, (wA.alloc (.cells #[.int .i64 0, .int .i64 0, .slice none 0 0] 28)).heap.size ≤ k → k ≠ wA.heap.size from fun k hk => by have := blk_lt (blk_new wA (.cells #[.int .i64 0, .int .i64 0, .slice none 0 0] 28)); omega)
              clear G hV hbB)))
    all_goals (
      go_wp2_with fail
      go_meet
      first
      | exact ⟨_, Av, cv, rfl, rfl, rfl, ⟨blk_new _ _⟩, ⟨Kd.V_mono (Kd.V_alloc HVB.out _) (fun _ _ => trivial)⟩, ⟨bal HBB.out _⟩⟩
      | exact ⟨_, Av, cv, rfl, rfl, rfl, ⟨blk_put (cs' := #[.int .i64 2, .int .i64 0, .slice Av 2 cv]) (blk_put (cs' := #[.int .i64 2, .int .i64 0, .slice none 0 0]) (blk_put (cs' := #[.int .i64 2, .int .i64 0, .slice none 0 0]) HG9B.out 0 _ rfl) 1 _ rfl) 2 _ rfl⟩, ⟨Kd.V_mono (Kd.V_far (p := ⟨_, 2, none⟩) (Kd.V_far (p := ⟨_, 1, none⟩) (Kd.V_far (p := ⟨_, 0, none⟩) HVB.out HNE.out _) HNE.out _) HNE.out _) (fun _ _ => trivial)⟩, ⟨bset (bset (bset HBB.out (by first | exact HBA.out.size | exact Nat.le_refl _)) (by first | exact HBA.out.size | exact Nat.le_refl _)) (by first | exact HBA.out.size | exact Nat.le_refl _)⟩⟩)
  case rest =>
  obtain ⟨gy, Ay, cy, rfl, rfl, rfl, Sy, HVy, HBy⟩ := hcut
  clear e0 e1 e0' e1' HCT
  have HBs := Az.mk (bst HBr.out HBy.out)
  have HR0s := Az.mk (Kd.C_below HR0r.out HBy.out)
  have HR1s := Az.mk (Kd.C_below HR1r.out HBy.out)
  have S1s := Az.mk (bkB S1r.out HBy.out)
  have Sxs := Az.mk (bkB Sx.out HBy.out)
  have HVxs := Az.mk (Kd.V_below HVx.out HBy.out)
  clear HBr HR0r HR1r S1r HBy Sx HVx
  have e0 : wc.cell? ⟨g1, 0, none⟩ = some (.slice A0 3 c0) := (blk_cell S1s.out 0).trans rfl
  have e1 : wc.cell? ⟨g1, 1, none⟩ = some (.slice A1 2 c1) := (blk_cell S1s.out 1).trans rfl
  have m0 : wc.cell? ⟨gx, 0, none⟩ = some (.int .i64 1) := (blk_cell Sxs.out 0).trans rfl
  have m1 : wc.cell? ⟨gx, 1, none⟩ = some (.int .i64 1) := (blk_cell Sxs.out 1).trans rfl
  have m2 : wc.cell? ⟨gx, 2, none⟩ = some (.slice Ax 1 cx) := (blk_cell Sxs.out 2).trans rfl
  go_wp2_with (first
    | (go_at_call 36
       (with_reducible refine (term_ex1 A0 c0 A1 c1 Ax cx wc HR0s.out HC0.out HR1s.out HC1.out HVxs.out).mono ?_)
       rintro e9 wE ⟨rfl, hbE⟩
       have HBE := Az.mk hbE
       have p0 : wE.cell? ⟨g1, 0, none⟩ = some (.slice A0 3 c0) := cell_up hbE e0
       have p1 : wE.cell? ⟨g1, 1, none⟩ = some (.slice A1 2 c1) := cell_up hbE e1
       have q0 : wE.cell? ⟨gy, 0, none⟩ = some (.int .i64 2) := (blk_cell (bkB Sy.out hbE) 0).trans rfl
       have q1 : wE.cell? ⟨gy, 1, none⟩ = some (.int .i64 0) := (blk_cell (bkB Sy.out hbE) 1).trans rfl
       have q2 : wE.cell? ⟨gy, 2, none⟩ = some (.slice Ay 2 cy) := (blk_cell (bkB Sy.out hbE) 2).trans rfl
       clear hbE)
    | (go_at_call 36
       (with_reducible refine (term_ex2 A0 c0 A1 c1 Ay cy wE (Kd.C_below HR0s.out HBE.out) HC0.out (Kd.C_below HR1s.out HBE.out) HC1.out (Kd.V_below HVy.out HBE.out)).mono ?_)
       rintro e9 wF ⟨rfl, hbF⟩
       have HBF := Az.mk (bst (bst HBs.out HBE.out) hbF)
       clear hbF))
  go_ret
  exact ⟨rfl, HBF.out⟩
end Go.Proofs.Ytnfgpepggehegaa.I
namespace Go.Proofs.Ytnfgpepggehegaa.I
open Go.RowKit Go.Proofs.YtnfgpepggehegaaW.PrintWords Go.Proofs.YtnfgpepggehegaaW.PrintLast Go.Proofs.YtnfgpepggehegaaW.PrintMore
attribute [local go_sem] max2_int min2_int max_two min_two max_three min_three max_four min_four
set_option linter.unusedVariables false
set_option maxRecDepth 100000
set_option linter.unusedSimpArgs false
theorem take28_snoc {l : List S28} {i : Nat} (h : i < l.length) : l.take i ++ [rd_T28 l (i : Int)] = l.take (i + 1) := by
  have e2 : rd_T28 l (i : Int) = l[i] := by unfold rd_T28; rw [Int.toNat_natCast, List.getD_eq_getElem?_getD, List.getElem?_eq_getElem h]; rfl
  rw [List.take_add_one, List.getElem?_eq_getElem h, e2]; rfl
set_option maxHeartbeats 8000000 in
theorem tcopy_calls (N : Nat) : ∀ (a b : Int) (l : List S28) (A : Option Addr) (c : Nat) (w : World), SizeOf.sizeOf l < N → tcntL l ≤ 1000000 → Kd.C k28 w A l.length l → l.length ≤ c →
    Calls Try.prog 23 #[.agg #[.int .i64 a, .int .i64 b, .slice A l.length c]] w fun e w' => ∃ v, e = .returned (.agg #[.int .i64 a, .int .i64 b, v]) ∧ Kd.R k28 28 w' w.heap.size (fun _ => True) v l ∧ Below w.heap.size w w' := by
  have hu28 := Try.underlying28
  have hu26 := Try.underlying26
  induction N with
  | zero => intro a b l A c w hN; omega
  | succ N ih =>
  intro a b l A c w hN ht hr hc
  have hlen : l.length ≤ 9223372036854775807 := hr.2.1
  have HR := Az.mk hr
  have HC := Az.mk hc
  have HN := Az.mk hN
  have HT := Az.mk ht
  have HL := Az.mk (show l.length ≤ 1000000 from by have := tcntL_ge l; omega)
  have IH := Az.mk ih
  clear hr hc hN ht ih
  go_enter Try.func23, Try.ntmps23
  go_wp2_with (first
    | ((with_reducible refine gate_dst (N := 1) rfl ?_)
       refine box_event ?hg (N := 1) ?hd (cs := #[.int .i64 a, .int .i64 b, .slice A l.length c]) (t := 28) ?hr ?_
       (case hd => rfl)
       (case hg => rfl)
       (case hr => first | (go_simp; done) | (go_simp; rfl))
       intro g1 hg1 w1 hbox hb1
       have S1 := Az.mk hbox
       have HB1 := Az.mk hb1
       clear hbox hb1 hg1)
    | ((with_reducible refine gate_dst (N := 2) rfl ?_)
       refine box_event ?hg (N := 2) ?hd (cs := #[.int .i64 0, .int .i64 0, .slice none 0 0]) (t := 28) ?hr ?_
       (case hd => rfl)
       (case hg => rfl)
       (case hr => first | (go_simp; done) | (go_simp; rfl))
       intro g2 hg2 w2 hbox hb2
       have S2 := Az.mk hbox
       have S12 := Az.mk (bkB S1.out hb2)
       have HB2 := Az.mk (bst HB1.out hb2)
       have HG2 := Az.mk (show w.heap.size ≤ g2 from by have := HB1.out.size; omega)
       have e0 : w2.cell? ⟨g1, 0, none⟩ = some (.int .i64 a) := (blk_cell S12.out 0).trans rfl
       have e1 : w2.cell? ⟨g1, 1, none⟩ = some (.int .i64 b) := (blk_cell S12.out 1).trans rfl
       clear hbox hb2 hg2 S1)
    | ((with_reducible refine gate_dst (N := 3) rfl ?_)
       refine box_event ?hg (N := 3) ?hd (cs := #[.int .i64 0, .int .i64 0, .slice none 0 0]) (t := 28) ?hr ?_
       (case hd => rfl)
       (case hg => rfl)
       (case hr => first | (go_simp; done) | (go_simp; rfl))
       intro g3 hg3 w3 hbox hb3
       have hgw : w2.heap.size ≤ g3 := by omega
       have Hbw := Az.mk (bset (g := g3) (j := 2) (v := .slice none 0 0) (bset (g := g3) (j := 1) (v := .int .i64 b) (bset (g := g3) (j := 0) (v := .int .i64 a) hb3 hgw) hgw) hgw)
       have S3 := Az.mk (blk_put (cs' := #[.int .i64 a, .int .i64 b, .slice none 0 0]) (blk_put (cs' := #[.int .i64 a, .int .i64 b, .slice none 0 0]) (blk_put (cs' := #[.int .i64 a, .int .i64 0, .slice none 0 0]) hbox 0 (.int .i64 a) rfl) 1 (.int .i64 b) rfl) 2 (.slice none 0 0) rfl)
       have HG3 := Az.mk (show w.heap.size ≤ g3 from by have := HB2.out.size; omega)
       have H23 := Az.mk (show g2 ≠ g3 from by have := blk_lt S2.out; omega)
       have e2 : (((w3.setCell ⟨g3, 0, none⟩ (.int .i64 a)).setCell ⟨g3, 1, none⟩ (.int .i64 b)).setCell ⟨g3, 2, none⟩ (.slice none 0 0)).cell? ⟨g1, 2, none⟩ = some (.slice A l.length c) := (blk_cell (bkB S12.out Hbw.out) 2).trans rfl
       have hcz0 := (blk_cell hbox 0).trans rfl
       have hfz0 := bkF hbox 0
       have hcz1 := (blk_cell hbox 1).trans rfl
       have hfz1 := bkF hbox 1
       have hcz2 := (blk_cell hbox 2).trans rfl
       have hfz2 := bkF hbox 2
       clear hbox hb3 hg3 hgw e0 e1))
  clear hcz0 hcz1 hcz2 hfz0 hfz1 hfz2 e2
  generalize (((w3.setCell ⟨g3, 0, none⟩ (.int .i64 a)).setCell ⟨g3, 1, none⟩ (.int .i64 b)).setCell ⟨g3, 2, none⟩ (.slice none 0 0)) = w4 at *
  have HB4 := Az.mk (bst HB2.out Hbw.out)
  have S24 := Az.mk (bkB S2.out Hbw.out)
  clear S12 S2 HB1 HB2 Hbw
  go_loopg [14] l.length (fun kq v14 wr => ∃ (i : Nat) (Ax : Option Addr) (cx : Nat), v14 = .int .i64 (i : Int) ∧ Az (i + kq = l.length) ∧ Az (Kd.R k28 28 wr w.heap.size (fun k => k ≠ g2 ∧ k ≠ g3) (.slice Ax i cx) (l.take i)) ∧ Az (wr.heap[g3]? = some (.cells #[.int .i64 a, .int .i64 b, .slice Ax i cx] 28 (0, 0))) ∧ Az (wr.heap[g2]? = some (.cells #[.int .i64 0, .int .i64 0, .slice none 0 0] 28 (0, 0))) ∧ Az (Below w.heap.size w wr))
  case atStart => exact ⟨0, none, 0, rfl, ⟨by omega⟩, ⟨Kd.R_nil _ _ _ _ _⟩, S3, S24, HB4⟩
  case round =>
    clear S3 S24 HB4
    obtain ⟨i, Ax, cx, rfl, Hi, HRx, S3, S2, HB⟩ := hrel
    by_cases hlt : i < l.length
    rotate_left
    · have hie : i = l.length := by have := Hi.out; omega
      subst hie
      have HRx' := HRx.out
      rw [List.take_length] at HRx'
      have HF := Az.mk HRx'
      have d0 : wr.cell? ⟨g3, 0, none⟩ = some (.int .i64 a) := (blk_cell S3.out 0).trans rfl
      have d1 : wr.cell? ⟨g3, 1, none⟩ = some (.int .i64 b) := (blk_cell S3.out 1).trans rfl
      have d2 : wr.cell? ⟨g3, 2, none⟩ = some (.slice Ax l.length cx) := (blk_cell S3.out 2).trans rfl
      have z0 : wr.cell? ⟨g2, 0, none⟩ = some (.int .i64 0) := (blk_cell S2.out 0).trans rfl
      have z1 : wr.cell? ⟨g2, 1, none⟩ = some (.int .i64 0) := (blk_cell S2.out 1).trans rfl
      have z2 : wr.cell? ⟨g2, 2, none⟩ = some (.slice none 0 0) := (blk_cell S2.out 2).trans rfl
      have f0 := bkF S2.out 0
      have f1 := bkF S2.out 1
      have f2 := bkF S2.out 2
      clear HRx' HRx Hi hlt
      go_wp2_with fail
      have Sz := blk_put (cs' := #[.int .i64 a, .int .i64 b, .slice Ax l.length cx]) (blk_put (cs' := #[.int .i64 a, .int .i64 b, .slice none 0 0]) (blk_put (cs' := #[.int .i64 a, .int .i64 0, .slice none 0 0]) S2.out 0 (.int .i64 a) rfl) 1 (.int .i64 b) rfl) 2 (.slice Ax l.length cx) rfl
      refine bodyPost_ret (results_cell_row rfl _ _ g2 28 #[.int .i64 a, .int .i64 b, .slice Ax l.length cx] (0, 0) _ rfl Sz Try.underlying28 rfl (by kernel_rfl)) rfl ?_
      exact ⟨_, rfl, Kd.R_mono (Kd.R_far (p := ⟨g2, 2, none⟩) (Kd.R_far (p := ⟨g2, 1, none⟩) (Kd.R_far (p := ⟨g2, 0, none⟩) HF.out (fun k hk => hk.1) (.int .i64 a)) (fun k hk => hk.1) (.int .i64 b)) (fun k hk => hk.1) (.slice Ax l.length cx)) (fun _ _ => trivial), bset (bset (bset HB.out HG2.out) HG2.out) HG2.out⟩
    cases gk with
    | zero => exact absurd Hi.out (by omega)
    | succ k1 =>
    obtain ⟨ad, A4, c4, he, hx2, hx3, hx4, hl4, hC4⟩ := at_T28 HR.out (i : Int) (by omega) (by omega)
    cases he
    replace hx2 := cell_up HB.out hx2
    replace hx3 := cell_up HB.out hx3
    replace hx4 := cell_up HB.out hx4
    rw [Int.toNat_natCast] at hx2 hx3 hx4
    have HC4 := Az.mk (Kd.C_below hC4 HB.out)
    have Hl4 := Az.mk hl4
    have HSN := Az.mk (take28_snoc hlt)
    have HSZ := Az.mk (show SizeOf.sizeOf (rd_T28 l (i : Int)).f2 < N from by have := rd_T28_mem l i hlt; have := HN.out; omega)
    have HTC := Az.mk (show tcntL (rd_T28 l (i : Int)).f2 ≤ 1000000 from by have := tcnt_child l i hlt; have := HT.out; omega)
    have Hlt := Az.mk hlt
    have q1 : (0 ≤ (i : Int)) = True := eq_true (by omega)
    have q2 : ((i : Int) < (l.length : Int)) = True := eq_true (by omega)
    have q3 : (i < l.length) = True := eq_true (by omega)
    clear hl4 hC4
    generalize rd_T28 l (i : Int) = x at *
    go_upto_region 5 with (
      (with_reducible refine gate_dst (N := 5) rfl ?_)
      refine box_event ?hg (N := 5) ?hd (cs := #[.int .i64 0, .int .i64 0, .slice none 0 0]) (t := 28) ?hr ?_
      (case hd => rfl)
      (case hg => rfl)
      (case hr => first | (go_simp; done) | (go_simp; rfl))
      intro gi hgi w6 hbox hbb
      have hgw : wr.heap.size ≤ gi := by omega
      have Hbw := Az.mk (bset (g := gi) (j := 2) (v := .slice A4 x.f2.length c4) (bset (g := gi) (j := 1) (v := .int .i64 x.f1) (bset (g := gi) (j := 0) (v := .int .i64 x.f0) hbb hgw) hgw) hgw)
      have Sgi := Az.mk (blk_put (cs' := #[.int .i64 x.f0, .int .i64 x.f1, .slice A4 x.f2.length c4]) (blk_put (cs' := #[.int .i64 x.f0, .int .i64 x.f1, .slice none 0 0]) (blk_put (cs' := #[.int .i64 x.f0, .int .i64 0, .slice none 0 0]) hbox 0 (.int .i64 x.f0) rfl) 1 (.int .i64 x.f1) rfl) 2 (.slice A4 x.f2.length c4) rfl)
      have hcz0 := (blk_cell hbox 0).trans rfl
      have hfz0 := bkF hbox 0
      have hcz1 := (blk_cell hbox 1).trans rfl
      have hfz1 := bkF hbox 1
      have hcz2 := (blk_cell hbox 2).trans rfl
      have hfz2 := bkF hbox 2
      clear hbox hbb hgi hgw)
    clear hcz0 hcz1 hcz2 hfz0 hfz1 hfz2 hx2 hx3 hx4
    generalize (((w6.setCell ⟨gi, 0, none⟩ (.int .i64 x.f0)).setCell ⟨gi, 1, none⟩ (.int .i64 x.f1)).setCell ⟨gi, 2, none⟩ (.slice A4 x.f2.length c4)) = wq at *
    have HBq := Az.mk (bst HB.out Hbw.out)
    have HRq := Az.mk (Kd.R_below HRx.out Hbw.out)
    have S3q := Az.mk (bkB S3.out Hbw.out)
    have S2q := Az.mk (bkB S2.out Hbw.out)
    have HCq := Az.mk (Kd.C_below HC4.out Hbw.out)
    have n0 : wq.cell? ⟨gi, 0, none⟩ = some (.int .i64 x.f0) := (blk_cell Sgi.out 0).trans rfl
    have n1 : wq.cell? ⟨gi, 1, none⟩ = some (.int .i64 x.f1) := (blk_cell Sgi.out 1).trans rfl
    have n2 : wq.cell? ⟨gi, 2, none⟩ = some (.slice A4 x.f2.length c4) := (blk_cell Sgi.out 2).trans rfl
    have m1 : wq.cell? ⟨g3, 2, none⟩ = some (.slice Ax i cx) := (blk_cell S3q.out 2).trans rfl
    clear HB HRx S3 S2 HC4 Hbw Sgi
    go_region_law
      (first
        | (refine Kd.R_append_step k28 (w0 := w) w.heap.size rfl (.tmp 19) (.tmp 22) 26 28 (.agg #[.int .i64 0, .int .i64 0, .slice none 0 0]) 40 rfl Try.underlying26 (by kernel_rfl) rfl (by decide) (by omega) (.slice Ax i cx) (l.take i) x [.int .i64 x.f0, .int .i64 x.f1, .slice A6 x.f2.length c6] (fun k => k ≠ g2 ∧ k ≠ g3) (fun k => wq.heap.size ≤ k) rfl rfl (k28_mkM _ _ _ x HR4.out) (fun k hk => ⟨⟨by have := blk_lt S2q.out; omega, by have := blk_lt S3q.out; omega⟩, fun e => by have := Kd.R_lt HRq.out k e.symm; omega⟩) (fun k hk => ⟨by have := blk_lt S2A.out; omega, by have := blk_lt S3A.out; omega⟩) HRA.out HBA.out HBA.out.size (by rw [List.length_take]; have := HL.out; omega) ?_
           intro v2 w7 hrf hb7 hg7 hat
           rw [HSN.out] at hrf
           obtain ⟨A5, c5, e5⟩ := Kd.R_slice hrf
           rw [List.length_take, Nat.min_eq_left (by have := Hlt.out; omega)] at e5
           subst e5
           have HR7 := Az.mk hrf
           have HB7 := Az.mk hb7
           have S37 := Az.mk (blk_grown S3A.out hg7 (Kd.R_away HRA.out (fun k hk => hk.2)))
           have S27 := Az.mk (blk_grown S2A.out hg7 (Kd.R_away HRA.out (fun k hk => hk.1)))
           have m7 : w7.cell? ⟨g3, 2, none⟩ = some (.slice Ax i cx) := (blk_cell S37.out 2).trans rfl
           have f7 := bkF S37.out 2
           clear hrf hb7 hg7 hat a1)
        | (go_simp
           go_at_call 23
           (with_reducible refine (IH.out x.f0 x.f1 x.f2 A4 c4 wq.drew HSZ.out HTC.out (Kd.C_below HCq.out (below_drew (Below.refl _ _))) Hl4.out).mono ?_)
           rintro e9 wA ⟨v4, rfl, hR4, hbA⟩
           obtain ⟨A6, c6, rfl⟩ := Kd.R_slice hR4
           have HR4 := Az.mk (Kd.R_lower (Kd.R_mono (Kd.R_bound hR4) (fun k hk => (show wq.heap.size ≤ k from hk.2.1))) (show w.heap.size ≤ wq.drew.heap.size from HBq.out.size))
           have HRA := Az.mk (Kd.R_below (Kd.R_drew HRq.out) hbA)
           have HBA := Az.mk (bst (below_drew HBq.out) hbA)
           have S3A := Az.mk (bkB (blk_drew S3q.out) hbA)
           have S2A := Az.mk (bkB (blk_drew S2q.out) hbA)
           have a1 : wA.cell? ⟨g3, 2, none⟩ = some (.slice Ax i cx) := (blk_cell S3A.out 2).trans rfl
           have a2 := cel1 a1
           clear hR4 hbA))
    all_goals (
      clear n0 n1 n2 m1 m7 f7 a2
      have HR8 := Az.mk (Kd.R_far (p := ⟨g3, 2, none⟩) HR7.out (fun k hk => hk.2) (.slice A5 (i + 1) c5))
      have S38 := Az.mk (blk_put (cs' := #[.int .i64 a, .int .i64 b, .slice A5 (i + 1) c5]) S37.out 2 (.slice A5 (i + 1) c5) rfl)
      have S28 := Az.mk (blk_far (p := ⟨g3, 2, none⟩) S27.out (fun he => H23.out he) (.slice A5 (i + 1) c5))
      have HB8 := Az.mk (bset (j := 2) (v := .slice A5 (i + 1) c5) HB7.out HG3.out)
      go_wp2_with fail
      go_roundg k1
      case measure => omega
      case rel => exact ⟨i + 1, A5, c5, by go_num, ⟨by have := Hi.out; omega⟩, HR8, S38, S28, HB8⟩)
def virgationref02_Copy.f (a b : Int) (l : List S28) : Option (Int × Int × List S28) := if tcntL l ≤ 1000000 then some (a, b, l) else none
theorem virgationref02_Copy.calls (a b : Int) (A : Option Addr) (c : Nat) (l : List S28) (r1 r2 : Int) (r3 : List S28) (w : World) (hr : Kd.C k28 w A l.length l) (hc : l.length ≤ c) (h : virgationref02_Copy.f a b l = some (r1, r2, r3)) :
    Calls Try.prog 23 #[.agg #[.int .i64 a, .int .i64 b, .slice A l.length c]] w fun e w' => ∃ v : Value, e = .returned (.agg #[.int .i64 r1, .int .i64 r2, v]) ∧ Kd.R k28 28 w' w.heap.size (fun _ => True) v r3 ∧ Below w.heap.size w w' := by
  unfold virgationref02_Copy.f at h
  split at h
  · rename_i ht
    injection h with h
    injection h with h1 h
    injection h with h2 h3
    subst h1 h2 h3
    exact tcopy_calls _ a b l A c w (Nat.lt_succ_self _) ht hr hc
  · cases h
end Go.Proofs.Ytnfgpepggehegaa.I
namespace Go.Proofs.Ytnfgpepggehegaa.I
open Go.RowKit Go.Proofs.YtnfgpepggehegaaW.PrintWords Go.Proofs.YtnfgpepggehegaaW.PrintLast Go.Proofs.YtnfgpepggehegaaW.PrintMore
attribute [local go_sem] max2_int min2_int max_two min_two max_three min_three max_four min_four   -- for this text's walks alone
set_option linter.unusedVariables false
set_option linter.unusedSimpArgs false
mutual
def virgationref02_grown.j0 : Nat → List Int → Int → Int → Int → List (S28) → Option (Int)
  | 0, _, _, _, _, _ => none
  | k + 1, x1, x5, x353000, x353001, x353002 => virgationref02_grown.l0 k x1 x5 x353002 (x353002.length : Int) 0
def virgationref02_grown.l0 : Nat → List Int → Int → List (S28) → Int → Int → Option (Int)
  | 0, _, _, _, _, _ => none
  | k + 1, x1, x5, x17, x18, x19 => if x19 < x18 then (if 0 ≤ x19 then (if x19 < (x17.length : Int) then ((virgationref02_grown.f k ((rd_T28 x17 x19).f0) ((rd_T28 x17 x19).f1) ((rd_T28 x17 x19).f2) x1).bind fun t356 => (virgationref02_grown.l0 k x1 (mn (wrap64 (x5 + t356)) 100001) x17 x18 (wrap64 (x19 + 1)))) else (none)) else (none)) else (some x5)
def virgationref02_grown.f : Nat → Int → Int → List (S28) → List Int → Option (Int)
  | 0, _, _, _, _ => none
  | k + 1, a0_0, a0_1, l0_2, l1 => if a0_0 = 0 then (if 0 ≤ a0_1 then (if a0_1 < (l1.length : Int) then (virgationref02_grown.j0 k l1 (rd l1 a0_1) a0_0 a0_1 l0_2) else (none)) else (none)) else (virgationref02_grown.j0 k l1 1 a0_0 a0_1 l0_2)
end
set_option maxHeartbeats 8000000 in
set_option maxRecDepth 100000 in
theorem virgationref02_grown.calls (k : Nat) : ∀ (a0_0 : Int) (a0_1 : Int) (A0_2 : Option Addr) (c0_2 : Nat) (l0_2 : List (S28)) (A1 : Option Addr) (c1 : Nat) (l1 : List Int) (r : Int) (w : World) (hr0_2 : Kd.C k28 w A0_2 l0_2.length l0_2) (hc0_2 : l0_2.length ≤ c0_2) (hr1 : Kd.C (Kd.int .i64) w A1 l1.length l1) (hc1 : l1.length ≤ c1) (h : virgationref02_grown.f k a0_0 a0_1 l0_2 l1 = some r),
    Calls Try.prog 83 #[.agg #[.int .i64 a0_0, .int .i64 a0_1, .slice A0_2 l0_2.length c0_2], .slice A1 l1.length c1] w fun e w' => e = .returned (.int .i64 r) ∧ Below w.heap.size w w' := by
  induction k using Nat.strongRecOn with
  | _ k ih =>
  intro a0_0 a0_1 A0_2 c0_2 l0_2 A1 c1 l1 r w hr0_2 hc0_2 hr1 hc1 h
  cases k with
  | zero => exact absurd h (by simp [virgationref02_grown.f])
  | succ k =>
  simp only [virgationref02_grown.f] at h
  have hu28 := Try.underlying28
  have HR0_2 := Az.mk hr0_2
  have HC0_2 := Az.mk hc0_2
  clear hr0_2 hc0_2
  have HR1 := Az.mk hr1
  have HC1 := Az.mk hc1
  clear hr1 hc1
  have HB := Az.mk (Below.refl w.heap.size w)
  have H : (if a0_0 = 0 then (if 0 ≤ a0_1 then (if a0_1 < (l1.length : Int) then (virgationref02_grown.j0 k l1 (rd l1 a0_1) a0_0 a0_1 l0_2) else (none)) else (none)) else (virgationref02_grown.j0 k l1 1 a0_0 a0_1 l0_2)) = some r := h
  clear h
  have HC3 := Az.mk H
  clear H
  go_enter Try.func83, Try.ntmps83
  go_upto_if 10 with (first | ((with_reducible refine gate_dst (N := 2) rfl ?_); refine box_event ?hg (N := 2) ?hd (cs := #[.int .i64 a0_0, .int .i64 a0_1, .slice A0_2 l0_2.length c0_2]) (t := 28) ?hr ?_; (case hd => rfl); (case hg => rfl); (case hr => first | (go_simp; done) | (go_simp; rfl)); intro gb352 hg w4 hbox hb; have n0_ := Az.mk (bst (by repeat (first | (with_reducible first | exact HB.out | apply bal | apply pwN | apply bd1) | exact HB.out)) hb); have n1_ := Az.mk (hbox); have n2_ := Az.mk ((by rw [hg]; exact (below_size (by repeat (first | (with_reducible first | exact HB.out | apply bal | apply pwN | apply bd1) | exact HB.out))) : w.heap.size ≤ gb352)); have n3_ := Az.mk ((by rw [hg]; exact (below_size (by repeat (first | (with_reducible first | exact HB.out | apply bal | apply pwN | apply bd1) | exact HB.out))) : w.heap.size ≤ gb352)); clear HB; have HB := n0_; have BK352 := n1_; have GW352 := n2_; have GE352 := n3_; clear n0_ n1_ n2_ n3_; clear hb hbox hg; have hcz5_0 : w4.cell? ⟨gb352, 0, none⟩ = some (.int .i64 a0_0) := (blk_cell BK352.out 0).trans rfl; have hcz5_1 : w4.cell? ⟨gb352, 1, none⟩ = some (.int .i64 a0_1) := (blk_cell BK352.out 1).trans rfl; have hcz5_2 : w4.cell? ⟨gb352, 2, none⟩ = some (.slice A0_2 l0_2.length c0_2) := (blk_cell BK352.out 2).trans rfl; have hfz5_0 := bkF BK352.out 0; have hfz5_1 := bkF BK352.out 1; have hfz5_2 := bkF BK352.out 2))
  (try simp only [Act.put, List.setIfInBounds_toArray, List.set_cons_zero, List.set_cons_succ])
  go_cut [5] (fun v5 wc => ∃ (kq : Nat) (x5_2 : Int), v5 = .int .i64 x5_2 ∧ Az (virgationref02_grown.j0 kq l1 x5_2 a0_0 a0_1 l0_2 = some r) ∧ Az (kq ≤ k) ∧ Az (wc.heap[gb352]? = some (.cells #[.int .i64 a0_0, .int .i64 a0_1, (.slice A0_2 l0_2.length c0_2)] 28 (0, 0))) ∧ Az (Below w.heap.size w wc))
  case first =>
    have H := HC3.out
    clear HC3
    by_cases c6 : a0_0 = 0
    · rw [if_pos c6] at H
      have c6b0 : (a0_0 == 0) = true := beq_iff_eq.mpr c6
      have c6b1 : (a0_0 != 0) = false := bne_eq_false_iff_eq.mpr c6
      clear c6
      (first | rw [c6b0] | (simp only [i64_w, i32_w]; rw [c6b0]) | skip)
      by_cases c7 : 0 ≤ a0_1
      · rw [if_pos c7] at H
        have c7b0 : decide (0 ≤ a0_1) = true := decide_eq_true c7
        clear c7
        by_cases c8 : a0_1 < (l1.length : Int)
        · rw [if_pos c8] at H
          have c8b0 : decide (a0_1 < (l1.length : Int)) = true := decide_eq_true c8
          clear c8
          have H' := Az.mk H
          clear H
          have hcz9_0 : w4.cell? ⟨gb352, 0, none⟩ = some (.int .i64 a0_0) := (blk_cell BK352.out 0).trans rfl
          have hcz9_1 : w4.cell? ⟨gb352, 1, none⟩ = some (.int .i64 a0_1) := (blk_cell BK352.out 1).trans rfl
          have hcz9_2 : w4.cell? ⟨gb352, 2, none⟩ = some (.slice A0_2 l0_2.length c0_2) := (blk_cell BK352.out 2).trans rfl
          have hfz9_0 := bkF BK352.out 0
          have hfz9_1 := bkF BK352.out 1
          have hfz9_2 := bkF BK352.out 2
          have p353 : 0 ≤ (a0_1 : Int) := of_decide_eq_true (by first | (with_reducible assumption) | assumption)
          have q353 : a0_1 < (l1.length : Int) := of_decide_eq_true (by first | (with_reducible assumption) | assumption)
          obtain ⟨ad353, e353, hx353_0⟩ := Kd.at_int HR1.out a0_1 p353 q353
          cases e353
          replace hx353_0 := (HB.out.cell (World.block_lt_of_cell? w _ hx353_0)).trans hx353_0
          replace p353 := eq_true p353
          replace q353 := eq_true q353
          go_wp2
          go_meet
          case rel => exact ⟨_, (rd l1 a0_1), (by first | rfl | (simp; done) | (simp [*]; done)), H', ⟨by first | omega | exact Nat.le_refl _⟩, ⟨by (with_reducible repeat (first | refine bdN ?_ _ | refine blk_drew ?_ | refine bkA ?_ _)); exact BK352.out⟩, ⟨by repeat (first | (with_reducible first | exact HB.out | apply bal | apply pwN | apply bd1 | refine bset ?_ GE352.out) | exact HB.out)⟩⟩
        · rw [if_neg c8] at H
          exact absurd H (by simp)
      · rw [if_neg c7] at H
        exact absurd H (by simp)
    · rw [if_neg c6] at H
      have c6b0 : (a0_0 == 0) = false := beq_eq_false_iff_ne.mpr c6
      have c6b1 : (a0_0 != 0) = true := bne_iff_ne.mpr c6
      (first | rw [c6b0] | (simp only [i64_w, i32_w]; rw [c6b0]) | skip)
      have H' := Az.mk H
      clear H
      go_wp2
      go_meet
      case rel => exact ⟨_, (1), (by first | rfl | (simp; done) | (simp [*]; done)), H', ⟨by first | omega | exact Nat.le_refl _⟩, ⟨by (with_reducible repeat (first | refine bdN ?_ _ | refine blk_drew ?_ | refine bkA ?_ _)); exact BK352.out⟩, ⟨by repeat (first | (with_reducible first | exact HB.out | apply bal | apply pwN | apply bd1 | refine bset ?_ GE352.out) | exact HB.out)⟩⟩
  case rest =>
    clear HC3
    try clear c1
    try clear p2
    try clear p3
    try clear q3
    try clear hx3
    try clear c6
    try clear c6b0
    try clear c6b1
    try clear c7
    try clear c7b0
    try clear c8
    try clear c8b0
    try clear hcz5_0
    try clear hcz5_1
    try clear hcz5_2
    try clear hcz9_0
    try clear hcz9_1
    try clear hcz9_2
    try clear hfz5_0
    try clear hfz5_1
    try clear hfz5_2
    try clear hfz9_0
    try clear hfz9_1
    try clear hfz9_2
    try clear hx353_0
    try clear p353
    try clear q353
    obtain ⟨kq, x5_2, rfl, HA, HJ2, BK352, HB⟩ := hcut
    cases kq with
    | zero => exact absurd HA.out (by simp [virgationref02_grown.j0])
    | succ kj2 =>
      have H := HA.out
      clear HA
      simp only [virgationref02_grown.j0] at H
      have H' := Az.mk H
      clear H
      have hcz10_0 : wc.cell? ⟨gb352, 0, none⟩ = some (.int .i64 a0_0) := (blk_cell BK352.out 0).trans rfl
      have hcz10_1 : wc.cell? ⟨gb352, 1, none⟩ = some (.int .i64 a0_1) := (blk_cell BK352.out 1).trans rfl
      have hcz10_2 : wc.cell? ⟨gb352, 2, none⟩ = some (.slice A0_2 l0_2.length c0_2) := (blk_cell BK352.out 2).trans rfl
      have hfz10_0 := bkF BK352.out 0
      have hfz10_1 := bkF BK352.out 1
      have hfz10_2 := bkF BK352.out 2
      go_wp2
      go_loopg [5, 19] kj2 (fun kq v5 v19 w' => ∃ (x5_2 : Int) (x19_2 : Int), v5 = .int .i64 x5_2 ∧ v19 = .int .i64 x19_2 ∧ Az (virgationref02_grown.l0 kq l1 x5_2 l0_2 (l0_2.length : Int) x19_2 = some r) ∧ Az (kq ≤ kj2) ∧ Az (w'.heap[gb352]? = some (.cells #[.int .i64 a0_0, .int .i64 a0_1, (.slice A0_2 l0_2.length c0_2)] 28 (0, 0))) ∧ Az (Below w.heap.size w w'))
      case atStart => exact ⟨(x5_2), (0), (by first | rfl | (simp; done) | (simp [*]; done)), (by first | rfl | (simp; done) | (simp [*]; done)), H', ⟨Nat.le_refl _⟩, ⟨by (with_reducible repeat (first | refine bdN ?_ _ | refine blk_drew ?_ | refine bkA ?_ _)); exact BK352.out⟩, ⟨by repeat (first | (with_reducible first | exact HB.out | apply bal | apply pwN | apply bd1 | refine bset ?_ GE352.out) | exact HB.out)⟩⟩
      case round =>
        clear H'
        try clear c1
        try clear p2
        try clear p3
        try clear q3
        try clear hx3
        try clear c6
        try clear c6b0
        try clear c6b1
        try clear c7
        try clear c7b0
        try clear c8
        try clear c8b0
        try clear hcz10_0
        try clear hcz10_1
        try clear hcz10_2
        try clear hcz5_0
        try clear hcz5_1
        try clear hcz5_2
        try clear hcz9_0
        try clear hcz9_1
        try clear hcz9_2
        try clear hfz10_0
        try clear hfz10_1
        try clear hfz10_2
        try clear hfz5_0
        try clear hfz5_1
        try clear hfz5_2
        try clear hfz9_0
        try clear hfz9_1
        try clear hfz9_2
        try clear hx353_0
        try clear p2
        try clear p3
        try clear p353
        try clear q3
        try clear q353
        obtain ⟨x5_2, x19_2, rfl, rfl, HA, HK2, BK352, HB⟩ := hrel
        cases gk with
        | zero => exact absurd HA.out (by simp [virgationref02_grown.l0])
        | succ k2 =>
          have H := HA.out
          clear HA
          simp only [virgationref02_grown.l0] at H
          by_cases c11 : x19_2 < (l0_2.length : Int)
          · rw [if_pos c11] at H
            have c11b0 : decide (x19_2 < (l0_2.length : Int)) = true := decide_eq_true c11
            clear c11
            by_cases c12 : 0 ≤ x19_2
            · rw [if_pos c12] at H
              have c12b0 : decide (0 ≤ x19_2) = true := decide_eq_true c12
              clear c12
              by_cases c13 : x19_2 < (l0_2.length : Int)
              · rw [if_pos c13] at H
                have c13b0 : decide (x19_2 < (l0_2.length : Int)) = true := decide_eq_true c13
                clear c13
                replace H := Option.bind_eq_some_iff.mp H
                obtain ⟨t356, A140, H⟩ := H
                replace H : (virgationref02_grown.l0 k2 l1 (mn (wrap64 (x5_2 + t356)) 100001) l0_2 (l0_2.length : Int) (wrap64 (x19_2 + 1))) = some r := H
                have A14 := Az.mk A140
                clear A140
                obtain ⟨ji15, hji15⟩ : ∃ j_ : Int, (mn (wrap64 (x5_2 + t356)) 100001) = j_ := ⟨_, rfl⟩
                replace H : (virgationref02_grown.l0 k2 l1 ji15 l0_2 (l0_2.length : Int) (wrap64 (x19_2 + 1))) = some r := by first | (rw [hji15] at H; exact H) | (simp only [hji15] at H ⊢; exact H)
                (try rw [hji15] at A14)
                have hji15_ : (if 100001 < (wrap64 (x5_2 + t356)) then 100001 else (wrap64 (x5_2 + t356))) = ji15 := hji15
                have H' := Az.mk H
                clear H
                have p354 : 0 ≤ (x19_2 : Int) := of_decide_eq_true (by first | (with_reducible assumption) | assumption)
                have q354 : x19_2 < (l0_2.length : Int) := of_decide_eq_true (by first | (with_reducible assumption) | assumption)
                obtain ⟨ad354, A354_2, c354_2, e354, hx354_0, hx354_1, hx354_2, hl354_2, hi354_2⟩ := at_T28 HR0_2.out x19_2 p354 q354
                cases e354
                replace hx354_0 := (HB.out.cell (World.block_lt_of_cell? w _ hx354_0)).trans hx354_0
                replace hx354_1 := (HB.out.cell (World.block_lt_of_cell? w _ hx354_1)).trans hx354_1
                replace hx354_2 := (HB.out.cell (World.block_lt_of_cell? w _ hx354_2)).trans hx354_2
                have HR354_2 := Az.mk hi354_2
                have HC354_2 := Az.mk hl354_2
                clear hi354_2 hl354_2
                replace p354 := eq_true p354
                replace q354 := eq_true q354
                go_wp2_with (first | ((with_reducible refine gate_dst (N := 7) rfl ?_); refine box_event ?hg (N := 7) ?hd (cs := #[.int .i64 0, .int .i64 0, .slice none 0 0]) (t := 28) ?hr ?_; (case hd => rfl); (case hg => rfl); (case hr => first | (go_simp; done) | (go_simp; rfl)); intro gb355 hg w16 hbox hb; have n0_ := Az.mk (bkB (g := gb352) (o := .cells #[.int .i64 a0_0, .int .i64 a0_1, .slice (some ad354) l0_2.length c0_2] 28 (0, 0)) (by (with_reducible repeat (first | refine bdN ?_ _ | refine blk_drew ?_ | refine bkA ?_ _)); exact BK352.out) hb); have n1_ := Az.mk (bst (by repeat (first | (with_reducible first | exact HB.out | apply bal | apply pwN | apply bd1 | refine bset ?_ GE352.out) | exact HB.out)) hb); have n2_ := Az.mk (hbox); have n3_ := Az.mk ((by rw [hg]; exact (below_size (by repeat (first | (with_reducible first | exact HB.out | apply bal | apply pwN | apply bd1 | refine bset ?_ GE352.out) | exact HB.out))) : w.heap.size ≤ gb355)); have n4_ := Az.mk ((by rw [hg]; exact (below_size (by repeat (first | (with_reducible first | exact HB.out | apply bal | apply pwN | apply bd1 | refine bset ?_ GE352.out) | exact HB.out))) : w.heap.size ≤ gb355)); have n5_ := Az.mk ((by rw [hg]; exact Nat.ne_of_lt (blk_lt (g := gb352) (o := .cells #[.int .i64 a0_0, .int .i64 a0_1, .slice (some ad354) l0_2.length c0_2] 28 (0, 0)) (by (with_reducible repeat (first | refine bdN ?_ _ | refine blk_drew ?_ | refine bkA ?_ _)); exact BK352.out)) : gb352 ≠ gb355)); have n6_ := Az.mk ((by rw [hg]; exact Nat.ne_of_gt (blk_lt (g := gb352) (o := .cells #[.int .i64 a0_0, .int .i64 a0_1, .slice (some ad354) l0_2.length c0_2] 28 (0, 0)) (by (with_reducible repeat (first | refine bdN ?_ _ | refine blk_drew ?_ | refine bkA ?_ _)); exact BK352.out)) : gb355 ≠ gb352)); clear BK352; clear HB; have BK352 := n0_; have HB := n1_; have BK355 := n2_; have GW355 := n3_; have GE355 := n4_; have NB352_355 := n5_; have NB355_352 := n6_; clear n0_ n1_ n2_ n3_ n4_ n5_ n6_; clear hb hbox hg; have hnb17 := NB355_352.out; have hnc17 := NB352_355.out; have hcz18_0 : w16.cell? ⟨gb355, 0, none⟩ = some (.int .i64 0) := (blk_cell BK355.out 0).trans rfl; have hcz18_1 : w16.cell? ⟨gb355, 1, none⟩ = some (.int .i64 0) := (blk_cell BK355.out 1).trans rfl; have hcz18_2 : w16.cell? ⟨gb355, 2, none⟩ = some (.slice none 0 0) := (blk_cell BK355.out 2).trans rfl; have hfz18_0 := bkF BK355.out 0; have hfz18_1 := bkF BK355.out 1; have hfz18_2 := bkF BK355.out 2) | ((with_reducible refine gate_callee (f := 83) rfl ?_); refine goesL_ (some 26) rfl rfl Try.func83 (by kernel_rfl) rfl #[.agg #[.int .i64 ((rd_T28 l0_2 x19_2).f0), .int .i64 ((rd_T28 l0_2 x19_2).f1), .slice A354_2 ((rd_T28 l0_2 x19_2).f2).length c354_2], .slice A1 l1.length c1] rfl (by (try simp only [List.map_toArray, List.map_cons, List.map_nil]); first | done | rfl | (simp only [List.length_drop, List.length_take]; rfl)) ?_; (with_reducible refine (ih k2 (by have := HJ2.out; have := HK2.out; omega) ((rd_T28 l0_2 x19_2).f0) ((rd_T28 l0_2 x19_2).f1) _ _ ((rd_T28 l0_2 x19_2).f2) _ _ l1 t356 _ ?side1 ?side2 ?side3 ?side4 A14.out).mono ?_); (case side1 => exact Kd.C_below HR354_2.out (by repeat (first | (with_reducible first | exact HB.out | apply bal | apply pwN | apply bd1 | refine bset ?_ GE352.out | refine bset ?_ GE355.out) | exact HB.out))); (case side2 => exact HC354_2.out); (case side3 => exact Kd.C_below HR1.out (by repeat (first | (with_reducible first | exact HB.out | apply bal | apply pwN | apply bd1 | refine bset ?_ GE352.out | refine bset ?_ GE355.out) | exact HB.out))); (case side4 => exact HC1.out); rintro e w19 ⟨rfl, hb⟩; refine ⟨_, rfl, ?_⟩; have n0_ := Az.mk (bkB (g := gb352) (o := .cells #[.int .i64 a0_0, .int .i64 a0_1, .slice (some ad354) l0_2.length c0_2] 28 (0, 0)) (by (with_reducible repeat (first | refine bdN ?_ _ | refine blk_drew ?_ | refine bkA ?_ _)); refine blk_far ?_ NB352_355.out _; (with_reducible repeat (first | refine bdN ?_ _ | refine blk_drew ?_ | refine bkA ?_ _)); refine blk_far ?_ NB352_355.out _; (with_reducible repeat (first | refine bdN ?_ _ | refine blk_drew ?_ | refine bkA ?_ _)); refine blk_far ?_ NB352_355.out _; (with_reducible repeat (first | refine bdN ?_ _ | refine blk_drew ?_ | refine bkA ?_ _)); exact BK352.out) hb); have n1_ := Az.mk (bkB (g := gb355) (o := .cells #[.int .i64 ((rd_T28 l0_2 x19_2).f0), .int .i64 ((rd_T28 l0_2 x19_2).f1), .slice A354_2 ((rd_T28 l0_2 x19_2).f2).length c354_2] 28 (0, 0)) (by (with_reducible repeat (first | refine bdN ?_ _ | refine blk_drew ?_ | refine bkA ?_ _)); refine blk_put (cs := #[.int .i64 ((rd_T28 l0_2 x19_2).f0), .int .i64 ((rd_T28 l0_2 x19_2).f1), .slice none 0 0]) ?_ 2 _ rfl; (with_reducible repeat (first | refine bdN ?_ _ | refine blk_drew ?_ | refine bkA ?_ _)); refine blk_put (cs := #[.int .i64 ((rd_T28 l0_2 x19_2).f0), .int .i64 0, .slice none 0 0]) ?_ 1 _ rfl; (with_reducible repeat (first | refine bdN ?_ _ | refine blk_drew ?_ | refine bkA ?_ _)); refine blk_put (cs := #[.int .i64 0, .int .i64 0, .slice none 0 0]) ?_ 0 _ rfl; (with_reducible repeat (first | refine bdN ?_ _ | refine blk_drew ?_ | refine bkA ?_ _)); exact BK355.out) hb); have n2_ := Az.mk (bst (by repeat (first | (with_reducible first | exact HB.out | apply bal | apply pwN | apply bd1 | refine bset ?_ GE352.out | refine bset ?_ GE355.out) | exact HB.out)) hb); clear BK352; clear BK355; clear HB; have BK352 := n0_; have BK355 := n1_; have HB := n2_; clear n0_ n1_ n2_; (try clear hb); (try clear hb2); (try clear hk); (try clear hi)))
                go_roundg k2
                case measure => have := HJ2.out; have := HK2.out; omega
                case rel => exact ⟨(ji15), (wrap64 (x19_2 + 1)), (by first | rfl | (simp; done) | (simp only [← hji15] <;> (first | rfl | simp)) | (simp [*]; done)), (by first | rfl | (simp; done) | (simp [*]; done)), H', ⟨by have := HJ2.out; have := HK2.out; omega⟩, ⟨by (with_reducible repeat (first | refine bdN ?_ _ | refine blk_drew ?_ | refine bkA ?_ _)); exact BK352.out⟩, ⟨by repeat (first | (with_reducible first | exact HB.out | apply bal | apply pwN | apply bd1 | refine bset ?_ GE352.out | refine bset ?_ GE355.out) | exact HB.out)⟩⟩
              · rw [if_neg c13] at H
                exact absurd H (by simp)
            · rw [if_neg c12] at H
              exact absurd H (by simp)
          · rw [if_neg c11] at H
            have c11b0 : decide (x19_2 < (l0_2.length : Int)) = false := decide_eq_false c11
            clear c11
            obtain rfl := Option.some.inj H
            go_wp2
            go_ret
            exact ⟨by first | rfl | (simp [errW_none, errW_some] <;> rfl) | (simp [*, errW_none, errW_some] <;> rfl), by repeat (first | (with_reducible first | exact HB.out | apply bal | apply pwN | apply bd1 | refine bset ?_ GE352.out) | exact HB.out)⟩
mutual
def virgationref02_Replace.j0 : Nat → List (S28) → Int → Int → List (S28) → Int → Int → List (S28) → Option (Int × Int × (List (S28)))
  | 0, _, _, _, _, _, _, _ => none
  | k + 1, x1, x358000, x358001, x358002, x360000, x360001, x360002 => virgationref02_Replace.l0 k x1 x358002 (x358002.length : Int) 0 x360000 x360001 x360002
def virgationref02_Replace.l0 : Nat → List (S28) → List (S28) → Int → Int → Int → Int → List (S28) → Option (Int × Int × (List (S28)))
  | 0, _, _, _, _, _, _, _ => none
  | k + 1, x1, x23, x24, x25, x360000, x360001, x360002 => if x25 < x24 then (if 0 ≤ x25 then (if x25 < (x23.length : Int) then ((virgationref02_Replace.f k ((rd_T28 x23 x25).f0) ((rd_T28 x23 x25).f1) ((rd_T28 x23 x25).f2) x1).bind fun bt368 => (if x360002.length < 3518437208883 then (virgationref02_Replace.l0 k x1 x23 x24 (wrap64 (x25 + 1)) x360000 x360001 (x360002 ++ [(⟨bt368.1, bt368.2.1, bt368.2.2⟩ : S28)])) else (none))) else (none)) else (none)) else (some (x360000, x360001, x360002))
def virgationref02_Replace.f : Nat → Int → Int → List (S28) → List (S28) → Option (Int × Int × (List (S28)))
  | 0, _, _, _, _ => none
  | k + 1, a0_0, a0_1, l0_2, l1 => if a0_0 = 0 then (if 0 ≤ a0_1 then (if a0_1 < (l1.length : Int) then ((virgationref02_Copy.f ((rd_T28 l1 a0_1).f0) ((rd_T28 l1 a0_1).f1) ((rd_T28 l1 a0_1).f2)).bind fun bt361 => (virgationref02_Replace.j0 k l1 a0_0 a0_1 l0_2 bt361.1 bt361.2.1 bt361.2.2)) else (none)) else (none)) else (virgationref02_Replace.j0 k l1 a0_0 a0_1 l0_2 a0_0 a0_1 ([] : List (S28)))
end
def virgationref02_Replace.T7 : Bool × List (List Nat × List Nat) := (true, [([], []), ([0], [0]), ([], []), ([], []), ([2, 3], [2, 3]), ([4], [4]), ([1, 5, 4], [1, 5]), ([0, 1, 2, 3, 4, 5, 6], []), ([7, 6, 6, 0, 1, 2, 3, 4, 5, 6], [6, 7])])
def virgationref02_Replace.B7 : List Nat := [0, 1, 0, 0, 12, 28, 63, 127, 255]
theorem virgationref02_Replace.tab7 : rtab .any (opsOf Try.f84 7) = virgationref02_Replace.T7 := by kernel_rfl
theorem virgationref02_Replace.bits7 : waitsOk virgationref02_Replace.T7.2 virgationref02_Replace.B7 = true := by kernel_rfl
set_option maxHeartbeats 8000000 in
set_option maxRecDepth 100000 in
theorem virgationref02_Replace.calls (k : Nat) : ∀ (a0_0 : Int) (a0_1 : Int) (A0_2 : Option Addr) (c0_2 : Nat) (l0_2 : List (S28)) (A1 : Option Addr) (c1 : Nat) (l1 : List (S28)) (r1 : Int) (r2 : Int) (r3 : List (S28)) (w : World) (hr0_2 : Kd.C k28 w A0_2 l0_2.length l0_2) (hc0_2 : l0_2.length ≤ c0_2) (hr1 : Kd.C k28 w A1 l1.length l1) (hc1 : l1.length ≤ c1) (h : virgationref02_Replace.f k a0_0 a0_1 l0_2 l1 = some (r1, r2, r3)),
    Calls Try.prog 84 #[.agg #[.int .i64 a0_0, .int .i64 a0_1, .slice A0_2 l0_2.length c0_2], .slice A1 l1.length c1] w fun e w' => ∃ v2_ : Value, e = .returned (.agg #[.int .i64 r1, .int .i64 r2, v2_]) ∧ Kd.R k28 28 w' w.heap.size (fun _ => True) v2_ r3 ∧ Below w.heap.size w w' := by
  induction k using Nat.strongRecOn with
  | _ k ih =>
  intro a0_0 a0_1 A0_2 c0_2 l0_2 A1 c1 l1 r1 r2 r3 w hr0_2 hc0_2 hr1 hc1 h
  cases k with
  | zero => exact absurd h (by simp [virgationref02_Replace.f])
  | succ k =>
  simp only [virgationref02_Replace.f] at h
  have hu28 := Try.underlying28
  have HR0_2 := Az.mk hr0_2
  have HC0_2 := Az.mk hc0_2
  clear hr0_2 hc0_2
  have HR1 := Az.mk hr1
  have HC1 := Az.mk hc1
  clear hr1 hc1
  have HB := Az.mk (Below.refl w.heap.size w)
  have H : (if a0_0 = 0 then (if 0 ≤ a0_1 then (if a0_1 < (l1.length : Int) then ((virgationref02_Copy.f ((rd_T28 l1 a0_1).f0) ((rd_T28 l1 a0_1).f1) ((rd_T28 l1 a0_1).f2)).bind fun bt361 => (virgationref02_Replace.j0 k l1 a0_0 a0_1 l0_2 bt361.1 bt361.2.1 bt361.2.2)) else (none)) else (none)) else (virgationref02_Replace.j0 k l1 a0_0 a0_1 l0_2 a0_0 a0_1 ([] : List (S28)))) = some (r1, r2, r3) := h
  clear h
  have HC3 := Az.mk H
  clear H
  go_enter Try.func84, Try.ntmps84
  go_upto_if 15 with (first | ((with_reducible refine gate_dst (N := 2) rfl ?_); refine box_event ?hg (N := 2) ?hd (cs := #[.int .i64 a0_0, .int .i64 a0_1, .slice A0_2 l0_2.length c0_2]) (t := 28) ?hr ?_; (case hd => rfl); (case hg => rfl); (case hr => first | (go_simp; done) | (go_simp; rfl)); intro gb357 hg w4 hbox hb; have n0_ := Az.mk (bst (by repeat (first | (with_reducible first | exact HB.out | apply bal | apply pwN | apply bd1) | exact HB.out)) hb); have n1_ := Az.mk (hbox); have n2_ := Az.mk ((by rw [hg]; exact (below_size (by repeat (first | (with_reducible first | exact HB.out | apply bal | apply pwN | apply bd1) | exact HB.out))) : w.heap.size ≤ gb357)); have n3_ := Az.mk ((by rw [hg]; exact (below_size (by repeat (first | (with_reducible first | exact HB.out | apply bal | apply pwN | apply bd1) | exact HB.out))) : w.heap.size ≤ gb357)); clear HB; have HB := n0_; have BK357 := n1_; have GW357 := n2_; have GE357 := n3_; clear n0_ n1_ n2_ n3_; clear hb hbox hg) | ((with_reducible refine gate_dst (N := 4) rfl ?_); refine box_event ?hg (N := 4) ?hd (cs := #[.int .i64 0, .int .i64 0, .slice none 0 0]) (t := 28) ?hr ?_; (case hd => rfl); (case hg => rfl); (case hr => first | (go_simp; done) | (go_simp; rfl)); intro gb358 hg w5 hbox hb; have n0_ := Az.mk (bkB (g := gb357) (o := .cells #[.int .i64 a0_0, .int .i64 a0_1, .slice A0_2 l0_2.length c0_2] 28 (0, 0)) (by (with_reducible repeat (first | refine bdN ?_ _ | refine blk_drew ?_ | refine bkA ?_ _)); exact BK357.out) hb); have n1_ := Az.mk (bst (by repeat (first | (with_reducible first | exact HB.out | apply bal | apply pwN | apply bd1 | refine bset ?_ GE357.out) | exact HB.out)) hb); have n2_ := Az.mk (hbox); have n3_ := Az.mk ((by rw [hg]; exact (below_size (by repeat (first | (with_reducible first | exact HB.out | apply bal | apply pwN | apply bd1 | refine bset ?_ GE357.out) | exact HB.out))) : w.heap.size ≤ gb358)); have n4_ := Az.mk ((by rw [hg]; exact (below_size (by repeat (first | (with_reducible first | exact HB.out | apply bal | apply pwN | apply bd1 | refine bset ?_ GE357.out) | exact HB.out))) : w.heap.size ≤ gb358)); have n5_ := Az.mk ((by rw [hg]; exact Nat.ne_of_lt (blk_lt (g := gb357) (o := .cells #[.int .i64 a0_0, .int .i64 a0_1, .slice A0_2 l0_2.length c0_2] 28 (0, 0)) (by (with_reducible repeat (first | refine bdN ?_ _ | refine blk_drew ?_ | refine bkA ?_ _)); exact BK357.out)) : gb357 ≠ gb358)); have n6_ := Az.mk ((by rw [hg]; exact Nat.ne_of_gt (blk_lt (g := gb357) (o := .cells #[.int .i64 a0_0, .int .i64 a0_1, .slice A0_2 l0_2.length c0_2] 28 (0, 0)) (by (with_reducible repeat (first | refine bdN ?_ _ | refine blk_drew ?_ | refine bkA ?_ _)); exact BK357.out)) : gb358 ≠ gb357)); clear BK357; clear HB; have BK357 := n0_; have HB := n1_; have BK358 := n2_; have GW358 := n3_; have GE358 := n4_; have NB357_358 := n5_; have NB358_357 := n6_; clear n0_ n1_ n2_ n3_ n4_ n5_ n6_; clear hb hbox hg; have hnb6 := NB357_358.out; have hnc6 := NB358_357.out; have hcz7_0 : w5.cell? ⟨gb357, 0, none⟩ = some (.int .i64 a0_0) := (blk_cell BK357.out 0).trans rfl; have hcz7_1 : w5.cell? ⟨gb357, 1, none⟩ = some (.int .i64 a0_1) := (blk_cell BK357.out 1).trans rfl; have hcz7_2 : w5.cell? ⟨gb357, 2, none⟩ = some (.slice A0_2 l0_2.length c0_2) := (blk_cell BK357.out 2).trans rfl; have hfz7_0 := bkF BK357.out 0; have hfz7_1 := bkF BK357.out 1; have hfz7_2 := bkF BK357.out 2) | ((with_reducible refine gate_dst (N := 5) rfl ?_); refine box_event ?hg (N := 5) ?hd (cs := #[.int .i64 0, .int .i64 0, .slice none 0 0]) (t := 28) ?hr ?_; (case hd => rfl); (case hg => rfl); (case hr => first | (go_simp; done) | (go_simp; rfl)); intro gb359 hg w8 hbox hb; have n0_ := Az.mk (bkB (g := gb357) (o := .cells #[.int .i64 a0_0, .int .i64 a0_1, .slice A0_2 l0_2.length c0_2] 28 (0, 0)) (by (with_reducible repeat (first | refine bdN ?_ _ | refine blk_drew ?_ | refine bkA ?_ _)); exact BK357.out) hb); have n1_ := Az.mk (bkB (g := gb358) (o := .cells #[.int .i64 0, .int .i64 0, .slice none 0 0] 28 (0, 0)) (by (with_reducible repeat (first | refine bdN ?_ _ | refine blk_drew ?_ | refine bkA ?_ _)); exact BK358.out) hb); have n2_ := Az.mk (bst (by repeat (first | (with_reducible first | exact HB.out | apply bal | apply pwN | apply bd1 | refine bset ?_ GE357.out | refine bset ?_ GE358.out) | exact HB.out)) hb); have n3_ := Az.mk (hbox); have n4_ := Az.mk ((by rw [hg]; exact (below_size (by repeat (first | (with_reducible first | exact HB.out | apply bal | apply pwN | apply bd1 | refine bset ?_ GE357.out | refine bset ?_ GE358.out) | exact HB.out))) : w.heap.size ≤ gb359)); have n5_ := Az.mk ((by rw [hg]; exact (below_size (by repeat (first | (with_reducible first | exact HB.out | apply bal | apply pwN | apply bd1 | refine bset ?_ GE357.out | refine bset ?_ GE358.out) | exact HB.out))) : w.heap.size ≤ gb359)); have n6_ := Az.mk ((by rw [hg]; exact Nat.ne_of_lt (blk_lt (g := gb357) (o := .cells #[.int .i64 a0_0, .int .i64 a0_1, .slice A0_2 l0_2.length c0_2] 28 (0, 0)) (by (with_reducible repeat (first | refine bdN ?_ _ | refine blk_drew ?_ | refine bkA ?_ _)); exact BK357.out)) : gb357 ≠ gb359)); have n7_ := Az.mk ((by rw [hg]; exact Nat.ne_of_gt (blk_lt (g := gb357) (o := .cells #[.int .i64 a0_0, .int .i64 a0_1, .slice A0_2 l0_2.length c0_2] 28 (0, 0)) (by (with_reducible repeat (first | refine bdN ?_ _ | refine blk_drew ?_ | refine bkA ?_ _)); exact BK357.out)) : gb359 ≠ gb357)); have n8_ := Az.mk ((by rw [hg]; exact Nat.ne_of_lt (blk_lt (g := gb358) (o := .cells #[.int .i64 0, .int .i64 0, .slice none 0 0] 28 (0, 0)) (by (with_reducible repeat (first | refine bdN ?_ _ | refine blk_drew ?_ | refine bkA ?_ _)); exact BK358.out)) : gb358 ≠ gb359)); have n9_ := Az.mk ((by rw [hg]; exact Nat.ne_of_gt (blk_lt (g := gb358) (o := .cells #[.int .i64 0, .int .i64 0, .slice none 0 0] 28 (0, 0)) (by (with_reducible repeat (first | refine bdN ?_ _ | refine blk_drew ?_ | refine bkA ?_ _)); exact BK358.out)) : gb359 ≠ gb358)); clear BK357; clear BK358; clear HB; have BK357 := n0_; have BK358 := n1_; have HB := n2_; have BK359 := n3_; have GW359 := n4_; have GE359 := n5_; have NB357_359 := n6_; have NB359_357 := n7_; have NB358_359 := n8_; have NB359_358 := n9_; clear n0_ n1_ n2_ n3_ n4_ n5_ n6_ n7_ n8_ n9_; clear hb hbox hg; have hnb9 := NB359_357.out; have hnc9 := NB357_359.out; have hnb10 := NB359_358.out; have hnc10 := NB358_359.out; have hcz11_0 : w8.cell? ⟨gb359, 0, none⟩ = some (.int .i64 0) := (blk_cell BK359.out 0).trans rfl; have hcz11_1 : w8.cell? ⟨gb359, 1, none⟩ = some (.int .i64 0) := (blk_cell BK359.out 1).trans rfl; have hcz11_2 : w8.cell? ⟨gb359, 2, none⟩ = some (.slice none 0 0) := (blk_cell BK359.out 2).trans rfl; have hfz11_0 := bkF BK359.out 0; have hfz11_1 := bkF BK359.out 1; have hfz11_2 := bkF BK359.out 2; have hcz12_0 : w8.cell? ⟨gb357, 0, none⟩ = some (.int .i64 a0_0) := (blk_cell BK357.out 0).trans rfl; have hcz12_1 : w8.cell? ⟨gb357, 1, none⟩ = some (.int .i64 a0_1) := (blk_cell BK357.out 1).trans rfl; have hcz12_2 : w8.cell? ⟨gb357, 2, none⟩ = some (.slice A0_2 l0_2.length c0_2) := (blk_cell BK357.out 2).trans rfl; have hfz12_0 := bkF BK357.out 0; have hfz12_1 := bkF BK357.out 1; have hfz12_2 := bkF BK357.out 2))
  (try simp only [Act.put, List.setIfInBounds_toArray, List.set_cons_zero, List.set_cons_succ])
  go_cut [] (fun wc => ∃ (kq : Nat) (x360000_2 : Int) (x360001_2 : Int) (x360002_2 : List (S28)) (u360002 : Value), Az (virgationref02_Replace.j0 kq l1 a0_0 a0_1 l0_2 x360000_2 x360001_2 x360002_2 = some (r1, r2, r3)) ∧ Az (kq ≤ k) ∧ Az (Kd.R k28 28 wc w.heap.size (fun k_ => k_ ≠ gb357 ∧ k_ ≠ gb358 ∧ k_ ≠ gb359) u360002 x360002_2) ∧ Az (wc.heap[gb357]? = some (.cells #[.int .i64 a0_0, .int .i64 a0_1, (.slice A0_2 l0_2.length c0_2)] 28 (0, 0))) ∧ Az (wc.heap[gb358]? = some (.cells #[.int .i64 0, .int .i64 0, (.slice none 0 0)] 28 (0, 0))) ∧ Az (wc.heap[gb359]? = some (.cells #[.int .i64 x360000_2, .int .i64 x360001_2, u360002] 28 (0, 0))) ∧ Az (Below w.heap.size w wc))
  case first =>
    have H := HC3.out
    clear HC3
    by_cases c13 : a0_0 = 0
    · rw [if_pos c13] at H
      have c13b0 : (a0_0 == 0) = true := beq_iff_eq.mpr c13
      have c13b1 : (a0_0 != 0) = false := bne_eq_false_iff_eq.mpr c13
      clear c13
      (first | rw [c13b0] | (simp only [i64_w, i32_w]; rw [c13b0]) | skip)
      by_cases c14 : 0 ≤ a0_1
      · rw [if_pos c14] at H
        have c14b0 : decide (0 ≤ a0_1) = true := decide_eq_true c14
        clear c14
        by_cases c15 : a0_1 < (l1.length : Int)
        · rw [if_pos c15] at H
          have c15b0 : decide (a0_1 < (l1.length : Int)) = true := decide_eq_true c15
          clear c15
          replace H := Option.bind_eq_some_iff.mp H
          obtain ⟨⟨t361, t362, t363⟩, A160, H⟩ := H
          replace H : (virgationref02_Replace.j0 k l1 a0_0 a0_1 l0_2 t361 t362 t363) = some (r1, r2, r3) := H
          have A16 := Az.mk A160
          clear A160
          have H' := Az.mk H
          clear H
          have hnb17 := NB357_358.out
          have hnc17 := NB358_357.out
          have hnb18 := NB357_359.out
          have hnc18 := NB359_357.out
          have hcz19_0 : w8.cell? ⟨gb357, 0, none⟩ = some (.int .i64 a0_0) := (blk_cell BK357.out 0).trans rfl
          have hcz19_1 : w8.cell? ⟨gb357, 1, none⟩ = some (.int .i64 a0_1) := (blk_cell BK357.out 1).trans rfl
          have hcz19_2 : w8.cell? ⟨gb357, 2, none⟩ = some (.slice A0_2 l0_2.length c0_2) := (blk_cell BK357.out 2).trans rfl
          have hfz19_0 := bkF BK357.out 0
          have hfz19_1 := bkF BK357.out 1
          have hfz19_2 := bkF BK357.out 2
          have p360 : 0 ≤ (a0_1 : Int) := of_decide_eq_true (by first | (with_reducible assumption) | assumption)
          have q360 : a0_1 < (l1.length : Int) := of_decide_eq_true (by first | (with_reducible assumption) | assumption)
          obtain ⟨ad360, A360_2, c360_2, e360, hx360_0, hx360_1, hx360_2, hl360_2, hi360_2⟩ := at_T28 HR1.out a0_1 p360 q360
          cases e360
          have hn360_0 : ad360.block ≠ gb359 := Nat.ne_of_lt (Nat.lt_of_lt_of_le (by have := World.block_lt_of_cell? _ _ hx360_0; first | rwa [add_block] at this | exact this) GW359.out)
          have hn360_1 : ad360.block ≠ gb359 := Nat.ne_of_lt (Nat.lt_of_lt_of_le (by have := World.block_lt_of_cell? _ _ hx360_0; first | rwa [add_block] at this | exact this) GW359.out)
          have hn360_2 : ad360.block ≠ gb359 := Nat.ne_of_lt (Nat.lt_of_lt_of_le (by have := World.block_lt_of_cell? _ _ hx360_0; first | rwa [add_block] at this | exact this) GW359.out)
          replace hx360_0 := (HB.out.cell (World.block_lt_of_cell? w _ hx360_0)).trans hx360_0
          replace hx360_1 := (HB.out.cell (World.block_lt_of_cell? w _ hx360_1)).trans hx360_1
          replace hx360_2 := (HB.out.cell (World.block_lt_of_cell? w _ hx360_2)).trans hx360_2
          have HR360_2 := Az.mk hi360_2
          have HC360_2 := Az.mk hl360_2
          clear hi360_2 hl360_2
          replace hx360_0 := (cell_far (p := ⟨gb359, 0, none⟩) (by first | (rw [add_block]; exact hn360_0) | (show (Addr.add _ _).block ≠ _; rw [add_block]; exact hn360_0) | exact hn360_0) (.int .i64 a0_0)).trans hx360_0
          replace hx360_1 := (cell_far (p := ⟨gb359, 0, none⟩) (by first | (rw [add_block]; exact hn360_0) | (show (Addr.add _ _).block ≠ _; rw [add_block]; exact hn360_0) | exact hn360_0) (.int .i64 a0_0)).trans hx360_1
          replace hx360_2 := (cell_far (p := ⟨gb359, 0, none⟩) (by first | (rw [add_block]; exact hn360_0) | (show (Addr.add _ _).block ≠ _; rw [add_block]; exact hn360_0) | exact hn360_0) (.int .i64 a0_0)).trans hx360_2
          replace hx360_0 := (cell_far (p := ⟨gb359, 1, none⟩) (by first | (rw [add_block]; exact hn360_1) | (show (Addr.add _ _).block ≠ _; rw [add_block]; exact hn360_1) | exact hn360_1) (.int .i64 a0_1)).trans hx360_0
          replace hx360_1 := (cell_far (p := ⟨gb359, 1, none⟩) (by first | (rw [add_block]; exact hn360_1) | (show (Addr.add _ _).block ≠ _; rw [add_block]; exact hn360_1) | exact hn360_1) (.int .i64 a0_1)).trans hx360_1
          replace hx360_2 := (cell_far (p := ⟨gb359, 1, none⟩) (by first | (rw [add_block]; exact hn360_1) | (show (Addr.add _ _).block ≠ _; rw [add_block]; exact hn360_1) | exact hn360_1) (.int .i64 a0_1)).trans hx360_2
          replace hx360_0 := (cell_far (p := ⟨gb359, 2, none⟩) (by first | (rw [add_block]; exact hn360_2) | (show (Addr.add _ _).block ≠ _; rw [add_block]; exact hn360_2) | exact hn360_2) (.slice none 0 0)).trans hx360_0
          replace hx360_1 := (cell_far (p := ⟨gb359, 2, none⟩) (by first | (rw [add_block]; exact hn360_2) | (show (Addr.add _ _).block ≠ _; rw [add_block]; exact hn360_2) | exact hn360_2) (.slice none 0 0)).trans hx360_1
          replace hx360_2 := (cell_far (p := ⟨gb359, 2, none⟩) (by first | (rw [add_block]; exact hn360_2) | (show (Addr.add _ _).block ≠ _; rw [add_block]; exact hn360_2) | exact hn360_2) (.slice none 0 0)).trans hx360_2
          clear hn360_0
          clear hn360_1
          clear hn360_2
          replace p360 := eq_true p360
          replace q360 := eq_true q360
          go_wp2_with (first | ((with_reducible refine gate_callee (f := 23) rfl ?_); refine goesL_ (some 21) rfl rfl Try.func23 (by kernel_rfl) rfl #[.agg #[.int .i64 ((rd_T28 l1 a0_1).f0), .int .i64 ((rd_T28 l1 a0_1).f1), .slice A360_2 ((rd_T28 l1 a0_1).f2).length c360_2]] rfl (by (try simp only [List.map_toArray, List.map_cons, List.map_nil]); first | done | rfl | (simp only [List.length_drop, List.length_take]; rfl)) ?_; (with_reducible refine (virgationref02_Copy.calls ((rd_T28 l1 a0_1).f0) ((rd_T28 l1 a0_1).f1) _ _ ((rd_T28 l1 a0_1).f2) t361 t362 t363 _ ?side1 ?side2 A16.out).mono ?_); (case side1 => exact Kd.C_below HR360_2.out (by repeat (first | (with_reducible first | exact HB.out | apply bal | apply pwN | apply bd1 | refine bset ?_ GE357.out | refine bset ?_ GE358.out | refine bset ?_ GE359.out) | exact HB.out))); (case side2 => exact HC360_2.out); rintro e w20 ⟨v364, rfl, ho0, hb⟩; refine ⟨_, rfl, ?_⟩; have n0_ := Az.mk (Kd.R_lower (Kd.R_newB (Kd.R_newB (Kd.R_newB ho0 (g := gb357) (o := .cells #[.int .i64 a0_0, .int .i64 a0_1, .slice A0_2 l0_2.length c0_2] 28 (0, 0)) (by (with_reducible repeat (first | refine bdN ?_ _ | refine blk_drew ?_ | refine bkA ?_ _)); refine blk_far ?_ NB357_359.out _; (with_reducible repeat (first | refine bdN ?_ _ | refine blk_drew ?_ | refine bkA ?_ _)); refine blk_far ?_ NB357_359.out _; (with_reducible repeat (first | refine bdN ?_ _ | refine blk_drew ?_ | refine bkA ?_ _)); refine blk_far ?_ NB357_359.out _; (with_reducible repeat (first | refine bdN ?_ _ | refine blk_drew ?_ | refine bkA ?_ _)); exact BK357.out)) (g := gb358) (o := .cells #[.int .i64 0, .int .i64 0, .slice none 0 0] 28 (0, 0)) (by (with_reducible repeat (first | refine bdN ?_ _ | refine blk_drew ?_ | refine bkA ?_ _)); refine blk_far ?_ NB358_359.out _; (with_reducible repeat (first | refine bdN ?_ _ | refine blk_drew ?_ | refine bkA ?_ _)); refine blk_far ?_ NB358_359.out _; (with_reducible repeat (first | refine bdN ?_ _ | refine blk_drew ?_ | refine bkA ?_ _)); refine blk_far ?_ NB358_359.out _; (with_reducible repeat (first | refine bdN ?_ _ | refine blk_drew ?_ | refine bkA ?_ _)); exact BK358.out)) (g := gb359) (o := .cells #[.int .i64 a0_0, .int .i64 a0_1, .slice none 0 0] 28 (0, 0)) (by (with_reducible repeat (first | refine bdN ?_ _ | refine blk_drew ?_ | refine bkA ?_ _)); refine blk_put (cs := #[.int .i64 a0_0, .int .i64 a0_1, .slice none 0 0]) ?_ 2 _ rfl; (with_reducible repeat (first | refine bdN ?_ _ | refine blk_drew ?_ | refine bkA ?_ _)); refine blk_put (cs := #[.int .i64 a0_0, .int .i64 0, .slice none 0 0]) ?_ 1 _ rfl; (with_reducible repeat (first | refine bdN ?_ _ | refine blk_drew ?_ | refine bkA ?_ _)); refine blk_put (cs := #[.int .i64 0, .int .i64 0, .slice none 0 0]) ?_ 0 _ rfl; (with_reducible repeat (first | refine bdN ?_ _ | refine blk_drew ?_ | refine bkA ?_ _)); exact BK359.out)) (below_size (by repeat (first | (with_reducible first | exact HB.out | apply bal | apply pwN | apply bd1 | refine bset ?_ GE357.out | refine bset ?_ GE358.out | refine bset ?_ GE359.out) | exact HB.out)))); have n1_ := Az.mk (bkB (g := gb357) (o := .cells #[.int .i64 a0_0, .int .i64 a0_1, .slice A0_2 l0_2.length c0_2] 28 (0, 0)) (by (with_reducible repeat (first | refine bdN ?_ _ | refine blk_drew ?_ | refine bkA ?_ _)); refine blk_far ?_ NB357_359.out _; (with_reducible repeat (first | refine bdN ?_ _ | refine blk_drew ?_ | refine bkA ?_ _)); refine blk_far ?_ NB357_359.out _; (with_reducible repeat (first | refine bdN ?_ _ | refine blk_drew ?_ | refine bkA ?_ _)); refine blk_far ?_ NB357_359.out _; (with_reducible repeat (first | refine bdN ?_ _ | refine blk_drew ?_ | refine bkA ?_ _)); exact BK357.out) hb); have n2_ := Az.mk (bkB (g := gb358) (o := .cells #[.int .i64 0, .int .i64 0, .slice none 0 0] 28 (0, 0)) (by (with_reducible repeat (first | refine bdN ?_ _ | refine blk_drew ?_ | refine bkA ?_ _)); refine blk_far ?_ NB358_359.out _; (with_reducible repeat (first | refine bdN ?_ _ | refine blk_drew ?_ | refine bkA ?_ _)); refine blk_far ?_ NB358_359.out _; (with_reducible repeat (first | refine bdN ?_ _ | refine blk_drew ?_ | refine bkA ?_ _)); refine blk_far ?_ NB358_359.out _; (with_reducible repeat (first | refine bdN ?_ _ | refine blk_drew ?_ | refine bkA ?_ _)); exact BK358.out) hb); have n3_ := Az.mk (bkB (g := gb359) (o := .cells #[.int .i64 a0_0, .int .i64 a0_1, .slice none 0 0] 28 (0, 0)) (by (with_reducible repeat (first | refine bdN ?_ _ | refine blk_drew ?_ | refine bkA ?_ _)); refine blk_put (cs := #[.int .i64 a0_0, .int .i64 a0_1, .slice none 0 0]) ?_ 2 _ rfl; (with_reducible repeat (first | refine bdN ?_ _ | refine blk_drew ?_ | refine bkA ?_ _)); refine blk_put (cs := #[.int .i64 a0_0, .int .i64 0, .slice none 0 0]) ?_ 1 _ rfl; (with_reducible repeat (first | refine bdN ?_ _ | refine blk_drew ?_ | refine bkA ?_ _)); refine blk_put (cs := #[.int .i64 0, .int .i64 0, .slice none 0 0]) ?_ 0 _ rfl; (with_reducible repeat (first | refine bdN ?_ _ | refine blk_drew ?_ | refine bkA ?_ _)); exact BK359.out) hb); have n4_ := Az.mk (bst (by repeat (first | (with_reducible first | exact HB.out | apply bal | apply pwN | apply bd1 | refine bset ?_ GE357.out | refine bset ?_ GE358.out | refine bset ?_ GE359.out) | exact HB.out)) hb); clear BK357; clear BK358; clear BK359; clear HB; have HO365 := n0_; have BK357 := n1_; have BK358 := n2_; have BK359 := n3_; have HB := n4_; clear n0_ n1_ n2_ n3_ n4_; (try clear hb); (try clear hb2); (try clear hk); (try clear hi); (try clear ho0); have hnb21 := NB359_358.out; have hnc21 := NB358_359.out; have hcz22_0 : w20.cell? ⟨gb359, 0, none⟩ = some (.int .i64 a0_0) := (blk_cell BK359.out 0).trans rfl; have hcz22_1 : w20.cell? ⟨gb359, 1, none⟩ = some (.int .i64 a0_1) := (blk_cell BK359.out 1).trans rfl; have hcz22_2 : w20.cell? ⟨gb359, 2, none⟩ = some (.slice none 0 0) := (blk_cell BK359.out 2).trans rfl; have hfz22_0 := bkF BK359.out 0; have hfz22_1 := bkF BK359.out 1; have hfz22_2 := bkF BK359.out 2; obtain ⟨Ao23, co23, eo23⟩ := Kd.R_slice HO365.out; subst eo23))
          go_meet
          case rel => exact ⟨_, (t361), (t362), (t363), (.slice Ao23 t363.length co23), H', ⟨by first | omega | exact Nat.le_refl _⟩, ⟨by (with_reducible repeat (first | apply Kd.R_alloc | apply Kd.R_drewN | apply Kd.R_drew)); exact Kd.R_mono (Kd.R_far (p := ⟨gb359, 2, none⟩) (Kd.R_far (p := ⟨gb359, 1, none⟩) (Kd.R_far (p := ⟨gb359, 0, none⟩) (Kd.R_mono HO365.out (fun k_ hk => (⟨hk, hk.2⟩ : _ ∧ k_ ≠ gb359))) (fun _ hk => hk.2) (.int .i64 t361)) (fun _ hk => hk.2) (.int .i64 t362)) (fun _ hk => hk.2) (.slice Ao23 t363.length co23)) (fun _ hk => ⟨hk.1.1.1.2, ⟨hk.1.1.2, hk.1.2⟩⟩)⟩, ⟨by (with_reducible repeat (first | refine bdN ?_ _ | refine blk_drew ?_ | refine bkA ?_ _)); refine blk_far ?_ NB357_359.out _; (with_reducible repeat (first | refine bdN ?_ _ | refine blk_drew ?_ | refine bkA ?_ _)); refine blk_far ?_ NB357_359.out _; (with_reducible repeat (first | refine bdN ?_ _ | refine blk_drew ?_ | refine bkA ?_ _)); refine blk_far ?_ NB357_359.out _; (with_reducible repeat (first | refine bdN ?_ _ | refine blk_drew ?_ | refine bkA ?_ _)); exact BK357.out⟩, ⟨by (with_reducible repeat (first | refine bdN ?_ _ | refine blk_drew ?_ | refine bkA ?_ _)); refine blk_far ?_ NB358_359.out _; (with_reducible repeat (first | refine bdN ?_ _ | refine blk_drew ?_ | refine bkA ?_ _)); refine blk_far ?_ NB358_359.out _; (with_reducible repeat (first | refine bdN ?_ _ | refine blk_drew ?_ | refine bkA ?_ _)); refine blk_far ?_ NB358_359.out _; (with_reducible repeat (first | refine bdN ?_ _ | refine blk_drew ?_ | refine bkA ?_ _)); exact BK358.out⟩, ⟨by (with_reducible repeat (first | refine bdN ?_ _ | refine blk_drew ?_ | refine bkA ?_ _)); refine blk_put (cs := #[.int .i64 t361, .int .i64 t362, .slice none 0 0]) ?_ 2 _ rfl; (with_reducible repeat (first | refine bdN ?_ _ | refine blk_drew ?_ | refine bkA ?_ _)); refine blk_put (cs := #[.int .i64 t361, .int .i64 a0_1, .slice none 0 0]) ?_ 1 _ rfl; (with_reducible repeat (first | refine bdN ?_ _ | refine blk_drew ?_ | refine bkA ?_ _)); refine blk_put (cs := #[.int .i64 a0_0, .int .i64 a0_1, .slice none 0 0]) ?_ 0 _ rfl; (with_reducible repeat (first | refine bdN ?_ _ | refine blk_drew ?_ | refine bkA ?_ _)); exact BK359.out⟩, ⟨by repeat (first | (with_reducible first | exact HB.out | apply bal | apply pwN | apply bd1 | refine bset ?_ GE357.out | refine bset ?_ GE358.out | refine bset ?_ GE359.out) | exact HB.out)⟩⟩
        · rw [if_neg c15] at H
          exact absurd H (by simp)
      · rw [if_neg c14] at H
        exact absurd H (by simp)
    · rw [if_neg c13] at H
      have c13b0 : (a0_0 == 0) = false := beq_eq_false_iff_ne.mpr c13
      have c13b1 : (a0_0 != 0) = true := bne_iff_ne.mpr c13
      (first | rw [c13b0] | (simp only [i64_w, i32_w]; rw [c13b0]) | skip)
      have H' := Az.mk H
      clear H
      go_wp2
      go_meet
      case rel => exact ⟨_, (a0_0), (a0_1), (([] : List (S28))), (.slice none 0 0), H', ⟨by first | omega | exact Nat.le_refl _⟩, ⟨by first | exact Kd.R_nil _ _ _ _ _ | exact Kd.N_nil _ _ _ _ _ | exact Kd.V_nil _ _ _ _ _ | exact Kd.Q_nil _ _ _ _ _ | exact Kd.S_nil _ _ _ _ _⟩, ⟨by (with_reducible repeat (first | refine bdN ?_ _ | refine blk_drew ?_ | refine bkA ?_ _)); refine blk_far ?_ NB357_359.out _; (with_reducible repeat (first | refine bdN ?_ _ | refine blk_drew ?_ | refine bkA ?_ _)); refine blk_far ?_ NB357_359.out _; (with_reducible repeat (first | refine bdN ?_ _ | refine blk_drew ?_ | refine bkA ?_ _)); refine blk_far ?_ NB357_359.out _; (with_reducible repeat (first | refine bdN ?_ _ | refine blk_drew ?_ | refine bkA ?_ _)); exact BK357.out⟩, ⟨by (with_reducible repeat (first | refine bdN ?_ _ | refine blk_drew ?_ | refine bkA ?_ _)); refine blk_far ?_ NB358_359.out _; (with_reducible repeat (first | refine bdN ?_ _ | refine blk_drew ?_ | refine bkA ?_ _)); refine blk_far ?_ NB358_359.out _; (with_reducible repeat (first | refine bdN ?_ _ | refine blk_drew ?_ | refine bkA ?_ _)); refine blk_far ?_ NB358_359.out _; (with_reducible repeat (first | refine bdN ?_ _ | refine blk_drew ?_ | refine bkA ?_ _)); exact BK358.out⟩, ⟨by (with_reducible repeat (first | refine bdN ?_ _ | refine blk_drew ?_ | refine bkA ?_ _)); refine blk_put (cs := #[.int .i64 a0_0, .int .i64 a0_1, .slice none 0 0]) ?_ 2 _ rfl; (with_reducible repeat (first | refine bdN ?_ _ | refine blk_drew ?_ | refine bkA ?_ _)); refine blk_put (cs := #[.int .i64 a0_0, .int .i64 0, .slice none 0 0]) ?_ 1 _ rfl; (with_reducible repeat (first | refine bdN ?_ _ | refine blk_drew ?_ | refine bkA ?_ _)); refine blk_put (cs := #[.int .i64 0, .int .i64 0, .slice none 0 0]) ?_ 0 _ rfl; (with_reducible repeat (first | refine bdN ?_ _ | refine blk_drew ?_ | refine bkA ?_ _)); exact BK359.out⟩, ⟨by repeat (first | (with_reducible first | exact HB.out | apply bal | apply pwN | apply bd1 | refine bset ?_ GE357.out | refine bset ?_ GE358.out | refine bset ?_ GE359.out) | exact HB.out)⟩⟩
  case rest =>
    clear HC3
    try clear c1
    try clear c2
    try clear p2
    try clear c3
    try clear p3
    try clear q3
    try clear hx3
    try clear c6
    try clear c8
    try clear c9
    try clear c10
    try clear c13
    try clear c13b0
    try clear c13b1
    try clear c14
    try clear c14b0
    try clear c15
    try clear c15b0
    try clear c17
    try clear c18
    try clear c21
    try clear c23
    try clear hcz11_0
    try clear hcz11_1
    try clear hcz11_2
    try clear hcz12_0
    try clear hcz12_1
    try clear hcz12_2
    try clear hcz19_0
    try clear hcz19_1
    try clear hcz19_2
    try clear hcz22_0
    try clear hcz22_1
    try clear hcz22_2
    try clear hcz7_0
    try clear hcz7_1
    try clear hcz7_2
    try clear hfz11_0
    try clear hfz11_1
    try clear hfz11_2
    try clear hfz12_0
    try clear hfz12_1
    try clear hfz12_2
    try clear hfz19_0
    try clear hfz19_1
    try clear hfz19_2
    try clear hfz22_0
    try clear hfz22_1
    try clear hfz22_2
    try clear hfz7_0
    try clear hfz7_1
    try clear hfz7_2
    try clear hx360_0
    try clear hx360_1
    try clear hx360_2
    try clear p360
    try clear q360
    obtain ⟨kq, x360000_2, x360001_2, x360002_2, u360002, HA, HJ2, HO_360002, BK357, BK358, BK359, HB⟩ := hcut
    cases kq with
    | zero => exact absurd HA.out (by simp [virgationref02_Replace.j0])
    | succ kj2 =>
      have H := HA.out
      clear HA
      simp only [virgationref02_Replace.j0] at H
      have H' := Az.mk H
      clear H
      have hnb24 := NB357_358.out
      have hnc24 := NB358_357.out
      have hnb25 := NB357_359.out
      have hnc25 := NB359_357.out
      have hcz26_0 : wc.cell? ⟨gb357, 0, none⟩ = some (.int .i64 a0_0) := (blk_cell BK357.out 0).trans rfl
      have hcz26_1 : wc.cell? ⟨gb357, 1, none⟩ = some (.int .i64 a0_1) := (blk_cell BK357.out 1).trans rfl
      have hcz26_2 : wc.cell? ⟨gb357, 2, none⟩ = some (.slice A0_2 l0_2.length c0_2) := (blk_cell BK357.out 2).trans rfl
      have hfz26_0 := bkF BK357.out 0
      have hfz26_1 := bkF BK357.out 1
      have hfz26_2 := bkF BK357.out 2
      go_wp2
      go_loopg [25] kj2 (fun kq v25 w' => ∃ (x25_2 : Int) (x360002_2 : List (S28)) (u360002 : Value), v25 = .int .i64 x25_2 ∧ Az (virgationref02_Replace.l0 kq l1 l0_2 (l0_2.length : Int) x25_2 x360000_2 x360001_2 x360002_2 = some (r1, r2, r3)) ∧ Az (kq ≤ kj2) ∧ Az (Kd.R k28 28 w' w.heap.size (fun k_ => k_ ≠ gb357 ∧ k_ ≠ gb358 ∧ k_ ≠ gb359) u360002 x360002_2) ∧ Az (w'.heap[gb357]? = some (.cells #[.int .i64 a0_0, .int .i64 a0_1, (.slice A0_2 l0_2.length c0_2)] 28 (0, 0))) ∧ Az (w'.heap[gb358]? = some (.cells #[.int .i64 0, .int .i64 0, (.slice none 0 0)] 28 (0, 0))) ∧ Az (w'.heap[gb359]? = some (.cells #[.int .i64 x360000_2, .int .i64 x360001_2, u360002] 28 (0, 0))) ∧ Az (Below w.heap.size w w'))
      case atStart => exact ⟨(0), (x360002_2), (u360002), (by first | rfl | (simp; done) | (simp [*]; done)), H', ⟨Nat.le_refl _⟩, ⟨by (with_reducible repeat (first | apply Kd.R_alloc | apply Kd.R_drewN | apply Kd.R_drew)); exact HO_360002.out⟩, ⟨by (with_reducible repeat (first | refine bdN ?_ _ | refine blk_drew ?_ | refine bkA ?_ _)); exact BK357.out⟩, ⟨by (with_reducible repeat (first | refine bdN ?_ _ | refine blk_drew ?_ | refine bkA ?_ _)); exact BK358.out⟩, ⟨by (with_reducible repeat (first | refine bdN ?_ _ | refine blk_drew ?_ | refine bkA ?_ _)); exact BK359.out⟩, ⟨by repeat (first | (with_reducible first | exact HB.out | apply bal | apply pwN | apply bd1 | refine bset ?_ GE357.out | refine bset ?_ GE358.out | refine bset ?_ GE359.out) | exact HB.out)⟩⟩
      case round =>
        clear H'
        try clear c1
        try clear c2
        try clear p2
        try clear c3
        try clear p3
        try clear q3
        try clear hx3
        try clear c6
        try clear c8
        try clear c9
        try clear c10
        try clear c13
        try clear c13b0
        try clear c13b1
        try clear c14
        try clear c14b0
        try clear c15
        try clear c15b0
        try clear c17
        try clear c18
        try clear c21
        try clear c23
        try clear c24
        try clear c25
        try clear hcz11_0
        try clear hcz11_1
        try clear hcz11_2
        try clear hcz12_0
        try clear hcz12_1
        try clear hcz12_2
        try clear hcz19_0
        try clear hcz19_1
        try clear hcz19_2
        try clear hcz22_0
        try clear hcz22_1
        try clear hcz22_2
        try clear hcz26_0
        try clear hcz26_1
        try clear hcz26_2
        try clear hcz7_0
        try clear hcz7_1
        try clear hcz7_2
        try clear hfz11_0
        try clear hfz11_1
        try clear hfz11_2
        try clear hfz12_0
        try clear hfz12_1
        try clear hfz12_2
        try clear hfz19_0
        try clear hfz19_1
        try clear hfz19_2
        try clear hfz22_0
        try clear hfz22_1
        try clear hfz22_2
        try clear hfz26_0
        try clear hfz26_1
        try clear hfz26_2
        try clear hfz7_0
        try clear hfz7_1
        try clear hfz7_2
        try clear hx360_0
        try clear hx360_1
        try clear hx360_2
        try clear p2
        try clear p3
        try clear p360
        try clear q3
        try clear q360
        obtain ⟨x25_2, x360002_2, u360002, rfl, HA, HK2, HO_360002, BK357, BK358, BK359, HB⟩ := hrel
        cases gk with
        | zero => exact absurd HA.out (by simp [virgationref02_Replace.l0])
        | succ k2 =>
          have H := HA.out
          clear HA
          simp only [virgationref02_Replace.l0] at H
          by_cases c27 : x25_2 < (l0_2.length : Int)
          · rw [if_pos c27] at H
            have c27b0 : decide (x25_2 < (l0_2.length : Int)) = true := decide_eq_true c27
            clear c27
            by_cases c28 : 0 ≤ x25_2
            · rw [if_pos c28] at H
              have c28b0 : decide (0 ≤ x25_2) = true := decide_eq_true c28
              clear c28
              by_cases c29 : x25_2 < (l0_2.length : Int)
              · rw [if_pos c29] at H
                have c29b0 : decide (x25_2 < (l0_2.length : Int)) = true := decide_eq_true c29
                clear c29
                replace H := Option.bind_eq_some_iff.mp H
                obtain ⟨⟨t368, t369, t370⟩, A300, H⟩ := H
                replace H : (if x360002_2.length < 3518437208883 then (virgationref02_Replace.l0 k2 l1 l0_2 (l0_2.length : Int) (wrap64 (x25_2 + 1)) x360000_2 x360001_2 (x360002_2 ++ [(⟨t368, t369, t370⟩ : S28)])) else (none)) = some (r1, r2, r3) := H
                have A30 := Az.mk A300
                clear A300
                by_cases c31 : x360002_2.length < 3518437208883
                · rw [if_pos c31] at H
                  have LMc31 := Az.mk c31
                  clear c31
                  obtain ⟨y373, hy373⟩ : ∃ y_ : List (S28), y_ = (x360002_2 ++ [(⟨t368, t369, t370⟩ : S28)]) := ⟨_, rfl⟩
                  replace H : (virgationref02_Replace.l0 k2 l1 l0_2 (l0_2.length : Int) (wrap64 (x25_2 + 1)) x360000_2 x360001_2 y373) = some (r1, r2, r3) := by first | (rw [hy373]; with_reducible exact H) | (have H2_ := (Option.bind_some _ _).symm.trans H; rw [hy373]; with_reducible exact H2_) | (have H2_ := (Option.bind_some _ _).symm.trans H; with_reducible exact H2_) | with_reducible exact H | (rw [hy373]; exact H) | exact H
                  have Ny373 := Az.mk hy373
                  clear hy373
                  have H' := Az.mk H
                  clear H
                  have p366 : 0 ≤ (x25_2 : Int) := of_decide_eq_true (by first | (with_reducible assumption) | assumption)
                  have q366 : x25_2 < (l0_2.length : Int) := of_decide_eq_true (by first | (with_reducible assumption) | assumption)
                  obtain ⟨ad366, A366_2, c366_2, e366, hx366_0, hx366_1, hx366_2, hl366_2, hi366_2⟩ := at_T28 HR0_2.out x25_2 p366 q366
                  cases e366
                  replace hx366_0 := (HB.out.cell (World.block_lt_of_cell? w _ hx366_0)).trans hx366_0
                  replace hx366_1 := (HB.out.cell (World.block_lt_of_cell? w _ hx366_1)).trans hx366_1
                  replace hx366_2 := (HB.out.cell (World.block_lt_of_cell? w _ hx366_2)).trans hx366_2
                  have HR366_2 := Az.mk hi366_2
                  have HC366_2 := Az.mk hl366_2
                  clear hi366_2 hl366_2
                  replace p366 := eq_true p366
                  replace q366 := eq_true q366
                  try go_wp2_with (first | ((with_reducible refine gate_dst (N := 7) rfl ?_); refine box_event ?hg (N := 7) ?hd (cs := #[.int .i64 0, .int .i64 0, .slice none 0 0]) (t := 28) ?hr ?_; (case hd => rfl); (case hg => rfl); (case hr => first | (go_simp; done) | (go_simp; rfl)); intro gb367 hg w32 hbox hb; have n0_ := Az.mk (Kd.R_below (Kd.R_elderB (by (with_reducible repeat (first | apply Kd.R_alloc | apply Kd.R_drewN | apply Kd.R_drew)); exact HO_360002.out) gb367 (Nat.le_of_eq hg.symm)) hb); have n1_ := Az.mk (bkB (g := gb357) (o := .cells #[.int .i64 a0_0, .int .i64 a0_1, .slice (some ad366) l0_2.length c0_2] 28 (0, 0)) (by (with_reducible repeat (first | refine bdN ?_ _ | refine blk_drew ?_ | refine bkA ?_ _)); exact BK357.out) hb); have n2_ := Az.mk (bkB (g := gb358) (o := .cells #[.int .i64 0, .int .i64 0, .slice none 0 0] 28 (0, 0)) (by (with_reducible repeat (first | refine bdN ?_ _ | refine blk_drew ?_ | refine bkA ?_ _)); exact BK358.out) hb); have n3_ := Az.mk (bkB (g := gb359) (o := .cells #[.int .i64 x360000_2, .int .i64 x360001_2, u360002] 28 (0, 0)) (by (with_reducible repeat (first | refine bdN ?_ _ | refine blk_drew ?_ | refine bkA ?_ _)); exact BK359.out) hb); have n4_ := Az.mk (bst (by repeat (first | (with_reducible first | exact HB.out | apply bal | apply pwN | apply bd1 | refine bset ?_ GE357.out | refine bset ?_ GE358.out | refine bset ?_ GE359.out) | exact HB.out)) hb); have n5_ := Az.mk (hbox); have n6_ := Az.mk ((by rw [hg]; exact (below_size (by repeat (first | (with_reducible first | exact HB.out | apply bal | apply pwN | apply bd1 | refine bset ?_ GE357.out | refine bset ?_ GE358.out | refine bset ?_ GE359.out) | exact HB.out))) : w.heap.size ≤ gb367)); have n7_ := Az.mk ((by rw [hg]; exact (below_size (by repeat (first | (with_reducible first | exact HB.out | apply bal | apply pwN | apply bd1 | refine bset ?_ GE357.out | refine bset ?_ GE358.out | refine bset ?_ GE359.out) | exact HB.out))) : w.heap.size ≤ gb367)); have n8_ := Az.mk ((by rw [hg]; exact Nat.ne_of_lt (blk_lt (g := gb357) (o := .cells #[.int .i64 a0_0, .int .i64 a0_1, .slice (some ad366) l0_2.length c0_2] 28 (0, 0)) (by (with_reducible repeat (first | refine bdN ?_ _ | refine blk_drew ?_ | refine bkA ?_ _)); exact BK357.out)) : gb357 ≠ gb367)); have n9_ := Az.mk ((by rw [hg]; exact Nat.ne_of_gt (blk_lt (g := gb357) (o := .cells #[.int .i64 a0_0, .int .i64 a0_1, .slice (some ad366) l0_2.length c0_2] 28 (0, 0)) (by (with_reducible repeat (first | refine bdN ?_ _ | refine blk_drew ?_ | refine bkA ?_ _)); exact BK357.out)) : gb367 ≠ gb357)); have n10_ := Az.mk ((by rw [hg]; exact Nat.ne_of_lt (blk_lt (g := gb358) (o := .cells #[.int .i64 0, .int .i64 0, .slice none 0 0] 28 (0, 0)) (by (with_reducible repeat (first | refine bdN ?_ _ | refine blk_drew ?_ | refine bkA ?_ _)); exact BK358.out)) : gb358 ≠ gb367)); have n11_ := Az.mk ((by rw [hg]; exact Nat.ne_of_gt (blk_lt (g := gb358) (o := .cells #[.int .i64 0, .int .i64 0, .slice none 0 0] 28 (0, 0)) (by (with_reducible repeat (first | refine bdN ?_ _ | refine blk_drew ?_ | refine bkA ?_ _)); exact BK358.out)) : gb367 ≠ gb358)); have n12_ := Az.mk ((by rw [hg]; exact Nat.ne_of_lt (blk_lt (g := gb359) (o := .cells #[.int .i64 x360000_2, .int .i64 x360001_2, u360002] 28 (0, 0)) (by (with_reducible repeat (first | refine bdN ?_ _ | refine blk_drew ?_ | refine bkA ?_ _)); exact BK359.out)) : gb359 ≠ gb367)); have n13_ := Az.mk ((by rw [hg]; exact Nat.ne_of_gt (blk_lt (g := gb359) (o := .cells #[.int .i64 x360000_2, .int .i64 x360001_2, u360002] 28 (0, 0)) (by (with_reducible repeat (first | refine bdN ?_ _ | refine blk_drew ?_ | refine bkA ?_ _)); exact BK359.out)) : gb367 ≠ gb359)); clear HO_360002; clear BK357; clear BK358; clear BK359; clear HB; have HO_360002 := n0_; have BK357 := n1_; have BK358 := n2_; have BK359 := n3_; have HB := n4_; have BK367 := n5_; have GW367 := n6_; have GE367 := n7_; have NB357_367 := n8_; have NB367_357 := n9_; have NB358_367 := n10_; have NB367_358 := n11_; have NB359_367 := n12_; have NB367_359 := n13_; clear n0_ n1_ n2_ n3_ n4_ n5_ n6_ n7_ n8_ n9_ n10_ n11_ n12_ n13_; clear hb hbox hg; have hnb33 := NB367_357.out; have hnc33 := NB357_367.out; have hnb34 := NB367_358.out; have hnc34 := NB358_367.out; have hnb35 := NB367_359.out; have hnc35 := NB359_367.out; have hcz36_0 : w32.cell? ⟨gb367, 0, none⟩ = some (.int .i64 0) := (blk_cell BK367.out 0).trans rfl; have hcz36_1 : w32.cell? ⟨gb367, 1, none⟩ = some (.int .i64 0) := (blk_cell BK367.out 1).trans rfl; have hcz36_2 : w32.cell? ⟨gb367, 2, none⟩ = some (.slice none 0 0) := (blk_cell BK367.out 2).trans rfl; have hfz36_0 := bkF BK367.out 0; have hfz36_1 := bkF BK367.out 1; have hfz36_2 := bkF BK367.out 2))
                  have n0_ : Az (Kd.R k28 28 (((w32.setCell ⟨gb367, 0, none⟩ (.int .i64 ((rd_T28 l0_2 x25_2).f0))).setCell ⟨gb367, 1, none⟩ (.int .i64 ((rd_T28 l0_2 x25_2).f1))).setCell ⟨gb367, 2, none⟩ (.slice A366_2 ((rd_T28 l0_2 x25_2).f2).length c366_2)) w.heap.size (fun k_ => k_ ≠ gb357 ∧ k_ ≠ gb358 ∧ k_ ≠ gb359 ∧ k_ ≠ gb367) u360002 x360002_2) := ⟨by (with_reducible repeat (first | apply Kd.R_alloc | apply Kd.R_drewN | apply Kd.R_drew)); exact Kd.R_mono (Kd.R_far (p := ⟨gb367, 2, none⟩) (Kd.R_far (p := ⟨gb367, 1, none⟩) (Kd.R_far (p := ⟨gb367, 0, none⟩) (Kd.R_mono HO_360002.out (fun k_ hk => (⟨hk, hk.2⟩ : _ ∧ k_ ≠ gb367))) (fun _ hk => hk.2) (.int .i64 ((rd_T28 l0_2 x25_2).f0))) (fun _ hk => hk.2) (.int .i64 ((rd_T28 l0_2 x25_2).f1))) (fun _ hk => hk.2) (.slice A366_2 ((rd_T28 l0_2 x25_2).f2).length c366_2)) (fun _ hk => ⟨hk.1.1.1, ⟨hk.1.1.2.1, ⟨hk.1.1.2.2, hk.1.2⟩⟩⟩)⟩
                  have n1_ : Az ((((w32.setCell ⟨gb367, 0, none⟩ (.int .i64 ((rd_T28 l0_2 x25_2).f0))).setCell ⟨gb367, 1, none⟩ (.int .i64 ((rd_T28 l0_2 x25_2).f1))).setCell ⟨gb367, 2, none⟩ (.slice A366_2 ((rd_T28 l0_2 x25_2).f2).length c366_2)).heap[gb357]? = some (.cells #[.int .i64 a0_0, .int .i64 a0_1, .slice (some ad366) l0_2.length c0_2] 28 (0, 0))) := ⟨by (with_reducible repeat (first | refine bdN ?_ _ | refine blk_drew ?_ | refine bkA ?_ _)); refine blk_far ?_ NB357_367.out _; (with_reducible repeat (first | refine bdN ?_ _ | refine blk_drew ?_ | refine bkA ?_ _)); refine blk_far ?_ NB357_367.out _; (with_reducible repeat (first | refine bdN ?_ _ | refine blk_drew ?_ | refine bkA ?_ _)); refine blk_far ?_ NB357_367.out _; (with_reducible repeat (first | refine bdN ?_ _ | refine blk_drew ?_ | refine bkA ?_ _)); exact BK357.out⟩
                  have n2_ : Az ((((w32.setCell ⟨gb367, 0, none⟩ (.int .i64 ((rd_T28 l0_2 x25_2).f0))).setCell ⟨gb367, 1, none⟩ (.int .i64 ((rd_T28 l0_2 x25_2).f1))).setCell ⟨gb367, 2, none⟩ (.slice A366_2 ((rd_T28 l0_2 x25_2).f2).length c366_2)).heap[gb358]? = some (.cells #[.int .i64 0, .int .i64 0, .slice none 0 0] 28 (0, 0))) := ⟨by (with_reducible repeat (first | refine bdN ?_ _ | refine blk_drew ?_ | refine bkA ?_ _)); refine blk_far ?_ NB358_367.out _; (with_reducible repeat (first | refine bdN ?_ _ | refine blk_drew ?_ | refine bkA ?_ _)); refine blk_far ?_ NB358_367.out _; (with_reducible repeat (first | refine bdN ?_ _ | refine blk_drew ?_ | refine bkA ?_ _)); refine blk_far ?_ NB358_367.out _; (with_reducible repeat (first | refine bdN ?_ _ | refine blk_drew ?_ | refine bkA ?_ _)); exact BK358.out⟩
                  have n3_ : Az ((((w32.setCell ⟨gb367, 0, none⟩ (.int .i64 ((rd_T28 l0_2 x25_2).f0))).setCell ⟨gb367, 1, none⟩ (.int .i64 ((rd_T28 l0_2 x25_2).f1))).setCell ⟨gb367, 2, none⟩ (.slice A366_2 ((rd_T28 l0_2 x25_2).f2).length c366_2)).heap[gb359]? = some (.cells #[.int .i64 x360000_2, .int .i64 x360001_2, u360002] 28 (0, 0))) := ⟨by (with_reducible repeat (first | refine bdN ?_ _ | refine blk_drew ?_ | refine bkA ?_ _)); refine blk_far ?_ NB359_367.out _; (with_reducible repeat (first | refine bdN ?_ _ | refine blk_drew ?_ | refine bkA ?_ _)); refine blk_far ?_ NB359_367.out _; (with_reducible repeat (first | refine bdN ?_ _ | refine blk_drew ?_ | refine bkA ?_ _)); refine blk_far ?_ NB359_367.out _; (with_reducible repeat (first | refine bdN ?_ _ | refine blk_drew ?_ | refine bkA ?_ _)); exact BK359.out⟩
                  have n4_ : Az ((((w32.setCell ⟨gb367, 0, none⟩ (.int .i64 ((rd_T28 l0_2 x25_2).f0))).setCell ⟨gb367, 1, none⟩ (.int .i64 ((rd_T28 l0_2 x25_2).f1))).setCell ⟨gb367, 2, none⟩ (.slice A366_2 ((rd_T28 l0_2 x25_2).f2).length c366_2)).heap[gb367]? = some (.cells #[.int .i64 ((rd_T28 l0_2 x25_2).f0), .int .i64 ((rd_T28 l0_2 x25_2).f1), .slice A366_2 ((rd_T28 l0_2 x25_2).f2).length c366_2] 28 (0, 0))) := ⟨by (with_reducible repeat (first | refine bdN ?_ _ | refine blk_drew ?_ | refine bkA ?_ _)); refine blk_put (cs := #[.int .i64 ((rd_T28 l0_2 x25_2).f0), .int .i64 ((rd_T28 l0_2 x25_2).f1), .slice none 0 0]) ?_ 2 _ rfl; (with_reducible repeat (first | refine bdN ?_ _ | refine blk_drew ?_ | refine bkA ?_ _)); refine blk_put (cs := #[.int .i64 ((rd_T28 l0_2 x25_2).f0), .int .i64 0, .slice none 0 0]) ?_ 1 _ rfl; (with_reducible repeat (first | refine bdN ?_ _ | refine blk_drew ?_ | refine bkA ?_ _)); refine blk_put (cs := #[.int .i64 0, .int .i64 0, .slice none 0 0]) ?_ 0 _ rfl; (with_reducible repeat (first | refine bdN ?_ _ | refine blk_drew ?_ | refine bkA ?_ _)); exact BK367.out⟩
                  have n5_ : Az (Below w.heap.size w (((w32.setCell ⟨gb367, 0, none⟩ (.int .i64 ((rd_T28 l0_2 x25_2).f0))).setCell ⟨gb367, 1, none⟩ (.int .i64 ((rd_T28 l0_2 x25_2).f1))).setCell ⟨gb367, 2, none⟩ (.slice A366_2 ((rd_T28 l0_2 x25_2).f2).length c366_2))) := ⟨by repeat (first | (with_reducible first | exact HB.out | apply bal | apply pwN | apply bd1 | refine bset ?_ GE357.out | refine bset ?_ GE358.out | refine bset ?_ GE359.out | refine bset ?_ GE367.out) | exact HB.out)⟩
                  (try clear HO_360002)
                  (try clear BK357)
                  (try clear BK358)
                  (try clear BK359)
                  (try clear BK367)
                  (try clear HB)
                  generalize (((w32.setCell ⟨gb367, 0, none⟩ (.int .i64 ((rd_T28 l0_2 x25_2).f0))).setCell ⟨gb367, 1, none⟩ (.int .i64 ((rd_T28 l0_2 x25_2).f1))).setCell ⟨gb367, 2, none⟩ (.slice A366_2 ((rd_T28 l0_2 x25_2).f2).length c366_2)) = w37 at n0_ n1_ n2_ n3_ n4_ n5_ ⊢
                  have HO_360002 := n0_
                  have BK357 := n1_
                  have BK358 := n2_
                  have BK359 := n3_
                  have BK367 := n4_
                  have HB := n5_
                  clear n0_ n1_ n2_ n3_ n4_ n5_
                  have n0_ := Az.mk (Kd.R_drew HO_360002.out)
                  have n1_ := Az.mk (blk_drew BK357.out)
                  have n2_ := Az.mk (blk_drew BK358.out)
                  have n3_ := Az.mk (blk_drew BK359.out)
                  have n4_ := Az.mk (blk_drew BK367.out)
                  have n5_ := Az.mk (bd1 HB.out)
                  clear HO_360002
                  clear BK357
                  clear BK358
                  clear BK359
                  clear BK367
                  clear HB
                  have HO_360002 := n0_
                  have BK357 := n1_
                  have BK358 := n2_
                  have BK359 := n3_
                  have BK367 := n4_
                  have HB := n5_
                  clear n0_ n1_ n2_ n3_ n4_ n5_
                  refine start_ (n := 9) (S := fun w' => w'.cell? ⟨gb359, 0, none⟩ = some (.int .i64 x360000_2) ∧ w'.cell? ⟨gb359, 1, none⟩ = some (.int .i64 x360001_2) ∧ w'.cell? ⟨gb359, 2, none⟩ = some (u360002) ∧ w'.cell? ⟨gb367, 0, none⟩ = some (.int .i64 ((rd_T28 l0_2 x25_2).f0)) ∧ w'.cell? ⟨gb367, 1, none⟩ = some (.int .i64 ((rd_T28 l0_2 x25_2).f1)) ∧ w'.cell? ⟨gb367, 2, none⟩ = some (.slice A366_2 ((rd_T28 l0_2 x25_2).f2).length c366_2)) (ds := [8]) #[false, false, false, false, false, false, false, false, false] (by kernel_rfl) rfl rfl ⟨(blk_cell BK359.out 0).trans rfl, (blk_cell BK359.out 1).trans rfl, (blk_cell BK359.out 2).trans rfl, (blk_cell BK367.out 0).trans rfl, (blk_cell BK367.out 1).trans rfl, (blk_cell BK367.out 2).trans rfl⟩ (fun hHeld => ?_); refine with_tabW virgationref02_Replace.tab7 virgationref02_Replace.bits7 (fun HT_ HW_ => ?_)
                  generalize w37.drew = w38 at HO_360002 BK357 BK358 BK359 BK367 HB hHeld ⊢
                  refine pure_ (i := 0) (N := some 29) (v := ?_) (a' := ?_) #[true, false, false, false, false, false, false, false, false] rfl rfl (any_of HT_.out (by kernel_rfl)) (fun _ _ _ h => h) (Or.inl ⟨by rfl, ?_⟩) ?_ ?_
                  rotate_left
                  · intro w'
                    go_simp
                    with_reducible rfl
                  rotate_left
                  · simp only [Act.put, List.setIfInBounds_toArray, List.set_cons_zero, List.set_cons_succ, i64_w, i32_w]
                    rfl
                  refine pure_ (i := 3) (N := some 32) (v := ?_) (a' := ?_) #[true, false, false, true, false, false, false, false, false] rfl rfl (any_of HT_.out (by kernel_rfl)) (fun _ _ _ h => h) (Or.inl ⟨by rfl, ?_⟩) ?_ ?_
                  rotate_left
                  · intro w'
                    go_simp
                    with_reducible rfl
                  rotate_left
                  · simp only [Act.put, List.setIfInBounds_toArray, List.set_cons_zero, List.set_cons_succ, i64_w, i32_w]
                    rfl
                  refine take_ (i := 1) (N := some 30) (v := ?_) (a' := ?_) #[true, true, false, true, false, false, false, false, false] rfl rfl (take_ofW HT_.out HW_.out (by kernel_rfl)) (fun _ _ _ h => h) (Or.inl ⟨by rfl, ?_⟩) hHeld ?_ ?_
                  rotate_left
                  · rintro w' ⟨s0, s1, s2, s3, s4, s5⟩
                    go_simp
                    with_reducible rfl
                  rotate_left
                  · simp only [Act.put, List.setIfInBounds_toArray, List.set_cons_zero, List.set_cons_succ, i64_w, i32_w]
                    rfl
                  refine take_ (i := 2) (N := some 31) (v := ?_) (a' := ?_) #[true, true, true, true, false, false, false, false, false] rfl rfl (take_ofW HT_.out HW_.out (by kernel_rfl)) (fun _ _ _ h => h) (Or.inl ⟨by rfl, ?_⟩) hHeld ?_ ?_
                  rotate_left
                  · rintro w' ⟨s0, s1, s2, s3, s4, s5⟩
                    go_simp
                    with_reducible rfl
                  rotate_left
                  · simp only [Act.put, List.setIfInBounds_toArray, List.set_cons_zero, List.set_cons_succ, i64_w, i32_w]
                    rfl
                  refine one_ (i := 4) (N := some 33) #[true, true, true, true, true, false, false, false, false] rfl rfl (one_of HT_.out (by kernel_rfl)) (by decide) (fun K hK => ?_)
                  refine goes_ Try.func84 (by kernel_rfl) rfl #[.agg #[.int .i64 ((rd_T28 l0_2 x25_2).f0), .int .i64 ((rd_T28 l0_2 x25_2).f1), .slice A366_2 ((rd_T28 l0_2 x25_2).f2).length c366_2], .slice A1 l1.length c1] (by rfl) rfl rfl (by (try simp only [List.map_toArray, List.map_cons, List.map_nil]); first | done | rfl | (simp only [List.length_drop, List.length_take]; rfl)) ?_
                  with_reducible refine (ih k2 (by have := HJ2.out; have := HK2.out; omega) ((rd_T28 l0_2 x25_2).f0) ((rd_T28 l0_2 x25_2).f1) _ _ ((rd_T28 l0_2 x25_2).f2) _ _ l1 t368 t369 t370 _ ?side1 ?side2 ?side3 ?side4 A30.out).mono ?_
                  (case side1 => repeat (first | exact (Kd.C_below HR366_2.out HB.out) | (with_reducible refine Kd.C_alloc ?_ _) | (with_reducible refine Kd.C_drewN ?_ _) | (with_reducible refine Kd.C_drew ?_)))
                  (case side2 => exact HC366_2.out)
                  (case side3 => repeat (first | exact (Kd.C_below HR1.out HB.out) | (with_reducible refine Kd.C_alloc ?_ _) | (with_reducible refine Kd.C_drewN ?_ _) | (with_reducible refine Kd.C_drew ?_)))
                  (case side4 => exact HC1.out)
                  rintro e w39 ⟨v371, rfl, ho0, hb⟩
                  refine ⟨_, rfl, ?_⟩
                  have n0_ := Az.mk (Kd.R_elder' (by (with_reducible repeat (first | apply Kd.R_alloc | apply Kd.R_drewN | apply Kd.R_drew)); exact HO_360002.out) (Kd.R_base ho0) hb)
                  have n1_ := Az.mk (Kd.R_lower (Kd.R_newB (Kd.R_newB (Kd.R_newB (Kd.R_newB (Kd.R_new' ho0 (Kd.R_lt (by (with_reducible repeat (first | apply Kd.R_alloc | apply Kd.R_drewN | apply Kd.R_drew)); exact HO_360002.out))) (g := gb357) (o := .cells #[.int .i64 a0_0, .int .i64 a0_1, .slice (some ad366) l0_2.length c0_2] 28 (0, 0)) (by (with_reducible repeat (first | refine bdN ?_ _ | refine blk_drew ?_ | refine bkA ?_ _)); exact BK357.out)) (g := gb358) (o := .cells #[.int .i64 0, .int .i64 0, .slice none 0 0] 28 (0, 0)) (by (with_reducible repeat (first | refine bdN ?_ _ | refine blk_drew ?_ | refine bkA ?_ _)); exact BK358.out)) (g := gb359) (o := .cells #[.int .i64 x360000_2, .int .i64 x360001_2, u360002] 28 (0, 0)) (by (with_reducible repeat (first | refine bdN ?_ _ | refine blk_drew ?_ | refine bkA ?_ _)); exact BK359.out)) (g := gb367) (o := .cells #[.int .i64 ((rd_T28 l0_2 x25_2).f0), .int .i64 ((rd_T28 l0_2 x25_2).f1), .slice A366_2 ((rd_T28 l0_2 x25_2).f2).length c366_2] 28 (0, 0)) (by (with_reducible repeat (first | refine bdN ?_ _ | refine blk_drew ?_ | refine bkA ?_ _)); exact BK367.out)) (below_size (by repeat (first | (with_reducible first | exact HB.out | apply bal | apply pwN | apply bd1 | refine bset ?_ GE357.out | refine bset ?_ GE358.out | refine bset ?_ GE359.out | refine bset ?_ GE367.out) | exact HB.out))))
                  have n2_ := Az.mk (bkB (g := gb357) (o := .cells #[.int .i64 a0_0, .int .i64 a0_1, .slice (some ad366) l0_2.length c0_2] 28 (0, 0)) (by (with_reducible repeat (first | refine bdN ?_ _ | refine blk_drew ?_ | refine bkA ?_ _)); exact BK357.out) hb)
                  have n3_ := Az.mk (bkB (g := gb358) (o := .cells #[.int .i64 0, .int .i64 0, .slice none 0 0] 28 (0, 0)) (by (with_reducible repeat (first | refine bdN ?_ _ | refine blk_drew ?_ | refine bkA ?_ _)); exact BK358.out) hb)
                  have n4_ := Az.mk (bkB (g := gb359) (o := .cells #[.int .i64 x360000_2, .int .i64 x360001_2, u360002] 28 (0, 0)) (by (with_reducible repeat (first | refine bdN ?_ _ | refine blk_drew ?_ | refine bkA ?_ _)); exact BK359.out) hb)
                  have n5_ := Az.mk (bkB (g := gb367) (o := .cells #[.int .i64 ((rd_T28 l0_2 x25_2).f0), .int .i64 ((rd_T28 l0_2 x25_2).f1), .slice A366_2 ((rd_T28 l0_2 x25_2).f2).length c366_2] 28 (0, 0)) (by (with_reducible repeat (first | refine bdN ?_ _ | refine blk_drew ?_ | refine bkA ?_ _)); exact BK367.out) hb)
                  have n6_ := Az.mk (bst (by repeat (first | (with_reducible first | exact HB.out | apply bal | apply pwN | apply bd1 | refine bset ?_ GE357.out | refine bset ?_ GE358.out | refine bset ?_ GE359.out | refine bset ?_ GE367.out) | exact HB.out)) hb)
                  clear HO_360002
                  clear BK357
                  clear BK358
                  clear BK359
                  clear BK367
                  clear HB
                  have HO_360002 := n0_
                  have HO372 := n1_
                  have BK357 := n2_
                  have BK358 := n3_
                  have BK359 := n4_
                  have BK367 := n5_
                  have HB := n6_
                  clear n0_ n1_ n2_ n3_ n4_ n5_ n6_
                  (try clear hb)
                  (try clear hb2)
                  (try clear hk)
                  (try clear hi)
                  (try clear ho0)
                  obtain ⟨Ao41, co41, eo41⟩ := Kd.R_slice HO372.out
                  (first | subst eo41 | (injection eo41 with f1_ f2_ f3_; have f4_ := f1_.symm; have f5_ := f3_.symm; clear f1_ f2_ f3_; subst f4_; subst f5_))
                  refine hK.out _ _ ⟨(blk_cell BK359.out 0).trans rfl, (blk_cell BK359.out 1).trans rfl, (blk_cell BK359.out 2).trans rfl, (blk_cell BK367.out 0).trans rfl, (blk_cell BK367.out 1).trans rfl, (blk_cell BK367.out 2).trans rfl⟩ (fun hHeld => ?_)
                  clear hK K
                  refine norm_ (a' := ?_) ?_ ?_
                  rotate_left
                  · show Act.put _ (some 33) _ = _
                    simp only [Act.put, List.setIfInBounds_toArray, List.set_cons_zero, List.set_cons_succ, i64_w, i32_w]
                    rfl
                  refine one_ (i := 5) (N := some 34) #[true, true, true, true, true, true, false, false, false] rfl rfl (one_of HT_.out (by kernel_rfl)) (by decide) (fun K hK => ?_)
                  refine value_ (w1 := ?_) (v := ?_) (by rfl) rfl ?_ ?_
                  rotate_left 2
                  · go_simp
                    constructor
                    · rfl
                    · rfl
                  refine hK.out _ _ ⟨(blk_cell (bkA BK359.out _) 0).trans rfl, (blk_cell (bkA BK359.out _) 1).trans rfl, (blk_cell (bkA BK359.out _) 2).trans rfl, (blk_cell (bkA BK367.out _) 0).trans rfl, (blk_cell (bkA BK367.out _) 1).trans rfl, (blk_cell (bkA BK367.out _) 2).trans rfl⟩ (fun hHeld => ?_)
                  clear hK K
                  refine norm_ (a' := ?_) ?_ ?_
                  rotate_left
                  · show Act.put _ (some 34) _ = _
                    simp only [Act.put, List.setIfInBounds_toArray, List.set_cons_zero, List.set_cons_succ, i64_w, i32_w]
                    rfl
                  refine one_ (i := 6) (N := some 35) #[true, true, true, true, true, true, true, false, false] rfl rfl (one_of HT_.out (by kernel_rfl)) (by decide) (fun K hK => ?_)
                  refine Kd.R_append_step k28 (w0 := w) w.heap.size (by rfl) (.tmp 30) (.tmp 34) 26 28 (.agg #[(.int .i64 0), (.int .i64 0), (.slice none 0 0)]) 40 rfl Try.underlying26 info28 rfl (by decide) (by omega) u360002 x360002_2 (⟨t368, t369, t370⟩ : S28) [.int .i64 t368, .int .i64 t369, .slice Ao41 t370.length co41] (fun k_ => k_ ≠ gb357 ∧ k_ ≠ gb358 ∧ k_ ≠ gb359 ∧ k_ ≠ gb367) (fun k_ => ((fun k_ => k_ ≠ gb357 ∧ k_ ≠ gb358 ∧ k_ ≠ gb359 ∧ k_ ≠ gb367)) k_ ∧ some k_ ≠ (u360002 : Value).ownBlock) rfl rfl ?aP (fun _ hk => hk) ?aF ?aO ?aB ?aS ?aL ?_
                  (case aP => exact k28_mkM _ _ _ (⟨t368, t369, t370⟩ : S28) (Kd.R_mono (HO372.out) (fun k_ hk => ⟨⟨hk.1.1.1.2, ⟨hk.1.1.2, ⟨hk.1.2, hk.2⟩⟩⟩, hk.1.1.1.1.2⟩)))
                  (case aB => exact (by repeat (first | (with_reducible first | exact HB.out | apply bal | apply pwN | apply bd1 | refine bset ?_ GE357.out | refine bset ?_ GE358.out | refine bset ?_ GE359.out | refine bset ?_ GE367.out) | exact HB.out)))
                  (case aF => exact (fun k_ hk => ⟨Kd.freshB (g := gb357) (o := .cells #[.int .i64 a0_0, .int .i64 a0_1, .slice (some ad366) l0_2.length c0_2] 28 (0, 0)) (by (with_reducible repeat (first | refine bdN ?_ _ | refine blk_drew ?_ | refine bkA ?_ _)); exact BK357.out) k_ hk, Kd.freshB (g := gb358) (o := .cells #[.int .i64 0, .int .i64 0, .slice none 0 0] 28 (0, 0)) (by (with_reducible repeat (first | refine bdN ?_ _ | refine blk_drew ?_ | refine bkA ?_ _)); exact BK358.out) k_ hk, Kd.freshB (g := gb359) (o := .cells #[.int .i64 x360000_2, .int .i64 x360001_2, u360002] 28 (0, 0)) (by (with_reducible repeat (first | refine bdN ?_ _ | refine blk_drew ?_ | refine bkA ?_ _)); exact BK359.out) k_ hk, Kd.freshB (g := gb367) (o := .cells #[.int .i64 ((rd_T28 l0_2 x25_2).f0), .int .i64 ((rd_T28 l0_2 x25_2).f1), .slice A366_2 ((rd_T28 l0_2 x25_2).f2).length c366_2] 28 (0, 0)) (by (with_reducible repeat (first | refine bdN ?_ _ | refine blk_drew ?_ | refine bkA ?_ _)); exact BK367.out) k_ hk⟩))
                  (case aO => exact (by (with_reducible repeat (first | apply Kd.R_alloc | apply Kd.R_drewN | apply Kd.R_drew)); exact Kd.R_mono HO_360002.out (fun _ hk => ⟨hk.1.1, ⟨hk.1.2.1, ⟨hk.1.2.2.1, hk.1.2.2.2⟩⟩⟩)))
                  (case aS => exact (below_size (by repeat (first | (with_reducible first | exact HB.out | apply bal | apply pwN | apply bd1 | refine bset ?_ GE357.out | refine bset ?_ GE358.out | refine bset ?_ GE359.out | refine bset ?_ GE367.out) | exact HB.out))))
                  (case aL => have := LMc31.out; omega)
                  intro v374 w40 ho hb hg hat
                  rw [← Ny373.out] at ho
                  have n0_ := Az.mk (blk_grown (g := gb357) (o := .cells #[.int .i64 a0_0, .int .i64 a0_1, .slice (some ad366) l0_2.length c0_2] 28 (0, 0)) (by (with_reducible repeat (first | refine bdN ?_ _ | refine blk_drew ?_ | refine bkA ?_ _)); exact BK357.out) hg (Kd.R_away HO_360002.out (fun _ hk => hk.1.1)))
                  have n1_ := Az.mk (blk_grown (g := gb358) (o := .cells #[.int .i64 0, .int .i64 0, .slice none 0 0] 28 (0, 0)) (by (with_reducible repeat (first | refine bdN ?_ _ | refine blk_drew ?_ | refine bkA ?_ _)); exact BK358.out) hg (Kd.R_away HO_360002.out (fun _ hk => hk.1.2.1)))
                  have n2_ := Az.mk (blk_grown (g := gb359) (o := .cells #[.int .i64 x360000_2, .int .i64 x360001_2, u360002] 28 (0, 0)) (by (with_reducible repeat (first | refine bdN ?_ _ | refine blk_drew ?_ | refine bkA ?_ _)); exact BK359.out) hg (Kd.R_away HO_360002.out (fun _ hk => hk.1.2.2.1)))
                  have n3_ := Az.mk (blk_grown (g := gb367) (o := .cells #[.int .i64 ((rd_T28 l0_2 x25_2).f0), .int .i64 ((rd_T28 l0_2 x25_2).f1), .slice A366_2 ((rd_T28 l0_2 x25_2).f2).length c366_2] 28 (0, 0)) (by (with_reducible repeat (first | refine bdN ?_ _ | refine blk_drew ?_ | refine bkA ?_ _)); exact BK367.out) hg (Kd.R_away HO_360002.out (fun _ hk => hk.1.2.2.2)))
                  have n4_ := Az.mk (hb)
                  have n5_ := Az.mk (ho)
                  clear BK357
                  clear BK358
                  clear BK359
                  clear BK367
                  clear HB
                  clear HO_360002
                  clear HO372
                  have BK357 := n0_
                  have BK358 := n1_
                  have BK359 := n2_
                  have BK367 := n3_
                  have HB := n4_
                  have HO375 := n5_
                  clear n0_ n1_ n2_ n3_ n4_ n5_
                  clear ho hb hg hat
                  obtain ⟨Ao42, co42, eo42⟩ := Kd.R_slice HO375.out
                  (first | subst eo42 | (injection eo42 with f1_ f2_ f3_; have f4_ := f1_.symm; have f5_ := f3_.symm; clear f1_ f2_ f3_; subst f4_; subst f5_))
                  refine hK.out _ _ ⟨(blk_cell BK359.out 0).trans rfl, (blk_cell BK359.out 1).trans rfl, (blk_cell BK359.out 2).trans rfl, (blk_cell BK367.out 0).trans rfl, (blk_cell BK367.out 1).trans rfl, (blk_cell BK367.out 2).trans rfl⟩ (fun hHeld => ?_)
                  clear hK K
                  refine norm_ (a' := ?_) ?_ ?_
                  rotate_left
                  · show Act.put _ (some 35) _ = _
                    simp only [Act.put, List.setIfInBounds_toArray, List.set_cons_zero, List.set_cons_succ, i64_w, i32_w]
                    rfl
                  refine pure_ (i := 7) (N := some 36) (v := ?_) (a' := ?_) #[true, true, true, true, true, true, true, true, false] rfl rfl (any_of HT_.out (by kernel_rfl)) (fun _ _ _ h => h) (Or.inl ⟨by rfl, ?_⟩) ?_ ?_
                  rotate_left
                  · intro w'
                    go_simp
                    with_reducible rfl
                  rotate_left
                  · simp only [Act.put, List.setIfInBounds_toArray, List.set_cons_zero, List.set_cons_succ, i64_w, i32_w]
                    rfl
                  refine last_ (i := 8) (N := none) #[true, true, true, true, true, true, true, true, true] rfl rfl (one_of HT_.out (by kernel_rfl)) (by decide) (fun K hK => ?_)
                  have hs43 : w40.cell? ⟨gb359, 2, none⟩ = some (u360002) := (blk_cell BK359.out 2).trans rfl
                  have hfs43 := bkF BK359.out 2
                  have hns43_0 := NB357_359.out
                  have hns43_1 := NB358_359.out
                  have hns43_3 := NB367_359.out
                  have hms43_0 := NB359_357.out
                  have hms43_1 := NB359_358.out
                  have hms43_3 := NB359_367.out
                  refine skip_ (w1 := ?_) (by rfl) rfl ?_ ?_
                  rotate_left
                  · go_simp
                    rfl
                  refine hK.out _ _ ?_
                  clear hK K
                  refine done_ (done_of HT_.out (by kernel_rfl)) ?_
                  try go_wp2
                  go_roundg k2
                  case measure => have := HJ2.out; have := HK2.out; omega
                  case rel => exact ⟨(wrap64 (x25_2 + 1)), (y373), (.slice Ao42 y373.length co42), (by first | rfl | (simp; done) | (simp [*]; done)), H', ⟨by have := HJ2.out; have := HK2.out; omega⟩, ⟨by (with_reducible repeat (first | apply Kd.R_alloc | apply Kd.R_drewN | apply Kd.R_drew)); exact Kd.R_mono (Kd.R_far (p := ⟨gb359, 2, none⟩) (Kd.R_mono HO375.out (fun k_ hk => (⟨hk, hk.2.2.1⟩ : _ ∧ k_ ≠ gb359))) (fun _ hk => hk.2) (.slice Ao42 y373.length co42)) (fun _ hk => ⟨hk.1.1, ⟨hk.1.2.1, hk.1.2.2.1⟩⟩)⟩, ⟨by (with_reducible repeat (first | refine bdN ?_ _ | refine blk_drew ?_ | refine bkA ?_ _)); refine blk_far ?_ NB357_359.out _; (with_reducible repeat (first | refine bdN ?_ _ | refine blk_drew ?_ | refine bkA ?_ _)); exact BK357.out⟩, ⟨by (with_reducible repeat (first | refine bdN ?_ _ | refine blk_drew ?_ | refine bkA ?_ _)); refine blk_far ?_ NB358_359.out _; (with_reducible repeat (first | refine bdN ?_ _ | refine blk_drew ?_ | refine bkA ?_ _)); exact BK358.out⟩, ⟨by (with_reducible repeat (first | refine bdN ?_ _ | refine blk_drew ?_ | refine bkA ?_ _)); refine blk_put (cs := #[.int .i64 x360000_2, .int .i64 x360001_2, u360002]) ?_ 2 _ rfl; (with_reducible repeat (first | refine bdN ?_ _ | refine blk_drew ?_ | refine bkA ?_ _)); exact BK359.out⟩, ⟨by repeat (first | (with_reducible first | exact HB.out | apply bal | apply pwN | apply bd1 | refine bset ?_ GE357.out | refine bset ?_ GE358.out | refine bset ?_ GE359.out | refine bset ?_ GE367.out) | exact HB.out)⟩⟩
                · rw [if_neg c31] at H
                  exact absurd H (by simp)
              · rw [if_neg c29] at H
                exact absurd H (by simp)
            · rw [if_neg c28] at H
              exact absurd H (by simp)
          · rw [if_neg c27] at H
            have c27b0 : decide (x25_2 < (l0_2.length : Int)) = false := decide_eq_false c27
            clear c27
            simp only [Option.some.injEq, Prod.mk.injEq] at H
            obtain ⟨rfl, rfl, rfl⟩ := H
            have hnb44 := NB359_357.out
            have hnc44 := NB357_359.out
            have hnb45 := NB359_358.out
            have hnc45 := NB358_359.out
            have hcz46_0 : wr.cell? ⟨gb359, 0, none⟩ = some (.int .i64 x360000_2) := (blk_cell BK359.out 0).trans rfl
            have hcz46_1 : wr.cell? ⟨gb359, 1, none⟩ = some (.int .i64 x360001_2) := (blk_cell BK359.out 1).trans rfl
            have hcz46_2 : wr.cell? ⟨gb359, 2, none⟩ = some (u360002) := (blk_cell BK359.out 2).trans rfl
            have hfz46_0 := bkF BK359.out 0
            have hfz46_1 := bkF BK359.out 1
            have hfz46_2 := bkF BK359.out 2
            have hnb47 := NB358_357.out
            have hnc47 := NB357_358.out
            have hcz48_0 : wr.cell? ⟨gb358, 0, none⟩ = some (.int .i64 0) := (blk_cell BK358.out 0).trans rfl
            have hcz48_1 : wr.cell? ⟨gb358, 1, none⟩ = some (.int .i64 0) := (blk_cell BK358.out 1).trans rfl
            have hcz48_2 : wr.cell? ⟨gb358, 2, none⟩ = some (.slice none 0 0) := (blk_cell BK358.out 2).trans rfl
            have hfz48_0 := bkF BK358.out 0
            have hfz48_1 := bkF BK358.out 1
            have hfz48_2 := bkF BK358.out 2
            obtain ⟨Ao49, co49, eo49⟩ := Kd.R_slice HO_360002.out
            subst eo49
            go_wp2
            refine bodyPost_ret (results_cell_row rfl _ _ gb358 28 #[.int .i64 x360000_2, .int .i64 x360001_2, .slice Ao49 x360002_2.length co49] (0, 0) _ rfl (by (with_reducible repeat (first | refine bdN ?_ _ | refine blk_drew ?_ | refine bkA ?_ _)); refine blk_put (cs := #[.int .i64 x360000_2, .int .i64 x360001_2, .slice none 0 0]) ?_ 2 _ rfl; (with_reducible repeat (first | refine bdN ?_ _ | refine blk_drew ?_ | refine bkA ?_ _)); refine blk_put (cs := #[.int .i64 x360000_2, .int .i64 0, .slice none 0 0]) ?_ 1 _ rfl; (with_reducible repeat (first | refine bdN ?_ _ | refine blk_drew ?_ | refine bkA ?_ _)); refine blk_put (cs := #[.int .i64 0, .int .i64 0, .slice none 0 0]) ?_ 0 _ rfl; (with_reducible repeat (first | refine bdN ?_ _ | refine blk_drew ?_ | refine bkA ?_ _)); exact BK358.out) Try.underlying28 rfl (by kernel_rfl)) rfl ?_
            exact ⟨_, by first | rfl | (simp [errW_none, errW_some] <;> rfl) | (simp [*, errW_none, errW_some] <;> rfl), by (with_reducible repeat (first | apply Kd.R_alloc | apply Kd.R_drewN | apply Kd.R_drew)); exact Kd.R_mono (Kd.R_far (p := ⟨gb358, 2, none⟩) (Kd.R_far (p := ⟨gb358, 1, none⟩) (Kd.R_far (p := ⟨gb358, 0, none⟩) (Kd.R_mono HO_360002.out (fun k_ hk => (⟨hk, hk.2.1⟩ : _ ∧ k_ ≠ gb358))) (fun _ hk => hk.2) (.int .i64 x360000_2)) (fun _ hk => hk.2) (.int .i64 x360001_2)) (fun _ hk => hk.2) (.slice Ao49 x360002_2.length co49)) (fun _ hk => trivial), by repeat (first | (with_reducible first | exact HB.out | apply bal | apply pwN | apply bd1 | refine bset ?_ GE357.out | refine bset ?_ GE358.out | refine bset ?_ GE359.out) | exact HB.out)⟩
end Go.Proofs.Ytnfgpepggehegaa.I
namespace Go.Proofs.Ytnfgpepggehegaa.I
open Go.RowKit Go.Proofs.YtnfgpepggehegaaW.PrintWords Go.Proofs.YtnfgpepggehegaaW.PrintLast Go.Proofs.YtnfgpepggehegaaW.PrintMore
attribute [local go_sem] max2_int min2_int max_two min_two max_three min_three max_four min_four   -- for this text's walks alone
set_option linter.unusedVariables false
set_option linter.unusedSimpArgs false
def virgationlaw05_ints.l0 : Nat → List Int → List Int → Int → Int → Option (Bool)
  | 0, _, _, _, _ => none
  | k + 1, x0, x1, x12, x13 => if x13 < x12 then (if 0 ≤ x13 then (if x13 < (x0.length : Int) then (if x13 < (x1.length : Int) then (if (rd x0 x13) = (rd x1 x13) then (virgationlaw05_ints.l0 k x0 x1 x12 (wrap64 (x13 + 1))) else (some false)) else (none)) else (none)) else (none)) else (some true)
def virgationlaw05_ints.f (k : Nat) (l0 : List Int) (l1 : List Int) : Option (Bool) := if (l0.length : Int) = (l1.length : Int) then (virgationlaw05_ints.l0 k l0 l1 (l0.length : Int) 0) else (some false)
set_option maxHeartbeats 8000000 in
set_option maxRecDepth 100000 in
theorem virgationlaw05_ints.calls (k : Nat) (A0 : Option Addr) (c0 : Nat) (l0 : List Int) (A1 : Option Addr) (c1 : Nat) (l1 : List Int) (r : Bool) (w : World) (hr0 : Kd.C (Kd.int .i64) w A0 l0.length l0) (hc0 : l0.length ≤ c0) (hr1 : Kd.C (Kd.int .i64) w A1 l1.length l1) (hc1 : l1.length ≤ c1) (h : virgationlaw05_ints.f k l0 l1 = some r) :
    Calls Try.prog 21 #[.slice A0 l0.length c0, .slice A1 l1.length c1] w fun e w' => e = .returned (.bool r) ∧ Drawn0 w w' := by
  have HR0 := Az.mk hr0
  have HC0 := Az.mk hc0
  clear hr0 hc0
  have HR1 := Az.mk hr1
  have HC1 := Az.mk hc1
  clear hr1 hc1
  have H : (if (l0.length : Int) = (l1.length : Int) then (virgationlaw05_ints.l0 k l0 l1 (l0.length : Int) 0) else (some false)) = some r := h
  clear h
  by_cases c3 : (l0.length : Int) = (l1.length : Int)
  · rw [if_pos c3] at H
    have c3b0 : ((l0.length : Int) == (l1.length : Int)) = true := beq_iff_eq.mpr c3
    have c3b1 : ((l0.length : Int) != (l1.length : Int)) = false := bne_eq_false_iff_eq.mpr c3
    have c3b2 : (l0.length == l1.length) = true := by first | simpa using c3 | (simp at c3 ⊢; omega)
    clear c3
    have H' := Az.mk H
    clear H
    go_enter Try.func21, Try.ntmps21
    go_wp2
    repeat (go_quiet (fail); try go_wp2)
    go_loopg [13] k (fun kq v13 w' => ∃ (x13_1 : Int), v13 = .int .i64 x13_1 ∧ Az (virgationlaw05_ints.l0 kq l0 l1 (l0.length : Int) x13_1 = some r) ∧ Az (kq ≤ k) ∧ Drawn0 w w')
    case atStart => exact ⟨(0), (by first | rfl | (simp; done) | (simp [*]; done)), H', ⟨Nat.le_refl _⟩, by repeat (first | exact Drawn0.refl _ | apply Drawn0.step)⟩
    case round =>
      clear H'
      try clear c1
      try clear c2
      try clear p2
      try clear c3
      try clear c3b0
      try clear c3b1
      try clear c3b2
      obtain ⟨x13_1, rfl, HA, HK1, ⟨m1, rfl⟩⟩ := hrel
      cases gk with
      | zero => exact absurd HA.out (by simp [virgationlaw05_ints.l0])
      | succ k1 =>
        have H := HA.out
        clear HA
        simp only [virgationlaw05_ints.l0] at H
        by_cases c4 : x13_1 < (l0.length : Int)
        · rw [if_pos c4] at H
          have c4b0 : decide (x13_1 < (l0.length : Int)) = true := decide_eq_true c4
          clear c4
          by_cases c5 : 0 ≤ x13_1
          · rw [if_pos c5] at H
            have c5b0 : decide (0 ≤ x13_1) = true := decide_eq_true c5
            clear c5
            by_cases c6 : x13_1 < (l0.length : Int)
            · rw [if_pos c6] at H
              have c6b0 : decide (x13_1 < (l0.length : Int)) = true := decide_eq_true c6
              clear c6
              by_cases c7 : x13_1 < (l1.length : Int)
              · rw [if_pos c7] at H
                have c7b0 : decide (x13_1 < (l1.length : Int)) = true := decide_eq_true c7
                clear c7
                by_cases c8 : (rd l0 x13_1) = (rd l1 x13_1)
                · rw [if_pos c8] at H
                  have c8b0 : ((rd l0 x13_1) == (rd l1 x13_1)) = true := beq_iff_eq.mpr c8
                  have c8b1 : ((rd l0 x13_1) != (rd l1 x13_1)) = false := bne_eq_false_iff_eq.mpr c8
                  clear c8
                  have H' := Az.mk H
                  clear H
                  have p426 : 0 ≤ (x13_1 : Int) := of_decide_eq_true (by first | (with_reducible assumption) | assumption)
                  have q426 : x13_1 < (l0.length : Int) := of_decide_eq_true (by first | (with_reducible assumption) | assumption)
                  obtain ⟨ad426, e426, hx426_0⟩ := Kd.at_int HR0.out x13_1 p426 q426
                  cases e426
                  replace p426 := eq_true p426
                  replace q426 := eq_true q426
                  have p427 : 0 ≤ (x13_1 : Int) := of_decide_eq_true (by first | (with_reducible assumption) | assumption)
                  have q427 : x13_1 < (l1.length : Int) := of_decide_eq_true (by first | (with_reducible assumption) | assumption)
                  obtain ⟨ad427, e427, hx427_0⟩ := Kd.at_int HR1.out x13_1 p427 q427
                  cases e427
                  replace p427 := eq_true p427
                  replace q427 := eq_true q427
                  go_wp2
                  repeat (go_quiet (fail); try go_wp2)
                  go_roundg k1
                  case measure => have := HK1.out; omega
                  case rel => exact ⟨(wrap64 (x13_1 + 1)), (by first | rfl | (simp; done) | (simp [*]; done)), H', ⟨by have := HK1.out; omega⟩, by repeat (first | exact Drawn0.refl _ | apply Drawn0.step)⟩
                · rw [if_neg c8] at H
                  have c8b0 : ((rd l0 x13_1) == (rd l1 x13_1)) = false := beq_eq_false_iff_ne.mpr c8
                  have c8b1 : ((rd l0 x13_1) != (rd l1 x13_1)) = true := bne_iff_ne.mpr c8
                  obtain rfl := Option.some.inj H
                  have p426 : 0 ≤ (x13_1 : Int) := of_decide_eq_true (by first | (with_reducible assumption) | assumption)
                  have q426 : x13_1 < (l0.length : Int) := of_decide_eq_true (by first | (with_reducible assumption) | assumption)
                  obtain ⟨ad426, e426, hx426_0⟩ := Kd.at_int HR0.out x13_1 p426 q426
                  cases e426
                  replace p426 := eq_true p426
                  replace q426 := eq_true q426
                  have p427 : 0 ≤ (x13_1 : Int) := of_decide_eq_true (by first | (with_reducible assumption) | assumption)
                  have q427 : x13_1 < (l1.length : Int) := of_decide_eq_true (by first | (with_reducible assumption) | assumption)
                  obtain ⟨ad427, e427, hx427_0⟩ := Kd.at_int HR1.out x13_1 p427 q427
                  cases e427
                  replace p427 := eq_true p427
                  replace q427 := eq_true q427
                  go_wp2
                  repeat (go_quiet (fail); try go_wp2)
                  go_ret
                  exact ⟨by first | rfl | (simp; done) | (simp [*]; done), by repeat (first | exact Drawn0.refl _ | apply Drawn0.step)⟩
              · rw [if_neg c7] at H
                exact absurd H (by simp)
            · rw [if_neg c6] at H
              exact absurd H (by simp)
          · rw [if_neg c5] at H
            exact absurd H (by simp)
        · rw [if_neg c4] at H
          have c4b0 : decide (x13_1 < (l0.length : Int)) = false := decide_eq_false c4
          clear c4
          obtain rfl := Option.some.inj H
          go_wp2
          repeat (go_quiet (fail); try go_wp2)
          go_ret
          exact ⟨by first | rfl | (simp; done) | (simp [*]; done), by repeat (first | exact Drawn0.refl _ | apply Drawn0.step)⟩
  · rw [if_neg c3] at H
    have c3b0 : ((l0.length : Int) == (l1.length : Int)) = false := beq_eq_false_iff_ne.mpr c3
    have c3b1 : ((l0.length : Int) != (l1.length : Int)) = true := bne_iff_ne.mpr c3
    have c3b2 : (l0.length == l1.length) = false := by first | simpa using c3 | (simp at c3 ⊢; omega)
    obtain rfl := Option.some.inj H
    go_enter Try.func21, Try.ntmps21
    go_wp2
    repeat (go_quiet (fail); try go_wp2)
    go_ret
    exact ⟨by first | rfl | (simp; done) | (simp [*]; done), by repeat (first | exact Drawn0.refl _ | apply Drawn0.step)⟩
end Go.Proofs.Ytnfgpepggehegaa.I
namespace Go.Proofs.Ytnfgpepggehegaa.I
open Go.RowKit Go.Proofs.YtnfgpepggehegaaW.PrintWords Go.Proofs.YtnfgpepggehegaaW.PrintLast Go.Proofs.YtnfgpepggehegaaW.PrintMore
set_option linter.unusedVariables false
set_option linter.unusedSimpArgs false
theorem mn_min (a b : Int) : mn a b = min a b := by unfold mn; split <;> omega
theorem tcntL_app : ∀ (l m : List S28), tcntL (l ++ m) = tcntL l + tcntL m
  | [], m => by rw [List.nil_append, tcntL]; omega
  | x :: xs, m => by rw [List.cons_append, tcntL, tcntL, tcntL_app xs m]; omega
theorem rd_T28_at {l : List S28} {i : Nat} (h : i < l.length) : rd_T28 l (i : Int) = l[i] := by unfold rd_T28; rw [Int.toNat_natCast, List.getD_eq_getElem?_getD, List.getElem?_eq_getElem h]; rfl
theorem subL_drop (ps : List S28) {l : List S28} {i : Nat} (h : i < l.length) : subL ps (l.drop i) = subT ps (rd_T28 l (i : Int)) :: subL ps (l.drop (i + 1)) := by
  rw [rd_T28_at h, List.drop_eq_getElem_cons h, subL]
theorem tcntT (k n : Int) (l : List S28) : tcnt ⟨k, n, l⟩ = 1 + tcntL l := tcnt_f2 ⟨k, n, l⟩
def hdN (ps : List S28) (a b : Int) : Int := if a = 0 then tcnt (rd_T28 ps b) else 1
theorem tcnt_sub (ps : List S28) (a b : Int) (l : List S28) : tcnt (subT ps ⟨a, b, l⟩) = hdN ps a b + tcntL (subL ps l) := by
  unfold subT hdN
  split
  · rw [tcntT, tcntL_app]
    have := tcnt_f2 (rd_T28 ps b)
    omega
  · rw [tcntT]
theorem okL_take {m : Int} {l : List S28} (h : okL m l = true) {i : Nat} (hi : i < l.length) : okT m (rd_T28 l (i : Int)) = true := by
  rw [rd_T28_at hi]; exact okL_at m l h i hi
theorem grown_ev (ps : List S28) (zs : List Int) (hz : zs.length = ps.length) (hzs : ∀ n : Int, 0 ≤ n → n < (ps.length : Int) → rd zs n = tcnt (rd_T28 ps n) ∧ tcnt (rd_T28 ps n) ≤ 100000) (N : Nat) :
    ∀ (a b : Int) (l : List S28), SizeOf.sizeOf l < N → okT (ps.length : Int) ⟨a, b, l⟩ = true → tcntL l ≤ 1000000 → Ev (fun k => virgationref02_grown.f k a b l zs) (min (tcnt (subT ps ⟨a, b, l⟩)) 100001) := by
  induction N with
  | zero => intro a b l h; omega
  | succ N ih =>
  intro a b l hN hok hlen
  obtain ⟨h0, hokl⟩ := okT_at hok
  have hlg := tcntL_ge l
  have loop : ∀ (n i : Nat) (x5 : Int), l.length - i = n → i ≤ l.length → 0 ≤ x5 → x5 ≤ 100001 → Ev (fun k => virgationref02_grown.l0 k zs x5 l (l.length : Int) (i : Int)) (min (x5 + tcntL (subL ps (l.drop i))) 100001) := by
    intro n
    induction n with
    | zero =>
      intro i x5 hn hi h2 h3
      have hd : l.drop i = [] := List.drop_eq_nil_of_le (by omega)
      rw [hd, show min (x5 + tcntL (subL ps [])) 100001 = x5 from by rw [subL, tcntL]; omega]
      exact Ev.step (fun k => by rw [virgationref02_grown.l0, if_neg (by omega)]) (Ev.now _)
    | succ n ihn =>
      intro i x5 hn hi h2 h3
      have hil : i < l.length := by omega
      have hch := tcnt_child l i hil
      have hge := tcnt_ge (subT ps (rd_T28 l (i : Int)))
      have hge2 := tcntL_ge (subL ps (l.drop (i + 1)))
      refine Ev.step (fun k => by rw [virgationref02_grown.l0, if_pos (by omega), if_pos (by omega), if_pos (by omega)]) ?_
      refine Ev.bind (a := min (tcnt (subT ps (rd_T28 l (i : Int)))) 100001) ?_ ?_
      · have hx := ih (rd_T28 l (i : Int)).f0 (rd_T28 l (i : Int)).f1 (rd_T28 l (i : Int)).f2 (by have := rd_T28_mem l i hil; omega) (by have := okL_take hokl hil; cases hy : rd_T28 l (i : Int); rw [hy] at this; exact this) (by omega)
        have e : (⟨(rd_T28 l (i : Int)).f0, (rd_T28 l (i : Int)).f1, (rd_T28 l (i : Int)).f2⟩ : S28) = rd_T28 l (i : Int) := by cases rd_T28 l (i : Int); rfl
        rw [e] at hx
        exact hx
      · rw [w64 _ (by omega), w64 _ (by omega), mn_min, subL_drop ps hil, tcntL]
        have := ihn (i + 1) (min (x5 + min (tcnt (subT ps (rd_T28 l (i : Int)))) 100001) 100001) (by omega) (by omega) (by omega) (by omega)
        rw [show ((i + 1 : Nat) : Int) = (i : Int) + 1 from rfl] at this
        rw [show min (x5 + (tcnt (subT ps (rd_T28 l (i : Int))) + tcntL (subL ps (l.drop (i + 1))))) 100001 = min (min (x5 + min (tcnt (subT ps (rd_T28 l (i : Int)))) 100001) 100001 + tcntL (subL ps (l.drop (i + 1)))) 100001 from by omega]
        exact this
  rw [tcnt_sub]
  have hl0 := loop l.length 0
  rw [List.drop_zero] at hl0
  have hgs := tcntL_ge (subL ps l)
  by_cases ha : a = 0
  · obtain ⟨hb0, hb1⟩ := h0 ha
    obtain ⟨hr, hr1⟩ := hzs b hb0 hb1
    have hg := tcnt_ge (rd_T28 ps b)
    refine Ev.step (fun k => by rw [virgationref02_grown.f, if_pos ha, if_pos hb0, if_pos (by omega)]) ?_
    refine Ev.step (fun k => by rw [virgationref02_grown.j0]) ?_
    rw [hr]
    unfold hdN
    rw [if_pos ha]
    exact hl0 _ (by omega) (by omega) (by omega) (by omega)
  · refine Ev.step (fun k => by rw [virgationref02_grown.f, if_neg ha]) ?_
    refine Ev.step (fun k => by rw [virgationref02_grown.j0]) ?_
    unfold hdN
    rw [if_neg ha]
    exact hl0 _ (by omega) (by omega) (by omega) (by omega)
theorem copy_f {a b : Int} {l : List S28} (h : tcntL l ≤ 1000000) : virgationref02_Copy.f a b l = some (a, b, l) := by unfold virgationref02_Copy.f; rw [if_pos h]
theorem replace_ev (ps : List S28) (hps : ∀ n : Int, 0 ≤ n → n < (ps.length : Int) → tcnt (rd_T28 ps n) ≤ 100000) (N : Nat) :
    ∀ (a b : Int) (l : List S28), SizeOf.sizeOf l < N → okT (ps.length : Int) ⟨a, b, l⟩ = true → tcnt (subT ps ⟨a, b, l⟩) ≤ 100000 → Ev (fun k => virgationref02_Replace.f k a b l ps) ((subT ps ⟨a, b, l⟩).f0, (subT ps ⟨a, b, l⟩).f1, (subT ps ⟨a, b, l⟩).f2) := by
  induction N with
  | zero => intro a b l h; omega
  | succ N ih =>
  intro a b l hN hok hsz
  obtain ⟨h0, hokl⟩ := okT_at hok
  rw [tcnt_sub] at hsz
  have hsl : tcntL (subL ps l) ≤ 100000 := by
    have : 0 ≤ hdN ps a b := by unfold hdN; split; · have := tcnt_ge (rd_T28 ps b); omega
                                · omega
    omega
  have hll := tcntL_ge (subL ps l)
  rw [subL_len] at hll
  have loop : ∀ (n i : Nat) (u v : Int) (x : List S28), l.length - i = n → i ≤ l.length → x.length + (l.length - i) ≤ 200000 → tcntL (subL ps (l.drop i)) ≤ 100000 → Ev (fun k => virgationref02_Replace.l0 k ps l (l.length : Int) (i : Int) u v x) (u, v, x ++ subL ps (l.drop i)) := by
    intro n
    induction n with
    | zero =>
      intro i u v x hn hi h2 h3
      have hd : l.drop i = [] := List.drop_eq_nil_of_le (by omega)
      rw [hd, subL, List.append_nil]
      exact Ev.step (fun k => by rw [virgationref02_Replace.l0, if_neg (by omega)]) (Ev.now _)
    | succ n ihn =>
      intro i u v x hn hi h2 h3
      have hil : i < l.length := by omega
      rw [subL_drop ps hil, tcntL] at h3
      have hge := tcnt_ge (subT ps (rd_T28 l (i : Int)))
      have hge2 := tcntL_ge (subL ps (l.drop (i + 1)))
      have e : (⟨(rd_T28 l (i : Int)).f0, (rd_T28 l (i : Int)).f1, (rd_T28 l (i : Int)).f2⟩ : S28) = rd_T28 l (i : Int) := by cases rd_T28 l (i : Int); rfl
      refine Ev.step (fun k => by rw [virgationref02_Replace.l0, if_pos (by omega), if_pos (by omega), if_pos (by omega)]) ?_
      refine Ev.bind (a := ((subT ps (rd_T28 l (i : Int))).f0, (subT ps (rd_T28 l (i : Int))).f1, (subT ps (rd_T28 l (i : Int))).f2)) ?_ ?_
      · have hx := ih (rd_T28 l (i : Int)).f0 (rd_T28 l (i : Int)).f1 (rd_T28 l (i : Int)).f2 (by have := rd_T28_mem l i hil; omega) (by rw [e]; exact okL_take hokl hil) (by rw [e]; omega)
        rw [e] at hx
        exact hx
      · refine Ev.ifp (by omega) ?_
        have e2 : (⟨(subT ps (rd_T28 l (i : Int))).f0, (subT ps (rd_T28 l (i : Int))).f1, (subT ps (rd_T28 l (i : Int))).f2⟩ : S28) = subT ps (rd_T28 l (i : Int)) := by cases subT ps (rd_T28 l (i : Int)); rfl
        rw [w64 _ (by omega), subL_drop ps hil]
        simp only
        rw [e2]
        have := ihn (i + 1) u v (x ++ [subT ps (rd_T28 l (i : Int))]) (by omega) (by omega) (by rw [List.length_append, List.length_singleton]; omega) (by omega)
        rw [List.append_assoc, show ((i + 1 : Nat) : Int) = (i : Int) + 1 from rfl] at this
        exact this
  have hl0 := loop l.length 0
  rw [List.drop_zero] at hl0
  by_cases ha : a = 0
  · obtain ⟨hb0, hb1⟩ := h0 ha
    have hr1 := hps b hb0 hb1
    have hg := tcnt_f2 (rd_T28 ps b)
    have hg2 := tcntL_ge (rd_T28 ps b).f2
    unfold subT
    rw [if_pos ha]
    refine Ev.step (fun k => by rw [virgationref02_Replace.f, if_pos ha, if_pos hb0, if_pos (by omega)]) ?_
    rw [copy_f (by omega)]
    refine Ev.bind (Ev.now _) ?_
    refine Ev.step (fun k => by rw [virgationref02_Replace.j0]) ?_
    exact hl0 (rd_T28 ps b).f0 (rd_T28 ps b).f1 (rd_T28 ps b).f2 (by omega) (by omega) (by omega) (by omega)
  · unfold subT
    rw [if_neg ha]
    refine Ev.step (fun k => by rw [virgationref02_Replace.f, if_neg ha]) ?_
    refine Ev.step (fun k => by rw [virgationref02_Replace.j0]) ?_
    have := hl0 a b [] (by omega) (by omega) (by simp; omega) (by omega)
    rw [List.nil_append] at this
    exact this
end Go.Proofs.Ytnfgpepggehegaa.I
namespace Go.Proofs.Ytnfgpepggehegaa.I
open Go.RowKit Go.Proofs.YtnfgpepggehegaaW.PrintWords Go.Proofs.YtnfgpepggehegaaW.PrintLast Go.Proofs.YtnfgpepggehegaaW.PrintMore
set_option linter.unusedVariables false
set_option linter.unusedSimpArgs false
structure Sch (w : World) (A0 : Option Addr) (c0 : Nat) (l0 : List S87) (A1 : Option Addr) (c1 : Nat) (l1 : List S84) : Prop where
  r0 : Kd.C k87 w A0 l0.length l0
  h0 : l0.length ≤ c0
  r1 : Kd.C k84 w A1 l1.length l1
  h1 : l1.length ≤ c1
theorem Sch.below {w w' : World} {A0 : Option Addr} {c0 : Nat} {l0 : List S87} {A1 : Option Addr} {c1 : Nat} {l1 : List S84} (h : Sch w A0 c0 l0 A1 c1 l1) (hb : Below w.heap.size w w') : Sch w' A0 c0 l0 A1 c1 l1 :=
  ⟨Kd.C_below h.r0 hb, h.h0, Kd.C_below h.r1 hb, h.h1⟩
def Tm (w : World) (ok : Nat → Prop) (x : S28) (A : Option Addr) (c : Nat) : Prop := Kd.V k28 28 w 0 ok (.slice A x.f2.length c) x.f2
theorem Tm.below {w w' : World} {ok : Nat → Prop} {x : S28} {A : Option Addr} {c : Nat} (h : Tm w ok x A c) (hb : Below w.heap.size w w') : Tm w' ok x A c := Kd.V_below h hb
theorem Tm.mono {w : World} {ok ok' : Nat → Prop} {x : S28} {A : Option Addr} {c : Nat} (h : Tm w ok x A c) (hb : ∀ k, ok k → ok' k) : Tm w ok' x A c := Kd.V_mono h hb
theorem Tm.c {w : World} {ok : Nat → Prop} {x : S28} {A : Option Addr} {c : Nat} (h : Tm w ok x A c) : Kd.C k28 w A x.f2.length x.f2 := (Kd.V_reads' h).2.2
theorem Tm.le {w : World} {ok : Nat → Prop} {x : S28} {A : Option Addr} {c : Nat} (h : Tm w ok x A c) : x.f2.length ≤ c := (Kd.V_reads' h).2.1
theorem Tm.of {w : World} {x : S28} {A : Option Addr} {c : Nat} (h : Kd.C k28 w A x.f2.length x.f2) (hc : x.f2.length ≤ c) : Tm w (fun k => k < w.heap.size) x A c := Kd.V_mk hc (Kd.C_F k28_heap h)
theorem Tm.far {w : World} {ok : Nat → Prop} {x : S28} {A : Option Addr} {c : Nat} {p : Addr} (h : Tm w ok x A c) (hok : ∀ k, ok k → k ≠ p.block) (u : Value) : Tm (w.setCell p u) ok x A c := Kd.V_far h hok u
theorem Tm.bound {w : World} {ok : Nat → Prop} {x : S28} {A : Option Addr} {c : Nat} (h : Tm w ok x A c) : Tm w (fun k => ok k ∧ k < w.heap.size) x A c := Kd.V_bound h
variable {w w' : World} {A0 : Option Addr} {c0 : Nat} {l0 : List S87} {A1 : Option Addr} {c1 : Nat} {l1 : List S84} {ok : Nat → Prop} {x y : S28} {A A' : Option Addr} {c c' : Nat}
theorem check_at (hs : Sch w A0 c0 l0 A1 c1 l1) (ht : Tm w ok x A c) (z : Int) (hz : stB l0 l1 x = z) :
    Calls Try.prog 11 #[.agg #[.slice A0 l0.length c0, .slice A1 l1.length c1], .agg #[.int .i64 x.f0, .int .i64 x.f1, .slice A x.f2.length c]] w fun e w' => e = .returned (.int .i64 z) ∧ Below w.heap.size w w' := by
  subst hz
  exact stepcheck_calls A0 c0 l0 A1 c1 l1 x A c w hs.r0 hs.h0 hs.r1 hs.h1 ht.c ht.le
theorem refcheck_at (hs : Sch w A0 c0 l0 A1 c1 l1) (ht : Tm w ok x A c) (z : Int) (hz : stB l0 l1 x = z) :
    Calls Try.prog 12 #[.agg #[.slice A0 l0.length c0, .slice A1 l1.length c1], .agg #[.int .i64 x.f0, .int .i64 x.f1, .slice A x.f2.length c]] w fun e w' => e = .returned (.int .i64 z) ∧ Below w.heap.size w w' := by
  subst hz
  exact refstep_calls A0 c0 l0 A1 c1 l1 x A c w hs.r0 hs.h0 hs.r1 hs.h1 ht.c ht.le
theorem stepF_large (h : stB l0 l1 x = 0) (ht : 100000 < tcnt (nextT l1 x)) : stepF l0 l1 x = (⟨0, 0, []⟩, false, 3) := by unfold stepF; rw [if_pos h, if_pos ht]
theorem stepF_next (h : stB l0 l1 x = 0) (ht : ¬ 100000 < tcnt (nextT l1 x)) : stepF l0 l1 x = (nextT l1 x, decide (x.f0 = 1), 0) := by unfold stepF; rw [if_pos h, if_neg ht]
theorem stB_of (hs : schB l0 l1 = true) (ht : tcnt x ≤ 100000) (hc : closedB l0 l1 x = true) : stB l0 l1 x = 0 := by
  unfold stB
  rw [if_pos hs, if_neg (by omega), if_pos hc]
theorem stB_next (h : stB l0 l1 x = 0) (ht : ¬ 100000 < tcnt (nextT l1 x)) : stB l0 l1 (nextT l1 x) = 0 := by
  obtain ⟨hs, _, hc⟩ := stB_zero h
  exact stB_of hs (by omega) (closed_next hs hc)
theorem nextT_done (h : x.f0 ≠ 1) : nextT l1 x = x := by unfold nextT; rw [if_neg h]
theorem Tm.far3 {g : Nat} (h : Tm w ok x A c) (hok : ∀ k, ok k → k ≠ g) (a' b' d' : Value) : Tm (((w.setCell ⟨g, 0, none⟩ a').setCell ⟨g, 1, none⟩ b').setCell ⟨g, 2, none⟩ d') ok x A c := Tm.far (p := ⟨g, 2, none⟩) (Tm.far (p := ⟨g, 1, none⟩) (Tm.far (p := ⟨g, 0, none⟩) h hok _) hok _) hok _
end Go.Proofs.Ytnfgpepggehegaa.I
namespace Go.Proofs.Ytnfgpepggehegaa.I
open Go.RowKit Go.Proofs.YtnfgpepggehegaaW.PrintWords Go.Proofs.YtnfgpepggehegaaW.PrintLast Go.Proofs.YtnfgpepggehegaaW.PrintMore
attribute [local go_sem] max2_int min2_int max_two min_two max_three min_three max_four min_four
set_option linter.unusedVariables false
set_option maxRecDepth 100000
set_option linter.unusedSimpArgs false
theorem insert_tail (l : List Int) (n : Int) (x5 y : List Int) (i j : Nat) (hj : j ≤ l.length) (hl : l.length ≤ 1000000) (h5 : ∀ x ∈ x5, x ∈ l) (hy : y = x5 ++ [n]) (h5l : x5.length ≤ j) :
    (∀ x ∈ y ++ l.drop j, x ∈ l ∨ x = n) ∧ (y ++ l.drop j).length ≤ l.length + 1 := by
  subst hy
  refine ⟨fun x hx => ?_, ?_⟩
  · rcases List.mem_append.1 hx with hx | hx
    · rcases List.mem_append.1 hx with hx | hx
      · exact .inl (h5 x hx)
      · exact .inr (List.mem_singleton.1 hx)
    · exact .inl (List.mem_of_mem_drop hx)
  · rw [List.length_append, List.length_append, List.length_singleton, List.length_drop]; omega
theorem insert_ev (l : List Int) (n : Int) (hl : l.length ≤ 1000000) : ∃ r, Ev (fun k => virgationref02_insert.f k l n) r ∧ (∀ x ∈ r, x ∈ l ∨ x = n) ∧ r.length ≤ l.length + 1 := by
  have loop : ∀ (m i : Nat) (x5 : List Int), l.length - i = m → i ≤ l.length → (∀ x ∈ x5, x ∈ l) → x5.length ≤ i → ∃ r, Ev (fun k => virgationref02_insert.l0 k l n x5 (i : Int)) r ∧ (∀ x ∈ r, x ∈ l ∨ x = n) ∧ r.length ≤ l.length + 1 := by
    intro m
    induction m with
    | zero =>
      intro i x5 hm hi h5 h5l
      obtain ⟨t1, t2⟩ := insert_tail l n x5 (x5 ++ [n]) i i hi hl h5 rfl h5l
      refine ⟨(x5 ++ [n]) ++ l.drop i, Ev.step (f := fun _ => some ((x5 ++ [n]) ++ l.drop i)) (fun k => ?_) (Ev.now _), t1, t2⟩
      rw [virgationref02_insert.l0, if_neg (by omega), if_pos (by omega)]
      rw [Option.bind_some, if_pos (by omega), if_pos (by omega), if_pos (by rw [List.length_append, List.length_singleton, List.length_drop]; omega), Int.toNat_natCast]
    | succ m ih =>
      intro i x5 hm hi h5 h5l
      have hil : i < l.length := by omega
      have hrd : rd l (i : Int) ∈ l := by
        unfold rd
        rw [Int.toNat_natCast, List.getD_eq_getElem?_getD, List.getElem?_eq_getElem hil]
        exact List.getElem_mem _
      have ew : wrap64 ((i : Int) + 1) = ((i + 1 : Nat) : Int) := by unfold wrap64; omega
      by_cases h1 : rd l (i : Int) < n
      · obtain ⟨r, hr, h⟩ := ih (i + 1) (x5 ++ [rd l (i : Int)]) (by omega) (by omega) (fun x hx => by
          rcases List.mem_append.1 hx with hx | hx
          · exact h5 x hx
          · rw [List.mem_singleton.1 hx]; exact hrd) (by rw [List.length_append, List.length_singleton]; omega)
        refine ⟨r, Ev.step (fun k => ?_) hr, h⟩
        rw [virgationref02_insert.l0, if_pos (by omega), if_pos (by omega), if_pos h1, if_pos (by omega), ew]
      · by_cases h2 : rd l (i : Int) = n
        · obtain ⟨t1, t2⟩ := insert_tail l n x5 (x5 ++ [n]) i (i + 1) hil hl h5 rfl (by omega)
          refine ⟨(x5 ++ [n]) ++ l.drop (i + 1), Ev.step (f := fun _ => some ((x5 ++ [n]) ++ l.drop (i + 1))) (fun k => ?_) (Ev.now _), t1, t2⟩
          rw [virgationref02_insert.l0, if_pos (by omega), if_pos (by omega), if_neg h1, if_pos (by omega)]
          rw [Option.bind_some, if_pos h2, ew, if_pos (by omega), if_pos (by omega), Int.toNat_natCast, if_pos (by rw [List.length_append, List.length_singleton, List.length_drop]; omega)]
        · obtain ⟨t1, t2⟩ := insert_tail l n x5 (x5 ++ [n]) i i hi hl h5 rfl h5l
          refine ⟨(x5 ++ [n]) ++ l.drop i, Ev.step (f := fun _ => some ((x5 ++ [n]) ++ l.drop i)) (fun k => ?_) (Ev.now _), t1, t2⟩
          rw [virgationref02_insert.l0, if_pos (by omega), if_pos (by omega), if_neg h1, if_pos (by omega)]
          rw [Option.bind_some, if_neg h2, if_pos (by omega), Int.toNat_natCast, if_pos (by rw [List.length_append, List.length_singleton, List.length_drop]; omega)]
  obtain ⟨r, h⟩ := loop l.length 0 [] (by omega) (by omega) (fun x hx => by cases hx) (by simp)
  exact ⟨r, h⟩
def Ns (w : World) (V : List Int) (A : Option Addr) (c : Nat) : Prop := Kd.V (Kd.int .i64) 3 w 0 (fun _ => True) (.slice A V.length c) V
theorem Ns.below {w w' : World} {V : List Int} {A : Option Addr} {c : Nat} (h : Ns w V A c) (hb : Below w.heap.size w w') : Ns w' V A c := Kd.V_below h hb
theorem insert_calls (V : List Int) (A : Option Addr) (c : Nat) (n m : Int) (w : World) (h : Ns w V A c) (hl : V.length ≤ 1000000) (hV : ∀ x ∈ V, 0 ≤ x ∧ x < m) (hn : 0 ≤ n ∧ n < m) :
    Calls Try.prog 89 #[.slice A V.length c, .int .i64 n] w fun e w' => ∃ V' A' c', e = .returned (.slice A' V'.length c') ∧ Ns w' V' A' c' ∧ (∀ x ∈ V', 0 ≤ x ∧ x < m) ∧ V'.length ≤ V.length + 1 ∧ Below w.heap.size w w' := by
  obtain ⟨r, he, h1, h2⟩ := insert_ev V n hl
  obtain ⟨k, hk⟩ := he.rounds
  refine (virgationref02_insert.calls k A c V n r w (Kd.V_reads' h).2.2 (Kd.V_reads' h).2.1 hk).mono ?_
  rintro e w' ⟨v, rfl, hR, hb⟩
  obtain ⟨A', c', rfl⟩ := Kd.R_slice hR
  refine ⟨r, A', c', rfl, Kd.V_mono (Kd.R_V (base' := 0) hR) (fun _ _ => trivial), fun x hx => ?_, h2, hb⟩
  rcases h1 x hx with h | rfl
  · exact hV x h
  · exact hn
set_option maxHeartbeats 16000000 in
theorem vars_calls (m : Int) (N : Nat) : ∀ (a b : Int) (l : List S28) (A : Option Addr) (c : Nat) (V : List Int) (Av : Option Addr) (cv : Nat) (w : World), SizeOf.sizeOf l < N → okT m ⟨a, b, l⟩ = true → (V.length : Int) + tcntL l ≤ 900000 → (∀ x ∈ V, 0 ≤ x ∧ x < m) → Kd.C k28 w A l.length l → l.length ≤ c → Ns w V Av cv →
    Calls Try.prog 82 #[.agg #[.int .i64 a, .int .i64 b, .slice A l.length c], .slice Av V.length cv] w fun e w' => ∃ V' A' c', e = .returned (.slice A' V'.length c') ∧ Ns w' V' A' c' ∧ (∀ x ∈ V', 0 ≤ x ∧ x < m) ∧ (V'.length : Int) ≤ V.length + 1 + tcntL l ∧ Below w.heap.size w w' := by
  have hu28 := Try.underlying28
  have hu26 := Try.underlying26
  induction N with
  | zero => intro a b l A c V Av cv w hN; omega
  | succ N ih =>
  intro a b l A c V Av cv w hN hok hsz hV hr hc hns
  obtain ⟨h0, hokl⟩ := okT_at hok
  have hlg := tcntL_ge l
  have HR := Az.mk hr
  have HC := Az.mk hc
  have HN := Az.mk hN
  have HSZ := Az.mk hsz
  have HV := Az.mk hV
  have HNS := Az.mk hns
  have HO := Az.mk h0
  have HOL := Az.mk hokl
  have IH := Az.mk ih
  have hlen : l.length ≤ 9223372036854775807 := by omega
  clear hr hc hN hsz hV hns h0 hokl ih hok
  have hob : (a == 0) = decide (a = 0) := rfl
  go_enter Try.func82, Try.ntmps82
  go_upto_region 1 with (
    (with_reducible refine gate_dst (N := 2) rfl ?_)
    refine box_event ?hg (N := 2) ?hd (cs := #[.int .i64 a, .int .i64 b, .slice A l.length c]) (t := 28) ?hr ?_
    (case hd => rfl)
    (case hg => rfl)
    (case hr => first | (go_simp; done) | (go_simp; rfl))
    intro g2 hg2 w2 hbox hbb
    have S2 := Az.mk hbox
    have HB2 := Az.mk hbb
    have a0 : w2.cell? ⟨g2, 0, none⟩ = some (.int .i64 a) := (blk_cell hbox 0).trans rfl
    have a1 : w2.cell? ⟨g2, 1, none⟩ = some (.int .i64 b) := (blk_cell hbox 1).trans rfl
    clear hbox hbb hg2)
  by_cases ha : a = 0
  · have hb01 := HO.out ha
    have HIN := Az.mk (insert_calls V Av cv b m w2 (HNS.out.below HB2.out) (by have := HSZ.out; omega) HV.out hb01)
    have q0 : (a == 0) = true := beq_iff_eq.2 ha
    have q1 : (a = 0) = True := eq_true ha
    clear hob ha hb01
    go_wp2_with fail
    (with_reducible refine (HIN.out).mono ?_)
    rintro e wc ⟨V1, A1, c1, rfl, h1, h2, h3, h4⟩
    have HNS1 := Az.mk h1
    have HV1 := Az.mk h2
    have HVL := Az.mk h3
    have HBc := Az.mk h4
    clear h1 h2 h3 h4 q0 q1 HIN HNS HV
    have a2 : wc.cell? ⟨g2, 2, none⟩ = some (.slice A l.length c) := (blk_cell (bkB S2.out HBc.out) 2).trans rfl
    go_wp2_with fail
    have HB := Az.mk (bst HB2.out HBc.out)
    clear a0 a1 a2 HBc
    go_loopg [1, 17] l.length (fun kq v1 v17 wr => ∃ (i : Nat) (V2 : List Int) (A2 : Option Addr) (c2 : Nat), v1 = .slice A2 V2.length c2 ∧ v17 = .int .i64 (i : Int) ∧ Az (i + kq = l.length) ∧ Az (Ns wr V2 A2 c2) ∧ Az (∀ x ∈ V2, 0 ≤ x ∧ x < m) ∧ Az ((V2.length : Int) + tcntL (l.drop i) ≤ V.length + 1 + tcntL l) ∧ Az (Below w.heap.size w wr))
    case atStart => exact ⟨0, _, _, _, rfl, rfl, ⟨by omega⟩, HNS1, HV1, ⟨by rw [List.drop_zero]; have := HVL.out; omega⟩, HB⟩
    case round =>
      clear HNS1 HV1 HB
      obtain ⟨i, V2, A2, c2, rfl, rfl, Hi, HNS, HV, HL, HB⟩ := hrel
      by_cases hlt : i < l.length
      rotate_left
      · have hie : i = l.length := by have := Hi.out; omega
        have HLE := Az.mk (show (V2.length : Int) ≤ V.length + 1 + tcntL l from by have := HL.out; have := tcntL_ge (l.drop i); omega)
        subst hie
        go_wp2_with fail
        go_ret
        exact ⟨V2, A2, c2, rfl, HNS.out, HV.out, HLE.out, HB.out⟩
      have hk := Hi.out
      obtain ⟨k1, rfl⟩ : ∃ k1, gk = k1 + 1 := ⟨gk - 1, by omega⟩
      clear hk
      obtain ⟨ad, A4, c4, he, hx2, hx3, hx4, hl4, hC4⟩ := at_T28 (Kd.C_below HR.out HB.out) (i : Int) (by omega) (by omega)
      cases he
      rw [Int.toNat_natCast] at hx2 hx3 hx4
      have HC4 := Az.mk hC4
      have Hl4 := Az.mk hl4
      have hd := tdrop_cnt l i hlt
      have HX1 := Az.mk (show okT m (rd_T28 l (i : Int)) = true from okL_take HOL.out hlt)
      have HXS := Az.mk (show SizeOf.sizeOf (rd_T28 l (i : Int)).f2 < N from by have := rd_T28_mem l i hlt; have := HN.out; omega)
      have HXL := Az.mk (show (V2.length : Int) + (1 + tcntL (rd_T28 l (i : Int)).f2) + tcntL (l.drop (i + 1)) ≤ V.length + 1 + tcntL l from by have := HL.out; omega)
      have q1 : (0 ≤ (i : Int)) = True := eq_true (by omega)
      have q2 : ((i : Int) < (l.length : Int)) = True := eq_true (by omega)
      have q3 : (i < l.length) = True := eq_true (by omega)
      clear hl4 hC4 hd
      generalize rd_T28 l (i : Int) = x at *
      have HX2 := Az.mk (show okT m ⟨x.f0, x.f1, x.f2⟩ = true from by have h := HX1.out; cases x; exact h)
      go_upto_region 6 with (
        (with_reducible refine gate_dst (N := 6) rfl ?_)
        refine box_event ?hg (N := 6) ?hd (cs := #[.int .i64 0, .int .i64 0, .slice none 0 0]) (t := 28) ?hr ?_
        (case hd => rfl)
        (case hg => rfl)
        (case hr => first | (go_simp; done) | (go_simp; rfl))
        intro gi hgi w6 hbox hbb
        have hgw : wr.heap.size ≤ gi := by omega
        have Hbw := Az.mk (bset (g := gi) (j := 2) (v := .slice A4 x.f2.length c4) (bset (g := gi) (j := 1) (v := .int .i64 x.f1) (bset (g := gi) (j := 0) (v := .int .i64 x.f0) hbb hgw) hgw) hgw)
        have Sgi := Az.mk (blk_put (cs' := #[.int .i64 x.f0, .int .i64 x.f1, .slice A4 x.f2.length c4]) (blk_put (cs' := #[.int .i64 x.f0, .int .i64 x.f1, .slice none 0 0]) (blk_put (cs' := #[.int .i64 x.f0, .int .i64 0, .slice none 0 0]) hbox 0 (.int .i64 x.f0) rfl) 1 (.int .i64 x.f1) rfl) 2 (.slice A4 x.f2.length c4) rfl)
        have hcz0 := (blk_cell hbox 0).trans rfl
        have hfz0 := bkF hbox 0
        have hcz1 := (blk_cell hbox 1).trans rfl
        have hfz1 := bkF hbox 1
        have hcz2 := (blk_cell hbox 2).trans rfl
        have hfz2 := bkF hbox 2
        clear hbox hbb hgi hgw)
      clear hcz0 hcz1 hcz2 hfz0 hfz1 hfz2 hx2 hx3 hx4
      generalize (((w6.setCell ⟨gi, 0, none⟩ (.int .i64 x.f0)).setCell ⟨gi, 1, none⟩ (.int .i64 x.f1)).setCell ⟨gi, 2, none⟩ (.slice A4 x.f2.length c4)) = wq at *
      have n0 : wq.cell? ⟨gi, 0, none⟩ = some (.int .i64 x.f0) := (blk_cell Sgi.out 0).trans rfl
      have n1 : wq.cell? ⟨gi, 1, none⟩ = some (.int .i64 x.f1) := (blk_cell Sgi.out 1).trans rfl
      have n2 : wq.cell? ⟨gi, 2, none⟩ = some (.slice A4 x.f2.length c4) := (blk_cell Sgi.out 2).trans rfl
      go_wp2_with fail
      (with_reducible refine (IH.out x.f0 x.f1 x.f2 A4 c4 V2 A2 c2 wq HXS.out HX2.out (by have := HXL.out; have := HSZ.out; have := tcntL_ge (l.drop (i + 1)); omega) HV.out (Kd.C_below HC4.out Hbw.out) Hl4.out (HNS.out.below Hbw.out)).mono ?_)
      rintro e w8 ⟨V3, A3, c3, rfl, h1, h2, h3, h4⟩
      have H1 := Az.mk h1
      have H2 := Az.mk h2
      have H3 := Az.mk (show (V3.length : Int) + tcntL (l.drop (i + 1)) ≤ V.length + 1 + tcntL l from by have := HXL.out; omega)
      have H4 := Az.mk (bst (bst HB.out Hbw.out) h4)
      clear h1 h2 h3 h4 n0 n1 n2
      go_wp2_with fail
      go_roundg k1
      case measure => omega
      case rel => exact ⟨i + 1, V3, A3, c3, rfl, by first | rfl | (refine congrArg _ ?_; unfold wrap64; omega), ⟨by have := Hi.out; omega⟩, H1, H2, H3, H4⟩
  · have q0 : (a == 0) = false := beq_eq_false_iff_ne.2 ha
    have q1 : (a = 0) = False := eq_false ha
    have a2 : w2.cell? ⟨g2, 2, none⟩ = some (.slice A l.length c) := (blk_cell S2.out 2).trans rfl
    clear hob ha
    go_wp2_with fail
    obtain ⟨wc, hwc⟩ : ∃ wc, wc = w2 := ⟨_, rfl⟩
    have HBc := Az.mk (show Below w2.heap.size w2 wc from by rw [hwc]; exact Below.refl _ _)
    have HNS1 := Az.mk (show Ns wc V Av cv from by rw [hwc]; exact HNS.out.below HB2.out)
    have HV1 := HV
    have HVL := Az.mk (show V.length ≤ V.length + 1 from by omega)
    rw [← hwc]
    clear hwc q0 q1 HNS HV
    have HB := Az.mk (bst HB2.out HBc.out)
    clear a0 a1 a2 HBc
    go_loopg [1, 17] l.length (fun kq v1 v17 wr => ∃ (i : Nat) (V2 : List Int) (A2 : Option Addr) (c2 : Nat), v1 = .slice A2 V2.length c2 ∧ v17 = .int .i64 (i : Int) ∧ Az (i + kq = l.length) ∧ Az (Ns wr V2 A2 c2) ∧ Az (∀ x ∈ V2, 0 ≤ x ∧ x < m) ∧ Az ((V2.length : Int) + tcntL (l.drop i) ≤ V.length + 1 + tcntL l) ∧ Az (Below w.heap.size w wr))
    case atStart => exact ⟨0, _, _, _, rfl, rfl, ⟨by omega⟩, HNS1, HV1, ⟨by rw [List.drop_zero]; have := HVL.out; omega⟩, HB⟩
    case round =>
      clear HNS1 HV1 HB
      obtain ⟨i, V2, A2, c2, rfl, rfl, Hi, HNS, HV, HL, HB⟩ := hrel
      by_cases hlt : i < l.length
      rotate_left
      · have hie : i = l.length := by have := Hi.out; omega
        have HLE := Az.mk (show (V2.length : Int) ≤ V.length + 1 + tcntL l from by have := HL.out; have := tcntL_ge (l.drop i); omega)
        subst hie
        go_wp2_with fail
        go_ret
        exact ⟨V2, A2, c2, rfl, HNS.out, HV.out, HLE.out, HB.out⟩
      have hk := Hi.out
      obtain ⟨k1, rfl⟩ : ∃ k1, gk = k1 + 1 := ⟨gk - 1, by omega⟩
      clear hk
      obtain ⟨ad, A4, c4, he, hx2, hx3, hx4, hl4, hC4⟩ := at_T28 (Kd.C_below HR.out HB.out) (i : Int) (by omega) (by omega)
      cases he
      rw [Int.toNat_natCast] at hx2 hx3 hx4
      have HC4 := Az.mk hC4
      have Hl4 := Az.mk hl4
      have hd := tdrop_cnt l i hlt
      have HX1 := Az.mk (show okT m (rd_T28 l (i : Int)) = true from okL_take HOL.out hlt)
      have HXS := Az.mk (show SizeOf.sizeOf (rd_T28 l (i : Int)).f2 < N from by have := rd_T28_mem l i hlt; have := HN.out; omega)
      have HXL := Az.mk (show (V2.length : Int) + (1 + tcntL (rd_T28 l (i : Int)).f2) + tcntL (l.drop (i + 1)) ≤ V.length + 1 + tcntL l from by have := HL.out; omega)
      have q1 : (0 ≤ (i : Int)) = True := eq_true (by omega)
      have q2 : ((i : Int) < (l.length : Int)) = True := eq_true (by omega)
      have q3 : (i < l.length) = True := eq_true (by omega)
      clear hl4 hC4 hd
      generalize rd_T28 l (i : Int) = x at *
      have HX2 := Az.mk (show okT m ⟨x.f0, x.f1, x.f2⟩ = true from by have h := HX1.out; cases x; exact h)
      go_upto_region 6 with (
        (with_reducible refine gate_dst (N := 6) rfl ?_)
        refine box_event ?hg (N := 6) ?hd (cs := #[.int .i64 0, .int .i64 0, .slice none 0 0]) (t := 28) ?hr ?_
        (case hd => rfl)
        (case hg => rfl)
        (case hr => first | (go_simp; done) | (go_simp; rfl))
        intro gi hgi w6 hbox hbb
        have hgw : wr.heap.size ≤ gi := by omega
        have Hbw := Az.mk (bset (g := gi) (j := 2) (v := .slice A4 x.f2.length c4) (bset (g := gi) (j := 1) (v := .int .i64 x.f1) (bset (g := gi) (j := 0) (v := .int .i64 x.f0) hbb hgw) hgw) hgw)
        have Sgi := Az.mk (blk_put (cs' := #[.int .i64 x.f0, .int .i64 x.f1, .slice A4 x.f2.length c4]) (blk_put (cs' := #[.int .i64 x.f0, .int .i64 x.f1, .slice none 0 0]) (blk_put (cs' := #[.int .i64 x.f0, .int .i64 0, .slice none 0 0]) hbox 0 (.int .i64 x.f0) rfl) 1 (.int .i64 x.f1) rfl) 2 (.slice A4 x.f2.length c4) rfl)
        have hcz0 := (blk_cell hbox 0).trans rfl
        have hfz0 := bkF hbox 0
        have hcz1 := (blk_cell hbox 1).trans rfl
        have hfz1 := bkF hbox 1
        have hcz2 := (blk_cell hbox 2).trans rfl
        have hfz2 := bkF hbox 2
        clear hbox hbb hgi hgw)
      clear hcz0 hcz1 hcz2 hfz0 hfz1 hfz2 hx2 hx3 hx4
      generalize (((w6.setCell ⟨gi, 0, none⟩ (.int .i64 x.f0)).setCell ⟨gi, 1, none⟩ (.int .i64 x.f1)).setCell ⟨gi, 2, none⟩ (.slice A4 x.f2.length c4)) = wq at *
      have n0 : wq.cell? ⟨gi, 0, none⟩ = some (.int .i64 x.f0) := (blk_cell Sgi.out 0).trans rfl
      have n1 : wq.cell? ⟨gi, 1, none⟩ = some (.int .i64 x.f1) := (blk_cell Sgi.out 1).trans rfl
      have n2 : wq.cell? ⟨gi, 2, none⟩ = some (.slice A4 x.f2.length c4) := (blk_cell Sgi.out 2).trans rfl
      go_wp2_with fail
      (with_reducible refine (IH.out x.f0 x.f1 x.f2 A4 c4 V2 A2 c2 wq HXS.out HX2.out (by have := HXL.out; have := HSZ.out; have := tcntL_ge (l.drop (i + 1)); omega) HV.out (Kd.C_below HC4.out Hbw.out) Hl4.out (HNS.out.below Hbw.out)).mono ?_)
      rintro e w8 ⟨V3, A3, c3, rfl, h1, h2, h3, h4⟩
      have H1 := Az.mk h1
      have H2 := Az.mk h2
      have H3 := Az.mk (show (V3.length : Int) + tcntL (l.drop (i + 1)) ≤ V.length + 1 + tcntL l from by have := HXL.out; omega)
      have H4 := Az.mk (bst (bst HB.out Hbw.out) h4)
      clear h1 h2 h3 h4 n0 n1 n2
      go_wp2_with fail
      go_roundg k1
      case measure => omega
      case rel => exact ⟨i + 1, V3, A3, c3, rfl, by first | rfl | (refine congrArg _ ?_; unfold wrap64; omega), ⟨by have := Hi.out; omega⟩, H1, H2, H3, H4⟩
end Go.Proofs.Ytnfgpepggehegaa.I
namespace Go.Proofs.Ytnfgpepggehegaa.I
open Go.RowKit Go.Proofs.YtnfgpepggehegaaW.PrintWords Go.Proofs.YtnfgpepggehegaaW.PrintLast Go.Proofs.YtnfgpepggehegaaW.PrintMore
attribute [local go_sem] max2_int min2_int max_two min_two max_three min_three max_four min_four
set_option linter.unusedVariables false
set_option maxRecDepth 100000
set_option linter.unusedSimpArgs false
def subR (ps : List S28) (t : S28) : S28 × Int := if 100000 < tcnt (subT ps t) then (⟨0, 0, []⟩, 3) else (subT ps t, 0)
theorem Ns.nil (w : World) : Ns w [] none 0 := by
  unfold Ns
  exact Kd.V_nil _ _ _ _ _
theorem nodes_at {w : World} {x : S28} {A : Option Addr} {c : Nat} (h : Kd.C k28 w A x.f2.length x.f2) (hc : x.f2.length ≤ c) (hx : tcnt x ≤ 100000) :
    Calls Try.prog 57 #[.agg #[.int .i64 x.f0, .int .i64 x.f1, .slice A x.f2.length c], .int .i64 100000] w fun e w' => e = .returned (.int .i64 (tcnt x)) ∧ Below w.heap.size w w' := by
  have he := tnodes_ev _ x.f0 x.f1 x.f2 100000 (Nat.lt_succ_self _) (by omega) (by omega)
  rw [show min (1 + tcntL x.f2) (100000 + 1) = tcnt x from by have := tcnt_f2 x; omega] at he
  obtain ⟨k, hk⟩ := he.rounds
  exact virgationref02_Nodes.calls k x.f0 x.f1 A c x.f2 100000 _ w h hc hk
theorem sizes_take {l : List S28} {i : Nat} (h : i < l.length) : (l.take i).map tcnt ++ [tcnt (rd_T28 l (i : Int))] = (l.take (i + 1)).map tcnt := by
  rw [take28 h, List.map_append, rd_T28_at h]; rfl
theorem rd_sizes {l : List S28} (n : Int) (h0 : 0 ≤ n) (h1 : n < (l.length : Int)) : rd (l.map tcnt) n = tcnt (rd_T28 l n) := by
  have hn : n.toNat < l.length := by omega
  unfold rd rd_T28
  rw [List.getD_eq_getElem?_getD, List.getD_eq_getElem?_getD, List.getElem?_map, List.getElem?_eq_getElem hn]
  rfl
theorem vars_nil (m a b : Int) (l : List S28) (A : Option Addr) (c : Nat) (w : World) (hok : okT m ⟨a, b, l⟩ = true) (hl : tcntL l ≤ 100000) (hr : Kd.C k28 w A l.length l) (hc : l.length ≤ c) :
    Calls Try.prog 82 #[.agg #[.int .i64 a, .int .i64 b, .slice A l.length c], .slice none 0 0] w fun e w' => ∃ V' A' c', e = .returned (.slice A' V'.length c') ∧ Ns w' V' A' c' ∧ (∀ x ∈ V', 0 ≤ x ∧ x < m) ∧ V'.length ≤ 200000 ∧ Below w.heap.size w w' := by
  refine Calls.mono (vars_calls m _ a b l A c [] none 0 w (Nat.lt_succ_self _) hok (by simp; omega) (fun x hx => absurd hx (by simp)) hr hc (Ns.nil w)) ?_
  rintro e w' ⟨V, A', c', rfl, h1, h2, h3, h4⟩
  have e0 : (([] : List Int).length : Int) = 0 := rfl
  exact ⟨V, A', c', rfl, h1, h2, by omega, h4⟩
set_option maxHeartbeats 16000000 in
theorem subst_calls (t : S28) (A : Option Addr) (c : Nat) (ps : List S28) (Ap : Option Addr) (cp : Nat) (w : World) (hok : okT (ps.length : Int) t = true) (ht : tcnt t ≤ 100000) (hps : ∀ n : Int, 0 ≤ n → n < (ps.length : Int) → tcnt (rd_T28 ps n) ≤ 100000) (hl : ps.length ≤ 100000) (hr : Kd.C k28 w A t.f2.length t.f2) (hc : t.f2.length ≤ c) (hrp : Kd.C k28 w Ap ps.length ps) (hcp : ps.length ≤ cp) (R : S28) (er : Int) (hR : subR ps t = (R, er)) :
    Calls Try.prog 67 #[.agg #[.int .i64 t.f0, .int .i64 t.f1, .slice A t.f2.length c], .slice Ap ps.length cp] w fun e w' => ∃ Av cv, e = .returned (.tuple #[.agg #[.int .i64 R.f0, .int .i64 R.f1, .slice Av R.f2.length cv], .int .i64 er]) ∧ Tm w' (fun k => w.heap.size ≤ k) R Av cv ∧ Below w.heap.size w w' := by
  have hu28 := Try.underlying28
  have hu26 := Try.underlying26
  have htl := tcnt_f2 t
  have HOK := Az.mk hok
  have HOK2 := Az.mk (show okT (ps.length : Int) ⟨t.f0, t.f1, t.f2⟩ = true from by cases t; exact hok)
  have HTT := Az.mk (show (⟨t.f0, t.f1, t.f2⟩ : S28) = t from by cases t; rfl)
  have HT := Az.mk ht
  have HPS := Az.mk hps
  have HL := Az.mk hl
  have HR := Az.mk hr
  have HC := Az.mk hc
  have HRP := Az.mk hrp
  have HCP := Az.mk hcp
  have HRR := Az.mk hR
  have HTL := Az.mk (show tcntL t.f2 ≤ 100000 from by omega)
  have hlen : ps.length ≤ 9223372036854775807 := by omega
  clear hok ht hps hl hr hc hrp hcp hR htl
  go_enter Try.func67, Try.ntmps67
  go_wp2_with (first
    | ((with_reducible refine gate_dst (N := 2) rfl ?_)
       refine box_event ?hg (N := 2) ?hd (cs := #[.int .i64 t.f0, .int .i64 t.f1, .slice A t.f2.length c]) (t := 28) ?hr ?_
       (case hd => rfl)
       (case hg => rfl)
       (case hr => first | (go_simp; done) | (go_simp; rfl))
       intro g2 hg_g2 w2 hbox hbb
       have S22 := Az.mk hbox
       have HB2 := Az.mk hbb
       clear hbox hbb hg_g2)
    | ((with_reducible refine gate_dst (N := 4) rfl ?_)
       refine box_event ?hg (N := 4) ?hd (cs := #[.int .i64 0, .int .i64 0, .slice none 0 0]) (t := 28) ?hr ?_
       (case hd => rfl)
       (case hg => rfl)
       (case hr => first | (go_simp; done) | (go_simp; rfl))
       intro g4 hg_g4 w4 hbox hbb
       have S2 := Az.mk (bkB S22.out hbb)
       have S4 := Az.mk hbox
       have HB4 := Az.mk (bst HB2.out hbb)
       have HG4 := Az.mk (show w.heap.size ≤ g4 from by have := HB2.out.size; omega)
       have e0 := (blk_cell S2.out 0).trans rfl
       have e1 := (blk_cell S2.out 1).trans rfl
       have e2 := (blk_cell S2.out 2).trans rfl
       clear S22 HB2
       clear hbox hbb hg_g4))
  (with_reducible refine (large_calls t (Kd.C_below HR.out HB4.out) HC.out).mono ?_)
  rw [show decide (100000 < tcnt t) = false from decide_eq_false (by have := HT.out; omega)]
  rintro e w5 ⟨rfl, hb5⟩
  have HB5 := Az.mk (bst HB4.out hb5)
  have S25 := Az.mk (bkB S2.out hb5)
  have S45 := Az.mk (bkB S4.out hb5)
  clear hb5 S2 S4 HB4 e0 e1 e2
  go_wp2_with fail
  go_loopg [6, 16] ps.length (fun kq v6 v16 wr => ∃ (i : Nat) (As : Option Addr) (cs : Nat), v6 = .slice As i cs ∧ v16 = .int .i64 (i : Int) ∧ Az (i + kq = ps.length) ∧ Az (Kd.R (Kd.int .i64) 3 wr w.heap.size (fun _ => True) (.slice As i cs) ((ps.take i).map tcnt)) ∧ Az (wr.heap[g2]? = some (.cells #[.int .i64 t.f0, .int .i64 t.f1, .slice A t.f2.length c] 28 (0, 0))) ∧ Az (wr.heap[g4]? = some (.cells #[.int .i64 0, .int .i64 0, .slice none 0 0] 28 (0, 0))) ∧ Az (Below w.heap.size w wr))
  case atStart => exact ⟨0, none, 0, rfl, rfl, ⟨by omega⟩, ⟨Kd.R_nil _ _ _ _ _⟩, S25, S45, HB5⟩
  case round =>
    clear S25 S45 HB5
    obtain ⟨i, As, cs, rfl, rfl, Hi, HZ, S2, S4, HB⟩ := hrel
    by_cases hlt : i < ps.length
    rotate_left
    · have hie : i = ps.length := by have := Hi.out; omega
      subst hie
      have hz := HZ.out
      rw [List.take_length] at hz
      have hz2 : Kd.V (Kd.int .i64) 3 wr 0 (fun _ => True) (.slice As ps.length cs) (ps.map tcnt) := Kd.R_V hz
      have HZ2 := Az.mk hz2
      clear hz hz2 HZ hlt Hi
      have e0 : wr.cell? ⟨g2, 0, none⟩ = some (.int .i64 t.f0) := (blk_cell S2.out 0).trans rfl
      have e1 : wr.cell? ⟨g2, 1, none⟩ = some (.int .i64 t.f1) := (blk_cell S2.out 1).trans rfl
      have e2 : wr.cell? ⟨g2, 2, none⟩ = some (.slice A t.f2.length c) := (blk_cell S2.out 2).trans rfl
      go_wp2_with fail
      (with_reducible refine (vars_nil (ps.length : Int) t.f0 t.f1 t.f2 A c wr HOK2.out HTL.out (Kd.C_below HR.out HB.out) HC.out).mono ?_)
      rintro e w6 ⟨V, A6, c6, rfl, hns, hv, hvl, hb6⟩
      have HNS := Az.mk hns
      have HV := Az.mk hv
      have HVL := Az.mk hvl
      have S26 := Az.mk (bkB S2.out hb6)
      have S46 := Az.mk (bkB S4.out hb6)
      have HZ6 := Az.mk (Kd.V_below HZ2.out hb6)
      have HB6 := Az.mk (bst HB.out hb6)
      have hvl' := HVL.out
      clear hns hv hvl hb6 e0 e1 e2 S2 S4 HZ2 HB
      go_wp2_with fail
      go_loopg [10, 37] V.length (fun kq v10 v37 wr => ∃ (i : Nat), v37 = .int .i64 (i : Int) ∧ Az (i + kq = V.length) ∧ Az (Below w6.heap.size w6 wr))
      case atStart => exact ⟨0, rfl, ⟨by omega⟩, ⟨Below.refl _ _⟩⟩
      case round =>
        obtain ⟨i, rfl, Hi, HBi⟩ := hrel
        have S2i := Az.mk (bkB S26.out HBi.out)
        have S4i := Az.mk (bkB S46.out HBi.out)
        have HBw := Az.mk (bst HB6.out HBi.out)
        by_cases hlt : i < V.length
        · obtain ⟨ad, he, hx⟩ := Kd.at_int (Kd.V_reads' (HNS.out.below HBi.out)).2.2 (i : Int) (by omega) (by omega)
          cases he
          rw [Int.toNat_natCast] at hx
          have hmem : rd V (i : Int) ∈ V := by unfold rd; rw [Int.toNat_natCast, List.getD_eq_getElem?_getD, List.getElem?_eq_getElem hlt]; exact List.getElem_mem _
          have hrg := HV.out _ hmem
          generalize rd V (i : Int) = v at *
          have q1 : (0 ≤ (i : Int)) = True := eq_true (by omega)
          have q2 : ((i : Int) < (V.length : Int)) = True := eq_true (by omega)
          have q3 : (i < V.length) = True := eq_true hlt
          have q4 : (v < 0) = False := eq_false (by omega)
          have q5 : ((ps.length : Int) ≤ v) = False := eq_false (by omega)
          have q6 : (v ≥ (ps.length : Int)) = False := eq_false (by omega)
          clear hmem hrg
          go_wp2_with fail
          have hk := Hi.out
          obtain ⟨k1, rfl⟩ : ∃ k1, gk = k1 + 1 := ⟨gk - 1, by omega⟩
          go_roundg k1
          case measure => omega
          case rel => exact ⟨i + 1, by first | rfl | (refine congrArg _ ?_; unfold wrap64; omega), ⟨by omega⟩, HBi⟩
        have q2 : ((i : Int) < (V.length : Int)) = False := eq_false (by omega)
        have q3 : (i < V.length) = False := eq_false hlt
        have HZi := Az.mk (Kd.V_below HZ6.out HBi.out)
        have hge := (grown_ev ps (ps.map tcnt) (List.length_map _) (fun n h0 h1 => ⟨rd_sizes n h0 h1, HPS.out n h0 h1⟩) _ t.f0 t.f1 t.f2 (Nat.lt_succ_self _) HOK2.out (by have := HTL.out; omega)).rounds
        rw [HTT.out] at hge
        obtain ⟨kg, hkg⟩ := hge
        have hzl : (ps.map tcnt).length = ps.length := List.length_map _
        have hg0 := virgationref02_grown.calls kg t.f0 t.f1 A c t.f2 As cs (ps.map tcnt) _ wr (Kd.C_below HR.out HBw.out) HC.out (Kd.V_reads' HZi.out).2.2 (by have := (Kd.V_reads' HZi.out).2.1; omega) hkg
        rw [hzl] at hg0
        have HGR := Az.mk hg0
        clear hg0 hkg hzl
        have e0 : wr.cell? ⟨g2, 0, none⟩ = some (.int .i64 t.f0) := (blk_cell S2i.out 0).trans rfl
        have e1 : wr.cell? ⟨g2, 1, none⟩ = some (.int .i64 t.f1) := (blk_cell S2i.out 1).trans rfl
        have e2 : wr.cell? ⟨g2, 2, none⟩ = some (.slice A t.f2.length c) := (blk_cell S2i.out 2).trans rfl
        by_cases hbig : 100000 < tcnt (subT ps t)
        · have hr := HRR.out
          unfold subR at hr
          rw [if_pos hbig] at hr
          injection hr with h1 h2
          subst h1 h2
          have hmn : min (tcnt (subT ps t)) 100001 = 100001 := by omega
          rw [hmn] at HGR
          clear hbig hmn
          go_wp2_with fail
          (with_reducible refine (HGR.out).mono ?_)
          rintro e w8 ⟨rfl, hb8⟩
          have S48 := Az.mk (bkB S4i.out hb8)
          have HB8 := Az.mk (bst HBw.out hb8)
          clear hb8 e0 e1 e2
          have z0 : w8.cell? ⟨g4, 0, none⟩ = some (.int .i64 0) := (blk_cell S48.out 0).trans rfl
          have z1 : w8.cell? ⟨g4, 1, none⟩ = some (.int .i64 0) := (blk_cell S48.out 1).trans rfl
          have z2 : w8.cell? ⟨g4, 2, none⟩ = some (.slice none 0 0) := (blk_cell S48.out 2).trans rfl
          have f0 := bkF S48.out 0
          have f1 := bkF S48.out 1
          have f2 := bkF S48.out 2
          go_wp2_with fail
          refine bodyPost_ret (results_ct rfl _ _ g4 28 #[.int .i64 0, .int .i64 0, .slice none 0 0] (0, 0) _ rfl (blk_set3 S48.out _ _ _) Try.underlying28 rfl (by kernel_rfl)) rfl ?_
          exact ⟨none, 0, rfl, Kd.V_nil _ _ _ _ _, below_set3 HB8.out HG4.out _ _ _⟩
        · have hr := HRR.out
          unfold subR at hr
          rw [if_neg hbig] at hr
          injection hr with h1 h2
          have hre := (replace_ev ps HPS.out _ t.f0 t.f1 t.f2 (Nat.lt_succ_self _) HOK2.out (by rw [HTT.out]; omega)).rounds
          rw [HTT.out] at hre
          obtain ⟨kr, hkr⟩ := hre
          rw [h1] at hkr hbig HGR
          subst h2
          have HRC := Az.mk (fun (w' : World) (hb : Below w.heap.size w w') => virgationref02_Replace.calls kr t.f0 t.f1 A c t.f2 Ap cp ps _ _ _ w' (Kd.C_below HR.out hb) HC.out (Kd.C_below HRP.out hb) HCP.out hkr)
          have HRS := Az.mk hbig
          obtain ⟨mm, hmm⟩ : ∃ mm, min (tcnt R) 100001 = mm := ⟨_, rfl⟩
          rw [hmm] at HGR
          have q7 : (100000 < mm) = False := eq_false (by omega)
          clear hkr hbig h1 hmm
          go_wp2_with fail
          (with_reducible refine (HGR.out).mono ?_)
          rintro e w8 ⟨rfl, hb8⟩
          have S28 := Az.mk (bkB S2i.out hb8)
          have S48 := Az.mk (bkB S4i.out hb8)
          have HB8 := Az.mk (bst HBw.out hb8)
          clear hb8 e0 e1 e2
          have e0 : w8.cell? ⟨g2, 0, none⟩ = some (.int .i64 t.f0) := (blk_cell S28.out 0).trans rfl
          have e1 : w8.cell? ⟨g2, 1, none⟩ = some (.int .i64 t.f1) := (blk_cell S28.out 1).trans rfl
          have e2 : w8.cell? ⟨g2, 2, none⟩ = some (.slice A t.f2.length c) := (blk_cell S28.out 2).trans rfl
          go_wp2_with fail
          (with_reducible refine (HRC.out w8 HB8.out).mono ?_)
          rintro e w9 ⟨v, rfl, hRv, hb9⟩
          obtain ⟨Av, cv, rfl, hV⟩ := V_new hRv
          have HTV := Az.mk (show Tm w9 (fun k => w8.heap.size ≤ k) R Av cv from hV)
          have S49 := Az.mk (bkB S48.out hb9)
          have HB9 := Az.mk (bst HB8.out hb9)
          have HL4 := Az.mk (blk_lt S48.out)
          clear hRv hV hb9 e0 e1 e2
          have z0 : w9.cell? ⟨g4, 0, none⟩ = some (.int .i64 0) := (blk_cell S49.out 0).trans rfl
          have z1 : w9.cell? ⟨g4, 1, none⟩ = some (.int .i64 0) := (blk_cell S49.out 1).trans rfl
          have z2 : w9.cell? ⟨g4, 2, none⟩ = some (.slice none 0 0) := (blk_cell S49.out 2).trans rfl
          have f0 := bkF S49.out 0
          have f1 := bkF S49.out 1
          have f2 := bkF S49.out 2
          go_wp2_with fail
          refine bodyPost_ret (results_ct rfl _ _ g4 28 #[.int .i64 R.f0, .int .i64 R.f1, .slice Av R.f2.length cv] (0, 0) _ rfl (blk_set3 S49.out _ _ _) Try.underlying28 rfl (by kernel_rfl)) rfl ?_
          exact ⟨Av, cv, rfl, Tm.mono (Tm.far3 HTV.out (fun k hk => by have := HL4.out; have : w8.heap.size ≤ k := hk; omega) _ _ _) (fun k hk => by have := HB8.out.size; have : w8.heap.size ≤ k := hk; omega), below_set3 HB9.out HG4.out _ _ _⟩
    have hk := Hi.out
    obtain ⟨k1, rfl⟩ : ∃ k1, gk = k1 + 1 := ⟨gk - 1, by omega⟩
    clear hk
    have hil := HL.out
    obtain ⟨ad, A4, c4, he, hx2, hx3, hx4, hl4, hC4⟩ := at_T28 (Kd.C_below HRP.out HB.out) (i : Int) (by omega) (by omega)
    cases he
    rw [Int.toNat_natCast] at hx2 hx3 hx4
    have HC4 := Az.mk hC4
    have Hl4 := Az.mk hl4
    have HSN := Az.mk (sizes_take hlt)
    have HXC := Az.mk (HPS.out (i : Int) (by omega) (by omega))
    have q1 : (0 ≤ (i : Int)) = True := eq_true (by omega)
    have q2 : ((i : Int) < (ps.length : Int)) = True := eq_true (by omega)
    have q3 : (i < ps.length) = True := eq_true (by omega)
    clear hl4 hC4
    generalize rd_T28 ps (i : Int) = x at *
    go_upto_region 7 with (
      ((with_reducible refine gate_dst (N := 8) rfl ?_)
       refine box_event ?hg (N := 8) ?hd (cs := #[.int .i64 0, .int .i64 0, .slice none 0 0]) (t := 28) ?hr ?_
       (case hd => rfl)
       (case hg => rfl)
       (case hr => first | (go_simp; done) | (go_simp; rfl))
       intro gi hg_gi w6 hbox hbb
       have hgw : wr.heap.size ≤ gi := by omega
       have Hbw := Az.mk (below_set3 hbb hgw (.int .i64 x.f0) (.int .i64 x.f1) (.slice A4 x.f2.length c4))
       have Sgi := Az.mk (blk_set3 hbox (.int .i64 x.f0) (.int .i64 x.f1) (.slice A4 x.f2.length c4))
       have hcz0 := (blk_cell hbox 0).trans rfl
       have hfz0 := bkF hbox 0
       have hcz1 := (blk_cell hbox 1).trans rfl
       have hfz1 := bkF hbox 1
       have hcz2 := (blk_cell hbox 2).trans rfl
       have hfz2 := bkF hbox 2
       clear hgw
       clear hbox hbb hg_gi))
    clear hcz0 hcz1 hcz2 hfz0 hfz1 hfz2 hx2 hx3 hx4
    generalize (((w6.setCell ⟨gi, 0, none⟩ (.int .i64 x.f0)).setCell ⟨gi, 1, none⟩ (.int .i64 x.f1)).setCell ⟨gi, 2, none⟩ (.slice A4 x.f2.length c4)) = wq at *
    have n0 : wq.cell? ⟨gi, 0, none⟩ = some (.int .i64 x.f0) := (blk_cell Sgi.out 0).trans rfl
    have n1 : wq.cell? ⟨gi, 1, none⟩ = some (.int .i64 x.f1) := (blk_cell Sgi.out 1).trans rfl
    have n2 : wq.cell? ⟨gi, 2, none⟩ = some (.slice A4 x.f2.length c4) := (blk_cell Sgi.out 2).trans rfl
    have HBq := Az.mk (bst HB.out Hbw.out)
    go_wp2_with fail
    (with_reducible refine (nodes_at (Kd.C_below HC4.out Hbw.out) Hl4.out HXC.out).mono ?_)
    rintro e w8 ⟨rfl, hb8⟩
    have HB8 := Az.mk (bst HBq.out hb8)
    have HZ8 := Az.mk (Kd.R_below (Kd.R_below HZ.out Hbw.out) hb8)
    have S28 := Az.mk (bkB (bkB S2.out Hbw.out) hb8)
    have S48 := Az.mk (bkB (bkB S4.out Hbw.out) hb8)
    clear hb8 n0 n1 n2 HZ S2 S4 HB HBq
    go_wp2_with (at_builtin; refine holdX ?_)
    unfold HoldX
    have hz8 := HZ8.out
    refine Kd.R_append (Kd.int .i64) (w0 := w) w.heap.size rfl (.tmp 20) (.tmp 23) 40 3 (.int .i64 0) 8 rfl Try.underlying40 info3 rfl (by decide) (by omega) (.slice As i cs) ((ps.take i).map tcnt) (tcnt x) [.int .i64 (tcnt x)] (fun _ => True) (fun _ => False) rfl rfl rfl (fun _ hk => hk.elim) (fun _ _ => trivial) hz8 HB8.out HB8.out.size (by rw [List.length_map, List.length_take]; have := HL.out; omega) ?_
    intro v2 w9 hrf hb9 hg9 hat9
    rw [HSN.out] at hrf
    obtain ⟨A5, c5, e5⟩ := Kd.R_slice hrf
    rw [List.length_map, List.length_take, Nat.min_eq_left (by omega)] at e5
    subst e5
    have tf := Kd.R_typed hz8
    have S29 := Az.mk (grownT S28.out hg9 (fun k hk => by obtain ⟨c, hc⟩ := tf k hk; exact ⟨3, c, by decide, hc⟩))
    have S49 := Az.mk (grownT S48.out hg9 (fun k hk => by obtain ⟨c, hc⟩ := tf k hk; exact ⟨3, c, by decide, hc⟩))
    have HZ9 := Az.mk hrf
    have HB9 := Az.mk hb9
    have hzc := (Kd.R_reads' hrf).2.2
    obtain ⟨a9, he9, hx9⟩ := Kd.at_int hzc (i : Int) (by omega) (by rw [List.length_map, List.length_take]; omega)
    cases he9
    rw [Int.toNat_natCast] at hx9
    have hrd : rd ((ps.take (i + 1)).map tcnt) (i : Int) = tcnt x := by
      rw [← HSN.out]
      unfold rd
      rw [Int.toNat_natCast, List.getD_eq_getElem?_getD, List.getElem?_append_right (by rw [List.length_map, List.length_take]; omega)]
      rw [List.length_map, List.length_take, Nat.min_eq_left (by omega), Nat.sub_self]
      rfl
    rw [hrd] at hx9
    have hxc := HXC.out
    have r1 : (100000 < tcnt x) = False := eq_false (by omega)
    have r2 : (i < i + 1) = True := eq_true (by omega)
    have r3 : ((i : Int) < (i : Int) + 1) = True := eq_true (by omega)
    have r4 : ((i : Int) < ((i + 1 : Nat) : Int)) = True := eq_true (by omega)
    clear hrf hb9 hg9 hat9 tf hzc hrd hz8 HZ8 S28 S48 HB8 hxc
    go_wp2_with fail
    go_roundg k1
    case measure => omega
    case rel => exact ⟨i + 1, _, c5, by first | rfl | (simp; done) | (simp [*]; done), by first | rfl | (refine congrArg _ ?_; unfold wrap64; omega), ⟨by have := Hi.out; omega⟩, HZ9, S29, S49, HB9⟩
end Go.Proofs.Ytnfgpepggehegaa.I
namespace Go.Proofs.Ytnfgpepggehegaa.I
open Go.RowKit Go.Proofs.YtnfgpepggehegaaW.PrintWords Go.Proofs.YtnfgpepggehegaaW.PrintLast Go.Proofs.YtnfgpepggehegaaW.PrintMore
attribute [local go_sem] max2_int min2_int max_two min_two max_three min_three max_four min_four
set_option linter.unusedVariables false
set_option maxRecDepth 100000
set_option linter.unusedSimpArgs false
theorem tcnt_rd {l : List S28} {n : Int} (h0 : 0 ≤ n) (h1 : n < (l.length : Int)) : tcnt (rd_T28 l n) ≤ tcntL l := by
  have hn : n.toNat < l.length := by omega
  have e : rd_T28 l n = l[n.toNat] := by unfold rd_T28; rw [List.getD_eq_getElem?_getD, List.getElem?_eq_getElem hn]; rfl
  rw [e]
  exact tcnt_at l _ hn
set_option maxHeartbeats 16000000 in
theorem next_at {w : World} {A0 : Option Addr} {c0 : Nat} {l0 : List S87} {A1 : Option Addr} {c1 : Nat} {l1 : List S84} {ok : Nat → Prop} {x : S28} {A : Option Addr} {c : Nat} (hs : Sch w A0 c0 l0 A1 c1 l1) (ht : Tm w ok x A c) (h0 : stB l0 l1 x = 0) (y : S28) (m : Bool) (z : Int) (hz : stepF l0 l1 x = (y, m, z)) :
    Calls Try.prog 41 #[.agg #[.slice A0 l0.length c0, .slice A1 l1.length c1], .agg #[.int .i64 x.f0, .int .i64 x.f1, .slice A x.f2.length c]] w fun e w' => ∃ Av cv, e = .returned (.tuple #[.agg #[.int .i64 y.f0, .int .i64 y.f1, .slice Av y.f2.length cv], .bool m, .int .i64 z]) ∧ Tm w' (fun k => w.heap.size ≤ k) y Av cv ∧ Below w.heap.size w w' := by
  have hu25 := Try.underlying25
  have hu28 := Try.underlying28
  have hu84 := Try.underlying84
  obtain ⟨hsch, htc, hcl⟩ := stB_zero h0
  have htl := tcnt_f2 x
  have HRDY := Az.mk (ready_of hsch hcl)
  have HBODY := Az.mk (sch_bodies hsch).2
  have HXX := Az.mk (show (⟨x.f0, x.f1, x.f2⟩ : S28) = x from by cases x; rfl)
  have HTL := Az.mk (show tcntL x.f2 ≤ 100000 from by omega)
  have HTC := Az.mk htc
  have H0 := Az.mk h0
  have HS := Az.mk hs
  have HT := Az.mk ht
  have HZ := Az.mk hz
  clear hsch htc hcl htl hs ht hz h0
  go_enter Try.func41, Try.ntmps41
  go_upto_region 1 with (first
    | ((with_reducible refine gate_dst (N := 2) rfl ?_)
       refine box_event ?hg (N := 2) ?hd (cs := #[.slice A0 l0.length c0, .slice A1 l1.length c1]) (t := 25) ?hr ?_
       (case hd => rfl)
       (case hg => rfl)
       (case hr => first | (go_simp; done) | (go_simp; rfl))
       intro g2 hg_g2 w2 hbox hbb
       have S22 := Az.mk hbox
       have HB2 := Az.mk hbb
       clear hbox hbb hg_g2)
    | ((with_reducible refine gate_dst (N := 3) rfl ?_)
       refine box_event ?hg (N := 3) ?hd (cs := #[.int .i64 x.f0, .int .i64 x.f1, .slice A x.f2.length c]) (t := 28) ?hr ?_
       (case hd => rfl)
       (case hg => rfl)
       (case hr => first | (go_simp; done) | (go_simp; rfl))
       intro g3 hg_g3 w3 hbox hbb
       have S23 := Az.mk (bkB S22.out hbb)
       have S33 := Az.mk hbox
       have HB3 := Az.mk (bst HB2.out hbb)
       clear S22 HB2
       clear hbox hbb hg_g3)
    | ((with_reducible refine gate_dst (N := 4) rfl ?_)
       refine box_event ?hg (N := 4) ?hd (cs := #[.int .i64 0, .int .i64 0, .slice none 0 0]) (t := 28) ?hr ?_
       (case hd => rfl)
       (case hg => rfl)
       (case hr => first | (go_simp; done) | (go_simp; rfl))
       intro g4 hg_g4 w4 hbox hbb
       have S2 := Az.mk (bkB S23.out hbb)
       have S3 := Az.mk (bkB S33.out hbb)
       have S4 := Az.mk hbox
       have HB4 := Az.mk (bst HB3.out hbb)
       have HG4 := Az.mk (show w.heap.size ≤ g4 from by have := HB3.out.size; omega)
       have HL4 := Az.mk (show g4 < w4.heap.size from blk_lt hbox)
       clear S23 S33 HB3
       clear hbox hbb hg_g4))
  have e0 : w4.cell? ⟨g2, 0, none⟩ = some (.slice A0 l0.length c0) := (blk_cell S2.out 0).trans rfl
  have e1 : w4.cell? ⟨g2, 1, none⟩ = some (.slice A1 l1.length c1) := (blk_cell S2.out 1).trans rfl
  have m0 : w4.cell? ⟨g3, 0, none⟩ = some (.int .i64 x.f0) := (blk_cell S3.out 0).trans rfl
  have m1 : w4.cell? ⟨g3, 1, none⟩ = some (.int .i64 x.f1) := (blk_cell S3.out 1).trans rfl
  have m2 : w4.cell? ⟨g3, 2, none⟩ = some (.slice A x.f2.length c) := (blk_cell S3.out 2).trans rfl
  by_cases hk : x.f0 = 1
  rotate_left
  · have hn := nextT_done (l1 := l1) hk
    have hf := HZ.out
    rw [stepF_next H0.out (by rw [hn]; have := HTC.out; omega), hn, decide_eq_false hk] at hf
    injection hf with h1 h2
    injection h2 with h2 h3
    subst h1 h2 h3
    have q1 : (x.f0 != 1) = true := bne_iff_ne.2 hk
    have q2 : (x.f0 == 1) = false := beq_eq_false_iff_ne.2 hk
    clear hk hn HZ
    go_wp2_with fail
    (with_reducible refine (tcopy_calls _ x.f0 x.f1 x.f2 A c w4 (Nat.lt_succ_self _) (by have := HTL.out; omega) (HT.out.below HB4.out).c HT.out.le).mono ?_)
    rintro e w9 ⟨v, rfl, hRv, hb9⟩
    obtain ⟨Av, cv, rfl, hV⟩ := V_new hRv
    have HTV := Az.mk (show Tm w9 (fun k => w4.heap.size ≤ k) x Av cv from hV)
    have S49 := Az.mk (bkB S4.out hb9)
    have HB9 := Az.mk (bst HB4.out hb9)
    clear hRv hV hb9 e0 e1 m0 m1 m2
    have z0 : w9.cell? ⟨g4, 0, none⟩ = some (.int .i64 0) := (blk_cell S49.out 0).trans rfl
    have z1 : w9.cell? ⟨g4, 1, none⟩ = some (.int .i64 0) := (blk_cell S49.out 1).trans rfl
    have z2 : w9.cell? ⟨g4, 2, none⟩ = some (.slice none 0 0) := (blk_cell S49.out 2).trans rfl
    have f0 := bkF S49.out 0
    have f1 := bkF S49.out 1
    have f2 := bkF S49.out 2
    go_wp2_with fail
    refine bodyPost_ret (results_ctt rfl _ _ g4 28 #[.int .i64 x.f0, .int .i64 x.f1, .slice Av x.f2.length cv] (0, 0) _ rfl (blk_set3 S49.out _ _ _) Try.underlying28 rfl (by kernel_rfl)) rfl ?_
    exact ⟨Av, cv, rfl, Tm.mono (Tm.far3 HTV.out (fun k hk => by have := HL4.out; have : w4.heap.size ≤ k := hk; omega) _ _ _) (fun k hk => by have := HB4.out.size; have : w4.heap.size ≤ k := hk; omega), below_set3 HB9.out HG4.out _ _ _⟩
  obtain ⟨hn0, hn1, hok⟩ := HRDY.out hk
  obtain ⟨ad, A3, c3, A4, c4, he, hx0, hx1, hx2, hx3, hx4, hl3, hC3, hl4, hC4⟩ := at_T84 (Kd.C_below HS.out.r1 HB4.out) x.f1 hn0 hn1
  subst he
  have hmem : rd_T84 l1 x.f1 ∈ l1 := by
    unfold rd_T84
    rw [List.getD_eq_getElem?_getD, List.getElem?_eq_getElem (by omega)]
    exact List.getElem_mem _
  have hbt := HBODY.out _ hmem
  have hnx : nextT l1 x = subT x.f2 (rd_T84 l1 x.f1).f2 := by
    unfold nextT
    rw [if_pos hk]
  have hf := HZ.out
  unfold stepF at hf
  rw [if_pos H0.out, hnx, decide_eq_true hk] at hf
  have hlx : x.f2.length ≤ 100000 := by have := tcntL_ge x.f2; have := HTL.out; omega
  have HSUB := Az.mk (fun (w' : World) (hb : Below w4.heap.size w4 w') (R : S28) (er : Int) (hR : subR x.f2 (rd_T84 l1 x.f1).f2 = (R, er)) => subst_calls (rd_T84 l1 x.f1).f2 A4 c4 x.f2 A c w' hok (by omega) (fun n h0 h1 => by have := tcnt_rd h0 h1; have := HTL.out; omega) hlx (Kd.C_below hC4 hb) hl4 (HT.out.below (bst HB4.out hb)).c HT.out.le R er hR)
  obtain ⟨⟨R, er⟩, hR⟩ : ∃ F, subR x.f2 (rd_T84 l1 x.f1).f2 = F := ⟨_, rfl⟩
  have hyz : y = R ∧ z = er ∧ m = (er == 0) := by
    unfold subR at hR
    by_cases hbg : 100000 < tcnt (subT x.f2 (rd_T84 l1 x.f1).f2)
    · rw [if_pos hbg] at hR hf
      injection hR with r1 r2
      injection hf with f1 f2
      injection f2 with f2 f3
      subst r1 r2 f1 f2 f3
      exact ⟨rfl, rfl, rfl⟩
    · rw [if_neg hbg] at hR hf
      injection hR with r1 r2
      injection hf with f1 f2
      injection f2 with f2 f3
      subst r1 r2 f1 f2 f3
      exact ⟨rfl, rfl, rfl⟩
  obtain ⟨rfl, rfl, rfl⟩ := hyz
  have HRR := Az.mk (fun (w' : World) (hb : Below w4.heap.size w4 w') => HSUB.out w' hb _ _ hR)
  have q1 : (x.f0 != 1) = false := bne_eq_false_iff_eq.2 hk
  have q2 : (x.f0 == 1) = true := beq_iff_eq.2 hk
  have q3 : (0 ≤ x.f1) = True := eq_true hn0
  have q4 : (x.f1 < (l1.length : Int)) = True := eq_true hn1
  have q5 : (x.f1.toNat < l1.length) = True := eq_true (by omega)
  clear hf hnx hbt hmem hok hC3 hl3 hC4 hl4 hR HSUB hlx hn0 hn1 hk
  generalize (rd_T84 l1 x.f1).f2 = b at *
  go_upto_region 3 with fail
  try simp only [Act.put, List.setIfInBounds_toArray, List.set_cons_succ, List.set_cons_zero]
  have z0' : w4.cell? ⟨g4, 0, none⟩ = some (.int .i64 0) := (blk_cell S4.out 0).trans rfl
  have z1' : w4.cell? ⟨g4, 1, none⟩ = some (.int .i64 0) := (blk_cell S4.out 1).trans rfl
  have z2' : w4.cell? ⟨g4, 2, none⟩ = some (.slice none 0 0) := (blk_cell S4.out 2).trans rfl
  go_cut [6] from 13 to 24 (fun v6 wc => v6 = .int .i64 z ∧ Az (∃ Av cv, wc.heap[g4]? = some (.cells #[.int .i64 y.f0, .int .i64 y.f1, .slice Av y.f2.length cv] 28 (0, 0)) ∧ Tm wc (fun k => w4.heap.size ≤ k) y Av cv) ∧ Az (Below w.heap.size w wc))
  case first =>
    go_region_law
      (go_simp
       go_at_call 67
       (with_reducible refine (HRR.out w4.drew (below_drew (Below.refl _ _))).mono ?_)
       rintro e9 wA ⟨Av, cv, rfl, hT, hbA⟩
       have HTA := Az.mk (show Tm wA (fun k => w4.heap.size ≤ k) y Av cv from hT)
       have S4A := Az.mk (bkB (blk_drew S4.out) hbA)
       have HBA := Az.mk (bst (below_drew HB4.out) hbA)
       have k90 := (blk_cell S4A.out 0).trans rfl
       have k91 := (blk_cell S4A.out 1).trans rfl
       have k92 := (blk_cell S4A.out 2).trans rfl
       have f90 := bkF S4A.out 0
       have f91 := bkF S4A.out 1
       have f92 := bkF S4A.out 2
       clear hT hbA)
    all_goals (
      go_wp2_with fail
      go_meet
      exact ⟨by first | rfl | (go_simp; done) | (go_simp; rfl) | (simp [Act.put, Act.eval]; done), ⟨Av, cv, blk_set3 S4A.out _ _ _, Tm.far3 HTA.out (fun k hk => by have := HL4.out; have : w4.heap.size ≤ k := hk; omega) _ _ _⟩, ⟨below_set3 HBA.out HG4.out _ _ _⟩⟩)
  case rest =>
    obtain ⟨rfl, HM, HBc⟩ := hcut
    obtain ⟨Av, cv, s4, hT⟩ := HM.out
    have S4c := Az.mk s4
    have HTc := Az.mk hT
    clear s4 hT HM e0 e1 m0 m1 m2 z0' z1' z2' hx0 hx1 hx2 hx3 hx4 q1 q2 q3 q4 q5
    have z0 : wc.cell? ⟨g4, 0, none⟩ = some (.int .i64 y.f0) := (blk_cell S4c.out 0).trans rfl
    have z1 : wc.cell? ⟨g4, 1, none⟩ = some (.int .i64 y.f1) := (blk_cell S4c.out 1).trans rfl
    have z2 : wc.cell? ⟨g4, 2, none⟩ = some (.slice Av y.f2.length cv) := (blk_cell S4c.out 2).trans rfl
    have f0 := bkF S4c.out 0
    have f1 := bkF S4c.out 1
    have f2 := bkF S4c.out 2
    go_wp2_with fail
    refine bodyPost_ret (results_ctt rfl _ _ g4 28 #[.int .i64 y.f0, .int .i64 y.f1, .slice Av y.f2.length cv] (0, 0) _ rfl (blk_set3 S4c.out _ _ _) Try.underlying28 rfl (by kernel_rfl)) rfl ?_
    exact ⟨Av, cv, by first | rfl | (simp; done), Tm.mono (Tm.far3 HTc.out (fun k hk => by have := HL4.out; have : w4.heap.size ≤ k := hk; omega) _ _ _) (fun k hk => by have := HB4.out.size; have : w4.heap.size ≤ k := hk; omega), below_set3 HBc.out HG4.out _ _ _⟩
end Go.Proofs.Ytnfgpepggehegaa.I
