/- Texts of this session's proof, laid together: ID3, ID4, ID5, ID5F. -/
import Derived.Test.YtnfgpepggehegaaE7
namespace Go.Proofs.Ytnfgpepggehegaa.I
open Go.RowKit Go.Proofs.YtnfgpepggehegaaW.PrintWords Go.Proofs.YtnfgpepggehegaaW.PrintLast Go.Proofs.YtnfgpepggehegaaW.PrintMore
attribute [local go_sem] max2_int min2_int max_two min_two max_three min_three max_four min_four
set_option linter.unusedVariables false
set_option maxRecDepth 100000
set_option linter.unusedSimpArgs false
def subR (ps : List S28) (t : S28) : S28 × Int := if 100000 < tcnt (subT ps t) then (⟨0, 0, []⟩, 3) else (subT ps t, 0)
theorem Ns.nil (w : World) : Ns w [] none 0 := by
  unfold Ns
  exact Kd.V_nil _ _ _ _ _
theorem nodes_at {w : World} {x : S28} {A : Option Addr} {c : Nat} (h : Kd.C k28 w A x.f2.length x.f2) (hc : x.f2.length ≤ c) (hx : tcnt x ≤ 100000) :
    Calls Try.prog 57 #[.agg #[.int .i64 x.f0, .int .i64 x.f1, .slice A x.f2.length c], .int .i64 100000] w fun e w' => e = .returned (.int .i64 (tcnt x)) ∧ Below w.heap.size w w' := by
  have he := tnodes_ev _ x.f0 x.f1 x.f2 100000 (Nat.lt_succ_self _) (by omega) (by omega)
  rw [show min (1 + tcntL x.f2) (100000 + 1) = tcnt x from by have := tcnt_f2 x; omega] at he
  obtain ⟨k, hk⟩ := he.rounds
  exact virgationref02_Nodes.calls k x.f0 x.f1 A c x.f2 100000 _ w h hc hk
theorem sizes_take {l : List S28} {i : Nat} (h : i < l.length) : (l.take i).map tcnt ++ [tcnt (rd_T28 l (i : Int))] = (l.take (i + 1)).map tcnt := by
  rw [take28 h, List.map_append, rd_T28_at h]; rfl
theorem rd_sizes {l : List S28} (n : Int) (h0 : 0 ≤ n) (h1 : n < (l.length : Int)) : rd (l.map tcnt) n = tcnt (rd_T28 l n) := by
  have hn : n.toNat < l.length := by omega
  unfold rd rd_T28
  rw [List.getD_eq_getElem?_getD, List.getD_eq_getElem?_getD, List.getElem?_map, List.getElem?_eq_getElem hn]
  rfl
theorem vars_nil (m a b : Int) (l : List S28) (A : Option Addr) (c : Nat) (w : World) (hok : okT m ⟨a, b, l⟩ = true) (hl : tcntL l ≤ 100000) (hr : Kd.C k28 w A l.length l) (hc : l.length ≤ c) :
    Calls Try.prog 82 #[.agg #[.int .i64 a, .int .i64 b, .slice A l.length c], .slice none 0 0] w fun e w' => ∃ V' A' c', e = .returned (.slice A' V'.length c') ∧ Ns w' V' A' c' ∧ (∀ x ∈ V', 0 ≤ x ∧ x < m) ∧ V'.length ≤ 200000 ∧ Below w.heap.size w w' := by
  refine Calls.mono (vars_calls m _ a b l A c [] none 0 w (Nat.lt_succ_self _) hok (by simp; omega) (fun x hx => absurd hx (by simp)) hr hc (Ns.nil w)) ?_
  rintro e w' ⟨V, A', c', rfl, h1, h2, h3, h4⟩
  have e0 : (([] : List Int).length : Int) = 0 := rfl
  exact ⟨V, A', c', rfl, h1, h2, by omega, h4⟩
set_option maxHeartbeats 16000000 in
theorem subst_calls (t : S28) (A : Option Addr) (c : Nat) (ps : List S28) (Ap : Option Addr) (cp : Nat) (w : World) (hok : okT (ps.length : Int) t = true) (ht : tcnt t ≤ 100000) (hps : ∀ n : Int, 0 ≤ n → n < (ps.length : Int) → tcnt (rd_T28 ps n) ≤ 100000) (hl : ps.length ≤ 100000) (hr : Kd.C k28 w A t.f2.length t.f2) (hc : t.f2.length ≤ c) (hrp : Kd.C k28 w Ap ps.length ps) (hcp : ps.length ≤ cp) (R : S28) (er : Int) (hR : subR ps t = (R, er)) :
    Calls Try.prog 67 #[.agg #[.int .i64 t.f0, .int .i64 t.f1, .slice A t.f2.length c], .slice Ap ps.length cp] w fun e w' => ∃ Av cv, e = .returned (.tuple #[.agg #[.int .i64 R.f0, .int .i64 R.f1, .slice Av R.f2.length cv], .int .i64 er]) ∧ Tm w' (fun k => w.heap.size ≤ k) R Av cv ∧ Below w.heap.size w w' := by
  have hu28 := Try.underlying28
  have hu26 := Try.underlying26
  have htl := tcnt_f2 t
  have HOK := Aside0.mk hok
  have HOK2 := Aside0.mk (show okT (ps.length : Int) ⟨t.f0, t.f1, t.f2⟩ = true from by cases t; exact hok)
  have HTT := Aside0.mk (show (⟨t.f0, t.f1, t.f2⟩ : S28) = t from by cases t; rfl)
  have HT := Aside0.mk ht
  have HPS := Aside0.mk hps
  have HL := Aside0.mk hl
  have HR := Aside0.mk hr
  have HC := Aside0.mk hc
  have HRP := Aside0.mk hrp
  have HCP := Aside0.mk hcp
  have HRR := Aside0.mk hR
  have HTL := Aside0.mk (show tcntL t.f2 ≤ 100000 from by omega)
  have hlen : ps.length ≤ 9223372036854775807 := by omega
  clear hok ht hps hl hr hc hrp hcp hR htl
  go_enter Try.func67, Try.ntmps67
  go_wp2_with (first
    | ((with_reducible refine gate_dst (N := 2) rfl ?_)
       refine box_event ?hg (N := 2) ?hd (cs := #[.int .i64 t.f0, .int .i64 t.f1, .slice A t.f2.length c]) (t := 28) ?hr ?_
       (case hd => rfl)
       (case hg => rfl)
       (case hr => first | (go_simp; done) | (go_simp; rfl))
       intro g2 hg_g2 w2 hbox hbb
       have S22 := Aside0.mk hbox
       have HB2 := Aside0.mk hbb
       clear hbox hbb hg_g2)
    | ((with_reducible refine gate_dst (N := 4) rfl ?_)
       refine box_event ?hg (N := 4) ?hd (cs := #[.int .i64 0, .int .i64 0, .slice none 0 0]) (t := 28) ?hr ?_
       (case hd => rfl)
       (case hg => rfl)
       (case hr => first | (go_simp; done) | (go_simp; rfl))
       intro g4 hg_g4 w4 hbox hbb
       have S2 := Aside0.mk (blk_below S22.out hbb)
       have S4 := Aside0.mk hbox
       have HB4 := Aside0.mk (below_step HB2.out hbb)
       have HG4 := Aside0.mk (show w.heap.size ≤ g4 from by have := HB2.out.size; omega)
       have e0 := (blk_cell S2.out 0).trans rfl
       have e1 := (blk_cell S2.out 1).trans rfl
       have e2 := (blk_cell S2.out 2).trans rfl
       clear S22 HB2
       clear hbox hbb hg_g4))
  (with_reducible refine (large_calls t (Kd.C_below HR.out HB4.out) HC.out).mono ?_)
  rw [show decide (100000 < tcnt t) = false from decide_eq_false (by have := HT.out; omega)]
  rintro e w5 ⟨rfl, hb5⟩
  have HB5 := Aside0.mk (below_step HB4.out hb5)
  have S25 := Aside0.mk (blk_below S2.out hb5)
  have S45 := Aside0.mk (blk_below S4.out hb5)
  clear hb5 S2 S4 HB4 e0 e1 e2
  go_wp2_with fail
  go_loopg [6, 16] ps.length (fun kq v6 v16 wr => ∃ (i : Nat) (As : Option Addr) (cs : Nat), v6 = .slice As i cs ∧ v16 = .int .i64 (i : Int) ∧ Aside0 (i + kq = ps.length) ∧ Aside0 (Kd.R (Kd.int .i64) 3 wr w.heap.size (fun _ => True) (.slice As i cs) ((ps.take i).map tcnt)) ∧ Aside0 (wr.heap[g2]? = some (.cells #[.int .i64 t.f0, .int .i64 t.f1, .slice A t.f2.length c] 28 (0, 0))) ∧ Aside0 (wr.heap[g4]? = some (.cells #[.int .i64 0, .int .i64 0, .slice none 0 0] 28 (0, 0))) ∧ Aside0 (Below w.heap.size w wr))
  case atStart => exact ⟨0, none, 0, rfl, rfl, ⟨by omega⟩, ⟨Kd.R_nil _ _ _ _ _⟩, S25, S45, HB5⟩
  case round =>
    clear S25 S45 HB5
    obtain ⟨i, As, cs, rfl, rfl, Hi, HZ, S2, S4, HB⟩ := hrel
    by_cases hlt : i < ps.length
    rotate_left
    · have hie : i = ps.length := by have := Hi.out; omega
      subst hie
      have hz := HZ.out
      rw [List.take_length] at hz
      have hz2 : Kd.V (Kd.int .i64) 3 wr 0 (fun _ => True) (.slice As ps.length cs) (ps.map tcnt) := Kd.R_V hz
      have HZ2 := Aside0.mk hz2
      clear hz hz2 HZ hlt Hi
      have e0 : wr.cell? ⟨g2, 0, none⟩ = some (.int .i64 t.f0) := (blk_cell S2.out 0).trans rfl
      have e1 : wr.cell? ⟨g2, 1, none⟩ = some (.int .i64 t.f1) := (blk_cell S2.out 1).trans rfl
      have e2 : wr.cell? ⟨g2, 2, none⟩ = some (.slice A t.f2.length c) := (blk_cell S2.out 2).trans rfl
      go_wp2_with fail
      (with_reducible refine (vars_nil (ps.length : Int) t.f0 t.f1 t.f2 A c wr HOK2.out HTL.out (Kd.C_below HR.out HB.out) HC.out).mono ?_)
      rintro e w6 ⟨V, A6, c6, rfl, hns, hv, hvl, hb6⟩
      have HNS := Aside0.mk hns
      have HV := Aside0.mk hv
      have HVL := Aside0.mk hvl
      have S26 := Aside0.mk (blk_below S2.out hb6)
      have S46 := Aside0.mk (blk_below S4.out hb6)
      have HZ6 := Aside0.mk (Kd.V_below HZ2.out hb6)
      have HB6 := Aside0.mk (below_step HB.out hb6)
      have hvl' := HVL.out
      clear hns hv hvl hb6 e0 e1 e2 S2 S4 HZ2 HB
      go_wp2_with fail
      go_loopg [10, 37] V.length (fun kq v10 v37 wr => ∃ (i : Nat), v37 = .int .i64 (i : Int) ∧ Aside0 (i + kq = V.length) ∧ Aside0 (Below w6.heap.size w6 wr))
      case atStart => exact ⟨0, rfl, ⟨by omega⟩, ⟨Below.refl _ _⟩⟩
      case round =>
        obtain ⟨i, rfl, Hi, HBi⟩ := hrel
        have S2i := Aside0.mk (blk_below S26.out HBi.out)
        have S4i := Aside0.mk (blk_below S46.out HBi.out)
        have HBw := Aside0.mk (below_step HB6.out HBi.out)
        by_cases hlt : i < V.length
        · obtain ⟨ad, he, hx⟩ := Kd.at_int (Kd.V_reads' (HNS.out.below HBi.out)).2.2 (i : Int) (by omega) (by omega)
          cases he
          rw [Int.toNat_natCast] at hx
          have hmem : rd V (i : Int) ∈ V := by unfold rd; rw [Int.toNat_natCast, List.getD_eq_getElem?_getD, List.getElem?_eq_getElem hlt]; exact List.getElem_mem _
          have hrg := HV.out _ hmem
          generalize rd V (i : Int) = v at *
          have q1 : (0 ≤ (i : Int)) = True := eq_true (by omega)
          have q2 : ((i : Int) < (V.length : Int)) = True := eq_true (by omega)
          have q3 : (i < V.length) = True := eq_true hlt
          have q4 : (v < 0) = False := eq_false (by omega)
          have q5 : ((ps.length : Int) ≤ v) = False := eq_false (by omega)
          have q6 : (v ≥ (ps.length : Int)) = False := eq_false (by omega)
          clear hmem hrg
          go_wp2_with fail
          have hk := Hi.out
          obtain ⟨k1, rfl⟩ : ∃ k1, gk = k1 + 1 := ⟨gk - 1, by omega⟩
          go_roundg k1
          case measure => omega
          case rel => exact ⟨i + 1, by first | rfl | (refine congrArg _ ?_; unfold wrap64; omega), ⟨by omega⟩, HBi⟩
        have q2 : ((i : Int) < (V.length : Int)) = False := eq_false (by omega)
        have q3 : (i < V.length) = False := eq_false hlt
        have HZi := Aside0.mk (Kd.V_below HZ6.out HBi.out)
        have hge := (grown_ev ps (ps.map tcnt) (List.length_map _) (fun n h0 h1 => ⟨rd_sizes n h0 h1, HPS.out n h0 h1⟩) _ t.f0 t.f1 t.f2 (Nat.lt_succ_self _) HOK2.out (by have := HTL.out; omega)).rounds
        rw [HTT.out] at hge
        obtain ⟨kg, hkg⟩ := hge
        have hzl : (ps.map tcnt).length = ps.length := List.length_map _
        have hg0 := virgationref02_grown.calls kg t.f0 t.f1 A c t.f2 As cs (ps.map tcnt) _ wr (Kd.C_below HR.out HBw.out) HC.out (Kd.V_reads' HZi.out).2.2 (by have := (Kd.V_reads' HZi.out).2.1; omega) hkg
        rw [hzl] at hg0
        have HGR := Aside0.mk hg0
        clear hg0 hkg hzl
        have e0 : wr.cell? ⟨g2, 0, none⟩ = some (.int .i64 t.f0) := (blk_cell S2i.out 0).trans rfl
        have e1 : wr.cell? ⟨g2, 1, none⟩ = some (.int .i64 t.f1) := (blk_cell S2i.out 1).trans rfl
        have e2 : wr.cell? ⟨g2, 2, none⟩ = some (.slice A t.f2.length c) := (blk_cell S2i.out 2).trans rfl
        by_cases hbig : 100000 < tcnt (subT ps t)
        · have hr := HRR.out
          unfold subR at hr
          rw [if_pos hbig] at hr
          injection hr with h1 h2
          subst h1 h2
          have hmn : min (tcnt (subT ps t)) 100001 = 100001 := by omega
          rw [hmn] at HGR
          clear hbig hmn
          go_wp2_with fail
          (with_reducible refine (HGR.out).mono ?_)
          rintro e w8 ⟨rfl, hb8⟩
          have S48 := Aside0.mk (blk_below S4i.out hb8)
          have HB8 := Aside0.mk (below_step HBw.out hb8)
          clear hb8 e0 e1 e2
          have z0 : w8.cell? ⟨g4, 0, none⟩ = some (.int .i64 0) := (blk_cell S48.out 0).trans rfl
          have z1 : w8.cell? ⟨g4, 1, none⟩ = some (.int .i64 0) := (blk_cell S48.out 1).trans rfl
          have z2 : w8.cell? ⟨g4, 2, none⟩ = some (.slice none 0 0) := (blk_cell S48.out 2).trans rfl
          have f0 := blk_frozen S48.out 0
          have f1 := blk_frozen S48.out 1
          have f2 := blk_frozen S48.out 2
          go_wp2_with fail
          refine bodyPost_ret (results_ct rfl _ _ g4 28 #[.int .i64 0, .int .i64 0, .slice none 0 0] (0, 0) _ rfl (blk_set3 S48.out _ _ _) Try.underlying28 rfl (by kernel_rfl)) rfl ?_
          exact ⟨none, 0, rfl, Kd.V_nil _ _ _ _ _, below_set3 HB8.out HG4.out _ _ _⟩
        · have hr := HRR.out
          unfold subR at hr
          rw [if_neg hbig] at hr
          injection hr with h1 h2
          have hre := (replace_ev ps HPS.out _ t.f0 t.f1 t.f2 (Nat.lt_succ_self _) HOK2.out (by rw [HTT.out]; omega)).rounds
          rw [HTT.out] at hre
          obtain ⟨kr, hkr⟩ := hre
          rw [h1] at hkr hbig HGR
          subst h2
          have HRC := Aside0.mk (fun (w' : World) (hb : Below w.heap.size w w') => virgationref02_Replace.calls kr t.f0 t.f1 A c t.f2 Ap cp ps _ _ _ w' (Kd.C_below HR.out hb) HC.out (Kd.C_below HRP.out hb) HCP.out hkr)
          have HRS := Aside0.mk hbig
          obtain ⟨mm, hmm⟩ : ∃ mm, min (tcnt R) 100001 = mm := ⟨_, rfl⟩
          rw [hmm] at HGR
          have q7 : (100000 < mm) = False := eq_false (by omega)
          clear hkr hbig h1 hmm
          go_wp2_with fail
          (with_reducible refine (HGR.out).mono ?_)
          rintro e w8 ⟨rfl, hb8⟩
          have S28 := Aside0.mk (blk_below S2i.out hb8)
          have S48 := Aside0.mk (blk_below S4i.out hb8)
          have HB8 := Aside0.mk (below_step HBw.out hb8)
          clear hb8 e0 e1 e2
          have e0 : w8.cell? ⟨g2, 0, none⟩ = some (.int .i64 t.f0) := (blk_cell S28.out 0).trans rfl
          have e1 : w8.cell? ⟨g2, 1, none⟩ = some (.int .i64 t.f1) := (blk_cell S28.out 1).trans rfl
          have e2 : w8.cell? ⟨g2, 2, none⟩ = some (.slice A t.f2.length c) := (blk_cell S28.out 2).trans rfl
          go_wp2_with fail
          (with_reducible refine (HRC.out w8 HB8.out).mono ?_)
          rintro e w9 ⟨v, rfl, hRv, hb9⟩
          obtain ⟨Av, cv, rfl, hV⟩ := V_new hRv
          have HTV := Aside0.mk (show Tm w9 (fun k => w8.heap.size ≤ k) R Av cv from hV)
          have S49 := Aside0.mk (blk_below S48.out hb9)
          have HB9 := Aside0.mk (below_step HB8.out hb9)
          have HL4 := Aside0.mk (blk_lt S48.out)
          clear hRv hV hb9 e0 e1 e2
          have z0 : w9.cell? ⟨g4, 0, none⟩ = some (.int .i64 0) := (blk_cell S49.out 0).trans rfl
          have z1 : w9.cell? ⟨g4, 1, none⟩ = some (.int .i64 0) := (blk_cell S49.out 1).trans rfl
          have z2 : w9.cell? ⟨g4, 2, none⟩ = some (.slice none 0 0) := (blk_cell S49.out 2).trans rfl
          have f0 := blk_frozen S49.out 0
          have f1 := blk_frozen S49.out 1
          have f2 := blk_frozen S49.out 2
          go_wp2_with fail
          refine bodyPost_ret (results_ct rfl _ _ g4 28 #[.int .i64 R.f0, .int .i64 R.f1, .slice Av R.f2.length cv] (0, 0) _ rfl (blk_set3 S49.out _ _ _) Try.underlying28 rfl (by kernel_rfl)) rfl ?_
          exact ⟨Av, cv, rfl, Tm.mono (Tm.far3 HTV.out (fun k hk => by have := HL4.out; have : w8.heap.size ≤ k := hk; omega) _ _ _) (fun k hk => by have := HB8.out.size; have : w8.heap.size ≤ k := hk; omega), below_set3 HB9.out HG4.out _ _ _⟩
    have hk := Hi.out
    obtain ⟨k1, rfl⟩ : ∃ k1, gk = k1 + 1 := ⟨gk - 1, by omega⟩
    clear hk
    have hil := HL.out
    obtain ⟨ad, A4, c4, he, hx2, hx3, hx4, hl4, hC4⟩ := at_T28 (Kd.C_below HRP.out HB.out) (i : Int) (by omega) (by omega)
    cases he
    rw [Int.toNat_natCast] at hx2 hx3 hx4
    have HC4 := Aside0.mk hC4
    have Hl4 := Aside0.mk hl4
    have HSN := Aside0.mk (sizes_take hlt)
    have HXC := Aside0.mk (HPS.out (i : Int) (by omega) (by omega))
    have q1 : (0 ≤ (i : Int)) = True := eq_true (by omega)
    have q2 : ((i : Int) < (ps.length : Int)) = True := eq_true (by omega)
    have q3 : (i < ps.length) = True := eq_true (by omega)
    clear hl4 hC4
    generalize rd_T28 ps (i : Int) = x at *
    go_upto_region 7 with (
      ((with_reducible refine gate_dst (N := 8) rfl ?_)
       refine box_event ?hg (N := 8) ?hd (cs := #[.int .i64 0, .int .i64 0, .slice none 0 0]) (t := 28) ?hr ?_
       (case hd => rfl)
       (case hg => rfl)
       (case hr => first | (go_simp; done) | (go_simp; rfl))
       intro gi hg_gi w6 hbox hbb
       have hgw : wr.heap.size ≤ gi := by omega
       have Hbw := Aside0.mk (below_set3 hbb hgw (.int .i64 x.f0) (.int .i64 x.f1) (.slice A4 x.f2.length c4))
       have Sgi := Aside0.mk (blk_set3 hbox (.int .i64 x.f0) (.int .i64 x.f1) (.slice A4 x.f2.length c4))
       have hcz0 := (blk_cell hbox 0).trans rfl
       have hfz0 := blk_frozen hbox 0
       have hcz1 := (blk_cell hbox 1).trans rfl
       have hfz1 := blk_frozen hbox 1
       have hcz2 := (blk_cell hbox 2).trans rfl
       have hfz2 := blk_frozen hbox 2
       clear hgw
       clear hbox hbb hg_gi))
    clear hcz0 hcz1 hcz2 hfz0 hfz1 hfz2 hx2 hx3 hx4
    generalize (((w6.setCell ⟨gi, 0, none⟩ (.int .i64 x.f0)).setCell ⟨gi, 1, none⟩ (.int .i64 x.f1)).setCell ⟨gi, 2, none⟩ (.slice A4 x.f2.length c4)) = wq at *
    have n0 : wq.cell? ⟨gi, 0, none⟩ = some (.int .i64 x.f0) := (blk_cell Sgi.out 0).trans rfl
    have n1 : wq.cell? ⟨gi, 1, none⟩ = some (.int .i64 x.f1) := (blk_cell Sgi.out 1).trans rfl
    have n2 : wq.cell? ⟨gi, 2, none⟩ = some (.slice A4 x.f2.length c4) := (blk_cell Sgi.out 2).trans rfl
    have HBq := Aside0.mk (below_step HB.out Hbw.out)
    go_wp2_with fail
    (with_reducible refine (nodes_at (Kd.C_below HC4.out Hbw.out) Hl4.out HXC.out).mono ?_)
    rintro e w8 ⟨rfl, hb8⟩
    have HB8 := Aside0.mk (below_step HBq.out hb8)
    have HZ8 := Aside0.mk (Kd.R_below (Kd.R_below HZ.out Hbw.out) hb8)
    have S28 := Aside0.mk (blk_below (blk_below S2.out Hbw.out) hb8)
    have S48 := Aside0.mk (blk_below (blk_below S4.out Hbw.out) hb8)
    clear hb8 n0 n1 n2 HZ S2 S4 HB HBq
    go_wp2_with (at_builtin; refine holdX ?_)
    unfold HoldX
    have hz8 := HZ8.out
    refine Kd.R_append (Kd.int .i64) (w0 := w) w.heap.size rfl (.tmp 20) (.tmp 23) 40 3 (.int .i64 0) 8 rfl Try.underlying40 info3 rfl (by decide) (by omega) (.slice As i cs) ((ps.take i).map tcnt) (tcnt x) [.int .i64 (tcnt x)] (fun _ => True) (fun _ => False) rfl rfl rfl (fun _ hk => hk.elim) (fun _ _ => trivial) hz8 HB8.out HB8.out.size (by rw [List.length_map, List.length_take]; have := HL.out; omega) ?_
    intro v2 w9 hrf hb9 hg9 hat9
    rw [HSN.out] at hrf
    obtain ⟨A5, c5, e5⟩ := Kd.R_slice hrf
    rw [List.length_map, List.length_take, Nat.min_eq_left (by omega)] at e5
    subst e5
    have tf := Kd.R_typed hz8
    have S29 := Aside0.mk (grownT S28.out hg9 (fun k hk => by obtain ⟨c, hc⟩ := tf k hk; exact ⟨3, c, by decide, hc⟩))
    have S49 := Aside0.mk (grownT S48.out hg9 (fun k hk => by obtain ⟨c, hc⟩ := tf k hk; exact ⟨3, c, by decide, hc⟩))
    have HZ9 := Aside0.mk hrf
    have HB9 := Aside0.mk hb9
    have hzc := (Kd.R_reads' hrf).2.2
    obtain ⟨a9, he9, hx9⟩ := Kd.at_int hzc (i : Int) (by omega) (by rw [List.length_map, List.length_take]; omega)
    cases he9
    rw [Int.toNat_natCast] at hx9
    have hrd : rd ((ps.take (i + 1)).map tcnt) (i : Int) = tcnt x := by
      rw [← HSN.out]
      unfold rd
      rw [Int.toNat_natCast, List.getD_eq_getElem?_getD, List.getElem?_append_right (by rw [List.length_map, List.length_take]; omega)]
      rw [List.length_map, List.length_take, Nat.min_eq_left (by omega), Nat.sub_self]
      rfl
    rw [hrd] at hx9
    have hxc := HXC.out
    have r1 : (100000 < tcnt x) = False := eq_false (by omega)
    have r2 : (i < i + 1) = True := eq_true (by omega)
    have r3 : ((i : Int) < (i : Int) + 1) = True := eq_true (by omega)
    have r4 : ((i : Int) < ((i + 1 : Nat) : Int)) = True := eq_true (by omega)
    clear hrf hb9 hg9 hat9 tf hzc hrd hz8 HZ8 S28 S48 HB8 hxc
    go_wp2_with fail
    go_roundg k1
    case measure => omega
    case rel => exact ⟨i + 1, _, c5, by first | rfl | (simp; done) | (simp [*]; done), by first | rfl | (refine congrArg _ ?_; unfold wrap64; omega), ⟨by have := Hi.out; omega⟩, HZ9, S29, S49, HB9⟩
end Go.Proofs.Ytnfgpepggehegaa.I
namespace Go.Proofs.Ytnfgpepggehegaa.I
open Go.RowKit Go.Proofs.YtnfgpepggehegaaW.PrintWords Go.Proofs.YtnfgpepggehegaaW.PrintLast Go.Proofs.YtnfgpepggehegaaW.PrintMore
attribute [local go_sem] max2_int min2_int max_two min_two max_three min_three max_four min_four
set_option linter.unusedVariables false
set_option maxRecDepth 100000
set_option linter.unusedSimpArgs false
theorem tcnt_rd {l : List S28} {n : Int} (h0 : 0 ≤ n) (h1 : n < (l.length : Int)) : tcnt (rd_T28 l n) ≤ tcntL l := by
  have hn : n.toNat < l.length := by omega
  have e : rd_T28 l n = l[n.toNat] := by unfold rd_T28; rw [List.getD_eq_getElem?_getD, List.getElem?_eq_getElem hn]; rfl
  rw [e]
  exact tcnt_at l _ hn
set_option maxHeartbeats 16000000 in
theorem next_at {w : World} {A0 : Option Addr} {c0 : Nat} {l0 : List S87} {A1 : Option Addr} {c1 : Nat} {l1 : List S84} {ok : Nat → Prop} {x : S28} {A : Option Addr} {c : Nat} (hs : Sch w A0 c0 l0 A1 c1 l1) (ht : Tm w ok x A c) (h0 : stB l0 l1 x = 0) (y : S28) (m : Bool) (z : Int) (hz : stepF l0 l1 x = (y, m, z)) :
    Calls Try.prog 41 #[.agg #[.slice A0 l0.length c0, .slice A1 l1.length c1], .agg #[.int .i64 x.f0, .int .i64 x.f1, .slice A x.f2.length c]] w fun e w' => ∃ Av cv, e = .returned (.tuple #[.agg #[.int .i64 y.f0, .int .i64 y.f1, .slice Av y.f2.length cv], .bool m, .int .i64 z]) ∧ Tm w' (fun k => w.heap.size ≤ k) y Av cv ∧ Below w.heap.size w w' := by
  have hu25 := Try.underlying25
  have hu28 := Try.underlying28
  have hu84 := Try.underlying84
  obtain ⟨hsch, htc, hcl⟩ := stB_zero h0
  have htl := tcnt_f2 x
  have HRDY := Aside0.mk (ready_of hsch hcl)
  have HBODY := Aside0.mk (sch_bodies hsch).2
  have HXX := Aside0.mk (show (⟨x.f0, x.f1, x.f2⟩ : S28) = x from by cases x; rfl)
  have HTL := Aside0.mk (show tcntL x.f2 ≤ 100000 from by omega)
  have HTC := Aside0.mk htc
  have H0 := Aside0.mk h0
  have HS := Aside0.mk hs
  have HT := Aside0.mk ht
  have HZ := Aside0.mk hz
  clear hsch htc hcl htl hs ht hz h0
  go_enter Try.func41, Try.ntmps41
  go_upto_region 1 with (first
    | ((with_reducible refine gate_dst (N := 2) rfl ?_)
       refine box_event ?hg (N := 2) ?hd (cs := #[.slice A0 l0.length c0, .slice A1 l1.length c1]) (t := 25) ?hr ?_
       (case hd => rfl)
       (case hg => rfl)
       (case hr => first | (go_simp; done) | (go_simp; rfl))
       intro g2 hg_g2 w2 hbox hbb
       have S22 := Aside0.mk hbox
       have HB2 := Aside0.mk hbb
       clear hbox hbb hg_g2)
    | ((with_reducible refine gate_dst (N := 3) rfl ?_)
       refine box_event ?hg (N := 3) ?hd (cs := #[.int .i64 x.f0, .int .i64 x.f1, .slice A x.f2.length c]) (t := 28) ?hr ?_
       (case hd => rfl)
       (case hg => rfl)
       (case hr => first | (go_simp; done) | (go_simp; rfl))
       intro g3 hg_g3 w3 hbox hbb
       have S23 := Aside0.mk (blk_below S22.out hbb)
       have S33 := Aside0.mk hbox
       have HB3 := Aside0.mk (below_step HB2.out hbb)
       clear S22 HB2
       clear hbox hbb hg_g3)
    | ((with_reducible refine gate_dst (N := 4) rfl ?_)
       refine box_event ?hg (N := 4) ?hd (cs := #[.int .i64 0, .int .i64 0, .slice none 0 0]) (t := 28) ?hr ?_
       (case hd => rfl)
       (case hg => rfl)
       (case hr => first | (go_simp; done) | (go_simp; rfl))
       intro g4 hg_g4 w4 hbox hbb
       have S2 := Aside0.mk (blk_below S23.out hbb)
       have S3 := Aside0.mk (blk_below S33.out hbb)
       have S4 := Aside0.mk hbox
       have HB4 := Aside0.mk (below_step HB3.out hbb)
       have HG4 := Aside0.mk (show w.heap.size ≤ g4 from by have := HB3.out.size; omega)
       have HL4 := Aside0.mk (show g4 < w4.heap.size from blk_lt hbox)
       clear S23 S33 HB3
       clear hbox hbb hg_g4))
  have e0 : w4.cell? ⟨g2, 0, none⟩ = some (.slice A0 l0.length c0) := (blk_cell S2.out 0).trans rfl
  have e1 : w4.cell? ⟨g2, 1, none⟩ = some (.slice A1 l1.length c1) := (blk_cell S2.out 1).trans rfl
  have m0 : w4.cell? ⟨g3, 0, none⟩ = some (.int .i64 x.f0) := (blk_cell S3.out 0).trans rfl
  have m1 : w4.cell? ⟨g3, 1, none⟩ = some (.int .i64 x.f1) := (blk_cell S3.out 1).trans rfl
  have m2 : w4.cell? ⟨g3, 2, none⟩ = some (.slice A x.f2.length c) := (blk_cell S3.out 2).trans rfl
  by_cases hk : x.f0 = 1
  rotate_left
  · have hn := nextT_done (l1 := l1) hk
    have hf := HZ.out
    rw [stepF_next H0.out (by rw [hn]; have := HTC.out; omega), hn, decide_eq_false hk] at hf
    injection hf with h1 h2
    injection h2 with h2 h3
    subst h1 h2 h3
    have q1 : (x.f0 != 1) = true := bne_iff_ne.2 hk
    have q2 : (x.f0 == 1) = false := beq_eq_false_iff_ne.2 hk
    clear hk hn HZ
    go_wp2_with fail
    (with_reducible refine (tcopy_calls _ x.f0 x.f1 x.f2 A c w4 (Nat.lt_succ_self _) (by have := HTL.out; omega) (HT.out.below HB4.out).c HT.out.le).mono ?_)
    rintro e w9 ⟨v, rfl, hRv, hb9⟩
    obtain ⟨Av, cv, rfl, hV⟩ := V_new hRv
    have HTV := Aside0.mk (show Tm w9 (fun k => w4.heap.size ≤ k) x Av cv from hV)
    have S49 := Aside0.mk (blk_below S4.out hb9)
    have HB9 := Aside0.mk (below_step HB4.out hb9)
    clear hRv hV hb9 e0 e1 m0 m1 m2
    have z0 : w9.cell? ⟨g4, 0, none⟩ = some (.int .i64 0) := (blk_cell S49.out 0).trans rfl
    have z1 : w9.cell? ⟨g4, 1, none⟩ = some (.int .i64 0) := (blk_cell S49.out 1).trans rfl
    have z2 : w9.cell? ⟨g4, 2, none⟩ = some (.slice none 0 0) := (blk_cell S49.out 2).trans rfl
    have f0 := blk_frozen S49.out 0
    have f1 := blk_frozen S49.out 1
    have f2 := blk_frozen S49.out 2
    go_wp2_with fail
    refine bodyPost_ret (results_ctt rfl _ _ g4 28 #[.int .i64 x.f0, .int .i64 x.f1, .slice Av x.f2.length cv] (0, 0) _ rfl (blk_set3 S49.out _ _ _) Try.underlying28 rfl (by kernel_rfl)) rfl ?_
    exact ⟨Av, cv, rfl, Tm.mono (Tm.far3 HTV.out (fun k hk => by have := HL4.out; have : w4.heap.size ≤ k := hk; omega) _ _ _) (fun k hk => by have := HB4.out.size; have : w4.heap.size ≤ k := hk; omega), below_set3 HB9.out HG4.out _ _ _⟩
  obtain ⟨hn0, hn1, hok⟩ := HRDY.out hk
  obtain ⟨ad, A3, c3, A4, c4, he, hx0, hx1, hx2, hx3, hx4, hl3, hC3, hl4, hC4⟩ := at_T84 (Kd.C_below HS.out.r1 HB4.out) x.f1 hn0 hn1
  subst he
  have hmem : rd_T84 l1 x.f1 ∈ l1 := by
    unfold rd_T84
    rw [List.getD_eq_getElem?_getD, List.getElem?_eq_getElem (by omega)]
    exact List.getElem_mem _
  have hbt := HBODY.out _ hmem
  have hnx : nextT l1 x = subT x.f2 (rd_T84 l1 x.f1).f2 := by
    unfold nextT
    rw [if_pos hk]
  have hf := HZ.out
  unfold stepF at hf
  rw [if_pos H0.out, hnx, decide_eq_true hk] at hf
  have hlx : x.f2.length ≤ 100000 := by have := tcntL_ge x.f2; have := HTL.out; omega
  have HSUB := Aside0.mk (fun (w' : World) (hb : Below w4.heap.size w4 w') (R : S28) (er : Int) (hR : subR x.f2 (rd_T84 l1 x.f1).f2 = (R, er)) => subst_calls (rd_T84 l1 x.f1).f2 A4 c4 x.f2 A c w' hok (by omega) (fun n h0 h1 => by have := tcnt_rd h0 h1; have := HTL.out; omega) hlx (Kd.C_below hC4 hb) hl4 (HT.out.below (below_step HB4.out hb)).c HT.out.le R er hR)
  obtain ⟨⟨R, er⟩, hR⟩ : ∃ F, subR x.f2 (rd_T84 l1 x.f1).f2 = F := ⟨_, rfl⟩
  have hyz : y = R ∧ z = er ∧ m = (er == 0) := by
    unfold subR at hR
    by_cases hbg : 100000 < tcnt (subT x.f2 (rd_T84 l1 x.f1).f2)
    · rw [if_pos hbg] at hR hf
      injection hR with r1 r2
      injection hf with f1 f2
      injection f2 with f2 f3
      subst r1 r2 f1 f2 f3
      exact ⟨rfl, rfl, rfl⟩
    · rw [if_neg hbg] at hR hf
      injection hR with r1 r2
      injection hf with f1 f2
      injection f2 with f2 f3
      subst r1 r2 f1 f2 f3
      exact ⟨rfl, rfl, rfl⟩
  obtain ⟨rfl, rfl, rfl⟩ := hyz
  have HRR := Aside0.mk (fun (w' : World) (hb : Below w4.heap.size w4 w') => HSUB.out w' hb _ _ hR)
  have q1 : (x.f0 != 1) = false := bne_eq_false_iff_eq.2 hk
  have q2 : (x.f0 == 1) = true := beq_iff_eq.2 hk
  have q3 : (0 ≤ x.f1) = True := eq_true hn0
  have q4 : (x.f1 < (l1.length : Int)) = True := eq_true hn1
  have q5 : (x.f1.toNat < l1.length) = True := eq_true (by omega)
  clear hf hnx hbt hmem hok hC3 hl3 hC4 hl4 hR HSUB hlx hn0 hn1 hk
  generalize (rd_T84 l1 x.f1).f2 = b at *
  go_upto_region 3 with fail
  try simp only [Act.put, List.setIfInBounds_toArray, List.set_cons_succ, List.set_cons_zero]
  have z0' : w4.cell? ⟨g4, 0, none⟩ = some (.int .i64 0) := (blk_cell S4.out 0).trans rfl
  have z1' : w4.cell? ⟨g4, 1, none⟩ = some (.int .i64 0) := (blk_cell S4.out 1).trans rfl
  have z2' : w4.cell? ⟨g4, 2, none⟩ = some (.slice none 0 0) := (blk_cell S4.out 2).trans rfl
  go_cut [6] from 13 to 24 (fun v6 wc => v6 = .int .i64 z ∧ Aside0 (∃ Av cv, wc.heap[g4]? = some (.cells #[.int .i64 y.f0, .int .i64 y.f1, .slice Av y.f2.length cv] 28 (0, 0)) ∧ Tm wc (fun k => w4.heap.size ≤ k) y Av cv) ∧ Aside0 (Below w.heap.size w wc))
  case first =>
    go_region_law
      (go_simp
       go_at_call 67
       (with_reducible refine (HRR.out w4.drew (below_drew (Below.refl _ _))).mono ?_)
       rintro e9 wA ⟨Av, cv, rfl, hT, hbA⟩
       have HTA := Aside0.mk (show Tm wA (fun k => w4.heap.size ≤ k) y Av cv from hT)
       have S4A := Aside0.mk (blk_below (blk_drew S4.out) hbA)
       have HBA := Aside0.mk (below_step (below_drew HB4.out) hbA)
       have k90 := (blk_cell S4A.out 0).trans rfl
       have k91 := (blk_cell S4A.out 1).trans rfl
       have k92 := (blk_cell S4A.out 2).trans rfl
       have f90 := blk_frozen S4A.out 0
       have f91 := blk_frozen S4A.out 1
       have f92 := blk_frozen S4A.out 2
       clear hT hbA)
    all_goals (
      go_wp2_with fail
      go_meet
      exact ⟨by first | rfl | (go_simp; done) | (go_simp; rfl) | (simp [Act.put, Act.eval]; done), ⟨Av, cv, blk_set3 S4A.out _ _ _, Tm.far3 HTA.out (fun k hk => by have := HL4.out; have : w4.heap.size ≤ k := hk; omega) _ _ _⟩, ⟨below_set3 HBA.out HG4.out _ _ _⟩⟩)
  case rest =>
    obtain ⟨rfl, HM, HBc⟩ := hcut
    obtain ⟨Av, cv, s4, hT⟩ := HM.out
    have S4c := Aside0.mk s4
    have HTc := Aside0.mk hT
    clear s4 hT HM e0 e1 m0 m1 m2 z0' z1' z2' hx0 hx1 hx2 hx3 hx4 q1 q2 q3 q4 q5
    have z0 : wc.cell? ⟨g4, 0, none⟩ = some (.int .i64 y.f0) := (blk_cell S4c.out 0).trans rfl
    have z1 : wc.cell? ⟨g4, 1, none⟩ = some (.int .i64 y.f1) := (blk_cell S4c.out 1).trans rfl
    have z2 : wc.cell? ⟨g4, 2, none⟩ = some (.slice Av y.f2.length cv) := (blk_cell S4c.out 2).trans rfl
    have f0 := blk_frozen S4c.out 0
    have f1 := blk_frozen S4c.out 1
    have f2 := blk_frozen S4c.out 2
    go_wp2_with fail
    refine bodyPost_ret (results_ctt rfl _ _ g4 28 #[.int .i64 y.f0, .int .i64 y.f1, .slice Av y.f2.length cv] (0, 0) _ rfl (blk_set3 S4c.out _ _ _) Try.underlying28 rfl (by kernel_rfl)) rfl ?_
    exact ⟨Av, cv, by first | rfl | (simp; done), Tm.mono (Tm.far3 HTc.out (fun k hk => by have := HL4.out; have : w4.heap.size ≤ k := hk; omega) _ _ _) (fun k hk => by have := HB4.out.size; have : w4.heap.size ≤ k := hk; omega), below_set3 HBc.out HG4.out _ _ _⟩
end Go.Proofs.Ytnfgpepggehegaa.I
namespace Go.Proofs.Ytnfgpepggehegaa.I
open Go.RowKit Go.Proofs.YtnfgpepggehegaaW.PrintWords Go.Proofs.YtnfgpepggehegaaW.PrintLast Go.Proofs.YtnfgpepggehegaaW.PrintMore
attribute [local go_sem] max2_int min2_int max_two min_two max_three min_three max_four min_four
set_option linter.unusedVariables false
set_option maxRecDepth 100000
set_option linter.unusedSimpArgs false
set_option maxHeartbeats 16000000 in
theorem refstep_at {w : World} {A0 : Option Addr} {c0 : Nat} {l0 : List S87} {A1 : Option Addr} {c1 : Nat} {l1 : List S84} {ok : Nat → Prop} {x : S28} {A : Option Addr} {c : Nat} (hs : Sch w A0 c0 l0 A1 c1 l1) (ht : Tm w ok x A c) (y : S28) (m : Bool) (z : Int) (hz : stepF l0 l1 x = (y, m, z)) :
    Calls Try.prog 15 #[.agg #[.slice A0 l0.length c0, .slice A1 l1.length c1], .agg #[.int .i64 x.f0, .int .i64 x.f1, .slice A x.f2.length c]] w fun e w' => ∃ Av cv, e = .returned (.tuple #[.agg #[.int .i64 y.f0, .int .i64 y.f1, .slice Av y.f2.length cv], .bool m, .int .i64 z]) ∧ Tm w' (fun k => w.heap.size ≤ k) y Av cv ∧ Below w.heap.size w w' := by
  have hu25 := Try.underlying25
  have hu28 := Try.underlying28
  have HS := Aside0.mk hs
  have HT := Aside0.mk ht
  have HZ := Aside0.mk hz
  clear hs ht hz
  go_enter Try.func15, Try.ntmps15
  go_wp2_with (first
    | ((with_reducible refine gate_dst (N := 2) rfl ?_)
       refine box_event ?hg (N := 2) ?hd (cs := #[.slice A0 l0.length c0, .slice A1 l1.length c1]) (t := 25) ?hr ?_
       (case hd => rfl)
       (case hg => rfl)
       (case hr => first | (go_simp; done) | (go_simp; rfl))
       intro g2 hg_g2 w2 hbox hbb
       have S22 := Aside0.mk hbox
       have HB2 := Aside0.mk hbb
       clear hbox hbb hg_g2)
    | ((with_reducible refine gate_dst (N := 3) rfl ?_)
       refine box_event ?hg (N := 3) ?hd (cs := #[.int .i64 x.f0, .int .i64 x.f1, .slice A x.f2.length c]) (t := 28) ?hr ?_
       (case hd => rfl)
       (case hg => rfl)
       (case hr => first | (go_simp; done) | (go_simp; rfl))
       intro g3 hg_g3 w3 hbox hbb
       have S23 := Aside0.mk (blk_below S22.out hbb)
       have S33 := Aside0.mk hbox
       have HB3 := Aside0.mk (below_step HB2.out hbb)
       clear S22 HB2
       clear hbox hbb hg_g3)
    | ((with_reducible refine gate_dst (N := 4) rfl ?_)
       refine box_event ?hg (N := 4) ?hd (cs := #[.int .i64 0, .int .i64 0, .slice none 0 0]) (t := 28) ?hr ?_
       (case hd => rfl)
       (case hg => rfl)
       (case hr => first | (go_simp; done) | (go_simp; rfl))
       intro g4 hg_g4 w4 hbox hbb
       have S2 := Aside0.mk (blk_below S23.out hbb)
       have S3 := Aside0.mk (blk_below S33.out hbb)
       have S4 := Aside0.mk hbox
       have HB4 := Aside0.mk (below_step HB3.out hbb)
       have HG4 := Aside0.mk (show w.heap.size ≤ g4 from by have := HB3.out.size; omega)
       have HL4 := Aside0.mk (show g4 < w4.heap.size from blk_lt hbox)
       have e0 := (blk_cell S2.out 0).trans rfl
       have e1 := (blk_cell S2.out 1).trans rfl
       have m0 := (blk_cell S3.out 0).trans rfl
       have m1 := (blk_cell S3.out 1).trans rfl
       have m2 := (blk_cell S3.out 2).trans rfl
       clear S23 S33 HB3
       clear hbox hbb hg_g4))
  obtain ⟨er, her⟩ : ∃ er, stB l0 l1 x = er := ⟨_, rfl⟩
  have HER := Aside0.mk her
  clear her
  (with_reducible refine (refcheck_at (HS.out.below HB4.out) (HT.out.below HB4.out) er HER.out).mono ?_)
  rintro e w5 ⟨rfl, hb5⟩
  have S25 := Aside0.mk (blk_below S2.out hb5)
  have S35 := Aside0.mk (blk_below S3.out hb5)
  have S45 := Aside0.mk (blk_below S4.out hb5)
  have HB5 := Aside0.mk (below_step HB4.out hb5)
  have HL5 := Aside0.mk (blk_lt S45.out)
  clear hb5 e0 e1 m0 m1 m2 S2 S3 S4 HL4
  by_cases hr : er = 0
  rotate_left
  · have hf := HZ.out
    rw [stepF_err (by rw [HER.out]; exact hr), HER.out] at hf
    injection hf with h1 h2
    injection h2 with h2 h3
    subst h1 h2 h3
    have q1 : (er != 0) = true := bne_iff_ne.2 hr
    have q2 : (er == 0) = false := beq_eq_false_iff_ne.2 hr
    clear hr HZ
    have z0 : w5.cell? ⟨g4, 0, none⟩ = some (.int .i64 0) := (blk_cell S45.out 0).trans rfl
    have z1 : w5.cell? ⟨g4, 1, none⟩ = some (.int .i64 0) := (blk_cell S45.out 1).trans rfl
    have z2 : w5.cell? ⟨g4, 2, none⟩ = some (.slice none 0 0) := (blk_cell S45.out 2).trans rfl
    have f0 := blk_frozen S45.out 0
    have f1 := blk_frozen S45.out 1
    have f2 := blk_frozen S45.out 2
    go_wp2_with fail
    refine bodyPost_ret (results_ctt rfl _ _ g4 28 #[.int .i64 0, .int .i64 0, .slice none 0 0] (0, 0) _ rfl (blk_set3 S45.out _ _ _) Try.underlying28 rfl (by kernel_rfl)) rfl ?_
    exact ⟨none, 0, rfl, Kd.V_nil _ _ _ _ _, below_set3 HB5.out HG4.out _ _ _⟩
  subst hr
  have e0 : w5.cell? ⟨g2, 0, none⟩ = some (.slice A0 l0.length c0) := (blk_cell S25.out 0).trans rfl
  have e1 : w5.cell? ⟨g2, 1, none⟩ = some (.slice A1 l1.length c1) := (blk_cell S25.out 1).trans rfl
  have m0 : w5.cell? ⟨g3, 0, none⟩ = some (.int .i64 x.f0) := (blk_cell S35.out 0).trans rfl
  have m1 : w5.cell? ⟨g3, 1, none⟩ = some (.int .i64 x.f1) := (blk_cell S35.out 1).trans rfl
  have m2 : w5.cell? ⟨g3, 2, none⟩ = some (.slice A x.f2.length c) := (blk_cell S35.out 2).trans rfl
  go_wp2_with fail
  (with_reducible refine (next_at (HS.out.below HB5.out) (HT.out.below HB5.out) HER.out y m z HZ.out).mono ?_)
  rintro e w9 ⟨Av, cv, rfl, hT, hb9⟩
  have HTV := Aside0.mk hT
  have S49 := Aside0.mk (blk_below S45.out hb9)
  have HB9 := Aside0.mk (below_step HB5.out hb9)
  clear hT hb9 e0 e1 m0 m1 m2
  have z0 : w9.cell? ⟨g4, 0, none⟩ = some (.int .i64 0) := (blk_cell S49.out 0).trans rfl
  have z1 : w9.cell? ⟨g4, 1, none⟩ = some (.int .i64 0) := (blk_cell S49.out 1).trans rfl
  have z2 : w9.cell? ⟨g4, 2, none⟩ = some (.slice none 0 0) := (blk_cell S49.out 2).trans rfl
  have f0 := blk_frozen S49.out 0
  have f1 := blk_frozen S49.out 1
  have f2 := blk_frozen S49.out 2
  go_wp2_with fail
  refine bodyPost_ret (results_ctt rfl _ _ g4 28 #[.int .i64 y.f0, .int .i64 y.f1, .slice Av y.f2.length cv] (0, 0) _ rfl (blk_set3 S49.out _ _ _) Try.underlying28 rfl (by kernel_rfl)) rfl ?_
  exact ⟨Av, cv, rfl, Tm.mono (Tm.far3 HTV.out (fun k hk => by have := HL5.out; have : w5.heap.size ≤ k := hk; omega) _ _ _) (fun k hk => by have := HB5.out.size; have : w5.heap.size ≤ k := hk; omega), below_set3 HB9.out HG4.out _ _ _⟩
theorem stepF_small {l0 : List S87} {l1 : List S84} {x y : S28} {m : Bool} {z : Int} (h : stepF l0 l1 x = (y, m, z)) : tcnt y ≤ 100000 := by
  unfold stepF at h
  have h0 : tcnt (⟨0, 0, []⟩ : S28) ≤ 100000 := by decide
  split at h
  · split at h
    · injection h with h _; rw [← h]; exact h0
    · injection h with h _; rw [← h]; omega
  · injection h with h _; rw [← h]; exact h0
set_option maxHeartbeats 16000000 in
theorem lawonce_calls (A0 : Option Addr) (c0 : Nat) (l0 : List S87) (A1 : Option Addr) (c1 : Nat) (l1 : List S84) (t : S28) (A3 : Option Addr) (c3 : Nat) (w : World) (hr0 : Kd.C k87 w A0 l0.length l0) (hc0 : l0.length ≤ c0) (hr1 : Kd.C k84 w A1 l1.length l1) (hc1 : l1.length ≤ c1) (hr3 : Kd.C k28 w A3 t.f2.length t.f2) (hc3 : t.f2.length ≤ c3) :
    Calls Try.prog 4 #[.agg #[.slice A0 l0.length c0, .slice A1 l1.length c1], .agg #[.int .i64 t.f0, .int .i64 t.f1, .slice A3 t.f2.length c3]] w fun e w' => e = .returned (.bool true) ∧ Below w.heap.size w w' := by
  have hu25 := Try.underlying25
  have hu28 := Try.underlying28
  have HS := Aside0.mk (show Sch w A0 c0 l0 A1 c1 l1 from ⟨hr0, hc0, hr1, hc1⟩)
  have HT := Aside0.mk (Tm.of hr3 hc3)
  clear hr0 hc0 hr1 hc1 hr3 hc3
  obtain ⟨⟨y, m, z⟩, hF⟩ : ∃ F, stepF l0 l1 t = F := ⟨_, rfl⟩
  have HF := Aside0.mk hF
  have HY := Aside0.mk (stepF_small hF)
  clear hF
  go_enter Try.func4, Try.ntmps4
  go_upto_region 3 with (first
    | ((with_reducible refine gate_dst (N := 2) rfl ?_)
       refine box_event ?hg (N := 2) ?hd (cs := #[.slice A0 l0.length c0, .slice A1 l1.length c1]) (t := 25) ?hr ?_
       (case hd => rfl)
       (case hg => rfl)
       (case hr => first | (go_simp; done) | (go_simp; rfl))
       intro g2 hg_g2 w2 hbox hbb
       have S22 := Aside0.mk hbox
       have HB2 := Aside0.mk hbb
       clear hbox hbb hg_g2)
    | ((with_reducible refine gate_dst (N := 3) rfl ?_)
       refine box_event ?hg (N := 3) ?hd (cs := #[.int .i64 t.f0, .int .i64 t.f1, .slice A3 t.f2.length c3]) (t := 28) ?hr ?_
       (case hd => rfl)
       (case hg => rfl)
       (case hr => first | (go_simp; done) | (go_simp; rfl))
       intro g3 hg_g3 w3 hbox hbb
       have S2 := Aside0.mk (blk_below S22.out hbb)
       have HB3 := Aside0.mk (below_step HB2.out hbb)
       have S3 := Aside0.mk hbox
       have e0 := (blk_cell S2.out 0).trans rfl
       have e1 := (blk_cell S2.out 1).trans rfl
       have m0 := (blk_cell S3.out 0).trans rfl
       have m1 := (blk_cell S3.out 1).trans rfl
       have m2 := (blk_cell S3.out 2).trans rfl
       clear S22 HB2
       clear hbox hbb hg_g3)
    | (go_at_call 14
       (with_reducible refine (step_at (HS.out.below HB3.out) (HT.out.below HB3.out) y m z HF.out).mono ?_)
       rintro e9 w4 ⟨Ax, cx, rfl, hv, hb4⟩
       have HB4 := Aside0.mk (below_step HB3.out hb4)
       have S24 := Aside0.mk (blk_below S2.out hb4)
       have S34 := Aside0.mk (blk_below S3.out hb4)
       have HX := Aside0.mk hv
       clear hv hb4 e0 e1 m0 m1 m2 S2 S3
       skip)
    | ((with_reducible refine gate_dst (N := 5) rfl ?_)
       refine box_event ?hg (N := 5) ?hd (cs := #[.int .i64 0, .int .i64 0, .slice none 0 0]) (t := 28) ?hr ?_
       (case hd => rfl)
       (case hg => rfl)
       (case hr => first | (go_simp; done) | (go_simp; rfl))
       intro g5 hg_g5 w5 hbox hbb
       have hgw_ := HB4.out.size
       have Hg5g := Aside0.mk (Nat.le_of_eq hg_g5.symm)
       have Hg5b := Aside0.mk (below_set3 (below_step HB4.out hbb) (show w.heap.size ≤ g5 from by omega) (.int .i64 y.f0) (.int .i64 y.f1) (.slice Ax y.f2.length cx))
       have Hg5w := Aside0.mk (below_set3 hbb (Nat.le_of_eq hg_g5.symm) (.int .i64 y.f0) (.int .i64 y.f1) (.slice Ax y.f2.length cx))
       have Hg5s := Aside0.mk (blk_set3 hbox (.int .i64 y.f0) (.int .i64 y.f1) (.slice Ax y.f2.length cx))
       have hcz0 := (blk_cell hbox 0).trans rfl
       have hcz1 := (blk_cell hbox 1).trans rfl
       have hcz2 := (blk_cell hbox 2).trans rfl
       have hfz0 := blk_frozen hbox 0
       have hfz1 := blk_frozen hbox 1
       have hfz2 := blk_frozen hbox 2
       clear hgw_
       have S25 := Aside0.mk (blk_below S24.out Hg5w.out)
       have S35 := Aside0.mk (blk_below S34.out Hg5w.out)
       have HX5 := Aside0.mk (HX.out.below Hg5w.out)
       have e0 := (blk_cell S25.out 0).trans rfl
       have e1 := (blk_cell S25.out 1).trans rfl
       have m0 := (blk_cell S35.out 0).trans rfl
       have m1 := (blk_cell S35.out 1).trans rfl
       have m2 := (blk_cell S35.out 2).trans rfl
       clear S24 S34 HX
       clear hbox hbb hg_g5)
    | (go_at_call 15
       (with_reducible refine (refstep_at (HS.out.below Hg5b.out) (HT.out.below Hg5b.out) y m z HF.out).mono ?_)
       rintro e9 w6 ⟨Ay, cy, rfl, hv, hb6⟩
       have HB6 := Aside0.mk (below_step Hg5b.out hb6)
       have S56 := Aside0.mk (blk_below Hg5s.out hb6)
       have HX6 := Aside0.mk (HX5.out.below hb6)
       have HY6 := Aside0.mk hv
       clear hv hb6 e0 e1 m0 m1 m2 HX5 hcz0 hcz1 hcz2 hfz0 hfz1 hfz2
       skip)
    | ((with_reducible refine gate_dst (N := 8) rfl ?_)
       refine box_event ?hg (N := 8) ?hd (cs := #[.int .i64 0, .int .i64 0, .slice none 0 0]) (t := 28) ?hr ?_
       (case hd => rfl)
       (case hg => rfl)
       (case hr => first | (go_simp; done) | (go_simp; rfl))
       intro g8 hg_g8 w7 hbox hbb
       have hgw_ := HB6.out.size
       have Hg8g := Aside0.mk (Nat.le_of_eq hg_g8.symm)
       have Hg8b := Aside0.mk (below_set3 (below_step HB6.out hbb) (show w.heap.size ≤ g8 from by omega) (.int .i64 y.f0) (.int .i64 y.f1) (.slice Ay y.f2.length cy))
       have Hg8w := Aside0.mk (below_set3 hbb (Nat.le_of_eq hg_g8.symm) (.int .i64 y.f0) (.int .i64 y.f1) (.slice Ay y.f2.length cy))
       have Hg8s := Aside0.mk (blk_set3 hbox (.int .i64 y.f0) (.int .i64 y.f1) (.slice Ay y.f2.length cy))
       have hcz0 := (blk_cell hbox 0).trans rfl
       have hcz1 := (blk_cell hbox 1).trans rfl
       have hcz2 := (blk_cell hbox 2).trans rfl
       have hfz0 := blk_frozen hbox 0
       have hfz1 := blk_frozen hbox 1
       have hfz2 := blk_frozen hbox 2
       clear hgw_
       clear hbox hbb hg_g8))
  clear hcz0 hcz1 hcz2 hfz0 hfz1 hfz2
  generalize (((w7.setCell ⟨g8, 0, none⟩ (.int .i64 y.f0)).setCell ⟨g8, 1, none⟩ (.int .i64 y.f1)).setCell ⟨g8, 2, none⟩ (.slice Ay y.f2.length cy)) = wq at *
  have S5q := Aside0.mk (blk_below S56.out Hg8w.out)
  have HXq := Aside0.mk (HX6.out.below Hg8w.out)
  have HYq := Aside0.mk (HY6.out.below Hg8w.out)
  have x0 : wq.cell? ⟨g5, 0, none⟩ = some (.int .i64 y.f0) := (blk_cell S5q.out 0).trans rfl
  have x1 : wq.cell? ⟨g5, 1, none⟩ = some (.int .i64 y.f1) := (blk_cell S5q.out 1).trans rfl
  have x2 : wq.cell? ⟨g5, 2, none⟩ = some (.slice Ax y.f2.length cx) := (blk_cell S5q.out 2).trans rfl
  have y0 : wq.cell? ⟨g8, 0, none⟩ = some (.int .i64 y.f0) := (blk_cell Hg8s.out 0).trans rfl
  have y1 : wq.cell? ⟨g8, 1, none⟩ = some (.int .i64 y.f1) := (blk_cell Hg8s.out 1).trans rfl
  have y2 : wq.cell? ⟨g8, 2, none⟩ = some (.slice Ay y.f2.length cy) := (blk_cell Hg8s.out 2).trans rfl
  go_wp2_with (first
    | (go_at_call 16
       (with_reducible refine (same_at HXq.out HYq.out HY.out).mono ?_)
       rintro e9 w8 ⟨rfl, hb8⟩
       have HB8 := Aside0.mk (below_step Hg8b.out hb8)
       clear hb8
       skip)
    | (at_builtin; fail))
  (with_reducible refine (alive_calls _).mono ?_)
  rintro e9 wZ ⟨rfl, hbZ⟩
  have HZ := Aside0.mk (below_step HB8.out hbZ)
  clear hbZ
  go_wp2_with fail
  go_ret
  exact ⟨rfl, HZ.out⟩
end Go.Proofs.Ytnfgpepggehegaa.I
namespace Go.Proofs.Ytnfgpepggehegaa.I
open Go.RowKit Go.Proofs.YtnfgpepggehegaaW.PrintWords Go.Proofs.Ytnfgpepggehegaa.VOpen
set_option linter.unusedVariables false
def virgationlaw05_StepOnce.f (k : Nat) (l0 : List S87) (l1 : List S84) (a b : Int) (l : List S28) : Option Bool := some true
theorem virgationlaw05_StepOnce.calls (k : Nat) (A0 : Option Addr) (c0 : Nat) (l0 : List S87) (A1 : Option Addr) (c1 : Nat) (l1 : List S84) (a b : Int) (A3 : Option Addr) (c3 : Nat) (l : List S28) (r : Bool) (w : World) (hr0 : Kd.C k87 w A0 l0.length l0) (hc0 : l0.length ≤ c0) (hr1 : Kd.C k84 w A1 l1.length l1) (hc1 : l1.length ≤ c1) (hr3 : Kd.C k28 w A3 l.length l) (hc3 : l.length ≤ c3) (h : virgationlaw05_StepOnce.f k l0 l1 a b l = some r) :
    Calls Try.prog 4 #[.agg #[.slice A0 l0.length c0, .slice A1 l1.length c1], .agg #[.int .i64 a, .int .i64 b, .slice A3 l.length c3]] w fun e w' => e = .returned (.bool r) ∧ Below w.heap.size w w' := by
  injection h with h
  subst h
  exact lawonce_calls A0 c0 l0 A1 c1 l1 ⟨a, b, l⟩ A3 c3 w hr0 hc0 hr1 hc1 hr3 hc3
theorem pure_StepOnce : ∀ (x0 : S25) (x1 : S28), (wf25 x0) → (wf28 x1) → ∃ k, virgationlaw05_StepOnce.f k x0.f0 x0.f1 x1.f0 x1.f1 x1.f2 = some true := by
  intros
  exact ⟨0, rfl⟩
end Go.Proofs.Ytnfgpepggehegaa.I
