/- Texts of this session's proof, laid together: ID3, ID4, ID6, ID7, ID7F. -/
import Derived.Test.YtnfgpepggehegaaG7
namespace Go.Proofs.Ytnfgpepggehegaa.I
open Go.RowKit Go.Proofs.YtnfgpepggehegaaW.PrintWords Go.Proofs.YtnfgpepggehegaaW.PrintLast Go.Proofs.YtnfgpepggehegaaW.PrintMore
attribute [local go_sem] max2_int min2_int max_two min_two max_three min_three max_four min_four
set_option linter.unusedVariables false
set_option maxRecDepth 100000
set_option linter.unusedSimpArgs false
def subR (ps : List S28) (t : S28) : S28 × Int := if 100000 < tcnt (subT ps t) then (⟨0, 0, []⟩, 3) else (subT ps t, 0)
theorem Ns.nil (w : World) : Ns w [] none 0 := by
  unfold Ns
  exact Kd.V_nil _ _ _ _ _
theorem nodes_at {w : World} {x : S28} {A : Option Addr} {c : Nat} (h : Kd.C k28 w A x.f2.length x.f2) (hc : x.f2.length ≤ c) (hx : tcnt x ≤ 100000) :
    Calls Try.prog 57 #[.agg #[.int .i64 x.f0, .int .i64 x.f1, .slice A x.f2.length c], .int .i64 100000] w fun e w' => e = .returned (.int .i64 (tcnt x)) ∧ Below w.heap.size w w' := by
  have he := tnodes_ev _ x.f0 x.f1 x.f2 100000 (Nat.lt_succ_self _) (by omega) (by omega)
  rw [show min (1 + tcntL x.f2) (100000 + 1) = tcnt x from by have := tcnt_f2 x; omega] at he
  obtain ⟨k, hk⟩ := he.rounds
  exact virgationref02_Nodes.calls k x.f0 x.f1 A c x.f2 100000 _ w h hc hk
theorem sizes_take {l : List S28} {i : Nat} (h : i < l.length) : (l.take i).map tcnt ++ [tcnt (rd_T28 l (i : Int))] = (l.take (i + 1)).map tcnt := by
  rw [take28 h, List.map_append, rd_T28_at h]; rfl
theorem rd_sizes {l : List S28} (n : Int) (h0 : 0 ≤ n) (h1 : n < (l.length : Int)) : rd (l.map tcnt) n = tcnt (rd_T28 l n) := by
  have hn : n.toNat < l.length := by omega
  unfold rd rd_T28
  rw [List.getD_eq_getElem?_getD, List.getD_eq_getElem?_getD, List.getElem?_map, List.getElem?_eq_getElem hn]
  rfl
theorem vars_nil (m a b : Int) (l : List S28) (A : Option Addr) (c : Nat) (w : World) (hok : okT m ⟨a, b, l⟩ = true) (hl : tcntL l ≤ 100000) (hr : Kd.C k28 w A l.length l) (hc : l.length ≤ c) :
    Calls Try.prog 82 #[.agg #[.int .i64 a, .int .i64 b, .slice A l.length c], .slice none 0 0] w fun e w' => ∃ V' A' c', e = .returned (.slice A' V'.length c') ∧ Ns w' V' A' c' ∧ (∀ x ∈ V', 0 ≤ x ∧ x < m) ∧ V'.length ≤ 200000 ∧ Below w.heap.size w w' := by
  refine Calls.mono (vars_calls m _ a b l A c [] none 0 w (Nat.lt_succ_self _) hok (by simp; omega) (fun x hx => absurd hx (by simp)) hr hc (Ns.nil w)) ?_
  rintro e w' ⟨V, A', c', rfl, h1, h2, h3, h4⟩
  have e0 : (([] : List Int).length : Int) = 0 := rfl
  exact ⟨V, A', c', rfl, h1, h2, by omega, h4⟩
set_option maxHeartbeats 16000000 in
theorem subst_calls (t : S28) (A : Option Addr) (c : Nat) (ps : List S28) (Ap : Option Addr) (cp : Nat) (w : World) (hok : okT (ps.length : Int) t = true) (ht : tcnt t ≤ 100000) (hps : ∀ n : Int, 0 ≤ n → n < (ps.length : Int) → tcnt (rd_T28 ps n) ≤ 100000) (hl : ps.length ≤ 100000) (hr : Kd.C k28 w A t.f2.length t.f2) (hc : t.f2.length ≤ c) (hrp : Kd.C k28 w Ap ps.length ps) (hcp : ps.length ≤ cp) (R : S28) (er : Int) (hR : subR ps t = (R, er)) :
    Calls Try.prog 67 #[.agg #[.int .i64 t.f0, .int .i64 t.f1, .slice A t.f2.length c], .slice Ap ps.length cp] w fun e w' => ∃ Av cv, e = .returned (.tuple #[.agg #[.int .i64 R.f0, .int .i64 R.f1, .slice Av R.f2.length cv], .int .i64 er]) ∧ Tm w' (fun k => w.heap.size ≤ k) R Av cv ∧ Below w.heap.size w w' := by
  have hu28 := Try.underlying28
  have hu26 := Try.underlying26
  have htl := tcnt_f2 t
  have HOK := Aside0.mk hok
  have HOK2 := Aside0.mk (show okT (ps.length : Int) ⟨t.f0, t.f1, t.f2⟩ = true from by cases t; exact hok)
  have HTT := Aside0.mk (show (⟨t.f0, t.f1, t.f2⟩ : S28) = t from by cases t; rfl)
  have HT := Aside0.mk ht
  have HPS := Aside0.mk hps
  have HL := Aside0.mk hl
  have HR := Aside0.mk hr
  have HC := Aside0.mk hc
  have HRP := Aside0.mk hrp
  have HCP := Aside0.mk hcp
  have HRR := Aside0.mk hR
  have HTL := Aside0.mk (show tcntL t.f2 ≤ 100000 from by omega)
  have hlen : ps.length ≤ 9223372036854775807 := by omega
  clear hok ht hps hl hr hc hrp hcp hR htl
  go_enter Try.func67, Try.ntmps67
  go_wp2_with (first
    | ((with_reducible refine gate_dst (N := 2) rfl ?_)
       refine box_event ?hg (N := 2) ?hd (cs := #[.int .i64 t.f0, .int .i64 t.f1, .slice A t.f2.length c]) (t := 28) ?hr ?_
       (case hd => rfl)
       (case hg => rfl)
       (case hr => first | (go_simp; done) | (go_simp; rfl))
       intro g2 hg_g2 w2 hbox hbb
       have S22 := Aside0.mk hbox
       have HB2 := Aside0.mk hbb
       clear hbox hbb hg_g2)
    | ((with_reducible refine gate_dst (N := 4) rfl ?_)
       refine box_event ?hg (N := 4) ?hd (cs := #[.int .i64 0, .int .i64 0, .slice none 0 0]) (t := 28) ?hr ?_
       (case hd => rfl)
       (case hg => rfl)
       (case hr => first | (go_simp; done) | (go_simp; rfl))
       intro g4 hg_g4 w4 hbox hbb
       have S2 := Aside0.mk (blk_below S22.out hbb)
       have S4 := Aside0.mk hbox
       have HB4 := Aside0.mk (below_step HB2.out hbb)
       have HG4 := Aside0.mk (show w.heap.size ≤ g4 from by have := HB2.out.size; omega)
       have e0 := (blk_cell S2.out 0).trans rfl
       have e1 := (blk_cell S2.out 1).trans rfl
       have e2 := (blk_cell S2.out 2).trans rfl
       clear S22 HB2
       clear hbox hbb hg_g4))
  (with_reducible refine (large_calls t (Kd.C_below HR.out HB4.out) HC.out).mono ?_)
  rw [show decide (100000 < tcnt t) = false from decide_eq_false (by have := HT.out; omega)]
  rintro e w5 ⟨rfl, hb5⟩
  have HB5 := Aside0.mk (below_step HB4.out hb5)
  have S25 := Aside0.mk (blk_below S2.out hb5)
  have S45 := Aside0.mk (blk_below S4.out hb5)
  clear hb5 S2 S4 HB4 e0 e1 e2
  go_wp2_with fail
  go_loopg [6, 16] ps.length (fun kq v6 v16 wr => ∃ (i : Nat) (As : Option Addr) (cs : Nat), v6 = .slice As i cs ∧ v16 = .int .i64 (i : Int) ∧ Aside0 (i + kq = ps.length) ∧ Aside0 (Kd.R (Kd.int .i64) 3 wr w.heap.size (fun _ => True) (.slice As i cs) ((ps.take i).map tcnt)) ∧ Aside0 (wr.heap[g2]? = some (.cells #[.int .i64 t.f0, .int .i64 t.f1, .slice A t.f2.length c] 28 (0, 0))) ∧ Aside0 (wr.heap[g4]? = some (.cells #[.int .i64 0, .int .i64 0, .slice none 0 0] 28 (0, 0))) ∧ Aside0 (Below w.heap.size w wr))
  case atStart => exact ⟨0, none, 0, rfl, rfl, ⟨by omega⟩, ⟨Kd.R_nil _ _ _ _ _⟩, S25, S45, HB5⟩
  case round =>
    clear S25 S45 HB5
    obtain ⟨i, As, cs, rfl, rfl, Hi, HZ, S2, S4, HB⟩ := hrel
    by_cases hlt : i < ps.length
    rotate_left
    · have hie : i = ps.length := by have := Hi.out; omega
      subst hie
      have hz := HZ.out
      rw [List.take_length] at hz
      have hz2 : Kd.V (Kd.int .i64) 3 wr 0 (fun _ => True) (.slice As ps.length cs) (ps.map tcnt) := Kd.R_V hz
      have HZ2 := Aside0.mk hz2
      clear hz hz2 HZ hlt Hi
      have e0 : wr.cell? ⟨g2, 0, none⟩ = some (.int .i64 t.f0) := (blk_cell S2.out 0).trans rfl
      have e1 : wr.cell? ⟨g2, 1, none⟩ = some (.int .i64 t.f1) := (blk_cell S2.out 1).trans rfl
      have e2 : wr.cell? ⟨g2, 2, none⟩ = some (.slice A t.f2.length c) := (blk_cell S2.out 2).trans rfl
      go_wp2_with fail
      (with_reducible refine (vars_nil (ps.length : Int) t.f0 t.f1 t.f2 A c wr HOK2.out HTL.out (Kd.C_below HR.out HB.out) HC.out).mono ?_)
      rintro e w6 ⟨V, A6, c6, rfl, hns, hv, hvl, hb6⟩
      have HNS := Aside0.mk hns
      have HV := Aside0.mk hv
      have HVL := Aside0.mk hvl
      have S26 := Aside0.mk (blk_below S2.out hb6)
      have S46 := Aside0.mk (blk_below S4.out hb6)
      have HZ6 := Aside0.mk (Kd.V_below HZ2.out hb6)
      have HB6 := Aside0.mk (below_step HB.out hb6)
      have hvl' := HVL.out
      clear hns hv hvl hb6 e0 e1 e2 S2 S4 HZ2 HB
      go_wp2_with fail
      go_loopg [10, 37] V.length (fun kq v10 v37 wr => ∃ (i : Nat), v37 = .int .i64 (i : Int) ∧ Aside0 (i + kq = V.length) ∧ Aside0 (Below w6.heap.size w6 wr))
      case atStart => exact ⟨0, rfl, ⟨by omega⟩, ⟨Below.refl _ _⟩⟩
      case round =>
        obtain ⟨i, rfl, Hi, HBi⟩ := hrel
        have S2i := Aside0.mk (blk_below S26.out HBi.out)
        have S4i := Aside0.mk (blk_below S46.out HBi.out)
        have HBw := Aside0.mk (below_step HB6.out HBi.out)
        by_cases hlt : i < V.length
        · obtain ⟨ad, he, hx⟩ := Kd.at_int (Kd.V_reads' (HNS.out.below HBi.out)).2.2 (i : Int) (by omega) (by omega)
          cases he
          rw [Int.toNat_natCast] at hx
          have hmem : rd V (i : Int) ∈ V := by unfold rd; rw [Int.toNat_natCast, List.getD_eq_getElem?_getD, List.getElem?_eq_getElem hlt]; exact List.getElem_mem _
          have hrg := HV.out _ hmem
          generalize rd V (i : Int) = v at *
          have q1 : (0 ≤ (i : Int)) = True := eq_true (by omega)
          have q2 : ((i : Int) < (V.length : Int)) = True := eq_true (by omega)
          have q3 : (i < V.length) = True := eq_true hlt
          have q4 : (v < 0) = False := eq_false (by omega)
          have q5 : ((ps.length : Int) ≤ v) = False := eq_false (by omega)
          have q6 : (v ≥ (ps.length : Int)) = False := eq_false (by omega)
          clear hmem hrg
          go_wp2_with fail
          have hk := Hi.out
          obtain ⟨k1, rfl⟩ : ∃ k1, gk = k1 + 1 := ⟨gk - 1, by omega⟩
          go_roundg k1
          case measure => omega
          case rel => exact ⟨i + 1, by first | rfl | (refine congrArg _ ?_; unfold wrap64; omega), ⟨by omega⟩, HBi⟩
        have q2 : ((i : Int) < (V.length : Int)) = False := eq_false (by omega)
        have q3 : (i < V.length) = False := eq_false hlt
        have HZi := Aside0.mk (Kd.V_below HZ6.out HBi.out)
        have hge := (grown_ev ps (ps.map tcnt) (List.length_map _) (fun n h0 h1 => ⟨rd_sizes n h0 h1, HPS.out n h0 h1⟩) _ t.f0 t.f1 t.f2 (Nat.lt_succ_self _) HOK2.out (by have := HTL.out; omega)).rounds
        rw [HTT.out] at hge
        obtain ⟨kg, hkg⟩ := hge
        have hzl : (ps.map tcnt).length = ps.length := List.length_map _
        have hg0 := virgationref02_grown.calls kg t.f0 t.f1 A c t.f2 As cs (ps.map tcnt) _ wr (Kd.C_below HR.out HBw.out) HC.out (Kd.V_reads' HZi.out).2.2 (by have := (Kd.V_reads' HZi.out).2.1; omega) hkg
        rw [hzl] at hg0
        have HGR := Aside0.mk hg0
        clear hg0 hkg hzl
        have e0 : wr.cell? ⟨g2, 0, none⟩ = some (.int .i64 t.f0) := (blk_cell S2i.out 0).trans rfl
        have e1 : wr.cell? ⟨g2, 1, none⟩ = some (.int .i64 t.f1) := (blk_cell S2i.out 1).trans rfl
        have e2 : wr.cell? ⟨g2, 2, none⟩ = some (.slice A t.f2.length c) := (blk_cell S2i.out 2).trans rfl
        by_cases hbig : 100000 < tcnt (subT ps t)
        · have hr := HRR.out
          unfold subR at hr
          rw [if_pos hbig] at hr
          injection hr with h1 h2
          subst h1 h2
          have hmn : min (tcnt (subT ps t)) 100001 = 100001 := by omega
          rw [hmn] at HGR
          clear hbig hmn
          go_wp2_with fail
          (with_reducible refine (HGR.out).mono ?_)
          rintro e w8 ⟨rfl, hb8⟩
          have S48 := Aside0.mk (blk_below S4i.out hb8)
          have HB8 := Aside0.mk (below_step HBw.out hb8)
          clear hb8 e0 e1 e2
          have z0 : w8.cell? ⟨g4, 0, none⟩ = some (.int .i64 0) := (blk_cell S48.out 0).trans rfl
          have z1 : w8.cell? ⟨g4, 1, none⟩ = some (.int .i64 0) := (blk_cell S48.out 1).trans rfl
          have z2 : w8.cell? ⟨g4, 2, none⟩ = some (.slice none 0 0) := (blk_cell S48.out 2).trans rfl
          have f0 := blk_frozen S48.out 0
          have f1 := blk_frozen S48.out 1
          have f2 := blk_frozen S48.out 2
          go_wp2_with fail
          refine bodyPost_ret (results_ct rfl _ _ g4 28 #[.int .i64 0, .int .i64 0, .slice none 0 0] (0, 0) _ rfl (blk_set3 S48.out _ _ _) Try.underlying28 rfl (by kernel_rfl)) rfl ?_
          exact ⟨none, 0, rfl, Kd.V_nil _ _ _ _ _, below_set3 HB8.out HG4.out _ _ _⟩
        · have hr := HRR.out
          unfold subR at hr
          rw [if_neg hbig] at hr
          injection hr with h1 h2
          have hre := (replace_ev ps HPS.out _ t.f0 t.f1 t.f2 (Nat.lt_succ_self _) HOK2.out (by rw [HTT.out]; omega)).rounds
          rw [HTT.out] at hre
          obtain ⟨kr, hkr⟩ := hre
          rw [h1] at hkr hbig HGR
          subst h2
          have HRC := Aside0.mk (fun (w' : World) (hb : Below w.heap.size w w') => virgationref02_Replace.calls kr t.f0 t.f1 A c t.f2 Ap cp ps _ _ _ w' (Kd.C_below HR.out hb) HC.out (Kd.C_below HRP.out hb) HCP.out hkr)
          have HRS := Aside0.mk hbig
          obtain ⟨mm, hmm⟩ : ∃ mm, min (tcnt R) 100001 = mm := ⟨_, rfl⟩
          rw [hmm] at HGR
          have q7 : (100000 < mm) = False := eq_false (by omega)
          clear hkr hbig h1 hmm
          go_wp2_with fail
          (with_reducible refine (HGR.out).mono ?_)
          rintro e w8 ⟨rfl, hb8⟩
          have S28 := Aside0.mk (blk_below S2i.out hb8)
          have S48 := Aside0.mk (blk_below S4i.out hb8)
          have HB8 := Aside0.mk (below_step HBw.out hb8)
          clear hb8 e0 e1 e2
          have e0 : w8.cell? ⟨g2, 0, none⟩ = some (.int .i64 t.f0) := (blk_cell S28.out 0).trans rfl
          have e1 : w8.cell? ⟨g2, 1, none⟩ = some (.int .i64 t.f1) := (blk_cell S28.out 1).trans rfl
          have e2 : w8.cell? ⟨g2, 2, none⟩ = some (.slice A t.f2.length c) := (blk_cell S28.out 2).trans rfl
          go_wp2_with fail
          (with_reducible refine (HRC.out w8 HB8.out).mono ?_)
          rintro e w9 ⟨v, rfl, hRv, hb9⟩
          obtain ⟨Av, cv, rfl, hV⟩ := V_new hRv
          have HTV := Aside0.mk (show Tm w9 (fun k => w8.heap.size ≤ k) R Av cv from hV)
          have S49 := Aside0.mk (blk_below S48.out hb9)
          have HB9 := Aside0.mk (below_step HB8.out hb9)
          have HL4 := Aside0.mk (blk_lt S48.out)
          clear hRv hV hb9 e0 e1 e2
          have z0 : w9.cell? ⟨g4, 0, none⟩ = some (.int .i64 0) := (blk_cell S49.out 0).trans rfl
          have z1 : w9.cell? ⟨g4, 1, none⟩ = some (.int .i64 0) := (blk_cell S49.out 1).trans rfl
          have z2 : w9.cell? ⟨g4, 2, none⟩ = some (.slice none 0 0) := (blk_cell S49.out 2).trans rfl
          have f0 := blk_frozen S49.out 0
          have f1 := blk_frozen S49.out 1
          have f2 := blk_frozen S49.out 2
          go_wp2_with fail
          refine bodyPost_ret (results_ct rfl _ _ g4 28 #[.int .i64 R.f0, .int .i64 R.f1, .slice Av R.f2.length cv] (0, 0) _ rfl (blk_set3 S49.out _ _ _) Try.underlying28 rfl (by kernel_rfl)) rfl ?_
          exact ⟨Av, cv, rfl, Tm.mono (Tm.far3 HTV.out (fun k hk => by have := HL4.out; have : w8.heap.size ≤ k := hk; omega) _ _ _) (fun k hk => by have := HB8.out.size; have : w8.heap.size ≤ k := hk; omega), below_set3 HB9.out HG4.out _ _ _⟩
    have hk := Hi.out
    obtain ⟨k1, rfl⟩ : ∃ k1, gk = k1 + 1 := ⟨gk - 1, by omega⟩
    clear hk
    have hil := HL.out
    obtain ⟨ad, A4, c4, he, hx2, hx3, hx4, hl4, hC4⟩ := at_T28 (Kd.C_below HRP.out HB.out) (i : Int) (by omega) (by omega)
    cases he
    rw [Int.toNat_natCast] at hx2 hx3 hx4
    have HC4 := Aside0.mk hC4
    have Hl4 := Aside0.mk hl4
    have HSN := Aside0.mk (sizes_take hlt)
    have HXC := Aside0.mk (HPS.out (i : Int) (by omega) (by omega))
    have q1 : (0 ≤ (i : Int)) = True := eq_true (by omega)
    have q2 : ((i : Int) < (ps.length : Int)) = True := eq_true (by omega)
    have q3 : (i < ps.length) = True := eq_true (by omega)
    clear hl4 hC4
    generalize rd_T28 ps (i : Int) = x at *
    go_upto_region 7 with (
      ((with_reducible refine gate_dst (N := 8) rfl ?_)
       refine box_event ?hg (N := 8) ?hd (cs := #[.int .i64 0, .int .i64 0, .slice none 0 0]) (t := 28) ?hr ?_
       (case hd => rfl)
       (case hg => rfl)
       (case hr => first | (go_simp; done) | (go_simp; rfl))
       intro gi hg_gi w6 hbox hbb
       have hgw : wr.heap.size ≤ gi := by omega
       have Hbw := Aside0.mk (below_set3 hbb hgw (.int .i64 x.f0) (.int .i64 x.f1) (.slice A4 x.f2.length c4))
       have Sgi := Aside0.mk (blk_set3 hbox (.int .i64 x.f0) (.int .i64 x.f1) (.slice A4 x.f2.length c4))
       have hcz0 := (blk_cell hbox 0).trans rfl
       have hfz0 := blk_frozen hbox 0
       have hcz1 := (blk_cell hbox 1).trans rfl
       have hfz1 := blk_frozen hbox 1
       have hcz2 := (blk_cell hbox 2).trans rfl
       have hfz2 := blk_frozen hbox 2
       clear hgw
       clear hbox hbb hg_gi))
    clear hcz0 hcz1 hcz2 hfz0 hfz1 hfz2 hx2 hx3 hx4
    generalize (((w6.setCell ⟨gi, 0, none⟩ (.int .i64 x.f0)).setCell ⟨gi, 1, none⟩ (.int .i64 x.f1)).setCell ⟨gi, 2, none⟩ (.slice A4 x.f2.length c4)) = wq at *
    have n0 : wq.cell? ⟨gi, 0, none⟩ = some (.int .i64 x.f0) := (blk_cell Sgi.out 0).trans rfl
    have n1 : wq.cell? ⟨gi, 1, none⟩ = some (.int .i64 x.f1) := (blk_cell Sgi.out 1).trans rfl
    have n2 : wq.cell? ⟨gi, 2, none⟩ = some (.slice A4 x.f2.length c4) := (blk_cell Sgi.out 2).trans rfl
    have HBq := Aside0.mk (below_step HB.out Hbw.out)
    go_wp2_with fail
    (with_reducible refine (nodes_at (Kd.C_below HC4.out Hbw.out) Hl4.out HXC.out).mono ?_)
    rintro e w8 ⟨rfl, hb8⟩
    have HB8 := Aside0.mk (below_step HBq.out hb8)
    have HZ8 := Aside0.mk (Kd.R_below (Kd.R_below HZ.out Hbw.out) hb8)
    have S28 := Aside0.mk (blk_below (blk_below S2.out Hbw.out) hb8)
    have S48 := Aside0.mk (blk_below (blk_below S4.out Hbw.out) hb8)
    clear hb8 n0 n1 n2 HZ S2 S4 HB HBq
    go_wp2_with (at_builtin; refine holdX ?_)
    unfold HoldX
    have hz8 := HZ8.out
    refine Kd.R_append (Kd.int .i64) (w0 := w) w.heap.size rfl (.tmp 20) (.tmp 23) 40 3 (.int .i64 0) 8 rfl Try.underlying40 info3 rfl (by decide) (by omega) (.slice As i cs) ((ps.take i).map tcnt) (tcnt x) [.int .i64 (tcnt x)] (fun _ => True) (fun _ => False) rfl rfl rfl (fun _ hk => hk.elim) (fun _ _ => trivial) hz8 HB8.out HB8.out.size (by rw [List.length_map, List.length_take]; have := HL.out; omega) ?_
    intro v2 w9 hrf hb9 hg9 hat9
    rw [HSN.out] at hrf
    obtain ⟨A5, c5, e5⟩ := Kd.R_slice hrf
    rw [List.length_map, List.length_take, Nat.min_eq_left (by omega)] at e5
    subst e5
    have tf := Kd.R_typed hz8
    have S29 := Aside0.mk (grownT S28.out hg9 (fun k hk => by obtain ⟨c, hc⟩ := tf k hk; exact ⟨3, c, by decide, hc⟩))
    have S49 := Aside0.mk (grownT S48.out hg9 (fun k hk => by obtain ⟨c, hc⟩ := tf k hk; exact ⟨3, c, by decide, hc⟩))
    have HZ9 := Aside0.mk hrf
    have HB9 := Aside0.mk hb9
    have hzc := (Kd.R_reads' hrf).2.2
    obtain ⟨a9, he9, hx9⟩ := Kd.at_int hzc (i : Int) (by omega) (by rw [List.length_map, List.length_take]; omega)
    cases he9
    rw [Int.toNat_natCast] at hx9
    have hrd : rd ((ps.take (i + 1)).map tcnt) (i : Int) = tcnt x := by
      rw [← HSN.out]
      unfold rd
      rw [Int.toNat_natCast, List.getD_eq_getElem?_getD, List.getElem?_append_right (by rw [List.length_map, List.length_take]; omega)]
      rw [List.length_map, List.length_take, Nat.min_eq_left (by omega), Nat.sub_self]
      rfl
    rw [hrd] at hx9
    have hxc := HXC.out
    have r1 : (100000 < tcnt x) = False := eq_false (by omega)
    have r2 : (i < i + 1) = True := eq_true (by omega)
    have r3 : ((i : Int) < (i : Int) + 1) = True := eq_true (by omega)
    have r4 : ((i : Int) < ((i + 1 : Nat) : Int)) = True := eq_true (by omega)
    clear hrf hb9 hg9 hat9 tf hzc hrd hz8 HZ8 S28 S48 HB8 hxc
    go_wp2_with fail
    go_roundg k1
    case measure => omega
    case rel => exact ⟨i + 1, _, c5, by first | rfl | (simp; done) | (simp [*]; done), by first | rfl | (refine congrArg _ ?_; unfold wrap64; omega), ⟨by have := Hi.out; omega⟩, HZ9, S29, S49, HB9⟩
end Go.Proofs.Ytnfgpepggehegaa.I
namespace Go.Proofs.Ytnfgpepggehegaa.I
open Go.RowKit Go.Proofs.YtnfgpepggehegaaW.PrintWords Go.Proofs.YtnfgpepggehegaaW.PrintLast Go.Proofs.YtnfgpepggehegaaW.PrintMore
attribute [local go_sem] max2_int min2_int max_two min_two max_three min_three max_four min_four
set_option linter.unusedVariables false
set_option maxRecDepth 100000
set_option linter.unusedSimpArgs false
theorem tcnt_rd {l : List S28} {n : Int} (h0 : 0 ≤ n) (h1 : n < (l.length : Int)) : tcnt (rd_T28 l n) ≤ tcntL l := by
  have hn : n.toNat < l.length := by omega
  have e : rd_T28 l n = l[n.toNat] := by unfold rd_T28; rw [List.getD_eq_getElem?_getD, List.getElem?_eq_getElem hn]; rfl
  rw [e]
  exact tcnt_at l _ hn
set_option maxHeartbeats 16000000 in
theorem next_at {w : World} {A0 : Option Addr} {c0 : Nat} {l0 : List S87} {A1 : Option Addr} {c1 : Nat} {l1 : List S84} {ok : Nat → Prop} {x : S28} {A : Option Addr} {c : Nat} (hs : Sch w A0 c0 l0 A1 c1 l1) (ht : Tm w ok x A c) (h0 : stB l0 l1 x = 0) (y : S28) (m : Bool) (z : Int) (hz : stepF l0 l1 x = (y, m, z)) :
    Calls Try.prog 41 #[.agg #[.slice A0 l0.length c0, .slice A1 l1.length c1], .agg #[.int .i64 x.f0, .int .i64 x.f1, .slice A x.f2.length c]] w fun e w' => ∃ Av cv, e = .returned (.tuple #[.agg #[.int .i64 y.f0, .int .i64 y.f1, .slice Av y.f2.length cv], .bool m, .int .i64 z]) ∧ Tm w' (fun k => w.heap.size ≤ k) y Av cv ∧ Below w.heap.size w w' := by
  have hu25 := Try.underlying25
  have hu28 := Try.underlying28
  have hu84 := Try.underlying84
  obtain ⟨hsch, htc, hcl⟩ := stB_zero h0
  have htl := tcnt_f2 x
  have HRDY := Aside0.mk (ready_of hsch hcl)
  have HBODY := Aside0.mk (sch_bodies hsch).2
  have HXX := Aside0.mk (show (⟨x.f0, x.f1, x.f2⟩ : S28) = x from by cases x; rfl)
  have HTL := Aside0.mk (show tcntL x.f2 ≤ 100000 from by omega)
  have HTC := Aside0.mk htc
  have H0 := Aside0.mk h0
  have HS := Aside0.mk hs
  have HT := Aside0.mk ht
  have HZ := Aside0.mk hz
  clear hsch htc hcl htl hs ht hz h0
  go_enter Try.func41, Try.ntmps41
  go_upto_region 1 with (first
    | ((with_reducible refine gate_dst (N := 2) rfl ?_)
       refine box_event ?hg (N := 2) ?hd (cs := #[.slice A0 l0.length c0, .slice A1 l1.length c1]) (t := 25) ?hr ?_
       (case hd => rfl)
       (case hg => rfl)
       (case hr => first | (go_simp; done) | (go_simp; rfl))
       intro g2 hg_g2 w2 hbox hbb
       have S22 := Aside0.mk hbox
       have HB2 := Aside0.mk hbb
       clear hbox hbb hg_g2)
    | ((with_reducible refine gate_dst (N := 3) rfl ?_)
       refine box_event ?hg (N := 3) ?hd (cs := #[.int .i64 x.f0, .int .i64 x.f1, .slice A x.f2.length c]) (t := 28) ?hr ?_
       (case hd => rfl)
       (case hg => rfl)
       (case hr => first | (go_simp; done) | (go_simp; rfl))
       intro g3 hg_g3 w3 hbox hbb
       have S23 := Aside0.mk (blk_below S22.out hbb)
       have S33 := Aside0.mk hbox
       have HB3 := Aside0.mk (below_step HB2.out hbb)
       clear S22 HB2
       clear hbox hbb hg_g3)
    | ((with_reducible refine gate_dst (N := 4) rfl ?_)
       refine box_event ?hg (N := 4) ?hd (cs := #[.int .i64 0, .int .i64 0, .slice none 0 0]) (t := 28) ?hr ?_
       (case hd => rfl)
       (case hg => rfl)
       (case hr => first | (go_simp; done) | (go_simp; rfl))
       intro g4 hg_g4 w4 hbox hbb
       have S2 := Aside0.mk (blk_below S23.out hbb)
       have S3 := Aside0.mk (blk_below S33.out hbb)
       have S4 := Aside0.mk hbox
       have HB4 := Aside0.mk (below_step HB3.out hbb)
       have HG4 := Aside0.mk (show w.heap.size ≤ g4 from by have := HB3.out.size; omega)
       have HL4 := Aside0.mk (show g4 < w4.heap.size from blk_lt hbox)
       clear S23 S33 HB3
       clear hbox hbb hg_g4))
  have e0 : w4.cell? ⟨g2, 0, none⟩ = some (.slice A0 l0.length c0) := (blk_cell S2.out 0).trans rfl
  have e1 : w4.cell? ⟨g2, 1, none⟩ = some (.slice A1 l1.length c1) := (blk_cell S2.out 1).trans rfl
  have m0 : w4.cell? ⟨g3, 0, none⟩ = some (.int .i64 x.f0) := (blk_cell S3.out 0).trans rfl
  have m1 : w4.cell? ⟨g3, 1, none⟩ = some (.int .i64 x.f1) := (blk_cell S3.out 1).trans rfl
  have m2 : w4.cell? ⟨g3, 2, none⟩ = some (.slice A x.f2.length c) := (blk_cell S3.out 2).trans rfl
  by_cases hk : x.f0 = 1
  rotate_left
  · have hn := nextT_done (l1 := l1) hk
    have hf := HZ.out
    rw [stepF_next H0.out (by rw [hn]; have := HTC.out; omega), hn, decide_eq_false hk] at hf
    injection hf with h1 h2
    injection h2 with h2 h3
    subst h1 h2 h3
    have q1 : (x.f0 != 1) = true := bne_iff_ne.2 hk
    have q2 : (x.f0 == 1) = false := beq_eq_false_iff_ne.2 hk
    clear hk hn HZ
    go_wp2_with fail
    (with_reducible refine (tcopy_calls _ x.f0 x.f1 x.f2 A c w4 (Nat.lt_succ_self _) (by have := HTL.out; omega) (HT.out.below HB4.out).c HT.out.le).mono ?_)
    rintro e w9 ⟨v, rfl, hRv, hb9⟩
    obtain ⟨Av, cv, rfl, hV⟩ := V_new hRv
    have HTV := Aside0.mk (show Tm w9 (fun k => w4.heap.size ≤ k) x Av cv from hV)
    have S49 := Aside0.mk (blk_below S4.out hb9)
    have HB9 := Aside0.mk (below_step HB4.out hb9)
    clear hRv hV hb9 e0 e1 m0 m1 m2
    have z0 : w9.cell? ⟨g4, 0, none⟩ = some (.int .i64 0) := (blk_cell S49.out 0).trans rfl
    have z1 : w9.cell? ⟨g4, 1, none⟩ = some (.int .i64 0) := (blk_cell S49.out 1).trans rfl
    have z2 : w9.cell? ⟨g4, 2, none⟩ = some (.slice none 0 0) := (blk_cell S49.out 2).trans rfl
    have f0 := blk_frozen S49.out 0
    have f1 := blk_frozen S49.out 1
    have f2 := blk_frozen S49.out 2
    go_wp2_with fail
    refine bodyPost_ret (results_ctt rfl _ _ g4 28 #[.int .i64 x.f0, .int .i64 x.f1, .slice Av x.f2.length cv] (0, 0) _ rfl (blk_set3 S49.out _ _ _) Try.underlying28 rfl (by kernel_rfl)) rfl ?_
    exact ⟨Av, cv, rfl, Tm.mono (Tm.far3 HTV.out (fun k hk => by have := HL4.out; have : w4.heap.size ≤ k := hk; omega) _ _ _) (fun k hk => by have := HB4.out.size; have : w4.heap.size ≤ k := hk; omega), below_set3 HB9.out HG4.out _ _ _⟩
  obtain ⟨hn0, hn1, hok⟩ := HRDY.out hk
  obtain ⟨ad, A3, c3, A4, c4, he, hx0, hx1, hx2, hx3, hx4, hl3, hC3, hl4, hC4⟩ := at_T84 (Kd.C_below HS.out.r1 HB4.out) x.f1 hn0 hn1
  subst he
  have hmem : rd_T84 l1 x.f1 ∈ l1 := by
    unfold rd_T84
    rw [List.getD_eq_getElem?_getD, List.getElem?_eq_getElem (by omega)]
    exact List.getElem_mem _
  have hbt := HBODY.out _ hmem
  have hnx : nextT l1 x = subT x.f2 (rd_T84 l1 x.f1).f2 := by
    unfold nextT
    rw [if_pos hk]
  have hf := HZ.out
  unfold stepF at hf
  rw [if_pos H0.out, hnx, decide_eq_true hk] at hf
  have hlx : x.f2.length ≤ 100000 := by have := tcntL_ge x.f2; have := HTL.out; omega
  have HSUB := Aside0.mk (fun (w' : World) (hb : Below w4.heap.size w4 w') (R : S28) (er : Int) (hR : subR x.f2 (rd_T84 l1 x.f1).f2 = (R, er)) => subst_calls (rd_T84 l1 x.f1).f2 A4 c4 x.f2 A c w' hok (by omega) (fun n h0 h1 => by have := tcnt_rd h0 h1; have := HTL.out; omega) hlx (Kd.C_below hC4 hb) hl4 (HT.out.below (below_step HB4.out hb)).c HT.out.le R er hR)
  obtain ⟨⟨R, er⟩, hR⟩ : ∃ F, subR x.f2 (rd_T84 l1 x.f1).f2 = F := ⟨_, rfl⟩
  have hyz : y = R ∧ z = er ∧ m = (er == 0) := by
    unfold subR at hR
    by_cases hbg : 100000 < tcnt (subT x.f2 (rd_T84 l1 x.f1).f2)
    · rw [if_pos hbg] at hR hf
      injection hR with r1 r2
      injection hf with f1 f2
      injection f2 with f2 f3
      subst r1 r2 f1 f2 f3
      exact ⟨rfl, rfl, rfl⟩
    · rw [if_neg hbg] at hR hf
      injection hR with r1 r2
      injection hf with f1 f2
      injection f2 with f2 f3
      subst r1 r2 f1 f2 f3
      exact ⟨rfl, rfl, rfl⟩
  obtain ⟨rfl, rfl, rfl⟩ := hyz
  have HRR := Aside0.mk (fun (w' : World) (hb : Below w4.heap.size w4 w') => HSUB.out w' hb _ _ hR)
  have q1 : (x.f0 != 1) = false := bne_eq_false_iff_eq.2 hk
  have q2 : (x.f0 == 1) = true := beq_iff_eq.2 hk
  have q3 : (0 ≤ x.f1) = True := eq_true hn0
  have q4 : (x.f1 < (l1.length : Int)) = True := eq_true hn1
  have q5 : (x.f1.toNat < l1.length) = True := eq_true (by omega)
  clear hf hnx hbt hmem hok hC3 hl3 hC4 hl4 hR HSUB hlx hn0 hn1 hk
  generalize (rd_T84 l1 x.f1).f2 = b at *
  go_upto_region 3 with fail
  try simp only [Act.put, List.setIfInBounds_toArray, List.set_cons_succ, List.set_cons_zero]
  have z0' : w4.cell? ⟨g4, 0, none⟩ = some (.int .i64 0) := (blk_cell S4.out 0).trans rfl
  have z1' : w4.cell? ⟨g4, 1, none⟩ = some (.int .i64 0) := (blk_cell S4.out 1).trans rfl
  have z2' : w4.cell? ⟨g4, 2, none⟩ = some (.slice none 0 0) := (blk_cell S4.out 2).trans rfl
  go_cut [6] from 13 to 24 (fun v6 wc => v6 = .int .i64 z ∧ Aside0 (∃ Av cv, wc.heap[g4]? = some (.cells #[.int .i64 y.f0, .int .i64 y.f1, .slice Av y.f2.length cv] 28 (0, 0)) ∧ Tm wc (fun k => w4.heap.size ≤ k) y Av cv) ∧ Aside0 (Below w.heap.size w wc))
  case first =>
    go_region_law
      (go_simp
       go_at_call 67
       (with_reducible refine (HRR.out w4.drew (below_drew (Below.refl _ _))).mono ?_)
       rintro e9 wA ⟨Av, cv, rfl, hT, hbA⟩
       have HTA := Aside0.mk (show Tm wA (fun k => w4.heap.size ≤ k) y Av cv from hT)
       have S4A := Aside0.mk (blk_below (blk_drew S4.out) hbA)
       have HBA := Aside0.mk (below_step (below_drew HB4.out) hbA)
       have k90 := (blk_cell S4A.out 0).trans rfl
       have k91 := (blk_cell S4A.out 1).trans rfl
       have k92 := (blk_cell S4A.out 2).trans rfl
       have f90 := blk_frozen S4A.out 0
       have f91 := blk_frozen S4A.out 1
       have f92 := blk_frozen S4A.out 2
       clear hT hbA)
    all_goals (
      go_wp2_with fail
      go_meet
      exact ⟨by first | rfl | (go_simp; done) | (go_simp; rfl) | (simp [Act.put, Act.eval]; done), ⟨Av, cv, blk_set3 S4A.out _ _ _, Tm.far3 HTA.out (fun k hk => by have := HL4.out; have : w4.heap.size ≤ k := hk; omega) _ _ _⟩, ⟨below_set3 HBA.out HG4.out _ _ _⟩⟩)
  case rest =>
    obtain ⟨rfl, HM, HBc⟩ := hcut
    obtain ⟨Av, cv, s4, hT⟩ := HM.out
    have S4c := Aside0.mk s4
    have HTc := Aside0.mk hT
    clear s4 hT HM e0 e1 m0 m1 m2 z0' z1' z2' hx0 hx1 hx2 hx3 hx4 q1 q2 q3 q4 q5
    have z0 : wc.cell? ⟨g4, 0, none⟩ = some (.int .i64 y.f0) := (blk_cell S4c.out 0).trans rfl
    have z1 : wc.cell? ⟨g4, 1, none⟩ = some (.int .i64 y.f1) := (blk_cell S4c.out 1).trans rfl
    have z2 : wc.cell? ⟨g4, 2, none⟩ = some (.slice Av y.f2.length cv) := (blk_cell S4c.out 2).trans rfl
    have f0 := blk_frozen S4c.out 0
    have f1 := blk_frozen S4c.out 1
    have f2 := blk_frozen S4c.out 2
    go_wp2_with fail
    refine bodyPost_ret (results_ctt rfl _ _ g4 28 #[.int .i64 y.f0, .int .i64 y.f1, .slice Av y.f2.length cv] (0, 0) _ rfl (blk_set3 S4c.out _ _ _) Try.underlying28 rfl (by kernel_rfl)) rfl ?_
    exact ⟨Av, cv, by first | rfl | (simp; done), Tm.mono (Tm.far3 HTc.out (fun k hk => by have := HL4.out; have : w4.heap.size ≤ k := hk; omega) _ _ _) (fun k hk => by have := HB4.out.size; have : w4.heap.size ≤ k := hk; omega), below_set3 HBc.out HG4.out _ _ _⟩
end Go.Proofs.Ytnfgpepggehegaa.I
namespace Go.Proofs.Ytnfgpepggehegaa.I
open Go.RowKit Go.Proofs.YtnfgpepggehegaaW.PrintWords Go.Proofs.YtnfgpepggehegaaW.PrintLast Go.Proofs.YtnfgpepggehegaaW.PrintMore
attribute [local go_sem] max2_int min2_int max_two min_two max_three min_three max_four min_four
set_option linter.unusedVariables false
set_option maxRecDepth 100000
set_option linter.unusedSimpArgs false
def goT (l1 : List S84) : Nat → S28 → List Int → S28 × List Int × Int
  | 0, t, acc => if t.f0 = 1 then (⟨0, 0, []⟩, acc, 8) else (t, acc, 0)
  | k + 1, t, acc => if t.f0 = 1 then (if 100000 < tcnt (nextT l1 t) then (⟨0, 0, []⟩, [], 3) else goT l1 k (nextT l1 t) (acc ++ [t.f1])) else (t, acc, 0)
theorem goT_run (l1 : List S84) : ∀ (k : Nat) (t : S28) (acc : List Int), (goT l1 k t acc).2.2 = (runT l1 k t acc.length).2.2 ∧ ((goT l1 k t acc).2.2 = 0 → (goT l1 k t acc).1 = (runT l1 k t acc.length).1 ∧ ((goT l1 k t acc).2.1.length : Int) = (runT l1 k t acc.length).2.1)
  | 0, t, acc => by
    unfold goT runT
    by_cases h : t.f0 = 1
    · rw [if_pos h, if_pos h]; exact ⟨rfl, fun h => absurd h (by show ¬ ((8 : Int) = 0); decide)⟩
    · rw [if_neg h, if_neg h]; exact ⟨rfl, fun _ => ⟨rfl, rfl⟩⟩
  | k + 1, t, acc => by
    unfold goT runT
    by_cases h : t.f0 = 1
    · rw [if_pos h, if_pos h]
      by_cases hb : 100000 < tcnt (nextT l1 t)
      · rw [if_pos hb, if_pos hb]; exact ⟨rfl, fun h => absurd h (by show ¬ ((3 : Int) = 0); decide)⟩
      · rw [if_neg hb, if_neg hb]
        have ih := goT_run l1 k (nextT l1 t) (acc ++ [t.f1])
        rw [List.length_append, List.length_singleton] at ih
        exact ih
    · rw [if_neg h, if_neg h]; exact ⟨rfl, fun _ => ⟨rfl, rfl⟩⟩
def chkF (l0 : List S87) (l1 : List S84) (t : S28) (fuel : Int) : Int := if stB l0 l1 t = 0 then (if fuel < 0 ∨ 1048576 < fuel then 2 else 0) else stB l0 l1 t
set_option maxHeartbeats 16000000 in
theorem checked_at {w : World} {A0 : Option Addr} {c0 : Nat} {l0 : List S87} {A1 : Option Addr} {c1 : Nat} {l1 : List S84} {ok : Nat → Prop} {x : S28} {A : Option Addr} {c : Nat} (hs : Sch w A0 c0 l0 A1 c1 l1) (ht : Tm w ok x A c) (fuel z : Int) (hz : chkF l0 l1 x fuel = z) :
    Calls Try.prog 44 #[.agg #[.slice A0 l0.length c0, .slice A1 l1.length c1], .agg #[.int .i64 x.f0, .int .i64 x.f1, .slice A x.f2.length c], .int .i64 fuel] w fun e w' => e = .returned (.int .i64 z) ∧ Below w.heap.size w w' := by
  have hu25 := Try.underlying25
  have hu28 := Try.underlying28
  have HS := Aside0.mk hs
  have HT := Aside0.mk ht
  have HZ := Aside0.mk hz
  clear hs ht hz
  go_enter Try.func44, Try.ntmps44
  go_upto_region 1 with (first
    | ((with_reducible refine gate_dst (N := 3) rfl ?_)
       refine box_event ?hg (N := 3) ?hd (cs := #[.slice A0 l0.length c0, .slice A1 l1.length c1]) (t := 25) ?hr ?_
       (case hd => rfl)
       (case hg => rfl)
       (case hr => first | (go_simp; done) | (go_simp; rfl))
       intro g2 hg_g2 w2 hbox hbb
       have S22 := Aside0.mk hbox
       have HB2 := Aside0.mk hbb
       clear hbox hbb hg_g2)
    | ((with_reducible refine gate_dst (N := 4) rfl ?_)
       refine box_event ?hg (N := 4) ?hd (cs := #[.int .i64 x.f0, .int .i64 x.f1, .slice A x.f2.length c]) (t := 28) ?hr ?_
       (case hd => rfl)
       (case hg => rfl)
       (case hr => first | (go_simp; done) | (go_simp; rfl))
       intro g3 hg_g3 w3 hbox hbb
       have S2 := Aside0.mk (blk_below S22.out hbb)
       have S3 := Aside0.mk hbox
       have HB3 := Aside0.mk (below_step HB2.out hbb)
       clear S22 HB2
       clear hbox hbb hg_g3))
  have e0 : w3.cell? ⟨g2, 0, none⟩ = some (.slice A0 l0.length c0) := (blk_cell S2.out 0).trans rfl
  have e1 : w3.cell? ⟨g2, 1, none⟩ = some (.slice A1 l1.length c1) := (blk_cell S2.out 1).trans rfl
  have m0 : w3.cell? ⟨g3, 0, none⟩ = some (.int .i64 x.f0) := (blk_cell S3.out 0).trans rfl
  have m1 : w3.cell? ⟨g3, 1, none⟩ = some (.int .i64 x.f1) := (blk_cell S3.out 1).trans rfl
  have m2 : w3.cell? ⟨g3, 2, none⟩ = some (.slice A x.f2.length c) := (blk_cell S3.out 2).trans rfl
  obtain ⟨er, her⟩ : ∃ er, stB l0 l1 x = er := ⟨_, rfl⟩
  have HER := Aside0.mk her
  have hch := HZ.out
  unfold chkF at hch
  rw [her] at hch
  clear her HZ
  go_upto_region 2 with (
    go_at_call 12
    (with_reducible refine (refcheck_at (HS.out.below HB3.out) (HT.out.below HB3.out) er HER.out).mono ?_)
    rintro e9 w4 ⟨rfl, hb4⟩
    have HB4 := Aside0.mk (below_step HB3.out hb4)
    clear hb4
    skip)
  clear e0 e1 m0 m1 m2
  by_cases hr : er = 0
  rotate_left
  · rw [if_neg hr] at hch
    subst hch
    have q1 : (er != 0) = true := bne_iff_ne.2 hr
    have q2 : (er == 0) = false := beq_eq_false_iff_ne.2 hr
    go_wp2_with fail
    go_ret
    exact ⟨rfl, HB4.out⟩
  subst hr
  rw [if_pos rfl] at hch
  by_cases hf0 : fuel < 0
  · rw [if_pos (.inl hf0)] at hch
    subst hch
    have q1 : (fuel < 0) = True := eq_true hf0
    go_wp2_with fail
    go_ret
    exact ⟨rfl, HB4.out⟩
  by_cases hf1 : 1048576 < fuel
  · rw [if_pos (.inr hf1)] at hch
    subst hch
    have q1 : (fuel < 0) = False := eq_false hf0
    have q2 : (1048576 < fuel) = True := eq_true hf1
    go_wp2_with fail
    go_ret
    exact ⟨rfl, HB4.out⟩
  rw [if_neg (by omega)] at hch
  subst hch
  have q1 : (fuel < 0) = False := eq_false hf0
  have q2 : (1048576 < fuel) = False := eq_false hf1
  go_wp2_with fail
  go_ret
  exact ⟨rfl, HB4.out⟩
set_option maxHeartbeats 16000000 in
theorem go_at {w : World} {A0 : Option Addr} {c0 : Nat} {l0 : List S87} {A1 : Option Addr} {c1 : Nat} {l1 : List S84} {ok : Nat → Prop} {x : S28} {A : Option Addr} {c : Nat} (hs : Sch w A0 c0 l0 A1 c1 l1) (ht : Tm w ok x A c) (h0 : stB l0 l1 x = 0) (fuel : Int) (hf0 : 0 ≤ fuel) (hf1 : fuel ≤ 1048576) (X : S28) (L : List Int) (er : Int) (hF : goT l1 fuel.toNat x [] = (X, L, er)) :
    Calls Try.prog 45 #[.agg #[.slice A0 l0.length c0, .slice A1 l1.length c1], .agg #[.int .i64 x.f0, .int .i64 x.f1, .slice A x.f2.length c], .int .i64 fuel] w fun e w' => ∃ Av cv Al cl, e = .returned (.tuple #[.agg #[.int .i64 X.f0, .int .i64 X.f1, .slice Av X.f2.length cv], .slice Al L.length cl, .int .i64 er]) ∧ Tm w' (fun k => w.heap.size ≤ k) X Av cv ∧ Ns w' L Al cl ∧ Below w.heap.size w w' := by
  have hu25 := Try.underlying25
  have hu28 := Try.underlying28
  have HS := Aside0.mk hs
  have HT := Aside0.mk ht
  have H0 := Aside0.mk h0
  have HF := Aside0.mk hF
  clear hs ht h0 hF
  go_enter Try.func45, Try.ntmps45
  go_wp2_with (first
    | ((with_reducible refine gate_dst (N := 3) rfl ?_)
       refine box_event ?hg (N := 3) ?hd (cs := #[.slice A0 l0.length c0, .slice A1 l1.length c1]) (t := 25) ?hr ?_
       (case hd => rfl)
       (case hg => rfl)
       (case hr => first | (go_simp; done) | (go_simp; rfl))
       intro g3 hg_g3 w2 hbox hbb
       have S32 := Aside0.mk hbox
       have HB2 := Aside0.mk hbb
       clear hbox hbb hg_g3)
    | ((with_reducible refine gate_dst (N := 4) rfl ?_)
       refine box_event ?hg (N := 4) ?hd (cs := #[.int .i64 x.f0, .int .i64 x.f1, .slice A x.f2.length c]) (t := 28) ?hr ?_
       (case hd => rfl)
       (case hg => rfl)
       (case hr => first | (go_simp; done) | (go_simp; rfl))
       intro g4 hg_g4 w3 hbox hbb
       have S33 := Aside0.mk (blk_below S32.out hbb)
       have S43 := Aside0.mk hbox
       have HB3 := Aside0.mk (below_step HB2.out hbb)
       have HG4 := Aside0.mk (show w.heap.size ≤ g4 from by have := HB2.out.size; omega)
       clear S32 HB2
       clear hbox hbb hg_g4)
    | ((with_reducible refine gate_dst (N := 6) rfl ?_)
       refine box_event ?hg (N := 6) ?hd (cs := #[.int .i64 0, .int .i64 0, .slice none 0 0]) (t := 28) ?hr ?_
       (case hd => rfl)
       (case hg => rfl)
       (case hr => first | (go_simp; done) | (go_simp; rfl))
       intro g6 hg_g6 w4 hbox hbb
       have S3 := Aside0.mk (blk_below S33.out hbb)
       have S4 := Aside0.mk (blk_below S43.out hbb)
       have S6 := Aside0.mk hbox
       have HB4 := Aside0.mk (below_step HB3.out hbb)
       have HG6 := Aside0.mk (show w.heap.size ≤ g6 from by have := HB3.out.size; omega)
       have HN46 := Aside0.mk (show g4 ≠ g6 from by have := blk_lt S43.out; omega)
       have HN34 := Aside0.mk (show g3 ≠ g4 from blk_ne S33.out S43.out (by decide))
       clear S33 S43 HB3
       clear hbox hbb hg_g6))
  have HT4 := Aside0.mk (show Tm w4 (fun k => k ≠ g4 ∧ some k ≠ (Value.slice none 0 0).ownBlock) x A c from (HT.out.bound.below HB4.out).mono (fun k hk => ⟨by have h1 := HG4.out; have h2 := hk.2; omega, by simp [Value.ownBlock]⟩))
  obtain ⟨M, hM⟩ : ∃ M : Nat, M = fuel.toNat := ⟨_, rfl⟩
  rw [← hM] at HF
  have HM := Aside0.mk (show (M : Int) = fuel from by omega)
  clear hM HT
  go_loopg [9] M (fun kq v9 wr => ∃ (u : S28) (Au : Option Addr) (cu : Nat) (dn : List Int) (Ah : Option Addr) (ch : Nat), v9 = .slice Ah dn.length ch ∧ Aside0 ((dn.length : Int) + kq = fuel) ∧ Aside0 (stB l0 l1 u = 0) ∧ Aside0 (goT l1 kq u dn = (X, L, er)) ∧ Aside0 (Tm wr (fun k => k ≠ g4 ∧ some k ≠ (Value.slice Ah dn.length ch).ownBlock) u Au cu) ∧ Aside0 (Kd.R (Kd.int .i64) 3 wr w.heap.size (fun _ => True) (.slice Ah dn.length ch) dn) ∧ Aside0 (wr.heap[g3]? = some (.cells #[.slice A0 l0.length c0, .slice A1 l1.length c1] 25 (0, 0))) ∧ Aside0 (wr.heap[g4]? = some (.cells #[.int .i64 u.f0, .int .i64 u.f1, .slice Au u.f2.length cu] 28 (0, 0))) ∧ Aside0 (wr.heap[g6]? = some (.cells #[.int .i64 0, .int .i64 0, .slice none 0 0] 28 (0, 0))) ∧ Aside0 (Below w.heap.size w wr))
  case atStart => exact ⟨x, A, c, [], none, 0, rfl, ⟨by have := HM.out; simp; omega⟩, H0, HF, HT4, ⟨Kd.R_nil _ _ _ _ _⟩, S3, S4, S6, HB4⟩
  case round =>
    clear H0 HF HT4 S3 S4 S6 HB4
    obtain ⟨u, Au, cu, dn, Ah, ch, rfl, HL, HU, HF, HTu, HH, S3, S4, S6, HB⟩ := hrel
    have HSr := Aside0.mk (HS.out.below HB.out)
    have HL4 := Aside0.mk (blk_lt S4.out)
    have e0 : wr.cell? ⟨g3, 0, none⟩ = some (.slice A0 l0.length c0) := (blk_cell S3.out 0).trans rfl
    have e1 : wr.cell? ⟨g3, 1, none⟩ = some (.slice A1 l1.length c1) := (blk_cell S3.out 1).trans rfl
    have m0 : wr.cell? ⟨g4, 0, none⟩ = some (.int .i64 u.f0) := (blk_cell S4.out 0).trans rfl
    have m1 : wr.cell? ⟨g4, 1, none⟩ = some (.int .i64 u.f1) := (blk_cell S4.out 1).trans rfl
    have m2 : wr.cell? ⟨g4, 2, none⟩ = some (.slice Au u.f2.length cu) := (blk_cell S4.out 2).trans rfl
    by_cases hm : u.f0 = 1
    rotate_left
    · have q1 : (u.f0 == 1) = false := beq_eq_false_iff_ne.2 hm
      have hF : goT l1 gk u dn = (u, dn, 0) := by
        cases gk <;> (unfold goT; rw [if_neg hm])
      have h2 := HF.out
      rw [hF] at h2
      injection h2 with h2 h3
      injection h3 with h3 h4
      subst h2 h3 h4
      have HTL := Aside0.mk (show tcntL u.f2 ≤ 1000000 from by have h1 := (stB_zero HU.out).2.1; have := tcnt_f2 u; omega)
      clear hm hF HF
      go_wp2_with fail
      (with_reducible refine (tcopy_calls _ u.f0 u.f1 u.f2 Au cu wr (Nat.lt_succ_self _) HTL.out HTu.out.c HTu.out.le).mono ?_)
      rintro e w9 ⟨v, rfl, hRv, hb9⟩
      obtain ⟨Av, cv, rfl, hV⟩ := V_new hRv
      have HTV := Aside0.mk (show Tm w9 (fun k => wr.heap.size ≤ k) u Av cv from hV)
      have S69 := Aside0.mk (blk_below S6.out hb9)
      have HB9 := Aside0.mk (below_step HB.out hb9)
      have HH9 := Aside0.mk (Kd.R_below HH.out hb9)
      have HL6 := Aside0.mk (blk_lt S6.out)
      clear hRv hV hb9 e0 e1 m0 m1 m2
      have z0 : w9.cell? ⟨g6, 0, none⟩ = some (.int .i64 0) := (blk_cell S69.out 0).trans rfl
      have z1 : w9.cell? ⟨g6, 1, none⟩ = some (.int .i64 0) := (blk_cell S69.out 1).trans rfl
      have z2 : w9.cell? ⟨g6, 2, none⟩ = some (.slice none 0 0) := (blk_cell S69.out 2).trans rfl
      have f0 := blk_frozen S69.out 0
      have f1 := blk_frozen S69.out 1
      have f2 := blk_frozen S69.out 2
      go_wp2_with fail
      refine bodyPost_ret (results_ctt rfl _ _ g6 28 #[.int .i64 u.f0, .int .i64 u.f1, .slice Av u.f2.length cv] (0, 0) _ rfl (blk_set3 S69.out _ _ _) Try.underlying28 rfl (by kernel_rfl)) rfl ?_
      have sA := blk_put (cs' := #[.int .i64 u.f0, .int .i64 0, .slice none 0 0]) S69.out 0 (.int .i64 u.f0) rfl
      have sB := blk_put (cs' := #[.int .i64 u.f0, .int .i64 u.f1, .slice none 0 0]) sA 1 (.int .i64 u.f1) rfl
      exact ⟨Av, cv, Ah, ch, rfl, Tm.mono (Tm.far3 HTV.out (fun k hk => by have := HL6.out; have : wr.heap.size ≤ k := hk; omega) _ _ _) (fun k hk => by have := HB.out.size; have : wr.heap.size ≤ k := hk; omega), Kd.V_mono (Kd.R_V (base' := 0) (Kd.R_set (Kd.R_set (Kd.R_set HH9.out S69.out (by decide) 0 _) sA (by decide) 1 _) sB (by decide) 2 _)) (fun _ _ => trivial), below_set3 HB9.out HG6.out _ _ _⟩
    have q1 : (u.f0 == 1) = true := beq_iff_eq.2 hm
    cases gk with
    | zero =>
      have h2 := HF.out
      unfold goT at h2
      rw [if_pos hm] at h2
      injection h2 with h2 h3
      injection h3 with h3 h4
      subst h2 h3 h4
      have hlf : (dn.length : Int) = fuel := by have := HL.out; omega
      have q2 : ((dn.length : Int) == fuel) = true := beq_iff_eq.2 hlf
      have q3 : ((dn.length : Int) = fuel) = True := eq_true hlf
      clear hm HF hlf e0 e1
      have z0 : wr.cell? ⟨g6, 0, none⟩ = some (.int .i64 0) := (blk_cell S6.out 0).trans rfl
      have z1 : wr.cell? ⟨g6, 1, none⟩ = some (.int .i64 0) := (blk_cell S6.out 1).trans rfl
      have z2 : wr.cell? ⟨g6, 2, none⟩ = some (.slice none 0 0) := (blk_cell S6.out 2).trans rfl
      have f0 := blk_frozen S6.out 0
      have f1 := blk_frozen S6.out 1
      have f2 := blk_frozen S6.out 2
      go_wp2_with fail
      refine bodyPost_ret (results_ctt rfl _ _ g6 28 #[.int .i64 0, .int .i64 0, .slice none 0 0] (0, 0) _ rfl (blk_set3 S6.out _ _ _) Try.underlying28 rfl (by kernel_rfl)) rfl ?_
      exact ⟨none, 0, Ah, ch, rfl, Kd.V_nil _ _ _ _ _, Kd.V_mono (Kd.R_V (base' := 0) (Kd.R_set (Kd.R_set (Kd.R_set HH.out S6.out (by decide) 0 _) (blk_put (cs' := #[.int .i64 0, .int .i64 0, .slice none 0 0]) S6.out 0 _ rfl) (by decide) 1 _) (blk_put (cs' := #[.int .i64 0, .int .i64 0, .slice none 0 0]) (blk_put (cs' := #[.int .i64 0, .int .i64 0, .slice none 0 0]) S6.out 0 _ rfl) 1 _ rfl) (by decide) 2 _)) (fun _ _ => trivial), below_set3 HB.out HG6.out _ _ _⟩
    | succ j =>
      have hlf : (dn.length : Int) ≠ fuel := by have := HL.out; omega
      have hlg : dn.length ≤ 1048576 := by have := HL.out; omega
      have q2 : ((dn.length : Int) == fuel) = false := beq_eq_false_iff_ne.2 hlf
      have q3 : ((dn.length : Int) = fuel) = False := eq_false hlf
      by_cases hbig : 100000 < tcnt (nextT l1 u)
      · have h2 := HF.out
        unfold goT at h2
        rw [if_pos hm, if_pos hbig] at h2
        injection h2 with h2 h3
        injection h3 with h3 h4
        subst h2 h3 h4
        have HN := Aside0.mk (stepF_large HU.out hbig)
        clear hm HF hlf hbig
        go_upto_region 6 with (first
          | (go_at_call 41
             (with_reducible refine (next_at HSr.out HTu.out HU.out _ _ _ HN.out).mono ?_)
             rintro e9 w5 ⟨Av, cv, rfl, hv, hb5⟩
             have HB5 := Aside0.mk (below_step HB.out hb5)
             have HB5r := Aside0.mk hb5
             clear hv hb5
             skip)
          | ((with_reducible refine gate_dst (N := 10) rfl ?_)
             refine box_event ?hg (N := 10) ?hd (cs := #[.int .i64 0, .int .i64 0, .slice none 0 0]) (t := 28) ?hr ?_
             (case hd => rfl)
             (case hg => rfl)
             (case hr => first | (go_simp; done) | (go_simp; rfl))
             intro g5 hg_g5 w6 hbox hbb
             have hgw_ := HB5.out.size
             have Hg5g := Aside0.mk (Nat.le_of_eq hg_g5.symm)
             have Hg5b := Aside0.mk (below_set3 (below_step HB5.out hbb) (show w.heap.size ≤ g5 from by omega) (.int .i64 0) (.int .i64 0) (.slice Av 0 cv))
             have Hg5w := Aside0.mk (below_set3 hbb (Nat.le_of_eq hg_g5.symm) (.int .i64 0) (.int .i64 0) (.slice Av 0 cv))
             have Hg5s := Aside0.mk (blk_set3 hbox (.int .i64 0) (.int .i64 0) (.slice Av 0 cv))
             have hcz0 := (blk_cell hbox 0).trans rfl
             have hcz1 := (blk_cell hbox 1).trans rfl
             have hcz2 := (blk_cell hbox 2).trans rfl
             have hfz0 := blk_frozen hbox 0
             have hfz1 := blk_frozen hbox 1
             have hfz2 := blk_frozen hbox 2
             clear hgw_
             clear hbox hbb hg_g5))
        clear hcz0 hcz1 hcz2 hfz0 hfz1 hfz2 e0 e1 m0 m1 m2
        generalize (((w6.setCell ⟨g5, 0, none⟩ (.int .i64 0)).setCell ⟨g5, 1, none⟩ (.int .i64 0)).setCell ⟨g5, 2, none⟩ (.slice Av 0 cv)) = wq at *
        have S6q := Aside0.mk (blk_below (blk_below S6.out HB5r.out) Hg5w.out)
        have z0 : wq.cell? ⟨g6, 0, none⟩ = some (.int .i64 0) := (blk_cell S6q.out 0).trans rfl
        have z1 : wq.cell? ⟨g6, 1, none⟩ = some (.int .i64 0) := (blk_cell S6q.out 1).trans rfl
        have z2 : wq.cell? ⟨g6, 2, none⟩ = some (.slice none 0 0) := (blk_cell S6q.out 2).trans rfl
        have f0 := blk_frozen S6q.out 0
        have f1 := blk_frozen S6q.out 1
        have f2 := blk_frozen S6q.out 2
        go_wp2_with fail
        refine bodyPost_ret (results_ctt rfl _ _ g6 28 #[.int .i64 0, .int .i64 0, .slice none 0 0] (0, 0) _ rfl (blk_set3 S6q.out _ _ _) Try.underlying28 rfl (by kernel_rfl)) rfl ?_
        exact ⟨none, 0, none, 0, rfl, Kd.V_nil _ _ _ _ _, Ns.nil _, below_set3 Hg5b.out HG6.out _ _ _⟩
      have h2 := HF.out
      unfold goT at h2
      rw [if_pos hm, if_neg hbig] at h2
      have HF2 := Aside0.mk h2
      have HU2 := Aside0.mk (stB_next HU.out hbig)
      have HN := Aside0.mk (show stepF l0 l1 u = (nextT l1 u, true, 0) from by rw [stepF_next HU.out hbig, decide_eq_true hm])
      clear h2 hm HF hlf hbig
      generalize nextT l1 u = y at *
      go_upto_region 6 with (first
        | (go_at_call 41
           (with_reducible refine (next_at HSr.out HTu.out HU.out _ _ _ HN.out).mono ?_)
           rintro e9 w5 ⟨Av, cv, rfl, hv, hb5⟩
           have HB5 := Aside0.mk (below_step HB.out hb5)
           have HB5r := Aside0.mk hb5
           have HTy := Aside0.mk hv
           clear hv hb5
           skip)
        | ((with_reducible refine gate_dst (N := 10) rfl ?_)
           refine box_event ?hg (N := 10) ?hd (cs := #[.int .i64 0, .int .i64 0, .slice none 0 0]) (t := 28) ?hr ?_
           (case hd => rfl)
           (case hg => rfl)
           (case hr => first | (go_simp; done) | (go_simp; rfl))
           intro g5 hg_g5 w6 hbox hbb
           have hgw_ := HB5.out.size
           have Hg5g := Aside0.mk (Nat.le_of_eq hg_g5.symm)
           have Hg5b := Aside0.mk (below_set3 (below_step HB5.out hbb) (show w.heap.size ≤ g5 from by omega) (.int .i64 y.f0) (.int .i64 y.f1) (.slice Av y.f2.length cv))
           have Hg5w := Aside0.mk (below_set3 hbb (Nat.le_of_eq hg_g5.symm) (.int .i64 y.f0) (.int .i64 y.f1) (.slice Av y.f2.length cv))
           have Hg5s := Aside0.mk (blk_set3 hbox (.int .i64 y.f0) (.int .i64 y.f1) (.slice Av y.f2.length cv))
           have hcz0 := (blk_cell hbox 0).trans rfl
           have hcz1 := (blk_cell hbox 1).trans rfl
           have hcz2 := (blk_cell hbox 2).trans rfl
           have hfz0 := blk_frozen hbox 0
           have hfz1 := blk_frozen hbox 1
           have hfz2 := blk_frozen hbox 2
           clear hgw_
           clear hbox hbb hg_g5))
      clear hcz0 hcz1 hcz2 hfz0 hfz1 hfz2 e0 e1 m0 m1 m2
      generalize (((w6.setCell ⟨g5, 0, none⟩ (.int .i64 y.f0)).setCell ⟨g5, 1, none⟩ (.int .i64 y.f1)).setCell ⟨g5, 2, none⟩ (.slice Av y.f2.length cv)) = wq at *
      have HBq := Aside0.mk (below_step HB5r.out Hg5w.out)
      have S3q := Aside0.mk (blk_below S3.out HBq.out)
      have S4q := Aside0.mk (blk_below S4.out HBq.out)
      have S6q := Aside0.mk (blk_below S6.out HBq.out)
      have HHq := Aside0.mk (Kd.R_below HH.out HBq.out)
      have HTyq := Aside0.mk (show Tm wq (fun k => k ≠ g4 ∧ some k ≠ (Value.slice Ah dn.length ch).ownBlock) y Av cv from (HTy.out.below Hg5w.out).mono (fun k hk => ⟨by have := HL4.out; have : wr.heap.size ≤ k := hk; omega, fun he => by have := Kd.R_lt HH.out k he.symm; have : wr.heap.size ≤ k := hk; omega⟩))
      have m0 : wq.cell? ⟨g4, 0, none⟩ = some (.int .i64 u.f0) := (blk_cell S4q.out 0).trans rfl
      have m1 : wq.cell? ⟨g4, 1, none⟩ = some (.int .i64 u.f1) := (blk_cell S4q.out 1).trans rfl
      have m2 : wq.cell? ⟨g4, 2, none⟩ = some (.slice Au u.f2.length cu) := (blk_cell S4q.out 2).trans rfl
      go_wp2_with (at_builtin; refine holdX ?_)
      unfold HoldX
      have hh := HHq.out
      refine Kd.R_append (Kd.int .i64) (w0 := w) w.heap.size rfl (.tmp 33) (.tmp 36) 40 3 (.int .i64 0) 8 rfl Try.underlying40 info3 rfl (by decide) (by omega) (.slice Ah dn.length ch) dn u.f1 [.int .i64 u.f1] (fun _ => True) (fun _ => False) rfl rfl rfl (fun _ hk => hk.elim) (fun _ _ => trivial) hh Hg5b.out Hg5b.out.size (by omega) ?_
      intro v2 w9 hrf hb9 hg9 hat9
      obtain ⟨A5, c5, e5⟩ := Kd.R_slice hrf
      have hdl : (dn ++ [u.f1]).length = dn.length + 1 := by rw [List.length_append]; rfl
      subst e5
      have tf := Kd.R_typed hh
      have S39 := Aside0.mk (grownT S3q.out hg9 (fun k hk => by obtain ⟨c, hc⟩ := tf k hk; exact ⟨3, c, by decide, hc⟩))
      have S49 := Aside0.mk (grownT S4q.out hg9 (fun k hk => by obtain ⟨c, hc⟩ := tf k hk; exact ⟨3, c, by decide, hc⟩))
      have S69 := Aside0.mk (grownT S6q.out hg9 (fun k hk => by obtain ⟨c, hc⟩ := tf k hk; exact ⟨3, c, by decide, hc⟩))
      have S59 := Aside0.mk (grownT Hg5s.out hg9 (fun k hk => by obtain ⟨c, hc⟩ := tf k hk; exact ⟨3, c, by decide, hc⟩))
      have HTy9 := Aside0.mk (show Tm w9 (fun k => k ≠ g4 ∧ some k ≠ (Value.slice A5 (dn ++ [u.f1]).length c5).ownBlock) y Av cv from Kd.V_after HTyq.out hg9 hat9)
      have HH9 := Aside0.mk hrf
      have HB9 := Aside0.mk hb9
      clear hh hrf hb9 hg9 hat9 tf HHq HTyq S3q S4q S6q m0 m1 m2 HBq
      have y0 : w9.cell? ⟨g5, 0, none⟩ = some (.int .i64 y.f0) := (blk_cell S59.out 0).trans rfl
      have y1 : w9.cell? ⟨g5, 1, none⟩ = some (.int .i64 y.f1) := (blk_cell S59.out 1).trans rfl
      have y2 : w9.cell? ⟨g5, 2, none⟩ = some (.slice Av y.f2.length cv) := (blk_cell S59.out 2).trans rfl
      have z0 : w9.cell? ⟨g4, 0, none⟩ = some (.int .i64 u.f0) := (blk_cell S49.out 0).trans rfl
      have z1 : w9.cell? ⟨g4, 1, none⟩ = some (.int .i64 u.f1) := (blk_cell S49.out 1).trans rfl
      have z2 : w9.cell? ⟨g4, 2, none⟩ = some (.slice Au u.f2.length cu) := (blk_cell S49.out 2).trans rfl
      have f0 := blk_frozen S49.out 0
      have f1 := blk_frozen S49.out 1
      have f2 := blk_frozen S49.out 2
      go_wp2_with fail
      have sA := blk_put (cs' := #[.int .i64 y.f0, .int .i64 u.f1, .slice Au u.f2.length cu]) S49.out 0 (.int .i64 y.f0) rfl
      have sB := blk_put (cs' := #[.int .i64 y.f0, .int .i64 y.f1, .slice Au u.f2.length cu]) sA 1 (.int .i64 y.f1) rfl
      go_roundg j
      case measure => omega
      case rel => exact ⟨y, Av, cv, dn ++ [u.f1], A5, c5, by first | rfl | rw [hdl], ⟨by have := HL.out; rw [hdl]; omega⟩, HU2, HF2, ⟨Tm.far3 HTy9.out (fun k hk => hk.1) _ _ _⟩, ⟨Kd.R_set (Kd.R_set (Kd.R_set HH9.out S49.out (by decide) 0 _) sA (by decide) 1 _) sB (by decide) 2 _⟩, ⟨blk_far3 S39.out (fun he => HN34.out he) _ _ _⟩, ⟨blk_set3 S49.out _ _ _⟩, ⟨blk_far3 S69.out (fun he => HN46.out he.symm) _ _ _⟩, ⟨below_set3 HB9.out HG4.out _ _ _⟩⟩
end Go.Proofs.Ytnfgpepggehegaa.I
namespace Go.Proofs.Ytnfgpepggehegaa.I
open Go.RowKit Go.Proofs.YtnfgpepggehegaaW.PrintWords Go.Proofs.YtnfgpepggehegaaW.PrintLast Go.Proofs.YtnfgpepggehegaaW.PrintMore
attribute [local go_sem] max2_int min2_int max_two min_two max_three min_three max_four min_four
set_option linter.unusedVariables false
set_option maxRecDepth 100000
set_option linter.unusedSimpArgs false
theorem chkF_zero {l0 : List S87} {l1 : List S84} {t : S28} {fuel : Int} (h : chkF l0 l1 t fuel = 0) : stB l0 l1 t = 0 ∧ 0 ≤ fuel ∧ fuel ≤ 1048576 := by
  unfold chkF at h
  split at h
  · rename_i h0
    split at h
    · cases h
    · exact ⟨h0, by omega, by omega⟩
  · rename_i h0
    exact absurd h h0
theorem runF_err {l0 : List S87} {l1 : List S84} {t : S28} {fuel : Int} (h : chkF l0 l1 t fuel ≠ 0) : runF l0 l1 t fuel = (⟨0, 0, []⟩, 0, chkF l0 l1 t fuel) := by
  unfold chkF at h ⊢
  unfold runF
  split
  · rename_i h0
    rw [if_pos h0] at h
    split
    · rfl
    · rename_i h1
      rw [if_neg h1] at h
      exact absurd rfl h
  · rfl
theorem runF_go {l0 : List S87} {l1 : List S84} {t : S28} {fuel : Int} (h : chkF l0 l1 t fuel = 0) {X : S28} {L : List Int} {er : Int} (hg : goT l1 fuel.toNat t [] = (X, L, er)) : runF l0 l1 t fuel = if er = 0 then (X, (L.length : Int), 0) else (⟨0, 0, []⟩, 0, er) := by
  obtain ⟨h0, h1, h2⟩ := chkF_zero h
  obtain ⟨g1, g2⟩ := goT_run l1 fuel.toNat t []
  rw [hg] at g1 g2
  have g1 : er = (runT l1 fuel.toNat t 0).2.2 := g1
  unfold runF runG
  rw [if_pos h0, if_neg (by omega), ← g1]
  by_cases he : er = 0
  · rw [if_pos he, if_pos he]
    obtain ⟨g3, g4⟩ := g2 he
    have g3 : X = (runT l1 fuel.toNat t 0).1 := g3
    have g4 : (L.length : Int) = (runT l1 fuel.toNat t 0).2.1 := g4
    generalize runT l1 fuel.toNat t 0 = Q at *
    obtain ⟨a, b, c⟩ := Q
    have g3 : X = a := g3
    have g4 : (L.length : Int) = b := g4
    have g1 : er = c := g1
    show (a, b, c) = _
    rw [g3, g4, ← g1, he]
  · rw [if_neg he, if_neg he]
theorem runF_small {l0 : List S87} {l1 : List S84} {t X : S28} {fuel n e : Int} (h : runF l0 l1 t fuel = (X, n, e)) : tcnt X ≤ 100000 := by
  have hz : tcnt (⟨0, 0, []⟩ : S28) ≤ 100000 := by decide
  unfold runF at h
  split at h
  · rename_i h0
    split at h
    · injection h with h _; rw [← h]; exact hz
    · unfold runG at h
      split at h
      · rename_i h1
        have := runT_small l1 fuel.toNat t 0 (stB_zero h0).2.1 h1
        rw [h] at this
        exact this
      · injection h with h _; rw [← h]; exact hz
  · injection h with h _; rw [← h]; exact hz
set_option maxHeartbeats 16000000 in
theorem refrun_at {w : World} {A0 : Option Addr} {c0 : Nat} {l0 : List S87} {A1 : Option Addr} {c1 : Nat} {l1 : List S84} {ok : Nat → Prop} {x : S28} {A : Option Addr} {c : Nat} (hs : Sch w A0 c0 l0 A1 c1 l1) (ht : Tm w ok x A c) (fuel : Int) (y : S28) (n z : Int) (hz : runF l0 l1 x fuel = (y, n, z)) :
    Calls Try.prog 18 #[.agg #[.slice A0 l0.length c0, .slice A1 l1.length c1], .agg #[.int .i64 x.f0, .int .i64 x.f1, .slice A x.f2.length c], .int .i64 fuel] w fun e w' => ∃ Av cv, e = .returned (.tuple #[.agg #[.int .i64 y.f0, .int .i64 y.f1, .slice Av y.f2.length cv], .int .i64 n, .int .i64 z]) ∧ Tm w' (fun k => w.heap.size ≤ k) y Av cv ∧ Below w.heap.size w w' := by
  have hu25 := Try.underlying25
  have hu28 := Try.underlying28
  have HS := Aside0.mk hs
  have HT := Aside0.mk ht
  have HZ := Aside0.mk hz
  clear hs ht hz
  obtain ⟨er, her⟩ : ∃ er, chkF l0 l1 x fuel = er := ⟨_, rfl⟩
  have HER := Aside0.mk her
  clear her
  go_enter Try.func18, Try.ntmps18
  go_upto_region 1 with (first
    | ((with_reducible refine gate_dst (N := 3) rfl ?_)
       refine box_event ?hg (N := 3) ?hd (cs := #[.slice A0 l0.length c0, .slice A1 l1.length c1]) (t := 25) ?hr ?_
       (case hd => rfl)
       (case hg => rfl)
       (case hr => first | (go_simp; done) | (go_simp; rfl))
       intro g2 hg_g2 w2 hbox hbb
       have S22 := Aside0.mk hbox
       have HB2 := Aside0.mk hbb
       clear hbox hbb hg_g2)
    | ((with_reducible refine gate_dst (N := 4) rfl ?_)
       refine box_event ?hg (N := 4) ?hd (cs := #[.int .i64 x.f0, .int .i64 x.f1, .slice A x.f2.length c]) (t := 28) ?hr ?_
       (case hd => rfl)
       (case hg => rfl)
       (case hr => first | (go_simp; done) | (go_simp; rfl))
       intro g3 hg_g3 w3 hbox hbb
       have S23 := Aside0.mk (blk_below S22.out hbb)
       have S33 := Aside0.mk hbox
       have HB3 := Aside0.mk (below_step HB2.out hbb)
       clear S22 HB2
       clear hbox hbb hg_g3)
    | ((with_reducible refine gate_dst (N := 6) rfl ?_)
       refine box_event ?hg (N := 6) ?hd (cs := #[.int .i64 0, .int .i64 0, .slice none 0 0]) (t := 28) ?hr ?_
       (case hd => rfl)
       (case hg => rfl)
       (case hr => first | (go_simp; done) | (go_simp; rfl))
       intro g4 hg_g4 w4 hbox hbb
       have S2 := Aside0.mk (blk_below S23.out hbb)
       have S3 := Aside0.mk (blk_below S33.out hbb)
       have S4 := Aside0.mk hbox
       have HB4 := Aside0.mk (below_step HB3.out hbb)
       have HG4 := Aside0.mk (show w.heap.size ≤ g4 from by have := HB3.out.size; omega)
       clear S23 S33 HB3
       clear hbox hbb hg_g4))
  have e0 : w4.cell? ⟨g2, 0, none⟩ = some (.slice A0 l0.length c0) := (blk_cell S2.out 0).trans rfl
  have e1 : w4.cell? ⟨g2, 1, none⟩ = some (.slice A1 l1.length c1) := (blk_cell S2.out 1).trans rfl
  have m0 : w4.cell? ⟨g3, 0, none⟩ = some (.int .i64 x.f0) := (blk_cell S3.out 0).trans rfl
  have m1 : w4.cell? ⟨g3, 1, none⟩ = some (.int .i64 x.f1) := (blk_cell S3.out 1).trans rfl
  have m2 : w4.cell? ⟨g3, 2, none⟩ = some (.slice A x.f2.length c) := (blk_cell S3.out 2).trans rfl
  go_upto_region 2 with (
    go_at_call 44
    (with_reducible refine (checked_at (HS.out.below HB4.out) (HT.out.below HB4.out) fuel er HER.out).mono ?_)
    rintro e9 w5 ⟨rfl, hb5⟩
    have S25 := Aside0.mk (blk_below S2.out hb5)
    have S35 := Aside0.mk (blk_below S3.out hb5)
    have S45 := Aside0.mk (blk_below S4.out hb5)
    have HB5 := Aside0.mk (below_step HB4.out hb5)
    clear hb5
    skip)
  clear e0 e1 m0 m1 m2 S2 S3 S4
  by_cases hr : er = 0
  rotate_left
  · have hf := HZ.out
    rw [runF_err (by rw [HER.out]; exact hr), HER.out] at hf
    injection hf with h1 h2
    injection h2 with h2 h3
    subst h1 h2 h3
    have q1 : (er != 0) = true := bne_iff_ne.2 hr
    have q2 : (er == 0) = false := beq_eq_false_iff_ne.2 hr
    clear hr HZ
    have z0 : w5.cell? ⟨g4, 0, none⟩ = some (.int .i64 0) := (blk_cell S45.out 0).trans rfl
    have z1 : w5.cell? ⟨g4, 1, none⟩ = some (.int .i64 0) := (blk_cell S45.out 1).trans rfl
    have z2 : w5.cell? ⟨g4, 2, none⟩ = some (.slice none 0 0) := (blk_cell S45.out 2).trans rfl
    have f0 := blk_frozen S45.out 0
    have f1 := blk_frozen S45.out 1
    have f2 := blk_frozen S45.out 2
    go_wp2_with fail
    refine bodyPost_ret (results_ctt rfl _ _ g4 28 #[.int .i64 0, .int .i64 0, .slice none 0 0] (0, 0) _ rfl (blk_set3 S45.out _ _ _) Try.underlying28 rfl (by kernel_rfl)) rfl ?_
    exact ⟨none, 0, rfl, Kd.V_nil _ _ _ _ _, below_set3 HB5.out HG4.out _ _ _⟩
  subst hr
  obtain ⟨h0, h1, h2⟩ := chkF_zero HER.out
  obtain ⟨⟨X, L, eg⟩, hG⟩ : ∃ F, goT l1 fuel.toNat x [] = F := ⟨_, rfl⟩
  have hf := HZ.out
  rw [runF_go HER.out hG] at hf
  have HGO := Aside0.mk (fun (w' : World) (hb : Below w.heap.size w w') => go_at (HS.out.below hb) (HT.out.below hb) h0 fuel h1 h2 X L eg hG)
  clear h0 h1 h2 hG HZ
  have e0 : w5.cell? ⟨g2, 0, none⟩ = some (.slice A0 l0.length c0) := (blk_cell S25.out 0).trans rfl
  have e1 : w5.cell? ⟨g2, 1, none⟩ = some (.slice A1 l1.length c1) := (blk_cell S25.out 1).trans rfl
  have m0 : w5.cell? ⟨g3, 0, none⟩ = some (.int .i64 x.f0) := (blk_cell S35.out 0).trans rfl
  have m1 : w5.cell? ⟨g3, 1, none⟩ = some (.int .i64 x.f1) := (blk_cell S35.out 1).trans rfl
  have m2 : w5.cell? ⟨g3, 2, none⟩ = some (.slice A x.f2.length c) := (blk_cell S35.out 2).trans rfl
  go_upto_region 5 with (first
    | (go_at_call 45
       (with_reducible refine (HGO.out w5 HB5.out).mono ?_)
       rintro e9 w6 ⟨Av, cv, Al, cl, rfl, hT, hL, hb6⟩
       have HB6 := Aside0.mk (below_step HB5.out hb6)
       have HB6r := Aside0.mk hb6
       have HTv := Aside0.mk hT
       have S46 := Aside0.mk (blk_below S45.out hb6)
       clear hT hL hb6
       skip)
    | ((with_reducible refine gate_dst (N := 10) rfl ?_)
       refine box_event ?hg (N := 10) ?hd (cs := #[.int .i64 0, .int .i64 0, .slice none 0 0]) (t := 28) ?hr ?_
       (case hd => rfl)
       (case hg => rfl)
       (case hr => first | (go_simp; done) | (go_simp; rfl))
       intro g5 hg_g5 w7 hbox hbb
       have hgw_ := HB6.out.size
       have Hg5g := Aside0.mk (Nat.le_of_eq hg_g5.symm)
       have Hg5b := Aside0.mk (below_set3 (below_step HB6.out hbb) (show w.heap.size ≤ g5 from by omega) (.int .i64 X.f0) (.int .i64 X.f1) (.slice Av X.f2.length cv))
       have Hg5w := Aside0.mk (below_set3 hbb (Nat.le_of_eq hg_g5.symm) (.int .i64 X.f0) (.int .i64 X.f1) (.slice Av X.f2.length cv))
       have Hg5s := Aside0.mk (blk_set3 hbox (.int .i64 X.f0) (.int .i64 X.f1) (.slice Av X.f2.length cv))
       have hcz0 := (blk_cell hbox 0).trans rfl
       have hcz1 := (blk_cell hbox 1).trans rfl
       have hcz2 := (blk_cell hbox 2).trans rfl
       have hfz0 := blk_frozen hbox 0
       have hfz1 := blk_frozen hbox 1
       have hfz2 := blk_frozen hbox 2
       clear hgw_
       clear hbox hbb hg_g5))
  clear hcz0 hcz1 hcz2 hfz0 hfz1 hfz2 e0 e1 m0 m1 m2
  generalize (((w7.setCell ⟨g5, 0, none⟩ (.int .i64 X.f0)).setCell ⟨g5, 1, none⟩ (.int .i64 X.f1)).setCell ⟨g5, 2, none⟩ (.slice Av X.f2.length cv)) = wq at *
  have S4q := Aside0.mk (blk_below S46.out Hg5w.out)
  have HTq := Aside0.mk (HTv.out.below Hg5w.out)
  have HL4 := Aside0.mk (blk_lt S45.out)
  have z0 : wq.cell? ⟨g4, 0, none⟩ = some (.int .i64 0) := (blk_cell S4q.out 0).trans rfl
  have z1 : wq.cell? ⟨g4, 1, none⟩ = some (.int .i64 0) := (blk_cell S4q.out 1).trans rfl
  have z2 : wq.cell? ⟨g4, 2, none⟩ = some (.slice none 0 0) := (blk_cell S4q.out 2).trans rfl
  have f0 := blk_frozen S4q.out 0
  have f1 := blk_frozen S4q.out 1
  have f2 := blk_frozen S4q.out 2
  by_cases he : eg = 0
  rotate_left
  · rw [if_neg he] at hf
    injection hf with h1 h2
    injection h2 with h2 h3
    subst h1 h2 h3
    have q1 : (eg != 0) = true := bne_iff_ne.2 he
    have q2 : (eg == 0) = false := beq_eq_false_iff_ne.2 he
    clear he
    go_wp2_with fail
    refine bodyPost_ret (results_ctt rfl _ _ g4 28 #[.int .i64 0, .int .i64 0, .slice none 0 0] (0, 0) _ rfl (blk_set3 S4q.out _ _ _) Try.underlying28 rfl (by kernel_rfl)) rfl ?_
    exact ⟨none, 0, rfl, Kd.V_nil _ _ _ _ _, below_set3 Hg5b.out HG4.out _ _ _⟩
  rw [if_pos he] at hf
  subst he
  injection hf with h1 h2
  injection h2 with h2 h3
  subst h1 h2 h3
  have y0 : wq.cell? ⟨g5, 0, none⟩ = some (.int .i64 X.f0) := (blk_cell Hg5s.out 0).trans rfl
  have y1 : wq.cell? ⟨g5, 1, none⟩ = some (.int .i64 X.f1) := (blk_cell Hg5s.out 1).trans rfl
  have y2 : wq.cell? ⟨g5, 2, none⟩ = some (.slice Av X.f2.length cv) := (blk_cell Hg5s.out 2).trans rfl
  go_wp2_with fail
  refine bodyPost_ret (results_ctt rfl _ _ g4 28 #[.int .i64 X.f0, .int .i64 X.f1, .slice Av X.f2.length cv] (0, 0) _ rfl (blk_set3 S4q.out _ _ _) Try.underlying28 rfl (by kernel_rfl)) rfl ?_
  exact ⟨Av, cv, rfl, Tm.mono (Tm.far3 HTq.out (fun k hk => by have := HL4.out; have : w5.heap.size ≤ k := hk; omega) _ _ _) (fun k hk => by have := HB5.out.size; have : w5.heap.size ≤ k := hk; omega), below_set3 Hg5b.out HG4.out _ _ _⟩
set_option maxHeartbeats 16000000 in
theorem lawrun_calls (A0 : Option Addr) (c0 : Nat) (l0 : List S87) (A1 : Option Addr) (c1 : Nat) (l1 : List S84) (t : S28) (A3 : Option Addr) (c3 : Nat) (fuel : Int) (w : World) (hr0 : Kd.C k87 w A0 l0.length l0) (hc0 : l0.length ≤ c0) (hr1 : Kd.C k84 w A1 l1.length l1) (hc1 : l1.length ≤ c1) (hr3 : Kd.C k28 w A3 t.f2.length t.f2) (hc3 : t.f2.length ≤ c3) :
    Calls Try.prog 5 #[.agg #[.slice A0 l0.length c0, .slice A1 l1.length c1], .agg #[.int .i64 t.f0, .int .i64 t.f1, .slice A3 t.f2.length c3], .int .i64 fuel] w fun e w' => e = .returned (.bool true) ∧ Below w.heap.size w w' := by
  have hu25 := Try.underlying25
  have hu28 := Try.underlying28
  have HS := Aside0.mk (show Sch w A0 c0 l0 A1 c1 l1 from ⟨hr0, hc0, hr1, hc1⟩)
  have HT := Aside0.mk (Tm.of hr3 hc3)
  clear hr0 hc0 hr1 hc1 hr3 hc3
  obtain ⟨⟨y, n, z⟩, hF⟩ : ∃ F, runF l0 l1 t fuel = F := ⟨_, rfl⟩
  have HF := Aside0.mk hF
  have HY := Aside0.mk (runF_small hF)
  clear hF
  go_enter Try.func5, Try.ntmps5
  go_upto_region 1 with (first
    | ((with_reducible refine gate_dst (N := 3) rfl ?_)
       refine box_event ?hg (N := 3) ?hd (cs := #[.slice A0 l0.length c0, .slice A1 l1.length c1]) (t := 25) ?hr ?_
       (case hd => rfl)
       (case hg => rfl)
       (case hr => first | (go_simp; done) | (go_simp; rfl))
       intro g2 hg_g2 w2 hbox hbb
       have S22 := Aside0.mk hbox
       have HB2 := Aside0.mk hbb
       clear hbox hbb hg_g2)
    | ((with_reducible refine gate_dst (N := 4) rfl ?_)
       refine box_event ?hg (N := 4) ?hd (cs := #[.int .i64 t.f0, .int .i64 t.f1, .slice A3 t.f2.length c3]) (t := 28) ?hr ?_
       (case hd => rfl)
       (case hg => rfl)
       (case hr => first | (go_simp; done) | (go_simp; rfl))
       intro g3 hg_g3 w3 hbox hbb
       have S2 := Aside0.mk (blk_below S22.out hbb)
       have HB3 := Aside0.mk (below_step HB2.out hbb)
       have S3 := Aside0.mk hbox
       clear S22 HB2
       clear hbox hbb hg_g3))
  by_cases h300 : 300 < fuel ∧ fuel ≤ 1048576
  · have q1 : (300 < fuel) = True := eq_true h300.1
    have q2 : (fuel ≤ 1048576) = True := eq_true h300.2
    go_upto_region 2 with fail
    go_wp2_with fail
    (with_reducible refine (alive_calls _).mono ?_)
    rintro e9 wZ ⟨rfl, hbZ⟩
    have HZ := Aside0.mk (below_step HB3.out hbZ)
    clear hbZ
    go_wp2_with fail
    go_ret
    exact ⟨rfl, HZ.out⟩
  by_cases h3 : 300 < fuel
  · have q1 : (300 < fuel) = True := eq_true h3
    have q2 : (fuel ≤ 1048576) = False := eq_false (by omega)
    clear h300 h3
    go_upto_region 3 with fail
    have e0 : w3.cell? ⟨g2, 0, none⟩ = some (.slice A0 l0.length c0) := (blk_cell S2.out 0).trans rfl
    have e1 : w3.cell? ⟨g2, 1, none⟩ = some (.slice A1 l1.length c1) := (blk_cell S2.out 1).trans rfl
    have m0 : w3.cell? ⟨g3, 0, none⟩ = some (.int .i64 t.f0) := (blk_cell S3.out 0).trans rfl
    have m1 : w3.cell? ⟨g3, 1, none⟩ = some (.int .i64 t.f1) := (blk_cell S3.out 1).trans rfl
    have m2 : w3.cell? ⟨g3, 2, none⟩ = some (.slice A3 t.f2.length c3) := (blk_cell S3.out 2).trans rfl
    go_upto_region 5 with (first
      | (go_at_call 17
         (with_reducible refine (run_at (HS.out.below HB3.out) (HT.out.below HB3.out) fuel y n z HF.out).mono ?_)
         rintro e9 w4 ⟨Ax, cx, rfl, hv, hb4⟩
         have HB4 := Aside0.mk (below_step HB3.out hb4)
         have S24 := Aside0.mk (blk_below S2.out hb4)
         have S34 := Aside0.mk (blk_below S3.out hb4)
         have HX := Aside0.mk hv
         clear hv hb4 e0 e1 m0 m1 m2 S2 S3
         skip)
      | ((with_reducible refine gate_dst (N := 7) rfl ?_)
         refine box_event ?hg (N := 7) ?hd (cs := #[.int .i64 0, .int .i64 0, .slice none 0 0]) (t := 28) ?hr ?_
         (case hd => rfl)
         (case hg => rfl)
         (case hr => first | (go_simp; done) | (go_simp; rfl))
         intro g5 hg_g5 w5 hbox hbb
         have hgw_ := HB4.out.size
         have Hg5g := Aside0.mk (Nat.le_of_eq hg_g5.symm)
         have Hg5b := Aside0.mk (below_set3 (below_step HB4.out hbb) (show w.heap.size ≤ g5 from by omega) (.int .i64 y.f0) (.int .i64 y.f1) (.slice Ax y.f2.length cx))
         have Hg5w := Aside0.mk (below_set3 hbb (Nat.le_of_eq hg_g5.symm) (.int .i64 y.f0) (.int .i64 y.f1) (.slice Ax y.f2.length cx))
         have Hg5s := Aside0.mk (blk_set3 hbox (.int .i64 y.f0) (.int .i64 y.f1) (.slice Ax y.f2.length cx))
         have hcz0 := (blk_cell hbox 0).trans rfl
         have hcz1 := (blk_cell hbox 1).trans rfl
         have hcz2 := (blk_cell hbox 2).trans rfl
         have hfz0 := blk_frozen hbox 0
         have hfz1 := blk_frozen hbox 1
         have hfz2 := blk_frozen hbox 2
         clear hgw_
         have S25 := Aside0.mk (blk_below S24.out Hg5w.out)
         have S35 := Aside0.mk (blk_below S34.out Hg5w.out)
         have HX5 := Aside0.mk (HX.out.below Hg5w.out)
         have e0 := (blk_cell S25.out 0).trans rfl
         have e1 := (blk_cell S25.out 1).trans rfl
         have m0 := (blk_cell S35.out 0).trans rfl
         have m1 := (blk_cell S35.out 1).trans rfl
         have m2 := (blk_cell S35.out 2).trans rfl
         clear S24 S34 HX
         clear hbox hbb hg_g5)
      | (go_at_call 18
         (with_reducible refine (refrun_at (HS.out.below Hg5b.out) (HT.out.below Hg5b.out) fuel y n z HF.out).mono ?_)
         rintro e9 w6 ⟨Ay, cy, rfl, hv, hb6⟩
         have HB6 := Aside0.mk (below_step Hg5b.out hb6)
         have S56 := Aside0.mk (blk_below Hg5s.out hb6)
         have HX6 := Aside0.mk (HX5.out.below hb6)
         have HY6 := Aside0.mk hv
         clear hv hb6 e0 e1 m0 m1 m2 HX5 hcz0 hcz1 hcz2 hfz0 hfz1 hfz2
         skip)
      | ((with_reducible refine gate_dst (N := 10) rfl ?_)
         refine box_event ?hg (N := 10) ?hd (cs := #[.int .i64 0, .int .i64 0, .slice none 0 0]) (t := 28) ?hr ?_
         (case hd => rfl)
         (case hg => rfl)
         (case hr => first | (go_simp; done) | (go_simp; rfl))
         intro g8 hg_g8 w7 hbox hbb
         have hgw_ := HB6.out.size
         have Hg8g := Aside0.mk (Nat.le_of_eq hg_g8.symm)
         have Hg8b := Aside0.mk (below_set3 (below_step HB6.out hbb) (show w.heap.size ≤ g8 from by omega) (.int .i64 y.f0) (.int .i64 y.f1) (.slice Ay y.f2.length cy))
         have Hg8w := Aside0.mk (below_set3 hbb (Nat.le_of_eq hg_g8.symm) (.int .i64 y.f0) (.int .i64 y.f1) (.slice Ay y.f2.length cy))
         have Hg8s := Aside0.mk (blk_set3 hbox (.int .i64 y.f0) (.int .i64 y.f1) (.slice Ay y.f2.length cy))
         have hcz0 := (blk_cell hbox 0).trans rfl
         have hcz1 := (blk_cell hbox 1).trans rfl
         have hcz2 := (blk_cell hbox 2).trans rfl
         have hfz0 := blk_frozen hbox 0
         have hfz1 := blk_frozen hbox 1
         have hfz2 := blk_frozen hbox 2
         clear hgw_
         clear hbox hbb hg_g8))
    clear hcz0 hcz1 hcz2 hfz0 hfz1 hfz2
    generalize (((w7.setCell ⟨g8, 0, none⟩ (.int .i64 y.f0)).setCell ⟨g8, 1, none⟩ (.int .i64 y.f1)).setCell ⟨g8, 2, none⟩ (.slice Ay y.f2.length cy)) = wq at *
    have S5q := Aside0.mk (blk_below S56.out Hg8w.out)
    have HXq := Aside0.mk (HX6.out.below Hg8w.out)
    have HYq := Aside0.mk (HY6.out.below Hg8w.out)
    have x0 : wq.cell? ⟨g5, 0, none⟩ = some (.int .i64 y.f0) := (blk_cell S5q.out 0).trans rfl
    have x1 : wq.cell? ⟨g5, 1, none⟩ = some (.int .i64 y.f1) := (blk_cell S5q.out 1).trans rfl
    have x2 : wq.cell? ⟨g5, 2, none⟩ = some (.slice Ax y.f2.length cx) := (blk_cell S5q.out 2).trans rfl
    have y0 : wq.cell? ⟨g8, 0, none⟩ = some (.int .i64 y.f0) := (blk_cell Hg8s.out 0).trans rfl
    have y1 : wq.cell? ⟨g8, 1, none⟩ = some (.int .i64 y.f1) := (blk_cell Hg8s.out 1).trans rfl
    have y2 : wq.cell? ⟨g8, 2, none⟩ = some (.slice Ay y.f2.length cy) := (blk_cell Hg8s.out 2).trans rfl
    go_wp2_with (first
      | (go_at_call 16
         (with_reducible refine (same_at HXq.out HYq.out HY.out).mono ?_)
         rintro e9 w8 ⟨rfl, hb8⟩
         have HB8 := Aside0.mk (below_step Hg8b.out hb8)
         clear hb8
         skip)
      | (at_builtin; fail))
    (with_reducible refine (alive_calls _).mono ?_)
    rintro e9 wZ ⟨rfl, hbZ⟩
    have HZ := Aside0.mk (below_step HB8.out hbZ)
    clear hbZ
    go_wp2_with fail
    go_ret
    exact ⟨rfl, HZ.out⟩
  · have q1 : (300 < fuel) = False := eq_false h3
    clear h300 h3
    go_upto_region 3 with fail
    have e0 : w3.cell? ⟨g2, 0, none⟩ = some (.slice A0 l0.length c0) := (blk_cell S2.out 0).trans rfl
    have e1 : w3.cell? ⟨g2, 1, none⟩ = some (.slice A1 l1.length c1) := (blk_cell S2.out 1).trans rfl
    have m0 : w3.cell? ⟨g3, 0, none⟩ = some (.int .i64 t.f0) := (blk_cell S3.out 0).trans rfl
    have m1 : w3.cell? ⟨g3, 1, none⟩ = some (.int .i64 t.f1) := (blk_cell S3.out 1).trans rfl
    have m2 : w3.cell? ⟨g3, 2, none⟩ = some (.slice A3 t.f2.length c3) := (blk_cell S3.out 2).trans rfl
    go_upto_region 5 with (first
      | (go_at_call 17
         (with_reducible refine (run_at (HS.out.below HB3.out) (HT.out.below HB3.out) fuel y n z HF.out).mono ?_)
         rintro e9 w4 ⟨Ax, cx, rfl, hv, hb4⟩
         have HB4 := Aside0.mk (below_step HB3.out hb4)
         have S24 := Aside0.mk (blk_below S2.out hb4)
         have S34 := Aside0.mk (blk_below S3.out hb4)
         have HX := Aside0.mk hv
         clear hv hb4 e0 e1 m0 m1 m2 S2 S3
         skip)
      | ((with_reducible refine gate_dst (N := 7) rfl ?_)
         refine box_event ?hg (N := 7) ?hd (cs := #[.int .i64 0, .int .i64 0, .slice none 0 0]) (t := 28) ?hr ?_
         (case hd => rfl)
         (case hg => rfl)
         (case hr => first | (go_simp; done) | (go_simp; rfl))
         intro g5 hg_g5 w5 hbox hbb
         have hgw_ := HB4.out.size
         have Hg5g := Aside0.mk (Nat.le_of_eq hg_g5.symm)
         have Hg5b := Aside0.mk (below_set3 (below_step HB4.out hbb) (show w.heap.size ≤ g5 from by omega) (.int .i64 y.f0) (.int .i64 y.f1) (.slice Ax y.f2.length cx))
         have Hg5w := Aside0.mk (below_set3 hbb (Nat.le_of_eq hg_g5.symm) (.int .i64 y.f0) (.int .i64 y.f1) (.slice Ax y.f2.length cx))
         have Hg5s := Aside0.mk (blk_set3 hbox (.int .i64 y.f0) (.int .i64 y.f1) (.slice Ax y.f2.length cx))
         have hcz0 := (blk_cell hbox 0).trans rfl
         have hcz1 := (blk_cell hbox 1).trans rfl
         have hcz2 := (blk_cell hbox 2).trans rfl
         have hfz0 := blk_frozen hbox 0
         have hfz1 := blk_frozen hbox 1
         have hfz2 := blk_frozen hbox 2
         clear hgw_
         have S25 := Aside0.mk (blk_below S24.out Hg5w.out)
         have S35 := Aside0.mk (blk_below S34.out Hg5w.out)
         have HX5 := Aside0.mk (HX.out.below Hg5w.out)
         have e0 := (blk_cell S25.out 0).trans rfl
         have e1 := (blk_cell S25.out 1).trans rfl
         have m0 := (blk_cell S35.out 0).trans rfl
         have m1 := (blk_cell S35.out 1).trans rfl
         have m2 := (blk_cell S35.out 2).trans rfl
         clear S24 S34 HX
         clear hbox hbb hg_g5)
      | (go_at_call 18
         (with_reducible refine (refrun_at (HS.out.below Hg5b.out) (HT.out.below Hg5b.out) fuel y n z HF.out).mono ?_)
         rintro e9 w6 ⟨Ay, cy, rfl, hv, hb6⟩
         have HB6 := Aside0.mk (below_step Hg5b.out hb6)
         have S56 := Aside0.mk (blk_below Hg5s.out hb6)
         have HX6 := Aside0.mk (HX5.out.below hb6)
         have HY6 := Aside0.mk hv
         clear hv hb6 e0 e1 m0 m1 m2 HX5 hcz0 hcz1 hcz2 hfz0 hfz1 hfz2
         skip)
      | ((with_reducible refine gate_dst (N := 10) rfl ?_)
         refine box_event ?hg (N := 10) ?hd (cs := #[.int .i64 0, .int .i64 0, .slice none 0 0]) (t := 28) ?hr ?_
         (case hd => rfl)
         (case hg => rfl)
         (case hr => first | (go_simp; done) | (go_simp; rfl))
         intro g8 hg_g8 w7 hbox hbb
         have hgw_ := HB6.out.size
         have Hg8g := Aside0.mk (Nat.le_of_eq hg_g8.symm)
         have Hg8b := Aside0.mk (below_set3 (below_step HB6.out hbb) (show w.heap.size ≤ g8 from by omega) (.int .i64 y.f0) (.int .i64 y.f1) (.slice Ay y.f2.length cy))
         have Hg8w := Aside0.mk (below_set3 hbb (Nat.le_of_eq hg_g8.symm) (.int .i64 y.f0) (.int .i64 y.f1) (.slice Ay y.f2.length cy))
         have Hg8s := Aside0.mk (blk_set3 hbox (.int .i64 y.f0) (.int .i64 y.f1) (.slice Ay y.f2.length cy))
         have hcz0 := (blk_cell hbox 0).trans rfl
         have hcz1 := (blk_cell hbox 1).trans rfl
         have hcz2 := (blk_cell hbox 2).trans rfl
         have hfz0 := blk_frozen hbox 0
         have hfz1 := blk_frozen hbox 1
         have hfz2 := blk_frozen hbox 2
         clear hgw_
         clear hbox hbb hg_g8))
    clear hcz0 hcz1 hcz2 hfz0 hfz1 hfz2
    generalize (((w7.setCell ⟨g8, 0, none⟩ (.int .i64 y.f0)).setCell ⟨g8, 1, none⟩ (.int .i64 y.f1)).setCell ⟨g8, 2, none⟩ (.slice Ay y.f2.length cy)) = wq at *
    have S5q := Aside0.mk (blk_below S56.out Hg8w.out)
    have HXq := Aside0.mk (HX6.out.below Hg8w.out)
    have HYq := Aside0.mk (HY6.out.below Hg8w.out)
    have x0 : wq.cell? ⟨g5, 0, none⟩ = some (.int .i64 y.f0) := (blk_cell S5q.out 0).trans rfl
    have x1 : wq.cell? ⟨g5, 1, none⟩ = some (.int .i64 y.f1) := (blk_cell S5q.out 1).trans rfl
    have x2 : wq.cell? ⟨g5, 2, none⟩ = some (.slice Ax y.f2.length cx) := (blk_cell S5q.out 2).trans rfl
    have y0 : wq.cell? ⟨g8, 0, none⟩ = some (.int .i64 y.f0) := (blk_cell Hg8s.out 0).trans rfl
    have y1 : wq.cell? ⟨g8, 1, none⟩ = some (.int .i64 y.f1) := (blk_cell Hg8s.out 1).trans rfl
    have y2 : wq.cell? ⟨g8, 2, none⟩ = some (.slice Ay y.f2.length cy) := (blk_cell Hg8s.out 2).trans rfl
    go_wp2_with (first
      | (go_at_call 16
         (with_reducible refine (same_at HXq.out HYq.out HY.out).mono ?_)
         rintro e9 w8 ⟨rfl, hb8⟩
         have HB8 := Aside0.mk (below_step Hg8b.out hb8)
         clear hb8
         skip)
      | (at_builtin; fail))
    (with_reducible refine (alive_calls _).mono ?_)
    rintro e9 wZ ⟨rfl, hbZ⟩
    have HZ := Aside0.mk (below_step HB8.out hbZ)
    clear hbZ
    go_wp2_with fail
    go_ret
    exact ⟨rfl, HZ.out⟩
end Go.Proofs.Ytnfgpepggehegaa.I
namespace Go.Proofs.Ytnfgpepggehegaa.I
open Go.RowKit Go.Proofs.YtnfgpepggehegaaW.PrintWords Go.Proofs.Ytnfgpepggehegaa.VOpen
set_option linter.unusedVariables false
def virgationlaw05_StepRun.f (k : Nat) (l0 : List S87) (l1 : List S84) (a b : Int) (l : List S28) (i0 : Int) : Option Bool := some true
theorem virgationlaw05_StepRun.calls (k : Nat) (A0 : Option Addr) (c0 : Nat) (l0 : List S87) (A1 : Option Addr) (c1 : Nat) (l1 : List S84) (a b : Int) (A3 : Option Addr) (c3 : Nat) (l : List S28) (i0 : Int) (r : Bool) (w : World) (hr0 : Kd.C k87 w A0 l0.length l0) (hc0 : l0.length ≤ c0) (hr1 : Kd.C k84 w A1 l1.length l1) (hc1 : l1.length ≤ c1) (hr3 : Kd.C k28 w A3 l.length l) (hc3 : l.length ≤ c3) (h : virgationlaw05_StepRun.f k l0 l1 a b l i0 = some r) :
    Calls Try.prog 5 #[.agg #[.slice A0 l0.length c0, .slice A1 l1.length c1], .agg #[.int .i64 a, .int .i64 b, .slice A3 l.length c3], .int .i64 i0] w fun e w' => e = .returned (.bool r) ∧ Below w.heap.size w w' := by
  injection h with h
  subst h
  exact lawrun_calls A0 c0 l0 A1 c1 l1 ⟨a, b, l⟩ A3 c3 i0 w hr0 hc0 hr1 hc1 hr3 hc3
theorem pure_StepRun : ∀ (x0 : S25) (x1 : S28) (x2 : Int), (wf25 x0) → (wf28 x1) → ((Lit.int .i64 x2).wf = true) → ∃ k, virgationlaw05_StepRun.f k x0.f0 x0.f1 x1.f0 x1.f1 x1.f2 x2 = some true := by
  intros
  exact ⟨0, rfl⟩
end Go.Proofs.Ytnfgpepggehegaa.I
