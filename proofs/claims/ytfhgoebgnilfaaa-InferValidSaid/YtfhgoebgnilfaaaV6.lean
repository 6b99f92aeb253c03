/- Texts of this session's proof, laid together: IS3, IX7, IX5, IS4, IX8, IX9. -/
import Derived.Deep.RegionHeld3
import Derived.Deep.RegionLaw
import Derived.Test.YtfhgoebgnilfaaaV5
namespace Go.Proofs.Ytfhgoebgnilfaaa.I
open Go.RowKit Go.Proofs.YtfhgoebgnilfaaaW.PrintWords Go.Proofs.YtfhgoebgnilfaaaW.PrintLast Go.Proofs.YtfhgoebgnilfaaaW.PrintMore
set_option linter.unusedVariables false
set_option maxRecDepth 100000
set_option linter.unusedSimpArgs false
theorem looseL_big : ∀ (l : List S48) (nf ns : Int) (L : List ByteArray), looseL l nf ns L = true → ∀ x ∈ l, big x.f2 = false
  | [], _, _, _, _, x, hx => by cases hx
  | y :: ys, nf, ns, L, h, x, hx => by
    unfold looseL at h
    by_cases hb : looseBad y nf ns L = true
    · rw [if_pos hb] at h; cases h
    · rw [if_neg hb] at h
      rcases List.mem_cons.1 hx with e | hx
      · rw [e]
        rw [loose_eq] at hb
        cases hg : big y.f2
        · rfl
        · rw [hg] at hb; simp at hb
      · exact looseL_big ys nf ns _ h x hx
theorem chk_big {syms : List S59} {l : List S48} (h : chkF syms l = some 0) : ∀ x ∈ l, tcntL x.f2.f2 ≤ 1000 := by
  have hb : ∀ x ∈ l, big x.f2 = false := by
    unfold chkF at h
    injection h with h
    split at h
    · cases h
    · split at h
      · cases h
      · split at h
        · rename_i h1 h2 h3
          exact looseL_big _ _ _ _ h3
        · cases h
  intro x hx
  have h1 := hb x hx
  unfold big at h1
  rw [Bool.or_eq_false_iff] at h1
  have h2 := of_decide_eq_false h1.1
  have h3 := tcnt_f2 x.f2
  omega
theorem copied_all : ∀ (l : List S48), (∀ x ∈ l, tcntL x.f2.f2 ≤ 1000) → ∃ K, ∀ k, K ≤ k → ∀ x ∈ l, infer_copied.f k x.f2.f0 x.f2.f1 x.f2.f2 = some (x.f2.f0, x.f2.f1, x.f2.f2)
  | [], _ => ⟨0, fun _ _ x hx => by cases hx⟩
  | y :: ys, h => by
    obtain ⟨K, hK⟩ := copied_all ys (fun x hx => h x (List.mem_cons_of_mem _ hx))
    obtain ⟨K2, hK2⟩ := infer_copied_ev _ y.f2.f0 y.f2.f1 y.f2.f2 (Nat.lt_succ_self _) (h y List.mem_cons_self)
    refine ⟨max K K2, fun k hk x hx => ?_⟩
    rcases List.mem_cons.1 hx with e | hx
    · rw [e]; exact hK2 k (by omega)
    · exact hK k (by omega) x hx
end Go.Proofs.Ytfhgoebgnilfaaa.I
namespace Go.Proofs.Ytfhgoebgnilfaaa.I
open Go.RowKit Go.Proofs.YtfhgoebgnilfaaaW.PrintWords Go.Proofs.YtfhgoebgnilfaaaW.PrintLast Go.Proofs.YtfhgoebgnilfaaaW.PrintMore
set_option linter.unusedVariables false
set_option maxRecDepth 100000
set_option linter.unusedSimpArgs false
theorem tnodes_wide (N : Nat) : ∀ (a b : Int) (l : List S44) (most : Int), SizeOf.sizeOf l < N → 0 ≤ most → most ≤ 900000 → Ev (fun k => virgationref02_Nodes.f k a b l most) (min (1 + tcntL l) (most + 1)) := by
  induction N with
  | zero => intro a b l most h; omega
  | succ N ih =>
  intro a b l most hN h0 h1
  have loop : ∀ (n i : Nat) (x5 : Int), l.length - i = n → i ≤ l.length → 1 ≤ x5 → x5 ≤ most + 1 → (i : Int) ≤ x5 → Ev (fun k => virgationref02_Nodes.l0 k most x5 (i : Int) a b l) (min (x5 + tcntL (l.drop i)) (most + 1)) := by
    intro n
    induction n with
    | zero =>
      intro i x5 hn hi h2 h3 h4
      have hd : l.drop i = [] := List.drop_eq_nil_of_le (by omega)
      rw [hd, show min (x5 + tcntL []) (most + 1) = x5 from by unfold tcntL; omega]
      exact Ev.step (fun k => by rw [virgationref02_Nodes.l0, if_neg (by omega)]) (Ev.now _)
    | succ n ihn =>
      intro i x5 hn hi h2 h3 h4
      have hil : i < l.length := by omega
      have hc := tcntL_ge (l.drop (i + 1))
      have hx := tcntL_ge (rd_T44 l (i : Int)).f2
      by_cases hm : x5 ≤ most
      · refine Ev.step (fun k => by rw [virgationref02_Nodes.l0, if_pos (by omega), if_pos hm, if_pos (by omega)]) ?_
        refine Ev.bind (a := min (1 + tcntL (rd_T44 l (i : Int)).f2) (most - x5 + 1)) ?_ ?_
        · rw [w64 (most - x5) (by omega)]
          exact ih _ _ _ _ (by have := rd_T44_mem l i hil; omega) (by omega) (by omega)
        · rw [w64 _ (by omega), w64 _ (by omega)]
          have := ihn (i + 1) (x5 + min (1 + tcntL (rd_T44 l (i : Int)).f2) (most - x5 + 1)) (by omega) (by omega) (by omega) (by omega) (by omega)
          rw [tdrop_cnt l i hil]
          rw [show ((i + 1 : Nat) : Int) = (i : Int) + 1 from rfl] at this
          rw [show min (x5 + (1 + tcntL (rd_T44 l (i : Int)).f2 + tcntL (l.drop (i + 1)))) (most + 1) = min (x5 + min (1 + tcntL (rd_T44 l (i : Int)).f2) (most - x5 + 1) + tcntL (l.drop (i + 1))) (most + 1) from by omega]
          exact this
      · rw [show min (x5 + tcntL (l.drop i)) (most + 1) = x5 from by have := tcntL_ge (l.drop i); omega]
        exact Ev.step (fun k => by rw [virgationref02_Nodes.l0, if_pos (by omega), if_neg hm]) (Ev.now _)
  refine Ev.step (fun k => by rw [virgationref02_Nodes.f]) ?_
  have := loop l.length 0 1 (by omega) (by omega) (by omega) (by omega) (by omega)
  rw [List.drop_zero] at this
  exact this
theorem large_no (a b : Int) {l : List S44} (hl : tcntL l ≤ 1000) : Ev (fun k => virgationref02_Large.f k a b l) false := by
  unfold virgationref02_Large.f
  refine Ev.bind (tnodes_wide _ a b l 100000 (Nat.lt_succ_self _) (by omega) (by omega)) ?_
  have := tcntL_ge l
  rw [decide_eq_false (by omega : ¬ min (1 + tcntL l) (100000 + 1) > 100000)]
  exact Ev.now _
theorem same_refl_ev (a b : Int) {l : List S44} (hl : tcntL l ≤ 1000) : Ev (fun k => virgationref02_Same.f k a b l a b l) true := by
  unfold virgationref02_Same.f
  refine Ev.bind (large_no a b hl) ?_
  refine Ev.ifn (by decide) ?_
  refine Ev.bind (large_no a b hl) ?_
  refine Ev.ifn (by decide) ?_
  exact Ev.bind (equal_refl_ev _ a b l (Nat.lt_succ_self _) hl) (Ev.now _)
theorem tsame_calls (a b : Int) {l : List S44} (hl : tcntL l ≤ 1000) {w : World} {A A' : Option Addr} {c c' : Nat} (hr : Kd.C k44 w A l.length l) (hc : l.length ≤ c) (hr' : Kd.C k44 w A' l.length l) (hc' : l.length ≤ c') :
    Calls Try.prog 23 #[.agg #[.int .i64 a, .int .i64 b, .slice A l.length c], .agg #[.int .i64 a, .int .i64 b, .slice A' l.length c']] w fun e w' => e = .returned (.bool true) ∧ Below w.heap.size w w' := by
  obtain ⟨k, hk⟩ := (same_refl_ev a b hl).rounds
  exact virgationref02_Same.calls k a b A c l a b A' c' l _ w hr hc hr' hc' hk
/-- What infer.Scheme gives: an error, or a valid scheme. -/
theorem scheme_cases (l0 : List S59) (l1 : List S48) (hw : looseWf l1 = true) : (∃ er : Int, er ≠ 0 ∧ ∀ (A0 : Option Addr) (c0 : Nat) (A1 : Option Addr) (c1 : Nat) (w : World), Kd.C k59 w A0 l0.length l0 → l0.length ≤ c0 → Kd.C k48 w A1 l1.length l1 → l1.length ≤ c1 →
      Calls Try.prog 20 #[.slice A0 l0.length c0, .slice A1 l1.length c1] w fun e w' => e = .returned (.tuple #[.agg #[.slice none 0 0, .slice none 0 0], .int .i64 er]) ∧ Below w.heap.size w w') ∨
    (∃ out : List S41, out.length = l1.length ∧ chkF l0 l1 = some 0 ∧ schB l0 (mkFuns l1 out) = true ∧ (∀ i (h : i < out.length) (h2 : i < l1.length), (out[i].f0.length : Int) = l1[i].f1) ∧ ∀ (A0 : Option Addr) (c0 : Nat) (A1 : Option Addr) (c1 : Nat) (w : World), Kd.C k59 w A0 l0.length l0 → l0.length ≤ c0 → Kd.C k48 w A1 l1.length l1 → l1.length ≤ c1 →
      Calls Try.prog 20 #[.slice A0 l0.length c0, .slice A1 l1.length c1] w fun e w' => ∃ v1 v2, e = .returned (.tuple #[.agg #[v1, v2], .int .i64 0]) ∧ Kd.R k59 59 w' w.heap.size (fun _ => True) v1 l0 ∧ Kd.R k46 46 w' w.heap.size (fun _ => True) v2 (mkFuns l1 out) ∧ Below w.heap.size w w') := by
  obtain ⟨r, hc⟩ : ∃ r, chkF l0 l1 = some r := ⟨_, rfl⟩
  by_cases hr : r = 0
  · subst hr
    rcases sorts_main l0 l1 hc with ⟨As, hT, _, f, hf⟩ | ⟨_, f, hf⟩
    · by_cases hg : (gam As).all goodB = true
      · rw [if_pos hg] at hf
        have hl : As.length = l1.length := by have := congrArg List.length hT.1; rw [List.length_map, List.length_map] at this; exact this
        have hlen : ((gam As).map sS).length = l1.length := by unfold gam; rw [List.length_map, List.length_map]; exact hl
        refine .inr ⟨(gam As).map sS, hlen, hc, found_ok hc hT hg, fun i h h2 => ?_, fun A0 c0 A1 c1 w h0 k0 h1 k1 => ?_⟩
        · have hi : i < As.length := by rw [hl]; exact h2
          have e : ((gam As).map sS)[i].f0 = As[i].map sS := by
            have q : ((gam As).map sS)[i]? = some (sS (ars As[i] .o)) := by unfold gam; rw [List.getElem?_map, List.getElem?_map, List.getElem?_eq_getElem hi]; rfl
            obtain ⟨_, q⟩ := List.getElem?_eq_some_iff.1 q
            rw [q]
            exact toS_ars _
          rw [e, List.length_map]
          have e2 : As[i].length = l1[i].f1.toNat := by
            have h3 := congrArg (fun l => l[i]?) hT.1
            simp only [List.getElem?_map, List.getElem?_eq_getElem hi, List.getElem?_eq_getElem h2, Option.map_some] at h3
            exact Option.some.inj h3
          have := (fCheck_ok hc).2.2.2.2 _ (List.getElem_mem h2)
          omega
        · obtain ⟨K, hK⟩ := copied_all l1 (chk_big hc)
          have hok := fCheck_ok hc
          exact scheme_ok f K A0 c0 l0 A1 c1 l1 _ w h0 k0 h1 k1 (by unfold infer_Sorts.f; rw [if_pos hw]; exact hf) (hK K (Nat.le_refl _)) hlen hok.2.1 hok.2.2.2.1
      · rw [if_neg hg] at hf
        exact .inl ⟨3, by decide, fun A0 c0 A1 c1 w h0 k0 h1 k1 => scheme_err f A0 c0 l0 A1 c1 l1 [] 3 w h0 k0 h1 k1 (by unfold infer_Sorts.f; rw [if_pos hw]; exact hf) (by decide)⟩
    · exact .inl ⟨6, by decide, fun A0 c0 A1 c1 w h0 k0 h1 k1 => scheme_err f A0 c0 l0 A1 c1 l1 [] 6 w h0 k0 h1 k1 (by unfold infer_Sorts.f; rw [if_pos hw]; exact hf) (by decide)⟩
  · exact .inl ⟨r, hr, fun A0 c0 A1 c1 w h0 k0 h1 k1 => scheme_err 1 A0 c0 l0 A1 c1 l1 [] r w h0 k0 h1 k1 (by unfold infer_Sorts.f; rw [if_pos hw]; unfold fsorts; rw [hc]; simp [hr]) hr⟩
end Go.Proofs.Ytfhgoebgnilfaaa.I
namespace Go.Proofs.Ytfhgoebgnilfaaa.I
open Go.RowKit Go.Proofs.YtfhgoebgnilfaaaW.PrintWords Go.Proofs.YtfhgoebgnilfaaaW.PrintLast Go.Proofs.YtfhgoebgnilfaaaW.PrintMore
attribute [local go_sem] max2_int min2_int max_two min_two max_three min_three max_four min_four
set_option linter.unusedVariables false
set_option maxRecDepth 100000
set_option linter.unusedSimpArgs false
set_option maxHeartbeats 16000000 in
theorem refis_calls (A0 : Option Addr) (c0 : Nat) (l0 : List S59) (A1 : Option Addr) (c1 : Nat) (l1 : List S46) (w : World) (hr0 : Kd.C k59 w A0 l0.length l0) (hc0 : l0.length ≤ c0) (hr1 : Kd.C k46 w A1 l1.length l1) (hc1 : l1.length ≤ c1) :
    Calls Try.prog 16 #[.agg #[.slice A0 l0.length c0, .slice A1 l1.length c1]] w fun e w' => e = .returned (.bool (schB l0 l1)) ∧ Below w.heap.size w w' := by
  have hu38 := Try.underlying38
  have hu46 := Try.underlying46
  have hu44 := Try.underlying44
  have hu41 := Try.underlying41
  have hlen : l1.length ≤ 9223372036854775807 := hr1.2.1
  obtain ⟨r, hr⟩ : ∃ r, r = schB l0 l1 := ⟨_, rfl⟩
  rw [← hr]
  have HR0 := Aside0.mk hr0
  have HC0 := Aside0.mk hc0
  have HR1 := Aside0.mk hr1
  have HC1 := Aside0.mk hc1
  have HE := Aside0.mk hr
  clear hr0 hc0 hr1 hc1 hr
  go_enter Try.func16, Try.ntmps16
  go_wp2_with (
      (with_reducible refine gate_dst (N := 1) rfl ?_)
      refine box_event ?hg (N := 1) ?hd (cs := #[.slice A0 l0.length c0, .slice A1 l1.length c1]) (t := 38) ?hr ?_
      (case hd => rfl)
      (case hg => rfl)
      (case hr => first | (go_simp; done) | (go_simp; rfl))
      intro g1 hg1 w1 hbox hb1
      have S11 := Aside0.mk hbox
      have HB1 := Aside0.mk hb1
      have a0 : w1.cell? ⟨g1, 0, none⟩ = some (.slice A0 l0.length c0) := (blk_cell hbox 0).trans rfl
      clear hbox hb1 hg1)
  (with_reducible refine (syms_calls (Kd.C_below HR0.out HB1.out) HC0.out).mono ?_)
  rintro e w2 ⟨rfl, hb2⟩
  have HB2 := Aside0.mk (below_step HB1.out hb2)
  have S12 := Aside0.mk (blk_below S11.out hb2)
  have a1 : w2.cell? ⟨g1, 1, none⟩ = some (.slice A1 l1.length c1) := (blk_cell S12.out 1).trans rfl
  clear hb2 a0 S11 HB1
  have HSB := Aside0.mk (show r = ((symsL l0 [] && decide (l0.length ≤ 24)) && ((decide (1 ≤ l1.length) && decide (l1.length ≤ 64)) && (funsL l1 [] && (decide ((rd_T46 l1 0).f1.f0.length = 0) && bodiesL l0 (l1.map (·.f1)) l1)))) from HE.out)
  have HSY := Aside0.mk (show (symsL l0 [] && decide (l0.length ≤ 24)) = true → symsL l0 [] = true from fun h => by simp only [Bool.and_eq_true] at h; exact h.1)
  clear HE
  generalize (symsL l0 [] && decide (l0.length ≤ 24)) = sb at *
  cases sb with
  | false =>
    have hr : r = false := HSB.out
    subst hr
    clear HSB HSY
    go_wp2_with fail
    go_ret
    exact ⟨rfl, HB2.out⟩
  | true =>
  have hsy := HSY.out rfl
  have HSY2 := Aside0.mk hsy
  clear hsy HSY
  by_cases h1 : l1.length < 1
  · have hr : r = false := by have := HSB.out; rw [this, decide_eq_false (by omega : ¬ 1 ≤ l1.length)]; rfl
    have q0 : l1.length = 0 := by omega
    subst hr
    clear HSB
    go_wp2_with fail
    go_ret
    exact ⟨rfl, HB2.out⟩
  have q1 : ((l1.length : Int) < 1) = False := eq_false (by omega)
  have q2 : (l1.length < 1) = False := eq_false h1
  by_cases h2 : 64 < l1.length
  · have hr : r = false := by have := HSB.out; rw [this, decide_eq_false (by omega : ¬ l1.length ≤ 64)]; simp
    have q3 : (64 < l1.length) = True := eq_true h2
    subst hr
    clear HSB
    go_wp2_with fail
    go_ret
    exact ⟨rfl, HB2.out⟩
  have q3 : (64 < l1.length) = False := eq_false h2
  have q3' : ((64 : Int) < (l1.length : Int)) = False := eq_false (by omega)
  have HS2 := Aside0.mk (show r = (funsL l1 [] && (decide ((rd_T46 l1 0).f1.f0.length = 0) && bodiesL l0 (l1.map (·.f1)) l1)) from by rw [HSB.out, decide_eq_true (by omega : 1 ≤ l1.length), decide_eq_true (by omega : l1.length ≤ 64)]; rfl)
  clear HSB
  go_wp2_with fail
  clear q1 q2 q3 q3'
  obtain ⟨q, hq⟩ : ∃ q, q = funsL l1 [] := ⟨_, rfl⟩
  rw [← hq] at HS2
  have HQ := Aside0.mk (show q = funsL (l1.drop 0) (names46 (l1.take 0)) from hq)
  have HQ0 := Aside0.mk hq
  have H1 := Aside0.mk h1
  have H2 := Aside0.mk h2
  clear hq a1 h1 h2
  go_loopg [30] l1.length (fun kq v30 wr => ∃ i : Nat, v30 = .int .i64 (i : Int) ∧ Aside0 (i + kq = l1.length) ∧ Aside0 (q = funsL (l1.drop i) (names46 (l1.take i))) ∧ Aside0 (Below w2.heap.size w2 wr))
  case atStart => exact ⟨0, rfl, ⟨by omega⟩, HQ, ⟨Below.refl _ _⟩⟩
  case round =>
    clear HQ
    obtain ⟨i, rfl, Hi, HQ, HB⟩ := hrel
    have h64' : l1.length ≤ 64 := by have := H2.out; omega
    by_cases hlt : i < l1.length
    rotate_left
    · have hie : i = l1.length := by have := Hi.out; omega
      have hq : q = true := by have := HQ.out; rw [hie, List.drop_length] at this; rw [this, funsL]
      have HS3 := Aside0.mk (show r = (decide ((rd_T46 l1 0).f1.f0.length = 0) && bodiesL l0 (l1.map (·.f1)) l1) from by rw [HS2.out, hq]; rfl)
      have HFL := Aside0.mk (show funsL l1 [] = true from by rw [← HQ0.out]; exact hq)
      clear hq HQ HS2 HQ0 Hi hlt
      subst hie
      have HB3 := Aside0.mk (below_step HB2.out HB.out)
      have S13 := Aside0.mk (blk_below S12.out HB.out)
      have n1 := H1.out
      have e1 : wr.cell? ⟨g1, 1, none⟩ = some (.slice A1 l1.length c1) := (blk_cell S13.out 1).trans rfl
      obtain ⟨ad, A3, c3, A4, c4, rfl, hx0, hx1, hx2, hx3, hx4, hl3, hC3, hl4, hC4⟩ := at_T46 (Kd.C_below HR1.out HB3.out) 0 (by omega) (by omega)
      clear hx0 hx2 hx3 hx4 hl3 hC3 hl4 hC4
      replace hx1 : wr.cell? ⟨ad.block, ad.off + 1, none⟩ = _ := hx1
      have q1 : (0 < l1.length) = True := eq_true (by omega)
      have q2 : ((0 : Int) < (l1.length : Int)) = True := eq_true (by omega)
      generalize hm : (rd_T46 l1 0).f1.f0.length = m at *
      clear hm n1
      by_cases hm : m = 0
      rotate_left
      · have hr : r = false := by rw [HS3.out, decide_eq_false hm]; rfl
        subst hr
        have q3 : (0 < m) = True := eq_true (by omega)
        clear hm
        go_wp2_with fail
        go_ret
        exact ⟨rfl, HB3.out⟩
      subst hm
      go_wp2_with fail
      clear e1 hx1 q1 q2
      have HBL := Aside0.mk (show r = bodiesL l0 (l1.map (·.f1)) (l1.drop 0) from HS3.out)
      clear HS3
      go_loopg [84] l1.length (fun kq v84 wr => ∃ i : Nat, v84 = .int .i64 (i : Int) ∧ Aside0 (i + kq = l1.length) ∧ Aside0 (r = bodiesL l0 (l1.map (·.f1)) (l1.drop i)) ∧ Aside0 (Below w2.heap.size w2 wr))
      case atStart => exact ⟨0, rfl, ⟨by omega⟩, HBL, HB⟩
      case round =>
        clear HBL HB HB3 S13
        obtain ⟨i, rfl, Hi, HBL, HB⟩ := hrel
        by_cases hlt : i < l1.length
        rotate_left
        · have hie : i = l1.length := by have := Hi.out; omega
          have hr : r = true := by have := HBL.out; rw [hie, List.drop_length] at this; rw [this, bodiesL]
          subst hr
          subst hie
          clear hlt HBL
          go_wp2_with fail
          go_ret
          exact ⟨rfl, below_step HB2.out HB.out⟩
        have HB3 := Aside0.mk (below_step HB2.out HB.out)
        obtain ⟨ad', A3, c3, A4, c4, he, hx0, hx1, hx2, hx3, hx4, hl3, hC3, hl4, hC4⟩ := at_T46 (Kd.C_below HR1.out HB3.out) (i : Int) (by omega) (by omega)
        cases he
        rw [Int.toNat_natCast] at hx0 hx1 hx2 hx3 hx4
        have HC4 := Aside0.mk hC4
        have Hl4 := Aside0.mk hl4
        have HLt := Aside0.mk hlt
        have HBL2 := Aside0.mk (HBL.out.trans (bodiesL_drop hlt))
        have hmem : rd_T46 l1 (i : Int) ∈ l1 := by unfold rd_T46; rw [Int.toNat_natCast, List.getD_eq_getElem?_getD, List.getElem?_eq_getElem hlt]; exact List.getElem_mem _
        have HSM := Aside0.mk (small_of HSY2.out HFL.out hmem)
        have HPL := Aside0.mk (fun (w : World) (h : Kd.C k46 w (some ad) l1.length l1) => place_calls A0 c0 l0 (some ad) c1 l1 i hlt w h HC1.out h64')
        have q1 : (0 ≤ (i : Int)) = True := eq_true (by omega)
        have q2 : ((i : Int) < (l1.length : Int)) = True := eq_true (by omega)
        have q3 : (i < l1.length) = True := eq_true (by omega)
        clear hC3 hl4 hC4 hl3 HBL hmem
        generalize rd_T46 l1 (i : Int) = x at *
        go_upto_region 20 with (
           (with_reducible refine gate_dst (N := 8) rfl ?_)
           refine box_event ?hg (N := 8) ?hd (cs := #[.string (⟨#[]⟩ : ByteArray), .slice none 0 0, .int .i64 0, .int .i64 0, .slice none 0 0]) (t := 46) ?hr ?_
           (case hd => rfl)
           (case hg => rfl)
           (case hr => first | (go_simp; done) | (go_simp; rfl))
           intro gi hgi w6 hbox hb6
           have hgw : wr.heap.size ≤ gi := by omega
           have Hbw := Aside0.mk (below_set (g := gi) (j := 4) (v := .slice A4 x.f2.f2.length c4) (below_set (g := gi) (j := 3) (v := .int .i64 x.f2.f1) (below_set (g := gi) (j := 2) (v := .int .i64 x.f2.f0) (below_set (g := gi) (j := 1) (v := .slice A3 x.f1.f0.length c3) (below_set (g := gi) (j := 0) (v := .string x.f0) hb6 hgw) hgw) hgw) hgw) hgw)
           have Hgi := Aside0.mk (blk_put (cs' := #[.string x.f0, .slice A3 x.f1.f0.length c3, .int .i64 x.f2.f0, .int .i64 x.f2.f1, .slice A4 x.f2.f2.length c4]) (blk_put (cs' := #[.string x.f0, .slice A3 x.f1.f0.length c3, .int .i64 x.f2.f0, .int .i64 x.f2.f1, .slice none 0 0]) (blk_put (cs' := #[.string x.f0, .slice A3 x.f1.f0.length c3, .int .i64 x.f2.f0, .int .i64 0, .slice none 0 0]) (blk_put (cs' := #[.string x.f0, .slice A3 x.f1.f0.length c3, .int .i64 0, .int .i64 0, .slice none 0 0]) (blk_put (cs' := #[.string x.f0, .slice none 0 0, .int .i64 0, .int .i64 0, .slice none 0 0]) hbox 0 (.string x.f0) rfl) 1 (.slice A3 x.f1.f0.length c3) rfl) 2 (.int .i64 x.f2.f0) rfl) 3 (.int .i64 x.f2.f1) rfl) 4 (.slice A4 x.f2.f2.length c4) rfl)
           have hcz0 := (blk_cell hbox 0).trans rfl
           have hfz0 := blk_frozen hbox 0
           have hcz1 := (blk_cell hbox 1).trans rfl
           have hfz1 := blk_frozen hbox 1
           have hcz2 := (blk_cell hbox 2).trans rfl
           have hfz2 := blk_frozen hbox 2
           have hcz3 := (blk_cell hbox 3).trans rfl
           have hfz3 := blk_frozen hbox 3
           have hcz4 := (blk_cell hbox 4).trans rfl
           have hfz4 := blk_frozen hbox 4
           clear hbox hb6 hgi hgw)
        clear hcz0 hcz1 hcz2 hcz3 hcz4 hfz0 hfz1 hfz2 hfz3 hfz4 hx0 hx1 hx2 hx3 hx4
        generalize (((((w6.setCell ⟨gi, 0, none⟩ (.string x.f0)).setCell ⟨gi, 1, none⟩ (.slice A3 x.f1.f0.length c3)).setCell ⟨gi, 2, none⟩ (.int .i64 x.f2.f0)).setCell ⟨gi, 3, none⟩ (.int .i64 x.f2.f1)).setCell ⟨gi, 4, none⟩ (.slice A4 x.f2.f2.length c4)) = wq at *
        have HBq := Aside0.mk (below_step HB.out Hbw.out)
        have HBQ := Aside0.mk (below_step HB3.out Hbw.out)
        have S1q := Aside0.mk (blk_below S12.out HBq.out)
        have e0 : wq.cell? ⟨g1, 0, none⟩ = some (.slice A0 l0.length c0) := (blk_cell S1q.out 0).trans rfl
        have e1 : wq.cell? ⟨g1, 1, none⟩ = some (.slice (some ad) l1.length c1) := (blk_cell S1q.out 1).trans rfl
        have m2 : wq.cell? ⟨gi, 2, none⟩ = some (.int .i64 x.f2.f0) := (blk_cell Hgi.out 2).trans rfl
        have m3 : wq.cell? ⟨gi, 3, none⟩ = some (.int .i64 x.f2.f1) := (blk_cell Hgi.out 3).trans rfl
        have m4 : wq.cell? ⟨gi, 4, none⟩ = some (.slice A4 x.f2.f2.length c4) := (blk_cell Hgi.out 4).trans rfl
        have e0' := cel1 e0
        have e1' := cel1 e1
        have m2' := cel1 m2
        have m3' := cel1 m3
        have m4' := cel1 m4
        try simp only [Act.put, List.setIfInBounds_toArray, List.set_cons_succ, List.set_cons_zero]
        go_cut [9, 10] from 90 to 97 (fun v9 v10 wc => ∃ (g9 : Nat) (Ay : Option Addr) (cy : Nat), v9 = .pointer (some ⟨g9, 0, none⟩) ∧ v10 = .bool (ofT l0 (l1.map (·.f1)) x.f1.f0 x.f2).isSome ∧ Aside0 (wc.heap[g9]? = some (.cells #[.slice Ay ((ofT l0 (l1.map (·.f1)) x.f1.f0 x.f2).getD []).length cy] 41 (0, 0))) ∧ Aside0 (Below w2.heap.size w2 wc))
        case first =>
          go_region_law
            (first
              | (go_simp
                 go_at_call 51
                 first
                 | ((with_reducible refine (HPL.out wq.drew (Kd.C_below HR1.out (below_drew HBQ.out))).mono ?_)
                    rintro e9 wA ⟨vA, A7, c7, rfl, hvA, hvB, hbA⟩
                    obtain ⟨Av, cv, rfl⟩ := Kd.V_slice hvA
                    rw [List.length_map] at hvA ⊢
                    have HVA := Aside0.mk (show Kd.V k41 41 wA wA.heap.size (fun _ => True) (.slice Av l1.length cv) (l1.map (·.f1)) from hvA)
                    have HVB := Aside0.mk (show Kd.V k41 41 wA wA.heap.size (fun _ => True) (.slice A7 x.f1.f0.length c7) x.f1.f0 from hvB)
                    have HBA := Aside0.mk (below_step (below_drew HBq.out) hbA)
                    have HbwA := Aside0.mk (below_step (below_drew Hbw.out) hbA)
                    have a2 := cell_up hbA (show (wq.drew).cell? _ = _ from id m2)
                    have a3 := cell_up hbA (show (wq.drew).cell? _ = _ from id m3)
                    have a4 := cell_up hbA (show (wq.drew).cell? _ = _ from id m4)
                    have a2' := cel1 a2
                    have a3' := cel1 a3
                    have a4' := cel1 a4
                    skip
                    clear hvA hvB hbA)
                 | ((with_reducible refine (HPL.out (wq.alloc (.cells #[.slice none 0 0] 41)).drew (Kd.C_below HR1.out (below_drew (below_alloc HBQ.out _)))).mono ?_)
                    rintro e9 wA ⟨vA, A7, c7, rfl, hvA, hvB, hbA⟩
                    obtain ⟨Av, cv, rfl⟩ := Kd.V_slice hvA
                    rw [List.length_map] at hvA ⊢
                    have HVA := Aside0.mk (show Kd.V k41 41 wA wA.heap.size (fun _ => True) (.slice Av l1.length cv) (l1.map (·.f1)) from hvA)
                    have HVB := Aside0.mk (show Kd.V k41 41 wA wA.heap.size (fun _ => True) (.slice A7 x.f1.f0.length c7) x.f1.f0 from hvB)
                    have HBA := Aside0.mk (below_step (below_drew (below_alloc HBq.out _)) hbA)
                    have HbwA := Aside0.mk (below_step (below_drew (below_alloc Hbw.out _)) hbA)
                    have a2 := cell_up hbA (show ((wq.alloc (.cells #[.slice none 0 0] 41)).drew).cell? _ = _ from cel1 m2 _)
                    have a3 := cell_up hbA (show ((wq.alloc (.cells #[.slice none 0 0] 41)).drew).cell? _ = _ from cel1 m3 _)
                    have a4 := cell_up hbA (show ((wq.alloc (.cells #[.slice none 0 0] 41)).drew).cell? _ = _ from cel1 m4 _)
                    have a2' := cel1 a2
                    have a3' := cel1 a3
                    have a4' := cel1 a4
                    have HG9 := Aside0.mk (show wA.heap[wq.heap.size]? = some (.cells #[.slice none 0 0] 41 (0, 0)) from blk_below (blk_drew (blk_new wq (.cells #[.slice none 0 0] 41))) hbA)
                    clear hvA hvB hbA))
              | (go_simp
                 go_at_call 50
                 first
                 | ((with_reducible refine (of_calls2 A0 c0 l0 Av cv l1.length (l1.map (·.f1)) A7 c7 x.f1.f0 (List.length_map _) HSM.out x.f2 A4 c4 wA (Kd.C_below HR0.out (below_step HB2.out (HBA.out))) (HVA.out) (HVB.out) (Kd.C_below HC4.out (HbwA.out)) Hl4.out).mono ?_)
                    rintro e9 wB ⟨Ay, cy, rfl, hbB⟩
                    have HBB := Aside0.mk (below_step HBA.out hbB)
                    try (have G := blk_below HG9.out hbB
                         have k9 := (blk_cell G 0).trans rfl
                         have f9 := blk_frozen G 0
                         have HG9B := Aside0.mk G
                         clear G)
                    clear hbB)
                 | ((with_reducible refine (of_calls2 A0 c0 l0 Av cv l1.length (l1.map (·.f1)) A7 c7 x.f1.f0 (List.length_map _) HSM.out x.f2 A4 c4 (wA.alloc (.cells #[.slice none 0 0] 41)) (Kd.C_below HR0.out (below_step HB2.out (below_alloc HBA.out _))) (Kd.V_alloc HVA.out _) (Kd.V_alloc HVB.out _) (Kd.C_below HC4.out (below_alloc HbwA.out _)) Hl4.out).mono ?_)
                    rintro e9 wB ⟨Ay, cy, rfl, hbB⟩
                    have HBB := Aside0.mk (below_step (below_alloc HBA.out _) hbB)
                    have G := blk_below (blk_new wA (.cells #[.slice none 0 0] 41)) hbB
                    have k9 := (blk_cell G 0).trans rfl
                    have f9 := blk_frozen G 0
                    have HG9B := Aside0.mk G
                    clear G hbB)))
          all_goals (
            go_wp2_with fail
            go_meet
            first
            | exact ⟨_, Ay, cy, rfl, rfl, ⟨blk_new _ _⟩, ⟨below_alloc HBB.out _⟩⟩
            | exact ⟨_, Ay, cy, rfl, rfl, ⟨blk_put HG9B.out 0 _ rfl⟩, ⟨below_set HBB.out (by first | exact HBA.out.size | exact HBq.out.size)⟩⟩)
        case rest =>
          obtain ⟨g9, Ay, cy, rfl, rfl, S9, HB9⟩ := hcut
          clear e0 e1 m2 m3 m4 e0' e1' m2' m3' m4' S1q HBQ HBq Hgi HPL HSM HC4 Hl4 Hbw HB HB3
          generalize ofT l0 (l1.map (·.f1)) x.f1.f0 x.f2 = o at *
          cases o with
          | none =>
            have hr : r = false := HBL2.out
            subst hr
            clear HBL2
            go_wp2_with fail
            go_ret
            exact ⟨rfl, below_step HB2.out HB9.out⟩
          | some s =>
            have c9 : wc.cell? ⟨g9, 0, none⟩ = some (.slice Ay s.length cy) := (blk_cell S9.out 0).trans rfl
            have HBL3 := Aside0.mk (show r = (decide (s.length = 0) && bodiesL l0 (l1.map (·.f1)) (l1.drop (i + 1))) from HBL2.out)
            clear HBL2 S9
            generalize s.length = m at *
            by_cases hm : m = 0
            · have HN := Aside0.mk (show r = bodiesL l0 (l1.map (·.f1)) (l1.drop (i + 1)) from by rw [HBL3.out, decide_eq_true hm]; rfl)
              subst hm
              clear HBL3
              go_wp2_with fail
              have hk := Hi.out
              obtain ⟨k1, rfl⟩ : ∃ k1, gk = k1 + 1 := ⟨gk - 1, by omega⟩
              go_roundg k1
              case measure => omega
              case rel => exact ⟨i + 1, by go_num, ⟨by omega⟩, HN, HB9⟩
            · have hr : r = false := by rw [HBL3.out, decide_eq_false hm]; rfl
              subst hr
              have q4 : (0 < m) = True := eq_true (by omega)
              clear hm HBL3
              go_wp2_with fail
              go_ret
              exact ⟨rfl, below_step HB2.out HB9.out⟩
    obtain ⟨ad', A3, c3, A4, c4, rfl, hx0, hx1, hx2, hx3, hx4, hl3, hC3, hl4, hC4⟩ := at_T46 (Kd.C_below HR1.out (below_step HB2.out HB.out)) (i : Int) (by omega) (by omega)
    rw [Int.toNat_natCast] at hx0 hx1 hx2 hx3 hx4
    have HC3 := Aside0.mk hC3
    have HC4 := Aside0.mk hC4
    have Hl3 := Aside0.mk hl3
    have Hl4 := Aside0.mk hl4
    have HF := Aside0.mk (show q = ((funOk (rd_T46 l1 (i : Int)) && !isIn (names46 (l1.take i)) (rd_T46 l1 (i : Int)).f0) && funsL (l1.drop (i + 1)) (names46 (l1.take (i + 1)))) from by rw [HQ.out, rd_T46_drop l1 i hlt, funsL, rd_T46_take l1 i hlt])
    have q1 : (0 ≤ (i : Int)) = True := eq_true (by omega)
    have q2 : ((i : Int) < (l1.length : Int)) = True := eq_true (by omega)
    have q3 : (i < l1.length) = True := eq_true (by omega)
    clear hC3 hl4 hC4 hl3 HQ
    generalize rd_T46 l1 (i : Int) = x at *
    go_wp2_with (
           (with_reducible refine gate_dst (N := 4) rfl ?_)
           refine box_event ?hg (N := 4) ?hd (cs := #[.string (⟨#[]⟩ : ByteArray), .slice none 0 0, .int .i64 0, .int .i64 0, .slice none 0 0]) (t := 46) ?hr ?_
           (case hd => rfl)
           (case hg => rfl)
           (case hr => first | (go_simp; done) | (go_simp; rfl))
           intro gi hgi w6 hbox hb6
           have hgw : wr.heap.size ≤ gi := by omega
           have Hbw := Aside0.mk (below_set (g := gi) (j := 4) (v := .slice A4 x.f2.f2.length c4) (below_set (g := gi) (j := 3) (v := .int .i64 x.f2.f1) (below_set (g := gi) (j := 2) (v := .int .i64 x.f2.f0) (below_set (g := gi) (j := 1) (v := .slice A3 x.f1.f0.length c3) (below_set (g := gi) (j := 0) (v := .string x.f0) hb6 hgw) hgw) hgw) hgw) hgw)
           have Hgi := Aside0.mk (blk_put (cs' := #[.string x.f0, .slice A3 x.f1.f0.length c3, .int .i64 x.f2.f0, .int .i64 x.f2.f1, .slice A4 x.f2.f2.length c4]) (blk_put (cs' := #[.string x.f0, .slice A3 x.f1.f0.length c3, .int .i64 x.f2.f0, .int .i64 x.f2.f1, .slice none 0 0]) (blk_put (cs' := #[.string x.f0, .slice A3 x.f1.f0.length c3, .int .i64 x.f2.f0, .int .i64 0, .slice none 0 0]) (blk_put (cs' := #[.string x.f0, .slice A3 x.f1.f0.length c3, .int .i64 0, .int .i64 0, .slice none 0 0]) (blk_put (cs' := #[.string x.f0, .slice none 0 0, .int .i64 0, .int .i64 0, .slice none 0 0]) hbox 0 (.string x.f0) rfl) 1 (.slice A3 x.f1.f0.length c3) rfl) 2 (.int .i64 x.f2.f0) rfl) 3 (.int .i64 x.f2.f1) rfl) 4 (.slice A4 x.f2.f2.length c4) rfl)
           have hcz0 := (blk_cell hbox 0).trans rfl
           have hfz0 := blk_frozen hbox 0
           have hcz1 := (blk_cell hbox 1).trans rfl
           have hfz1 := blk_frozen hbox 1
           have hcz2 := (blk_cell hbox 2).trans rfl
           have hfz2 := blk_frozen hbox 2
           have hcz3 := (blk_cell hbox 3).trans rfl
           have hfz3 := blk_frozen hbox 3
           have hcz4 := (blk_cell hbox 4).trans rfl
           have hfz4 := blk_frozen hbox 4
           have m0 := (blk_cell Hgi.out 0).trans rfl
           clear hbox hb6 hgi hgw)
    clear hcz0 hcz1 hcz2 hcz3 hcz4 hfz0 hfz1 hfz2 hfz3 hfz4 m0 hx0 hx1 hx2 hx3 hx4
    generalize (((((w6.setCell ⟨gi, 0, none⟩ (.string x.f0)).setCell ⟨gi, 1, none⟩ (.slice A3 x.f1.f0.length c3)).setCell ⟨gi, 2, none⟩ (.int .i64 x.f2.f0)).setCell ⟨gi, 3, none⟩ (.int .i64 x.f2.f1)).setCell ⟨gi, 4, none⟩ (.slice A4 x.f2.f2.length c4)) = wq at *
    have HF2 := Aside0.mk (show q = (((nameOk x.f0 && (isok x.f1.f0 && !(decide (400 < tcnt x.f2) || decide (30 < tdep x.f2)))) && !isIn (names46 (l1.take i)) x.f0) && funsL (l1.drop (i + 1)) (names46 (l1.take (i + 1)))) from HF.out)
    clear HF
    (with_reducible refine (name_calls x.f0 _).mono ?_)
    rintro e w8 ⟨rfl, hb8⟩
    have Hbw8 := Aside0.mk (below_step Hbw.out hb8)
    have Hgi8 := Aside0.mk (blk_below Hgi.out hb8)
    clear hb8 Hbw Hgi
    generalize nameOk x.f0 = b at *
    cases b with
    | false =>
      have hr : r = false := by have := HF2.out; rw [HS2.out, this]; rfl
      subst hr
      clear HF2 HS2
      go_wp2_with fail
      go_ret
      exact ⟨rfl, below_step (below_step HB2.out HB.out) Hbw8.out⟩
    | true =>
    have m1 : w8.cell? ⟨gi, 1, none⟩ = some (.slice A3 x.f1.f0.length c3) := (blk_cell Hgi8.out 1).trans rfl
    go_wp2_with fail
    (with_reducible refine (isok_calls (Kd.C_below HC3.out Hbw8.out) Hl3.out).mono ?_)
    rintro e w9 ⟨rfl, hb9⟩
    have Hbw9 := Aside0.mk (below_step Hbw8.out hb9)
    have Hgi9 := Aside0.mk (blk_below Hgi8.out hb9)
    clear hb9 Hbw8 Hgi8 m1
    generalize isok x.f1.f0 = b at *
    cases b with
    | false =>
      have hr : r = false := by have := HF2.out; rw [HS2.out, this]; rfl
      subst hr
      clear HF2 HS2
      go_wp2_with fail
      go_ret
      exact ⟨rfl, below_step (below_step HB2.out HB.out) Hbw9.out⟩
    | true =>
    have m2 : w9.cell? ⟨gi, 2, none⟩ = some (.int .i64 x.f2.f0) := (blk_cell Hgi9.out 2).trans rfl
    have m3 : w9.cell? ⟨gi, 3, none⟩ = some (.int .i64 x.f2.f1) := (blk_cell Hgi9.out 3).trans rfl
    have m4 : w9.cell? ⟨gi, 4, none⟩ = some (.slice A4 x.f2.f2.length c4) := (blk_cell Hgi9.out 4).trans rfl
    go_wp2_with fail
    (with_reducible refine (tnodes_calls x.f2.f0 x.f2.f1 (Kd.C_below HC4.out Hbw9.out) Hl4.out).mono ?_)
    rintro e wA ⟨rfl, hbA⟩
    have HbwA := Aside0.mk (below_step Hbw9.out hbA)
    have HgiA := Aside0.mk (blk_below Hgi9.out hbA)
    clear hbA Hbw9 Hgi9 m2 m3 m4
    have hcn := tcnt_f2 x.f2
    by_cases hn : 400 < tcnt x.f2
    · have hr : r = false := by have := HF2.out; rw [HS2.out, this, decide_eq_true hn]; rfl
      rw [show min (1 + tcntL x.f2.f2) 401 = 401 from by omega]
      subst hr
      clear HF2 HS2 hn hcn
      go_wp2_with fail
      go_ret
      exact ⟨rfl, below_step (below_step HB2.out HB.out) HbwA.out⟩
    obtain ⟨nn, hnn⟩ : ∃ nn, nn = min (1 + tcntL x.f2.f2) 401 := ⟨_, rfl⟩
    rw [← hnn]
    have p400 : ((400 : Int) < nn) = False := eq_false (by omega)
    have Hcn := Aside0.mk (show tcntL x.f2.f2 ≤ 1000 from by omega)
    have HF3 := Aside0.mk (show q = ((!(decide (30 < tdep x.f2)) && !isIn (names46 (l1.take i)) x.f0) && funsL (l1.drop (i + 1)) (names46 (l1.take (i + 1)))) from by rw [HF2.out, decide_eq_false hn]; rfl)
    clear HF2 hn hcn hnn
    have m2 : wA.cell? ⟨gi, 2, none⟩ = some (.int .i64 x.f2.f0) := (blk_cell HgiA.out 2).trans rfl
    have m3 : wA.cell? ⟨gi, 3, none⟩ = some (.int .i64 x.f2.f1) := (blk_cell HgiA.out 3).trans rfl
    have m4 : wA.cell? ⟨gi, 4, none⟩ = some (.slice A4 x.f2.f2.length c4) := (blk_cell HgiA.out 4).trans rfl
    go_wp2_with fail
    (with_reducible refine (tdepth_calls x.f2.f0 x.f2.f1 Hcn.out (Kd.C_below HC4.out HbwA.out) Hl4.out).mono ?_)
    rintro e wB ⟨rfl, hbB⟩
    have HbwB := Aside0.mk (below_step HbwA.out hbB)
    have HgiB := Aside0.mk (blk_below HgiA.out hbB)
    clear hbB HbwA HgiA m2 m3 m4 p400
    have hde := tdep_f2 x.f2
    rw [← hde]
    clear hde
    by_cases hd : 30 < tdep x.f2
    · have hr : r = false := by have := HF3.out; rw [HS2.out, this, decide_eq_true hd]; rfl
      have p30 : ((30 : Int) < tdep x.f2) = True := eq_true hd
      subst hr
      clear HF3 HS2 hd
      go_wp2_with fail
      go_ret
      exact ⟨rfl, below_step (below_step HB2.out HB.out) HbwB.out⟩
    have p30 : ((30 : Int) < tdep x.f2) = False := eq_false hd
    have HF4 := Aside0.mk (show q = ((!isIn (names46 (l1.take i)) x.f0) && funsL (l1.drop (i + 1)) (names46 (l1.take (i + 1)))) from by rw [HF3.out, decide_eq_false hd]; rfl)
    clear HF3 hd
    have HB5 := Aside0.mk (below_step HB.out HbwB.out)
    have S15 := Aside0.mk (blk_below S12.out HB5.out)
    have e1 : wB.cell? ⟨g1, 1, none⟩ = some (.slice (some ad') l1.length c1) := (blk_cell S15.out 1).trans rfl
    have pc : (i ≤ c1) = True := eq_true (by have := HC1.out; omega)
    go_wp2_with fail
    clear p30 e1 pc
    have hko := Hi.out
    obtain ⟨ko, rfl⟩ : ∃ ko, gk = ko + 1 := ⟨gk - 1, by omega⟩
    clear hko
    obtain ⟨z, hz⟩ : ∃ z, z = isIn (names46 (l1.take i)) x.f0 := ⟨_, rfl⟩
    rw [← hz] at HF4
    have HZ := Aside0.mk (show z = isIn (names46 ((l1.take i).drop 0)) x.f0 from hz)
    clear hz HbwB
    go_loopg [62] i (fun kq v62 wr2 => ∃ j : Nat, v62 = .int .i64 (j : Int) ∧ Aside0 (j + kq = i) ∧ Aside0 (z = isIn (names46 ((l1.take i).drop j)) x.f0) ∧ Aside0 (Below wB.heap.size wB wr2))
    case atStart => exact ⟨0, rfl, ⟨by omega⟩, HZ, ⟨Below.refl _ _⟩⟩
    case round =>
      clear HZ
      obtain ⟨j, rfl, Hj, HZ, HBi⟩ := hrel
      by_cases hjt : j < i
      rotate_left
      · have hje : j = i := by have := Hj.out; omega
        have hz : z = false := by have := HZ.out; rw [hje, List.drop_of_length_le (by rw [List.length_take]; omega)] at this; exact this
        have HN := Aside0.mk (show q = funsL (l1.drop (i + 1)) (names46 (l1.take (i + 1))) from by rw [HF4.out, hz]; rfl)
        have HB7 := Aside0.mk (below_step HB5.out HBi.out)
        subst hje
        clear hz HZ HF4 HBi
        go_wp2_with fail
        go_roundg ko
        case measure => omega
        case rel => exact ⟨j + 1, by go_num, ⟨by have := Hi.out; omega⟩, HN, HB7⟩
      have HB6 := Aside0.mk (below_step HB5.out HBi.out)
      obtain ⟨ad2, A5, c5, A6, c6, he, hx0, hx1, hx2, hx3, hx4, hl5, hC5, hl6, hC6⟩ := at_T46 (Kd.C_below HR1.out (below_step HB2.out HB6.out)) (j : Int) (by omega) (by omega)
      cases he
      rw [Int.toNat_natCast] at hx0 hx1 hx2 hx3 hx4
      have HZ2 := Aside0.mk (show z = ((rd_T46 l1 (j : Int)).f0.data.toList == x.f0.data.toList || isIn (names46 ((l1.take i).drop (j + 1))) x.f0) from by
        rw [HZ.out, rd_T46_drop (l1.take i) j (by rw [List.length_take]; omega)]
        have e : rd_T46 (l1.take i) (j : Int) = rd_T46 l1 (j : Int) := by unfold rd_T46; rw [Int.toNat_natCast, List.getD_eq_getElem?_getD, List.getD_eq_getElem?_getD, List.getElem?_take_of_lt hjt]
        rw [e]
        rfl)
      have q4 : (0 ≤ (j : Int)) = True := eq_true (by omega)
      have q5 : ((j : Int) < (i : Int)) = True := eq_true (by omega)
      have q6 : (j < i) = True := eq_true (by omega)
      clear hl5 hC5 hl6 hC6 HZ
      generalize rd_T46 l1 (j : Int) = y at *
      obtain ⟨bb, hbb⟩ : ∃ bb, (x.f0.toList == y.f0.toList) = bb := ⟨_, rfl⟩
      have HBB := Aside0.mk (show (y.f0.data.toList == x.f0.data.toList) = bb from by
        rw [← hbb, ← Go.ByteArray.toList_eq, ← Go.ByteArray.toList_eq]
        exact BEq.comm)
      rw [HBB.out] at HZ2
      clear HBB
      go_wp2_with (
           (with_reducible refine gate_dst (N := 6) rfl ?_)
           refine box_event ?hg (N := 6) ?hd (cs := #[.string (⟨#[]⟩ : ByteArray), .slice none 0 0, .int .i64 0, .int .i64 0, .slice none 0 0]) (t := 46) ?hr ?_
           (case hd => rfl)
           (case hg => rfl)
           (case hr => first | (go_simp; done) | (go_simp; rfl))
           intro gy hgy w6 hbox hb6
           have hgw : wr.heap.size ≤ gy := by omega
           have Hbw := Aside0.mk (below_set (g := gy) (j := 4) (v := .slice A6 y.f2.f2.length c6) (below_set (g := gy) (j := 3) (v := .int .i64 y.f2.f1) (below_set (g := gy) (j := 2) (v := .int .i64 y.f2.f0) (below_set (g := gy) (j := 1) (v := .slice A5 y.f1.f0.length c5) (below_set (g := gy) (j := 0) (v := .string y.f0) hb6 hgw) hgw) hgw) hgw) hgw)
           have Hgy := Aside0.mk (blk_put (cs' := #[.string y.f0, .slice A5 y.f1.f0.length c5, .int .i64 y.f2.f0, .int .i64 y.f2.f1, .slice A6 y.f2.f2.length c6]) (blk_put (cs' := #[.string y.f0, .slice A5 y.f1.f0.length c5, .int .i64 y.f2.f0, .int .i64 y.f2.f1, .slice none 0 0]) (blk_put (cs' := #[.string y.f0, .slice A5 y.f1.f0.length c5, .int .i64 y.f2.f0, .int .i64 0, .slice none 0 0]) (blk_put (cs' := #[.string y.f0, .slice A5 y.f1.f0.length c5, .int .i64 0, .int .i64 0, .slice none 0 0]) (blk_put (cs' := #[.string y.f0, .slice none 0 0, .int .i64 0, .int .i64 0, .slice none 0 0]) hbox 0 (.string y.f0) rfl) 1 (.slice A5 y.f1.f0.length c5) rfl) 2 (.int .i64 y.f2.f0) rfl) 3 (.int .i64 y.f2.f1) rfl) 4 (.slice A6 y.f2.f2.length c6) rfl)
           have hcz0 := (blk_cell hbox 0).trans rfl
           have hfz0 := blk_frozen hbox 0
           have hcz1 := (blk_cell hbox 1).trans rfl
           have hfz1 := blk_frozen hbox 1
           have hcz2 := (blk_cell hbox 2).trans rfl
           have hfz2 := blk_frozen hbox 2
           have hcz3 := (blk_cell hbox 3).trans rfl
           have hfz3 := blk_frozen hbox 3
           have hcz4 := (blk_cell hbox 4).trans rfl
           have hfz4 := blk_frozen hbox 4
           have m0 := (blk_cell Hgy.out 0).trans rfl
           have m1 := (blk_cell (blk_below HgiB.out (below_step HBi.out Hbw.out)) 0).trans rfl
           clear hbox hb6 hgy hgw)
      rotate_left
      · have HZ3 := Aside0.mk (show z = isIn (names46 ((l1.take i).drop (j + 1))) x.f0 from HZ2.out.trans (by rw [‹bb = false›]; rfl))
        have HBi2 := Aside0.mk (below_step HBi.out Hbw.out)
        clear hcz0 hcz1 hcz2 hcz3 hcz4 hfz0 hfz1 hfz2 hfz3 hfz4 m0 m1 hx0 hx1 hx2 hx3 hx4 HZ2
        have hk := Hj.out
        obtain ⟨k1, rfl⟩ : ∃ k1, gk = k1 + 1 := ⟨gk - 1, by omega⟩
        go_roundg k1
        case measure => omega
        case rel => exact ⟨j + 1, by go_num, ⟨by omega⟩, HZ3, HBi2⟩
      · have hr : r = false := by rw [HS2.out, HF4.out, HZ2.out, ‹bb = true›]; rfl
        subst hr
        go_ret
        exact ⟨rfl, below_step (below_step HB2.out HB6.out) Hbw.out⟩
end Go.Proofs.Ytfhgoebgnilfaaa.I
namespace Go.Proofs.Ytfhgoebgnilfaaa.I
open Go.RowKit Go.Proofs.YtfhgoebgnilfaaaW.PrintWords Go.Proofs.YtfhgoebgnilfaaaW.PrintLast Go.Proofs.YtfhgoebgnilfaaaW.PrintMore
attribute [local go_sem] max2_int min2_int max_two min_two max_three min_three max_four min_four
set_option linter.unusedVariables false
set_option maxRecDepth 100000
set_option linter.unusedSimpArgs false
theorem given_any (k : Nat) (A1 : Option Addr) (c1 : Nat) (l1 : List S56) (w : World) (hr : Kd.C k56 w A1 l1.length l1) (hc : l1.length ≤ c1) (h : virgationlaw04_given.f k l1 = some (l1.map to48)) :
    Calls Try.prog 11 #[.slice A1 l1.length c1] w fun e w' => ∃ A c, e = .returned (.slice A l1.length c) ∧ l1.length ≤ c ∧ Kd.C k48 w' A l1.length (l1.map to48) ∧ Below w.heap.size w w' := by
  refine (virgationlaw04_given.calls k (fun k_ => k_ < w.heap.size) _ _ l1 _ _ (Kd.V_mk hc (Kd.C_F k56_heap hr)) h).mono ?_
  rintro e w' ⟨v, rfl, ho, hb⟩
  obtain ⟨A, c, rfl⟩ := Kd.N_slice ho
  have h2 := Kd.N_reads' ho
  rw [List.length_map] at h2
  exact ⟨A, c, by rw [List.length_map], h2.2.1, h2.2.2, hb⟩
theorem IntSt.of_below {B : Nat} {w w' : World} (h : Below w.heap.size w w') : IntSt B w w' := ⟨h.os, h.tape, h.output, h.size, fun k hk => .inl (h.block k hk)⟩
end Go.Proofs.Ytfhgoebgnilfaaa.I
namespace Go.Proofs.Ytfhgoebgnilfaaa.I
open Go.RowKit Go.Proofs.YtfhgoebgnilfaaaW.PrintWords Go.Proofs.YtfhgoebgnilfaaaW.PrintLast Go.Proofs.YtfhgoebgnilfaaaW.PrintMore
attribute [local go_sem] max2_int min2_int max_two min_two max_three min_three max_four min_four
set_option linter.unusedVariables false
set_option maxRecDepth 100000
set_option linter.unusedSimpArgs false
/-- What the scheme's functions have to do with those that came in. -/
def FitF (fs : List S46) (l1 : List S56) : Prop := fs.length = l1.length ∧ ∀ i : Nat, i < l1.length → (rd_T46 fs (i : Int)).f0 = (rd_T56 l1 (i : Int)).f0 ∧ (rd_T46 fs (i : Int)).f2 = (rd_T56 l1 (i : Int)).f2 ∧ ((rd_T46 fs (i : Int)).f1.f0.length : Int) = (rd_T56 l1 (i : Int)).f1 ∧ tcntL (rd_T56 l1 (i : Int)).f2.f2 ≤ 1000
theorem fit_ok {l0 : List S59} {l1 : List S56} {out : List S41} (hol : out.length = (l1.map to48).length) (hck : chkF l0 (l1.map to48) = some 0) (har : ∀ i (h : i < out.length) (h2 : i < (l1.map to48).length), (out[i].f0.length : Int) = (l1.map to48)[i].f1) : FitF (mkFuns (l1.map to48) out) l1 := by
  have hm : (l1.map to48).length = l1.length := List.length_map _
  refine ⟨by unfold mkFuns; rw [List.length_zipWith, hol, Nat.min_self, hm], fun i hi => ?_⟩
  have h1 : i < (l1.map to48).length := by rw [hm]; exact hi
  have h2 : i < out.length := by rw [hol]; exact h1
  have e1 : rd_T56 l1 (i : Int) = l1[i] := by unfold rd_T56; rw [Int.toNat_natCast, List.getD_eq_getElem?_getD, List.getElem?_eq_getElem hi]; rfl
  have e2 : rd_T46 (mkFuns (l1.map to48) out) (i : Int) = ⟨l1[i].f0, out[i], l1[i].f2⟩ := by
    unfold rd_T46 mkFuns
    rw [Int.toNat_natCast, List.getD_eq_getElem?_getD, List.getElem?_zipWith, List.getElem?_eq_getElem h1, List.getElem?_eq_getElem h2, List.getElem_map]
    rfl
  have e3 := har i h2 h1
  rw [List.getElem_map] at e3
  rw [e1, e2]
  exact ⟨rfl, rfl, e3, chk_big hck (to48 l1[i]) (List.mem_map.2 ⟨_, List.getElem_mem hi, rfl⟩)⟩
set_option maxHeartbeats 16000000 in
theorem valid_calls (A0 : Option Addr) (c0 : Nat) (l0 : List S59) (A1 : Option Addr) (c1 : Nat) (l1 : List S56) (w : World) (hr0 : Kd.C k59 w A0 l0.length l0) (hc0 : l0.length ≤ c0) (hr1 : Kd.C k56 w A1 l1.length l1) (hc1 : l1.length ≤ c1) (hw : looseWf (l1.map to48) = true) :
    Calls Try.prog 7 #[.slice A0 l0.length c0, .slice A1 l1.length c1] w fun e w' => e = .returned (.bool true) ∧ Below w.heap.size w w' := by
  have hu56 := Try.underlying56
  have hu44 := Try.underlying44
  have hu59 := Try.underlying59
  have hu46 := Try.underlying46
  have hu38 := Try.underlying38
  have hu41 := Try.underlying41
  have hlen1 : l1.length ≤ 9223372036854775807 := hr1.2.1
  have hlen0 : l0.length ≤ 9223372036854775807 := hr0.2.1
  have HR0 := Aside0.mk hr0
  have HC0 := Aside0.mk hc0
  have HR1 := Aside0.mk hr1
  have HC1 := Aside0.mk hc1
  have HS := Aside0.mk (scheme_cases l0 (l1.map to48) hw)
  clear hr0 hc0 hr1 hc1 hw
  by_cases h1000 : 1000 < l1.length
  · have q1 : (1000 < l1.length) = True := eq_true h1000
    have q2 : ((1000 : Int) < (l1.length : Int)) = True := eq_true (by omega)
    clear h1000 HS
    go_enter Try.func7, Try.ntmps7
    go_wp2_with fail
    (with_reducible refine (alive_calls _).mono ?_)
    rintro e w1 ⟨rfl, hb1⟩
    have HB1 := Aside0.mk hb1
    clear hb1
    go_wp2_with fail
    go_ret
    exact ⟨rfl, HB1.out⟩
  have q1 : (1000 < l1.length) = False := eq_false h1000
  have q2 : ((1000 : Int) < (l1.length : Int)) = False := eq_false (by omega)
  obtain ⟨kG, hG⟩ := (given_ev l1 (by omega)).rounds
  have HG := Aside0.mk hG
  have H1000 := Aside0.mk h1000
  clear hG h1000
  go_enter Try.func7, Try.ntmps7
  go_wp2_with fail
  (with_reducible refine (given_any kG A1 c1 l1 _ HR1.out HC1.out HG.out).mono ?_)
  rintro e w1 ⟨Ag, cg, rfl, hcg, hCg, hb1⟩
  have HB1 := Aside0.mk hb1
  have HCg := Aside0.mk hCg
  have Hcg := Aside0.mk hcg
  clear hb1 hCg hcg q1 q2
  go_wp2_with fail
  rcases HS.out with ⟨er, her, hS⟩ | ⟨out, hol, hck, hsch, har, hS⟩
  · have hs := hS A0 c0 Ag cg w1 (Kd.C_below HR0.out HB1.out) HC0.out (by rw [List.length_map]; exact HCg.out) (by rw [List.length_map]; exact Hcg.out)
    rw [List.length_map] at hs
    (with_reducible refine hs.mono ?_)
    clear hs hS HS
    rintro e w2 ⟨rfl, hb2⟩
    have HB2 := Aside0.mk (below_step HB1.out hb2)
    have b1 : (er != 0) = true := bne_iff_ne.2 her
    have b2 : (er == 0) = false := beq_eq_false_iff_ne.2 her
    clear hb2 her
    go_wp2_with (
      (with_reducible refine gate_dst (N := 5) rfl ?_)
      refine box_event ?hg (N := 5) ?hd (cs := #[.slice none 0 0, .slice none 0 0]) (t := 38) ?hr ?_
      (case hd => rfl)
      (case hg => rfl)
      (case hr => first | (go_simp; done) | (go_simp; rfl))
      intro g5 hg5 w3 hbox hb3
      have hw5 : w2.heap.size ≤ g5 := by omega
      have HB3 := Aside0.mk (below_step HB2.out (below_set (g := g5) (j := 1) (v := .slice none 0 0) (below_set (g := g5) (j := 0) (v := .slice none 0 0) hb3 hw5) hw5))
      have hcz0 := (blk_cell hbox 0).trans rfl
      have hcz1 := (blk_cell hbox 1).trans rfl
      have hfz0 := blk_frozen hbox 0
      have hfz1 := blk_frozen hbox 1
      clear hbox hb3 hg5)
    (with_reducible refine (alive_calls _).mono ?_)
    rintro e w4 ⟨rfl, hb4⟩
    have HB4 := Aside0.mk (below_step HB3.out hb4)
    clear hb4
    go_wp2_with fail
    go_ret
    exact ⟨rfl, HB4.out⟩
  · have hs := hS A0 c0 Ag cg w1 (Kd.C_below HR0.out HB1.out) HC0.out (by rw [List.length_map]; exact HCg.out) (by rw [List.length_map]; exact Hcg.out)
    rw [List.length_map] at hs
    (with_reducible refine hs.mono ?_)
    clear hs hS HS
    have HFit := Aside0.mk (fit_ok hol hck har)
    have HSch := Aside0.mk hsch
    clear hol hck har hsch
    generalize mkFuns (l1.map to48) out = fs at *
    rintro e w2 ⟨v1, v2, rfl, hRs, hRf, hb2⟩
    obtain ⟨As, cs, rfl⟩ := Kd.R_slice hRs
    obtain ⟨Af, cf, rfl⟩ := Kd.R_slice hRf
    have hfl := HFit.out.1
    have HRs := Aside0.mk (Kd.R_reads' hRs).2
    have HRf := Aside0.mk (Kd.R_reads' hRf).2
    rw [hfl]
    clear hRs hRf hfl
    have HB2 := Aside0.mk (below_step HB1.out hb2)
    clear hb2
    have H1000' := H1000.out
    go_wp2_with (
      (with_reducible refine gate_dst (N := 5) rfl ?_)
      refine box_event ?hg (N := 5) ?hd (cs := #[.slice none 0 0, .slice none 0 0]) (t := 38) ?hr ?_
      (case hd => rfl)
      (case hg => rfl)
      (case hr => first | (go_simp; done) | (go_simp; rfl))
      intro g5 hg5 w3 hbox hb3
      have hw5 : w2.heap.size ≤ g5 := by omega
      have Hbw := Aside0.mk (below_set (g := g5) (j := 1) (v := .slice Af l1.length cf) (below_set (g := g5) (j := 0) (v := .slice As l0.length cs) hb3 hw5) hw5)
      have S5 := Aside0.mk (blk_put (cs' := #[.slice As l0.length cs, .slice Af l1.length cf]) (blk_put (cs' := #[.slice As l0.length cs, .slice none 0 0]) hbox 0 (.slice As l0.length cs) rfl) 1 (.slice Af l1.length cf) rfl)
      have hcz0 := (blk_cell hbox 0).trans rfl
      have hcz1 := (blk_cell hbox 1).trans rfl
      have hfz0 := blk_frozen hbox 0
      have hfz1 := blk_frozen hbox 1
      have s0 := (blk_cell S5.out 0).trans rfl
      have s1 := (blk_cell S5.out 1).trans rfl
      clear hbox hb3 hg5)
    clear hcz0 hcz1 hfz0 hfz1 s0 s1
    generalize (w3.setCell ⟨g5, 0, none⟩ (.slice As l0.length cs)).setCell ⟨g5, 1, none⟩ (.slice Af l1.length cf) = w4 at *
    have HB4 := Aside0.mk (below_step HB2.out Hbw.out)
    have HRs4 := Aside0.mk (Kd.C_below HRs.out.2 Hbw.out)
    have HRf4 := Aside0.mk (Kd.C_below HRf.out.2 Hbw.out)
    have his := refis_calls As cs l0 Af cf fs w4 HRs4.out HRs.out.1 HRf4.out HRf.out.1
    rw [HFit.out.1, HSch.out] at his
    (with_reducible refine his.mono ?_)
    clear his
    rintro e w5 ⟨rfl, hb5⟩
    have HB5 := Aside0.mk (below_step HB4.out hb5)
    have S55 := Aside0.mk (blk_below S5.out hb5)
    have HRs5 := Aside0.mk (Kd.C_below HRs4.out hb5)
    have HRf5 := Aside0.mk (Kd.C_below HRf4.out hb5)
    have s0 : w5.cell? ⟨g5, 0, none⟩ = some (.slice As l0.length cs) := (blk_cell S55.out 0).trans rfl
    have s1 : w5.cell? ⟨g5, 1, none⟩ = some (.slice Af l1.length cf) := (blk_cell S55.out 1).trans rfl
    clear hb5 HRs4 HRf4 S5 Hbw HSch HB4
    go_wp2_with fail
    clear s0 s1
    go_loopg [45] l1.length (fun kq v45 wr => ∃ i : Nat, v45 = .int .i64 (i : Int) ∧ Aside0 (i + kq = l1.length) ∧ Aside0 (Below w5.heap.size w5 wr))
    case atStart => exact ⟨0, rfl, ⟨by omega⟩, ⟨Below.refl _ _⟩⟩
    case round =>
      obtain ⟨i, rfl, Hi, HB⟩ := hrel
      by_cases hlt : i < l1.length
      rotate_left
      · have s0 : wr.cell? ⟨g5, 0, none⟩ = some (.slice As l0.length cs) := cell_up HB.out ((blk_cell S55.out 0).trans rfl)
        have hge : i = l1.length := by have := Hi.out; omega
        clear hlt
        subst hge
        go_wp2_with fail
        clear s0
        go_loopg [87] l0.length (fun kq v87 wr => ∃ i : Nat, v87 = .int .i64 (i : Int) ∧ Aside0 (i + kq = l0.length) ∧ Aside0 (Below w5.heap.size w5 wr))
        case atStart => exact ⟨0, rfl, ⟨by omega⟩, HB⟩
        case round =>
          clear HB Hi
          obtain ⟨i, rfl, Hi, HB⟩ := hrel
          by_cases hlt : i < l0.length
          · obtain ⟨ad0, he, hx1, hx2⟩ := at_T59 HR0.out (i : Int) (by omega) (by omega)
            cases he
            obtain ⟨ad1, he, hy1, hy2⟩ := at_T59 HRs5.out (i : Int) (by omega) (by omega)
            cases he
            replace hx1 := cell_up HB.out (cell_up HB5.out hx1)
            replace hx2 := cell_up HB.out (cell_up HB5.out hx2)
            replace hy1 := cell_up HB.out hy1
            replace hy2 := cell_up HB.out hy2
            rw [Int.toNat_natCast] at hx1 hx2 hy1 hy2
            have s0 : wr.cell? ⟨g5, 0, none⟩ = some (.slice (some ad1) l0.length cs) := cell_up HB.out ((blk_cell S55.out 0).trans rfl)
            have p1 : (0 ≤ (i : Int)) = True := eq_true (by omega)
            have p2 : ((i : Int) < (l0.length : Int)) = True := eq_true (by omega)
            have p3 : (i < l0.length) = True := eq_true (by omega)
            generalize (rd_T59 l0 (i : Int)) = x at *
            go_wp2_with fail
            go_quiet (fail)
            go_wp2_with fail
            have hk := Hi.out
            obtain ⟨k1, rfl⟩ : ∃ k1, gk = k1 + 1 := ⟨gk - 1, by omega⟩
            go_roundg k1
            case measure => omega
            case rel => exact ⟨i + 1, by go_num, ⟨by omega⟩, ⟨pw_below_drewN HB.out _⟩⟩
          · go_wp2_with fail
            (with_reducible refine (alive_calls _).mono ?_)
            rintro e w7 ⟨rfl, hb7⟩
            have HB7 := Aside0.mk (below_step HB5.out (below_step HB.out hb7))
            clear hb7
            go_wp2_with fail
            go_ret
            exact ⟨rfl, HB7.out⟩
      obtain ⟨ad1, A4, c4, he, hx1, hx2, hx3, hx4, hx5, hl4, hC4⟩ := at_T56 HR1.out (i : Int) (by omega) (by omega)
      cases he
      obtain ⟨af, B1, d1, B4, d4, he, hy0, hy1, hy2, hy3, hy4, _, _, hl6, hC6⟩ := at_T46 HRf5.out (i : Int) (by omega) (by have := HFit.out.1; omega)
      cases he
      replace hx1 := cell_up HB.out (cell_up HB5.out hx1)
      replace hx2 := cell_up HB.out (cell_up HB5.out hx2)
      replace hx3 := cell_up HB.out (cell_up HB5.out hx3)
      replace hx4 := cell_up HB.out (cell_up HB5.out hx4)
      replace hx5 := cell_up HB.out (cell_up HB5.out hx5)
      replace hy0 := cell_up HB.out hy0
      replace hy1 := cell_up HB.out hy1
      replace hy2 := cell_up HB.out hy2
      replace hy3 := cell_up HB.out hy3
      replace hy4 := cell_up HB.out hy4
      obtain ⟨f1, f2, f3, f4⟩ := HFit.out.2 i hlt
      rw [Int.toNat_natCast] at hx1 hx2 hx3 hx4 hx5 hy0 hy1 hy2 hy3 hy4
      generalize hm : (rd_T46 fs (i : Int)).f1.f0.length = m at *
      rw [f1] at hy0
      rw [f2] at hy2 hy3 hy4 hl6 hC6
      have Hl4 := Aside0.mk hl4
      have Hl6 := Aside0.mk hl6
      have HC4 := Aside0.mk (Kd.C_below (Kd.C_below hC4 HB5.out) HB.out)
      have HC6 := Aside0.mk (Kd.C_below hC6 HB.out)
      have HFt := Aside0.mk f4
      clear hl4 hl6 hC4 hC6 f1 f2 f4 hm
      generalize (rd_T56 l1 (i : Int)) = x at *
      have p1 : (0 ≤ (i : Int)) = True := eq_true (by omega)
      have p2 : ((i : Int) < (l1.length : Int)) = True := eq_true (by omega)
      have p3 : (i < l1.length) = True := eq_true (by omega)
      go_upto_region 11 with (
          (with_reducible refine gate_dst (N := 8) rfl ?_)
          refine box_event ?hg (N := 8) ?hd (cs := #[.string (⟨#[]⟩ : ByteArray), .int .i64 0, .int .i64 0, .int .i64 0, .slice none 0 0]) (t := 56) ?hr ?_
          (case hd => rfl)
          (case hg => rfl)
          (case hr => first | (go_simp; done) | (go_simp; rfl))
          intro gi hgi w6' hbox hb3
          have hgw : wr.heap.size ≤ gi := by omega
          have hbw := below_set (g := gi) (j := 4) (v := .slice A4 x.f2.f2.length c4) (below_set (g := gi) (j := 3) (v := .int .i64 x.f2.f1) (below_set (g := gi) (j := 2) (v := .int .i64 x.f2.f0) (below_set (g := gi) (j := 1) (v := .int .i64 x.f1) (below_set (g := gi) (j := 0) (v := .string x.f0) hb3 hgw) hgw) hgw) hgw) hgw
          have Hbw := Aside0.mk hbw
          have Hgi := Aside0.mk (blk_put (cs' := #[.string x.f0, .int .i64 x.f1, .int .i64 x.f2.f0, .int .i64 x.f2.f1, .slice A4 x.f2.f2.length c4]) (blk_put (cs' := #[.string x.f0, .int .i64 x.f1, .int .i64 x.f2.f0, .int .i64 x.f2.f1, .slice none 0 0]) (blk_put (cs' := #[.string x.f0, .int .i64 x.f1, .int .i64 x.f2.f0, .int .i64 0, .slice none 0 0]) (blk_put (cs' := #[.string x.f0, .int .i64 x.f1, .int .i64 0, .int .i64 0, .slice none 0 0]) (blk_put (cs' := #[.string x.f0, .int .i64 0, .int .i64 0, .int .i64 0, .slice none 0 0]) (hbox) 0 (.string x.f0) rfl) 1 (.int .i64 x.f1) rfl) 2 (.int .i64 x.f2.f0) rfl) 3 (.int .i64 x.f2.f1) rfl) 4 (.slice A4 x.f2.f2.length c4) rfl)
          have hcz0 := (blk_cell hbox 0).trans rfl
          have hfz0 := blk_frozen hbox 0
          have hcz1 := (blk_cell hbox 1).trans rfl
          have hfz1 := blk_frozen hbox 1
          have hcz2 := (blk_cell hbox 2).trans rfl
          have hfz2 := blk_frozen hbox 2
          have hcz3 := (blk_cell hbox 3).trans rfl
          have hfz3 := blk_frozen hbox 3
          have hcz4 := (blk_cell hbox 4).trans rfl
          have hfz4 := blk_frozen hbox 4
          clear hbox hb3 hgi hgw hbw)
      clear hcz0 hcz1 hcz2 hcz3 hcz4 hfz0 hfz1 hfz2 hfz3 hfz4 hx1 hx2 hx3 hx4 hx5
      generalize (((((w6'.setCell ⟨gi, 0, none⟩ (.string x.f0)).setCell ⟨gi, 1, none⟩ (.int .i64 x.f1)).setCell ⟨gi, 2, none⟩ (.int .i64 x.f2.f0)).setCell ⟨gi, 3, none⟩ (.int .i64 x.f2.f1)).setCell ⟨gi, 4, none⟩ (.slice A4 x.f2.f2.length c4)) = wq at *
      have HBq := Aside0.mk (below_step HB.out Hbw.out)
      have HC5 := Aside0.mk (Kd.C_below HC4.out Hbw.out)
      have HC7 := Aside0.mk (Kd.C_below HC6.out Hbw.out)
      have t1 : wq.cell? ⟨g5, 1, none⟩ = some (.slice (some af) l1.length cf) := cell_up Hbw.out (cell_up HB.out ((blk_cell S55.out 1).trans rfl))
      have x0 := cell_up Hbw.out hy0
      have x1 := cell_up Hbw.out hy1
      have x2 := cell_up Hbw.out hy2
      have x3 : wq.cell? ⟨(af.add (i * 5)).block, (af.add (i * 5)).off + 2 + 1, none⟩ = some (.int .i64 x.f2.f1) := cell_up Hbw.out hy3
      have x4 : wq.cell? ⟨(af.add (i * 5)).block, (af.add (i * 5)).off + 2 + 2, none⟩ = some (.slice B4 x.f2.f2.length d4) := cell_up Hbw.out hy4
      have m0 : wq.cell? ⟨gi, 0, none⟩ = some (.string x.f0) := (blk_cell Hgi.out 0).trans rfl
      have m1 : wq.cell? ⟨gi, 1, none⟩ = some (.int .i64 (m : Int)) := f3 ▸ ((blk_cell Hgi.out 1).trans rfl)
      have m2 : wq.cell? ⟨gi, 2, none⟩ = some (.int .i64 x.f2.f0) := (blk_cell Hgi.out 2).trans rfl
      have m3 : wq.cell? ⟨gi, 3, none⟩ = some (.int .i64 x.f2.f1) := (blk_cell Hgi.out 3).trans rfl
      have m4 : wq.cell? ⟨gi, 4, none⟩ = some (.slice A4 x.f2.f2.length c4) := (blk_cell Hgi.out 4).trans rfl
      clear HC4 HC6 Hbw hy0 hy1 hy2 hy3 hy4 Hgi f3
      try simp only [Act.put, List.setIfInBounds_toArray, List.set_cons_succ, List.set_cons_zero]
      go_cut [83] from 50 to 83 (fun v83 wc => v83 = .bool false ∧ Aside0 (Below w5.heap.size w5 wc))
      case first =>
        go_region_held3 (fun w' => w'.cell? ⟨g5, 1, none⟩ = some (.slice (some af) l1.length cf) ∧ w'.cell? (af.add (i * 5)) = some (.string x.f0) ∧ w'.cell? ⟨(af.add (i * 5)).block, (af.add (i * 5)).off + 1, none⟩ = some (.slice B1 m d1) ∧ w'.cell? ⟨(af.add (i * 5)).block, (af.add (i * 5)).off + 2, none⟩ = some (.int .i64 x.f2.f0) ∧ w'.cell? ⟨(af.add (i * 5)).block, (af.add (i * 5)).off + 2 + 1, none⟩ = some (.int .i64 x.f2.f1) ∧ w'.cell? ⟨(af.add (i * 5)).block, (af.add (i * 5)).off + 2 + 2, none⟩ = some (.slice B4 x.f2.f2.length d4) ∧ w'.cell? ⟨gi, 0, none⟩ = some (.string x.f0) ∧ w'.cell? ⟨gi, 1, none⟩ = some (.int .i64 (m : Int)) ∧ w'.cell? ⟨gi, 2, none⟩ = some (.int .i64 x.f2.f0) ∧ w'.cell? ⟨gi, 3, none⟩ = some (.int .i64 x.f2.f1) ∧ w'.cell? ⟨gi, 4, none⟩ = some (.slice A4 x.f2.f2.length c4)) (go_keep)
          (first
            | (go_at_call 23
               (with_reducible refine (tsame_calls x.f2.f0 x.f2.f1 HFt.out (w := wq.drew) (Kd.C_below HC7.out (below_drew (Below.refl _ _))) Hl6.out (Kd.C_below HC5.out (below_drew (Below.refl _ _))) Hl4.out).mono ?_)
               rintro e9 wA ⟨rfl, hbA⟩
               have HBA := Aside0.mk (below_step (below_drew HBq.out) hbA)
               have n0 := cell_up hbA (show wq.drew.cell? _ = _ from t1)
               have n1 := cell_up hbA (show wq.drew.cell? _ = _ from x0)
               have n2 := cell_up hbA (show wq.drew.cell? _ = _ from x1)
               have n3 := cell_up hbA (show wq.drew.cell? _ = _ from x2)
               have n4 := cell_up hbA (show wq.drew.cell? _ = _ from x3)
               have n5 := cell_up hbA (show wq.drew.cell? _ = _ from x4)
               have n6 := cell_up hbA (show wq.drew.cell? _ = _ from m0)
               have n7 := cell_up hbA (show wq.drew.cell? _ = _ from m1)
               have n8 := cell_up hbA (show wq.drew.cell? _ = _ from m2)
               have n9 := cell_up hbA (show wq.drew.cell? _ = _ from m3)
               have n10 := cell_up hbA (show wq.drew.cell? _ = _ from m4)
               clear hbA))
        all_goals (go_wp2_with fail; go_meet; exact ⟨rfl, HBA⟩)
      case rest =>
        obtain ⟨rfl, HBc⟩ := hcut
        go_wp2_with fail
        have hk := Hi.out
        obtain ⟨k1, rfl⟩ : ∃ k1, gk = k1 + 1 := ⟨gk - 1, by omega⟩
        go_roundg k1
        case measure => omega
        case rel => exact ⟨i + 1, by go_num, ⟨by omega⟩, HBc⟩
end Go.Proofs.Ytfhgoebgnilfaaa.I
namespace Go.Proofs.Ytfhgoebgnilfaaa.I
open Go.RowKit Go.Proofs.YtfhgoebgnilfaaaW.PrintWords
set_option linter.unusedVariables false
def virgationlaw04_InferValid.f (k : Nat) (l0 : List S59) (l1 : List S56) : Option Bool := if looseWf (l1.map to48) = true then some true else none
theorem virgationlaw04_InferValid.calls (k : Nat) (A0 : Option Addr) (c0 : Nat) (l0 : List S59) (A1 : Option Addr) (c1 : Nat) (l1 : List S56) (r : Bool) (w : World) (hr0 : Kd.C k59 w A0 l0.length l0) (hc0 : l0.length ≤ c0) (hr1 : Kd.C k56 w A1 l1.length l1) (hc1 : l1.length ≤ c1) (h : virgationlaw04_InferValid.f k l0 l1 = some r) :
    Calls Try.prog 7 #[.slice A0 l0.length c0, .slice A1 l1.length c1] w fun e w' => e = .returned (.bool r) ∧ Below w.heap.size w w' := by
  unfold virgationlaw04_InferValid.f at h
  by_cases hw : looseWf (l1.map to48) = true
  · rw [if_pos hw] at h
    injection h with h
    subst h
    exact valid_calls A0 c0 l0 A1 c1 l1 w hr0 hc0 hr1 hc1 hw
  · rw [if_neg hw] at h; cases h
theorem pure_InferValid : ∀ (x0 : (List S59)) (x1 : (List S56)), (x0.length ≤ 9223372036854775807 ∧ (∀ y_, y_ ∈ x0 → wf59 y_)) → (x1.length ≤ 9223372036854775807 ∧ (∀ y_, y_ ∈ x1 → wf56 y_)) → ∃ k, virgationlaw04_InferValid.f k x0 x1 = some true := by
  intro s l hs hl
  refine ⟨0, ?_⟩
  unfold virgationlaw04_InferValid.f
  rw [if_pos (looseWf_to48 hl.2)]
end Go.Proofs.Ytfhgoebgnilfaaa.I
