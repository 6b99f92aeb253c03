/- Texts of this session's proof, laid together: IC4, IC5, IC6, IC7, IP5, IC8, I6, IC9. -/
import Derived.Test.YtnfgpepggehegaaL3
namespace Go.Proofs.Ytnfgpepggehegaa.I
open Go.RowKit Go.Proofs.YtnfgpepggehegaaW.PrintWords Go.Proofs.YtnfgpepggehegaaW.PrintLast Go.Proofs.YtnfgpepggehegaaW.PrintMore
attribute [local go_sem] max2_int min2_int max_two min_two max_three min_three max_four min_four
set_option linter.unusedVariables false
set_option maxRecDepth 100000
set_option linter.unusedSimpArgs false
mutual
/-- A term with others in the place of its variables. -/
def subT (ps : List S28) : S28 → S28
  | ⟨k, n, l⟩ => if k = 0 then ⟨(rd_T28 ps n).f0, (rd_T28 ps n).f1, (rd_T28 ps n).f2 ++ subL ps l⟩ else ⟨k, n, subL ps l⟩
def subL (ps : List S28) : List S28 → List S28
  | [] => []
  | x :: xs => subT ps x :: subL ps xs
end
mutual
/-- Are a term's variables in range? -/
def okT (m : Int) : S28 → Bool
  | ⟨k, n, l⟩ => (decide (k ≠ 0) || (decide (0 ≤ n) && decide (n < m))) && okL m l
def okL (m : Int) : List S28 → Bool
  | [] => true
  | x :: xs => okT m x && okL m xs
end
mutual
theorem subT_closed (ps : List S28) : ∀ x : S28, opn x = false → subT ps x = x
  | ⟨k, n, l⟩, h => by
    unfold opn at h
    rw [Bool.or_eq_false_iff] at h
    unfold subT
    rw [if_neg (of_decide_eq_false h.1), subL_closed ps l h.2]
theorem subL_closed (ps : List S28) : ∀ l : List S28, opnL l = false → subL ps l = l
  | [], _ => by rw [subL]
  | x :: xs, h => by
    unfold opnL at h
    rw [Bool.or_eq_false_iff] at h
    rw [subL, subT_closed ps x h.1, subL_closed ps xs h.2]
end
theorem subL_len (ps : List S28) : ∀ l : List S28, (subL ps l).length = l.length
  | [] => by rw [subL]
  | x :: xs => by rw [subL, List.length_cons, List.length_cons, subL_len ps xs]
theorem subL_app (ps : List S28) : ∀ l m : List S28, subL ps (l ++ m) = subL ps l ++ subL ps m
  | [], m => by rw [subL]; rfl
  | x :: xs, m => by rw [List.cons_append, subL, subL, subL_app ps xs m]; rfl
theorem subL_take (ps : List S28) {l : List S28} {i : Nat} (h : i < l.length) : subL ps (l.take (i + 1)) = subL ps (l.take i) ++ [subT ps l[i]] := by
  rw [take28 h, subL_app, subL, subL]
theorem okL_at (m : Int) : ∀ (l : List S28), okL m l = true → ∀ i (h : i < l.length), okT m l[i] = true
  | [], _, i, h => absurd h (Nat.not_lt_zero _)
  | x :: xs, hl, i, h => by
    unfold okL at hl
    rw [Bool.and_eq_true] at hl
    cases i with
    | zero => exact hl.1
    | succ i => exact okL_at m xs hl.2 i (by simpa using h)
theorem okT_at {m k n : Int} {l : List S28} (h : okT m ⟨k, n, l⟩ = true) : (k = 0 → 0 ≤ n ∧ n < m) ∧ okL m l = true := by
  unfold okT at h
  simp only [Bool.and_eq_true, Bool.or_eq_true, decide_eq_true_eq] at h
  refine ⟨fun hk => ?_, h.2⟩
  rcases h.1 with h | h
  · exact absurd hk h
  · exact h
theorem tcnt_at : ∀ (l : List S28) (i : Nat) (h : i < l.length), tcnt l[i] ≤ tcntL l
  | [], i, h => absurd h (Nat.not_lt_zero _)
  | x :: xs, i, h => by
    have h1 := tcnt_ge x
    have h2 := tcntL_ge xs
    rw [tcntL]
    cases i with
    | zero => show tcnt x ≤ _; omega
    | succ i => have := tcnt_at xs i (by simpa using h); show tcnt (xs[i]'(by simpa using h)) ≤ _; omega
theorem size_at (l : List S28) (i : Nat) (h : i < l.length) : SizeOf.sizeOf l[i] < SizeOf.sizeOf l := List.sizeOf_lt_of_mem (List.getElem_mem h)
set_option maxHeartbeats 16000000 in
theorem csub_calls (N : Nat) : ∀ (t : S28) (v : Value) (ps : List S28) (aR : Value) (avs : List Value) (ok : Nat → Prop) (w : World), SizeOf.sizeOf t < N → okT (ps.length : Int) t = true → tcnt t ≤ 1000000 → (∀ x ∈ ps, tcnt x ≤ 1000000) → (∀ q, ok q → q < w.heap.size) → Cl w ok t v → Row w ok aR avs → ClL w ok ps avs →
    Calls Try.prog 65 #[v, aR] w fun e w' => ∃ g, e = .returned (.pointer (some ⟨g, 0, none⟩)) ∧ Cl w' (fun q => ok q ∨ w.heap.size ≤ q) (subT ps t) (.pointer (some ⟨g, 0, none⟩)) ∧ Below w.heap.size w w' := by
  have hu28 := Try.underlying28
  have hu74 := Try.underlying74
  induction N with
  | zero => intro t v ps aR avs ok w hN; omega
  | succ N ih =>
  rintro ⟨k, n, l⟩ v ps aR avs ok w hN hok ht hps hlt hv har hal
  have HV := Az.mk hv
  unfold Cl at hv
  obtain ⟨gc, av, vs, rfl, _, hgc, hrow, hl⟩ := hv
  have hlv := ClL_len l vs hl
  have hav := ClL_len ps avs hal
  obtain ⟨A, c, rfl⟩ := Row_slice hrow
  obtain ⟨Aa, ca, rfl⟩ := Row_slice har
  have hlen : l.length ≤ 9223372036854775807 := by have := (Row_C hrow).2.2.2.1; omega
  have hlena : ps.length ≤ 9223372036854775807 := by have := (Row_C har).2.2.2.1; omega
  have HRow := Az.mk hrow
  have HAR := Az.mk har
  rw [← hlv] at HRow hgc
  rw [← hav] at HAR ⊢
  have HL := Az.mk hl
  have HAL := Az.mk hal
  have HLV := Az.mk hlv
  have HAV := Az.mk hav
  have HG := Az.mk hgc
  have HN := Az.mk hN
  have HOK := Az.mk hok
  have HT := Az.mk ht
  have HPS := Az.mk hps
  have HLT := Az.mk hlt
  have HLen := Az.mk (show l.length ≤ 1000000 from by have := tcntL_ge l; have : tcnt ⟨k, n, l⟩ = 1 + tcntL l := tcnt_f2 ⟨k, n, l⟩; omega)
  have HTL := Az.mk (show tcntL l ≤ 1000000 from by have : tcnt ⟨k, n, l⟩ = 1 + tcntL l := tcnt_f2 ⟨k, n, l⟩; omega)
  have IH := Az.mk ih
  obtain ⟨op, hop⟩ : ∃ op, op = opn ⟨k, n, l⟩ := ⟨_, rfl⟩
  rw [← hop] at HG
  have HOp := Az.mk hop
  clear hN ht ih hgc hl hlv hrow har hal hav hok hps hlt hop
  have e4 : w.cell? ⟨gc, 4, none⟩ = some (.bool op) := (blk_cell HG.out 4).trans rfl
  have e2 : w.cell? ⟨gc, 2, none⟩ = some (.slice A l.length c) := (blk_cell HG.out 2).trans rfl
  go_enter Try.func65, Try.ntmps65
  cases op with
  | false =>
    have HS := Az.mk (subT_closed ps ⟨k, n, l⟩ HOp.out.symm)
    clear e2
    go_wp2_with fail
    go_ret
    refine ⟨gc, rfl, ?_, Below.refl _ _⟩
    rw [HS.out]
    exact Cl_mono (fun q hq _ => .inl hq) HV.out
  | true =>
  clear HV HOp
  go_wp2_with fail
  clear e2 e4
  go_loopg [5, 20] l.length (fun kq v5 v20 wr => ∃ (i : Nat) (Ax : Option Addr) (cx : Nat) (us : List Value), v5 = .slice Ax i cx ∧ v20 = .int .i64 (i : Int) ∧ Az (i + kq = l.length) ∧ Az (us.length = i) ∧ Az ((Kd.raw 1).R 65 wr w.heap.size (fun q => w.heap.size ≤ q) (.slice Ax i cx) (us.map (fun v => [v]))) ∧ Az (ClL wr (fun q => (ok q ∨ w.heap.size ≤ q) ∧ some q ≠ (Value.slice Ax i cx).ownBlock) (subL ps (l.take i)) us) ∧ Az (Below w.heap.size w wr))
  case atStart => exact ⟨0, none, 0, [], rfl, rfl, ⟨by omega⟩, ⟨rfl⟩, ⟨Kd.R_nil _ _ _ _ _⟩, ⟨by rw [List.take_zero, subL]; exact ClL_nil⟩, ⟨Below.refl _ _⟩⟩
  case round =>
    obtain ⟨i, Ax, cx, us, rfl, rfl, Hi, HU, HRx, HF, HB⟩ := hrel
    by_cases hlt : i < l.length
    · cases gk with
      | zero => exact absurd Hi.out (by omega)
      | succ k1 =>
      have hlv : i < vs.length := by have := HLV.out; omega
      obtain ⟨ad, he, hx⟩ := Row_at (Row_below HB.out HRow.out) hlv
      cases he
      have hcl := ClL_at l vs HL.out i hlt hlv
      have HSN := Az.mk (subL_take ps hlt)
      have HSZ := Az.mk (show SizeOf.sizeOf l[i] < N from by have := size_at l i hlt; have h2 := HN.out; have h3 : SizeOf.sizeOf l < SizeOf.sizeOf (⟨k, n, l⟩ : S28) := (by simp; omega); omega)
      have HTC := Az.mk (show tcnt l[i] ≤ 1000000 from by have := tcnt_at l i hlt; have := HTL.out; omega)
      have HOI := Az.mk (okL_at _ l (okT_at HOK.out).2 i hlt)
      have HLTr := Az.mk (fun q (h : ok q) => (show q < wr.heap.size from by have := HLT.out q h; have := HB.out.size; omega))
      generalize l[i] = x at *
      have hcl2 := hcl
      cases x with
      | mk a1 b1 l1 =>
      unfold Cl at hcl2
      obtain ⟨g1, _, _, hvi, _, _, _, _⟩ := hcl2
      rw [hvi] at hx hcl
      have HCL := Az.mk hcl
      have Hlt := Az.mk hlt
      have q1 : (0 ≤ (i : Int)) = True := eq_true (by omega)
      have q2 : ((i : Int) < (l.length : Int)) = True := eq_true (by omega)
      have q3 : (i < l.length) = True := eq_true (by omega)
      clear hcl hvi hlv
      go_wp2_with fail
      (with_reducible refine (IH.out ⟨a1, b1, l1⟩ _ ps (.slice Aa ps.length ca) avs ok wr HSZ.out HOI.out HTC.out HPS.out HLTr.out (Cl_below HB.out HCL.out) (Row_below HB.out HAR.out) (ClL_below HB.out HAL.out)).mono ?_)
      rintro e w8 ⟨gv, rfl, hfv, hb8⟩
      have hrx8 := Kd.R_below HRx.out hb8
      have hown := Kd.R_lt HRx.out
      have hbase := Kd.R_base HRx.out
      have HX8 := Az.mk (Cl_mono (ok1 := fun q => (ok q ∨ w.heap.size ≤ q) ∧ some q ≠ (Value.slice Ax i cx).ownBlock) (fun q hq _ => by
        rcases hq with hq | hq
        · exact ⟨.inl hq, fun he => by have := hbase q he.symm; have := HLT.out q hq; omega⟩
        · exact ⟨.inr (by have := HB.out.size; omega), fun he => by have := hown q he.symm; omega⟩) hfv)
      have HF8 := Az.mk (ClL_below hb8 HF.out)
      have HR8 := Az.mk hrx8
      have HB8 := Az.mk (bst HB.out hb8)
      clear hfv hrx8 hown hbase hb8 HB HRx HF hx
      go_wp2_with (at_builtin; refine holdX ?_)
      unfold HoldX
      refine Kd.R_append (Kd.raw 1) (w0 := w) w.heap.size rfl (.tmp 24) (.tmp 28) 67 65 (.pointer none) 8 rfl Try.underlying67 (by kernel_rfl) rfl (by decide) (by omega) (.slice Ax i cx) (us.map (fun v => [v])) [.pointer (some ⟨gv, 0, none⟩)] [.pointer (some ⟨gv, 0, none⟩)] (fun q => w.heap.size ≤ q) (fun _ => False) rfl rfl ⟨rfl, rfl, fun u hu => by rw [List.mem_singleton.1 hu]; rfl⟩ (fun _ hk => hk.elim) (fun q hq => by have := HB8.out.size; omega) HR8.out HB8.out HB8.out.size (by rw [List.length_map, HU.out]; have := Hlt.out; have := HLen.out; omega) ?_
      intro v2 w7 hrf hb7 hg7 hat
      have hsn : (us.map (fun v => [v])) ++ [[Value.pointer (some ⟨gv, 0, none⟩)]] = (us ++ [Value.pointer (some ⟨gv, 0, none⟩)]).map (fun v => [v]) := by rw [List.map_append]; rfl
      rw [hsn] at hrf
      obtain ⟨A5, c5, e5⟩ := Kd.R_slice hrf
      rw [List.length_map, List.length_append, HU.out] at e5
      replace e5 : v2 = .slice A5 (i + 1) c5 := e5
      subst e5
      have hf7 := ClL_after (ClL_snoc HF8.out HX8.out) hg7 hat
      rw [← HSN.out] at hf7
      have HF7 := Az.mk hf7
      have HR7 := Az.mk hrf
      have HB7 := Az.mk hb7
      clear hrf hb7 hg7 hat hsn hf7 HF8 HX8 HR8 HB8
      go_wp2_with fail
      go_roundg k1
      case measure => omega
      case rel => exact ⟨i + 1, A5, c5, _, rfl, by go_num, ⟨by have := Hi.out; omega⟩, ⟨by rw [List.length_append, HU.out]; rfl⟩, HR7, HF7, HB7⟩
    have hie : i = l.length := by have := Hi.out; omega
    subst hie
    have hF := HF.out
    rw [List.take_length] at hF
    have HF2 := Az.mk hF
    have HGr := Az.mk (bkB HG.out HB.out)
    have e0 : wr.cell? ⟨gc, 0, none⟩ = some (.int .i64 k) := (blk_cell HGr.out 0).trans rfl
    have e1 : wr.cell? ⟨gc, 1, none⟩ = some (.int .i64 n) := (blk_cell HGr.out 1).trans rfl
    clear hF HF hlt Hi
    by_cases hk : k = 0
    rotate_left
    · have b1 : (k != 0) = true := bne_iff_ne.2 hk
      have b2 : (k == 0) = false := beq_eq_false_iff_ne.2 hk
      have HE := Az.mk (show subT ps ⟨k, n, l⟩ = ⟨k, n, subL ps l⟩ from by unfold subT; rw [if_neg hk])
      have HRow2 := Az.mk (Row_of HRx.out)
      have HCl2 := Az.mk (ClL_mono (ok1 := fun q => ok q ∨ w.heap.size ≤ q) (fun q hq _ => hq.1) HF2.out)
      have HRow3 := Az.mk (show Row wr (fun q => ok q ∨ w.heap.size ≤ q) (.slice Ax l.length cx) us from Kd.V_mono HRow2.out (fun q hq => .inr hq))
      clear hk HRow2
      go_upto_region 10 with fail
      try simp only [Act.put, List.setIfInBounds_toArray, List.set_cons_succ, List.set_cons_zero]
      go_cut [4] from 36 to 45 (fun v4 wc => ∃ g : Nat, v4 = .pointer (some ⟨g, 0, none⟩) ∧ Az (Cl wc (fun q => ok q ∨ w.heap.size ≤ q) ⟨k, n, subL ps l⟩ (.pointer (some ⟨g, 0, none⟩))) ∧ Az (Below w.heap.size w wc))
      case first =>
        go_region_held3 (fun w' => w'.cell? ⟨gc, 0, none⟩ = some (.int .i64 k) ∧ w'.cell? ⟨gc, 1, none⟩ = some (.int .i64 n)) (go_keep)
          (first
            | (go_at_call 66
               (with_reducible refine (new_calls k n (subL ps l) (.slice Ax l.length cx) us wr.drew _ (Row_below (below_drew (Below.refl _ _)) HRow3.out) (ClL_below (below_drew (Below.refl _ _)) HCl2.out)).mono ?_)
               rintro e9 wA ⟨g, rfl, hg, hcell, hbA⟩
               have HCn := Az.mk (Cl_new (Row_below (below_drew (Below.refl _ _)) HRow3.out) (ClL_below (below_drew (Below.refl _ _)) HCl2.out) hbA hg hcell)
               have HBA := Az.mk (bst (below_drew HB.out) hbA)
               have z0 := cell_up hbA (show wr.drew.cell? _ = _ from e0)
               have z1 := cell_up hbA (show wr.drew.cell? _ = _ from e1)
               have HSz := Az.mk (show w.heap.size ≤ wr.drew.heap.size from HB.out.size)
               clear hg hcell hbA))
        all_goals (go_wp2_with fail; go_meet; exact ⟨_, rfl, ⟨Cl_mono (fun q hq _ => by rcases hq with hq | hq; exact hq; exact .inr (Nat.le_trans HSz.out hq)) HCn.out⟩, HBA⟩)
      case rest =>
        obtain ⟨g, rfl, HCn, HBc⟩ := hcut
        clear e0 e1
        go_wp2_with fail
        go_ret
        exact ⟨g, rfl, by rw [HE.out]; exact HCn.out, HBc.out⟩
    · subst hk
      obtain ⟨hn0, hn1⟩ := (okT_at HOK.out).1 rfl
      obtain ⟨m, rfl⟩ : ∃ m : Nat, n = (m : Int) := ⟨n.toNat, by omega⟩
      have hm : m < ps.length := by omega
      have hma : m < avs.length := by have := HAV.out; omega
      obtain ⟨ada, he, hx⟩ := Row_at (Row_below HB.out HAR.out) hma
      cases he
      have hcl := ClL_at ps avs HAL.out m hm hma
      have hrd : rd_T28 ps (m : Int) = ps[m] := by unfold rd_T28; rw [Int.toNat_natCast, List.getD_eq_getElem?_getD, List.getElem?_eq_getElem hm]; rfl
      have HE := Az.mk (show subT ps ⟨0, (m : Int), l⟩ = ⟨ps[m].f0, ps[m].f1, ps[m].f2 ++ subL ps l⟩ from by unfold subT; rw [if_pos rfl, hrd])
      have HTA := Az.mk (HPS.out ps[m] (List.getElem_mem hm))
      generalize ps[m] = x at *
      have hcl2 := hcl
      cases x with
      | mk k1 n1 l1 =>
      unfold Cl at hcl2
      obtain ⟨g1, a1, vs1, hvi, _, hg1, hrow1, hl1⟩ := hcl2
      rw [hvi] at hx hcl
      obtain ⟨A1, c1, rfl⟩ := Row_slice hrow1
      have hlv1 := ClL_len l1 vs1 hl1
      rw [← hlv1] at hg1 hrow1
      have HCL := Az.mk hcl
      have HRow1 := Az.mk hrow1
      have HL1 := Az.mk hl1
      have HLV1 := Az.mk hlv1
      have HG1 := Az.mk (bkB hg1 HB.out)
      have q1 : (0 ≤ (m : Int)) = True := eq_true (by omega)
      have q2 : ((m : Int) < (ps.length : Int)) = True := eq_true (by omega)
      have q3 : (m < ps.length) = True := eq_true hm
      clear hcl hvi hg1 hrow1 hl1 hlv1 hn0 hn1 hm hma hrd
      by_cases hz : l.length = 0
      · have hnil : l = [] := List.eq_nil_of_length_eq_zero hz
        have HE2 := Az.mk (show subT ps ⟨0, (m : Int), l⟩ = ⟨k1, n1, l1⟩ from by rw [HE.out, hnil, subL, List.append_nil])
        have b1 : (l.length : Int) = 0 := by omega
        have HBx := HB
        clear hnil HE
        go_wp2_with fail
        go_ret
        exact ⟨g1, rfl, by rw [HE2.out]; exact Cl_mono (fun q hq _ => .inl hq) (Cl_below HB.out HCL.out), HB.out⟩
      have b1 : ((l.length : Int) = 0) = False := eq_false (by omega)
      have b2 : (l.length = 0) = False := eq_false hz
      have b3 : ((l.length : Int) == 0) = false := beq_eq_false_iff_ne.2 (by omega)
      have b4 : (l.length == 0) = false := beq_eq_false_iff_ne.2 hz
      go_upto_region 14 with fail
      clear b1 b2 b3 b4 hx q1 q2 q3 hz e0 e1
      have HLen1 := Az.mk (show l1.length ≤ 1000000 from by have := tcntL_ge l1; have : tcnt ⟨k1, n1, l1⟩ = 1 + tcntL l1 := tcnt_f2 ⟨k1, n1, l1⟩; have := HTA.out; omega)
      have HBd := Az.mk (below_drew HB.out)
      have HC1 := Az.mk (show Kd.C (Kd.raw 1) wr.drew A1 l1.length (vs1.map (fun v => [v])) from by have := (Row_C (Row_below HBd.out HRow1.out)).2.2; rw [← HLV1.out] at this; exact this)
      have d0 : wr.cell? ⟨g1, 0, none⟩ = some (.int .i64 k1) := (blk_cell HG1.out 0).trans rfl
      have d1 : wr.cell? ⟨g1, 1, none⟩ = some (.int .i64 n1) := (blk_cell HG1.out 1).trans rfl
      have d2 : wr.cell? ⟨g1, 2, none⟩ = some (.slice A1 l1.length c1) := (blk_cell HG1.out 2).trans rfl
      try simp only [Act.put, List.setIfInBounds_toArray, List.set_cons_succ, List.set_cons_zero]
      go_cut [4] from 57 to 72 (fun v4 wc => ∃ g : Nat, v4 = .pointer (some ⟨g, 0, none⟩) ∧ Az (Cl wc (fun q => ok q ∨ w.heap.size ≤ q) ⟨k1, n1, l1 ++ subL ps l⟩ (.pointer (some ⟨g, 0, none⟩))) ∧ Az (Below w.heap.size w wc))
      case first =>
        go_region_law
          (first
            | (refine Kd.R_append_rows_step (Kd.raw 1) (Rr := (Kd.raw 1).K wr.drew) (w0 := w) w.heap.size rfl (.const (.slice none 0 0)) (.tmp 68) 67 65 (.pointer none) 8 rfl Try.underlying67 (by kernel_rfl) rfl (by decide) (by omega) (.slice none 0 0) [] (vs1.map (fun v => [v])) A1 l1.length c1 (fun q => w.heap.size ≤ q) (fun _ => False) rfl rfl (Kd.R_nil _ _ _ _ _) HC1.out (fun x cs h => h) (fun _ hk => hk.elim) (fun q hq => by have := HBd.out.size; omega) HBd.out HBd.out.size (by have := HLen1.out; simp only [List.length_nil]; omega) ?_
               intro v7 w7 hR7 hb7 hg7 hat7
               rw [List.nil_append] at hR7
               obtain ⟨A7, c7, e7⟩ := Kd.R_slice hR7
               rw [List.length_map, ← HLV1.out] at e7
               subst e7
               have HR7 := Az.mk hR7
               have HB7 := Az.mk hb7
               have HRx7 := Az.mk (Kd.R_grown (Kd.R_drew HRx.out) hg7 (fun q _ he => by simp [Value.ownBlock] at he))
               have HCx7 := Az.mk (show Kd.C (Kd.raw 1) w7 Ax l.length (us.map (fun v => [v])) from by have h := (Kd.R_reads' HRx7.out).2.2; rw [List.length_map, HU.out] at h; exact h)
               have HF7 := Az.mk (ClL_imp (w1 := w7) (ok1 := fun q => (ok q ∨ w.heap.size ≤ q) ∧ some q ≠ (Value.slice A7 l1.length c7).ownBlock) (fun q _ hq => hg7.block q hq (by simp [Value.ownBlock])) (fun q hq hlt => ⟨hq.1, fun he => by
                 rcases hat7 with e | ⟨b, e, hb⟩
                 · rw [e] at he; simp [Value.ownBlock] at he
                 · rw [e] at he; injection he with he; omega⟩) _ _ (ClL_below (below_drew (Below.refl _ _)) HF2.out))
               have HG7 := Az.mk (blk_grown (blk_drew HG1.out) hg7 (by simp [Value.ownBlock]))
               have x0 : w7.cell? ⟨g1, 0, none⟩ = some (.int .i64 k1) := (blk_cell HG7.out 0).trans rfl
               have x1 : w7.cell? ⟨g1, 1, none⟩ = some (.int .i64 n1) := (blk_cell HG7.out 1).trans rfl
               have x2 : w7.cell? ⟨g1, 2, none⟩ = some (.slice A1 l1.length c1) := (blk_cell HG7.out 2).trans rfl
               clear hR7 hb7 hg7 hat7)
            | (refine Kd.R_append_rows_step (Kd.raw 1) (Rr := (Kd.raw 1).K w7) (w0 := w) w.heap.size rfl (.tmp 69) (.tmp 70) 67 65 (.pointer none) 8 rfl Try.underlying67 (by kernel_rfl) rfl (by decide) (by omega) (.slice A7 l1.length c7) (vs1.map (fun v => [v])) (us.map (fun v => [v])) Ax l.length cx (fun q => w.heap.size ≤ q) (fun _ => False) rfl rfl HR7.out HCx7.out (fun x cs h => h) (fun _ hk => hk.elim) (fun q hq => by have := HB7.out.size; omega) HB7.out HB7.out.size (by rw [List.length_map, ← HLV1.out]; have := HLen1.out; have := HLen.out; omega) ?_
               intro v8 w8 hR8 hb8 hg8 hat8
               rw [← List.map_append] at hR8
               have HRow8 := Az.mk (show Row w8 (fun q => ok q ∨ w.heap.size ≤ q) v8 (vs1 ++ us) from Kd.V_mono (Row_of hR8) (fun q hq => .inr hq))
               obtain ⟨A8, c8, e8⟩ := Kd.R_slice hR8
               rw [List.length_map, List.length_append, ← HLV1.out, HU.out] at e8
               subst e8
               have HB8 := Az.mk hb8
               have HF8 := Az.mk (ClL_app _ _ _ _ (ClL_mono (ok1 := fun q => ok q ∨ w.heap.size ≤ q) (fun q hq _ => .inl hq) (ClL_below hb8 HL1.out)) (ClL_imp (w1 := w8) (ok1 := fun q => ok q ∨ w.heap.size ≤ q) (fun q hq hlt => hg8.block q hlt hq.2) (fun q hq _ => hq.1) _ _ HF7.out))
               have HG8 := Az.mk (blk_grown HG7.out hg8 (fun he => by have := Kd.R_base HR7.out g1 he.symm; have hc := HCL.out; unfold Cl at hc; obtain ⟨g', _, _, eg, hok, _⟩ := hc; injection eg with eg; injection eg with eg; injection eg with eg; subst eg; have := HLT.out g1 hok; omega))
               have y0 : w8.cell? ⟨g1, 0, none⟩ = some (.int .i64 k1) := (blk_cell HG8.out 0).trans rfl
               have y1 : w8.cell? ⟨g1, 1, none⟩ = some (.int .i64 n1) := (blk_cell HG8.out 1).trans rfl
               have y2 : w8.cell? ⟨g1, 2, none⟩ = some (.slice A1 l1.length c1) := (blk_cell HG8.out 2).trans rfl
               clear hR8 hb8 hg8 hat8)
            | (go_simp
               go_at_call 66
               (with_reducible refine (new_calls k1 n1 (l1 ++ subL ps l) (.slice A8 (l1.length + l.length) c8) (vs1 ++ us) w8 _ HRow8.out HF8.out).mono ?_)
               rintro e9 wA ⟨g, rfl, hg, hcell, hbA⟩
               have HCn := Az.mk (Cl_new HRow8.out HF8.out hbA hg hcell)
               have HBA := Az.mk (bst HB8.out hbA)
               clear hg hcell hbA))
        all_goals (go_wp2_with fail; go_meet; exact ⟨_, rfl, ⟨Cl_mono (fun q hq _ => by rcases hq with hq | hq; exact hq; exact .inr (Nat.le_trans HB8.out.size hq)) HCn.out⟩, HBA⟩)
      case rest =>
        obtain ⟨g, rfl, HCn, HBc⟩ := hcut
        clear d0 d1 d2
        go_wp2_with fail
        go_ret
        exact ⟨g, rfl, by rw [HE.out]; exact HCn.out, HBc.out⟩
end Go.Proofs.Ytnfgpepggehegaa.I
namespace Go.Proofs.Ytnfgpepggehegaa.I
open Go.RowKit Go.Proofs.YtnfgpepggehegaaW.PrintWords Go.Proofs.YtnfgpepggehegaaW.PrintLast Go.Proofs.YtnfgpepggehegaaW.PrintMore
attribute [local go_sem] max2_int min2_int max_two min_two max_three min_three max_four min_four
set_option linter.unusedVariables false
set_option maxRecDepth 100000
set_option linter.unusedSimpArgs false
theorem grownT {w w1 : World} {g t : Nat} {cs : Array Value} {row : Option Nat} (h : w.heap[g]? = some (.cells cs t (0, 0))) (hg : w.grownBy w1 row) (ht : ∀ k, row = some k → ∃ q cells, q ≠ t ∧ w.heap[k]? = some (.cells cells q (0, 0))) : w1.heap[g]? = some (.cells cs t (0, 0)) :=
  blk_grown h hg (fun e => by
    obtain ⟨q, cells, hq, hc⟩ := ht _ e.symm
    exact hq (blk_type hc h))
theorem take84f {l : List S84} {i : Nat} (h : i < l.length) : (l.take (i + 1)).map (·.f2) = (l.take i).map (·.f2) ++ [(rd_T84 l (i : Int)).f2] := by
  have e2 : rd_T84 l (i : Int) = l[i] := by unfold rd_T84; rw [Int.toNat_natCast, List.getD_eq_getElem?_getD, List.getElem?_eq_getElem h]; rfl
  rw [List.take_add_one, List.getElem?_eq_getElem h, List.map_append, e2]; rfl
set_option maxHeartbeats 16000000 in
theorem cscheme_calls (A0 : Option Addr) (c0 n0 : Nat) (A1 : Option Addr) (c1 : Nat) (l1 : List S84) (w : World) (hr1 : Kd.C k84 w A1 l1.length l1) (h64 : l1.length ≤ 64) (hbg : ∀ x ∈ l1, tcntL x.f2.f2 ≤ 1000000) :
    Calls Try.prog 37 #[.agg #[.slice A0 n0 c0, .slice A1 l1.length c1]] w fun e w' => ∃ Ab cb Ap cp bs, e = .returned (.agg #[.slice Ab l1.length cb, .slice Ap l1.length cp]) ∧ Row w' (fun q => w.heap.size ≤ q) (.slice Ab l1.length cb) bs ∧ ClL w' (fun q => w.heap.size ≤ q) (l1.map (·.f2)) bs ∧ Below w.heap.size w w' := by
  have hu25 := Try.underlying25
  have hu69 := Try.underlying69
  have hu84 := Try.underlying84
  have hu53 := Try.underlying53
  have hu28 := Try.underlying28
  have hlen1 : l1.length ≤ 9223372036854775807 := hr1.2.1
  have HR1 := Az.mk hr1
  have H64 := Az.mk h64
  have HBG := Az.mk hbg
  clear hr1 h64 hbg
  go_enter Try.func37, Try.ntmps37
  go_wp2_with (first
    | ((with_reducible refine gate_dst (N := 1) rfl ?_)
       refine box_event ?hg (N := 1) ?hd (cs := #[.slice A0 n0 c0, .slice A1 l1.length c1]) (t := 25) ?hr ?_
       (case hd => rfl)
       (case hg => rfl)
       (case hr => first | (go_simp; done) | (go_simp; rfl))
       intro g1 hg1 w1 hbox hb1
       have S11 := Az.mk hbox
       have HB1 := Az.mk hb1
       clear hbox hb1 hg1)
    | ((with_reducible refine gate_dst (N := 2) rfl ?_)
       refine box_event ?hg (N := 2) ?hd (cs := #[.slice none 0 0, .slice none 0 0]) (t := 69) ?hr ?_
       (case hd => rfl)
       (case hg => rfl)
       (case hr => first | (go_simp; done) | (go_simp; rfl))
       intro g2 hg2 w2 hbox hb2
       have S12 := Az.mk (bkB S11.out hb2)
       have S22 := Az.mk hbox
       have HB2 := Az.mk (bst HB1.out hb2)
       have HG2 := Az.mk (show w.heap.size ≤ g2 from by have := HB1.out.size; omega)
       clear hbox hb2 hg2 S11 HB1)
    | ((with_reducible refine gate_dst (N := 3) rfl ?_)
       refine box_event ?hg (N := 3) ?hd (cs := #[.slice none 0 0, .slice none 0 0]) (t := 69) ?hr ?_
       (case hd => rfl)
       (case hg => rfl)
       (case hr => first | (go_simp; done) | (go_simp; rfl))
       intro g3 hg3 w3 hbox hb3
       have S3 := Az.mk hbox
       have S2 := Az.mk (bkB S22.out hb3)
       have HB3 := Az.mk (bst HB2.out hb3)
       have HG3 := Az.mk (show w.heap.size ≤ g3 from by have := HB2.out.size; omega)
       have H23 := Az.mk (show g2 ≠ g3 from by have := blk_lt S22.out; omega)
       have e1 : w3.cell? ⟨g1, 1, none⟩ = some (.slice A1 l1.length c1) := (blk_cell (bkB S12.out hb3) 1).trans rfl
       clear hbox hb3 hg3 S12 S22 HB2))
  clear e1
  go_loopg [9] l1.length (fun kq v9 wr => ∃ (i : Nat) (Ab : Option Addr) (cb : Nat) (Ap : Option Addr) (cp : Nat) (bs : List Value) (is : List Int), v9 = .int .i64 (i : Int) ∧ Az (i + kq = l1.length) ∧ Az (bs.length = i ∧ is.length = i) ∧ Az ((Kd.raw 1).R 65 wr w.heap.size (fun q => w.heap.size ≤ q) (.slice Ab i cb) (bs.map (fun v => [v]))) ∧ Az (Kd.R (Kd.int .i64) 3 wr w.heap.size (fun _ => True) (.slice Ap i cp) is) ∧ Az (ClL wr (fun q => (w.heap.size ≤ q ∧ q ≠ g2 ∧ q ≠ g3 ∧ some q ≠ (Value.slice Ap i cp).ownBlock) ∧ some q ≠ (Value.slice Ab i cb).ownBlock) ((l1.take i).map (·.f2)) bs) ∧ Az (wr.heap[g3]? = some (.cells #[.slice Ab i cb, .slice Ap i cp] 69 (0, 0))) ∧ Az (wr.heap[g2]? = some (.cells #[.slice none 0 0, .slice none 0 0] 69 (0, 0))) ∧ Az (Below w.heap.size w wr))
  case atStart => exact ⟨0, none, 0, none, 0, [], [], rfl, ⟨by omega⟩, ⟨rfl, rfl⟩, ⟨Kd.R_nil _ _ _ _ _⟩, ⟨Kd.R_nil _ _ _ _ _⟩, ⟨ClL_nil⟩, S3, S2, HB3⟩
  case round =>
    clear S3 S2 HB3
    obtain ⟨i, Ab, cb, Ap, cp, bs, is, rfl, Hi, HU, HRb, HRp, HF, S3, S2, HB⟩ := hrel
    by_cases hlt : i < l1.length
    rotate_left
    · have hie : i = l1.length := by have := Hi.out; omega
      subst hie
      have d0 : wr.cell? ⟨g3, 0, none⟩ = some (.slice Ab l1.length cb) := (blk_cell S3.out 0).trans rfl
      have d1 : wr.cell? ⟨g3, 1, none⟩ = some (.slice Ap l1.length cp) := (blk_cell S3.out 1).trans rfl
      have z0 : wr.cell? ⟨g2, 0, none⟩ = some (.slice none 0 0) := (blk_cell S2.out 0).trans rfl
      have z1 : wr.cell? ⟨g2, 1, none⟩ = some (.slice none 0 0) := (blk_cell S2.out 1).trans rfl
      have f0 := bkF S2.out 0
      have f1 := bkF S2.out 1
      have hF := HF.out
      rw [List.take_length] at hF
      have HF2 := Az.mk hF
      clear hF HF Hi hlt
      go_wp2_with fail
      have Sz := blk_put (cs' := #[.slice Ab l1.length cb, .slice Ap l1.length cp]) (blk_put (cs' := #[.slice Ab l1.length cb, .slice none 0 0]) S2.out 0 (.slice Ab l1.length cb) rfl) 1 (.slice Ap l1.length cp) rfl
      refine bodyPost_ret (results_cell_row rfl _ _ g2 69 #[.slice Ab l1.length cb, .slice Ap l1.length cp] (0, 0) _ rfl Sz Try.underlying69 rfl (by kernel_rfl)) rfl ?_
      have S2' := blk_put (cs' := #[.slice Ab l1.length cb, .slice none 0 0]) S2.out 0 (.slice Ab l1.length cb) rfl
      have hR := Kd.R_set (Kd.R_set HRb.out S2.out (by decide) 0 (.slice Ab l1.length cb)) S2' (by decide) 1 (.slice Ap l1.length cp)
      exact ⟨Ab, cb, Ap, cp, bs, rfl, Row_of hR, ClL_imp (fun q hq _ => (Below.heap_setCell _ ⟨g2, 1, none⟩ _ q hq.1.2.1).trans (Below.heap_setCell _ ⟨g2, 0, none⟩ _ q hq.1.2.1)) (fun q hq _ => hq.1.1) _ _ HF2.out, bset (bset HB.out HG2.out) HG2.out⟩
    cases gk with
    | zero => exact absurd Hi.out (by omega)
    | succ k1 =>
    obtain ⟨ad', A3, c3, A4, c4, he, hx0, hx1, hx2, hx3, hx4, hl3, hC3, hl4, hC4⟩ := at_T84 (Kd.C_below HR1.out HB.out) (i : Int) (by omega) (by omega)
    cases he
    rw [Int.toNat_natCast] at hx0 hx1 hx2 hx3 hx4
    have HC4 := Az.mk hC4
    have Hl4 := Az.mk hl4
    have HSN := Az.mk (take84f hlt)
    have HTC := Az.mk (HBG.out (rd_T84 l1 (i : Int)) (by unfold rd_T84; rw [Int.toNat_natCast, List.getD_eq_getElem?_getD, List.getElem?_eq_getElem hlt]; exact List.getElem_mem _))
    have Hlt := Az.mk hlt
    have q1 : (0 ≤ (i : Int)) = True := eq_true (by omega)
    have q2 : ((i : Int) < (l1.length : Int)) = True := eq_true (by omega)
    have q3 : (i < l1.length) = True := eq_true (by omega)
    clear hC3 hl4 hC4 hl3
    generalize rd_T84 l1 (i : Int) = x at *
    have HXX := Az.mk (show (⟨x.f2.f0, x.f2.f1, x.f2.f2⟩ : S28) = x.f2 from by cases x.f2; rfl)
    go_upto_region 5 with (
      (with_reducible refine gate_dst (N := 5) rfl ?_)
      refine box_event ?hg (N := 5) ?hd (cs := #[.string (⟨#[]⟩ : ByteArray), .slice none 0 0, .int .i64 0, .int .i64 0, .slice none 0 0]) (t := 84) ?hr ?_
      (case hd => rfl)
      (case hg => rfl)
      (case hr => first | (go_simp; done) | (go_simp; rfl))
      intro gi hgi w6 hbox hbb
      have hgw : wr.heap.size ≤ gi := by omega
      have Hbwgi := Az.mk (bset (g := gi) (j := 4) (v := .slice A4 x.f2.f2.length c4) (bset (g := gi) (j := 3) (v := .int .i64 x.f2.f1) (bset (g := gi) (j := 2) (v := .int .i64 x.f2.f0) (bset (g := gi) (j := 1) (v := .slice A3 x.f1.f0.length c3) (bset (g := gi) (j := 0) (v := .string x.f0) hbb hgw) hgw) hgw) hgw) hgw)
      have Sgi := Az.mk (blk_put (cs' := #[.string x.f0, .slice A3 x.f1.f0.length c3, .int .i64 x.f2.f0, .int .i64 x.f2.f1, .slice A4 x.f2.f2.length c4]) (blk_put (cs' := #[.string x.f0, .slice A3 x.f1.f0.length c3, .int .i64 x.f2.f0, .int .i64 x.f2.f1, .slice none 0 0]) (blk_put (cs' := #[.string x.f0, .slice A3 x.f1.f0.length c3, .int .i64 x.f2.f0, .int .i64 0, .slice none 0 0]) (blk_put (cs' := #[.string x.f0, .slice A3 x.f1.f0.length c3, .int .i64 0, .int .i64 0, .slice none 0 0]) (blk_put (cs' := #[.string x.f0, .slice none 0 0, .int .i64 0, .int .i64 0, .slice none 0 0]) hbox 0 (.string x.f0) rfl) 1 (.slice A3 x.f1.f0.length c3) rfl) 2 (.int .i64 x.f2.f0) rfl) 3 (.int .i64 x.f2.f1) rfl) 4 (.slice A4 x.f2.f2.length c4) rfl)
      have hczgi0 := (blk_cell hbox 0).trans rfl
      have hfzgi0 := bkF hbox 0
      have hczgi1 := (blk_cell hbox 1).trans rfl
      have hfzgi1 := bkF hbox 1
      have hczgi2 := (blk_cell hbox 2).trans rfl
      have hfzgi2 := bkF hbox 2
      have hczgi3 := (blk_cell hbox 3).trans rfl
      have hfzgi3 := bkF hbox 3
      have hczgi4 := (blk_cell hbox 4).trans rfl
      have hfzgi4 := bkF hbox 4
      clear hbox hbb hgi hgw)
    clear hczgi0 hfzgi0 hczgi1 hfzgi1 hczgi2 hfzgi2 hczgi3 hfzgi3 hczgi4 hfzgi4 hx0 hx1 hx2 hx3 hx4
    generalize (((((w6.setCell ⟨gi, 0, none⟩ (.string x.f0)).setCell ⟨gi, 1, none⟩ (.slice A3 x.f1.f0.length c3)).setCell ⟨gi, 2, none⟩ (.int .i64 x.f2.f0)).setCell ⟨gi, 3, none⟩ (.int .i64 x.f2.f1)).setCell ⟨gi, 4, none⟩ (.slice A4 x.f2.f2.length c4)) = wq at *
    have HBq := Az.mk (bst HB.out Hbwgi.out)
    have HRbq := Az.mk (Kd.R_below HRb.out Hbwgi.out)
    have HRpq := Az.mk (Kd.R_below HRp.out Hbwgi.out)
    have HFq := Az.mk (ClL_below Hbwgi.out HF.out)
    have S3q := Az.mk (bkB S3.out Hbwgi.out)
    have S2q := Az.mk (bkB S2.out Hbwgi.out)
    have HCq := Az.mk (Kd.C_below HC4.out Hbwgi.out)
    have n1 : wq.cell? ⟨gi, 1, none⟩ = some (.slice A3 x.f1.f0.length c3) := (blk_cell Sgi.out 1).trans rfl
    have n2 : wq.cell? ⟨gi, 2, none⟩ = some (.int .i64 x.f2.f0) := (blk_cell Sgi.out 2).trans rfl
    have n3 : wq.cell? ⟨gi, 3, none⟩ = some (.int .i64 x.f2.f1) := (blk_cell Sgi.out 3).trans rfl
    have n4 : wq.cell? ⟨gi, 4, none⟩ = some (.slice A4 x.f2.f2.length c4) := (blk_cell Sgi.out 4).trans rfl
    have m1 : wq.cell? ⟨g3, 0, none⟩ = some (.slice Ab i cb) := (blk_cell S3q.out 0).trans rfl
    clear HB HRb HRp HF S3 S2 HC4 Hbwgi
    go_region_law
      (first
        | (refine Kd.R_append_step (Kd.raw 1) (w0 := w) w.heap.size rfl (.tmp 14) (.tmp 18) 67 65 (.pointer none) 8 rfl Try.underlying67 (by kernel_rfl) rfl (by decide) (by omega) (.slice Ab i cb) (bs.map (fun v => [v])) [.pointer (some ⟨gv, 0, none⟩)] [.pointer (some ⟨gv, 0, none⟩)] (fun q => w.heap.size ≤ q) (fun _ => False) rfl rfl ⟨rfl, rfl, fun u hu => by rw [List.mem_singleton.1 hu]; rfl⟩ (fun _ hk => hk.elim) (fun q hq => by have := HBA.out.size; omega) HRbA.out HBA.out HBA.out.size (by rw [List.length_map, HU.out.1]; have := Hlt.out; have := H64.out; omega) ?_
           intro v2 w7 hrf hb7 hg7 hat
           have hsn : (bs.map (fun v => [v])) ++ [[Value.pointer (some ⟨gv, 0, none⟩)]] = (bs ++ [Value.pointer (some ⟨gv, 0, none⟩)]).map (fun v => [v]) := by rw [List.map_append]; rfl
           rw [hsn] at hrf
           obtain ⟨A5, c5, e5⟩ := Kd.R_slice hrf
           rw [List.length_map, List.length_append, HU.out.1] at e5
           replace e5 : v2 = .slice A5 (i + 1) c5 := e5
           subst e5
           have hf7 := ClL_after (ClL_snoc HFA.out HXA.out) hg7 hat
           rw [← HSN.out] at hf7
           have tf := Kd.R_typed HRbA.out
           have HF7 := Az.mk hf7
           have HRb7 := Az.mk hrf
           have HRp7 := Az.mk (Kd.R_over' HRpA.out tf (by decide) hg7)
           have HB7 := Az.mk hb7
           have S37 := Az.mk (grownT S3A.out hg7 (fun k hk => by obtain ⟨c, hc⟩ := tf k hk; exact ⟨65, c, by decide, hc⟩))
           have S27 := Az.mk (grownT S2A.out hg7 (fun k hk => by obtain ⟨c, hc⟩ := tf k hk; exact ⟨65, c, by decide, hc⟩))
           have Sgi7 := Az.mk (grownT SgiA.out hg7 (fun k hk => by obtain ⟨c, hc⟩ := tf k hk; exact ⟨65, c, by decide, hc⟩))
           have m7 : w7.cell? ⟨g3, 0, none⟩ = some (.slice Ab i cb) := (blk_cell S37.out 0).trans rfl
           have f7 := bkF S37.out 0
           clear hrf hb7 hg7 hat hsn hf7 tf a0 a1)
        | (go_simp
           go_at_call 39
           (with_reducible refine (cof_calls _ x.f2.f0 x.f2.f1 x.f2.f2 A4 c4 wq.drew (Nat.lt_succ_self _) HTC.out (Kd.C_below HCq.out (below_drew (Below.refl _ _))) Hl4.out).mono ?_)
           rintro e9 wA ⟨gv, rfl, hfv, hbA⟩
           rw [HXX.out] at hfv
           have hown := Kd.R_lt HRbq.out
           have hownp := Kd.R_lt HRpq.out
           have HXA := Az.mk (Cl_mono (ok1 := fun q => (w.heap.size ≤ q ∧ q ≠ g2 ∧ q ≠ g3 ∧ some q ≠ (Value.slice Ap i cp).ownBlock) ∧ some q ≠ (Value.slice Ab i cb).ownBlock) (fun q hq _ => by
             have h1 : wq.heap.size ≤ q := hq
             have h2 := HBq.out.size
             exact ⟨⟨by omega, by have := blk_lt S2q.out; omega, by have := blk_lt S3q.out; omega, fun he => by have := hownp q he.symm; omega⟩, fun he => by have := hown q he.symm; omega⟩) hfv)
           have HFA := Az.mk (ClL_below hbA (ClL_below (below_drew (Below.refl _ _)) HFq.out))
           have HRbA := Az.mk (Kd.R_below (Kd.R_drew HRbq.out) hbA)
           have HRpA := Az.mk (Kd.R_below (Kd.R_drew HRpq.out) hbA)
           have HBA := Az.mk (bst (below_drew HBq.out) hbA)
           have S3A := Az.mk (bkB (blk_drew S3q.out) hbA)
           have S2A := Az.mk (bkB (blk_drew S2q.out) hbA)
           have SgiA := Az.mk (bkB (blk_drew Sgi.out) hbA)
           have a0 : wA.cell? ⟨g3, 0, none⟩ = some (.slice Ab i cb) := (blk_cell S3A.out 0).trans rfl
           have a1 := cel1 a0
           clear hfv hbA hown hownp))
    all_goals (
      clear n1 n2 n3 n4 m1 m7 f7
      generalize hw8 : w7.setCell { block := g3, off := 0 } (.slice A5 (i + 1) c5) = w8 at *
      have HRb8 := Az.mk (show (Kd.raw 1).R 65 w8 w.heap.size (fun q => w.heap.size ≤ q) (.slice A5 (i + 1) c5) _ from by rw [← hw8]; exact Kd.R_set HRb7.out S37.out (by decide) 0 _)
      have HRp8 := Az.mk (show Kd.R (Kd.int .i64) 3 w8 w.heap.size (fun _ => True) (.slice Ap i cp) is from by rw [← hw8]; exact Kd.R_set HRp7.out S37.out (by decide) 0 _)
      have HF8 := Az.mk (ClL_imp (w1 := w8) (ok1 := fun q => (w.heap.size ≤ q ∧ q ≠ g2 ∧ q ≠ g3 ∧ some q ≠ (Value.slice A5 (i + 1) c5).ownBlock) ∧ some q ≠ (Value.slice Ap i cp).ownBlock) (fun q hq _ => by rw [← hw8]; exact Below.heap_setCell _ ⟨g3, 0, none⟩ _ q hq.1.2.2.1) (fun q hq _ => ⟨⟨hq.1.1, hq.1.2.1, hq.1.2.2.1, hq.2⟩, hq.1.2.2.2⟩) _ _ HF7.out)
      have S38 := Az.mk (show w8.heap[g3]? = some (.cells #[.slice A5 (i + 1) c5, .slice Ap i cp] 69 (0, 0)) from by rw [← hw8]; exact blk_put S37.out 0 _ rfl)
      have S28 := Az.mk (show w8.heap[g2]? = some (.cells #[.slice none 0 0, .slice none 0 0] 69 (0, 0)) from by rw [← hw8]; exact blk_far (p := ⟨g3, 0, none⟩) S27.out (fun he => H23.out he) _)
      have Sgi8 := Az.mk (show w8.heap[gi]? = some _ from by rw [← hw8]; exact blk_far (p := ⟨g3, 0, none⟩) Sgi7.out (fun he => blk_ne S37.out Sgi7.out (by decide) he.symm) _)
      have HB8 := Az.mk (show Below w.heap.size w w8 from by rw [← hw8]; exact bset HB7.out HG3.out)
      clear hw8 HRb7 HRp7 HF7 S37 S27 Sgi7 HB7
      have y0 : w8.cell? ⟨g3, 1, none⟩ = some (.slice Ap i cp) := (blk_cell S38.out 1).trans rfl
      have y1 : w8.cell? ⟨gi, 1, none⟩ = some (.slice A3 x.f1.f0.length c3) := (blk_cell Sgi8.out 1).trans rfl
      go_wp2_with (at_builtin; refine holdX ?_)
      unfold HoldX
      clear y0 y1
      refine Kd.R_append (Kd.int .i64) (w0 := w) w.heap.size rfl (.tmp 22) (.tmp 27) 40 3 (.int .i64 0) 8 rfl Try.underlying40 info3 rfl (by decide) (by omega) (.slice Ap i cp) is (x.f1.f0.length : Int) [.int .i64 (x.f1.f0.length : Int)] (fun _ => True) (fun _ => False) rfl rfl rfl (fun _ hk => hk.elim) (fun _ _ => trivial) HRp8.out HB8.out HB8.out.size (by rw [HU.out.2]; have := Hlt.out; have := H64.out; omega) ?_
      intro v3 w9 hrf hb9 hg9 hat9
      obtain ⟨A6, c6, e6⟩ := Kd.R_slice hrf
      rw [List.length_append, HU.out.2] at e6
      replace e6 : v3 = .slice A6 (i + 1) c6 := e6
      subst e6
      have tf := Kd.R_typed HRp8.out
      have hf9 := ClL_after HF8.out hg9 hat9
      have HF9 := Az.mk hf9
      have HRp9 := Az.mk hrf
      have HRb9 := Az.mk (Kd.R_over' HRb8.out tf (by decide) hg9)
      have HB9 := Az.mk hb9
      have S39 := Az.mk (grownT S38.out hg9 (fun k hk => by obtain ⟨c, hc⟩ := tf k hk; exact ⟨3, c, by decide, hc⟩))
      have S29 := Az.mk (grownT S28.out hg9 (fun k hk => by obtain ⟨c, hc⟩ := tf k hk; exact ⟨3, c, by decide, hc⟩))
      have m9 : w9.cell? ⟨g3, 1, none⟩ = some (.slice Ap i cp) := (blk_cell S39.out 1).trans rfl
      have f9 := bkF S39.out 1
      clear hrf hb9 hg9 hat9 tf hf9 HF8 HRp8 HRb8 HB8 S38 S28 Sgi8
      go_wp2_with fail
      clear m9 f9
      generalize hw10 : w9.setCell { block := g3, off := 1 } (.slice A6 (i + 1) c6) = w10 at *
      have HRb10 := Az.mk (show (Kd.raw 1).R 65 w10 w.heap.size (fun q => w.heap.size ≤ q) (.slice A5 (i + 1) c5) _ from by rw [← hw10]; exact Kd.R_set HRb9.out S39.out (by decide) 1 _)
      have HRp10 := Az.mk (show Kd.R (Kd.int .i64) 3 w10 w.heap.size (fun _ => True) (.slice A6 (i + 1) c6) _ from by rw [← hw10]; exact Kd.R_set HRp9.out S39.out (by decide) 1 _)
      have HF10 := Az.mk (ClL_imp (w1 := w10) (ok1 := fun q => (w.heap.size ≤ q ∧ q ≠ g2 ∧ q ≠ g3 ∧ some q ≠ (Value.slice A6 (i + 1) c6).ownBlock) ∧ some q ≠ (Value.slice A5 (i + 1) c5).ownBlock) (fun q hq _ => by rw [← hw10]; exact Below.heap_setCell _ ⟨g3, 1, none⟩ _ q hq.1.2.2.1) (fun q hq _ => ⟨⟨hq.1.1, hq.1.2.1, hq.1.2.2.1, hq.2⟩, hq.1.2.2.2⟩) _ _ HF9.out)
      have S310 := Az.mk (show w10.heap[g3]? = some (.cells #[.slice A5 (i + 1) c5, .slice A6 (i + 1) c6] 69 (0, 0)) from by rw [← hw10]; exact blk_put S39.out 1 _ rfl)
      have S210 := Az.mk (show w10.heap[g2]? = some (.cells #[.slice none 0 0, .slice none 0 0] 69 (0, 0)) from by rw [← hw10]; exact blk_far (p := ⟨g3, 1, none⟩) S29.out (fun he => H23.out he) _)
      have HB10 := Az.mk (show Below w.heap.size w w10 from by rw [← hw10]; exact bset HB9.out HG3.out)
      clear hw10
      go_roundg k1
      case measure => omega
      case rel => exact ⟨i + 1, A5, c5, A6, c6, _, _, by go_num, ⟨by have := Hi.out; omega⟩, ⟨by rw [List.length_append, HU.out.1]; rfl, by rw [List.length_append, HU.out.2]; rfl⟩, HRb10, HRp10, HF10, S310, S210, HB10⟩)
end Go.Proofs.Ytnfgpepggehegaa.I
namespace Go.Proofs.Ytnfgpepggehegaa.I
open Go.RowKit Go.Proofs.YtnfgpepggehegaaW.PrintWords Go.Proofs.YtnfgpepggehegaaW.PrintLast Go.Proofs.YtnfgpepggehegaaW.PrintMore
attribute [local go_sem] max2_int min2_int max_two min_two max_three min_three max_four min_four
set_option linter.unusedVariables false
set_option maxRecDepth 100000
set_option linter.unusedSimpArgs false
def nextT (l1 : List S84) (t : S28) : S28 := if t.f0 = 1 then subT t.f2 (rd_T84 l1 t.f1).f2 else t
def Ready (l1 : List S84) (t : S28) : Prop := t.f0 = 1 → 0 ≤ t.f1 ∧ t.f1 < (l1.length : Int) ∧ okT (t.f2.length : Int) (rd_T84 l1 t.f1).f2 = true
set_option maxHeartbeats 8000000 in
theorem cstep_calls (l1 : List S84) (Ab : Option Addr) (cb : Nat) (Ap : Option Addr) (np cp : Nat) (bs : List Value) (t : S28) (v : Value) (ok : Nat → Prop) (w : World) (hb : Row w ok (.slice Ab l1.length cb) bs) (hbl : ClL w ok (l1.map (·.f2)) bs) (hv : Cl w ok t v) (hlt : ∀ q, ok q → q < w.heap.size) (hrd : Ready l1 t) (hbg : ∀ x ∈ l1, tcnt x.f2 ≤ 1000000) (htg : ∀ x ∈ t.f2, tcnt x ≤ 1000000) :
    Calls Try.prog 38 #[.agg #[.slice Ab l1.length cb, .slice Ap np cp], v] w fun e w' => ∃ g, e = .returned (.tuple #[.pointer (some ⟨g, 0, none⟩), .bool (decide (t.f0 = 1))]) ∧ Cl w' (fun q => ok q ∨ w.heap.size ≤ q) (nextT l1 t) (.pointer (some ⟨g, 0, none⟩)) ∧ Below w.heap.size w w' := by
  have hu69 := Try.underlying69
  have hu74 := Try.underlying74
  have HV := Az.mk hv
  have hlen1 : l1.length ≤ 9223372036854775807 := by have := (Row_C hb).2.2.2.1; have := (Row_C hb).1; omega
  obtain ⟨k, n, l⟩ := t
  unfold Cl at hv
  obtain ⟨gc, av, vs, rfl, _, hgc, hrow, hl⟩ := hv
  obtain ⟨A, c, rfl⟩ := Row_slice hrow
  have hlv := ClL_len l vs hl
  rw [← hlv] at hgc hrow
  have HG := Az.mk hgc
  have HRow := Az.mk hrow
  have HL := Az.mk hl
  have HBR := Az.mk hb
  have HBL := Az.mk hbl
  have HLT := Az.mk hlt
  have HRD := Az.mk hrd
  have HBG := Az.mk hbg
  have HTG := Az.mk htg
  clear hgc hrow hl hlv hb hbl hlt hrd hbg htg
  go_enter Try.func38, Try.ntmps38
  by_cases hk : k = 1
  rotate_left
  · have b1 : (k != 1) = true := bne_iff_ne.2 hk
    have b2 : (k == 1) = false := beq_eq_false_iff_ne.2 hk
    have HE := Az.mk (show nextT l1 ⟨k, n, l⟩ = ⟨k, n, l⟩ from if_neg hk)
    have HD := Az.mk (show decide ((⟨k, n, l⟩ : S28).f0 = 1) = false from decide_eq_false hk)
    clear hk
    go_wp2_with (
      (with_reducible refine gate_dst (N := 2) rfl ?_)
      refine box_event ?hg (N := 2) ?hd (cs := #[.slice Ab l1.length cb, .slice Ap np cp]) (t := 69) ?hr ?_
      (case hd => rfl)
      (case hg => rfl)
      (case hr => first | (go_simp; done) | (go_simp; rfl))
      intro g2 hg2 w2 hbox hb2
      have HB2 := Az.mk hb2
      have e0 : w2.cell? ⟨gc, 0, none⟩ = some (.int .i64 k) := (blk_cell (bkB HG.out hb2) 0).trans rfl
      clear hbox hb2 hg2)
    go_ret2
    refine ⟨gc, by rw [HD.out]; rfl, ?_, HB2.out⟩
    rw [HE.out]
    exact Cl_mono (fun q hq _ => .inl hq) (Cl_below HB2.out HV.out)
  · subst hk
    obtain ⟨hn0, hn1, hok⟩ := HRD.out rfl
    obtain ⟨m, rfl⟩ : ∃ m : Nat, n = (m : Int) := ⟨n.toNat, by have : 0 ≤ n := hn0; omega⟩
    have hm : m < l1.length := by have : ((m : Nat) : Int) < (l1.length : Int) := hn1; omega
    have hrdm : rd_T84 l1 (m : Int) = l1[m] := by unfold rd_T84; rw [Int.toNat_natCast, List.getD_eq_getElem?_getD, List.getElem?_eq_getElem hm]; rfl
    have hbn := (Row_C HBR.out).1
    obtain ⟨ad, he, hx⟩ := Row_at HBR.out (show m < bs.length by omega)
    cases he
    have hcl := ClL_at _ bs HBL.out m (by rw [List.length_map]; exact hm) (by omega)
    rw [List.getElem_map] at hcl
    have HE := Az.mk (show nextT l1 ⟨1, (m : Int), l⟩ = subT l l1[m].f2 from by unfold nextT; rw [if_pos rfl]; show subT l (rd_T84 l1 (m : Int)).f2 = _; rw [hrdm])
    have HOK := Az.mk (show okT (l.length : Int) l1[m].f2 = true from by have : okT (l.length : Int) (rd_T84 l1 (m : Int)).f2 = true := hok; rw [hrdm] at this; exact this)
    have HBM := Az.mk (HBG.out l1[m] (List.getElem_mem hm))
    generalize l1[m].f2 = b at *
    have hcl2 := hcl
    cases b with
    | mk kb nb lb =>
    unfold Cl at hcl2
    obtain ⟨g1, _, _, hvi, _, _, _, _⟩ := hcl2
    rw [hvi] at hx hcl
    have HCL := Az.mk hcl
    have q1 : (0 ≤ (m : Int)) = True := eq_true (by omega)
    have q2 : ((m : Int) < (l1.length : Int)) = True := eq_true (by omega)
    have q3 : (m < l1.length) = True := eq_true hm
    have HX := Az.mk hx
    clear hcl hvi hn0 hn1 hok hrdm hbn hx hm
    go_upto_region 3 with (
      (with_reducible refine gate_dst (N := 2) rfl ?_)
      refine box_event ?hg (N := 2) ?hd (cs := #[.slice (some ad) l1.length cb, .slice Ap np cp]) (t := 69) ?hr ?_
      (case hd => rfl)
      (case hg => rfl)
      (case hr => first | (go_simp; done) | (go_simp; rfl))
      intro g2 hg2 w2 hbox hb2
      have HB2 := Az.mk hb2
      have S2 := Az.mk hbox
      have e0 : w2.cell? ⟨gc, 0, none⟩ = some (.int .i64 1) := (blk_cell (bkB HG.out hb2) 0).trans rfl
      have e1 : w2.cell? ⟨gc, 1, none⟩ = some (.int .i64 (m : Int)) := (blk_cell (bkB HG.out hb2) 1).trans rfl
      have e2 : w2.cell? ⟨gc, 2, none⟩ = some (.slice A l.length c) := (blk_cell (bkB HG.out hb2) 2).trans rfl
      have x0 := cell_up hb2 HX.out
      have s0 : w2.cell? ⟨g2, 0, none⟩ = some (.slice (some ad) l1.length cb) := (blk_cell hbox 0).trans rfl
      clear hbox hb2 hg2)
    clear e0
    have HLT2 := Az.mk (fun q (hq : ok q) => (show q < w2.drew.heap.size from Nat.lt_of_lt_of_le (HLT.out q hq) HB2.out.size))
    try simp only [Act.put, List.setIfInBounds_toArray, List.set_cons_succ, List.set_cons_zero]
    go_cut [4, 5] from 12 to 5 (fun v4 v5 wc => ∃ g : Nat, v4 = .pointer (some ⟨g, 0, none⟩) ∧ v5 = .bool true ∧ Az (Cl wc (fun q => ok q ∨ w.heap.size ≤ q) (subT l ⟨kb, nb, lb⟩) (.pointer (some ⟨g, 0, none⟩))) ∧ Az (Below w.heap.size w wc))
    case first =>
      go_region_held3 (fun w' => w'.cell? ⟨gc, 1, none⟩ = some (.int .i64 (m : Int)) ∧ w'.cell? ⟨gc, 2, none⟩ = some (.slice A l.length c) ∧ w'.cell? ⟨g2, 0, none⟩ = some (.slice (some ad) l1.length cb) ∧ w'.cell? (ad.add m) = some (.pointer (some ⟨g1, 0, none⟩))) (go_keep)
        (first
          | (go_at_call 65
             (with_reducible refine (csub_calls _ ⟨kb, nb, lb⟩ (.pointer (some ⟨g1, 0, none⟩)) l (.slice A l.length c) vs ok w2.drew (Nat.lt_succ_self _) HOK.out HBM.out HTG.out HLT2.out (Cl_below (below_drew HB2.out) HCL.out) (Row_below (below_drew HB2.out) HRow.out) (ClL_below (below_drew HB2.out) HL.out)).mono ?_)
             rintro e9 wA ⟨g, rfl, hcn, hbA⟩
             have HCn := Az.mk hcn
             have HBA := Az.mk (bst (below_drew HB2.out) hbA)
             have z1 := cell_up hbA (show w2.drew.cell? _ = _ from e1)
             have z2 := cell_up hbA (show w2.drew.cell? _ = _ from e2)
             have z3 := cell_up hbA (show w2.drew.cell? _ = _ from s0)
             have z4 := cell_up hbA (show w2.drew.cell? _ = _ from x0)
             have HSz := Az.mk (show w.heap.size ≤ w2.drew.heap.size from HB2.out.size)
             clear hcn hbA))
      all_goals (go_wp2_with fail; go_meet; exact ⟨_, rfl, rfl, ⟨Cl_mono (fun q hq _ => by rcases hq with hq | hq; exact .inl hq; exact .inr (Nat.le_trans HSz.out hq)) HCn.out⟩, HBA⟩)
    case rest =>
      obtain ⟨g, rfl, rfl, HCn, HBc⟩ := hcut
      clear e1 e2 x0 s0
      go_wp2_with fail
      go_ret2
      refine ⟨g, rfl, ?_, HBc.out⟩
      rw [HE.out]
      exact HCn.out
end Go.Proofs.Ytnfgpepggehegaa.I
namespace Go.Proofs.Ytnfgpepggehegaa.I
open Go.RowKit Go.Proofs.YtnfgpepggehegaaW.PrintWords Go.Proofs.YtnfgpepggehegaaW.PrintLast Go.Proofs.YtnfgpepggehegaaW.PrintMore
attribute [local go_sem] max2_int min2_int max_two min_two max_three min_three max_four min_four
set_option linter.unusedVariables false
set_option maxRecDepth 100000
set_option linter.unusedSimpArgs false
def runT (l1 : List S84) : Nat → S28 → Int → S28 × Int × Int
  | 0, t, n => if t.f0 = 1 then (t, n, 8) else (t, n, 0)
  | k + 1, t, n => if t.f0 = 1 then (if 100000 < tcnt (nextT l1 t) then (nextT l1 t, n + 1, 3) else runT l1 k (nextT l1 t) (n + 1)) else (t, n, 0)
theorem csz_gt (x : S28) : (100000 < csz x) ↔ (100000 < tcnt x) := by unfold csz; omega
set_option maxHeartbeats 8000000 in
theorem crun_calls (l1 : List S84) (Inv : S28 → Prop) (hi1 : ∀ t, Inv t → Ready l1 t ∧ ∀ x ∈ t.f2, tcnt x ≤ 1000000) (hi2 : ∀ t, Inv t → t.f0 = 1 → tcnt (nextT l1 t) ≤ 100000 → Inv (nextT l1 t)) (Ab : Option Addr) (cb : Nat) (Ap : Option Addr) (np cp : Nat) (bs : List Value) (t : S28) (v : Value) (fuel : Nat) (hfu : fuel ≤ 1048576) (ok : Nat → Prop) (w : World) (hb : Row w ok (.slice Ab l1.length cb) bs) (hbl : ClL w ok (l1.map (·.f2)) bs) (hv : Cl w ok t v) (hlt : ∀ q, ok q → q < w.heap.size) (hinv : Inv t) (hbg : ∀ x ∈ l1, tcnt x.f2 ≤ 1000000) :
    Calls Try.prog 43 #[.agg #[.slice Ab l1.length cb, .slice Ap np cp], v, .int .i64 (fuel : Int)] w fun e w' => ∃ g, e = .returned (.tuple #[.pointer (some ⟨g, 0, none⟩), .int .i64 (runT l1 fuel t 0).2.1, .int .i64 (runT l1 fuel t 0).2.2]) ∧ Cl w' (fun q => ok q ∨ w.heap.size ≤ q) (runT l1 fuel t 0).1 (.pointer (some ⟨g, 0, none⟩)) ∧ Below w.heap.size w w' := by
  have hu69 := Try.underlying69
  have hu74 := Try.underlying74
  have hlen1 : l1.length ≤ 9223372036854775807 := by have := (Row_C hb).2.2.2.1; have := (Row_C hb).1; omega
  have hvp : ∃ g0, v = .pointer (some ⟨g0, 0, none⟩) := by
    cases t with
    | mk a b l => unfold Cl at hv; obtain ⟨g, _, _, e, _⟩ := hv; exact ⟨g, e⟩
  obtain ⟨g0, rfl⟩ := hvp
  have HV := Az.mk hv
  have HBR := Az.mk hb
  have HBL := Az.mk hbl
  have HLT := Az.mk hlt
  have HBG := Az.mk hbg
  have HI1 := Az.mk hi1
  have HI2 := Az.mk hi2
  have HI := Az.mk hinv
  have HFu := Az.mk hfu
  obtain ⟨R, hR⟩ : ∃ R, R = runT l1 fuel t 0 := ⟨_, rfl⟩
  rw [← hR]
  have HRR := Az.mk hR.symm
  clear hb hbl hlt hbg hi1 hi2 hinv hv hR hfu
  go_enter Try.func43, Try.ntmps43
  go_wp2_with (
    (with_reducible refine gate_dst (N := 3) rfl ?_)
    refine box_event ?hg (N := 3) ?hd (cs := #[.slice Ab l1.length cb, .slice Ap np cp]) (t := 69) ?hr ?_
    (case hd => rfl)
    (case hg => rfl)
    (case hr => first | (go_simp; done) | (go_simp; rfl))
    intro g3 hg3 w3 hbox hb3
    have S3 := Az.mk hbox
    have HB3 := Az.mk hb3
    clear hbox hb3 hg3)
  go_loopg [1, 9] fuel (fun kq v1 v9 wr => ∃ (g : Nat) (n : Nat) (t : S28), v1 = .pointer (some ⟨g, 0, none⟩) ∧ v9 = .int .i64 (n : Int) ∧ Az (n + kq = fuel) ∧ Az (runT l1 kq t (n : Int) = R) ∧ Az (Inv t) ∧ Az (Cl wr (fun q => (ok q ∨ w.heap.size ≤ q) ∧ q < wr.heap.size) t (.pointer (some ⟨g, 0, none⟩))) ∧ Az (Below w3.heap.size w3 wr))
  case atStart => exact ⟨g0, 0, t, rfl, rfl, ⟨by omega⟩, HRR, HI, ⟨Cl_mono (fun q hq hl => ⟨.inl hq, hl⟩) (Cl_below HB3.out HV.out)⟩, ⟨Below.refl _ _⟩⟩
  case round =>
    clear HRR HI HV
    obtain ⟨g, n, t, rfl, rfl, Hn, HRR, HI, HV, HB0⟩ := hrel
    have HB := Az.mk (bst HB3.out HB0.out)
    obtain ⟨hrd, htg⟩ := HI1.out t HI.out
    have HRD := Az.mk hrd
    have HTG := Az.mk htg
    have HI3 := Az.mk (HI2.out t HI.out)
    clear hrd htg
    cases t with
    | mk k m l =>
    have hv := HV.out
    unfold Cl at hv
    obtain ⟨gc, av, vs, hge, _, hgc, hrow, hl⟩ := hv
    injection hge with hge
    injection hge with hge
    injection hge with hge
    subst hge
    obtain ⟨A, c, rfl⟩ := Row_slice hrow
    have hlv := ClL_len l vs hl
    rw [← hlv] at hgc hrow
    have HG := Az.mk hgc
    have HRow := Az.mk hrow
    have HL := Az.mk hl
    clear hgc hrow hl hlv
    have e0 : wr.cell? ⟨g, 0, none⟩ = some (.int .i64 k) := (blk_cell HG.out 0).trans rfl
    by_cases hk : k = 1
    rotate_left
    · have b1 : (k != 1) = true := bne_iff_ne.2 hk
      have b2 : (k == 1) = false := beq_eq_false_iff_ne.2 hk
      have HE := Az.mk (show R = (⟨k, m, l⟩, (n : Int), 0) from by rw [← HRR.out]; cases gk <;> (unfold runT; rw [if_neg hk]))
      clear hk HRR
      go_wp2_with fail
      go_ret3
      refine ⟨g, by rw [HE.out]; rfl, ?_, HB.out⟩
      rw [HE.out]
      exact Cl_mono (fun q hq _ => hq.1) HV.out
    subst hk
    cases gk with
    | zero =>
      have hn : n = fuel := by have := Hn.out; omega
      subst hn
      have HE := Az.mk (show R = (⟨1, m, l⟩, (n : Int), 8) from by rw [← HRR.out]; unfold runT; rw [if_pos rfl])
      clear HRR
      go_wp2_with fail
      go_ret3
      refine ⟨g, by rw [HE.out]; rfl, ?_, HB.out⟩
      rw [HE.out]
      exact Cl_mono (fun q hq _ => hq.1) HV.out
    | succ k1 =>
    have hn : ¬ n = fuel := by have := Hn.out; omega
    have b1 : ((n : Int) = (fuel : Int)) = False := eq_false (by omega)
    have b2 : ((n : Int) == (fuel : Int)) = false := beq_eq_false_iff_ne.2 (by omega)
    have b3 : (n = fuel) = False := eq_false hn
    have b4 : (n == fuel) = false := beq_eq_false_iff_ne.2 hn
    obtain ⟨hn0, hn1, hok⟩ := HRD.out rfl
    obtain ⟨m, rfl⟩ : ∃ j : Nat, m = (j : Int) := ⟨m.toNat, by have : 0 ≤ m := hn0; omega⟩
    have hm : m < l1.length := by have : ((m : Nat) : Int) < (l1.length : Int) := hn1; omega
    have hrdm : rd_T84 l1 (m : Int) = l1[m] := by unfold rd_T84; rw [Int.toNat_natCast, List.getD_eq_getElem?_getD, List.getElem?_eq_getElem hm]; rfl
    have hbn := (Row_C HBR.out).1
    obtain ⟨ad, he, hx⟩ := Row_at (Row_below HB.out HBR.out) (show m < bs.length by omega)
    cases he
    have hcl := ClL_at _ bs HBL.out m (by rw [List.length_map]; exact hm) (by omega)
    rw [List.getElem_map] at hcl
    have hne : nextT l1 ⟨1, (m : Int), l⟩ = subT l l1[m].f2 := by unfold nextT; rw [if_pos rfl]; show subT l (rd_T84 l1 (m : Int)).f2 = _; rw [hrdm]
    have HOK := Az.mk (show okT (l.length : Int) l1[m].f2 = true from by have : okT (l.length : Int) (rd_T84 l1 (m : Int)).f2 = true := hok; rw [hrdm] at this; exact this)
    have HBM := Az.mk (HBG.out l1[m] (List.getElem_mem hm))
    have HI4 := Az.mk (show tcnt (subT l l1[m].f2) ≤ 100000 → Inv (subT l l1[m].f2) from by have := HI3.out rfl; rw [hne] at this; exact this)
    have HR4 := Az.mk (show R = if 100000 < tcnt (subT l l1[m].f2) then (subT l l1[m].f2, (n : Int) + 1, 3) else runT l1 k1 (subT l l1[m].f2) ((n : Int) + 1) from by rw [← HRR.out, ← hne]; rw [runT, if_pos rfl])
    have HLTr := Az.mk (fun q (h : (ok q ∨ w.heap.size ≤ q) ∧ q < wr.heap.size) => (show q < wr.drew.heap.size from h.2))
    generalize l1[m].f2 = b at *
    have hcl2 := hcl
    cases b with
    | mk kb nb lb =>
    unfold Cl at hcl2
    obtain ⟨g1, _, _, hvi, _, _, _, _⟩ := hcl2
    rw [hvi] at hx hcl
    have HCL := Az.mk (Cl_mono (ok1 := fun q => (ok q ∨ w.heap.size ≤ q) ∧ q < wr.heap.size) (fun q hq hl => ⟨.inl hq, hl⟩) (Cl_below HB.out (Cl_mono (fun q hq _ => hq) hcl)))
    have e1 : wr.cell? ⟨g, 1, none⟩ = some (.int .i64 (m : Int)) := (blk_cell HG.out 1).trans rfl
    have e2 : wr.cell? ⟨g, 2, none⟩ = some (.slice A l.length c) := (blk_cell HG.out 2).trans rfl
    have s0 : wr.cell? ⟨g3, 0, none⟩ = some (.slice (some ad) l1.length cb) := (blk_cell (bkB S3.out HB0.out) 0).trans rfl
    have q1 : (0 ≤ (m : Int)) = True := eq_true (by omega)
    have q2 : ((m : Int) < (l1.length : Int)) = True := eq_true (by omega)
    have q3 : (m < l1.length) = True := eq_true hm
    clear hcl hvi hn0 hn1 hok hrdm hbn hm hne hn HRR HI3
    go_upto_region 7 with fail
    clear e0 b1 b2 b3 b4
    try simp only [Act.put, List.setIfInBounds_toArray, List.set_cons_succ, List.set_cons_zero]
    go_cut [1] from 24 to 1 (fun v1 wc => ∃ g : Nat, v1 = .pointer (some ⟨g, 0, none⟩) ∧ Az (Cl wc (fun q => (ok q ∨ w.heap.size ≤ q) ∧ q < wc.heap.size) (subT l ⟨kb, nb, lb⟩) (.pointer (some ⟨g, 0, none⟩))) ∧ Az (Below wr.heap.size wr wc))
    case first =>
      go_region_held3 (fun w' => w'.cell? ⟨g, 1, none⟩ = some (.int .i64 (m : Int)) ∧ w'.cell? ⟨g, 2, none⟩ = some (.slice A l.length c) ∧ w'.cell? ⟨g3, 0, none⟩ = some (.slice (some ad) l1.length cb) ∧ w'.cell? (ad.add m) = some (.pointer (some ⟨g1, 0, none⟩))) (go_keep)
        (first
          | (go_at_call 65
             (with_reducible refine (csub_calls _ ⟨kb, nb, lb⟩ (.pointer (some ⟨g1, 0, none⟩)) l (.slice A l.length c) vs (fun q => (ok q ∨ w.heap.size ≤ q) ∧ q < wr.heap.size) wr.drew (Nat.lt_succ_self _) HOK.out HBM.out HTG.out HLTr.out (Cl_below (below_drew (Below.refl _ _)) HCL.out) (Row_below (below_drew (Below.refl _ _)) HRow.out) (ClL_below (below_drew (Below.refl _ _)) HL.out)).mono ?_)
             rintro e9 wA ⟨g5, rfl, hcn, hbA⟩
             have HCn := Az.mk hcn
             have HBA := Az.mk (bst (below_drew (Below.refl _ _)) hbA)
             have z1 := cell_up hbA (show wr.drew.cell? _ = _ from e1)
             have z2 := cell_up hbA (show wr.drew.cell? _ = _ from e2)
             have z3 := cell_up hbA (show wr.drew.cell? _ = _ from s0)
             have z4 := cell_up hbA (show wr.drew.cell? _ = _ from hx)
             have HSz := Az.mk (show w.heap.size ≤ wr.drew.heap.size from HB.out.size)
             clear hcn hbA))
      all_goals (go_wp2_with fail; go_meet; exact ⟨_, rfl, ⟨Cl_mono (fun q hq hl => by rcases hq with hq | hq; exact ⟨hq.1, hl⟩; exact ⟨.inr (Nat.le_trans HSz.out hq), hl⟩) HCn.out⟩, HBA⟩)
    case rest =>
      obtain ⟨g5, rfl, HCn, HBc⟩ := hcut
      clear e1 e2 hx s0 q1 q2 q3 HCL HTG HG HRow HL HOK HBM
      generalize subT l ⟨kb, nb, lb⟩ = y at *
      have HB9 := Az.mk (bst HB.out HBc.out)
      have HB09 := Az.mk (bst HB0.out HBc.out)
      have hcn := HCn.out
      have hcz := csz_gt y
      cases y with
      | mk ky ny ly =>
      unfold Cl at hcn
      obtain ⟨g6, a6, _, hge, _, hgy, _, _⟩ := hcn
      injection hge with hge
      injection hge with hge
      injection hge with hge
      subst hge
      have e3 : wc.cell? ⟨g5, 3, none⟩ = some (.int .i64 (csz ⟨ky, ny, ly⟩)) := (blk_cell hgy 3).trans rfl
      generalize csz ⟨ky, ny, ly⟩ = cz at *
      clear hgy
      have hk2 := Hn.out
      by_cases hbig : 100000 < cz
      · have HE := Az.mk (show R = (⟨ky, ny, ly⟩, (n : Int) + 1, 3) from by rw [HR4.out, if_pos (hcz.1 hbig)])
        have p1 : (100000 < cz) = True := eq_true hbig
        have hfu2 := HFu.out
        clear hbig hcz
        go_wp2_with fail
        go_ret3
        refine ⟨g5, by rw [HE.out]; rfl, ?_, HB9.out⟩
        rw [HE.out]
        exact Cl_mono (fun q hq _ => hq.1) HCn.out
      · have HE := Az.mk (show runT l1 k1 ⟨ky, ny, ly⟩ ((n : Int) + 1) = R from by rw [HR4.out, if_neg (fun h => hbig (hcz.2 h))])
        have HI5 := Az.mk (HI4.out (by have : ¬ 100000 < tcnt ⟨ky, ny, ly⟩ := fun h => hbig (hcz.2 h); omega))
        have p1 : (100000 < cz) = False := eq_false hbig
        have hfu2 := HFu.out
        clear hbig hcz
        go_wp2_with fail
        go_roundg k1
        case measure => omega
        case rel => exact ⟨g5, n + 1, ⟨ky, ny, ly⟩, rfl, by go_num, ⟨by omega⟩, HE, HI5, HCn, HB09⟩
end Go.Proofs.Ytnfgpepggehegaa.I
namespace Go.Proofs.Ytnfgpepggehegaa.I
open Go.RowKit
set_option linter.unusedVariables false
set_option linter.unusedSimpArgs false
theorem ofT_parts {sy : List S87} {fu pa : List S53} {k n : Int} {l : List S28} {s : List S53} (h : ofT sy fu pa ⟨k, n, l⟩ = some s) : ∃ s0, hdF sy fu pa k n = some s0 ∧ l.length ≤ s0.length ∧ ofL sy fu pa l s0 = true ∧ s = s0.drop l.length := by
  rw [ofT] at h
  cases e : hdF sy fu pa k n with
  | none => rw [e] at h; cases h
  | some s0 =>
    rw [e] at h
    replace h : (if s0.length < l.length then none else if ofL sy fu pa l s0 = true then some (s0.drop l.length) else none) = some s := h
    split at h
    · cases h
    · split at h
      · rename_i h1 h2
        injection h with h
        exact ⟨s0, rfl, by omega, h2, h.symm⟩
      · cases h
theorem ofT_make {sy : List S87} {fu pa : List S53} {k n : Int} {l : List S28} {s0 : List S53} (h : hdF sy fu pa k n = some s0) (h1 : l.length ≤ s0.length) (h2 : ofL sy fu pa l s0 = true) : ofT sy fu pa ⟨k, n, l⟩ = some (s0.drop l.length) := by
  rw [ofT, h]
  show (if s0.length < l.length then none else if ofL sy fu pa l s0 = true then some (s0.drop l.length) else none) = _
  rw [if_neg (by omega), if_pos h2]
theorem ofL_app {sy : List S87} {fu pa : List S53} : ∀ (l m : List S28) (s : List S53), ofL sy fu pa (l ++ m) s = (ofL sy fu pa l s && ofL sy fu pa m (s.drop l.length))
  | [], m, s => by rw [ofL]; rfl
  | x :: xs, m, s => by
    rw [List.cons_append, ofL, ofL, ofL_app xs m s.tail, Bool.and_assoc, List.length_cons, ← List.drop_one, List.drop_drop, Nat.add_comm]
theorem ofL_cons {sy : List S87} {fu pa : List S53} {x : S28} {xs : List S28} {s : List S53} (h : ofL sy fu pa (x :: xs) s = true) : ofT sy fu pa x = some (s.headD z53).f0 ∧ ofL sy fu pa xs s.tail = true := by
  rw [ofL, Bool.and_eq_true] at h
  refine ⟨?_, h.2⟩
  cases e : ofT sy fu pa x with
  | none => rw [e] at h; exact absurd h.1 (by simp)
  | some r =>
    rw [e] at h
    have h1 : eqL r (s.headD z53).f0 = true := h.1
    rw [eqL_eq _ _ h1]
mutual
theorem ofT_ok {sy : List S87} {fu pa : List S53} : ∀ (x : S28) (s : List S53), ofT sy fu pa x = some s → okT (pa.length : Int) x = true
  | ⟨k, n, l⟩, s, h => by
    obtain ⟨s0, h0, h1, h2, _⟩ := ofT_parts h
    have hl := ofL_ok l s0 h2
    unfold okT
    rw [hl, Bool.and_true]
    by_cases hk : k = 0
    · subst hk
      unfold hdF at h0
      split at h0
      · cases h0
      · rename_i hn
        rw [if_pos rfl] at h0
        split at h0
        · rename_i hm
          simp
          omega
        · cases h0
    · simp [hk]
theorem ofL_ok {sy : List S87} {fu pa : List S53} : ∀ (l : List S28) (s : List S53), ofL sy fu pa l s = true → okL (pa.length : Int) l = true
  | [], _, _ => by rw [okL]
  | x :: xs, s, h => by
    obtain ⟨h1, h2⟩ := ofL_cons h
    rw [okL, ofT_ok x _ h1, ofL_ok xs _ h2]
    rfl
end
def Args (sy : List S87) (fu : List S53) (ps : List S28) (pa : List S53) : Prop := ps.length = pa.length ∧ ∀ n : Int, 0 ≤ n → n < (pa.length : Int) → ofT sy fu [] (rd_T28 ps n) = some (rd_T53 pa n).f0
theorem args_of {sy : List S87} {fu : List S53} : ∀ (l : List S28) (s : List S53), l.length = s.length → ofL sy fu [] l s = true → Args sy fu l s
  | [], [], _, _ => ⟨rfl, fun n h0 h1 => absurd h1 (by simp; omega)⟩
  | [], _ :: _, h, _ => by cases h
  | _ :: _, [], h, _ => by cases h
  | x :: xs, y :: ys, h, hl => by
    obtain ⟨h1, h2⟩ := ofL_cons hl
    obtain ⟨_, ih⟩ := args_of xs ys (by simpa using h) h2
    refine ⟨h, fun n h0 hn => ?_⟩
    by_cases hz : n = 0
    · subst hz; exact h1
    · have := ih (n - 1) (by omega) (by rw [List.length_cons] at hn; omega)
      have e1 : rd_T28 (x :: xs) n = rd_T28 xs (n - 1) := by
        unfold rd_T28
        rw [show n.toNat = (n - 1).toNat + 1 from by omega, List.getD_cons_succ]
      have e2 : rd_T53 (y :: ys) n = rd_T53 ys (n - 1) := by
        unfold rd_T53
        rw [show n.toNat = (n - 1).toNat + 1 from by omega, List.getD_cons_succ]
      rw [e1, e2]
      exact this
theorem hdF_nil {sy : List S87} {fu pa pa' : List S53} {k n : Int} (hk : k ≠ 0) : hdF sy fu pa k n = hdF sy fu pa' k n := by
  unfold hdF
  rw [if_neg hk, if_neg hk]
mutual
theorem ofT_sub {sy : List S87} {fu pa : List S53} {ps : List S28} (ha : Args sy fu ps pa) : ∀ (x : S28) (s : List S53), ofT sy fu pa x = some s → ofT sy fu [] (subT ps x) = some s
  | ⟨k, n, l⟩, s, h => by
    obtain ⟨s0, h0, h1, h2, rfl⟩ := ofT_parts h
    have hl := ofL_sub ha l s0 h2
    unfold subT
    by_cases hk : k = 0
    · rw [if_pos hk]
      subst hk
      unfold hdF at h0
      split at h0
      · cases h0
      · rename_i hn
        rw [if_pos rfl] at h0
        split at h0
        · rename_i hm
          injection h0 with h0
          have hp := ha.2 n (by omega) hm
          rw [h0] at hp
          cases hx : rd_T28 ps n with
          | mk k1 n1 l1 =>
            rw [hx] at hp
            obtain ⟨t0, g0, g1, g2, g3⟩ := ofT_parts hp
            have := ofT_make (l := l1 ++ subL ps l) g0 (by rw [List.length_append, subL_len]; rw [g3, List.length_drop] at h1; omega) (by rw [ofL_app, g2, ← g3, hl]; rfl)
            rw [List.length_append, subL_len, ← List.drop_drop, ← g3] at this
            exact this
        · cases h0
    · rw [if_neg hk]
      rw [hdF_nil (pa' := []) hk] at h0
      have := ofT_make (l := subL ps l) h0 (by rw [subL_len]; exact h1) hl
      rw [subL_len] at this
      exact this
theorem ofL_sub {sy : List S87} {fu pa : List S53} {ps : List S28} (ha : Args sy fu ps pa) : ∀ (l : List S28) (s : List S53), ofL sy fu pa l s = true → ofL sy fu [] (subL ps l) s = true
  | [], _, _ => by rw [subL, ofL]
  | x :: xs, s, h => by
    obtain ⟨h1, h2⟩ := ofL_cons h
    rw [subL, ofL, ofT_sub ha x _ h1, ofL_sub ha xs _ h2]
    show (eqL _ _ && true) = true
    rw [eqL_refl]
    rfl
end
theorem bodies_at {sy : List S87} {fu : List S53} : ∀ (fs : List S84), bodiesL sy fu fs = true → ∀ i (h : i < fs.length), ofT sy fu fs[i].f1.f0 fs[i].f2 = some []
  | [], _, i, h => absurd h (Nat.not_lt_zero _)
  | f :: fs, hb, i, h => by
    rw [bodiesL, Bool.and_eq_true] at hb
    cases i with
    | zero =>
      show ofT sy fu f.f1.f0 f.f2 = some []
      have h1 := hb.1
      cases e : ofT sy fu f.f1.f0 f.f2 with
      | none => rw [e] at h1; cases h1
      | some s =>
        rw [e] at h1
        have : s.length = 0 := of_decide_eq_true h1
        rw [List.eq_nil_of_length_eq_zero this]
    | succ i => exact bodies_at fs hb.2 i (by simpa using h)
theorem closed_iff {l0 : List S87} {l1 : List S84} {t : S28} : closedB l0 l1 t = true ↔ ofT l0 (l1.map (·.f1)) [] t = some [] := by
  unfold closedB
  cases e : ofT l0 (l1.map (·.f1)) [] t with
  | none => simp
  | some s => cases s <;> simp
theorem sch_bodies {l0 : List S87} {l1 : List S84} (h : schB l0 l1 = true) : bodiesL l0 (l1.map (·.f1)) l1 = true ∧ ∀ f ∈ l1, tcnt f.f2 ≤ 400 := by
  unfold schB at h
  simp only [Bool.and_eq_true] at h
  refine ⟨h.2.2.2.2, fun f hf => ?_⟩
  have := funsL_all l1 [] h.2.2.1 f hf
  unfold funOk big at this
  simp only [Bool.and_eq_true, Bool.not_eq_true', Bool.or_eq_false_iff, decide_eq_false_iff_not] at this
  have := this.2.2.1
  omega
theorem closed_parts {l0 : List S87} {l1 : List S84} {n : Int} {l : List S28} (hs : schB l0 l1 = true) (h : closedB l0 l1 ⟨1, n, l⟩ = true) : 0 ≤ n ∧ n < (l1.length : Int) ∧ Args l0 (l1.map (·.f1)) l (rd_T84 l1 n).f1.f0 ∧ ofT l0 (l1.map (·.f1)) (rd_T84 l1 n).f1.f0 (rd_T84 l1 n).f2 = some [] := by
  rw [closed_iff] at h
  obtain ⟨s0, h0, h1, h2, h3⟩ := ofT_parts h
  unfold hdF at h0
  split at h0
  · cases h0
  rename_i hn
  rw [if_neg (by decide), if_pos rfl] at h0
  split at h0
  · rename_i hm
    rw [List.length_map] at hm
    injection h0 with h0
    have hnl : n.toNat < l1.length := by omega
    have e1 : rd_T84 l1 n = l1[n.toNat] := by unfold rd_T84; rw [List.getD_eq_getElem?_getD, List.getElem?_eq_getElem hnl]; rfl
    have e2 : rd_T53 (l1.map (·.f1)) n = l1[n.toNat].f1 := by unfold rd_T53; rw [List.getD_eq_getElem?_getD, List.getElem?_map, List.getElem?_eq_getElem hnl]; rfl
    rw [e2] at h0
    have hlen : l.length = s0.length := by have := congrArg List.length h3; rw [List.length_drop] at this; simp at this; omega
    rw [e1, h0]
    refine ⟨by omega, hm, args_of l s0 hlen h2, ?_⟩
    rw [← h0]
    exact bodies_at l1 (sch_bodies hs).1 n.toNat hnl
  · cases h0
theorem ready_of {l0 : List S87} {l1 : List S84} {t : S28} (hs : schB l0 l1 = true) (h : closedB l0 l1 t = true) : Ready l1 t := by
  intro hk
  cases t with
  | mk k n l =>
    have hk' : k = 1 := hk
    subst hk'
    obtain ⟨h0, h1, h2, h3⟩ := closed_parts hs h
    refine ⟨h0, h1, ?_⟩
    show okT (l.length : Int) (rd_T84 l1 n).f2 = true
    rw [h2.1]
    exact ofT_ok _ _ h3
theorem closed_next {l0 : List S87} {l1 : List S84} {t : S28} (hs : schB l0 l1 = true) (h : closedB l0 l1 t = true) : closedB l0 l1 (nextT l1 t) = true := by
  unfold nextT
  split
  · rename_i hk
    cases t with
    | mk k n l =>
      have hk' : k = 1 := hk
      subst hk'
      obtain ⟨h0, h1, h2, h3⟩ := closed_parts hs h
      rw [closed_iff]
      exact ofT_sub h2 _ _ h3
  · exact h
end Go.Proofs.Ytnfgpepggehegaa.I
namespace Go.Proofs.Ytnfgpepggehegaa.I
open Go.RowKit Go.Proofs.YtnfgpepggehegaaW.PrintWords Go.Proofs.YtnfgpepggehegaaW.PrintLast Go.Proofs.YtnfgpepggehegaaW.PrintMore
attribute [local go_sem] max2_int min2_int max_two min_two max_three min_three max_four min_four
set_option linter.unusedVariables false
set_option maxRecDepth 100000
set_option linter.unusedSimpArgs false
def stepF (l0 : List S87) (l1 : List S84) (t : S28) : S28 × Bool × Int := if stB l0 l1 t = 0 then (if 100000 < tcnt (nextT l1 t) then (⟨0, 0, []⟩, false, 3) else (nextT l1 t, decide (t.f0 = 1), 0)) else (⟨0, 0, []⟩, false, stB l0 l1 t)
theorem stB_zero {l0 : List S87} {l1 : List S84} {t : S28} (h : stB l0 l1 t = 0) : schB l0 l1 = true ∧ tcnt t ≤ 100000 ∧ closedB l0 l1 t = true := by
  unfold stB at h
  split at h
  · rename_i h1
    split at h
    · cases h
    · rename_i h2
      split at h
      · rename_i h3
        exact ⟨h1, by omega, h3⟩
      · cases h
  · cases h
theorem tcnt_mem {x : S28} : ∀ {l : List S28}, x ∈ l → tcnt x ≤ tcntL l
  | y :: ys, h => by
    have h1 := tcnt_ge y
    have h2 := tcntL_ge ys
    rw [tcntL]
    rcases List.mem_cons.1 h with e | h
    · subst e; omega
    · have := tcnt_mem h; omega
set_option maxHeartbeats 16000000 in
theorem step_calls (A0 : Option Addr) (c0 : Nat) (l0 : List S87) (A1 : Option Addr) (c1 : Nat) (l1 : List S84) (t : S28) (A3 : Option Addr) (c3 : Nat) (w : World) (hr0 : Kd.C k87 w A0 l0.length l0) (hc0 : l0.length ≤ c0) (hr1 : Kd.C k84 w A1 l1.length l1) (hc1 : l1.length ≤ c1) (hr3 : Kd.C k28 w A3 t.f2.length t.f2) (hc3 : t.f2.length ≤ c3) :
    Calls Try.prog 14 #[.agg #[.slice A0 l0.length c0, .slice A1 l1.length c1], .agg #[.int .i64 t.f0, .int .i64 t.f1, .slice A3 t.f2.length c3]] w fun e w' => ∃ v, e = .returned (.tuple #[.agg #[.int .i64 (stepF l0 l1 t).1.f0, .int .i64 (stepF l0 l1 t).1.f1, v], .bool (stepF l0 l1 t).2.1, .int .i64 (stepF l0 l1 t).2.2]) ∧ Kd.R k28 28 w' w.heap.size (fun _ => True) v (stepF l0 l1 t).1.f2 ∧ Below w.heap.size w w' := by
  have hu74 := Try.underlying74
  obtain ⟨F, hF⟩ : ∃ F, F = stepF l0 l1 t := ⟨_, rfl⟩
  rw [← hF]
  have HF := Az.mk hF
  clear hF
  have hu25 := Try.underlying25
  have hu28 := Try.underlying28
  have HR0 := Az.mk hr0
  have HC0 := Az.mk hc0
  have HR1 := Az.mk hr1
  have HC1 := Az.mk hc1
  have HR3 := Az.mk hr3
  have HC3 := Az.mk hc3
  clear hr0 hc0 hr1 hc1 hr3 hc3
  go_enter Try.func14, Try.ntmps14
  go_wp2_with (first
    | ((with_reducible refine gate_dst (N := 2) rfl ?_)
       refine box_event ?hg (N := 2) ?hd (cs := #[.slice A0 l0.length c0, .slice A1 l1.length c1]) (t := 25) ?hr ?_
       (case hd => rfl)
       (case hg => rfl)
       (case hr => first | (go_simp; done) | (go_simp; rfl))
       intro g2 hg2 w2 hbox hbb
       have S2 := Az.mk hbox
       have HB2 := Az.mk hbb
       clear hbox hbb hg2)
    | ((with_reducible refine gate_dst (N := 3) rfl ?_)
       refine box_event ?hg (N := 3) ?hd (cs := #[.int .i64 t.f0, .int .i64 t.f1, .slice A3 t.f2.length c3]) (t := 28) ?hr ?_
       (case hd => rfl)
       (case hg => rfl)
       (case hr => first | (go_simp; done) | (go_simp; rfl))
       intro g3 hg3 w3 hbox hbb
       have S3 := Az.mk hbox
       have S23 := Az.mk (bkB S2.out hbb)
       have HB3 := Az.mk (bst HB2.out hbb)
       clear hbox hbb hg3)
    | ((with_reducible refine gate_dst (N := 4) rfl ?_)
       refine box_event ?hg (N := 4) ?hd (cs := #[.int .i64 0, .int .i64 0, .slice none 0 0]) (t := 28) ?hr ?_
       (case hd => rfl)
       (case hg => rfl)
       (case hr => first | (go_simp; done) | (go_simp; rfl))
       intro g4 hg4 w4 hbox hbb
       have HG4 := Az.mk (show w.heap.size ≤ g4 from by have := HB3.out.size; omega)
       have S24 := Az.mk (bkB S23.out hbb)
       have S34 := Az.mk (bkB S3.out hbb)
       have S44 := Az.mk hbox
       have HB4 := Az.mk (bst HB3.out hbb)
       have a0 : w4.cell? ⟨g2, 0, none⟩ = some (.slice A0 l0.length c0) := (blk_cell S24.out 0).trans rfl
       have a1 : w4.cell? ⟨g2, 1, none⟩ = some (.slice A1 l1.length c1) := (blk_cell S24.out 1).trans rfl
       have b0 : w4.cell? ⟨g3, 0, none⟩ = some (.int .i64 t.f0) := (blk_cell S34.out 0).trans rfl
       have b1 : w4.cell? ⟨g3, 1, none⟩ = some (.int .i64 t.f1) := (blk_cell S34.out 1).trans rfl
       have b2 : w4.cell? ⟨g3, 2, none⟩ = some (.slice A3 t.f2.length c3) := (blk_cell S34.out 2).trans rfl
       clear hbox hbb hg4 S23 S3 HB3))
  (with_reducible refine (stepcheck_calls A0 c0 l0 A1 c1 l1 t A3 c3 _ (Kd.C_below HR0.out HB4.out) HC0.out (Kd.C_below HR1.out HB4.out) HC1.out (Kd.C_below HR3.out HB4.out) HC3.out).mono ?_)
  rintro e w5 ⟨rfl, hb5⟩
  have HB5 := Az.mk (bst HB4.out hb5)
  have S25 := Az.mk (bkB S24.out hb5)
  have S35 := Az.mk (bkB S34.out hb5)
  have S45 := Az.mk (bkB S44.out hb5)
  clear hb5 a0 a1 b0 b1 b2 S24 S34 S44 HB4 S2 HB2
  obtain ⟨er, her⟩ : ∃ er, er = stB l0 l1 t := ⟨_, rfl⟩
  rw [← her]
  have HER := Az.mk her
  clear her
  by_cases hz : er = 0
  rotate_left
  · have HE := Az.mk (show F = (⟨0, 0, []⟩, false, er) from by rw [HF.out]; unfold stepF; rw [← HER.out, if_neg hz])
    have q1 : (er != 0) = true := bne_iff_ne.2 hz
    have q2 : (er == 0) = false := beq_eq_false_iff_ne.2 hz
    have z0 : w5.cell? ⟨g4, 0, none⟩ = some (.int .i64 0) := (blk_cell S45.out 0).trans rfl
    have z1 : w5.cell? ⟨g4, 1, none⟩ = some (.int .i64 0) := (blk_cell S45.out 1).trans rfl
    have z2 : w5.cell? ⟨g4, 2, none⟩ = some (.slice none 0 0) := (blk_cell S45.out 2).trans rfl
    have f0 := bkF S45.out 0
    have f1 := bkF S45.out 1
    have f2 := bkF S45.out 2
    clear hz HF HER
    go_wp2_with fail
    refine bodyPost_ret (results_ctt rfl _ _ g4 28 #[.int .i64 0, .int .i64 0, .slice none 0 0] (0, 0) _ rfl (blk_put (cs' := #[.int .i64 0, .int .i64 0, .slice none 0 0]) (blk_put (cs' := #[.int .i64 0, .int .i64 0, .slice none 0 0]) (blk_put (cs' := #[.int .i64 0, .int .i64 0, .slice none 0 0]) S45.out 0 (.int .i64 0) rfl) 1 (.int .i64 0) rfl) 2 (.slice none 0 0) rfl) Try.underlying28 rfl (by kernel_rfl)) rfl ?_
    refine ⟨.slice none 0 0, by rw [HE.out]; rfl, ?_, bset (bset (bset HB5.out HG4.out) HG4.out) HG4.out⟩
    rw [HE.out]
    exact Kd.R_nil _ _ _ _ _
  subst hz
  obtain ⟨hs, htc, hcl⟩ := stB_zero HER.out.symm
  obtain ⟨hsm, h1, h64⟩ := sch_parts hs
  have HRD := Az.mk (ready_of hs hcl)
  have H64 := Az.mk h64
  have HBG := Az.mk (show ∀ x ∈ l1, tcnt x.f2 ≤ 1000000 from fun x hx => by have := (sch_bodies hs).2 x hx; omega)
  have HBG2 := Az.mk (show ∀ x ∈ l1, tcntL x.f2.f2 ≤ 1000000 from fun x hx => by have := (sch_bodies hs).2 x hx; have := tcnt_f2 x.f2; omega)
  have HTG := Az.mk (show ∀ x ∈ t.f2, tcnt x ≤ 1000000 from fun x hx => by have := tcnt_mem hx; have := tcnt_f2 t; omega)
  have HTL := Az.mk (show tcntL t.f2 ≤ 1000000 from by have := tcnt_f2 t; omega)
  have HTT := Az.mk (show (⟨t.f0, t.f1, t.f2⟩ : S28) = t from by cases t; rfl)
  have HE := Az.mk (show F = if 100000 < tcnt (nextT l1 t) then (⟨0, 0, []⟩, false, 3) else (nextT l1 t, decide (t.f0 = 1), 0) from by rw [HF.out]; unfold stepF; rw [← HER.out, if_pos rfl])
  clear hs htc hcl hsm h1 h64 HF HER
  go_upto_region 4 with fail
  have e0 : w5.cell? ⟨g2, 0, none⟩ = some (.slice A0 l0.length c0) := (blk_cell S25.out 0).trans rfl
  have e1 : w5.cell? ⟨g2, 1, none⟩ = some (.slice A1 l1.length c1) := (blk_cell S25.out 1).trans rfl
  have b0 : w5.cell? ⟨g3, 0, none⟩ = some (.int .i64 t.f0) := (blk_cell S35.out 0).trans rfl
  have b1 : w5.cell? ⟨g3, 1, none⟩ = some (.int .i64 t.f1) := (blk_cell S35.out 1).trans rfl
  have b2 : w5.cell? ⟨g3, 2, none⟩ = some (.slice A3 t.f2.length c3) := (blk_cell S35.out 2).trans rfl
  try simp only [Act.put, List.setIfInBounds_toArray, List.set_cons_succ, List.set_cons_zero]
  go_cut [8, 9] from 18 to 9 (fun v8 v9 wc => ∃ g : Nat, v8 = .pointer (some ⟨g, 0, none⟩) ∧ v9 = .bool (decide (t.f0 = 1)) ∧ Az (Cl wc (fun _ => True) (nextT l1 t) (.pointer (some ⟨g, 0, none⟩))) ∧ Az (Below w5.heap.size w5 wc))
  case first =>
    go_region_held3 (fun w' => w'.cell? ⟨g2, 0, none⟩ = some (.slice A0 l0.length c0) ∧ w'.cell? ⟨g2, 1, none⟩ = some (.slice A1 l1.length c1) ∧ w'.cell? ⟨g3, 0, none⟩ = some (.int .i64 t.f0) ∧ w'.cell? ⟨g3, 1, none⟩ = some (.int .i64 t.f1) ∧ w'.cell? ⟨g3, 2, none⟩ = some (.slice A3 t.f2.length c3)) (go_keep)
      (first
        | (go_at_call 37
           (with_reducible refine (cscheme_calls A0 c0 l0.length A1 c1 l1 w5.drew (Kd.C_below HR1.out (below_drew HB5.out)) H64.out HBG2.out).mono ?_)
           rintro e9 wA ⟨Ab, cb, Ap, cp, bs, rfl, hrow, hcll, hbA⟩
           have HRowA := Az.mk hrow
           have HClA := Az.mk hcll
           have HbA := Az.mk (bst (below_drew (Below.refl w5.heap.size w5)) hbA)
           have p0 := cell_up hbA (show w5.drew.cell? _ = _ from e0)
           have p1 := cell_up hbA (show w5.drew.cell? _ = _ from e1)
           have p2 := cell_up hbA (show w5.drew.cell? _ = _ from b0)
           have p3 := cell_up hbA (show w5.drew.cell? _ = _ from b1)
           have p4 := cell_up hbA (show w5.drew.cell? _ = _ from b2)
           clear hrow hcll hbA)
        | (go_at_call 39
           (with_reducible refine (cof_calls _ t.f0 t.f1 t.f2 A3 c3 wA (Nat.lt_succ_self _) HTL.out (Kd.C_below HR3.out (bst HB5.out HbA.out)) HC3.out).mono ?_)
           rintro e9 wB ⟨gv, rfl, hcv, hbB⟩
           rw [HTT.out] at hcv
           have HRowB := Az.mk (Row_below hbB HRowA.out)
           have HClB := Az.mk (ClL_below hbB HClA.out)
           have HCvB := Az.mk hcv
           have HRowB2 := Az.mk (show Row wB (fun q => q < wB.heap.size) (.slice Ab l1.length cb) bs from Kd.V_mono (Kd.V_bound (show Kd.V (Kd.raw 1) 65 wB 0 _ (.slice Ab l1.length cb) (bs.map (fun v => [v])) from HRowB.out)) (fun q h => h.2))
           have HClB2 := Az.mk (ClL_mono (ok1 := fun q => q < wB.heap.size) (fun q _ h => h) HClB.out)
           have HCvB2 := Az.mk (Cl_mono (ok1 := fun q => q < wB.heap.size) (fun q _ h => h) hcv)
           have HIDB := Az.mk (show ∀ q, q < wB.heap.size → q < wB.heap.size from fun q h => h)
           have HbB := Az.mk (bst HbA.out hbB)
           have r0 := cell_up hbB p0
           have r1 := cell_up hbB p1
           have r2 := cell_up hbB p2
           have r3 := cell_up hbB p3
           have r4 := cell_up hbB p4
           clear hcv hbB)
        | (go_at_call 38
           (with_reducible refine (cstep_calls l1 Ab cb Ap l1.length cp bs t (.pointer (some ⟨gv, 0, none⟩)) (fun q => q < wB.heap.size) wB HRowB2.out HClB2.out HCvB2.out HIDB.out HRD.out HBG.out HTG.out).mono ?_)
           rintro e9 wC ⟨g5, rfl, hcn, hbC⟩
           have HCn := Az.mk hcn
           have HbC := Az.mk (bst HbB.out hbC)
           have s0 := cell_up hbC r0
           have s1 := cell_up hbC r1
           have s2 := cell_up hbC r2
           have s3 := cell_up hbC r3
           have s4 := cell_up hbC r4
           clear hcn hbC))
    all_goals (go_wp2_with fail; go_meet; exact ⟨_, rfl, rfl, ⟨Cl_mono (fun q _ _ => trivial) HCn.out⟩, HbC⟩)
  case rest =>
    obtain ⟨g5, rfl, rfl, HCn, HBc⟩ := hcut
    clear e0 e1 b0 b1 b2 HTG HTL HBG HBG2 HRD H64 HTT
    have HB9 := Az.mk (bst HB5.out HBc.out)
    have S49 := Az.mk (bkB S45.out HBc.out)
    have hcn := HCn.out
    have hcz := csz_gt (nextT l1 t)
    generalize nextT l1 t = y at *
    cases y with
    | mk ky ny ly =>
    unfold Cl at hcn
    obtain ⟨g6, a6, _, hge, _, hgy, _, _⟩ := hcn
    injection hge with hge
    injection hge with hge
    injection hge with hge
    subst hge
    have e3 : wc.cell? ⟨g5, 3, none⟩ = some (.int .i64 (csz ⟨ky, ny, ly⟩)) := (blk_cell hgy 3).trans rfl
    generalize csz ⟨ky, ny, ly⟩ = cz at *
    clear hgy
    by_cases hbig : 100000 < cz
    · have HE2 := Az.mk (show F = (⟨0, 0, []⟩, false, 3) from by rw [HE.out, if_pos (hcz.1 hbig)])
      have p1 : (100000 < cz) = True := eq_true hbig
      have z0 : wc.cell? ⟨g4, 0, none⟩ = some (.int .i64 0) := (blk_cell S49.out 0).trans rfl
      have z1 : wc.cell? ⟨g4, 1, none⟩ = some (.int .i64 0) := (blk_cell S49.out 1).trans rfl
      have z2 : wc.cell? ⟨g4, 2, none⟩ = some (.slice none 0 0) := (blk_cell S49.out 2).trans rfl
      have f0 := bkF S49.out 0
      have f1 := bkF S49.out 1
      have f2 := bkF S49.out 2
      clear hbig hcz HE
      go_wp2_with fail
      refine bodyPost_ret (results_ctt rfl _ _ g4 28 #[.int .i64 0, .int .i64 0, .slice none 0 0] (0, 0) _ rfl (blk_put (cs' := #[.int .i64 0, .int .i64 0, .slice none 0 0]) (blk_put (cs' := #[.int .i64 0, .int .i64 0, .slice none 0 0]) (blk_put (cs' := #[.int .i64 0, .int .i64 0, .slice none 0 0]) S49.out 0 (.int .i64 0) rfl) 1 (.int .i64 0) rfl) 2 (.slice none 0 0) rfl) Try.underlying28 rfl (by kernel_rfl)) rfl ?_
      refine ⟨.slice none 0 0, by rw [HE2.out]; rfl, ?_, bset (bset (bset HB9.out HG4.out) HG4.out) HG4.out⟩
      rw [HE2.out]
      exact Kd.R_nil _ _ _ _ _
    · have HE2 := Az.mk (show F = (⟨ky, ny, ly⟩, decide (t.f0 = 1), 0) from by rw [HE.out, if_neg (fun h => hbig (hcz.2 h))])
      have HTL := Az.mk (show tcntL ly ≤ 1000000 from by have h : ¬ 100000 < tcnt ⟨ky, ny, ly⟩ := fun h => hbig (hcz.2 h); have : tcnt ⟨ky, ny, ly⟩ = 1 + tcntL ly := tcnt_f2 ⟨ky, ny, ly⟩; omega)
      have p1 : (100000 < cz) = False := eq_false hbig
      clear hbig hcz HE
      go_wp2_with fail
      (with_reducible refine (cterm_calls _ ky ny ly _ wc _ (Nat.lt_succ_self _) HTL.out HCn.out).mono ?_)
      rintro e wD ⟨u, rfl, hRu, hbD⟩
      obtain ⟨Au, cu, rfl⟩ := Kd.R_slice hRu
      have HRu := Az.mk (Kd.R_mono (Kd.R_bound hRu) (fun k hk => (show wc.heap.size ≤ k from hk.2.1)))
      have HBD := Az.mk (bst HB9.out hbD)
      have S4D := Az.mk (bkB S49.out hbD)
      have hlt4 := blk_lt S49.out
      clear hRu hbD e3
      have z0 : wD.cell? ⟨g4, 0, none⟩ = some (.int .i64 0) := (blk_cell S4D.out 0).trans rfl
      have z1 : wD.cell? ⟨g4, 1, none⟩ = some (.int .i64 0) := (blk_cell S4D.out 1).trans rfl
      have z2 : wD.cell? ⟨g4, 2, none⟩ = some (.slice none 0 0) := (blk_cell S4D.out 2).trans rfl
      have f0 := bkF S4D.out 0
      have f1 := bkF S4D.out 1
      have f2 := bkF S4D.out 2
      have HL4 := Az.mk hlt4
      clear hlt4
      go_wp2_with fail
      refine bodyPost_ret (results_ctt rfl _ _ g4 28 #[.int .i64 ky, .int .i64 ny, .slice Au ly.length cu] (0, 0) _ rfl (blk_put (cs' := #[.int .i64 ky, .int .i64 ny, .slice Au ly.length cu]) (blk_put (cs' := #[.int .i64 ky, .int .i64 ny, .slice none 0 0]) (blk_put (cs' := #[.int .i64 ky, .int .i64 0, .slice none 0 0]) S4D.out 0 (.int .i64 ky) rfl) 1 (.int .i64 ny) rfl) 2 (.slice Au ly.length cu) rfl) Try.underlying28 rfl (by kernel_rfl)) rfl ?_
      have hne : ∀ k, wc.heap.size ≤ k → k ≠ g4 := fun k hk => by have := HL4.out; omega
      refine ⟨.slice Au ly.length cu, by rw [HE2.out]; rfl, ?_, bset (bset (bset HBD.out HG4.out) HG4.out) HG4.out⟩
      rw [HE2.out]
      exact Kd.R_mono (Kd.R_lower (Kd.R_far (p := ⟨g4, 2, none⟩) (Kd.R_far (p := ⟨g4, 1, none⟩) (Kd.R_far (p := ⟨g4, 0, none⟩) HRu.out hne (.int .i64 ky)) hne (.int .i64 ny)) hne (.slice Au ly.length cu)) HB9.out.size) (fun _ _ => trivial)
end Go.Proofs.Ytnfgpepggehegaa.I
namespace Go.Proofs.Ytnfgpepggehegaa.I
open Go.RowKit Go.Proofs.YtnfgpepggehegaaW.PrintWords Go.Proofs.YtnfgpepggehegaaW.PrintLast Go.Proofs.YtnfgpepggehegaaW.PrintMore
attribute [local go_sem] max2_int min2_int max_two min_two max_three min_three max_four min_four   -- for this text's walks alone
set_option linter.unusedVariables false
set_option linter.unusedSimpArgs false
def step_fuelled.f (a0 : Int) : Option (Int) := if a0 < 0 then (some 2) else (if a0 > 1048576 then (some 2) else (some 0))
set_option maxHeartbeats 8000000 in
set_option maxRecDepth 100000 in
theorem step_fuelled.calls (a0 : Int) (r : Int) (w : World) (h : step_fuelled.f a0 = some r) :
    Calls Try.prog 42 #[.int .i64 a0] w fun e w' => e = .returned (.int .i64 r) ∧ Drawn0 w w' := by
  have H : (if a0 < 0 then (some 2) else (if a0 > 1048576 then (some 2) else (some 0))) = some r := h
  clear h
  by_cases c2 : a0 < 0
  · rw [if_pos c2] at H
    have c2b0 : decide (a0 < 0) = true := decide_eq_true c2
    clear c2
    obtain rfl := Option.some.inj H
    go_enter Try.func42, Try.ntmps42
    go_wp2
    go_ret
    exact ⟨by first | rfl | (simp; done) | (simp [*]; done), by repeat (first | exact Drawn0.refl _ | apply Drawn0.step)⟩
  · rw [if_neg c2] at H
    have c2b0 : decide (a0 < 0) = false := decide_eq_false c2
    clear c2
    by_cases c3 : a0 > 1048576
    · rw [if_pos c3] at H
      have c3b0 : decide (1048576 < a0) = true := decide_eq_true c3
      clear c3
      obtain rfl := Option.some.inj H
      go_enter Try.func42, Try.ntmps42
      go_wp2
      go_ret
      exact ⟨by first | rfl | (simp; done) | (simp [*]; done), by repeat (first | exact Drawn0.refl _ | apply Drawn0.step)⟩
    · rw [if_neg c3] at H
      have c3b0 : decide (1048576 < a0) = false := decide_eq_false c3
      clear c3
      obtain rfl := Option.some.inj H
      go_enter Try.func42, Try.ntmps42
      go_wp2
      go_ret
      exact ⟨by first | rfl | (simp; done) | (simp [*]; done), by repeat (first | exact Drawn0.refl _ | apply Drawn0.step)⟩
def virgationref03_begins.f (a0 : ByteArray) (a1 : Int) (a2 : ByteArray) : Option (Bool) := if (wrap64 ((a0.size : Int) - a1)) ≥ (a2.size : Int) then (if 0 ≤ a1 then (if a1 ≤ (wrap64 (a1 + (a2.size : Int))) then (if (wrap64 (a1 + (a2.size : Int))) ≤ (a0.size : Int) then (some ((a0.extract (a1 : Int).toNat ((wrap64 (a1 + (a2.size : Int))) : Int).toNat).toList == a2.toList)) else (none)) else (none)) else (none)) else (some false)
set_option maxHeartbeats 8000000 in
set_option maxRecDepth 100000 in
theorem virgationref03_begins.calls (a0 : ByteArray) (a1 : Int) (a2 : ByteArray) (r : Bool) (w : World) (h : virgationref03_begins.f a0 a1 a2 = some r) :
    Calls Try.prog 63 #[.string a0, .int .i64 a1, .string a2] w fun e w' => e = .returned (.bool r) ∧ Drawn0 w w' := by
  have H : (if (wrap64 ((a0.size : Int) - a1)) ≥ (a2.size : Int) then (if 0 ≤ a1 then (if a1 ≤ (wrap64 (a1 + (a2.size : Int))) then (if (wrap64 (a1 + (a2.size : Int))) ≤ (a0.size : Int) then (some ((a0.extract (a1 : Int).toNat ((wrap64 (a1 + (a2.size : Int))) : Int).toNat).toList == a2.toList)) else (none)) else (none)) else (none)) else (some false)) = some r := h
  clear h
  by_cases c4 : (wrap64 ((a0.size : Int) - a1)) ≥ (a2.size : Int)
  · rw [if_pos c4] at H
    have c4b0 : decide ((a2.size : Int) ≤ (wrap64 ((a0.size : Int) - a1))) = true := decide_eq_true c4
    clear c4
    by_cases c5 : 0 ≤ a1
    · rw [if_pos c5] at H
      have c5b0 := eq_true c5
      have c5b1 : decide (0 ≤ a1) = true := decide_eq_true c5
      clear c5
      by_cases c6 : a1 ≤ (wrap64 (a1 + (a2.size : Int)))
      · rw [if_pos c6] at H
        have c6b0 := eq_true c6
        have c6b1 : decide (a1 ≤ (wrap64 (a1 + (a2.size : Int)))) = true := decide_eq_true c6
        by_cases c7 : (wrap64 (a1 + (a2.size : Int))) ≤ (a0.size : Int)
        · rw [if_pos c7] at H
          have c7b0 := eq_true c7
          have c7b1 : decide ((wrap64 (a1 + (a2.size : Int))) ≤ (a0.size : Int)) = true := decide_eq_true c7
          obtain rfl := Option.some.inj H
          go_enter Try.func63, Try.ntmps63
          go_wp2
          go_ret
          exact ⟨by first | rfl | (simp; done) | (simp [*]; done), by repeat (first | exact Drawn0.refl _ | apply Drawn0.step)⟩
        · rw [if_neg c7] at H
          exact absurd H (by simp)
      · rw [if_neg c6] at H
        exact absurd H (by simp)
    · rw [if_neg c5] at H
      exact absurd H (by simp)
  · rw [if_neg c4] at H
    have c4b0 : decide ((a2.size : Int) ≤ (wrap64 ((a0.size : Int) - a1))) = false := decide_eq_false c4
    clear c4
    obtain rfl := Option.some.inj H
    go_enter Try.func63, Try.ntmps63
    go_wp2
    go_ret
    exact ⟨by first | rfl | (simp; done) | (simp [*]; done), by repeat (first | exact Drawn0.refl _ | apply Drawn0.step)⟩
def virgationref03_word.l0 : Nat → ByteArray → Int → Option (Int)
  | 0, _, _ => none
  | k + 1, x0, x1 => if x1 < (x0.size : Int) then (if 0 ≤ x1 then (if (bt x0 x1) ≥ 97 then (if (bt x0 x1) ≤ 122 then (virgationref03_word.l0 k x0 (wrap64 (x1 + 1))) else (if (bt x0 x1) ≥ 48 then (if (bt x0 x1) ≤ 57 then (virgationref03_word.l0 k x0 (wrap64 (x1 + 1))) else (if (bt x0 x1) = 95 then (virgationref03_word.l0 k x0 (wrap64 (x1 + 1))) else (some x1))) else (if (bt x0 x1) = 95 then (virgationref03_word.l0 k x0 (wrap64 (x1 + 1))) else (some x1)))) else (if (bt x0 x1) ≥ 48 then (if (bt x0 x1) ≤ 57 then (virgationref03_word.l0 k x0 (wrap64 (x1 + 1))) else (if (bt x0 x1) = 95 then (virgationref03_word.l0 k x0 (wrap64 (x1 + 1))) else (some x1))) else (if (bt x0 x1) = 95 then (virgationref03_word.l0 k x0 (wrap64 (x1 + 1))) else (some x1)))) else (none)) else (some x1)
def virgationref03_word.f (k : Nat) (a0 : ByteArray) (a1 : Int) : Option (Int) := virgationref03_word.l0 k a0 a1
set_option maxHeartbeats 8000000 in
set_option maxRecDepth 100000 in
theorem virgationref03_word.calls (k : Nat) (a0 : ByteArray) (a1 : Int) (r : Int) (w : World) (h : virgationref03_word.f k a0 a1 = some r) :
    Calls Try.prog 78 #[.string a0, .int .i64 a1] w fun e w' => e = .returned (.int .i64 r) ∧ Drawn0 w w' := by
  have H : (virgationref03_word.l0 k a0 a1) = some r := h
  clear h
  have H' := Az.mk H
  clear H
  go_enter Try.func78, Try.ntmps78
  go_wp2
  go_loopg [1] k (fun kq v1 w' => ∃ (x1_1 : Int), v1 = .int .i64 x1_1 ∧ Az (virgationref03_word.l0 kq a0 x1_1 = some r) ∧ Az (kq ≤ k) ∧ Drawn0 w w')
  case atStart => exact ⟨(a1), (by first | rfl | (simp; done) | (simp [*]; done)), H', ⟨Nat.le_refl _⟩, by repeat (first | exact Drawn0.refl _ | apply Drawn0.step)⟩
  case round =>
    clear H'
    try clear p2
    obtain ⟨x1_1, rfl, HA, HK1, ⟨m1, rfl⟩⟩ := hrel
    cases gk with
    | zero => exact absurd HA.out (by simp [virgationref03_word.l0])
    | succ k1 =>
      have H := HA.out
      clear HA
      simp only [virgationref03_word.l0] at H
      by_cases c3 : x1_1 < (a0.size : Int)
      · rw [if_pos c3] at H
        have c3b0 : decide (x1_1 < (a0.size : Int)) = true := decide_eq_true c3
        clear c3
        by_cases c4 : 0 ≤ x1_1
        · rw [if_pos c4] at H
          have c4b0 : decide (0 ≤ x1_1) = true := decide_eq_true c4
          clear c4
          by_cases c6 : (bt a0 x1_1) ≥ 97
          · rw [if_pos c6] at H
            have c6b0 : decide (97 ≤ (bt a0 x1_1)) = true := decide_eq_true c6
            clear c6
            by_cases c8 : (bt a0 x1_1) ≤ 122
            · rw [if_pos c8] at H
              have c8b0 : decide ((bt a0 x1_1) ≤ 122) = true := decide_eq_true c8
              clear c8
              have H' := Az.mk H
              clear H
              have p5 : 0 ≤ (x1_1 : Int) := of_decide_eq_true (by first | (with_reducible assumption) | assumption)
              have q5 : x1_1 < (a0.size : Int) := of_decide_eq_true (by first | (with_reducible assumption) | assumption)
              have hx5 := bt_at a0 x1_1
              replace p5 := eq_true p5
              replace q5 := eq_true q5
              have p7 : 0 ≤ (x1_1 : Int) := of_decide_eq_true (by first | (with_reducible assumption) | assumption)
              have q7 : x1_1 < (a0.size : Int) := of_decide_eq_true (by first | (with_reducible assumption) | assumption)
              have hx7 := bt_at a0 x1_1
              replace p7 := eq_true p7
              replace q7 := eq_true q7
              go_wp2
              go_roundg k1
              case measure => have := HK1.out; omega
              case rel => exact ⟨(wrap64 (x1_1 + 1)), (by first | rfl | (simp; done) | (simp [*]; done)), H', ⟨by have := HK1.out; omega⟩, by repeat (first | exact Drawn0.refl _ | apply Drawn0.step)⟩
            · rw [if_neg c8] at H
              have c8b0 : decide ((bt a0 x1_1) ≤ 122) = false := decide_eq_false c8
              clear c8
              by_cases c10 : (bt a0 x1_1) ≥ 48
              · rw [if_pos c10] at H
                have c10b0 : decide (48 ≤ (bt a0 x1_1)) = true := decide_eq_true c10
                clear c10
                by_cases c12 : (bt a0 x1_1) ≤ 57
                · rw [if_pos c12] at H
                  have c12b0 : decide ((bt a0 x1_1) ≤ 57) = true := decide_eq_true c12
                  clear c12
                  have H' := Az.mk H
                  clear H
                  have p5 : 0 ≤ (x1_1 : Int) := of_decide_eq_true (by first | (with_reducible assumption) | assumption)
                  have q5 : x1_1 < (a0.size : Int) := of_decide_eq_true (by first | (with_reducible assumption) | assumption)
                  have hx5 := bt_at a0 x1_1
                  replace p5 := eq_true p5
                  replace q5 := eq_true q5
                  have p7 : 0 ≤ (x1_1 : Int) := of_decide_eq_true (by first | (with_reducible assumption) | assumption)
                  have q7 : x1_1 < (a0.size : Int) := of_decide_eq_true (by first | (with_reducible assumption) | assumption)
                  have hx7 := bt_at a0 x1_1
                  replace p7 := eq_true p7
                  replace q7 := eq_true q7
                  have p9 : 0 ≤ (x1_1 : Int) := of_decide_eq_true (by first | (with_reducible assumption) | assumption)
                  have q9 : x1_1 < (a0.size : Int) := of_decide_eq_true (by first | (with_reducible assumption) | assumption)
                  have hx9 := bt_at a0 x1_1
                  replace p9 := eq_true p9
                  replace q9 := eq_true q9
                  have p11 : 0 ≤ (x1_1 : Int) := of_decide_eq_true (by first | (with_reducible assumption) | assumption)
                  have q11 : x1_1 < (a0.size : Int) := of_decide_eq_true (by first | (with_reducible assumption) | assumption)
                  have hx11 := bt_at a0 x1_1
                  replace p11 := eq_true p11
                  replace q11 := eq_true q11
                  go_wp2
                  go_roundg k1
                  case measure => have := HK1.out; omega
                  case rel => exact ⟨(wrap64 (x1_1 + 1)), (by first | rfl | (simp; done) | (simp [*]; done)), H', ⟨by have := HK1.out; omega⟩, by repeat (first | exact Drawn0.refl _ | apply Drawn0.step)⟩
                · rw [if_neg c12] at H
                  have c12b0 : decide ((bt a0 x1_1) ≤ 57) = false := decide_eq_false c12
                  clear c12
                  by_cases c14 : (bt a0 x1_1) = 95
                  · rw [if_pos c14] at H
                    have c14b0 : ((bt a0 x1_1) == 95) = true := beq_iff_eq.mpr c14
                    have c14b1 : ((bt a0 x1_1) != 95) = false := bne_eq_false_iff_eq.mpr c14
                    clear c14
                    have H' := Az.mk H
                    clear H
                    have p5 : 0 ≤ (x1_1 : Int) := of_decide_eq_true (by first | (with_reducible assumption) | assumption)
                    have q5 : x1_1 < (a0.size : Int) := of_decide_eq_true (by first | (with_reducible assumption) | assumption)
                    have hx5 := bt_at a0 x1_1
                    replace p5 := eq_true p5
                    replace q5 := eq_true q5
                    have p7 : 0 ≤ (x1_1 : Int) := of_decide_eq_true (by first | (with_reducible assumption) | assumption)
                    have q7 : x1_1 < (a0.size : Int) := of_decide_eq_true (by first | (with_reducible assumption) | assumption)
                    have hx7 := bt_at a0 x1_1
                    replace p7 := eq_true p7
                    replace q7 := eq_true q7
                    have p9 : 0 ≤ (x1_1 : Int) := of_decide_eq_true (by first | (with_reducible assumption) | assumption)
                    have q9 : x1_1 < (a0.size : Int) := of_decide_eq_true (by first | (with_reducible assumption) | assumption)
                    have hx9 := bt_at a0 x1_1
                    replace p9 := eq_true p9
                    replace q9 := eq_true q9
                    have p11 : 0 ≤ (x1_1 : Int) := of_decide_eq_true (by first | (with_reducible assumption) | assumption)
                    have q11 : x1_1 < (a0.size : Int) := of_decide_eq_true (by first | (with_reducible assumption) | assumption)
                    have hx11 := bt_at a0 x1_1
                    replace p11 := eq_true p11
                    replace q11 := eq_true q11
                    have p13 : 0 ≤ (x1_1 : Int) := of_decide_eq_true (by first | (with_reducible assumption) | assumption)
                    have q13 : x1_1 < (a0.size : Int) := of_decide_eq_true (by first | (with_reducible assumption) | assumption)
                    have hx13 := bt_at a0 x1_1
                    replace p13 := eq_true p13
                    replace q13 := eq_true q13
                    go_wp2
                    go_roundg k1
                    case measure => have := HK1.out; omega
                    case rel => exact ⟨(wrap64 (x1_1 + 1)), (by first | rfl | (simp; done) | (simp [*]; done)), H', ⟨by have := HK1.out; omega⟩, by repeat (first | exact Drawn0.refl _ | apply Drawn0.step)⟩
                  · rw [if_neg c14] at H
                    have c14b0 : ((bt a0 x1_1) == 95) = false := beq_eq_false_iff_ne.mpr c14
                    have c14b1 : ((bt a0 x1_1) != 95) = true := bne_iff_ne.mpr c14
                    obtain rfl := Option.some.inj H
                    have p5 : 0 ≤ (x1_1 : Int) := of_decide_eq_true (by first | (with_reducible assumption) | assumption)
                    have q5 : x1_1 < (a0.size : Int) := of_decide_eq_true (by first | (with_reducible assumption) | assumption)
                    have hx5 := bt_at a0 x1_1
                    replace p5 := eq_true p5
                    replace q5 := eq_true q5
                    have p7 : 0 ≤ (x1_1 : Int) := of_decide_eq_true (by first | (with_reducible assumption) | assumption)
                    have q7 : x1_1 < (a0.size : Int) := of_decide_eq_true (by first | (with_reducible assumption) | assumption)
                    have hx7 := bt_at a0 x1_1
                    replace p7 := eq_true p7
                    replace q7 := eq_true q7
                    have p9 : 0 ≤ (x1_1 : Int) := of_decide_eq_true (by first | (with_reducible assumption) | assumption)
                    have q9 : x1_1 < (a0.size : Int) := of_decide_eq_true (by first | (with_reducible assumption) | assumption)
                    have hx9 := bt_at a0 x1_1
                    replace p9 := eq_true p9
                    replace q9 := eq_true q9
                    have p11 : 0 ≤ (x1_1 : Int) := of_decide_eq_true (by first | (with_reducible assumption) | assumption)
                    have q11 : x1_1 < (a0.size : Int) := of_decide_eq_true (by first | (with_reducible assumption) | assumption)
                    have hx11 := bt_at a0 x1_1
                    replace p11 := eq_true p11
                    replace q11 := eq_true q11
                    have p13 : 0 ≤ (x1_1 : Int) := of_decide_eq_true (by first | (with_reducible assumption) | assumption)
                    have q13 : x1_1 < (a0.size : Int) := of_decide_eq_true (by first | (with_reducible assumption) | assumption)
                    have hx13 := bt_at a0 x1_1
                    replace p13 := eq_true p13
                    replace q13 := eq_true q13
                    go_wp2
                    go_ret
                    exact ⟨by first | rfl | (simp; done) | (simp [*]; done), by repeat (first | exact Drawn0.refl _ | apply Drawn0.step)⟩
              · rw [if_neg c10] at H
                have c10b0 : decide (48 ≤ (bt a0 x1_1)) = false := decide_eq_false c10
                clear c10
                by_cases c16 : (bt a0 x1_1) = 95
                · rw [if_pos c16] at H
                  have c16b0 : ((bt a0 x1_1) == 95) = true := beq_iff_eq.mpr c16
                  have c16b1 : ((bt a0 x1_1) != 95) = false := bne_eq_false_iff_eq.mpr c16
                  clear c16
                  have H' := Az.mk H
                  clear H
                  have p5 : 0 ≤ (x1_1 : Int) := of_decide_eq_true (by first | (with_reducible assumption) | assumption)
                  have q5 : x1_1 < (a0.size : Int) := of_decide_eq_true (by first | (with_reducible assumption) | assumption)
                  have hx5 := bt_at a0 x1_1
                  replace p5 := eq_true p5
                  replace q5 := eq_true q5
                  have p7 : 0 ≤ (x1_1 : Int) := of_decide_eq_true (by first | (with_reducible assumption) | assumption)
                  have q7 : x1_1 < (a0.size : Int) := of_decide_eq_true (by first | (with_reducible assumption) | assumption)
                  have hx7 := bt_at a0 x1_1
                  replace p7 := eq_true p7
                  replace q7 := eq_true q7
                  have p9 : 0 ≤ (x1_1 : Int) := of_decide_eq_true (by first | (with_reducible assumption) | assumption)
                  have q9 : x1_1 < (a0.size : Int) := of_decide_eq_true (by first | (with_reducible assumption) | assumption)
                  have hx9 := bt_at a0 x1_1
                  replace p9 := eq_true p9
                  replace q9 := eq_true q9
                  have p15 : 0 ≤ (x1_1 : Int) := of_decide_eq_true (by first | (with_reducible assumption) | assumption)
                  have q15 : x1_1 < (a0.size : Int) := of_decide_eq_true (by first | (with_reducible assumption) | assumption)
                  have hx15 := bt_at a0 x1_1
                  replace p15 := eq_true p15
                  replace q15 := eq_true q15
                  go_wp2
                  go_roundg k1
                  case measure => have := HK1.out; omega
                  case rel => exact ⟨(wrap64 (x1_1 + 1)), (by first | rfl | (simp; done) | (simp [*]; done)), H', ⟨by have := HK1.out; omega⟩, by repeat (first | exact Drawn0.refl _ | apply Drawn0.step)⟩
                · rw [if_neg c16] at H
                  have c16b0 : ((bt a0 x1_1) == 95) = false := beq_eq_false_iff_ne.mpr c16
                  have c16b1 : ((bt a0 x1_1) != 95) = true := bne_iff_ne.mpr c16
                  obtain rfl := Option.some.inj H
                  have p5 : 0 ≤ (x1_1 : Int) := of_decide_eq_true (by first | (with_reducible assumption) | assumption)
                  have q5 : x1_1 < (a0.size : Int) := of_decide_eq_true (by first | (with_reducible assumption) | assumption)
                  have hx5 := bt_at a0 x1_1
                  replace p5 := eq_true p5
                  replace q5 := eq_true q5
                  have p7 : 0 ≤ (x1_1 : Int) := of_decide_eq_true (by first | (with_reducible assumption) | assumption)
                  have q7 : x1_1 < (a0.size : Int) := of_decide_eq_true (by first | (with_reducible assumption) | assumption)
                  have hx7 := bt_at a0 x1_1
                  replace p7 := eq_true p7
                  replace q7 := eq_true q7
                  have p9 : 0 ≤ (x1_1 : Int) := of_decide_eq_true (by first | (with_reducible assumption) | assumption)
                  have q9 : x1_1 < (a0.size : Int) := of_decide_eq_true (by first | (with_reducible assumption) | assumption)
                  have hx9 := bt_at a0 x1_1
                  replace p9 := eq_true p9
                  replace q9 := eq_true q9
                  have p15 : 0 ≤ (x1_1 : Int) := of_decide_eq_true (by first | (with_reducible assumption) | assumption)
                  have q15 : x1_1 < (a0.size : Int) := of_decide_eq_true (by first | (with_reducible assumption) | assumption)
                  have hx15 := bt_at a0 x1_1
                  replace p15 := eq_true p15
                  replace q15 := eq_true q15
                  go_wp2
                  go_ret
                  exact ⟨by first | rfl | (simp; done) | (simp [*]; done), by repeat (first | exact Drawn0.refl _ | apply Drawn0.step)⟩
          · rw [if_neg c6] at H
            have c6b0 : decide (97 ≤ (bt a0 x1_1)) = false := decide_eq_false c6
            clear c6
            by_cases c18 : (bt a0 x1_1) ≥ 48
            · rw [if_pos c18] at H
              have c18b0 : decide (48 ≤ (bt a0 x1_1)) = true := decide_eq_true c18
              clear c18
              by_cases c20 : (bt a0 x1_1) ≤ 57
              · rw [if_pos c20] at H
                have c20b0 : decide ((bt a0 x1_1) ≤ 57) = true := decide_eq_true c20
                clear c20
                have H' := Az.mk H
                clear H
                have p5 : 0 ≤ (x1_1 : Int) := of_decide_eq_true (by first | (with_reducible assumption) | assumption)
                have q5 : x1_1 < (a0.size : Int) := of_decide_eq_true (by first | (with_reducible assumption) | assumption)
                have hx5 := bt_at a0 x1_1
                replace p5 := eq_true p5
                replace q5 := eq_true q5
                have p17 : 0 ≤ (x1_1 : Int) := of_decide_eq_true (by first | (with_reducible assumption) | assumption)
                have q17 : x1_1 < (a0.size : Int) := of_decide_eq_true (by first | (with_reducible assumption) | assumption)
                have hx17 := bt_at a0 x1_1
                replace p17 := eq_true p17
                replace q17 := eq_true q17
                have p19 : 0 ≤ (x1_1 : Int) := of_decide_eq_true (by first | (with_reducible assumption) | assumption)
                have q19 : x1_1 < (a0.size : Int) := of_decide_eq_true (by first | (with_reducible assumption) | assumption)
                have hx19 := bt_at a0 x1_1
                replace p19 := eq_true p19
                replace q19 := eq_true q19
                go_wp2
                go_roundg k1
                case measure => have := HK1.out; omega
                case rel => exact ⟨(wrap64 (x1_1 + 1)), (by first | rfl | (simp; done) | (simp [*]; done)), H', ⟨by have := HK1.out; omega⟩, by repeat (first | exact Drawn0.refl _ | apply Drawn0.step)⟩
              · rw [if_neg c20] at H
                have c20b0 : decide ((bt a0 x1_1) ≤ 57) = false := decide_eq_false c20
                clear c20
                by_cases c22 : (bt a0 x1_1) = 95
                · rw [if_pos c22] at H
                  have c22b0 : ((bt a0 x1_1) == 95) = true := beq_iff_eq.mpr c22
                  have c22b1 : ((bt a0 x1_1) != 95) = false := bne_eq_false_iff_eq.mpr c22
                  clear c22
                  have H' := Az.mk H
                  clear H
                  have p5 : 0 ≤ (x1_1 : Int) := of_decide_eq_true (by first | (with_reducible assumption) | assumption)
                  have q5 : x1_1 < (a0.size : Int) := of_decide_eq_true (by first | (with_reducible assumption) | assumption)
                  have hx5 := bt_at a0 x1_1
                  replace p5 := eq_true p5
                  replace q5 := eq_true q5
                  have p17 : 0 ≤ (x1_1 : Int) := of_decide_eq_true (by first | (with_reducible assumption) | assumption)
                  have q17 : x1_1 < (a0.size : Int) := of_decide_eq_true (by first | (with_reducible assumption) | assumption)
                  have hx17 := bt_at a0 x1_1
                  replace p17 := eq_true p17
                  replace q17 := eq_true q17
                  have p19 : 0 ≤ (x1_1 : Int) := of_decide_eq_true (by first | (with_reducible assumption) | assumption)
                  have q19 : x1_1 < (a0.size : Int) := of_decide_eq_true (by first | (with_reducible assumption) | assumption)
                  have hx19 := bt_at a0 x1_1
                  replace p19 := eq_true p19
                  replace q19 := eq_true q19
                  have p21 : 0 ≤ (x1_1 : Int) := of_decide_eq_true (by first | (with_reducible assumption) | assumption)
                  have q21 : x1_1 < (a0.size : Int) := of_decide_eq_true (by first | (with_reducible assumption) | assumption)
                  have hx21 := bt_at a0 x1_1
                  replace p21 := eq_true p21
                  replace q21 := eq_true q21
                  go_wp2
                  go_roundg k1
                  case measure => have := HK1.out; omega
                  case rel => exact ⟨(wrap64 (x1_1 + 1)), (by first | rfl | (simp; done) | (simp [*]; done)), H', ⟨by have := HK1.out; omega⟩, by repeat (first | exact Drawn0.refl _ | apply Drawn0.step)⟩
                · rw [if_neg c22] at H
                  have c22b0 : ((bt a0 x1_1) == 95) = false := beq_eq_false_iff_ne.mpr c22
                  have c22b1 : ((bt a0 x1_1) != 95) = true := bne_iff_ne.mpr c22
                  obtain rfl := Option.some.inj H
                  have p5 : 0 ≤ (x1_1 : Int) := of_decide_eq_true (by first | (with_reducible assumption) | assumption)
                  have q5 : x1_1 < (a0.size : Int) := of_decide_eq_true (by first | (with_reducible assumption) | assumption)
                  have hx5 := bt_at a0 x1_1
                  replace p5 := eq_true p5
                  replace q5 := eq_true q5
                  have p17 : 0 ≤ (x1_1 : Int) := of_decide_eq_true (by first | (with_reducible assumption) | assumption)
                  have q17 : x1_1 < (a0.size : Int) := of_decide_eq_true (by first | (with_reducible assumption) | assumption)
                  have hx17 := bt_at a0 x1_1
                  replace p17 := eq_true p17
                  replace q17 := eq_true q17
                  have p19 : 0 ≤ (x1_1 : Int) := of_decide_eq_true (by first | (with_reducible assumption) | assumption)
                  have q19 : x1_1 < (a0.size : Int) := of_decide_eq_true (by first | (with_reducible assumption) | assumption)
                  have hx19 := bt_at a0 x1_1
                  replace p19 := eq_true p19
                  replace q19 := eq_true q19
                  have p21 : 0 ≤ (x1_1 : Int) := of_decide_eq_true (by first | (with_reducible assumption) | assumption)
                  have q21 : x1_1 < (a0.size : Int) := of_decide_eq_true (by first | (with_reducible assumption) | assumption)
                  have hx21 := bt_at a0 x1_1
                  replace p21 := eq_true p21
                  replace q21 := eq_true q21
                  go_wp2
                  go_ret
                  exact ⟨by first | rfl | (simp; done) | (simp [*]; done), by repeat (first | exact Drawn0.refl _ | apply Drawn0.step)⟩
            · rw [if_neg c18] at H
              have c18b0 : decide (48 ≤ (bt a0 x1_1)) = false := decide_eq_false c18
              clear c18
              by_cases c24 : (bt a0 x1_1) = 95
              · rw [if_pos c24] at H
                have c24b0 : ((bt a0 x1_1) == 95) = true := beq_iff_eq.mpr c24
                have c24b1 : ((bt a0 x1_1) != 95) = false := bne_eq_false_iff_eq.mpr c24
                clear c24
                have H' := Az.mk H
                clear H
                have p5 : 0 ≤ (x1_1 : Int) := of_decide_eq_true (by first | (with_reducible assumption) | assumption)
                have q5 : x1_1 < (a0.size : Int) := of_decide_eq_true (by first | (with_reducible assumption) | assumption)
                have hx5 := bt_at a0 x1_1
                replace p5 := eq_true p5
                replace q5 := eq_true q5
                have p17 : 0 ≤ (x1_1 : Int) := of_decide_eq_true (by first | (with_reducible assumption) | assumption)
                have q17 : x1_1 < (a0.size : Int) := of_decide_eq_true (by first | (with_reducible assumption) | assumption)
                have hx17 := bt_at a0 x1_1
                replace p17 := eq_true p17
                replace q17 := eq_true q17
                have p23 : 0 ≤ (x1_1 : Int) := of_decide_eq_true (by first | (with_reducible assumption) | assumption)
                have q23 : x1_1 < (a0.size : Int) := of_decide_eq_true (by first | (with_reducible assumption) | assumption)
                have hx23 := bt_at a0 x1_1
                replace p23 := eq_true p23
                replace q23 := eq_true q23
                go_wp2
                go_roundg k1
                case measure => have := HK1.out; omega
                case rel => exact ⟨(wrap64 (x1_1 + 1)), (by first | rfl | (simp; done) | (simp [*]; done)), H', ⟨by have := HK1.out; omega⟩, by repeat (first | exact Drawn0.refl _ | apply Drawn0.step)⟩
              · rw [if_neg c24] at H
                have c24b0 : ((bt a0 x1_1) == 95) = false := beq_eq_false_iff_ne.mpr c24
                have c24b1 : ((bt a0 x1_1) != 95) = true := bne_iff_ne.mpr c24
                obtain rfl := Option.some.inj H
                have p5 : 0 ≤ (x1_1 : Int) := of_decide_eq_true (by first | (with_reducible assumption) | assumption)
                have q5 : x1_1 < (a0.size : Int) := of_decide_eq_true (by first | (with_reducible assumption) | assumption)
                have hx5 := bt_at a0 x1_1
                replace p5 := eq_true p5
                replace q5 := eq_true q5
                have p17 : 0 ≤ (x1_1 : Int) := of_decide_eq_true (by first | (with_reducible assumption) | assumption)
                have q17 : x1_1 < (a0.size : Int) := of_decide_eq_true (by first | (with_reducible assumption) | assumption)
                have hx17 := bt_at a0 x1_1
                replace p17 := eq_true p17
                replace q17 := eq_true q17
                have p23 : 0 ≤ (x1_1 : Int) := of_decide_eq_true (by first | (with_reducible assumption) | assumption)
                have q23 : x1_1 < (a0.size : Int) := of_decide_eq_true (by first | (with_reducible assumption) | assumption)
                have hx23 := bt_at a0 x1_1
                replace p23 := eq_true p23
                replace q23 := eq_true q23
                go_wp2
                go_ret
                exact ⟨by first | rfl | (simp; done) | (simp [*]; done), by repeat (first | exact Drawn0.refl _ | apply Drawn0.step)⟩
        · rw [if_neg c4] at H
          exact absurd H (by simp)
      · rw [if_neg c3] at H
        have c3b0 : decide (x1_1 < (a0.size : Int)) = false := decide_eq_false c3
        clear c3
        obtain rfl := Option.some.inj H
        go_wp2
        go_ret
        exact ⟨by first | rfl | (simp; done) | (simp [*]; done), by repeat (first | exact Drawn0.refl _ | apply Drawn0.step)⟩
end Go.Proofs.Ytnfgpepggehegaa.I
namespace Go.Proofs.Ytnfgpepggehegaa.I
open Go.RowKit Go.Proofs.YtnfgpepggehegaaW.PrintWords Go.Proofs.YtnfgpepggehegaaW.PrintLast Go.Proofs.YtnfgpepggehegaaW.PrintMore
attribute [local go_sem] max2_int min2_int max_two min_two max_three min_three max_four min_four
set_option linter.unusedVariables false
set_option maxRecDepth 100000
set_option linter.unusedSimpArgs false
def runG (l1 : List S84) (t : S28) (fuel : Nat) : S28 × Int × Int := if (runT l1 fuel t 0).2.2 = 0 then runT l1 fuel t 0 else (⟨0, 0, []⟩, 0, (runT l1 fuel t 0).2.2)
def runF (l0 : List S87) (l1 : List S84) (t : S28) (fuel : Int) : S28 × Int × Int := if stB l0 l1 t = 0 then (if fuel < 0 ∨ 1048576 < fuel then (⟨0, 0, []⟩, 0, 2) else runG l1 t fuel.toNat) else (⟨0, 0, []⟩, 0, stB l0 l1 t)
theorem fuelled_ok {a0 : Int} (h : ¬ (a0 < 0 ∨ 1048576 < a0)) : step_fuelled.f a0 = some 0 := by unfold step_fuelled.f; rw [if_neg (by omega), if_neg (by omega)]
theorem fuelled_no {a0 : Int} (h : a0 < 0 ∨ 1048576 < a0) : step_fuelled.f a0 = some 2 := by
  unfold step_fuelled.f
  split
  · rfl
  · rw [if_pos (by omega)]
theorem runT_small (l1 : List S84) : ∀ (k : Nat) (t : S28) (n : Int), tcnt t ≤ 100000 → (runT l1 k t n).2.2 = 0 → tcnt (runT l1 k t n).1 ≤ 100000
  | 0, t, n, ht, he => by
    unfold runT at he ⊢
    by_cases h : t.f0 = 1
    · rw [if_pos h] at he; cases he
    · rw [if_neg h]; exact ht
  | k + 1, t, n, ht, he => by
    unfold runT at he ⊢
    by_cases h : t.f0 = 1
    · rw [if_pos h] at he ⊢
      by_cases h2 : 100000 < tcnt (nextT l1 t)
      · rw [if_pos h2] at he; cases he
      · rw [if_neg h2] at he ⊢
        exact runT_small l1 k _ _ (by omega) he
    · rw [if_neg h]; exact ht
set_option maxHeartbeats 16000000 in
theorem run_calls (A0 : Option Addr) (c0 : Nat) (l0 : List S87) (A1 : Option Addr) (c1 : Nat) (l1 : List S84) (t : S28) (A3 : Option Addr) (c3 : Nat) (fuel : Int) (w : World) (hr0 : Kd.C k87 w A0 l0.length l0) (hc0 : l0.length ≤ c0) (hr1 : Kd.C k84 w A1 l1.length l1) (hc1 : l1.length ≤ c1) (hr3 : Kd.C k28 w A3 t.f2.length t.f2) (hc3 : t.f2.length ≤ c3) :
    Calls Try.prog 17 #[.agg #[.slice A0 l0.length c0, .slice A1 l1.length c1], .agg #[.int .i64 t.f0, .int .i64 t.f1, .slice A3 t.f2.length c3], .int .i64 fuel] w fun e w' => ∃ v, e = .returned (.tuple #[.agg #[.int .i64 (runF l0 l1 t fuel).1.f0, .int .i64 (runF l0 l1 t fuel).1.f1, v], .int .i64 (runF l0 l1 t fuel).2.1, .int .i64 (runF l0 l1 t fuel).2.2]) ∧ Kd.R k28 28 w' w.heap.size (fun _ => True) v (runF l0 l1 t fuel).1.f2 ∧ Below w.heap.size w w' := by
  have hu74 := Try.underlying74
  obtain ⟨F, hF⟩ : ∃ F, F = runF l0 l1 t fuel := ⟨_, rfl⟩
  rw [← hF]
  have HF := Az.mk hF
  clear hF
  have hu25 := Try.underlying25
  have hu28 := Try.underlying28
  have HR0 := Az.mk hr0
  have HC0 := Az.mk hc0
  have HR1 := Az.mk hr1
  have HC1 := Az.mk hc1
  have HR3 := Az.mk hr3
  have HC3 := Az.mk hc3
  clear hr0 hc0 hr1 hc1 hr3 hc3
  go_enter Try.func17, Try.ntmps17
  go_wp2_with (first
    | ((with_reducible refine gate_dst (N := 3) rfl ?_)
       refine box_event ?hg (N := 3) ?hd (cs := #[.slice A0 l0.length c0, .slice A1 l1.length c1]) (t := 25) ?hr ?_
       (case hd => rfl)
       (case hg => rfl)
       (case hr => first | (go_simp; done) | (go_simp; rfl))
       intro gs hgs w2 hbox hbb
       have S2 := Az.mk hbox
       have HB2 := Az.mk hbb
       clear hbox hbb hgs)
    | ((with_reducible refine gate_dst (N := 4) rfl ?_)
       refine box_event ?hg (N := 4) ?hd (cs := #[.int .i64 t.f0, .int .i64 t.f1, .slice A3 t.f2.length c3]) (t := 28) ?hr ?_
       (case hd => rfl)
       (case hg => rfl)
       (case hr => first | (go_simp; done) | (go_simp; rfl))
       intro gt hgt w3 hbox hbb
       have S3 := Az.mk hbox
       have S23 := Az.mk (bkB S2.out hbb)
       have HB3 := Az.mk (bst HB2.out hbb)
       clear hbox hbb hgt)
    | ((with_reducible refine gate_dst (N := 6) rfl ?_)
       refine box_event ?hg (N := 6) ?hd (cs := #[.int .i64 0, .int .i64 0, .slice none 0 0]) (t := 28) ?hr ?_
       (case hd => rfl)
       (case hg => rfl)
       (case hr => first | (go_simp; done) | (go_simp; rfl))
       intro gr hgr w4 hbox hbb
       have HG4 := Az.mk (show w.heap.size ≤ gr from by have := HB3.out.size; omega)
       have S24 := Az.mk (bkB S23.out hbb)
       have S34 := Az.mk (bkB S3.out hbb)
       have S44 := Az.mk hbox
       have HB4 := Az.mk (bst HB3.out hbb)
       have a0 : w4.cell? ⟨gs, 0, none⟩ = some (.slice A0 l0.length c0) := (blk_cell S24.out 0).trans rfl
       have a1 : w4.cell? ⟨gs, 1, none⟩ = some (.slice A1 l1.length c1) := (blk_cell S24.out 1).trans rfl
       have b0 : w4.cell? ⟨gt, 0, none⟩ = some (.int .i64 t.f0) := (blk_cell S34.out 0).trans rfl
       have b1 : w4.cell? ⟨gt, 1, none⟩ = some (.int .i64 t.f1) := (blk_cell S34.out 1).trans rfl
       have b2 : w4.cell? ⟨gt, 2, none⟩ = some (.slice A3 t.f2.length c3) := (blk_cell S34.out 2).trans rfl
       clear hbox hbb hgr S23 S3 HB3))
  (with_reducible refine (stepcheck_calls A0 c0 l0 A1 c1 l1 t A3 c3 _ (Kd.C_below HR0.out HB4.out) HC0.out (Kd.C_below HR1.out HB4.out) HC1.out (Kd.C_below HR3.out HB4.out) HC3.out).mono ?_)
  rintro e w5 ⟨rfl, hb5⟩
  have HB5 := Az.mk (bst HB4.out hb5)
  have S25 := Az.mk (bkB S24.out hb5)
  have S35 := Az.mk (bkB S34.out hb5)
  have S45 := Az.mk (bkB S44.out hb5)
  clear hb5 a0 a1 b0 b1 b2 S24 S34 S44 HB4 S2 HB2
  obtain ⟨er, her⟩ : ∃ er, er = stB l0 l1 t := ⟨_, rfl⟩
  rw [← her]
  have HER := Az.mk her
  clear her
  by_cases hz : er = 0
  rotate_left
  · have HE := Az.mk (show F = (⟨0, 0, []⟩, 0, er) from by rw [HF.out]; unfold runF; rw [← HER.out, if_neg hz])
    have q1 : (er != 0) = true := bne_iff_ne.2 hz
    have q2 : (er == 0) = false := beq_eq_false_iff_ne.2 hz
    have z0 : w5.cell? ⟨gr, 0, none⟩ = some (.int .i64 0) := (blk_cell S45.out 0).trans rfl
    have z1 : w5.cell? ⟨gr, 1, none⟩ = some (.int .i64 0) := (blk_cell S45.out 1).trans rfl
    have z2 : w5.cell? ⟨gr, 2, none⟩ = some (.slice none 0 0) := (blk_cell S45.out 2).trans rfl
    have f0 := bkF S45.out 0
    have f1 := bkF S45.out 1
    have f2 := bkF S45.out 2
    clear hz HF HER
    go_wp2_with fail
    refine bodyPost_ret (results_ctt rfl _ _ gr 28 #[.int .i64 0, .int .i64 0, .slice none 0 0] (0, 0) _ rfl (blk_put (cs' := #[.int .i64 0, .int .i64 0, .slice none 0 0]) (blk_put (cs' := #[.int .i64 0, .int .i64 0, .slice none 0 0]) (blk_put (cs' := #[.int .i64 0, .int .i64 0, .slice none 0 0]) S45.out 0 (.int .i64 0) rfl) 1 (.int .i64 0) rfl) 2 (.slice none 0 0) rfl) Try.underlying28 rfl (by kernel_rfl)) rfl ?_
    refine ⟨.slice none 0 0, by rw [HE.out]; rfl, ?_, bset (bset (bset HB5.out HG4.out) HG4.out) HG4.out⟩
    rw [HE.out]
    exact Kd.R_nil _ _ _ _ _
  subst hz
  by_cases hfu : fuel < 0 ∨ 1048576 < fuel
  · have HE := Az.mk (show F = (⟨0, 0, []⟩, 0, 2) from by rw [HF.out]; unfold runF; rw [← HER.out, if_pos rfl, if_pos hfu])
    have HFu := Az.mk (fuelled_no hfu)
    clear HF HER hfu
    go_wp2_with fail
    (with_reducible refine (step_fuelled.calls fuel 2 _ HFu.out).mono ?_)
    rintro e w6 ⟨rfl, hd6⟩
    have hb6 := Drawn0.below hd6
    have HB6 := Az.mk (bst HB5.out hb6)
    have S46 := Az.mk (bkB S45.out hb6)
    clear hd6 hb6
    have z0 : w6.cell? ⟨gr, 0, none⟩ = some (.int .i64 0) := (blk_cell S46.out 0).trans rfl
    have z1 : w6.cell? ⟨gr, 1, none⟩ = some (.int .i64 0) := (blk_cell S46.out 1).trans rfl
    have z2 : w6.cell? ⟨gr, 2, none⟩ = some (.slice none 0 0) := (blk_cell S46.out 2).trans rfl
    have f0 := bkF S46.out 0
    have f1 := bkF S46.out 1
    have f2 := bkF S46.out 2
    go_wp2_with fail
    refine bodyPost_ret (results_ctt rfl _ _ gr 28 #[.int .i64 0, .int .i64 0, .slice none 0 0] (0, 0) _ rfl (blk_put (cs' := #[.int .i64 0, .int .i64 0, .slice none 0 0]) (blk_put (cs' := #[.int .i64 0, .int .i64 0, .slice none 0 0]) (blk_put (cs' := #[.int .i64 0, .int .i64 0, .slice none 0 0]) S46.out 0 (.int .i64 0) rfl) 1 (.int .i64 0) rfl) 2 (.slice none 0 0) rfl) Try.underlying28 rfl (by kernel_rfl)) rfl ?_
    refine ⟨.slice none 0 0, by rw [HE.out]; rfl, ?_, bset (bset (bset HB6.out HG4.out) HG4.out) HG4.out⟩
    rw [HE.out]
    exact Kd.R_nil _ _ _ _ _
  obtain ⟨fu, rfl⟩ : ∃ k : Nat, fuel = (k : Int) := ⟨fuel.toNat, by omega⟩
  have hfu2 : fu ≤ 1048576 := by omega
  have HFu := Az.mk (fuelled_ok hfu)
  obtain ⟨hs, htc, hcl⟩ := stB_zero HER.out.symm
  obtain ⟨hsm, h1, h64⟩ := sch_parts hs
  have HS := Az.mk hs
  have HCL := Az.mk hcl
  have HTC := Az.mk htc
  have HF2 := Az.mk hfu2
  have H64 := Az.mk h64
  have HBG := Az.mk (show ∀ x ∈ l1, tcnt x.f2 ≤ 1000000 from fun x hx => by have := (sch_bodies hs).2 x hx; omega)
  have HBG2 := Az.mk (show ∀ x ∈ l1, tcntL x.f2.f2 ≤ 1000000 from fun x hx => by have := (sch_bodies hs).2 x hx; have := tcnt_f2 x.f2; omega)
  have HTL := Az.mk (show tcntL t.f2 ≤ 1000000 from by have := tcnt_f2 t; omega)
  have HTT := Az.mk (show (⟨t.f0, t.f1, t.f2⟩ : S28) = t from by cases t; rfl)
  have HE := Az.mk (show F = runG l1 t fu from by rw [HF.out]; unfold runF; rw [← HER.out, if_pos rfl, if_neg hfu, Int.toNat_natCast])
  clear hs htc hcl hsm h1 h64 HF HER hfu hfu2
  go_wp2_with fail
  (with_reducible refine (step_fuelled.calls (fu : Int) 0 _ HFu.out).mono ?_)
  rintro e w6 ⟨rfl, hd6⟩
  have hb6 := Drawn0.below hd6
  have HB6 := Az.mk (bst HB5.out hb6)
  have S26 := Az.mk (bkB S25.out hb6)
  have S36 := Az.mk (bkB S35.out hb6)
  have S46 := Az.mk (bkB S45.out hb6)
  clear hd6 hb6 S25 S35 S45 HB5
  go_upto_region 7 with fail
  have e0 : w6.cell? ⟨gs, 0, none⟩ = some (.slice A0 l0.length c0) := (blk_cell S26.out 0).trans rfl
  have e1 : w6.cell? ⟨gs, 1, none⟩ = some (.slice A1 l1.length c1) := (blk_cell S26.out 1).trans rfl
  have b0 : w6.cell? ⟨gt, 0, none⟩ = some (.int .i64 t.f0) := (blk_cell S36.out 0).trans rfl
  have b1 : w6.cell? ⟨gt, 1, none⟩ = some (.int .i64 t.f1) := (blk_cell S36.out 1).trans rfl
  have b2 : w6.cell? ⟨gt, 2, none⟩ = some (.slice A3 t.f2.length c3) := (blk_cell S36.out 2).trans rfl
  try simp only [Act.put, List.setIfInBounds_toArray, List.set_cons_succ, List.set_cons_zero]
  go_cut [11, 12, 13] from 27 to 13 (fun v11 v12 v13 wc => ∃ g : Nat, v11 = .pointer (some ⟨g, 0, none⟩) ∧ v12 = .int .i64 (runT l1 fu t 0).2.1 ∧ v13 = .int .i64 (runT l1 fu t 0).2.2 ∧ Az (Cl wc (fun _ => True) (runT l1 fu t 0).1 (.pointer (some ⟨g, 0, none⟩))) ∧ Az (Below w6.heap.size w6 wc))
  case first =>
    go_region_held3 (fun w' => w'.cell? ⟨gs, 0, none⟩ = some (.slice A0 l0.length c0) ∧ w'.cell? ⟨gs, 1, none⟩ = some (.slice A1 l1.length c1) ∧ w'.cell? ⟨gt, 0, none⟩ = some (.int .i64 t.f0) ∧ w'.cell? ⟨gt, 1, none⟩ = some (.int .i64 t.f1) ∧ w'.cell? ⟨gt, 2, none⟩ = some (.slice A3 t.f2.length c3)) (go_keep)
      (first
        | (go_at_call 37
           (with_reducible refine (cscheme_calls A0 c0 l0.length A1 c1 l1 w6.drew (Kd.C_below HR1.out (below_drew HB6.out)) H64.out HBG2.out).mono ?_)
           rintro e9 wA ⟨Ab, cb, Ap, cp, bs, rfl, hrow, hcll, hbA⟩
           have HRowA := Az.mk hrow
           have HClA := Az.mk hcll
           have HbA := Az.mk (bst (below_drew (Below.refl w6.heap.size w6)) hbA)
           have p0 := cell_up hbA (show w6.drew.cell? _ = _ from e0)
           have p1 := cell_up hbA (show w6.drew.cell? _ = _ from e1)
           have p2 := cell_up hbA (show w6.drew.cell? _ = _ from b0)
           have p3 := cell_up hbA (show w6.drew.cell? _ = _ from b1)
           have p4 := cell_up hbA (show w6.drew.cell? _ = _ from b2)
           clear hrow hcll hbA)
        | (go_at_call 39
           (with_reducible refine (cof_calls _ t.f0 t.f1 t.f2 A3 c3 wA (Nat.lt_succ_self _) HTL.out (Kd.C_below HR3.out (bst HB6.out HbA.out)) HC3.out).mono ?_)
           rintro e9 wB ⟨gv, rfl, hcv, hbB⟩
           rw [HTT.out] at hcv
           have HRowB := Az.mk (Row_below hbB HRowA.out)
           have HClB := Az.mk (ClL_below hbB HClA.out)
           have HRowB2 := Az.mk (show Row wB (fun q => q < wB.heap.size) (.slice Ab l1.length cb) bs from Kd.V_mono (Kd.V_bound (show Kd.V (Kd.raw 1) 65 wB 0 _ (.slice Ab l1.length cb) (bs.map (fun v => [v])) from HRowB.out)) (fun q h => h.2))
           have HClB2 := Az.mk (ClL_mono (ok1 := fun q => q < wB.heap.size) (fun q _ h => h) HClB.out)
           have HCvB2 := Az.mk (Cl_mono (ok1 := fun q => q < wB.heap.size) (fun q _ h => h) hcv)
           have HIDB := Az.mk (show ∀ q, q < wB.heap.size → q < wB.heap.size from fun q h => h)
           have HbB := Az.mk (bst HbA.out hbB)
           have HI1 := Az.mk (show ∀ x : S28, (closedB l0 l1 x = true ∧ tcnt x ≤ 100000) → Ready l1 x ∧ ∀ y ∈ x.f2, tcnt y ≤ 1000000 from fun x hx => ⟨ready_of HS.out hx.1, fun y hy => by have := tcnt_mem hy; have := tcnt_f2 x; have := hx.2; omega⟩)
           have HI2 := Az.mk (show ∀ x : S28, (closedB l0 l1 x = true ∧ tcnt x ≤ 100000) → x.f0 = 1 → tcnt (nextT l1 x) ≤ 100000 → (closedB l0 l1 (nextT l1 x) = true ∧ tcnt (nextT l1 x) ≤ 100000) from fun x hx _ h => ⟨closed_next HS.out hx.1, h⟩)
           have HI3 := Az.mk (show closedB l0 l1 t = true ∧ tcnt t ≤ 100000 from ⟨HCL.out, HTC.out⟩)
           have r0 := cell_up hbB p0
           have r1 := cell_up hbB p1
           have r2 := cell_up hbB p2
           have r3 := cell_up hbB p3
           have r4 := cell_up hbB p4
           clear hcv hbB)
        | (go_at_call 43
           (with_reducible refine (crun_calls l1 (fun x => closedB l0 l1 x = true ∧ tcnt x ≤ 100000) HI1.out HI2.out Ab cb Ap l1.length cp bs t (.pointer (some ⟨gv, 0, none⟩)) fu HF2.out (fun q => q < wB.heap.size) wB HRowB2.out HClB2.out HCvB2.out HIDB.out HI3.out HBG.out).mono ?_)
           rintro e9 wC ⟨g5, rfl, hcn, hbC⟩
           have HCn := Az.mk hcn
           have HbC := Az.mk (bst HbB.out hbC)
           have s0 := cell_up hbC r0
           have s1 := cell_up hbC r1
           have s2 := cell_up hbC r2
           have s3 := cell_up hbC r3
           have s4 := cell_up hbC r4
           clear hcn hbC))
    all_goals (go_wp2_with fail; go_meet; exact ⟨_, rfl, rfl, rfl, ⟨Cl_mono (fun q _ _ => trivial) HCn.out⟩, HbC⟩)
  case rest =>
    obtain ⟨g5, rfl, rfl, rfl, HCn, HBc⟩ := hcut
    clear e0 e1 b0 b1 b2 HTL HBG HBG2 H64 HTT
    have HB9 := Az.mk (bst HB6.out HBc.out)
    have S49 := Az.mk (bkB S46.out HBc.out)
    obtain ⟨R, hR⟩ : ∃ R, R = runT l1 fu t 0 := ⟨_, rfl⟩
    have HE2 := Az.mk (show F = if R.2.2 = 0 then R else (⟨0, 0, []⟩, 0, R.2.2) from by rw [HE.out]; unfold runG; rw [← hR])
    have HSM := Az.mk (show R.2.2 = 0 → tcnt R.1 ≤ 100000 from by rw [hR]; exact runT_small l1 fu t 0 HTC.out)
    rw [← hR] at HCn ⊢
    clear hR HE
    obtain ⟨y, m, er⟩ := R
    by_cases hz : er = 0
    rotate_left
    · have HE := Az.mk (show F = (⟨0, 0, []⟩, 0, er) from by rw [HE2.out]; exact if_neg hz)
      have q1 : (er != 0) = true := bne_iff_ne.2 hz
      have q2 : (er == 0) = false := beq_eq_false_iff_ne.2 hz
      have z0 : wc.cell? ⟨gr, 0, none⟩ = some (.int .i64 0) := (blk_cell S49.out 0).trans rfl
      have z1 : wc.cell? ⟨gr, 1, none⟩ = some (.int .i64 0) := (blk_cell S49.out 1).trans rfl
      have z2 : wc.cell? ⟨gr, 2, none⟩ = some (.slice none 0 0) := (blk_cell S49.out 2).trans rfl
      have f0 := bkF S49.out 0
      have f1 := bkF S49.out 1
      have f2 := bkF S49.out 2
      clear hz HE2
      go_wp2_with fail
      refine bodyPost_ret (results_ctt rfl _ _ gr 28 #[.int .i64 0, .int .i64 0, .slice none 0 0] (0, 0) _ rfl (blk_put (cs' := #[.int .i64 0, .int .i64 0, .slice none 0 0]) (blk_put (cs' := #[.int .i64 0, .int .i64 0, .slice none 0 0]) (blk_put (cs' := #[.int .i64 0, .int .i64 0, .slice none 0 0]) S49.out 0 (.int .i64 0) rfl) 1 (.int .i64 0) rfl) 2 (.slice none 0 0) rfl) Try.underlying28 rfl (by kernel_rfl)) rfl ?_
      refine ⟨.slice none 0 0, by rw [HE.out]; rfl, ?_, bset (bset (bset HB9.out HG4.out) HG4.out) HG4.out⟩
      rw [HE.out]
      exact Kd.R_nil _ _ _ _ _
    subst hz
    cases y with
    | mk ky ny ly =>
    have HE := Az.mk (show F = (⟨ky, ny, ly⟩, m, 0) from by rw [HE2.out]; exact if_pos rfl)
    have HTL9 := Az.mk (show tcntL ly ≤ 1000000 from by have h : tcnt ⟨ky, ny, ly⟩ ≤ 100000 := HSM.out rfl; have : tcnt ⟨ky, ny, ly⟩ = 1 + tcntL ly := tcnt_f2 ⟨ky, ny, ly⟩; omega)
    clear HE2 HSM
    go_wp2_with fail
    (with_reducible refine (cterm_calls _ ky ny ly _ wc _ (Nat.lt_succ_self _) HTL9.out HCn.out).mono ?_)
    rintro e wD ⟨u, rfl, hRu, hbD⟩
    obtain ⟨Au, cu, rfl⟩ := Kd.R_slice hRu
    have HRu := Az.mk (Kd.R_mono (Kd.R_bound hRu) (fun k hk => (show wc.heap.size ≤ k from hk.2.1)))
    have HBD := Az.mk (bst HB9.out hbD)
    have S4D := Az.mk (bkB S49.out hbD)
    have HL4 := Az.mk (blk_lt S49.out)
    clear hRu hbD
    have z0 : wD.cell? ⟨gr, 0, none⟩ = some (.int .i64 0) := (blk_cell S4D.out 0).trans rfl
    have z1 : wD.cell? ⟨gr, 1, none⟩ = some (.int .i64 0) := (blk_cell S4D.out 1).trans rfl
    have z2 : wD.cell? ⟨gr, 2, none⟩ = some (.slice none 0 0) := (blk_cell S4D.out 2).trans rfl
    have f0 := bkF S4D.out 0
    have f1 := bkF S4D.out 1
    have f2 := bkF S4D.out 2
    go_wp2_with fail
    refine bodyPost_ret (results_ctt rfl _ _ gr 28 #[.int .i64 ky, .int .i64 ny, .slice Au ly.length cu] (0, 0) _ rfl (blk_put (cs' := #[.int .i64 ky, .int .i64 ny, .slice Au ly.length cu]) (blk_put (cs' := #[.int .i64 ky, .int .i64 ny, .slice none 0 0]) (blk_put (cs' := #[.int .i64 ky, .int .i64 0, .slice none 0 0]) S4D.out 0 (.int .i64 ky) rfl) 1 (.int .i64 ny) rfl) 2 (.slice Au ly.length cu) rfl) Try.underlying28 rfl (by kernel_rfl)) rfl ?_
    have hne : ∀ k, wc.heap.size ≤ k → k ≠ gr := fun k hk => by have := HL4.out; omega
    refine ⟨.slice Au ly.length cu, by rw [HE.out]; rfl, ?_, bset (bset (bset HBD.out HG4.out) HG4.out) HG4.out⟩
    rw [HE.out]
    exact Kd.R_mono (Kd.R_lower (Kd.R_far (p := ⟨gr, 2, none⟩) (Kd.R_far (p := ⟨gr, 1, none⟩) (Kd.R_far (p := ⟨gr, 0, none⟩) HRu.out hne (.int .i64 ky)) hne (.int .i64 ny)) hne (.slice Au ly.length cu)) HB9.out.size) (fun _ _ => trivial)
end Go.Proofs.Ytnfgpepggehegaa.I
