/- Contract of infer.Check, by hand: its set of names is a map. -/
import Derived.Test.YtfhgoebgnilfaaaIH5
namespace Go.Proofs.Ytfhgoebgnilfaaa.I
open Go.RowKit Go.Proofs.YtfhgoebgnilfaaaW.PrintWords Go.Proofs.YtfhgoebgnilfaaaW.PrintLast Go.Proofs.YtfhgoebgnilfaaaW.PrintMore
open Go.WideShapes Go.Maps Go.ChangeMaps Go.WideMaps
attribute [local go_sem] max2_int min2_int max_two min_two max_three min_three max_four min_four
set_option linter.unusedVariables false
set_option maxRecDepth 100000
set_option linter.unusedSimpArgs false
/-- Nodes and depth of a term. -/
def szT (x : S44) : Int × Int := if (tmeas x 100000).2 < 0 then (100001, 0) else (100000 - (tmeas x 100000).2, (tmeas x 100000).1)
theorem szT_eq (a b : Int) (l : List S44) : term_Size.f a b l = some ((szT ⟨a, b, l⟩).1, (szT ⟨a, b, l⟩).2) := by unfold term_Size.f szT; split <;> rfl
/-- Is a function wrong behind others with these names? -/
def looseBad (x : S48) (nf ns : Int) (L : List ByteArray) : Bool := !nameOk x.f0 || (isIn L x.f0 || (decide (x.f1 < 0) || (decide (8 < x.f1) || (decide (400 < (szT ⟨x.f2.f0, x.f2.f1, x.f2.f2⟩).1) || (decide (30 < (szT ⟨x.f2.f0, x.f2.f1, x.f2.f2⟩).2) || !knownS ⟨x.f2.f0, x.f2.f1, x.f2.f2⟩ x.f1 nf ns)))))
def looseL : List S48 → Int → Int → List ByteArray → Bool
  | [], _, _, _ => true
  | x :: xs, nf, ns, L => if looseBad x nf ns L = true then false else looseL xs nf ns (L ++ [x.f0])
def names48 (l : List S48) : List ByteArray := l.map (fun x => x.f0)
def chkF (l0 : List S59) (l1 : List S48) : Option Int := some (if 24 < l0.length ∨ symsL l0 [] = false then 2 else if l1.length = 0 ∨ 64 < l1.length ∨ (rd_T48 l1 0).f1 ≠ 0 then 4 else if looseL l1 (l1.length : Int) (l0.length : Int) [] = true then 0 else 4)
theorem rd_T48_drop (l : List S48) (i : Nat) (h : i < l.length) : l.drop i = rd_T48 l (i : Int) :: l.drop (i + 1) := by
  rw [List.drop_eq_getElem_cons h]
  simp [rd_T48, List.getD_eq_getElem?_getD, List.getElem?_eq_getElem h]
theorem rd_T48_take (l : List S48) (i : Nat) (h : i < l.length) : names48 (l.take i) ++ [(rd_T48 l (i : Int)).f0] = names48 (l.take (i + 1)) := by
  have e : l.take (i + 1) = l.take i ++ [l[i]] := by rw [List.take_add_one, List.getElem?_eq_getElem h]; rfl
  have e2 : rd_T48 l (i : Int) = l[i] := by unfold rd_T48; rw [Int.toNat_natCast, List.getD_eq_getElem?_getD, List.getElem?_eq_getElem h]; rfl
  rw [e, e2]
  unfold names48
  rw [List.map_append]
  rfl
theorem rd_T48_mem (l : List S48) (i : Nat) (h : i < l.length) : rd_T48 l (i : Int) ∈ l := by
  simp [rd_T48, List.getD_eq_getElem?_getD, List.getElem?_eq_getElem h]
set_option maxHeartbeats 8000000 in
theorem chkF_calls (A0 : Option Addr) (c0 : Nat) (l0 : List S59) (A1 : Option Addr) (c1 : Nat) (l1 : List S48) (r : Int) (w : World) (hr0 : Kd.C k59 w A0 l0.length l0) (hc0 : l0.length ≤ c0) (hr1 : Kd.C k48 w A1 l1.length l1) (hc1 : l1.length ≤ c1) (hwf : ∀ x ∈ l1, twf x.f2) (h : chkF l0 l1 = some r) :
    Calls Try.prog 10 #[.slice A0 l0.length c0, .slice A1 l1.length c1] w fun e w' => e = .returned (.int .i64 r) ∧ Below w.heap.size w w' := by
  have hu48 := Try.underlying48
  have hu44 := Try.underlying44
  have hmm := @run_makeMap Try.prog
  have hlen0 : l0.length ≤ 9223372036854775807 := hr0.2.1
  have hlen1 : l1.length ≤ 9223372036854775807 := hr1.2.1
  have HR0 := Aside0.mk hr0
  have HC0 := Aside0.mk hc0
  have HR1 := Aside0.mk hr1
  have HC1 := Aside0.mk hc1
  have HW := Aside0.mk hwf
  have H := Aside0.mk h
  have HBw := Aside0.mk (Below.refl w.heap.size w)
  clear hr0 hc0 hr1 hc1 hwf h
  by_cases ha : 24 < l0.length
  · have hab : decide ((24 : Int) < (l0.length : Int)) = true := decide_eq_true (by omega)
    have hr : r = 2 := by
      have e := H.out
      unfold chkF at e
      rw [if_pos (.inl ha)] at e
      injection e with e
      exact e.symm
    clear ha
    go_enter Try.func10, Try.ntmps10
    subst hr
    go_wp2_with fail
    go_ret
    exact ⟨rfl, HBw.out⟩
  have hab : decide ((24 : Int) < (l0.length : Int)) = false := decide_eq_false (by omega)
  have hsy := Aside0.mk (show term_Symbols.f l0 = some (symsL l0 []) from by unfold term_Symbols.f; rw [decide_eq_true (by omega), Bool.and_true])
  have hal : l0.length ≤ 24 := by omega
  clear ha
  go_enter Try.func10, Try.ntmps10
  go_wp2_with fail
  (with_reducible refine (term_Symbols.calls A0 c0 l0 (symsL l0 []) _ HR0.out HC0.out hsy.out).mono ?_)
  rintro e w1 ⟨rfl, hB1⟩
  have HB1 := Aside0.mk hB1
  clear hB1 HBw
  cases hs : symsL l0 [] with
  | false =>
    have hr : r = 2 := by
      have e := H.out
      unfold chkF at e
      rw [if_pos (.inr hs)] at e
      injection e with e
      exact e.symm
    subst hr
    go_wp2_with fail
    go_ret
    exact ⟨rfl, HB1.out⟩
  | true =>
    have HA := Aside0.mk (show ¬ (24 < l0.length ∨ symsL l0 [] = false) from by rw [hs]; simp; omega)
    clear hs
    have end4 : ∀ (hq : l1.length = 0 ∨ 64 < l1.length ∨ (rd_T48 l1 0).f1 ≠ 0), r = 4 := by
      intro hq
      have e := H.out
      unfold chkF at e
      rw [if_neg HA.out, if_pos hq] at e
      injection e with e
      exact e.symm
    have End4 := Aside0.mk end4
    clear end4
    by_cases hz : l1.length = 0
    · have hzb : ((l1.length : Int) == 0) = true := beq_iff_eq.2 (by omega)
      have hr := End4.out (.inl hz)
      clear hz
      subst hr
      go_wp2_with fail
      go_ret
      exact ⟨rfl, HB1.out⟩
    have hzb : ((l1.length : Int) == 0) = false := beq_eq_false_iff_ne.2 (by omega)
    by_cases hy : 64 < l1.length
    · have hyb : decide ((64 : Int) < (l1.length : Int)) = true := decide_eq_true (by omega)
      have hr := End4.out (.inr (.inl hy))
      clear hz hy
      subst hr
      go_wp2_with fail
      go_ret
      exact ⟨rfl, HB1.out⟩
    have hyb : decide ((64 : Int) < (l1.length : Int)) = false := decide_eq_false (by omega)
    have hbl : l1.length ≤ 64 := by omega
    have hpl : 0 < l1.length := by omega
    obtain ⟨ad0, A4_, c4_, he0, _, hy1, _, _, _, _, _⟩ := at_T48 HR1.out 0 (by omega) (by omega)
    replace hy1 := (HB1.out.cell (World.block_lt_of_cell? w _ hy1)).trans hy1
    replace hy1 : w1.cell? ⟨ad0.block, ad0.off + 1, none⟩ = some (.int .i64 (rd_T48 l1 0).f1) := by simpa [Addr.add] using hy1
    cases he0
    have p2_ : ((0 : Int) < (l1.length : Int)) = True := eq_true (by omega)
    have p3_ : (0 < l1.length) = True := eq_true hpl
    by_cases hx0 : (rd_T48 l1 0).f1 = 0
    · have hxb : ((rd_T48 l1 0).f1 != 0) = false := bne_eq_false_iff_eq.2 hx0
      have HAB := Aside0.mk (show ¬ (l1.length = 0 ∨ 64 < l1.length ∨ (rd_T48 l1 0).f1 ≠ 0) from fun hq => by
        rcases hq with hq | hq | hq
        · omega
        · omega
        · exact hq hx0)
      clear hx0 hz hy
      go_wp2_with fail
      obtain ⟨bm, hbm⟩ : ∃ b, b = w1.heap.size := ⟨_, rfl⟩
      have hbw : w.heap.size ≤ bm := by have := HB1.out.size; omega
      have HS1 := Aside0.mk (show Seen (w1.alloc (.map #[] 0)) bm 0 [] from by rw [hbm]; exact seen_made w1)
      have HBa := Aside0.mk (below_alloc HB1.out (.map #[] 0))
      rw [← hbm]
      clear hbm
      go_loopg [36] l1.length (fun kq v36 wr => ∃ (i : Nat), v36 = .int .i64 (i : Int) ∧ Aside0 (kq + i = l1.length) ∧ Aside0 (Seen wr bm i (names48 (l1.take i))) ∧ Aside0 (looseL (l1.drop i) (l1.length : Int) (l0.length : Int) (names48 (l1.take i)) = looseL l1 (l1.length : Int) (l0.length : Int) []) ∧ Aside0 (Below w.heap.size w wr))
      case atStart => exact ⟨0, rfl, ⟨by omega⟩, HS1, ⟨rfl⟩, HBa⟩
      case round =>
        clear HS1 HBa HB1 hy1
        obtain ⟨i, rfl, Hi, HS, HM, HB⟩ := hrel
        have hi : i ≤ l1.length := by have := Hi.out; omega
        by_cases hlt : i < l1.length
        · have hdrop := Aside0.mk (rd_T48_drop l1 i hlt)
          have htake := Aside0.mk (rd_T48_take l1 i hlt)
          have hxw := Aside0.mk (HW.out _ (rd_T48_mem l1 i hlt))
          obtain ⟨ad, A4, c4, he, hx1, hx2, hx3, hx4, hx5, hl4, hC4⟩ := at_T48 HR1.out (i : Int) (by omega) (by omega)
          cases he
          replace hx1 := (HB.out.cell (World.block_lt_of_cell? w _ hx1)).trans hx1
          rw [Int.toNat_natCast] at hx1
          replace hx2 := (HB.out.cell (World.block_lt_of_cell? w _ hx2)).trans hx2
          rw [Int.toNat_natCast] at hx2
          replace hx3 := (HB.out.cell (World.block_lt_of_cell? w _ hx3)).trans hx3
          rw [Int.toNat_natCast] at hx3
          replace hx4 := (HB.out.cell (World.block_lt_of_cell? w _ hx4)).trans hx4
          rw [Int.toNat_natCast] at hx4
          replace hx5 := (HB.out.cell (World.block_lt_of_cell? w _ hx5)).trans hx5
          rw [Int.toNat_natCast] at hx5
          have Hl4 := Aside0.mk hl4
          have HC4 := Aside0.mk hC4
          clear hl4 hC4
          have p1 : (0 ≤ (i : Int)) = True := eq_true (by omega)
          have p2 : ((i : Int) < (l1.length : Int)) = True := eq_true (by omega)
          have p3 : (i < l1.length) = True := eq_true (by omega)
          generalize hx : rd_T48 l1 (i : Int) = x at *
          clear hx
          obtain ⟨kN, hN⟩ := (name_ev x.f0).rounds
          have HN := Aside0.mk hN
          clear hN
          go_wp2_with (
            (with_reducible refine gate_dst (N := 7) rfl ?_)
            refine box_event ?hg (N := 7) ?hd (cs := #[.string (⟨#[]⟩ : ByteArray), .int .i64 0, .int .i64 0, .int .i64 0, .slice none 0 0]) (t := 48) ?hr ?_
            (case hd => rfl)
            (case hg => rfl)
            (case hr => first | (go_simp; done) | (go_simp; rfl))
            intro gi hgi w3 hbox hb3
            have hsz := below_size HB.out
            have hgw : w.heap.size ≤ gi := by omega
            have hnb : bm ≠ gi := by have := HS.out.lt; omega
            have HB3 := Aside0.mk (below_set (g := gi) (j := 4) (v := .slice A4 x.f2.f2.length c4) (below_set (g := gi) (j := 3) (v := .int .i64 x.f2.f1) (below_set (g := gi) (j := 2) (v := .int .i64 x.f2.f0) (below_set (g := gi) (j := 1) (v := .int .i64 x.f1) (below_set (g := gi) (j := 0) (v := .string x.f0) (below_step HB.out hb3) hgw) hgw) hgw) hgw) hgw)
            have HS3 := Aside0.mk (Seen.set (Seen.set (Seen.set (Seen.set (Seen.set (Seen.grown HS.out hb3) (p := ⟨gi, 0, none⟩) hnb (.string x.f0)) (p := ⟨gi, 1, none⟩) hnb (.int .i64 x.f1)) (p := ⟨gi, 2, none⟩) hnb (.int .i64 x.f2.f0)) (p := ⟨gi, 3, none⟩) hnb (.int .i64 x.f2.f1)) (p := ⟨gi, 4, none⟩) hnb (.slice A4 x.f2.f2.length c4))
            have Hgi := Aside0.mk (blk_put (cs' := #[.string x.f0, .int .i64 x.f1, .int .i64 x.f2.f0, .int .i64 x.f2.f1, .slice A4 x.f2.f2.length c4]) (blk_put (cs' := #[.string x.f0, .int .i64 x.f1, .int .i64 x.f2.f0, .int .i64 x.f2.f1, .slice none 0 0]) (blk_put (cs' := #[.string x.f0, .int .i64 x.f1, .int .i64 x.f2.f0, .int .i64 0, .slice none 0 0]) (blk_put (cs' := #[.string x.f0, .int .i64 x.f1, .int .i64 0, .int .i64 0, .slice none 0 0]) (blk_put (cs' := #[.string x.f0, .int .i64 0, .int .i64 0, .int .i64 0, .slice none 0 0]) (hbox) 0 (.string x.f0) rfl) 1 (.int .i64 x.f1) rfl) 2 (.int .i64 x.f2.f0) rfl) 3 (.int .i64 x.f2.f1) rfl) 4 (.slice A4 x.f2.f2.length c4) rfl)
            have hci0 : (((((w3.setCell ⟨gi, 0, none⟩ (.string x.f0)).setCell ⟨gi, 1, none⟩ (.int .i64 x.f1)).setCell ⟨gi, 2, none⟩ (.int .i64 x.f2.f0)).setCell ⟨gi, 3, none⟩ (.int .i64 x.f2.f1)).setCell ⟨gi, 4, none⟩ (.slice A4 x.f2.f2.length c4)).cell? ⟨gi, 0, none⟩ = some (.string x.f0) := (blk_cell Hgi.out 0).trans rfl
            have hcz0 := (blk_cell hbox 0).trans rfl
            have hfz0 := blk_frozen hbox 0
            have hci1 : (((((w3.setCell ⟨gi, 0, none⟩ (.string x.f0)).setCell ⟨gi, 1, none⟩ (.int .i64 x.f1)).setCell ⟨gi, 2, none⟩ (.int .i64 x.f2.f0)).setCell ⟨gi, 3, none⟩ (.int .i64 x.f2.f1)).setCell ⟨gi, 4, none⟩ (.slice A4 x.f2.f2.length c4)).cell? ⟨gi, 1, none⟩ = some (.int .i64 x.f1) := (blk_cell Hgi.out 1).trans rfl
            have hcz1 := (blk_cell hbox 1).trans rfl
            have hfz1 := blk_frozen hbox 1
            have hci2 : (((((w3.setCell ⟨gi, 0, none⟩ (.string x.f0)).setCell ⟨gi, 1, none⟩ (.int .i64 x.f1)).setCell ⟨gi, 2, none⟩ (.int .i64 x.f2.f0)).setCell ⟨gi, 3, none⟩ (.int .i64 x.f2.f1)).setCell ⟨gi, 4, none⟩ (.slice A4 x.f2.f2.length c4)).cell? ⟨gi, 2, none⟩ = some (.int .i64 x.f2.f0) := (blk_cell Hgi.out 2).trans rfl
            have hcz2 := (blk_cell hbox 2).trans rfl
            have hfz2 := blk_frozen hbox 2
            have hci3 : (((((w3.setCell ⟨gi, 0, none⟩ (.string x.f0)).setCell ⟨gi, 1, none⟩ (.int .i64 x.f1)).setCell ⟨gi, 2, none⟩ (.int .i64 x.f2.f0)).setCell ⟨gi, 3, none⟩ (.int .i64 x.f2.f1)).setCell ⟨gi, 4, none⟩ (.slice A4 x.f2.f2.length c4)).cell? ⟨gi, 3, none⟩ = some (.int .i64 x.f2.f1) := (blk_cell Hgi.out 3).trans rfl
            have hcz3 := (blk_cell hbox 3).trans rfl
            have hfz3 := blk_frozen hbox 3
            have hci4 : (((((w3.setCell ⟨gi, 0, none⟩ (.string x.f0)).setCell ⟨gi, 1, none⟩ (.int .i64 x.f1)).setCell ⟨gi, 2, none⟩ (.int .i64 x.f2.f0)).setCell ⟨gi, 3, none⟩ (.int .i64 x.f2.f1)).setCell ⟨gi, 4, none⟩ (.slice A4 x.f2.f2.length c4)).cell? ⟨gi, 4, none⟩ = some (.slice A4 x.f2.f2.length c4) := (blk_cell Hgi.out 4).trans rfl
            have hcz4 := (blk_cell hbox 4).trans rfl
            have hfz4 := blk_frozen hbox 4
            clear hbox hb3 hgi hsz)
          (with_reducible refine (term_Size.calls x.f2.f0 x.f2.f1 A4 c4 x.f2.f2 _ _ _ (Kd.C_below HC4.out HB3.out) Hl4.out (szT_eq x.f2.f0 x.f2.f1 x.f2.f2)).mono ?_)
          rintro e w4 ⟨rfl, hB4⟩
          have HB4 := Aside0.mk (below_step HB3.out hB4)
          have HS4 := Aside0.mk (Seen.grown HS3.out hB4)
          have Hg4 := Aside0.mk (blk_below Hgi.out hB4)
          have hc0 : w4.cell? ⟨gi, 0, none⟩ = some (.string x.f0) := (blk_cell Hg4.out 0).trans rfl
          clear hB4 HB HS HB3 HS3 Hgi hci0 hci1 hci2 hci3 hci4 hcz0 hcz1 hcz2 hcz3 hcz4 hfz0 hfz1 hfz2 hfz3 hfz4
          go_wp2_with fail
          (with_reducible refine (term_Name.calls kN x.f0 (nameOk x.f0) _ HN.out).mono ?_)
          rintro e w5 ⟨rfl, hD⟩
          have hB5 := drawn_below hD
          have HB5 := Aside0.mk (below_step HB4.out hB5)
          have HS5 := Aside0.mk (Seen.grown HS4.out hB5)
          have Hg5 := Aside0.mk (blk_below Hg4.out hB5)
          have hcw50 : w5.cell? ⟨gi, 0, none⟩ = some (.string x.f0) := (blk_cell Hg5.out 0).trans rfl
          have hcw51 : w5.cell? ⟨gi, 1, none⟩ = some (.int .i64 x.f1) := (blk_cell Hg5.out 1).trans rfl
          have hcw52 : w5.cell? ⟨gi, 2, none⟩ = some (.int .i64 x.f2.f0) := (blk_cell Hg5.out 2).trans rfl
          have hcw53 : w5.cell? ⟨gi, 3, none⟩ = some (.int .i64 x.f2.f1) := (blk_cell Hg5.out 3).trans rfl
          have hcw54 : w5.cell? ⟨gi, 4, none⟩ = some (.slice A4 x.f2.f2.length c4) := (blk_cell Hg5.out 4).trans rfl
          clear hD hB5 HB4 HS4 Hg4 hc0
          cases hn : nameOk x.f0 with
          | false =>
            have hr : r = 4 := by
              have e := H.out
              have hbad : looseBad x (l1.length : Int) (l0.length : Int) (names48 (l1.take i)) = true := by
                unfold looseBad
                simp [hn]
              unfold chkF at e
              rw [if_neg HA.out, if_neg HAB.out, ← HM.out, hdrop.out, looseL, if_pos hbad, if_neg (by simp)] at e
              injection e with e
              exact e.symm
            subst hr
            go_wp2_with fail
            go_ret
            exact ⟨rfl, HB5.out⟩
          | true =>
            have hlk := seen_look HS5.out x.f0 (nameOk_size hn)
            cases hin : isIn (names48 (l1.take i)) x.f0 with
            | true =>
              have hr : r = 4 := by
                have e := H.out
                have hbad : looseBad x (l1.length : Int) (l0.length : Int) (names48 (l1.take i)) = true := by
                  unfold looseBad
                  simp [hn, hin]
                unfold chkF at e
                rw [if_neg HA.out, if_neg HAB.out, ← HM.out, hdrop.out, looseL, if_pos hbad, if_neg (by simp)] at e
                injection e with e
                exact e.symm
              rw [hin] at hlk
              subst hr
              go_wp2_with fail
              go_ret
              exact ⟨rfl, HB5.out⟩
            | false =>
              rw [hin] at hlk
              by_cases h1 : x.f1 < 0
              · have h1b : decide (x.f1 < 0) = true := decide_eq_true h1
                have hr : r = 4 := by
                  have e := H.out
                  have hbad : looseBad x (l1.length : Int) (l0.length : Int) (names48 (l1.take i)) = true := by
                    unfold looseBad
                    simp [hn, hin, h1]
                  unfold chkF at e
                  rw [if_neg HA.out, if_neg HAB.out, ← HM.out, hdrop.out, looseL, if_pos hbad, if_neg (by simp)] at e
                  injection e with e
                  exact e.symm
                clear h1
                subst hr
                go_wp2_with fail
                go_ret
                exact ⟨rfl, HB5.out⟩
              have h1b : decide (x.f1 < 0) = false := decide_eq_false h1
              by_cases h2 : 8 < x.f1
              · have h2b : decide (8 < x.f1) = true := decide_eq_true h2
                have hr : r = 4 := by
                  have e := H.out
                  have hbad : looseBad x (l1.length : Int) (l0.length : Int) (names48 (l1.take i)) = true := by
                    unfold looseBad
                    simp [hn, hin, h1, h2]
                  unfold chkF at e
                  rw [if_neg HA.out, if_neg HAB.out, ← HM.out, hdrop.out, looseL, if_pos hbad, if_neg (by simp)] at e
                  injection e with e
                  exact e.symm
                clear h1 h2
                subst hr
                go_wp2_with fail
                go_ret
                exact ⟨rfl, HB5.out⟩
              have h2b : decide (8 < x.f1) = false := decide_eq_false h2
              by_cases h3 : 400 < (szT ⟨x.f2.f0, x.f2.f1, x.f2.f2⟩).1
              · have h3b : decide (400 < (szT ⟨x.f2.f0, x.f2.f1, x.f2.f2⟩).1) = true := decide_eq_true h3
                have hr : r = 4 := by
                  have e := H.out
                  have hbad : looseBad x (l1.length : Int) (l0.length : Int) (names48 (l1.take i)) = true := by
                    unfold looseBad
                    simp [hn, hin, h1, h2, h3]
                  unfold chkF at e
                  rw [if_neg HA.out, if_neg HAB.out, ← HM.out, hdrop.out, looseL, if_pos hbad, if_neg (by simp)] at e
                  injection e with e
                  exact e.symm
                clear h1 h2 h3
                subst hr
                go_wp2_with fail
                go_ret
                exact ⟨rfl, HB5.out⟩
              have h3b : decide (400 < (szT ⟨x.f2.f0, x.f2.f1, x.f2.f2⟩).1) = false := decide_eq_false h3
              by_cases h4 : 30 < (szT ⟨x.f2.f0, x.f2.f1, x.f2.f2⟩).2
              · have h4b : decide (30 < (szT ⟨x.f2.f0, x.f2.f1, x.f2.f2⟩).2) = true := decide_eq_true h4
                have hr : r = 4 := by
                  have e := H.out
                  have hbad : looseBad x (l1.length : Int) (l0.length : Int) (names48 (l1.take i)) = true := by
                    unfold looseBad
                    simp [hn, hin, h1, h2, h3, h4]
                  unfold chkF at e
                  rw [if_neg HA.out, if_neg HAB.out, ← HM.out, hdrop.out, looseL, if_pos hbad, if_neg (by simp)] at e
                  injection e with e
                  exact e.symm
                clear h1 h2 h3 h4
                subst hr
                go_wp2_with fail
                go_ret
                exact ⟨rfl, HB5.out⟩
              have h4b : decide (30 < (szT ⟨x.f2.f0, x.f2.f1, x.f2.f2⟩).2) = false := decide_eq_false h4
              have hq := Aside0.mk (show (Lit.int .i64 x.f2.f0).wf = true ∧ twfL x.f2.f2 from by have := hxw.out; cases hxx : x.f2 with | mk a b l => rw [hxx] at this; exact this)
              have Hn := Aside0.mk hn
              have Hin := Aside0.mk hin
              have H1 := Aside0.mk h1
              have H2 := Aside0.mk h2
              have H3 := Aside0.mk h3
              have H4 := Aside0.mk h4
              clear hn hin h1 h2 h3 h4
              go_wp2_with fail
              (with_reducible refine (known_calls (SizeOf.sizeOf x.f2.f2 + 1) x.f2.f0 x.f2.f1 x.f2.f2 A4 c4 x.f1 (l1.length : Int) (l0.length : Int) w5 w5 (Nat.lt_succ_self _) (Kd.C_below HC4.out HB5.out) Hl4.out (Below.refl _ _) hq.out.1 hq.out.2 (by have := H1.out; have := H2.out; omega) (by omega) (by omega)).mono ?_)
              rintro e w6 ⟨rfl, hB6⟩
              have HB6 := Aside0.mk (below_step HB5.out hB6)
              have HS6 := Aside0.mk (Seen.grown HS5.out hB6)
              have Hg6 := Aside0.mk (blk_below Hg5.out hB6)
              have hc6 : w6.cell? ⟨gi, 0, none⟩ = some (.string x.f0) := (blk_cell Hg6.out 0).trans rfl
              clear hB6 HB5 HS5 Hg5 hlk hcw50 hcw51 hcw52 hcw53 hcw54 h1b h2b h3b h4b
              cases hkn : knownS ⟨x.f2.f0, x.f2.f1, x.f2.f2⟩ x.f1 (l1.length : Int) (l0.length : Int) with
              | false =>
                have hr : r = 4 := by
                  have e := H.out
                  have hbad : looseBad x (l1.length : Int) (l0.length : Int) (names48 (l1.take i)) = true := by
                    unfold looseBad
                    simp [Hn.out, Hin.out, H1.out, H2.out, H3.out, H4.out, hkn]
                  unfold chkF at e
                  rw [if_neg HA.out, if_neg HAB.out, ← HM.out, hdrop.out, looseL, if_pos hbad, if_neg (by simp)] at e
                  injection e with e
                  exact e.symm
                subst hr
                go_wp2_with fail
                go_ret
                exact ⟨rfl, HB6.out⟩
              | true =>
                have hgood : looseBad x (l1.length : Int) (l0.length : Int) (names48 (l1.take i)) = false := by
                  unfold looseBad
                  simp [Hn.out, Hin.out, H1.out, H2.out, H3.out, H4.out, hkn]
                have HM2 : Aside0 (looseL (l1.drop (i + 1)) (l1.length : Int) (l0.length : Int) (names48 (l1.take (i + 1))) = looseL l1 (l1.length : Int) (l0.length : Int) []) := ⟨by rw [← HM.out, hdrop.out, looseL, if_neg (by rw [hgood]; simp), htake.out]⟩
                have Hkey := Aside0.mk (keyOf_string_mk Try.underlying9 (nameOk_size Hn.out))
                clear hkn hgood
                go_wp2_with (at_mapUpdate; refine holdI ?_)
                unfold HoldI
                refine wpList_mapUpdate_own (H := Unit) _ rfl (.tmp 86) (.tmp 88) (.const (.bool true)) 64 rfl 9 4 law9 Try.underlying64 (plainElem Try.prog 4) bm i _ rfl HS6.out (by unfold maxLen; omega) (.string x.f0) (.bool true) (.string x.f0.data.toList) rfl rfl Hkey.out _ [] (plainElem_bool Try.underlying4 true) ?_
                intro w7 hown7 hgrow7
                have HS7 := Aside0.mk (seen_put hown7)
                have HB7 := Aside0.mk (HB6.out.grown hgrow7 HB6.out.size (fun k hk => by injection hk with hk; omega))
                rw [htake.out] at HS7
                clear hown7 hgrow7 hc6 HS6 HB6 HM
                go_wp2_with fail
                have hk := Hi.out
                obtain ⟨k1, rfl⟩ : ∃ k1, gk = k1 + 1 := ⟨gk - 1, by omega⟩
                go_roundg k1
                case measure => omega
                case rel => exact ⟨i + 1, by go_num, ⟨by omega⟩, HS7, HM2, HB7⟩
        · have hie : i = l1.length := by omega
          have hr : r = 0 := by
            have e := H.out
            unfold chkF at e
            rw [if_neg HA.out, if_neg HAB.out, ← HM.out, hie, List.drop_length, looseL, if_pos rfl] at e
            injection e with e
            exact e.symm
          clear hie
          subst hr
          go_wp2_with fail
          go_ret
          exact ⟨rfl, HB.out⟩
    · have hxb : ((rd_T48 l1 0).f1 != 0) = true := bne_iff_ne.2 hx0
      have hr := End4.out (.inr (.inr hx0))
      clear hx0 hz hy
      subst hr
      go_wp2_with fail
      go_ret
      exact ⟨rfl, HB1.out⟩
end Go.Proofs.Ytfhgoebgnilfaaa.I
