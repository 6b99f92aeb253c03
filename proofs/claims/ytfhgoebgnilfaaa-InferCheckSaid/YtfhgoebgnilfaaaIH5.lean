/- Contract of infer.known, by hand: it looks a number up in a map of three. -/
import Derived.Test.YtfhgoebgnilfaaaIH4
import Derived.Test.YtfhgoebgnilfaaaIH3
import Derived.Maps.OwnSet
namespace Go.Proofs.Ytfhgoebgnilfaaa.I
open Go.RowKit Go.Proofs.YtfhgoebgnilfaaaW.PrintWords Go.Proofs.YtfhgoebgnilfaaaW.PrintLast Go.Proofs.YtfhgoebgnilfaaaW.PrintMore
open Go.WideShapes Go.Maps Go.ChangeMaps Go.WideMaps
attribute [local go_sem] max2_int min2_int max_two min_two max_three min_three max_four min_four
set_option linter.unusedVariables false
set_option maxRecDepth 100000
set_option linter.unusedSimpArgs false
/-- How many heads of a kind there are. -/
def manyK (k p f s : Int) : Int := if k = 2 then s else if k = 1 then f else if k = 0 then p else 0
def isK (k : Int) : Bool := decide (k = 0 ∨ k = 1 ∨ k = 2)
mutual
/-- Do all heads of a term exist? -/
def knownS : S44 → Int → Int → Int → Bool
  | ⟨k, n, l⟩, p, f, s => (isK k && (decide (0 ≤ n) && decide (n < manyK k p f s))) && knownL l p f s
def knownL : List S44 → Int → Int → Int → Bool
  | [], _, _, _ => true
  | x :: xs, p, f, s => knownS x p f s && knownL xs p f s
end
mutual
/-- The kinds of a term's heads are whole numbers of the machine's. -/
def twf : S44 → Prop
  | ⟨k, _, l⟩ => (Lit.int .i64 k).wf = true ∧ twfL l
def twfL : List S44 → Prop
  | [] => True
  | x :: xs => twf x ∧ twfL xs
end
theorem twfL_drop : ∀ (l : List S44) (i : Nat), twfL l → twfL (l.drop i)
  | [], i, h => by simpa using h
  | x :: xs, 0, h => h
  | x :: xs, i + 1, h => twfL_drop xs i h.2
def kmap (p f s : Int) : DataW Unit := (((DataW.map []).put (.int .i64 0) (.lit (.int .i64 p))).put (.int .i64 1) (.lit (.int .i64 f))).put (.int .i64 2) (.lit (.int .i64 s))
theorem ikey (k : Int) : WideAt.IsKeyLit (Lit.int .i64 k) := trivial
theorem lit_ne {a b : Int} (h : a ≠ b) : Lit.int .i64 a ≠ Lit.int .i64 b := fun e => by injection e with _ e; exact h e
theorem kmap_at (k p f s : Int) : (kmap p f s).atKey (.int .i64 k) (.lit (.int .i64 0)) = .lit (.int .i64 (manyK k p f s)) := by
  unfold kmap manyK
  have m0 : IsMap (DataW.map [] : DataW Unit) := isMap_empty
  by_cases h2 : k = 2
  · subst h2
    rw [atKey_put_same ((m0.put _ _).put _ _) (ikey 2), if_pos rfl]
  · rw [atKey_put_other (lit_ne h2), if_neg h2]
    by_cases h1 : k = 1
    · subst h1
      rw [atKey_put_same (m0.put _ _) (ikey 1), if_pos rfl]
    · rw [atKey_put_other (lit_ne h1), if_neg h1]
      by_cases h0 : k = 0
      · subst h0
        rw [atKey_put_same m0 (ikey 0), if_pos rfl]
      · rw [atKey_put_other (lit_ne h0), if_neg h0]
        rfl
theorem kmap_has (k p f s : Int) : Maps.has (kmap p f s) (.int .i64 k) = isK k := by
  unfold kmap isK
  have m0 : IsMap (DataW.map [] : DataW Unit) := isMap_empty
  by_cases h2 : k = 2
  · subst h2
    rw [has_put_same ((m0.put _ _).put _ _) (ikey 2)]
    simp
  · rw [has_put_other (lit_ne h2)]
    by_cases h1 : k = 1
    · subst h1
      rw [has_put_same (m0.put _ _) (ikey 1)]
      simp
    · rw [has_put_other (lit_ne h1)]
      by_cases h0 : k = 0
      · subst h0
        rw [has_put_same m0 (ikey 0)]
        simp
      · rw [has_put_other (lit_ne h0)]
        simp [h0, h1, h2, Maps.has]
theorem law3 : Keyed Try.prog 3 := int_keyed Try.underlying3
theorem zero3 (w : World) : (zeroValue 3).run Try.prog w = .ok (.int .i64 0) w := by kernel_rfl
theorem ok64 {a : Int} (h : -1000000 ≤ a ∧ a ≤ 1000000) : (Lit.int .i64 a).wf = true := WalkArith.wf_i64 (by omega)
/-- The map of three is made. -/
theorem kmap_made (w : World) (p f s : Int) (hp : -1000000 ≤ p ∧ p ≤ 1000000) (hf : -1000000 ≤ f ∧ f ≤ 1000000) (hs : -1000000 ≤ s ∧ s ≤ 1000000) : ∃ wa wb wc,
    (Instr.mapUpdate 109 (.map (some w.heap.size)) (.int .i64 0) (.int .i64 p)).run Try.prog (w.alloc (.map #[] 0)) = .ok () wa ∧
    (Instr.mapUpdate 109 (.map (some w.heap.size)) (.int .i64 1) (.int .i64 f)).run Try.prog wa = .ok () wb ∧
    (Instr.mapUpdate 109 (.map (some w.heap.size)) (.int .i64 2) (.int .i64 s)).run Try.prog wb = .ok () wc ∧
    wc.ownsMap (H := Unit) Try.prog 3 (plainElem Try.prog 3) w.heap.size 3 (kmap p f s) ∧ Below w.heap.size w wc := by
  have o0 := World.ownsMap_made (H := Unit) w Try.prog 3 (plainElem Try.prog 3)
  obtain ⟨wa, ra, oa, ga⟩ := World.ownsMap.update (t := 109) o0 law3 Try.underlying109 (by unfold maxLen; omega) (keyOf_int_mk Try.underlying3 (ok64 (a := 0) (by omega))) (plainElem_int Try.underlying3 (ok64 hp))
  obtain ⟨wb, rb, ob, gb⟩ := World.ownsMap.update (t := 109) oa law3 Try.underlying109 (by unfold maxLen; omega) (keyOf_int_mk Try.underlying3 (ok64 (a := 1) (by omega))) (plainElem_int Try.underlying3 (ok64 hf))
  obtain ⟨wc, rc, oc, gc⟩ := World.ownsMap.update (t := 109) ob law3 Try.underlying109 (by unfold maxLen; omega) (keyOf_int_mk Try.underlying3 (ok64 (a := 2) (by omega))) (plainElem_int Try.underlying3 (ok64 hs))
  have hle : ∀ k, some w.heap.size = some k → w.heap.size ≤ k := fun k hk => by injection hk with hk; omega
  have b0 := below_alloc (Below.refl w.heap.size w) (.map #[] 0)
  have b1 := b0.grown ga b0.size hle
  have b2 := b1.grown gb b1.size hle
  have b3 := b2.grown gc b2.size hle
  exact ⟨wa, wb, wc, ra, rb, rc, oc, b3⟩
theorem kmap_look {w : World} {b : Nat} {p f s : Int} (h : w.ownsMap (H := Unit) Try.prog 3 (plainElem Try.prog 3) b 3 (kmap p f s)) (k : Int) (hk : (Lit.int .i64 k).wf = true) :
    (Instr.lookup 109 (.map (some b)) (.int .i64 k) true).run Try.prog w = .ok (.tuple #[.int .i64 (manyK k p f s), .bool (isK k)]) w := by
  obtain ⟨v, ps, hrun, hv⟩ := World.ownsMap.look_ok (t := 109) h law3 Try.underlying109 (zero3 w) (plainElem_int Try.underlying3 (ok64 (a := 0) (by omega))) (keyOf_int_mk Try.underlying3 hk)
  obtain ⟨x, rfl, hx, _⟩ := plainElem_int_inv Try.underlying3 hv
  injection hx with hx _
  rw [kmap_at] at hx
  injection hx with hx
  injection hx with _ hx
  rw [hrun, kmap_has, hx]
set_option maxHeartbeats 4000000 in
theorem known_calls (N : Nat) : ∀ (k n : Int) (l : List S44) (A : Option Addr) (c : Nat) (p f s : Int) (w0 w : World) (hN : SizeOf.sizeOf l < N) (hr : Kd.C k44 w0 A l.length l) (hc : l.length ≤ c) (hB : Below w0.heap.size w0 w)
    (hk : (Lit.int .i64 k).wf = true) (hl : twfL l) (hp : -1000000 ≤ p ∧ p ≤ 1000000) (hf : -1000000 ≤ f ∧ f ≤ 1000000) (hs : -1000000 ≤ s ∧ s ≤ 1000000),
    Calls Try.prog 31 #[.agg #[.int .i64 k, .int .i64 n, .slice A l.length c], .int .i64 p, .int .i64 f, .int .i64 s] w fun e w' => e = .returned (.bool (knownS ⟨k, n, l⟩ p f s)) ∧ Below w0.heap.size w0 w' := by
  induction N with
  | zero => intro k n l A c p f s w0 w hN; omega
  | succ N ih =>
  intro k n l A c p f s w0 w hN hr hc hB hk hl hp hf hs
  have hu44 := Try.underlying44
  have hmm := @run_makeMap Try.prog
  have hlen : l.length ≤ 9223372036854775807 := hr.2.1
  have HR := Aside0.mk hr
  have HC := Aside0.mk hc
  have HB := Aside0.mk hB
  have HN := Aside0.mk hN
  have HK := Aside0.mk hk
  have HL := Aside0.mk hl
  have HP := Aside0.mk hp
  have HF := Aside0.mk hf
  have HQ := Aside0.mk hs
  have IH := Aside0.mk ih
  clear hr hc hB hN ih hk hl hp hf hs
  cases hK : isK k with
  | false =>
    have hr : knownS ⟨k, n, l⟩ p f s = false := by
      unfold knownS
      simp [hK]
    rw [hr]
    go_enter Try.func31, Try.ntmps31
    go_wp2_with (
      (with_reducible refine gate_dst (N := 4) rfl ?_)
      refine box_event ?hg (N := 4) ?hd (cs := #[.int .i64 k, .int .i64 n, .slice A l.length c]) (t := 44) ?hr ?_
      (case hd => rfl)
      (case hg => rfl)
      (case hr => first | (go_simp; done) | (go_simp; rfl))
      intro g4 hg4 w2 hbox hb2
      obtain ⟨wa, wb, wc, ra, rb, rc, oc, bc⟩ := kmap_made w2 p f s HP.out HF.out HQ.out
      have HBc := Aside0.mk (below_step (below_step HB.out hb2) bc)
      have S4 := Aside0.mk (blk_below hbox bc)
      have hc0 : wc.cell? ⟨g4, 0, none⟩ = some (.int .i64 k) := (blk_cell S4.out 0).trans rfl
      have hc1 : wc.cell? ⟨g4, 1, none⟩ = some (.int .i64 n) := (blk_cell S4.out 1).trans rfl
      have hc2 : wc.cell? ⟨g4, 2, none⟩ = some (.slice A l.length c) := (blk_cell S4.out 2).trans rfl
      have hlk := kmap_look oc k HK.out
      rw [hK] at hlk
      clear hbox hb2 hg4 oc bc HB)
    go_ret
    exact ⟨rfl, HBc.out⟩
  | true =>
    by_cases h1 : n < 0
    · have h1b : decide (n < 0) = true := decide_eq_true h1
      have hr : knownS ⟨k, n, l⟩ p f s = false := by
        unfold knownS
        simp [hK, show ¬ (0 ≤ n) from by omega]
      rw [hr]
      go_enter Try.func31, Try.ntmps31
      clear h1
      go_wp2_with (
        (with_reducible refine gate_dst (N := 4) rfl ?_)
        refine box_event ?hg (N := 4) ?hd (cs := #[.int .i64 k, .int .i64 n, .slice A l.length c]) (t := 44) ?hr ?_
        (case hd => rfl)
        (case hg => rfl)
        (case hr => first | (go_simp; done) | (go_simp; rfl))
        intro g4 hg4 w2 hbox hb2
        obtain ⟨wa, wb, wc, ra, rb, rc, oc, bc⟩ := kmap_made w2 p f s HP.out HF.out HQ.out
        have HBc := Aside0.mk (below_step (below_step HB.out hb2) bc)
        have S4 := Aside0.mk (blk_below hbox bc)
        have hc0 : wc.cell? ⟨g4, 0, none⟩ = some (.int .i64 k) := (blk_cell S4.out 0).trans rfl
        have hc1 : wc.cell? ⟨g4, 1, none⟩ = some (.int .i64 n) := (blk_cell S4.out 1).trans rfl
        have hc2 : wc.cell? ⟨g4, 2, none⟩ = some (.slice A l.length c) := (blk_cell S4.out 2).trans rfl
        have hlk := kmap_look oc k HK.out
        rw [hK] at hlk
        clear hbox hb2 hg4 oc bc HB)
      go_ret
      exact ⟨rfl, HBc.out⟩
    · have h1b : decide (n < 0) = false := decide_eq_false h1
      by_cases h2 : manyK k p f s ≤ n
      · have h2b : decide (manyK k p f s ≤ n) = true := decide_eq_true h2
        have hr : knownS ⟨k, n, l⟩ p f s = false := by
          unfold knownS
          simp [hK, show ¬ (n < manyK k p f s) from by omega]
        rw [hr]
        go_enter Try.func31, Try.ntmps31
        clear h1 h2
        go_wp2_with (
          (with_reducible refine gate_dst (N := 4) rfl ?_)
          refine box_event ?hg (N := 4) ?hd (cs := #[.int .i64 k, .int .i64 n, .slice A l.length c]) (t := 44) ?hr ?_
          (case hd => rfl)
          (case hg => rfl)
          (case hr => first | (go_simp; done) | (go_simp; rfl))
          intro g4 hg4 w2 hbox hb2
          obtain ⟨wa, wb, wc, ra, rb, rc, oc, bc⟩ := kmap_made w2 p f s HP.out HF.out HQ.out
          have HBc := Aside0.mk (below_step (below_step HB.out hb2) bc)
          have S4 := Aside0.mk (blk_below hbox bc)
          have hc0 : wc.cell? ⟨g4, 0, none⟩ = some (.int .i64 k) := (blk_cell S4.out 0).trans rfl
          have hc1 : wc.cell? ⟨g4, 1, none⟩ = some (.int .i64 n) := (blk_cell S4.out 1).trans rfl
          have hc2 : wc.cell? ⟨g4, 2, none⟩ = some (.slice A l.length c) := (blk_cell S4.out 2).trans rfl
          have hlk := kmap_look oc k HK.out
          rw [hK] at hlk
          clear hbox hb2 hg4 oc bc HB)
        go_ret
        exact ⟨rfl, HBc.out⟩
      · have h2b : decide (manyK k p f s ≤ n) = false := decide_eq_false h2
        have hr : knownS ⟨k, n, l⟩ p f s = knownL l p f s := by
          unfold knownS
          simp [hK, show 0 ≤ n from by omega, show n < manyK k p f s from by omega]
        rw [hr]
        clear h1 h2 hr
        go_enter Try.func31, Try.ntmps31
        go_wp2_with (
          (with_reducible refine gate_dst (N := 4) rfl ?_)
          refine box_event ?hg (N := 4) ?hd (cs := #[.int .i64 k, .int .i64 n, .slice A l.length c]) (t := 44) ?hr ?_
          (case hd => rfl)
          (case hg => rfl)
          (case hr => first | (go_simp; done) | (go_simp; rfl))
          intro g4 hg4 w2 hbox hb2
          obtain ⟨wa, wb, wc, ra, rb, rc, oc, bc⟩ := kmap_made w2 p f s HP.out HF.out HQ.out
          have HBc := Aside0.mk (below_step (below_step HB.out hb2) bc)
          have S4 := Aside0.mk (blk_below hbox bc)
          have hc0 : wc.cell? ⟨g4, 0, none⟩ = some (.int .i64 k) := (blk_cell S4.out 0).trans rfl
          have hc1 : wc.cell? ⟨g4, 1, none⟩ = some (.int .i64 n) := (blk_cell S4.out 1).trans rfl
          have hc2 : wc.cell? ⟨g4, 2, none⟩ = some (.slice A l.length c) := (blk_cell S4.out 2).trans rfl
          have hlk := kmap_look oc k HK.out
          rw [hK] at hlk
          clear hbox hb2 hg4 oc bc HB)
        clear hlk ra rb rc hc0 hc1 hc2 h1b h2b hK
        go_loopg [42] l.length (fun kq v42 wr => ∃ (i : Nat), v42 = .int .i64 (i : Int) ∧ Aside0 (kq + i = l.length) ∧ Aside0 (knownL (l.drop i) p f s = knownL l p f s) ∧ Aside0 (Below w0.heap.size w0 wr))
        case atStart => exact ⟨0, rfl, ⟨by omega⟩, ⟨rfl⟩, HBc⟩
        case round =>
          clear HBc S4
          obtain ⟨i, rfl, Hi, HM, HB⟩ := hrel
          have hi : i ≤ l.length := by have := Hi.out; omega
          by_cases hlt : i < l.length
          · have hdrop := Aside0.mk (rd_T44_drop l i hlt)
            have hmem := Aside0.mk (rd_T44_mem l i hlt)
            have hwf := Aside0.mk (show twf (rd_T44 l (i : Int)) from by have := twfL_drop l i HL.out; rw [rd_T44_drop l i hlt] at this; exact this.1)
            obtain ⟨ad, A1, c1, he, hx1, hx2, hx3, hl1, hi1⟩ := at_T44 HR.out (i : Int) (by omega) (by omega)
            cases he
            replace hx1 := (HB.out.cell (World.block_lt_of_cell? w0 _ hx1)).trans hx1
            replace hx2 := (HB.out.cell (World.block_lt_of_cell? w0 _ hx2)).trans hx2
            replace hx3 := (HB.out.cell (World.block_lt_of_cell? w0 _ hx3)).trans hx3
            rw [Int.toNat_natCast] at hx1 hx2 hx3
            have Hl1 := Aside0.mk hl1
            have Hi1 := Aside0.mk hi1
            clear hl1 hi1
            have p1 : (0 ≤ (i : Int)) = True := eq_true (by omega)
            have p2 : ((i : Int) < (l.length : Int)) = True := eq_true (by omega)
            have p3 : (i < l.length) = True := eq_true (by omega)
            generalize hx : rd_T44 l (i : Int) = x at *
            clear hx
            go_wp2_with (
              (with_reducible refine gate_dst (N := 13) rfl ?_)
              refine box_event ?hg (N := 13) ?hd (cs := #[.int .i64 0, .int .i64 0, .slice none 0 0]) (t := 44) ?hr ?_
              (case hd => rfl)
              (case hg => rfl)
              (case hr => first | (go_simp; done) | (go_simp; rfl))
              intro gi hgi w3 hbox3 hb3
              have hsz := below_size HB.out
              have hgiw : w0.heap.size ≤ gi := by omega
              have HB3 := Aside0.mk (below_set (g := gi) (j := 2) (v := .slice A1 x.f2.length c1) (below_set (g := gi) (j := 1) (v := .int .i64 x.f1) (below_set (g := gi) (j := 0) (v := .int .i64 x.f0) (below_step HB.out hb3) hgiw) hgiw) hgiw)
              have Hgi := Aside0.mk (blk_put (cs' := #[.int .i64 x.f0, .int .i64 x.f1, .slice A1 x.f2.length c1]) (blk_put (cs' := #[.int .i64 x.f0, .int .i64 x.f1, .slice none 0 0]) (blk_put (cs' := #[.int .i64 x.f0, .int .i64 0, .slice none 0 0]) hbox3 0 (.int .i64 x.f0) rfl) 1 (.int .i64 x.f1) rfl) 2 (.slice A1 x.f2.length c1) rfl)
              have hci0 : (((w3.setCell ⟨gi, 0, none⟩ (.int .i64 x.f0)).setCell ⟨gi, 1, none⟩ (.int .i64 x.f1)).setCell ⟨gi, 2, none⟩ (.slice A1 x.f2.length c1)).cell? ⟨gi, 0, none⟩ = some (.int .i64 x.f0) := (blk_cell Hgi.out 0).trans rfl
              have hci1 : (((w3.setCell ⟨gi, 0, none⟩ (.int .i64 x.f0)).setCell ⟨gi, 1, none⟩ (.int .i64 x.f1)).setCell ⟨gi, 2, none⟩ (.slice A1 x.f2.length c1)).cell? ⟨gi, 1, none⟩ = some (.int .i64 x.f1) := (blk_cell Hgi.out 1).trans rfl
              have hci2 : (((w3.setCell ⟨gi, 0, none⟩ (.int .i64 x.f0)).setCell ⟨gi, 1, none⟩ (.int .i64 x.f1)).setCell ⟨gi, 2, none⟩ (.slice A1 x.f2.length c1)).cell? ⟨gi, 2, none⟩ = some (.slice A1 x.f2.length c1) := (blk_cell Hgi.out 2).trans rfl
              have hcz0 := (blk_cell hbox3 0).trans rfl
              have hcz1 := (blk_cell hbox3 1).trans rfl
              have hcz2 := (blk_cell hbox3 2).trans rfl
              have hfz0 := blk_frozen hbox3 0
              have hfz1 := blk_frozen hbox3 1
              have hfz2 := blk_frozen hbox3 2
              clear hbox3 hb3 hsz hgi HB)
            have hxe : x = ⟨x.f0, x.f1, x.f2⟩ := by cases x; rfl
            have Hxe := Aside0.mk hxe
            have hw2 := Aside0.mk (show (Lit.int .i64 x.f0).wf = true ∧ twfL x.f2 from by have := hwf.out; rw [hxe] at this; exact this)
            clear hxe
            (with_reducible refine (IH.out x.f0 x.f1 x.f2 A1 c1 p f s w0 _ ?_ Hi1.out Hl1.out HB3.out hw2.out.1 hw2.out.2 HP.out HF.out HQ.out).mono ?_)
            · have := hmem.out; have := HN.out; omega
            rintro e w4 ⟨rfl, hB4⟩
            rw [← Hxe.out]
            have HB4 := Aside0.mk hB4
            clear hB4 HB3 Hgi hci0 hci1 hci2 hcz0 hcz1 hcz2 hfz0 hfz1 hfz2
            cases hkx : knownS x p f s with
            | false =>
              have hr : knownL l p f s = false := by rw [← HM.out, hdrop.out, knownL, hkx]; rfl
              have Hr := Aside0.mk hr
              clear hr
              go_wp2_with fail
              go_ret
              exact ⟨by have := Hr.out; simp [this], HB4.out⟩
            | true =>
              have HM2 : Aside0 (knownL (l.drop (i + 1)) p f s = knownL l p f s) := ⟨by rw [← HM.out, hdrop.out, knownL, hkx]; rfl⟩
              clear hkx
              go_wp2_with fail
              have hk := Hi.out
              obtain ⟨k1, rfl⟩ : ∃ k1, gk = k1 + 1 := ⟨gk - 1, by omega⟩
              go_roundg k1
              case measure => omega
              case rel => exact ⟨i + 1, by go_num, ⟨by omega⟩, HM2, HB4⟩
          · have hie : i = l.length := by omega
            have hr : knownL l p f s = true := by rw [← HM.out, hie, List.drop_length, knownL]
            have Hr := Aside0.mk hr
            clear hr
            go_wp2_with fail
            go_ret
            exact ⟨by have := Hr.out; simp [this], HB.out⟩
end Go.Proofs.Ytfhgoebgnilfaaa.I
