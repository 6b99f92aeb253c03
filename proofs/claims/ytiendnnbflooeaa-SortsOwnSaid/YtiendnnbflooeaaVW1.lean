/- Contract of sorts.copied, by hand: the parts of what it returns share no memory with one another. -/
import Derived.Test.YtiendnnbflooeaaVH5
import Derived.Test.YtiendnnbflooeaaVQG
namespace Go.Proofs.Ytiendnnbflooeaa.V
open Go.RowKit Go.Proofs.YtiendnnbflooeaaW.PrintWords Go.Proofs.YtiendnnbflooeaaW.PrintLast Go.Proofs.YtiendnnbflooeaaW.PrintMore
attribute [local go_sem] max2_int min2_int max_two min_two max_three min_three max_four min_four
set_option linter.unusedVariables false
set_option linter.unusedSimpArgs false
theorem slice_one (A : Option Addr) (n c : Nat) : (Value.slice A n c).oneCell' = true := rfl
/-- A sort whose arguments lie apart, a level more. -/
def up24 (d : Kd S24) : Kd S24 where
  sz := 1
  E := 24 :: d.E
  K := fun w x cs => ∃ A c, cs = [.slice A x.f0.length c] ∧ x.f0.length ≤ c ∧ d.C w A x.f0.length x.f0
  M := fun w base ok x cs => ∃ v, cs = [v] ∧ Kd.S d 24 w base ok v x.f0
  K_len := by rintro w x cs ⟨A, c, rfl, _, _⟩; rfl
  K_one := by
    rintro w x cs ⟨A, c, rfl, _, _⟩ u hu
    rw [List.mem_singleton.1 hu]
    exact slice_one _ _ _
  K_below := by
    rintro w w1 x cs hb ⟨A, c, rfl, h1, h2⟩
    exact ⟨A, c, rfl, h1, Kd.C_below h2 hb⟩
  K_of_M := by
    rintro w base ok x cs ⟨v, rfl, h⟩
    obtain ⟨A, c, rfl, h1, h2⟩ := Kd.S_reads h
    exact ⟨A, c, rfl, h1, h2⟩
  M_mono := by
    rintro w base ok ok' x cs hok ⟨v, rfl, h⟩
    exact ⟨v, rfl, Kd.S_mono h hok⟩
  M_bound := by
    rintro w base ok x cs ⟨v, rfl, h⟩
    exact ⟨v, rfl, Kd.S_bound h⟩
  M_move := by
    rintro w w1 base ok x cs hm ⟨v, rfl, h⟩
    exact ⟨v, rfl, Kd.S_move h hm⟩
  M_lower := by
    rintro w base base' ok x cs hb ⟨v, rfl, h⟩
    exact ⟨v, rfl, Kd.S_lower h hb⟩
/-- No sort at all. -/
def no24 : Kd S24 where
  sz := 1
  E := []
  K := fun _ _ _ => False
  M := fun _ _ _ _ _ => False
  K_len := fun h => h.elim
  K_one := fun h => h.elim
  K_below := fun _ h => h.elim
  K_of_M := fun h => h.elim
  M_mono := fun _ h => h.elim
  M_bound := fun h => h.elim
  M_move := fun _ h => h.elim
  M_lower := fun _ h => h.elim
def u24 : Nat → Kd S24
  | 0 => no24
  | n + 1 => up24 (u24 n)
/-- A goal at which the walk stands still. -/
def HoldW (p : Prop) : Prop := p
theorem holdW {p : Prop} (h : HoldW p) : p := h
set_option maxHeartbeats 4000000 in
theorem copied_sep (N : Nat) : ∀ (l : List S24) (A : Option Addr) (c : Nat) (w : World) (hN : SizeOf.sizeOf l < N) (hl : cntL l ≤ 1000) (hr : Kd.C k24 w A l.length l) (hc : l.length ≤ c),
    Calls Try.prog 40 #[.slice A l.length c] w fun e w' => ∃ v : Value, e = .returned v ∧ Kd.S (u24 N) 24 w' w.heap.size (fun _ => True) v l ∧ Below w.heap.size w w' := by
  induction N with
  | zero => intro l A c w hN; omega
  | succ N ih =>
  intro l A c w hN hl hr hc
  have hu24 := Try.underlying24
  have hlen : (l.length : Int) ≤ 1000 := Int.le_trans (cntL_ge l) hl
  have HR := Aside0.mk hr
  have HC := Aside0.mk hc
  have HL := Aside0.mk hl
  have HN := Aside0.mk hN
  have IH := Aside0.mk ih
  clear hr hc hN hl ih
  go_enter Try.func40, Try.ntmps40
  go_wp2_with fail
  go_loopg [3, 8] l.length (fun kq v3 v8 wr => ∃ (i : Nat), v8 = .int .i64 (i : Int) ∧ Aside0 (kq + i = l.length) ∧ Aside0 (Kd.S (up24 (u24 N)) 24 wr w.heap.size (fun _ => True) v3 (l.take i)) ∧ Aside0 (Below w.heap.size w wr))
  case atStart => exact ⟨0, rfl, ⟨by omega⟩, ⟨by rw [List.take_zero]; exact Kd.S_nil _ _ _ _ _⟩, ⟨Below.refl _ _⟩⟩
  case round =>
    obtain ⟨i, rfl, Hi, HO, HB⟩ := hrel
    have hi : i ≤ l.length := by have := Hi.out; omega
    by_cases hlt : i < l.length
    · have hmem := Aside0.mk (rd_T24_mem l i hlt)
      have hcnt := Aside0.mk (cnt_child l i hlt)
      have htk := Aside0.mk (show l.take i ++ [rd_T24 l (i : Int)] = l.take (i + 1) from by
        rw [List.take_add_one]; congr 1; unfold rd_T24; rw [Int.toNat_natCast, List.getD_eq_getElem?_getD, List.getElem?_eq_getElem hlt]; rfl)
      obtain ⟨ad, A1, c1, he, hx1, hl1, hi1⟩ := at_T24 HR.out (i : Int) (by omega) (by omega)
      cases he
      replace hx1 := (HB.out.cell (World.block_lt_of_cell? w _ hx1)).trans hx1
      rw [Int.toNat_natCast] at hx1
      have Hl1 := Aside0.mk hl1
      have Hi1 := Aside0.mk hi1
      clear hl1 hi1
      have p1 : (0 ≤ (i : Int)) = True := eq_true (by omega)
      have p2 : ((i : Int) < (l.length : Int)) = True := eq_true (by omega)
      have p3 : (i < l.length) = True := eq_true (by omega)
      generalize hx : rd_T24 l (i : Int) = x at *
      clear hx
      go_wp2_with (
        (with_reducible refine gate_dst (N := 5) rfl ?_)
        refine box_event ?hg (N := 5) ?hd (cs := #[.slice none 0 0]) (t := 24) ?hr ?_
        (case hd => rfl)
        (case hg => rfl)
        (case hr => first | (go_simp; done) | (go_simp; rfl))
        intro gi hgi w3 hbox hb3
        have hsz := below_size HB.out
        have HB3 := Aside0.mk (below_set (j := 0) (v := .slice A1 x.f0.length c1) (below_step HB.out hb3) (show w.heap.size ≤ gi by omega))
        have HO3 := Aside0.mk (Kd.S_far (p := ⟨gi, 0, none⟩) (Kd.S_below (Kd.S_elderB HO.out gi (Nat.le_of_eq hgi.symm)) hb3) (fun k hk => hk.2) (.slice A1 x.f0.length c1))
        have hci : (w3.setCell ⟨gi, 0, none⟩ (.slice A1 x.f0.length c1)).cell? ⟨gi, 0, none⟩ = some (.slice A1 x.f0.length c1) := (blk_cell (blk_set hbox 0 (.slice A1 x.f0.length c1)) 0).trans rfl
        have hcz := (blk_cell hbox 0).trans rfl
        have hfz := blk_frozen hbox 0
        clear hbox hb3 hsz hgi HB HO)
      (with_reducible refine (IH.out x.f0 A1 c1 _ ?_ ?_ (Kd.C_below Hi1.out HB3.out) Hl1.out).mono ?_)
      · have := hmem.out; have := HN.out; omega
      · have := hcnt.out; have := HL.out; omega
      rintro e w5 ⟨v5, rfl, ho5, hb5⟩
      have hsz := HB3.out.size
      have hvo := Aside0.mk (Kd.S_lt HO3.out)
      have HO5 := Aside0.mk (Kd.S_mono (Kd.S_below (Kd.S_bound HO3.out) hb5) (ok' := fun k => True ∧ ¬ (w3.setCell ⟨gi, 0, none⟩ (.slice A1 x.f0.length c1)).heap.size ≤ k) (fun k hk => ⟨trivial, by have := hk.2.2.1; omega⟩))
      have HN5 := Aside0.mk (Kd.S_mono (Kd.S_lower (Kd.S_bound ho5) hsz) (ok' := fun k => (w3.setCell ⟨gi, 0, none⟩ (.slice A1 x.f0.length c1)).heap.size ≤ k) (fun k hk => hk.2.1))
      have HB5 := Aside0.mk (below_step HB3.out hb5)
      obtain ⟨A5, c5, e5⟩ := Kd.S_slice HN5.out
      subst e5
      clear hci hcz hfz ho5 hb5 hsz HO3 HB3
      go_wp2_with (at_builtin; refine holdW ?_)
      unfold HoldW
      refine Kd.S_append (up24 (u24 N)) (w0 := w) w.heap.size rfl (.tmp 12) (.tmp 17) 22 24 (.agg #[(.slice none 0 0)]) 24 rfl Try.underlying22 info24 rfl Nat.one_pos (by omega) u3 (l.take i) x [.slice A5 x.f0.length c5] (fun _ => True) (fun k => (w3.setCell ⟨gi, 0, none⟩ (.slice A1 x.f0.length c1)).heap.size ≤ k) rfl rfl ?aP ?aK (fun _ _ => trivial) ?aO ?aB ?aS ?aL ?_
      (case aP => exact ⟨_, rfl, HN5.out⟩)
      (case aK => exact fun k hk => ⟨trivial, fun he => by have := hvo.out k he.symm; omega⟩)
      (case aB => exact HB5.out)
      (case aO => exact HO5.out)
      (case aS => exact below_size HB5.out)
      (case aL => rw [List.length_take]; omega)
      intro v2 w50 ho hb hg2 hat
      rw [htk.out] at ho
      have HO6 := Aside0.mk ho
      have HB6 := Aside0.mk hb
      clear ho hb hg2 hat HO5 HN5 HB5
      go_wp2_with fail
      have hk := Hi.out
      obtain ⟨k1, rfl⟩ : ∃ k1, gk = k1 + 1 := ⟨gk - 1, by omega⟩
      go_roundg k1
      case measure => omega
      case rel => exact ⟨i + 1, by go_num, ⟨by omega⟩, HO6, HB6⟩
    · have hie : i = l.length := by omega
      have HO2 : Aside0 (Kd.S (up24 (u24 N)) 24 _ w.heap.size (fun _ => True) u3 l) := ⟨by have := HO.out; rw [hie, List.take_length] at this; exact this⟩
      go_wp2_with fail
      go_ret
      exact ⟨u3, rfl, HO2.out, HB.out⟩
end Go.Proofs.Ytiendnnbflooeaa.V
