/- Contracts of strings.Builder's writers by hand, and of sorts.write and sorts.Put. -/
import Derived.Test.YtiendnnbflooeaaVH2
import Derived.Test.YtiendnnbflooeaaVS
import Derived.Laws.Externs
namespace Go.Proofs.Ytiendnnbflooeaa.V
open Go.RowKit Go.Proofs.YtiendnnbflooeaaW.PrintWords Go.Proofs.YtiendnnbflooeaaW.PrintLast Go.Proofs.YtiendnnbflooeaaW.PrintMore
attribute [local go_sem] max2_int min2_int max_two min_two max_three min_three max_four min_four
set_option linter.unusedVariables false
set_option linter.unusedSimpArgs false

theorem info5 : (Try.prog.info? 5).map (fun i => (i.zero, i.size, i.bytes)) = some (some (.int .u8 0), 1, 1) := by kernel_rfl
theorem infoSize54 : (Try.prog.info? 54).map (·.size) = some 2 := by kernel_rfl
theorem lies54 : liesAt Try.prog Try.prog.depth 54 (2 / Try.prog.cellsOf 54) 0 54 1 = true := by kernel_rfl

/-- copyCheck at a builder that was written: nothing. -/
theorem bcheck_used (b : Nat) (w : World) (h0 : w.cell? ⟨b, 0, none⟩ = some (.pointer (some ⟨b, 0, none⟩))) :
    Calls Try.prog 53 #[.pointer (some ⟨b, 0, none⟩)] w fun e w' => e = .returned (.tuple #[]) ∧ w' = w := by
  obtain ⟨j, hj, _⟩ := Option.map_eq_some_iff.1 infoSize54
  have hu54 := Try.underlying54
  have hu51 := Try.underlying51
  go_enter Try.func53, Try.ntmps53
  go_wp2_with fail
  rw [Lib.run_neq_ptr_same w _ Try.underlying51 hj]
  go_wp2_with fail
  go_end0
  exact ⟨rfl, rfl⟩
/-- copyCheck at a fresh builder. -/
theorem bcheck_fresh (b : Nat) (w : World) (h0 : w.cell? ⟨b, 0, none⟩ = some (.pointer none)) (hsh : w.shape? b = some (54, 2)) (hfz : w.frozen? ⟨b, 0, none⟩ = false) :
    Calls Try.prog 53 #[.pointer (some ⟨b, 0, none⟩)] w fun e w' => e = .returned (.tuple #[]) ∧ w' = w.setCell ⟨b, 0, none⟩ (.pointer (some ⟨b, 0, none⟩)) := by
  obtain ⟨j, hj, hjs⟩ := Option.map_eq_some_iff.1 infoSize54
  have hu54 := Try.underlying54
  have hu51 := Try.underlying51
  have hu74 := Try.underlying74
  go_enter Try.func53, Try.ntmps53
  go_wp2_with fail
  rw [Lib.run_to_unsafe w ⟨b, 0, none⟩ Try.underlying51 Try.underlying74 hj (by rw [hjs]; decide) hsh (Nat.zero_lt_succ 1)]
  simp only [Result.andThen]
  rw [Oper.upon_value]
  go_wp2_with fail
  rw [run_callFunc_extern Try.func55 (by kernel_rfl) (by kernel_rfl) (by kernel_rfl) (e := Extern.AbiNoEscape.same) (by kernel_rfl)]
  rw [Lib.run_noEscape]
  simp only [Result.andThen]
  rw [Oper.upon_value]
  go_wp2_with fail
  rw [Lib.run_from_unsafe w ⟨b, 0, none⟩ Try.underlying74 Try.underlying51 hj hsh lies54]
  simp only [Result.andThen]
  rw [Oper.upon_value]
  go_wp2_with fail
  go_end0
  exact ⟨rfl, rfl⟩
theorem bcheck (B b : Nat) (bs : List Value) (w : World) (h : Lib.IsBuilderF 54 5 B b bs w) :
    Calls Try.prog 53 #[.pointer (some ⟨b, 0, none⟩)] w fun e w' => e = .returned (.tuple #[]) ∧ (Lib.BuilderAtF 54 5 B b (.pointer (some ⟨b, 0, none⟩)) bs w' ∧ Below B w w' ∧ Lib.OthersKept 5 (some b) w w') := by
  rcases h with h | h
  · refine (bcheck_fresh b w h.cell0 h.shape h.frozen0).mono ?_
    rintro e w' ⟨rfl, rfl⟩
    exact ⟨rfl, h.used _, (Below.refl B w).setCell (p := ⟨b, 0, none⟩) h.1 _, (Lib.OthersKept.refl _ _ w).setCell ⟨b, 0, none⟩ rfl _⟩
  · refine (bcheck_used b w h.cell0).mono ?_
    rintro e w' ⟨rfl, rfl⟩
    exact ⟨rfl, h, Below.refl B _, Lib.OthersKept.refl _ _ _⟩
set_option maxHeartbeats 2000000 in
/-- WriteByte. -/
theorem bwrite_byte (B b : Nat) (bs : List Value) (c : Int) (w : World) (h : Lib.IsBuilderF 54 5 B b bs w) (hlen : bs.length + 1 ≤ 140737488355328) (hBw : B ≤ w.heap.size) :
    Calls Try.prog 49 #[.pointer (some ⟨b, 0, none⟩), .int .u8 c] w fun e w' => e = .returned .nilIface ∧ (Lib.BuilderAtF 54 5 B b (.pointer (some ⟨b, 0, none⟩)) (bs ++ [.int .u8 c]) w' ∧ Below B w w' ∧ Lib.OthersKept 5 (some b) w w') := by
  obtain ⟨i0, hi, hz0, hz1, hz2⟩ := info_parts info5
  have hu54 := Try.underlying54
  have hu52 := Try.underlying52
  go_enter Try.func49, Try.ntmps49
  go_wp2_with fail
  (with_reducible refine (bcheck B b bs _ h).mono ?_)
  rintro e w1 ⟨rfl, h1, hb1, hk1⟩
  obtain ⟨hB, v, hbk, hown, hne⟩ := h1
  have c0 : w1.cell? ⟨b, 0, none⟩ = some (.pointer (some ⟨b, 0, none⟩)) := by rw [Lib.cell_of_heap hbk]; rfl
  have c1 : w1.cell? ⟨b, 1, none⟩ = some v := by rw [Lib.cell_of_heap hbk]; rfl
  go_wp2_with (at_builtin; refine wpList_append_ownF _ rfl _ _ 52 rfl B 5 i0 (.int .u8 0) 1 1 Try.underlying52 hi hz0 hz1 hz2 rfl (by decide) _ _ _ rfl (hown.alloc _) ⟨w1.heap.size, 0, none⟩ 1 1 [.int .u8 c] rfl rfl ?c1 ?c2 ?c3 ?c4 ?c5 ?_)
  case c1 =>
    intro j u hj
    match j, hj with
    | 0, hj => simp at hj; subst hj; simp [Addr.add]
  case c2 => intro u hu; simp at hu; subst hu; rfl
  case c3 => unfold maxLen; omega
  case c4 => omega
  case c5 => have := hb1.size; simp; omega
  intro v' w2 hown' hgrow _
  have hlt : b < w1.heap.size := blk_lt hbk
  have hb2 : w2.heap[b]? = some (.cells #[.pointer (some ⟨b, 0, none⟩), v] 54 (0, 0)) := by
    rw [hgrow.block b (by simp; omega) (fun e => hne e.symm), Lib.alloc_old w1 _ b hlt]
    exact hbk
  have d0 : w2.cell? ⟨b, 0, none⟩ = some (.pointer (some ⟨b, 0, none⟩)) := by rw [Lib.cell_of_heap hb2]; rfl
  have d1 : w2.cell? ⟨b, 1, none⟩ = some v := by rw [Lib.cell_of_heap hb2]; rfl
  have f1 : w2.frozen? ⟨b, 1, none⟩ = false := Lib.frozen_of_heap hb2 1
  obtain ⟨g, cap, rfl⟩ : ∃ g cap, v' = .slice (some ⟨g, 0, none⟩) (bs.length + 1) cap := by
    rcases hown'.2 with ⟨_, h0⟩ | ⟨g, cap, cur, fz, hv, _⟩
    · omega
    · exact ⟨g, cap, hv⟩
  go_wp2_with fail
  go_ret
  refine ⟨rfl, ?_, ?_, ((hk1.alloc _).grown hgrow (Lib.ownsRowF_kind (hown.alloc _))).setCell ⟨b, 1, none⟩ rfl _⟩
  · exact Lib.BuilderAtF.put (T := 54) (e := 5) hB hb2 (bs' := bs ++ [.int .u8 c]) (by simpa using hown') (by decide)
  · exact ((hb1.alloc (by have := hb1.size; omega) _).grown hgrow (by have := hb1.size; simp; omega) (fun k hk => (hown.lt k hk).1)).setCell (p := ⟨b, 1, none⟩) hB _
set_option maxHeartbeats 2000000 in
/-- WriteString. -/
theorem bwrite_string (B b : Nat) (bs : List Value) (s : ByteArray) (w : World) (h : Lib.IsBuilderF 54 5 B b bs w) (hlen : bs.length + s.size ≤ 140737488355328) (hBw : B ≤ w.heap.size) :
    Calls Try.prog 50 #[.pointer (some ⟨b, 0, none⟩), .string s] w fun e w' => e = .returned (.tuple #[.int .i64 s.size, .nilIface]) ∧ (Lib.BuilderAtF 54 5 B b (.pointer (some ⟨b, 0, none⟩)) (bs ++ Lib.strCells s) w' ∧ Below B w w' ∧ Lib.OthersKept 5 (some b) w w') := by
  obtain ⟨i0, hi, hz0, hz1, hz2⟩ := info_parts info5
  have hu54 := Try.underlying54
  have hu52 := Try.underlying52
  go_enter Try.func50, Try.ntmps50
  go_wp2_with fail
  (with_reducible refine (bcheck B b bs _ h).mono ?_)
  rintro e w1 ⟨rfl, h1, hb1, hk1⟩
  obtain ⟨hB, v, hbk, hown, hne⟩ := h1
  have c0 : w1.cell? ⟨b, 0, none⟩ = some (.pointer (some ⟨b, 0, none⟩)) := by rw [Lib.cell_of_heap hbk]; rfl
  have c1 : w1.cell? ⟨b, 1, none⟩ = some v := by rw [Lib.cell_of_heap hbk]; rfl
  go_wp2_with (at_builtin; refine Lib.wpList_append_own_stringF _ rfl _ _ 52 9 rfl B 5 i0 Try.underlying52 Try.underlying9 hi hz0 hz1 hz2 _ _ _ rfl hown s rfl ?c3 ?c4 ?c5 ?_)
  case c3 => unfold maxLen; omega
  case c4 => omega
  case c5 => have := hb1.size; omega
  intro v' w2 hown' hgrow _
  have hlt : b < w1.heap.size := blk_lt hbk
  have hb2 : w2.heap[b]? = some (.cells #[.pointer (some ⟨b, 0, none⟩), v] 54 (0, 0)) := by
    rw [hgrow.block b hlt (fun e => hne e.symm)]
    exact hbk
  have d0 : w2.cell? ⟨b, 0, none⟩ = some (.pointer (some ⟨b, 0, none⟩)) := by rw [Lib.cell_of_heap hb2]; rfl
  have d1 : w2.cell? ⟨b, 1, none⟩ = some v := by rw [Lib.cell_of_heap hb2]; rfl
  have f1 : w2.frozen? ⟨b, 1, none⟩ = false := Lib.frozen_of_heap hb2 1
  obtain ⟨ao, n', cap, rfl⟩ : ∃ ao n' cap, v' = .slice ao n' cap := by
    rcases hown'.2 with ⟨hv, _⟩ | ⟨g, cap, cur, fz, hv, _⟩
    · exact ⟨_, _, _, hv⟩
    · exact ⟨_, _, _, hv⟩
  go_wp2_with fail
  go_ret2
  refine ⟨rfl, ?_, ?_, (hk1.grown hgrow (Lib.ownsRowF_kind hown)).setCell ⟨b, 1, none⟩ rfl _⟩
  · exact Lib.BuilderAtF.put (T := 54) (e := 5) hB hb2 (bs' := bs ++ Lib.strCells s) (by simpa [Lib.strCells_length] using hown') (by decide)
  · exact (hb1.grown hgrow (by have := hb1.size; omega) (fun k hk => (hown.lt k hk).1)).setCell (p := ⟨b, 1, none⟩) hB _
/-! ### what a builder keeps, what is kept beside it -/
theorem bat_below {T e : TypeId} {B b : Nat} {p : Value} {bs : List Value} {w w' : World} (h : Lib.BuilderAtF T e B b p bs w) (hb : Below w.heap.size w w') : Lib.BuilderAtF T e B b p bs w' := by
  obtain ⟨hB, v, hbk, hown, hne⟩ := h
  exact ⟨hB, v, blk_below hbk hb, hown.kept (grown_of_below hb none) (by cases v.ownBlock <;> simp), hne⟩
theorem isb_below {T e : TypeId} {B b : Nat} {bs : List Value} {w w' : World} (h : Lib.IsBuilderF T e B b bs w) (hb : Below w.heap.size w w') : Lib.IsBuilderF T e B b bs w' :=
  h.elim (fun x => .inl (bat_below x hb)) (fun x => .inr (bat_below x hb))
theorem isb_lt {T e : TypeId} {B b : Nat} {bs : List Value} {w : World} (h : Lib.IsBuilderF T e B b bs w) : B ≤ b ∧ b < w.heap.size :=
  h.elim (fun x => ⟨x.1, x.lt⟩) (fun x => ⟨x.1, x.lt⟩)
theorem isb_ne {T e t : TypeId} {B b g : Nat} {bs : List Value} {cs : Array Value} {w : World} (h : Lib.IsBuilderF T e B b bs w) (hg : w.heap[g]? = some (.cells cs t (0, 0))) (ht : t ≠ T) : g ≠ b := by
  rintro rfl
  rcases h with ⟨_, v, hb, _⟩ | ⟨_, v, hb, _⟩ <;>
  · rw [hb] at hg
    injection hg with hg
    injection hg with _ h2
    exact ht h2.symm
theorem others_below {e : TypeId} {b : Option Nat} {w w' : World} (hb : Below w.heap.size w w') : Lib.OthersKept e b w w' := fun k o hk _ _ => blk_below hk hb
theorem others_blk {e t : TypeId} {b g : Nat} {w w' : World} {cs : Array Value} (h : Lib.OthersKept e (some b) w w') (hg : w.heap[g]? = some (.cells cs t (0, 0))) (ht : t ≠ e) (hne : g ≠ b) : w'.heap[g]? = some (.cells cs t (0, 0)) :=
  h g _ hg (by simpa using hne) (fun c fz hc => by injection hc with _ h2; exact ht h2)

mutual
/-- The string of a sort. -/
def txt : S24 → List UInt8
  | ⟨l⟩ => txtL l ++ [111]
def txtL : List S24 → List UInt8
  | [] => []
  | x :: xs => (if 0 < x.f0.length then [40] ++ (txt x ++ ([41] ++ ([32, 62, 32] ++ txtL xs))) else txt x ++ ([32, 62, 32] ++ txtL xs))
end
theorem strCells3 : Lib.strCells (⟨#[32, 62, 32]⟩ : ByteArray) = Lib.byteCells [32, 62, 32] := rfl

set_option maxHeartbeats 2000000 in
theorem write_calls (N : Nat) : ∀ (l : List S24) (A : Option Addr) (c b : Nat) (acc : List UInt8) (w0 w : World) (hN : SizeOf.sizeOf l < N) (hr : Kd.C k24 w0 A l.length l) (hc : l.length ≤ c) (hB : Below w0.heap.size w0 w)
    (hb : Lib.IsBuilderF 54 5 w0.heap.size b (Lib.byteCells acc) w) (hl : acc.length + (txt ⟨l⟩).length ≤ 140737488355328),
    Calls Try.prog 41 #[.pointer (some ⟨b, 0, none⟩), .agg #[.slice A l.length c]] w fun e w' => e = .returned (.tuple #[]) ∧ Lib.IsBuilderF 54 5 w0.heap.size b (Lib.byteCells (acc ++ txt ⟨l⟩)) w' ∧ Below w0.heap.size w0 w' ∧ Lib.OthersKept 5 (some b) w w' := by
  induction N with
  | zero => intro l A c b acc w0 w hN; omega
  | succ N ih =>
  intro l A c b acc w0 w hN hr hc hB hb hl
  have hu24 := Try.underlying24
  have hlen : l.length ≤ 9223372036854775807 := hr.2.1
  have HR := Aside0.mk hr
  have HC := Aside0.mk hc
  have HN := Aside0.mk hN
  have IH := Aside0.mk ih
  have HB := Aside0.mk hB
  have Hb := Aside0.mk hb
  have HL := Aside0.mk hl
  clear hr hc hN ih hB hb hl
  go_enter Try.func41, Try.ntmps41
  go_wp2_with (
    (with_reducible refine gate_dst (N := 3) rfl ?_)
    refine box_event ?hg (N := 3) ?hd (cs := #[.slice A l.length c]) (t := 24) ?hr ?_
    (case hd => rfl)
    (case hg => rfl)
    (case hr => first | (go_simp; done) | (go_simp; rfl))
    intro gb hgb w2 hbox hb2
    have HB2 := Aside0.mk (below_step HB.out hb2)
    have Hb2 := Aside0.mk (isb_below Hb.out hb2)
    have HK2 := Aside0.mk (others_below (e := 5) (b := some b) hb2)
    have hcz2 : w2.cell? ⟨gb, 0, none⟩ = some (.slice A l.length c) := (blk_cell hbox 0).trans rfl
    have Hbox := Aside0.mk hbox
    clear hbox hb2 hgb HB Hb)
  clear hcz2
  go_loopg [9] l.length (fun kq v9 wr => ∃ (i : Nat) (done : List UInt8), v9 = .int .i64 (i : Int) ∧ Aside0 (kq + i = l.length) ∧ Aside0 (done ++ txtL (l.drop i) = txtL l) ∧ Aside0 (wr.heap[gb]? = some (.cells #[.slice A l.length c] 24 (0, 0))) ∧ Aside0 (Below w0.heap.size w0 wr) ∧ Aside0 (Lib.IsBuilderF 54 5 w0.heap.size b (Lib.byteCells (acc ++ done)) wr) ∧ Aside0 (Lib.OthersKept 5 (some b) w wr))
  case atStart => exact ⟨0, [], rfl, ⟨by omega⟩, ⟨by rw [List.drop_zero]; rfl⟩, Hbox, HB2, ⟨by rw [List.append_nil]; exact Hb2.out⟩, HK2⟩
  case round =>
    clear Hbox HB2 Hb2 HK2
    obtain ⟨i, done, rfl, Hi, Hm, Hbox, HB, Hb, HK⟩ := hrel
    have hi : i ≤ l.length := by have := Hi.out; omega
    by_cases hlt : i < l.length
    · have hdrop := Aside0.mk (rd_T24_drop l i hlt)
      have hmem := Aside0.mk (rd_T24_mem l i hlt)
      obtain ⟨ad, A1, c1, he, hx1, hl1, hi1⟩ := at_T24 HR.out (i : Int) (by omega) (by omega)
      cases he
      replace hx1 := (HB.out.cell (World.block_lt_of_cell? w0 _ hx1)).trans hx1
      rw [Int.toNat_natCast] at hx1
      have Hl1 := Aside0.mk hl1
      have Hi1 := Aside0.mk hi1
      clear hl1 hi1
      have p1 : (0 ≤ (i : Int)) = True := eq_true (by omega)
      have p2 : ((i : Int) < (l.length : Int)) = True := eq_true (by omega)
      have p3 : (i < l.length) = True := eq_true (by omega)
      generalize hx : rd_T24 l (i : Int) = x at *
      have Hx := Aside0.mk hx
      clear hx
      have HL2 : Aside0 (acc.length + (done ++ (txtL (x :: l.drop (i + 1)) ++ [111])).length ≤ 140737488355328) := ⟨by rw [← hdrop.out, ← List.append_assoc, Hm.out]; have := HL.out; rw [txt] at this; exact this⟩
      have Hxe : Aside0 ((⟨x.f0⟩ : S24) = x) := ⟨by cases x; rfl⟩
      have hneb := isb_ne Hb.out Hbox.out (by decide)
      by_cases hpos : 0 < x.f0.length
      · have Htx : Aside0 (txtL (x :: l.drop (i + 1)) = [40] ++ (txt x ++ ([41] ++ ([32, 62, 32] ++ txtL (l.drop (i + 1)))))) := ⟨by rw [txtL, if_pos hpos]⟩
        rw [Htx.out] at HL2
        have h1b : decide (0 < x.f0.length) = true := decide_eq_true hpos
        have h2b : decide (0 < (x.f0.length : Int)) = true := decide_eq_true (by omega)
        go_wp2_with (
          (with_reducible refine gate_dst (N := 5) rfl ?_)
          refine box_event ?hg (N := 5) ?hd (cs := #[.slice none 0 0]) (t := 24) ?hr ?_
          (case hd => rfl)
          (case hg => rfl)
          (case hr => first | (go_simp; done) | (go_simp; rfl))
          intro gi hgi w3 hbox3 hb3
          have hBw := below_set (j := 0) (v := .slice A1 x.f0.length c1) hb3 (show wr.heap.size ≤ gi by omega)
          have HB3 := Aside0.mk (below_step HB.out hBw)
          have Hb3 := Aside0.mk (isb_below Hb.out hBw)
          have HK3 := Aside0.mk (HK.out.trans (others_below hBw))
          have Hbox3 := Aside0.mk (blk_below Hbox.out hBw)
          have Hit3 := Aside0.mk (blk_put (cs' := #[.slice A1 x.f0.length c1]) hbox3 0 (.slice A1 x.f0.length c1) rfl)
          have hnei : gi ≠ b := by have := (isb_lt Hb.out).2; omega
          have hci : (w3.setCell ⟨gi, 0, none⟩ (.slice A1 x.f0.length c1)).cell? ⟨gi, 0, none⟩ = some (.slice A1 x.f0.length c1) := (blk_cell Hit3.out 0).trans rfl
          have hcz := (blk_cell hbox3 0).trans rfl
          have hfz := blk_frozen hbox3 0
          clear hbox3 hb3 hBw hgi HB HK Hb Hbox)
        (with_reducible refine (bwrite_byte w0.heap.size b _ 40 _ Hb3.out ?_ (HB3.out.size)).mono ?_)
        · rw [Lib.byteCells_length]; have := HL2.out; simp only [List.length_append, List.length_cons, List.length_nil] at this ⊢; omega
        rintro e w4 ⟨rfl, h4, hb4, hk4⟩
        have Hb4 : Aside0 (Lib.IsBuilderF 54 5 w0.heap.size b (Lib.byteCells (acc ++ done ++ [40])) w4) := ⟨by rw [Lib.byteCells_append]; exact .inr h4⟩
        clear hci h4
        have HB4 := Aside0.mk (HB3.out.trans hb4)
        have Hbox4 := Aside0.mk (others_blk hk4 Hbox3.out (by decide) hneb)
        have Hit4 := Aside0.mk (others_blk hk4 Hit3.out (by decide) hnei)
        have HK4 := Aside0.mk (HK3.out.trans hk4)
        have hci : w4.cell? ⟨gi, 0, none⟩ = some (.slice A1 x.f0.length c1) := (blk_cell Hit4.out 0).trans rfl
        clear hb4 hk4 HB3 Hbox3 Hit3 HK3 Hb3
        go_wp2_with fail
        (with_reducible refine (IH.out x.f0 A1 c1 b (acc ++ done ++ [40]) w0 _ ?_ Hi1.out Hl1.out HB4.out Hb4.out ?_).mono ?_)
        · have := hmem.out; have := HN.out; omega
        · have := HL2.out; rw [Hxe.out]; simp only [List.length_append, List.length_cons, List.length_nil] at this ⊢; omega
        rintro e w5 ⟨rfl, h5, hb5, hk5⟩
        rw [Hxe.out] at h5
        have Hb5 := Aside0.mk h5
        have HB5 := Aside0.mk hb5
        have Hbox5 := Aside0.mk (others_blk hk5 Hbox4.out (by decide) hneb)
        have Hit5 := Aside0.mk (others_blk hk5 Hit4.out (by decide) hnei)
        have HK5 := Aside0.mk (HK4.out.trans hk5)
        have hci : w5.cell? ⟨gi, 0, none⟩ = some (.slice A1 x.f0.length c1) := (blk_cell Hit5.out 0).trans rfl
        clear hb5 hk5 HB4 Hbox4 Hit4 HK4 Hb4 h5
        go_wp2_with fail
        (with_reducible refine (bwrite_byte w0.heap.size b _ 41 _ Hb5.out ?_ (HB5.out.size)).mono ?_)
        · rw [Lib.byteCells_length]; have := HL2.out; simp only [List.length_append, List.length_cons, List.length_nil] at this ⊢; omega
        rintro e w6 ⟨rfl, h6, hb6, hk6⟩
        have Hb6 : Aside0 (Lib.IsBuilderF 54 5 w0.heap.size b (Lib.byteCells (acc ++ done ++ [40] ++ txt x ++ [41])) w6) := ⟨by rw [Lib.byteCells_append]; exact .inr h6⟩
        clear hci h6
        have HB6 := Aside0.mk (HB5.out.trans hb6)
        have Hbox6 := Aside0.mk (others_blk hk6 Hbox5.out (by decide) hneb)
        have Hit6 := Aside0.mk (others_blk hk6 Hit5.out (by decide) hnei)
        have HK6 := Aside0.mk (HK5.out.trans hk6)
        have hci : w6.cell? ⟨gi, 0, none⟩ = some (.slice A1 x.f0.length c1) := (blk_cell Hit6.out 0).trans rfl
        clear hb6 hk6 HB5 Hbox5 Hit5 HK5 Hb5
        go_wp2_with fail
        (with_reducible refine (bwrite_string w0.heap.size b _ ⟨#[32, 62, 32]⟩ _ Hb6.out ?_ (HB6.out.size)).mono ?_)
        · rw [Lib.byteCells_length]; have := HL2.out; show _ + 3 ≤ _; simp only [List.length_append, List.length_cons, List.length_nil] at this ⊢; omega
        rintro e w7 ⟨rfl, h7, hb7, hk7⟩
        have Hb7 : Aside0 (Lib.IsBuilderF 54 5 w0.heap.size b (Lib.byteCells (acc ++ done ++ [40] ++ txt x ++ [41] ++ [32, 62, 32])) w7) := ⟨by rw [Lib.byteCells_append]; exact .inr h7⟩
        clear hci h7
        have HB7 := Aside0.mk (HB6.out.trans hb7)
        have Hbox7 := Aside0.mk (others_blk hk7 Hbox6.out (by decide) hneb)
        have Hit7 := Aside0.mk (others_blk hk7 Hit6.out (by decide) hnei)
        have HK7 := Aside0.mk (HK6.out.trans hk7)
        have hci : w7.cell? ⟨gi, 0, none⟩ = some (.slice A1 x.f0.length c1) := (blk_cell Hit7.out 0).trans rfl
        clear hb7 hk7 HB6 Hbox6 Hit6 HK6 Hb6
        go_wp2_with fail
        have hk := Hi.out
        obtain ⟨k1, rfl⟩ : ∃ k1, gk = k1 + 1 := ⟨gk - 1, by omega⟩
        go_roundg k1
        case measure => omega
        case rel => exact ⟨i + 1, done ++ [40] ++ txt x ++ [41] ++ [32, 62, 32], by go_num, ⟨by omega⟩, ⟨by rw [← Hm.out, hdrop.out, Htx.out]; simp⟩, Hbox7, HB7, ⟨by have h := Hb7.out; simpa [List.append_assoc] using h⟩, HK7⟩
      · have Htx : Aside0 (txtL (x :: l.drop (i + 1)) = txt x ++ ([32, 62, 32] ++ txtL (l.drop (i + 1)))) := ⟨by rw [txtL, if_neg hpos]⟩
        rw [Htx.out] at HL2
        have hz : x.f0.length = 0 := by omega
        have h1b : decide (0 < x.f0.length) = false := decide_eq_false hpos
        have h2b : decide (0 < (x.f0.length : Int)) = false := decide_eq_false (by omega)
        have Hz := Aside0.mk hz
        clear hz
        go_wp2_with (
          (with_reducible refine gate_dst (N := 5) rfl ?_)
          refine box_event ?hg (N := 5) ?hd (cs := #[.slice none 0 0]) (t := 24) ?hr ?_
          (case hd => rfl)
          (case hg => rfl)
          (case hr => first | (go_simp; done) | (go_simp; rfl))
          intro gi hgi w3 hbox3 hb3
          have hBw := below_set (j := 0) (v := .slice A1 x.f0.length c1) hb3 (show wr.heap.size ≤ gi by omega)
          have HB3 := Aside0.mk (below_step HB.out hBw)
          have Hb3 := Aside0.mk (isb_below Hb.out hBw)
          have HK3 := Aside0.mk (HK.out.trans (others_below hBw))
          have Hbox3 := Aside0.mk (blk_below Hbox.out hBw)
          have Hit3 := Aside0.mk (blk_put (cs' := #[.slice A1 x.f0.length c1]) hbox3 0 (.slice A1 x.f0.length c1) rfl)
          have hnei : gi ≠ b := by have := (isb_lt Hb.out).2; omega
          have hci : (w3.setCell ⟨gi, 0, none⟩ (.slice A1 x.f0.length c1)).cell? ⟨gi, 0, none⟩ = some (.slice A1 x.f0.length c1) := (blk_cell Hit3.out 0).trans rfl
          have hcz := (blk_cell hbox3 0).trans rfl
          have hfz := blk_frozen hbox3 0
          clear hbox3 hb3 hBw hgi HB HK Hb Hbox)
        (with_reducible refine (IH.out x.f0 A1 c1 b (acc ++ done) w0 _ ?_ Hi1.out Hl1.out HB3.out Hb3.out ?_).mono ?_)
        · have := hmem.out; have := HN.out; omega
        · have := HL2.out; rw [Hxe.out]; simp only [List.length_append, List.length_cons, List.length_nil] at this ⊢; omega
        rintro e w4 ⟨rfl, h4, hb4, hk4⟩
        rw [Hxe.out] at h4
        have Hb4 := Aside0.mk h4
        have HB4 := Aside0.mk hb4
        have Hbox4 := Aside0.mk (others_blk hk4 Hbox3.out (by decide) hneb)
        have Hit4 := Aside0.mk (others_blk hk4 Hit3.out (by decide) hnei)
        have HK4 := Aside0.mk (HK3.out.trans hk4)
        have hci : w4.cell? ⟨gi, 0, none⟩ = some (.slice A1 x.f0.length c1) := (blk_cell Hit4.out 0).trans rfl
        clear hb4 hk4 HB3 Hbox3 Hit3 HK3 Hb3 h4
        go_wp2_with fail
        (with_reducible refine (bwrite_string w0.heap.size b _ ⟨#[32, 62, 32]⟩ _ Hb4.out ?_ (HB4.out.size)).mono ?_)
        · rw [Lib.byteCells_length]; have := HL2.out; show _ + 3 ≤ _; simp only [List.length_append, List.length_cons, List.length_nil] at this ⊢; omega
        rintro e w5 ⟨rfl, h5, hb5, hk5⟩
        have Hb5 : Aside0 (Lib.IsBuilderF 54 5 w0.heap.size b (Lib.byteCells (acc ++ done ++ txt x ++ [32, 62, 32])) w5) := ⟨by rw [Lib.byteCells_append]; exact .inr h5⟩
        clear hci h5
        have HB5 := Aside0.mk (HB4.out.trans hb5)
        have Hbox5 := Aside0.mk (others_blk hk5 Hbox4.out (by decide) hneb)
        have Hit5 := Aside0.mk (others_blk hk5 Hit4.out (by decide) hnei)
        have HK5 := Aside0.mk (HK4.out.trans hk5)
        have hci : w5.cell? ⟨gi, 0, none⟩ = some (.slice A1 x.f0.length c1) := (blk_cell Hit5.out 0).trans rfl
        clear hb5 hk5 HB4 Hbox4 Hit4 HK4 Hb4
        go_wp2_with fail
        have hk := Hi.out
        obtain ⟨k1, rfl⟩ : ∃ k1, gk = k1 + 1 := ⟨gk - 1, by omega⟩
        go_roundg k1
        case measure => omega
        case rel => exact ⟨i + 1, done ++ txt x ++ [32, 62, 32], by go_num, ⟨by omega⟩, ⟨by rw [← Hm.out, hdrop.out, Htx.out]; simp⟩, Hbox5, HB5, ⟨by have h := Hb5.out; simpa [List.append_assoc] using h⟩, HK5⟩
    · have hie : i = l.length := by omega
      have Hd : Aside0 (done = txtL l) := ⟨by rw [← Hm.out, hie, List.drop_length, txtL, List.append_nil]⟩
      clear hie
      go_wp2_with fail
      (with_reducible refine (bwrite_byte w0.heap.size b _ 111 _ Hb.out ?_ (HB.out.size)).mono ?_)
      · rw [Lib.byteCells_length, List.length_append, Hd.out]; have := HL.out; rw [txt] at this; simp only [List.length_append, List.length_cons, List.length_nil] at this ⊢; omega
      rintro e w4 ⟨rfl, h4, hb4, hk4⟩
      have Hb4 : Aside0 (Lib.IsBuilderF 54 5 w0.heap.size b (Lib.byteCells (acc ++ txt ⟨l⟩)) w4) := ⟨by rw [txt, ← List.append_assoc, Lib.byteCells_append, ← Hd.out]; exact .inr h4⟩
      have HB4 := Aside0.mk (HB.out.trans hb4)
      have HK4 := Aside0.mk (HK.out.trans hk4)
      clear h4 hb4 hk4
      go_wp2_with fail
      go_end0
      exact ⟨rfl, Hb4.out, HB4.out, HK4.out⟩
end Go.Proofs.Ytiendnnbflooeaa.V
