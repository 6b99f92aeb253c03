/- The chapter's examples (alive), by hand. -/
import Derived.Test.YtfhgoebgnilfaaaIAe
import Derived.Test.YtfhgoebgnilfaaaI1
import Derived.Deep.RegionHeld3
namespace Go.Proofs.Ytfhgoebgnilfaaa.I
open Go.RowKit Go.Proofs.YtfhgoebgnilfaaaW.PrintWords Go.Proofs.YtfhgoebgnilfaaaW.PrintLast Go.Proofs.YtfhgoebgnilfaaaW.PrintMore
attribute [local go_sem] max2_int min2_int max_two min_two max_three min_three max_four min_four
set_option linter.unusedVariables false
set_option maxRecDepth 100000
set_option linter.unusedSimpArgs false
theorem wpList_hold {p : Prop} (h : p) : p := h
set_option maxHeartbeats 8000000 in
/-- A head, applied to arguments: the same words. -/
theorem term_ex (a0 a1 : Int) (A : Option Addr) (n c : Nat) (w : World) :
    Calls Try.prog 27 #[.int .i64 a0, .int .i64 a1, .slice A n c] w fun e w' => e = .returned (.agg #[.int .i64 a0, .int .i64 a1, .slice A n c]) ∧ Below w.heap.size w w' := by
  have hu44 := Try.underlying44
  go_enter Try.func27, Try.ntmps27
  go_wp2_with (
    (with_reducible refine gate_dst (N := 6) rfl ?_)
    refine box_event ?hg (N := 6) ?hd (cs := #[.int .i64 0, .int .i64 0, .slice none 0 0]) (t := 44) ?hr ?_
    (case hd => rfl)
    (case hg => rfl)
    (case hr => first | (go_simp; done) | (go_simp; rfl))
    intro gi hgi w3 hbox hb3
    have hg := Nat.le_of_eq hgi.symm
    have HB := Aside0.mk (below_set (g := gi) (j := 2) (v := .slice A n c) (below_set (g := gi) (j := 1) (v := .int .i64 a1) (below_set (g := gi) (j := 0) (v := .int .i64 a0) hb3 hg) hg) hg)
    have Hgi := Aside0.mk (blk_put (cs' := #[.int .i64 a0, .int .i64 a1, .slice A n c]) (blk_put (cs' := #[.int .i64 a0, .int .i64 a1, .slice none 0 0]) (blk_put (cs' := #[.int .i64 a0, .int .i64 0, .slice none 0 0]) hbox 0 (.int .i64 a0) rfl) 1 (.int .i64 a1) rfl) 2 (.slice A n c) rfl)
    have hcz0 := (blk_cell hbox 0).trans rfl
    have hcz1 := (blk_cell hbox 1).trans rfl
    have hcz2 := (blk_cell hbox 2).trans rfl
    have hfz0 := blk_frozen hbox 0
    have hfz1 := blk_frozen hbox 1
    have hfz2 := blk_frozen hbox 2
    clear hbox hb3 hgi hg)
  refine bodyPost_ret (results_cell_row rfl _ _ gi 44 #[.int .i64 a0, .int .i64 a1, .slice A n c] (0, 0) _ rfl Hgi.out Try.underlying44 rfl (by kernel_rfl)) rfl ?_
  exact ⟨rfl, HB.out⟩
/-- A new block, read as a row. -/
theorem C_cel {α : Type} {d : Kd α} {w : World} {g : Nat} {cs : List Value} {xs : List α} (ccs : List (List Value)) (hb : ∀ (j : Nat) (u : Value), cs[j]? = some u → w.cell? ⟨g, j, none⟩ = some u) (hcs : cs = ccs.flatten) (hl : ccs.length = xs.length) (hm : xs.length ≤ 1000) (hK : ∀ (j : Nat) (x : α) (c : List Value), xs[j]? = some x → ccs[j]? = some c → d.K w x c) :
    d.C w (some ⟨g, 0, none⟩) xs.length xs := by
  refine ⟨rfl, by omega, fun _ => ⟨_, rfl, fun j x hj => ?_⟩⟩
  have hjl : j < ccs.length := by rw [hl]; exact (List.getElem?_eq_some_iff.1 hj).1
  have hk := hK j x ccs[j] hj (List.getElem?_eq_getElem hjl)
  have hlen : ∀ c ∈ ccs, c.length = d.sz := fun c hc => by
    obtain ⟨i, hi, e⟩ := List.getElem_of_mem hc
    have hx : xs[i]? = some (xs[i]'(by rw [← hl]; exact hi)) := List.getElem?_eq_getElem _
    rw [← e]
    exact d.K_len (hK i _ _ hx (List.getElem?_eq_getElem hi))
  refine ⟨ccs[j], d.K_len hk, hk, fun i u hu => ?_⟩
  have hil : i < ccs[j].length := (List.getElem?_eq_some_iff.1 hu).1
  have key : ∀ (l : List (List Value)) (sz : Nat), (∀ c ∈ l, c.length = sz) → ∀ (j i : Nat) (c : List Value) (u : Value), l[j]? = some c → c[i]? = some u → l.flatten[j * sz + i]? = some u := by
    intro l sz
    induction l with
    | nil => intro _ j i c u hj; simp at hj
    | cons a l ih =>
      intro hs j i c u hj hi
      have ha := hs a List.mem_cons_self
      cases j with
      | zero =>
        injection hj with hj
        subst hj
        rw [List.flatten_cons, Nat.zero_mul, Nat.zero_add, List.getElem?_append_left (List.getElem?_eq_some_iff.1 hi).1]
        exact hi
      | succ j =>
        rw [List.flatten_cons, List.getElem?_append_right (by rw [ha, Nat.succ_mul]; omega), ha, Nat.succ_mul, show j * sz + sz + i - sz = j * sz + i from by omega]
        exact ih (fun c hc => hs c (List.mem_cons_of_mem _ hc)) j i c u hj hi
  have h2 := key ccs d.sz hlen j i _ u (List.getElem?_eq_getElem hjl) hu
  rw [← hcs] at h2
  have e : (⟨g, 0, none⟩ : Addr).add (j * d.sz + i) = ⟨g, j * d.sz + i, none⟩ := by unfold Addr.add; simp; omega
  rw [e]
  exact hb _ _ h2
theorem C_blk {α : Type} {d : Kd α} {w : World} {g : Nat} {t : TypeId} {cs : List Value} {xs : List α} (ccs : List (List Value)) (hb : w.heap[g]? = some (.cells cs.toArray t (0, 0))) (hcs : cs = ccs.flatten) (hl : ccs.length = xs.length) (hm : xs.length ≤ 1000) (hK : ∀ (j : Nat) (x : α) (c : List Value), xs[j]? = some x → ccs[j]? = some c → d.K w x c) :
    d.C w (some ⟨g, 0, none⟩) xs.length xs :=
  C_cel ccs (fun j u hu => (blk_cell hb j).trans (by simpa using hu)) hcs hl hm hK
theorem C_cel1 {α : Type} {d : Kd α} {w : World} {g : Nat} {x : α} (c : List Value) (hb : ∀ (j : Nat) (u : Value), c[j]? = some u → w.cell? ⟨g, j, none⟩ = some u) (hK : d.K w x c) : d.C w (some ⟨g, 0, none⟩) 1 [x] :=
  C_cel (xs := [x]) [c] hb (by simp) rfl (by simp) (fun j y e h1 h2 => by
    cases j with
    | zero => injection h1 with h1; injection h2 with h2; subst h1 h2; exact hK
    | succ j => cases h1)
theorem C_cel2 {α : Type} {d : Kd α} {w : World} {g : Nat} {x x' : α} (c c' : List Value) (hb : ∀ (j : Nat) (u : Value), (c ++ c')[j]? = some u → w.cell? ⟨g, j, none⟩ = some u) (hK : d.K w x c) (hK' : d.K w x' c') : d.C w (some ⟨g, 0, none⟩) 2 [x, x'] :=
  C_cel (xs := [x, x']) [c, c'] hb (by simp) rfl (by simp) (fun j y e h1 h2 => by
    match j with
    | 0 => injection h1 with h1; injection h2 with h2; subst h1 h2; exact hK
    | 1 => injection h1 with h1; injection h2 with h2; subst h1 h2; exact hK'
    | j + 2 => cases h1)
theorem C_blk3 {α : Type} {d : Kd α} {w : World} {g : Nat} {t : TypeId} {x x' x'' : α} (c c' c'' : List Value) (hb : w.heap[g]? = some (.cells (c ++ c' ++ c'').toArray t (0, 0))) (hK : d.K w x c) (hK' : d.K w x' c') (hK'' : d.K w x'' c'') : d.C w (some ⟨g, 0, none⟩) 3 [x, x', x''] :=
  C_blk (xs := [x, x', x'']) [c, c', c''] hb (by simp) rfl (by simp) (fun j y e h1 h2 => by
    match j with
    | 0 => injection h1 with h1; injection h2 with h2; subst h1 h2; exact hK
    | 1 => injection h1 with h1; injection h2 with h2; subst h1 h2; exact hK'
    | 2 => injection h1 with h1; injection h2 with h2; subst h1 h2; exact hK''
    | j + 3 => cases h1)
theorem cel3 {w : World} {g : Nat} {a b c : Value} (h0 : w.cell? ⟨g, 0, none⟩ = some a) (h1 : w.cell? ⟨g, 1, none⟩ = some b) (h2 : w.cell? ⟨g, 2, none⟩ = some c) : ∀ (j : Nat) (u : Value), [a, b, c][j]? = some u → w.cell? ⟨g, j, none⟩ = some u
  | 0, u, h => by injection h with h; rw [← h]; exact h0
  | 1, u, h => by injection h with h; rw [← h]; exact h1
  | 2, u, h => by injection h with h; rw [← h]; exact h2
  | j + 3, u, h => by cases h
theorem cel6 {w : World} {g : Nat} {a b c d e f : Value} (h0 : w.cell? ⟨g, 0, none⟩ = some a) (h1 : w.cell? ⟨g, 1, none⟩ = some b) (h2 : w.cell? ⟨g, 2, none⟩ = some c) (h3 : w.cell? ⟨g, 3, none⟩ = some d) (h4 : w.cell? ⟨g, 4, none⟩ = some e) (h5 : w.cell? ⟨g, 5, none⟩ = some f) : ∀ (j : Nat) (u : Value), ([a, b, c] ++ [d, e, f])[j]? = some u → w.cell? ⟨g, j, none⟩ = some u
  | 0, u, h => by injection h with h; rw [← h]; exact h0
  | 1, u, h => by injection h with h; rw [← h]; exact h1
  | 2, u, h => by injection h with h; rw [← h]; exact h2
  | 3, u, h => by injection h with h; rw [← h]; exact h3
  | 4, u, h => by injection h with h; rw [← h]; exact h4
  | 5, u, h => by injection h with h; rw [← h]; exact h5
  | j + 6, u, h => by cases h
theorem C_blk1 {α : Type} {d : Kd α} {w : World} {g : Nat} {t : TypeId} {x : α} (c : List Value) (hb : w.heap[g]? = some (.cells c.toArray t (0, 0))) (hK : d.K w x c) : d.C w (some ⟨g, 0, none⟩) 1 [x] :=
  C_blk (xs := [x]) [c] hb (by simp) rfl (by simp) (fun j y e h1 h2 => by
    cases j with
    | zero => injection h1 with h1; injection h2 with h2; subst h1 h2; exact hK
    | succ j => cases h1)
theorem C_blk2 {α : Type} {d : Kd α} {w : World} {g : Nat} {t : TypeId} {x x' : α} (c c' : List Value) (hb : w.heap[g]? = some (.cells (c ++ c').toArray t (0, 0))) (hK : d.K w x c) (hK' : d.K w x' c') : d.C w (some ⟨g, 0, none⟩) 2 [x, x'] :=
  C_blk (xs := [x, x']) [c, c'] hb (by simp) rfl (by simp) (fun j y e h1 h2 => by
    match j with
    | 0 => injection h1 with h1; injection h2 with h2; subst h1 h2; exact hK
    | 1 => injection h1 with h1; injection h2 with h2; subst h1 h2; exact hK'
    | j + 2 => cases h1)
theorem C_nil {α : Type} (d : Kd α) (w : World) : d.C w none 0 [] := ⟨rfl, by omega, fun h => absurd h (by omega)⟩
theorem term_exC (a0 a1 : Int) (A : Option Addr) (n c : Nat) (xs : List S44) (w : World) (hC : k44.C w A n xs) :
    Calls Try.prog 27 #[.int .i64 a0, .int .i64 a1, .slice A n c] w fun e w' => e = .returned (.agg #[.int .i64 a0, .int .i64 a1, .slice A n c]) ∧ k44.C w' A n xs ∧ Below w.heap.size w w' :=
  (term_ex a0 a1 A n c w).mono fun e w' h => ⟨h.1, Kd.C_below hC h.2, h.2⟩
theorem bcell {W w1 : World} (hb : Below W.heap.size W w1) : (∀ b o, b < W.heap.size → w1.cell? ⟨b, o, none⟩ = W.cell? ⟨b, o, none⟩) ∧ (∀ b o, b < W.heap.size → w1.frozen? ⟨b, o, none⟩ = W.frozen? ⟨b, o, none⟩) :=
  ⟨fun b o h => hb.cell (p := ⟨b, o, none⟩) h, fun b o h => hb.frozen (p := ⟨b, o, none⟩) h⟩
theorem blk_new1 (w : World) (o o' : Obj) : ((w.alloc o).alloc o').heap[w.heap.size + 1]? = some o' := by
  have h := blk_new (w.alloc o) o'
  have e : (w.alloc o).heap.size = w.heap.size + 1 := Array.size_push _
  rw [e] at h
  exact h
theorem cell_alloc_lt (w : World) (o : Obj) (b j : Nat) (h : b < w.heap.size) : (w.alloc o).cell? ⟨b, j, none⟩ = w.cell? ⟨b, j, none⟩ :=
  ((below_alloc (Below.refl w.heap.size w) o).cell (p := ⟨b, j, none⟩) h)
theorem cell_alloc_at (w : World) (cs : Array Value) (t : TypeId) (j : Nat) : (w.alloc (.cells cs t (0, 0))).cell? ⟨w.heap.size, j, none⟩ = cs[j]? := blk_cell (blk_new w _) j
theorem cell_alloc_at1 (w : World) (o : Obj) (cs : Array Value) (t : TypeId) (j : Nat) : ((w.alloc o).alloc (.cells cs t (0, 0))).cell? ⟨w.heap.size + 1, j, none⟩ = cs[j]? := blk_cell (blk_new1 w o _) j
theorem cell_set_far (w : World) (g i b j : Nat) (v : Value) (h : b ≠ g) : (w.setCell ⟨g, i, none⟩ v).cell? ⟨b, j, none⟩ = w.cell? ⟨b, j, none⟩ :=
  World.cell?_of_block (Below.heap_setCell w ⟨g, i, none⟩ v b h)
theorem cell_drew0 (w : World) (p : Addr) : w.drew.cell? p = w.cell? p := rfl
theorem cell_set3 {w : World} {g : Nat} {u0 u1 u2 : Value} (v0 v1 v2 : Value) (h0 : w.cell? ⟨g, 0, none⟩ = some u0) (h1 : w.cell? ⟨g, 1, none⟩ = some u1) (h2 : w.cell? ⟨g, 2, none⟩ = some u2) :
    (((w.setCell ⟨g, 0, none⟩ v0).setCell ⟨g, 1, none⟩ v1).setCell ⟨g, 2, none⟩ v2).cell? ⟨g, 0, none⟩ = some v0 ∧ (((w.setCell ⟨g, 0, none⟩ v0).setCell ⟨g, 1, none⟩ v1).setCell ⟨g, 2, none⟩ v2).cell? ⟨g, 1, none⟩ = some v1 ∧ (((w.setCell ⟨g, 0, none⟩ v0).setCell ⟨g, 1, none⟩ v1).setCell ⟨g, 2, none⟩ v2).cell? ⟨g, 2, none⟩ = some v2 := by
  have n01 : (⟨g, 0, none⟩ : Addr) ≠ ⟨g, 1, none⟩ := by simp
  have n02 : (⟨g, 0, none⟩ : Addr) ≠ ⟨g, 2, none⟩ := by simp
  have n12 : (⟨g, 1, none⟩ : Addr) ≠ ⟨g, 2, none⟩ := by simp
  refine ⟨?_, ?_, ?_⟩
  · rw [World.cell?_setCell_other (h := n02.symm), World.cell?_setCell_other (h := n01.symm)]
    exact World.cell?_setCell_same _ _ _ h0
  · rw [World.cell?_setCell_other (h := n12.symm)]
    exact World.cell?_setCell_same _ _ _ ((World.cell?_setCell_other _ _ _ _ n01).trans h1)
  · exact World.cell?_setCell_same _ _ _ ((World.cell?_setCell_other _ _ _ _ n12).trans ((World.cell?_setCell_other _ _ _ _ n02).trans h2))
theorem sorts_ex (k : Nat) (A0 : Option Addr) (n0 c0 : Nat) (l0 : List S59) (A1 : Option Addr) (n1 c1 : Nat) (l1 : List S48) (r1 : List S41) (r2 : Int) (w : World) (hn0 : l0.length = n0) (hn1 : l1.length = n1) (hr0 : Kd.C k59 w A0 n0 l0) (hc0 : n0 ≤ c0) (hr1 : Kd.C k48 w A1 n1 l1) (hc1 : n1 ≤ c1) (h : infer_Sorts.f k l0 l1 = some (r1, r2)) :
    Calls Try.prog 13 #[.slice A0 n0 c0, .slice A1 n1 c1] w fun e w' => ∃ (A : Option Addr) (c : Nat), e = .returned (.tuple #[.slice A r1.length c, .int .i64 r2]) ∧ k41.C w' A r1.length r1 ∧ Below w.heap.size w w' := by
  subst hn0 hn1
  refine (infer_Sorts.calls k A0 c0 l0 A1 c1 l1 r1 r2 w hr0 hc0 hr1 hc1 h).mono ?_
  rintro e w' ⟨v, rfl, hR, hb⟩
  obtain ⟨A, c, rfl⟩ := Kd.R_slice hR
  exact ⟨A, c, rfl, (Kd.R_reads' hR).2.2, hb⟩
theorem k41_at {w : World} {A : Option Addr} {n : Nat} {xs : List S41} (h : k41.C w A n xs) {i : Nat} {x : S41} (hx : xs[i]? = some x) : ∃ (ad : Addr) (A' : Option Addr) (c' : Nat), A = some ad ∧ w.cell? (ad.add i) = some (.slice A' x.f0.length c') ∧ k41.C w A' x.f0.length x.f0 := by
  have hl := (List.getElem?_eq_some_iff.1 hx).1
  obtain ⟨ad, c, e, hc, hk, hcc⟩ := Kd.C_get h ⟨[]⟩ (i : Int) (by omega) (by have := h.1; omega)
  rw [Int.toNat_natCast, List.getD_eq_getElem?_getD, hx] at hk
  obtain ⟨A', c', rfl, _, hC⟩ := k41_open hk
  refine ⟨ad, A', c', e, ?_, hC⟩
  have := hcc 0 _ rfl
  rw [Int.toNat_natCast] at this
  exact (congrArg w.cell? (congrArg ad.add (show i = i * (k41).sz + 0 from by show i = i * 1 + 0; omega))).trans this
theorem cell_up {w w1 : World} {p : Addr} {v : Value} (hb : Below w.heap.size w w1) (h : w.cell? p = some v) : w1.cell? p = some v := (hb.cell (World.block_lt_of_cell? w p h)).trans h
set_option maxHeartbeats 8000000 in
theorem alive_calls (w : World) : Calls Try.prog 9 #[] w fun e w' => e = .returned (.bool true) ∧ Below w.heap.size w w' := by
  have hu44 := Try.underlying44
  have hu48 := Try.underlying48
  have hu59 := Try.underlying59
  have hu41 := Try.underlying41
  go_enter Try.func9, Try.ntmps9
  go_upto_region 2 with (fail)
  have Hsy := Aside0.mk (blk_new w (.cells #[.string ⟨#[97]⟩, .int .i64 2, .string ⟨#[98]⟩, .int .i64 1, .string ⟨#[99]⟩, .int .i64 0] 59 (0, 0)))
  have HB1 := Aside0.mk (below_alloc (Below.refl w.heap.size w) (.cells #[.string ⟨#[97]⟩, .int .i64 2, .string ⟨#[98]⟩, .int .i64 1, .string ⟨#[99]⟩, .int .i64 0] 59 (0, 0)))
  generalize hgs : w.heap.size = gs at *
  generalize (w.alloc (.cells #[.string ⟨#[97]⟩, .int .i64 2, .string ⟨#[98]⟩, .int .i64 1, .string ⟨#[99]⟩, .int .i64 0] 59 (0, 0))) = w1 at *
  have Hgs := Aside0.mk hgs
  clear hgs
  go_wp2_with fail
  (with_reducible refine (term_ex 0 0 none 0 0 w1).mono ?_)
  rintro e w2 ⟨rfl, hb2⟩
  have HB2 := Aside0.mk hb2
  clear hb2
  go_upto_region 3 with (
    (with_reducible refine gate_dst (N := 2) rfl ?_)
    refine box_event ?hg (N := 2) ?hd (cs := #[.int .i64 0, .int .i64 0, .slice none 0 0]) (t := 44) ?hr ?_
    (case hd => rfl)
    (case hg => rfl)
    (case hr => first | (go_simp; done) | (go_simp; rfl))
    intro gx hgx w3 hbox hb3
    have hg := Nat.le_of_eq hgx.symm
    have HB3 := Aside0.mk (below_step HB2.out (below_set (g := gx) (j := 2) (v := .slice none 0 0) (below_set (g := gx) (j := 1) (v := .int .i64 0) (below_set (g := gx) (j := 0) (v := .int .i64 0) hb3 hg) hg) hg))
    have Hgx := Aside0.mk (blk_put (cs' := #[.int .i64 0, .int .i64 0, .slice none 0 0]) (blk_put (cs' := #[.int .i64 0, .int .i64 0, .slice none 0 0]) (blk_put (cs' := #[.int .i64 0, .int .i64 0, .slice none 0 0]) hbox 0 (.int .i64 0) rfl) 1 (.int .i64 0) rfl) 2 (.slice none 0 0) rfl)
    have hcz0 := (blk_cell hbox 0).trans rfl
    have hcz1 := (blk_cell hbox 1).trans rfl
    have hcz2 := (blk_cell hbox 2).trans rfl
    have hfz0 := blk_frozen hbox 0
    have hfz1 := blk_frozen hbox 1
    have hfz2 := blk_frozen hbox 2
    clear hbox hb3 hgx hg)
  clear hcz0 hcz1 hcz2 hfz0 hfz1 hfz2
  generalize ((w3.setCell { block := gx, off := 0 } (.int .i64 0)).setCell { block := gx, off := 1 } (.int .i64 0)).setCell { block := gx, off := 2 } (.slice none 0 0) = w4 at *
  have c0 : w4.cell? ⟨gx, 0, none⟩ = some (.int .i64 0) := (blk_cell Hgx.out 0).trans rfl
  have c1 : w4.cell? ⟨gx, 1, none⟩ = some (.int .i64 0) := (blk_cell Hgx.out 1).trans rfl
  have c2 : w4.cell? ⟨gx, 2, none⟩ = some (.slice none 0 0) := (blk_cell Hgx.out 2).trans rfl
  have HB4 := Aside0.mk HB3.out
  clear HB3 HB2
  go_cut [3] (fun v3 wc => ∃ (gb gA gB gC : Nat), v3 = .pointer (some ⟨gb, 0, none⟩) ∧ Aside0 (wc.cell? ⟨gb, 0, none⟩ = some (.int .i64 2)) ∧ Aside0 (wc.cell? ⟨gb, 1, none⟩ = some (.int .i64 0)) ∧ Aside0 (wc.cell? ⟨gb, 2, none⟩ = some (.slice (some ⟨gC, 0, none⟩) 2 2)) ∧ Aside0 (wc.cell? ⟨gA, 0, none⟩ = some (.int .i64 0)) ∧ Aside0 (wc.cell? ⟨gA, 1, none⟩ = some (.int .i64 0)) ∧ Aside0 (wc.cell? ⟨gA, 2, none⟩ = some (.slice none 0 0)) ∧ Aside0 (wc.cell? ⟨gB, 0, none⟩ = some (.int .i64 2)) ∧ Aside0 (wc.cell? ⟨gB, 1, none⟩ = some (.int .i64 1)) ∧ Aside0 (wc.cell? ⟨gB, 2, none⟩ = some (.slice (some ⟨gA, 0, none⟩) 1 1)) ∧ Aside0 (wc.cell? ⟨gC, 0, none⟩ = some (.int .i64 0)) ∧ Aside0 (wc.cell? ⟨gC, 1, none⟩ = some (.int .i64 0)) ∧ Aside0 (wc.cell? ⟨gC, 2, none⟩ = some (.slice none 0 0)) ∧ Aside0 (wc.cell? ⟨gC, 3, none⟩ = some (.int .i64 1)) ∧ Aside0 (wc.cell? ⟨gC, 4, none⟩ = some (.int .i64 1)) ∧ Aside0 (wc.cell? ⟨gC, 5, none⟩ = some (.slice (some ⟨gB, 0, none⟩) 1 1)) ∧ Aside0 (Below w4.heap.size w4 wc))
  case first =>
    have Hgxl := Aside0.mk (blk_lt Hgx.out)
    have m40 : w4.heap.size ≠ gx := by have := Hgxl.out; omega
    have m41 : w4.heap.size + 1 ≠ gx := by have := Hgxl.out; omega
    go_region_held3 (fun w' => w'.cell? ⟨gx, 0, none⟩ = some (.int .i64 0) ∧ w'.cell? ⟨gx, 1, none⟩ = some (.int .i64 0) ∧ w'.cell? ⟨gx, 2, none⟩ = some (.slice none 0 0)) (go_keep)
      (first
        | (go_at_call 27; (with_reducible refine (term_ex 2 1 _ _ _ _).mono ?_); rintro e wA ⟨rfl, hbA⟩; have a0 : wA.cell? ⟨gx, 0, none⟩ = some (.int .i64 0) := cell_up hbA (by go_keep); have a1 : wA.cell? ⟨gx, 1, none⟩ = some (.int .i64 0) := cell_up hbA (by go_keep); have a2 : wA.cell? ⟨gx, 2, none⟩ = some (.slice none 0 0) := cell_up hbA (by go_keep); have HbA := Aside0.mk (show Below w4.heap.size w4 wA from below_step (by repeat (first | (with_reducible first | exact Below.refl _ _ | apply below_alloc | apply pw_below_drewN | apply below_drew1) | exact Below.refl _ _)) hbA); have yA := hbA.size; simp at yA; have tA4 : w4.heap.size < wA.heap.size := (by omega); (try have uA4 : w4.heap.size + 1 < wA.heap.size := (by omega)); obtain ⟨zcA, zfA⟩ := bcell hbA; have mA0 : wA.heap.size ≠ gx := (by have := Hgxl.out; have := HbA.out.size; omega); have mA1 : wA.heap.size + 1 ≠ gx := (by have := Hgxl.out; have := HbA.out.size; omega); clear hbA)
        | (go_at_call 27; (with_reducible refine (term_ex 1 1 _ _ _ _).mono ?_); rintro e wB ⟨rfl, hbB⟩; have b0 : wB.cell? ⟨gx, 0, none⟩ = some (.int .i64 0) := cell_up hbB (by go_keep); have b1 : wB.cell? ⟨gx, 1, none⟩ = some (.int .i64 0) := cell_up hbB (by go_keep); have b2 : wB.cell? ⟨gx, 2, none⟩ = some (.slice none 0 0) := cell_up hbB (by go_keep); have HbB := Aside0.mk (show Below w4.heap.size w4 wB from below_step (by repeat (first | (with_reducible first | exact Below.refl _ _ | exact HbA.out | apply below_alloc | apply pw_below_drewN | apply below_drew1) | exact Below.refl _ _ | exact HbA.out)) hbB); have yB := hbB.size; simp at yB; have tB4 : w4.heap.size < wB.heap.size := (by omega); (try have uB4 : w4.heap.size + 1 < wB.heap.size := (by omega)); have tBA : wA.heap.size < wB.heap.size := (by omega); (try have uBA : wA.heap.size + 1 < wB.heap.size := (by omega)); obtain ⟨zcB, zfB⟩ := bcell hbB; have mB0 : wB.heap.size ≠ gx := (by have := Hgxl.out; have := HbB.out.size; omega); have mB1 : wB.heap.size + 1 ≠ gx := (by have := Hgxl.out; have := HbB.out.size; omega); clear hbB)
        | (go_at_call 27; (with_reducible refine (term_ex 2 0 _ _ _ _).mono ?_); rintro e wC ⟨rfl, hbC⟩; have c0 : wC.cell? ⟨gx, 0, none⟩ = some (.int .i64 0) := cell_up hbC (by go_keep); have c1 : wC.cell? ⟨gx, 1, none⟩ = some (.int .i64 0) := cell_up hbC (by go_keep); have c2 : wC.cell? ⟨gx, 2, none⟩ = some (.slice none 0 0) := cell_up hbC (by go_keep); have HbC := Aside0.mk (show Below w4.heap.size w4 wC from below_step (by repeat (first | (with_reducible first | exact Below.refl _ _ | exact HbA.out | exact HbB.out | apply below_alloc | apply pw_below_drewN | apply below_drew1) | exact Below.refl _ _ | exact HbA.out | exact HbB.out)) hbC); have yC := hbC.size; simp at yC; have tC4 : w4.heap.size < wC.heap.size := (by omega); (try have uC4 : w4.heap.size + 1 < wC.heap.size := (by omega)); have tCA : wA.heap.size < wC.heap.size := (by omega); (try have uCA : wA.heap.size + 1 < wC.heap.size := (by omega)); have tCB : wB.heap.size < wC.heap.size := (by omega); (try have uCB : wB.heap.size + 1 < wC.heap.size := (by omega)); obtain ⟨zcC, zfC⟩ := bcell hbC; have mC0 : wC.heap.size ≠ gx := (by have := Hgxl.out; have := HbC.out.size; omega); have mC1 : wC.heap.size + 1 ≠ gx := (by have := Hgxl.out; have := HbC.out.size; omega); clear hbC))
    all_goals go_wp2_with fail
    all_goals go_meet
    all_goals first
      | (refine ⟨_, w4.heap.size, wA.heap.size, wB.heap.size, rfl, ?_, ?_, ?_, ?_, ?_, ?_, ?_, ?_, ?_, ?_, ?_, ?_, ?_, ?_, ?_, ⟨(by repeat (first | (with_reducible first | exact HbC.out | apply below_alloc | apply pw_below_drewN | apply below_drew1 | refine below_set ?_ (by have := HbC.out.size; have := HbA.out.size; have := HbB.out.size; omega)) | exact HbC.out))⟩⟩ <;> (refine ⟨?_⟩; first | (go_simp; done) | (simp (disch := first | omega | (simp; omega)) only [zcC, zcB, zcA, cell_alloc_lt, cell_alloc_at, cell_alloc_at1, cell_set_far, cell_drew0]; first | done | rfl | (go_simp; done))))
      | (have G0 : wC.cell? ⟨wB.heap.size, 0, none⟩ = some (.int .i64 0) := (by simp (disch := first | omega | (simp; omega)) only [zcC, zcB, zcA, cell_alloc_lt, cell_alloc_at, cell_alloc_at1, cell_set_far, cell_drew0]; first | done | rfl | (go_simp; done)); have G1 : wC.cell? ⟨wB.heap.size, 1, none⟩ = some (.int .i64 0) := (by simp (disch := first | omega | (simp; omega)) only [zcC, zcB, zcA, cell_alloc_lt, cell_alloc_at, cell_alloc_at1, cell_set_far, cell_drew0]; first | done | rfl | (go_simp; done)); have G2 : wC.cell? ⟨wB.heap.size, 2, none⟩ = some (.slice none 0 0) := (by simp (disch := first | omega | (simp; omega)) only [zcC, zcB, zcA, cell_alloc_lt, cell_alloc_at, cell_alloc_at1, cell_set_far, cell_drew0]; first | done | rfl | (go_simp; done)); refine ⟨wB.heap.size, w4.heap.size, wA.heap.size, wB.heap.size + 1, rfl, ⟨(cell_set3 (.int .i64 2) (.int .i64 0) (.slice (some ⟨wB.heap.size + 1, 0, none⟩) 2 2) G0 G1 G2).1⟩, ⟨(cell_set3 (.int .i64 2) (.int .i64 0) (.slice (some ⟨wB.heap.size + 1, 0, none⟩) 2 2) G0 G1 G2).2.1⟩, ⟨(cell_set3 (.int .i64 2) (.int .i64 0) (.slice (some ⟨wB.heap.size + 1, 0, none⟩) 2 2) G0 G1 G2).2.2⟩, ?_, ?_, ?_, ?_, ?_, ?_, ?_, ?_, ?_, ?_, ?_, ?_, ⟨(by repeat (first | (with_reducible first | exact HbC.out | apply below_alloc | apply pw_below_drewN | apply below_drew1 | refine below_set ?_ (by have := HbC.out.size; have := HbA.out.size; have := HbB.out.size; omega)) | exact HbC.out))⟩⟩ <;> (refine ⟨?_⟩; first | (go_simp; done) | (simp (disch := first | omega | (simp; omega)) only [zcC, zcB, zcA, cell_alloc_lt, cell_alloc_at, cell_alloc_at1, cell_set_far, cell_drew0]; first | done | rfl | (go_simp; done))))
      | (have G0 : wC.cell? ⟨wA.heap.size, 0, none⟩ = some (.int .i64 0) := (by simp (disch := first | omega | (simp; omega)) only [zcC, zcB, zcA, cell_alloc_lt, cell_alloc_at, cell_alloc_at1, cell_set_far, cell_drew0]; first | done | rfl | (go_simp; done)); have G1 : wC.cell? ⟨wA.heap.size, 1, none⟩ = some (.int .i64 0) := (by simp (disch := first | omega | (simp; omega)) only [zcC, zcB, zcA, cell_alloc_lt, cell_alloc_at, cell_alloc_at1, cell_set_far, cell_drew0]; first | done | rfl | (go_simp; done)); have G2 : wC.cell? ⟨wA.heap.size, 2, none⟩ = some (.slice none 0 0) := (by simp (disch := first | omega | (simp; omega)) only [zcC, zcB, zcA, cell_alloc_lt, cell_alloc_at, cell_alloc_at1, cell_set_far, cell_drew0]; first | done | rfl | (go_simp; done)); refine ⟨wA.heap.size, w4.heap.size, wA.heap.size + 1, wB.heap.size, rfl, ⟨(cell_set3 (.int .i64 2) (.int .i64 0) (.slice (some ⟨wB.heap.size, 0, none⟩) 2 2) G0 G1 G2).1⟩, ⟨(cell_set3 (.int .i64 2) (.int .i64 0) (.slice (some ⟨wB.heap.size, 0, none⟩) 2 2) G0 G1 G2).2.1⟩, ⟨(cell_set3 (.int .i64 2) (.int .i64 0) (.slice (some ⟨wB.heap.size, 0, none⟩) 2 2) G0 G1 G2).2.2⟩, ?_, ?_, ?_, ?_, ?_, ?_, ?_, ?_, ?_, ?_, ?_, ?_, ⟨(by repeat (first | (with_reducible first | exact HbC.out | apply below_alloc | apply pw_below_drewN | apply below_drew1 | refine below_set ?_ (by have := HbC.out.size; have := HbA.out.size; have := HbB.out.size; omega)) | exact HbC.out))⟩⟩ <;> (refine ⟨?_⟩; first | (go_simp; done) | (simp (disch := first | omega | (simp; omega)) only [zcC, zcB, zcA, cell_alloc_lt, cell_alloc_at, cell_alloc_at1, cell_set_far, cell_drew0]; first | done | rfl | (go_simp; done))))
      | (have G0 : wC.cell? ⟨w4.heap.size, 0, none⟩ = some (.int .i64 0) := (by simp (disch := first | omega | (simp; omega)) only [zcC, zcB, zcA, cell_alloc_lt, cell_alloc_at, cell_alloc_at1, cell_set_far, cell_drew0]; first | done | rfl | (go_simp; done)); have G1 : wC.cell? ⟨w4.heap.size, 1, none⟩ = some (.int .i64 0) := (by simp (disch := first | omega | (simp; omega)) only [zcC, zcB, zcA, cell_alloc_lt, cell_alloc_at, cell_alloc_at1, cell_set_far, cell_drew0]; first | done | rfl | (go_simp; done)); have G2 : wC.cell? ⟨w4.heap.size, 2, none⟩ = some (.slice none 0 0) := (by simp (disch := first | omega | (simp; omega)) only [zcC, zcB, zcA, cell_alloc_lt, cell_alloc_at, cell_alloc_at1, cell_set_far, cell_drew0]; first | done | rfl | (go_simp; done)); refine ⟨w4.heap.size, w4.heap.size + 1, wA.heap.size, wB.heap.size, rfl, ⟨(cell_set3 (.int .i64 2) (.int .i64 0) (.slice (some ⟨wB.heap.size, 0, none⟩) 2 2) G0 G1 G2).1⟩, ⟨(cell_set3 (.int .i64 2) (.int .i64 0) (.slice (some ⟨wB.heap.size, 0, none⟩) 2 2) G0 G1 G2).2.1⟩, ⟨(cell_set3 (.int .i64 2) (.int .i64 0) (.slice (some ⟨wB.heap.size, 0, none⟩) 2 2) G0 G1 G2).2.2⟩, ?_, ?_, ?_, ?_, ?_, ?_, ?_, ?_, ?_, ?_, ?_, ?_, ⟨(by repeat (first | (with_reducible first | exact HbC.out | apply below_alloc | apply pw_below_drewN | apply below_drew1 | refine below_set ?_ (by have := HbC.out.size; have := HbA.out.size; have := HbB.out.size; omega)) | exact HbC.out))⟩⟩ <;> (refine ⟨?_⟩; first | (go_simp; done) | (simp (disch := first | omega | (simp; omega)) only [zcC, zcB, zcA, cell_alloc_lt, cell_alloc_at, cell_alloc_at1, cell_set_far, cell_drew0]; first | done | rfl | (go_simp; done))))
  case rest =>
    obtain ⟨gb, gA, gB, gC, rfl, B0, B1, B2, A0, A1, A2, D0, D1, D2, E0, E1, E2, E3, E4, E5, HBc⟩ := hcut
    have K0 := C_cel1 (d := k44) (x := x0) _ (cel3 A0.out A1.out A2.out) (k44_mk _ x0 (Nat.zero_le _) (C_nil k44 _))
    have K1 := C_cel1 (d := k44) (x := x1) _ (cel3 D0.out D1.out D2.out) (k44_mk _ x1 (Nat.le_refl _) K0)
    have K2 := C_cel2 (d := k44) (x := x0) (x' := x2) _ _ (cel6 E0.out E1.out E2.out E3.out E4.out E5.out) (k44_mk _ x0 (Nat.zero_le _) (C_nil k44 _)) (k44_mk _ x2 (Nat.le_refl _) K1)
    have HK2 := Aside0.mk K2
    have Hgxc := Aside0.mk (blk_below Hgx.out HBc.out)
    have HB5 := Aside0.mk (below_step HB4.out HBc.out)
    have Hsyc := Aside0.mk (C_blk3 (d := k59) (x := ⟨⟨#[97]⟩, 2⟩) (x' := ⟨⟨#[98]⟩, 1⟩) (x'' := ⟨⟨#[99]⟩, 0⟩) [.string ⟨#[97]⟩, .int .i64 2] [.string ⟨#[98]⟩, .int .i64 1] [.string ⟨#[99]⟩, .int .i64 0] Hsy.out (k59_mk _ _) (k59_mk _ _) (k59_mk _ _))
    have b0 := B0.out
    have b1 := B1.out
    have b2 := B2.out
    clear K0 K1 K2 c0 c1 c2 B0 B1 B2 A0 A1 A2 D0 D1 D2 E0 E1 E2 E3 E4 E5 Hgx HB4 HBc
    go_upto_region 4 with (fail)
    go_region_held3 (fun w' => w'.cell? ⟨gb, 0, none⟩ = some (.int .i64 2) ∧ w'.cell? ⟨gb, 1, none⟩ = some (.int .i64 0) ∧ w'.cell? ⟨gb, 2, none⟩ = some (.slice (some ⟨gC, 0, none⟩) 2 2)) (go_keep)
      (first
        | (go_at_call 27; (with_reducible refine (term_ex 2 2 _ _ _ _).mono ?_); rintro e wF ⟨rfl, hbF⟩; have f0 := cell_up hbF b0; have f1 := cell_up hbF b1; have f2 := cell_up hbF b2; have HbF := Aside0.mk (show Below wc.heap.size wc wF from below_step (below_drew (Below.refl _ _)) hbF); clear hbF)
        | (go_at_call 27; (with_reducible refine (term_ex 1 1 _ _ _ _).mono ?_); rintro e wG ⟨rfl, hbG⟩; have g0 := cell_up hbG ((cell_alloc_lt _ _ _ _ (World.block_lt_of_cell? _ _ f0)).trans f0); have g1 := cell_up hbG ((cell_alloc_lt _ _ _ _ (World.block_lt_of_cell? _ _ f1)).trans f1); have g2 := cell_up hbG ((cell_alloc_lt _ _ _ _ (World.block_lt_of_cell? _ _ f2)).trans f2); have HCG := Aside0.mk (Kd.C_below (C_blk1 (d := k44) (x := xc) [.int .i64 2, .int .i64 2, .slice none 0 0] (blk_new wF _) (k44_mk _ xc (Nat.zero_le _) (C_nil k44 _))) hbG); have HbG := Aside0.mk (show Below wc.heap.size wc wG from below_step (below_alloc HbF.out _) hbG); clear hbG)
        | (go_at_call 13; (with_reducible refine (sorts_ex 40 _ 3 3 exSyms _ 2 2 ex1 _ 0 _ rfl rfl (Kd.C_below Hsyc.out (below_alloc (below_step HB5.out HbG.out) _)) (by omega) (C_blk2 (d := k48) (x := ⟨⟨#[115]⟩, 0, ⟨1, 1, [xc]⟩⟩) (x' := ⟨⟨#[102]⟩, 1, x3⟩) [.string ⟨#[115]⟩, .int .i64 0, .int .i64 1, .int .i64 1, .slice (some ⟨wF.heap.size, 0, none⟩) 1 1] [.string ⟨#[102]⟩, .int .i64 1, .int .i64 2, .int .i64 0, .slice (some ⟨gC, 0, none⟩) 2 2] (blk_new wG _) (k48_mk _ _ (Nat.le_refl _) (Kd.C_below HCG.out (below_alloc (Below.refl _ _) _))) (k48_mk _ _ (Nat.le_refl _) (Kd.C_below HK2.out (below_alloc HbG.out _)))) (by omega) ev1).mono ?_); rintro e wS ⟨A4, c4, rfl, hC4, hbS⟩; have s0 := cell_up hbS ((cell_alloc_lt _ _ _ _ (World.block_lt_of_cell? _ _ g0)).trans g0); have s1 := cell_up hbS ((cell_alloc_lt _ _ _ _ (World.block_lt_of_cell? _ _ g1)).trans g1); have s2 := cell_up hbS ((cell_alloc_lt _ _ _ _ (World.block_lt_of_cell? _ _ g2)).trans g2); have HbS := Aside0.mk (show Below wc.heap.size wc wS from below_step (below_alloc HbG.out _) hbS); have HC4 := Aside0.mk hC4; clear hbS hC4))
    clear f0 f1 f2 g0 g1 g2 s0 s1 s2 b0 b1 b2
    have HB6 := Aside0.mk (below_step HB5.out HbS.out)
    have Hgxs := Aside0.mk (blk_below Hgxc.out HbS.out)
    clear HB5 HbS HbF HbG HCG HK2 Hgxc
    go_upto_region 5 with (fail)
    go_cut [6, 7] (fun v6 v7 wd => ∃ (A6 : Option Addr) (c6 : Nat), v6 = .slice A6 0 c6 ∧ v7 = .int .i64 6 ∧ Aside0 (Below wS.heap.size wS wd))
    case first =>
      have b0 : wS.cell? ⟨gx, 0, none⟩ = some (.int .i64 0) := (blk_cell Hgxs.out 0).trans rfl
      have b1 : wS.cell? ⟨gx, 1, none⟩ = some (.int .i64 0) := (blk_cell Hgxs.out 1).trans rfl
      have b2 : wS.cell? ⟨gx, 2, none⟩ = some (.slice none 0 0) := (blk_cell Hgxs.out 2).trans rfl
      go_region_held3 (fun w' => w'.cell? ⟨gx, 0, none⟩ = some (.int .i64 0) ∧ w'.cell? ⟨gx, 1, none⟩ = some (.int .i64 0) ∧ w'.cell? ⟨gx, 2, none⟩ = some (.slice none 0 0)) (go_keep)
        (first
          | (go_at_call 27; (with_reducible refine (term_ex 2 2 _ _ _ _).mono ?_); rintro e wF ⟨rfl, hbF⟩; have f0 := cell_up hbF (by first | exact b0 | exact ((cell_alloc_lt _ _ _ _ (World.block_lt_of_cell? _ _ b0)).trans b0)); have f1 := cell_up hbF (by first | exact b1 | exact ((cell_alloc_lt _ _ _ _ (World.block_lt_of_cell? _ _ b1)).trans b1)); have f2 := cell_up hbF (by first | exact b2 | exact ((cell_alloc_lt _ _ _ _ (World.block_lt_of_cell? _ _ b2)).trans b2)); have HF := Aside0.mk (show Below wS.heap.size wS wF from below_step (by repeat (first | (with_reducible first | exact Below.refl _ _ | apply below_alloc | apply pw_below_drewN | apply below_drew1) | exact Below.refl _ _)) hbF); have HbF := Aside0.mk hbF; clear hbF)
          | (go_at_call 27; (with_reducible refine (term_ex 0 0 _ _ _ _).mono ?_); rintro e wG ⟨rfl, hbG⟩; have g0 := cell_up hbG (by first | exact f0 | exact ((cell_alloc_lt _ _ _ _ (World.block_lt_of_cell? _ _ f0)).trans f0)); have g1 := cell_up hbG (by first | exact f1 | exact ((cell_alloc_lt _ _ _ _ (World.block_lt_of_cell? _ _ f1)).trans f1)); have g2 := cell_up hbG (by first | exact f2 | exact ((cell_alloc_lt _ _ _ _ (World.block_lt_of_cell? _ _ f2)).trans f2)); have HG := Aside0.mk (show Below wS.heap.size wS wG from below_step (by repeat (first | (with_reducible first | exact Below.refl _ _ | exact HF.out | apply below_alloc | apply pw_below_drewN | apply below_drew1) | exact Below.refl _ _)) hbG); (first | have HCG := Aside0.mk (Kd.C_below (C_blk1 (d := k44) (x := x0) [.int .i64 0, .int .i64 0, .slice none 0 0] (blk_new wF _) (k44_mk _ x0 (Nat.zero_le _) (C_nil k44 _))) hbG) | have HCG := Aside0.mk (Kd.C_below (Kd.C_below (C_blk1 (d := k44) (x := x0) [.int .i64 0, .int .i64 0, .slice none 0 0] (blk_drew (blk_new wS _)) (k44_mk _ x0 (Nat.zero_le _) (C_nil k44 _))) HbF.out) hbG) | have HCG := Aside0.mk (Kd.C_below (Kd.C_below (C_blk1 (d := k44) (x := x0) [.int .i64 0, .int .i64 0, .slice none 0 0] (blk_new wS.drew _) (k44_mk _ x0 (Nat.zero_le _) (C_nil k44 _))) HbF.out) hbG)); clear hbG)
          | (go_at_call 13; (with_reducible refine (sorts_ex 40 _ 3 3 exSyms _ 2 2 ex2 _ 6 _ rfl rfl (Kd.C_below Hsyc.out (below_alloc (below_step HB6.out HG.out) _)) (by omega) (C_blk2 (d := k48) (x := ⟨⟨#[115]⟩, 0, xc⟩) (x' := ⟨⟨#[102]⟩, 1, ⟨0, 0, [x0]⟩⟩) [.string ⟨#[115]⟩, .int .i64 0, .int .i64 2, .int .i64 2, .slice none 0 0] [.string ⟨#[102]⟩, .int .i64 1, .int .i64 0, .int .i64 0, .slice (some ⟨_, 0, none⟩) 1 1] (blk_new wG _) (k48_mk _ _ (Nat.zero_le _) (C_nil k44 _)) (k48_mk _ ⟨⟨#[102]⟩, 1, ⟨0, 0, [x0]⟩⟩ (Nat.le_refl _) (Kd.C_below HCG.out (below_alloc (Below.refl _ _) _)))) (by omega) ev2).mono ?_); rintro e wT ⟨A6, c6, rfl, hC6, hbT⟩; have t0 := cell_up hbT (by first | exact g0 | exact ((cell_alloc_lt _ _ _ _ (World.block_lt_of_cell? _ _ g0)).trans g0)); have t1 := cell_up hbT (by first | exact g1 | exact ((cell_alloc_lt _ _ _ _ (World.block_lt_of_cell? _ _ g1)).trans g1)); have t2 := cell_up hbT (by first | exact g2 | exact ((cell_alloc_lt _ _ _ _ (World.block_lt_of_cell? _ _ g2)).trans g2)); have HT := Aside0.mk (show Below wS.heap.size wS wT from below_step (below_alloc HG.out _) hbT); clear hbT hC6))
      all_goals go_wp2_with fail
      all_goals go_meet
      all_goals (case rel => exact ⟨A6, c6, rfl, rfl, HT⟩)
    case rest =>
      obtain ⟨A6, c6, rfl, rfl, HBd⟩ := hcut
      have HB7 := Aside0.mk (below_step HB6.out HBd.out)
      have Hgxd := Aside0.mk (blk_below Hgxs.out HBd.out)
      have HC4d := Aside0.mk (Kd.C_below HC4.out HBd.out)
      clear HB6 HBd Hgxs HC4
      generalize wc = wd at *
      go_upto_region 6 with (fail)
      have b0 : wd.cell? ⟨gx, 0, none⟩ = some (.int .i64 0) := (blk_cell Hgxd.out 0).trans rfl
      have b1 : wd.cell? ⟨gx, 1, none⟩ = some (.int .i64 0) := (blk_cell Hgxd.out 1).trans rfl
      have b2 : wd.cell? ⟨gx, 2, none⟩ = some (.slice none 0 0) := (blk_cell Hgxd.out 2).trans rfl
      go_region_held3 (fun w' => w'.cell? ⟨gx, 0, none⟩ = some (.int .i64 0) ∧ w'.cell? ⟨gx, 1, none⟩ = some (.int .i64 0) ∧ w'.cell? ⟨gx, 2, none⟩ = some (.slice none 0 0)) (go_keep)
        (first
          | (go_at_call 27; (with_reducible refine (term_ex 2 2 _ _ _ _).mono ?_); rintro e wF ⟨rfl, hbF⟩; have f0 := cell_up hbF (by first | exact b0 | exact ((cell_alloc_lt _ _ _ _ (World.block_lt_of_cell? _ _ b0)).trans b0)); have f1 := cell_up hbF (by first | exact b1 | exact ((cell_alloc_lt _ _ _ _ (World.block_lt_of_cell? _ _ b1)).trans b1)); have f2 := cell_up hbF (by first | exact b2 | exact ((cell_alloc_lt _ _ _ _ (World.block_lt_of_cell? _ _ b2)).trans b2)); have HF := Aside0.mk (show Below wd.heap.size wd wF from below_step (by repeat (first | (with_reducible first | exact Below.refl _ _ | apply below_alloc | apply pw_below_drewN | apply below_drew1) | exact Below.refl _ _)) hbF); clear hbF)
          | (go_at_call 13; (with_reducible refine (sorts_ex 40 _ 3 3 exSyms _ 2 2 ex3 _ 0 _ rfl rfl (Kd.C_below Hsyc.out (below_alloc (below_step HB7.out HF.out) _)) (by omega) (C_blk2 (d := k48) (x := ⟨⟨#[115]⟩, 0, xc⟩) (x' := ⟨⟨#[107]⟩, 2, x0⟩) [.string ⟨#[115]⟩, .int .i64 0, .int .i64 2, .int .i64 2, .slice none 0 0] [.string ⟨#[107]⟩, .int .i64 2, .int .i64 0, .int .i64 0, .slice none 0 0] (blk_new wF _) (k48_mk _ _ (Nat.zero_le _) (C_nil k44 _)) (k48_mk _ ⟨⟨#[107]⟩, 2, x0⟩ (Nat.zero_le _) (C_nil k44 _))) (by omega) ev3).mono ?_); rintro e wU ⟨A8, c8, rfl, hC8, hbU⟩; have q0 := cell_up hbU (by first | exact f0 | exact ((cell_alloc_lt _ _ _ _ (World.block_lt_of_cell? _ _ f0)).trans f0)); have q1 := cell_up hbU (by first | exact f1 | exact ((cell_alloc_lt _ _ _ _ (World.block_lt_of_cell? _ _ f1)).trans f1)); have q2 := cell_up hbU (by first | exact f2 | exact ((cell_alloc_lt _ _ _ _ (World.block_lt_of_cell? _ _ f2)).trans f2)); have HU := Aside0.mk (show Below wd.heap.size wd wU from below_step (below_alloc HF.out _) hbU); have HC8 := Aside0.mk hC8; clear hbU hC8))
      have HB8 := Aside0.mk (below_step HB7.out HU.out)
      have HC4u := Aside0.mk (Kd.C_below HC4d.out HU.out)
      clear b0 b1 b2 f0 f1 f2 q0 q1 q2 HB7 HC4d HU HF Hgxd
      obtain ⟨ad4, Aa, ca, e4, hz0, _⟩ := k41_at (i := 0) (x := ⟨[]⟩) HC4u.out rfl
      obtain ⟨ad4', Ab, cb, e4', hz1, hCb⟩ := k41_at (i := 1) (x := ⟨[⟨[]⟩]⟩) HC4u.out rfl
      rw [e4] at e4'
      injection e4' with e4'
      subst e4' e4
      obtain ⟨adb, Ac, cc, eb, hz2, _⟩ := k41_at (i := 0) (x := ⟨[]⟩) hCb rfl
      subst eb
      obtain ⟨ad8, Ad, cd, e8, hz3, _⟩ := k41_at (i := 1) (x := ⟨[⟨[]⟩, ⟨[]⟩]⟩) HC8.out rfl
      subst e8
      clear hCb HC8 HC4u
      simp only [List.length_cons, List.length_nil, Nat.zero_add, Nat.reduceAdd] at hz0 hz1 hz2 hz3
      have hfin := Aside0.mk (show Below w.heap.size w wU from by
        have h1 := HB1.out
        have h2 := HB8.out
        have e := Hgs.out
        rw [← e] at h1
        exact below_step h1 h2)
      have add0 : ∀ a : Addr, a.add 0 = a := fun a => by unfold Addr.add; split <;> simp_all
      rw [add0] at hz0 hz2
      clear add0
      simp only [Addr.add] at hz1 hz3
      simp at hz1 hz3
      go_wp2_with fail
      go_ret
      exact ⟨rfl, hfin.out⟩
def virgationlaw04_alive.f : Option Bool := some true
theorem virgationlaw04_alive.calls (r : Bool) (w : World) (h : virgationlaw04_alive.f = some r) :
    Calls Try.prog 9 #[] w fun e w' => e = .returned (.bool r) ∧ Below w.heap.size w w' := by
  injection h with h
  subst h
  exact alive_calls w
end Go.Proofs.Ytfhgoebgnilfaaa.I
