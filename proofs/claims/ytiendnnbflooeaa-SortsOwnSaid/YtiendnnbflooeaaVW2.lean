/- Contract of the law's turn, by hand: it changes nothing but the memory of what it is handed. -/
import Derived.Test.YtiendnnbflooeaaVW1
namespace Go.Proofs.Ytiendnnbflooeaa.V
open Go.RowKit Go.Proofs.YtiendnnbflooeaaW.PrintWords Go.Proofs.YtiendnnbflooeaaW.PrintLast Go.Proofs.YtiendnnbflooeaaW.PrintMore
attribute [local go_sem] max2_int min2_int max_two min_two max_three min_three max_four min_four
set_option linter.unusedVariables false
set_option linter.unusedSimpArgs false
/-- All blocks but some, and the new ones, are as they were. -/
structure Turned (ok : Nat → Prop) (w w' : World) : Prop where
  os : w'.os = w.os
  tape : w'.tape = w.tape
  output : w'.output = w.output
  size : w.heap.size ≤ w'.heap.size
  block : ∀ k, k < w.heap.size → ¬ ok k → w'.heap[k]? = w.heap[k]?
theorem Turned.refl (ok : Nat → Prop) (w : World) : Turned ok w w := ⟨rfl, rfl, rfl, Nat.le_refl _, fun _ _ _ => rfl⟩
theorem Turned.trans {ok ok' : Nat → Prop} {w w1 w2 : World} (h : Turned ok w w1) (k : Turned ok' w1 w2) (ho : ∀ k, ok' k → k < w.heap.size → ok k) : Turned ok w w2 :=
  ⟨k.os.trans h.os, k.tape.trans h.tape, k.output.trans h.output, Nat.le_trans h.size k.size, fun j hj hn => (k.block j (Nat.lt_of_lt_of_le hj h.size) (fun h2 => hn (ho j h2 hj))).trans (h.block j hj hn)⟩
theorem Turned.of_below {ok : Nat → Prop} {w w1 : World} (h : Below w.heap.size w w1) : Turned ok w w1 := ⟨h.os, h.tape, h.output, h.size, fun k hk _ => h.block k hk⟩
theorem Turned.set {ok : Nat → Prop} {w w1 : World} (h : Turned ok w w1) (g j : Nat) (u : Value) (hg : ok g) : Turned ok w (w1.setCell ⟨g, j, none⟩ u) :=
  ⟨h.os, h.tape, h.output, by simpa [World.setCell] using h.size, fun k hk hn => (Below.heap_setCell w1 ⟨g, j, none⟩ u k (fun e => hn (by simp only at e; rw [e]; exact hg))).trans (h.block k hk hn)⟩
theorem Turned.below {ok : Nat → Prop} {w0 w w1 : World} {B : Nat} (h : Turned ok w w1) (hB : Below B w0 w) (hb : B ≤ w.heap.size) (ho : ∀ k, ok k → B ≤ k) : Below B w0 w1 :=
  ⟨h.os.trans hB.os, h.tape.trans hB.tape, h.output.trans hB.output, Nat.le_trans hB.size h.size, fun k hk => (h.block k (Nat.lt_of_lt_of_le hk hb) (fun h2 => by have := ho k h2; omega)).trans (hB.block k hk)⟩
/-- The elements from i on are as they came. -/
def Live (N : Nat) (l : List S24) (g : Nat) (base : Nat) (ok : Nat → Prop) (f : Nat → Nat) (i : Nat) (w : World) : Prop :=
  ∃ cur, w.heap[g]? = some (.cells cur 24 (0, 0)) ∧ ∀ j, i ≤ j → j < l.length → ∃ u, cur[j]? = some u ∧ (u24 N).M w base (fun k => (ok k ∧ k ≠ g) ∧ f k = j) (rd_T24 l (j : Int)) [u]
theorem u24_sz : ∀ N, (u24 N).sz = 1
  | 0 => rfl
  | _ + 1 => rfl
theorem live_of {N : Nat} {l : List S24} {g c base : Nat} {w : World} {ok : Nat → Prop} (h : Kd.S (u24 N) 24 w base ok (.slice (some ⟨g, 0, none⟩) l.length c) l) : ok g ∧ ∃ f, Live N l g base ok f 0 w := by
  obtain ⟨f, h0, inner, ho, hr⟩ := h
  refine ⟨h0 g (by simp [Value.ownBlock]), f, ?_⟩
  have hsz : (Kd.tag f (u24 N)).sz = 1 := u24_sz N
  rw [hsz] at ho hr
  rcases ho.2 with ⟨hv, _⟩ | ⟨g', cap, cur, hv, hg, hh, hn, hcap, hcs, htk⟩
  · cases hv
  · injection hv with ha _ _
    injection ha with ha
    injection ha with ha
    subst ha
    refine ⟨cur, hh, fun j _ hj => ?_⟩
    have hjl : l[j]? = some (l.getD j z24) := by rw [List.getD_eq_getElem?_getD, List.getElem?_eq_getElem hj]; rfl
    have hM := hr.2 j (l.getD j z24, j) (Kd.zip_at hjl)
    have hlz : l.zipIdx.length = l.length := List.length_zipIdx
    have hcl : j < cur.toList.length := by rw [Array.length_toList]; omega
    have hseg : (inner.drop (j * 1)).take 1 = [cur.toList[j]] := by
      rw [← htk, Nat.mul_one, hlz, Nat.mul_one, List.drop_take, List.take_take]
      rw [List.drop_eq_getElem_cons hcl, show min 1 (l.length - j) = 1 from by omega]
      rfl
    rw [hseg] at hM
    refine ⟨cur.toList[j], by rw [← Array.getElem?_toList, List.getElem?_eq_getElem hcl], ?_⟩
    have e : rd_T24 l (j : Int) = l.getD j z24 := by unfold rd_T24; rw [Int.toNat_natCast]
    rw [e]
    exact (u24 N).M_mono (fun k hk => ⟨⟨hk.1.1, fun he => hk.1.2 (by simp [Value.ownBlock, he])⟩, hk.2⟩) hM
theorem live_move {N : Nat} {l : List S24} {g base i i' : Nat} {ok : Nat → Prop} {f : Nat → Nat} {w w1 : World} (h : Live N l g base ok f i w) (hi : i ≤ i')
    (hm : ∀ k, k < w.heap.size → ok k → k ≠ g → i' ≤ f k → w1.heap[k]? = w.heap[k]?)
    (hg : ∀ cur, w.heap[g]? = some (.cells cur 24 (0, 0)) → ∃ cur', w1.heap[g]? = some (.cells cur' 24 (0, 0)) ∧ ∀ j, i' ≤ j → cur'[j]? = cur[j]?) : Live N l g base ok f i' w1 := by
  obtain ⟨cur, hc, hl⟩ := h
  obtain ⟨cur', hc', hs⟩ := hg cur hc
  refine ⟨cur', hc', fun j h1 h2 => ?_⟩
  obtain ⟨u, hu, hM⟩ := hl j (by omega) h2
  refine ⟨u, (hs j h1).trans hu, ?_⟩
  have hM2 := (u24 N).M_move (w1 := w1) (fun k hk => hm k hk.2.2.1 hk.1.1.1 hk.1.1.2 (by have := hk.1.2; omega)) ((u24 N).M_bound hM)
  exact (u24 N).M_mono (fun k hk => hk.1) hM2
theorem live_cell {N : Nat} {l : List S24} {g base i : Nat} {ok : Nat → Prop} {f : Nat → Nat} {w : World} (h : Live N l g base ok f i w) (hi : i < l.length) :
    ∃ n u, N = n + 1 ∧ w.cell? ⟨g, i, none⟩ = some u ∧ Kd.S (u24 n) 24 w base (fun k => (ok k ∧ k ≠ g) ∧ f k = i) u (rd_T24 l (i : Int)).f0 := by
  obtain ⟨cur, hc, hl⟩ := h
  obtain ⟨u, hu, hM⟩ := hl i (Nat.le_refl _) hi
  cases N with
  | zero => exact hM.elim
  | succ n =>
    obtain ⟨v, hv, hS⟩ := hM
    injection hv with hv _
    subst hv
    exact ⟨n, u, rfl, (blk_cell hc i).trans hu, hS⟩
theorem live_frozen {N : Nat} {l : List S24} {g base i : Nat} {ok : Nat → Prop} {f : Nat → Nat} {w : World} (h : Live N l g base ok f i w) (j : Nat) : w.frozen? ⟨g, j, none⟩ = false := by
  obtain ⟨cur, hc, _⟩ := h
  exact blk_frozen hc j
theorem live_alloc {N : Nat} {l : List S24} {g base i : Nat} {ok : Nat → Prop} {f : Nat → Nat} {w : World} (h : Live N l g base ok f i w) (o : Obj) : Live N l g base ok f i (w.alloc o) :=
  live_move h (Nat.le_refl _) (fun k hk _ _ _ => Below.heap_alloc w o k hk) (fun cur hc => ⟨cur, blk_alloc hc o, fun _ _ => rfl⟩)
theorem live_set {N : Nat} {l : List S24} {g base i : Nat} {ok : Nat → Prop} {f : Nat → Nat} {w : World} (h : Live N l g base ok f (i + 1) w) (u : Value) : Live N l g base ok f (i + 1) (w.setCell ⟨g, i, none⟩ u) := by
  refine live_move h (Nat.le_refl _) (fun k hk _ hne _ => Below.heap_setCell w ⟨g, i, none⟩ u k hne) (fun cur hc => ⟨cur.setIfInBounds i u, blk_set hc i u, fun j hj => ?_⟩)
  rw [Array.getElem?_setIfInBounds]
  rw [if_neg (by omega)]
set_option maxHeartbeats 4000000 in
theorem turn_calls (N : Nat) : ∀ (l : List S24) (v : Value) (base : Nat) (ok : Nat → Prop) (w : World) (hS : Kd.S (u24 N) 24 w base ok v l),
    Calls Try.prog 28 #[v] w fun e w' => e = .returned (.tuple #[]) ∧ Turned ok w w' := by
  induction N using Nat.strongRecOn with
  | _ N ih =>
  intro l v base ok w hS
  have hu24 := Try.underlying24
  obtain ⟨A, c, rfl⟩ := Kd.S_slice hS
  have IH := Aside0.mk ih
  clear ih
  by_cases hz : 0 < l.length
  · obtain ⟨g, cap, hv, hgb, hgs, _⟩ := Kd.S_form hS hz
    injection hv with hA _ hcap
    subst hA hcap
    obtain ⟨hokg, f, hL⟩ := live_of hS
    have hlen : l.length ≤ 9223372036854775807 := (Kd.S_reads' hS).2.2.2.1
    have HL := Aside0.mk hL
    have Hokg := Aside0.mk hokg
    clear hS hL hokg hgb
    go_enter Try.func28, Try.ntmps28
    go_wp2_with fail
    go_loopg [5] l.length (fun kq v5 wr => ∃ (i : Nat), v5 = .int .i64 (i : Int) ∧ Aside0 (kq + i = l.length) ∧ Aside0 (Live N l g base ok f i wr) ∧ Aside0 (Turned ok w wr))
    case atStart => exact ⟨0, rfl, ⟨by omega⟩, HL, ⟨Turned.refl _ _⟩⟩
    case round =>
      clear HL
      obtain ⟨i, rfl, Hi, HL, HT⟩ := hrel
      have hi : i ≤ l.length := by have := Hi.out; omega
      by_cases hlt : i < l.length
      · obtain ⟨n, u, hNn, hcu, hSu⟩ := live_cell HL.out hlt
        obtain ⟨A1, c1, rfl⟩ := Kd.S_slice hSu
        have HSu := Aside0.mk hSu
        have HNn := Aside0.mk hNn
        clear hSu hNn
        have p1 : (0 ≤ (i : Int)) = True := eq_true (by omega)
        have p2 : ((i : Int) < (l.length : Int)) = True := eq_true (by omega)
        have p3 : (i < l.length) = True := eq_true (by omega)
        generalize hx : rd_T24 l (i : Int) = x at *
        clear hx
        go_wp2_with fail
        (with_reducible refine (IH.out n (by have := HNn.out; omega) x.f0 _ base _ wr HSu.out).mono ?_)
        rintro e w1 ⟨rfl, hT1⟩
        have HL1 := Aside0.mk (live_move HL.out (Nat.le_succ i) (fun k hk ho hne hf => hT1.block k hk (fun h2 => by have := h2.2; omega)) (fun cur hc => ⟨cur, (hT1.block g (blk_lt hc) (fun h2 => h2.1.2 rfl)).trans hc, fun _ _ => rfl⟩))
        have hcu1 : w1.cell? ⟨g, i, none⟩ = some (.slice A1 x.f0.length c1) := by
          obtain ⟨cur, hc, _⟩ := HL.out
          exact (World.cell?_of_block (hT1.block g (blk_lt hc) (fun h2 => h2.1.2 rfl))).trans hcu
        have HT1 := Aside0.mk (Turned.trans HT.out hT1 (fun k hk _ => hk.1.1))
        clear hT1 HL HT HSu hcu
        by_cases hxz : x.f0.length = 0
        · have hz1 : ((x.f0.length : Int) == 0) = true := beq_iff_eq.2 (by omega)
          have HL2 := Aside0.mk (live_alloc HL1.out (.cells #[.slice none 0 0] 24 (0, 0)))
          have HT2 := Aside0.mk (Turned.trans HT1.out (Turned.of_below (ok := ok) (below_alloc (Below.refl _ _) (.cells #[.slice none 0 0] 24 (0, 0)))) (fun k hk _ => hk))
          have hcu2 : (w1.alloc (.cells #[.slice none 0 0] 24 (0, 0))).cell? ⟨g, i, none⟩ = some (.slice A1 x.f0.length c1) := by
            obtain ⟨cur, hc, _⟩ := HL1.out
            exact (World.cell?_of_block (Below.heap_alloc w1 _ g (blk_lt hc))).trans hcu1
          have hfu2 := live_frozen HL2.out i
          clear hxz
          go_wp2_with fail
          have hk := Hi.out
          obtain ⟨k1, rfl⟩ : ∃ k1, gk = k1 + 1 := ⟨gk - 1, by omega⟩
          go_roundg k1
          case measure => omega
          case rel => exact ⟨i + 1, by go_num, ⟨by omega⟩, ⟨live_set HL2.out _⟩, ⟨Turned.set HT2.out g i _ Hokg.out⟩⟩
        · have hz1 : ((x.f0.length : Int) == 0) = false := beq_eq_false_iff_ne.2 (by omega)
          have hfu1 := live_frozen HL1.out i
          clear hxz
          go_wp2_with fail
          have hk := Hi.out
          obtain ⟨k1, rfl⟩ : ∃ k1, gk = k1 + 1 := ⟨gk - 1, by omega⟩
          go_roundg k1
          case measure => omega
          case rel => exact ⟨i + 1, by go_num, ⟨by omega⟩, ⟨live_set HL1.out _⟩, ⟨Turned.set HT1.out g i _ Hokg.out⟩⟩
      · have hie : i = l.length := by omega
        go_wp2_with fail
        go_end0
        exact ⟨rfl, HT.out⟩
  · have hz0 : l.length = 0 := by omega
    rw [hz0]
    clear hS hz hz0
    go_enter Try.func28, Try.ntmps28
    go_wp2_with fail
    go_loopg [5] 0 (fun kq v5 wr => v5 = .int .i64 0 ∧ wr = w)
    case atStart => exact ⟨rfl, rfl⟩
    case round =>
      obtain ⟨rfl, rfl⟩ := hrel
      go_wp2_with fail
      go_end0
      exact ⟨rfl, Turned.refl _ _⟩
end Go.Proofs.Ytiendnnbflooeaa.V
