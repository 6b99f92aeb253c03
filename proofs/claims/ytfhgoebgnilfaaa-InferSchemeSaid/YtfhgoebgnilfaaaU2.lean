/- Texts of this session's proof, laid together: IK4, IK5, IH1, IH3, IK6, IM, IN, IH4, IH5, IH6, IH2, IK7. -/
import Derived.Maps.OwnOps
import Derived.Maps.Views
import Derived.Carry
import Derived.Maps.OwnSet
import Derived.Test.YtfhgoebgnilfaaaU1
namespace Go.Proofs.Ytfhgoebgnilfaaa.I
open Go.RowKit Go.Proofs.YtfhgoebgnilfaaaW.PrintWords Go.Proofs.YtfhgoebgnilfaaaW.PrintLast Go.Proofs.YtfhgoebgnilfaaaW.PrintMore
attribute [local go_sem] max2_int min2_int max_two min_two max_three min_three max_four min_four
set_option linter.unusedVariables false
set_option maxRecDepth 100000
set_option linter.unusedSimpArgs false
theorem bk_app {ad e : List Nat} {i : Nat} (h : i < ad.length) : bk (ad ++ e) i = bk ad i := by
  unfold bk
  rw [List.getD_eq_getElem?_getD, List.getD_eq_getElem?_getD, List.getElem?_append_left h]
theorem pv_app {ad e : List Nat} {o : Option Nat} (h : inS ad.length o) : pv (ad ++ e) o = pv ad o := by
  cases o with
  | none => rfl
  | some j => show pk (ad ++ e) j = pk ad j; unfold pk; rw [bk_app (h j rfl)]
theorem Held.push {B : Nat} {s : List KN} {ad : List Nat} {w w1 : World} {g : Nat} {n : KN} (h : Held B s ad w) (hb : Below w.heap.size w w1) (hg : w.heap.size ≤ g) (hB : B ≤ w.heap.size) (hn : inS s.length n.lk ∧ inS s.length n.fr ∧ inS s.length n.tk)
    (hc : w1.heap[g]? = some (.cells (kcells ad n) 74 (0, 0))) : Held B (s ++ [n]) (ad ++ [g]) w1 := by
  have hl := h.len
  have up : ∀ o, inS s.length o → inS (s ++ [n]).length o := fun o ho j hj => by rw [List.length_append]; have := ho j hj; simp only [List.length_cons, List.length_nil]; omega
  refine ⟨by rw [List.length_append, List.length_append, hl]; rfl, ?_, ?_, ?_, ?_⟩
  · rw [List.nodup_append]
    refine ⟨h.nodup, by simp, ?_⟩
    intro a ha b hb' e
    rw [List.mem_singleton] at hb'
    subst hb' e
    obtain ⟨i, hi, e⟩ := List.getElem_of_mem ha
    obtain ⟨m, _, hm⟩ := h.at (i := i) (by rw [← hl]; exact hi)
    have := blk_lt hm
    unfold bk at this
    rw [List.getD_eq_getElem?_getD, List.getElem?_eq_getElem hi] at this
    simp only [Option.getD_some] at this
    omega
  · intro b hb'
    rcases List.mem_append.1 hb' with h1 | h1
    · exact h.ge b h1
    · rw [List.mem_singleton] at h1; omega
  · intro i m hm
    by_cases hi : i < s.length
    · rw [List.getElem?_append_left hi] at hm
      have ho := h.ok i m hm
      rw [← hl] at ho
      rw [bk_app (by omega)]
      have e : kcells (ad ++ [g]) m = kcells ad m := by unfold kcells; rw [pv_app ho.1, pv_app ho.2.1, pv_app ho.2.2]
      rw [e]
      exact blk_below (h.cell i m hm) hb
    · have hil : i < (s ++ [n]).length := (List.getElem?_eq_some_iff.1 hm).1
      rw [List.length_append] at hil
      simp only [List.length_cons, List.length_nil] at hil
      have hie : i = s.length := by omega
      subst hie
      rw [List.getElem?_append_right (Nat.le_refl _), Nat.sub_self] at hm
      injection hm with hm
      subst hm
      have e : bk (ad ++ [g]) s.length = g := by
        unfold bk
        rw [List.getD_eq_getElem?_getD, ← hl, List.getElem?_append_right (Nat.le_refl _), Nat.sub_self]
        rfl
      rw [e]
      rw [← hl] at hn
      have e2 : kcells (ad ++ [g]) n = kcells ad n := by unfold kcells; rw [pv_app hn.1, pv_app hn.2.1, pv_app hn.2.2]
      rw [e2]
      exact hc
  · intro i m hm
    by_cases hi : i < s.length
    · rw [List.getElem?_append_left hi] at hm
      have ho := h.ok i m hm
      exact ⟨up _ ho.1, up _ ho.2.1, up _ ho.2.2⟩
    · have hil : i < (s ++ [n]).length := (List.getElem?_eq_some_iff.1 hm).1
      rw [List.length_append] at hil
      simp only [List.length_cons, List.length_nil] at hil
      have hie : i = s.length := by omega
      subst hie
      rw [List.getElem?_append_right (Nat.le_refl _), Nat.sub_self] at hm
      injection hm with hm
      subst hm
      exact ⟨up _ hn.1, up _ hn.2.1, up _ hn.2.2⟩
theorem bk_new {ad : List Nat} {s : List KN} {g : Nat} (hl : ad.length = s.length) : bk (ad ++ [g]) s.length = g := by
  unfold bk
  rw [List.getD_eq_getElem?_getD, ← hl, List.getElem?_append_right (Nat.le_refl _), Nat.sub_self]
  rfl
def Ptrs (ad : List Nat) (w : World) (A : Option Addr) (ps : List Nat) : Prop :=
  ps.length ≤ 9223372036854775807 ∧ (∀ p, p ∈ ps → p < ad.length) ∧ (0 < ps.length → ∃ adr, A = some adr ∧ ∀ (j : Nat) (p : Nat), ps[j]? = some p → w.cell? (adr.add j) = some (pk ad p))
def farrowR : List KN → Nat → List Nat → Nat × List KN
  | s, k, [] => (k, s)
  | s, k, p :: rest => farrowR (s ++ [⟨none, false, some p, some k⟩]) s.length rest
def farrow (s : List KN) (o : Nat) (ps : List Nat) : Nat × List KN := farrowR s o ps.reverse
set_option maxHeartbeats 4000000 in
theorem arrow_calls (B : Nat) (s : List KN) (ad : List Nat) (o : Nat) (A : Option Addr) (c : Nat) (ps : List Nat) (gf : Nat) (v1 v2 v3 : Value) (w : World) (hH : Held B s ad w) (ho : o < s.length) (hB : B ≤ w.heap.size) (hP : Ptrs ad w A ps)
    (hf : w.heap[gf]? = some (.cells #[pk ad o, v1, v2, v3] 77 (0, 0))) :
    Calls Try.prog 37 #[.pointer (some ⟨gf, 0, none⟩), .slice A ps.length c] w fun e w' => ∃ ad', e = .returned (pk (ad ++ ad') (farrow s o ps).1) ∧ Held B (farrow s o ps).2 (ad ++ ad') w' ∧ Below w.heap.size w w' ∧ (farrow s o ps).1 < (farrow s o ps).2.length ∧ ∀ b, b ∈ ad' → w.heap.size ≤ b := by
  have hu74 := Try.underlying74
  have hu77 := Try.underlying77
  have hlen := hP.1
  have HH := Aside0.mk hH
  have HO := Aside0.mk ho
  have HBB := Aside0.mk hB
  have HP := Aside0.mk hP
  have hc0 : w.cell? ⟨gf, 0, none⟩ = some (pk ad o) := (blk_cell hf 0).trans rfl
  have HL := Aside0.mk hH.len
  clear hH ho hB hP hf
  go_enter Try.func37, Try.ntmps37
  go_wp2_with fail
  go_loopg [5, 6] ps.length (fun kq v5 v6 wr => ∃ (m : Nat) (s1 : List KN) (e1 : List Nat) (k : Nat), v5 = pk (ad ++ e1) k ∧ v6 = .int .i64 ((m : Int) - 1) ∧ Aside0 (kq = m ∧ m ≤ ps.length) ∧ Aside0 (farrowR s1 k (ps.take m).reverse = farrow s o ps) ∧ Aside0 (Held B s1 (ad ++ e1) wr) ∧ Aside0 (k < s1.length ∧ s.length ≤ s1.length) ∧ Aside0 (Below w.heap.size w wr) ∧ Aside0 (∀ b, b ∈ e1 → w.heap.size ≤ b))
  case atStart => exact ⟨ps.length, s, [], o, by rw [List.append_nil], by go_num, ⟨rfl, Nat.le_refl _⟩, ⟨by rw [List.take_length]; rfl⟩, ⟨by rw [List.append_nil]; exact HH.out⟩, ⟨HO.out, Nat.le_refl _⟩, ⟨Below.refl _ _⟩, ⟨by intro b hb; cases hb⟩⟩
  case round =>
    obtain ⟨m, s1, e1, k, rfl, rfl, Hm, HF, H1, HK, HB, HN1⟩ := hrel
    cases m with
    | zero =>
      have hj : decide ((0 : Int) ≤ ((0 : Nat) : Int) - 1) = false := by decide
      have e := HF.out
      rw [List.take_zero, List.reverse_nil, farrowR] at e
      have e' := Aside0.mk e
      clear e
      go_wp2_with fail
      go_ret
      exact ⟨e1, by rw [← e'.out]; rfl, by rw [← e'.out]; exact H1.out, HB.out, by rw [← e'.out]; exact HK.out.1, HN1.out⟩
    | succ m =>
      have hmle := Hm.out.2
      have hmi : m < ps.length := by omega
      have hpm := Aside0.mk (List.getElem?_eq_getElem hmi)
      have htk : (ps.take (m + 1)).reverse = ps[m] :: (ps.take m).reverse := by
        rw [List.take_add_one, List.getElem?_eq_getElem hmi]
        simp
      have HT := Aside0.mk htk
      have hpl := HP.out.2.1 ps[m] (List.getElem_mem hmi)
      obtain ⟨adr, hadr, hcells⟩ := HP.out.2.2 (by omega)
      cases hadr
      have hx1 := hcells m ps[m] hpm.out
      replace hx1 := (HB.out.cell (World.block_lt_of_cell? w _ hx1)).trans hx1
      have hfo := (HB.out.cell (World.block_lt_of_cell? w _ hc0)).trans hc0
      generalize hp : ps[m] = p at *
      have hml := HL.out
      have hppe : pk (ad ++ e1) p = pk ad p := by unfold pk; rw [bk_app hpl]
      have Hpp := Aside0.mk hppe
      have hj : decide ((0 : Int) ≤ (m : Int)) = true := decide_eq_true (by omega)
      have p1 : (0 ≤ (m : Int)) = True := eq_true (by omega)
      have p2 : ((m : Int) < (ps.length : Int)) = True := eq_true (by omega)
      have p3 : (m < ps.length) = True := eq_true hmi
      rw [show (((m + 1 : Nat) : Int) - 1) = (m : Int) from by omega]
      clear hcells htk hp hppe hpm
      go_wp2_with (
        (with_reducible refine gate_dst (N := 24) rfl ?_)
        refine box_event ?hg (N := 24) ?hd (cs := #[.pointer none, .bool false, pk ad p, pk (ad ++ e1) k]) (t := 74) ?hr ?_
        (case hd => rfl)
        (case hg => rfl)
        (case hr => first | (go_simp; done) | (go_simp; rfl))
        intro g hg w3 hbox hb3
        have hsz := HB.out.size
        have H3 := Aside0.mk (Held.push (n := ⟨none, false, some p, some k⟩) H1.out hb3 (Nat.le_of_eq hg.symm) (Nat.le_trans HBB.out hsz) ⟨(by intro j hj; cases hj), (by intro j hj; injection hj with hj; have := HK.out.2; omega), (by intro j hj; injection hj with hj; have := HK.out.1; omega)⟩ (by rw [hbox]; unfold kcells; show _ = some (Obj.cells #[.pointer none, .bool false, pk (ad ++ e1) p, pk (ad ++ e1) k] 74 (0, 0)); rw [Hpp.out]))
        have HB3 := Aside0.mk (below_step HB.out hb3)
        have HN3 := Aside0.mk (show ∀ b, b ∈ e1 ++ [g] → w.heap.size ≤ b from fun b hb => by
          rcases List.mem_append.1 hb with hb | hb
          · exact HN1.out b hb
          · rw [List.mem_singleton] at hb; omega)
        have hbn := Aside0.mk (show bk (ad ++ e1 ++ [g]) s1.length = g from bk_new H1.out.len)
        clear hbox hb3 hsz hg)
      have hgk := Hm.out.1
      go_roundg m
      case measure => omega
      case rel => exact ⟨m, s1 ++ [⟨none, false, some p, some k⟩], e1 ++ [g], s1.length, by rw [← List.append_assoc]; unfold pk; rw [hbn.out], by go_num, ⟨rfl, by omega⟩, ⟨by rw [← HF.out, HT.out, farrowR]⟩, ⟨by rw [← List.append_assoc]; exact H3.out⟩, ⟨by rw [List.length_append]; simp, by rw [List.length_append]; have := HK.out.2; omega⟩, HB3, HN3⟩
end Go.Proofs.Ytfhgoebgnilfaaa.I
namespace Go.Proofs.Ytfhgoebgnilfaaa.I
open Go.RowKit Go.Proofs.YtfhgoebgnilfaaaW.PrintWords Go.Proofs.YtfhgoebgnilfaaaW.PrintLast Go.Proofs.YtfhgoebgnilfaaaW.PrintMore
attribute [local go_sem] max2_int min2_int max_two min_two max_three min_three max_four min_four
set_option linter.unusedVariables false
set_option maxRecDepth 100000
set_option linter.unusedSimpArgs false
mutual
/-- The sort of a kind; none inside: it has too many nodes. -/
def fshown (s : List KN) : Nat → Nat → Int → Option (Option (List S41) × Int)
  | 0, _, _ => none
  | f + 1, i, left => if left - 1 < 0 then some (none, left - 1) else match fend s f i with
    | none => none
    | some r => fshownL s f r [] (left - 1)
def fshownL (s : List KN) : Nat → Nat → List S41 → Int → Option (Option (List S41) × Int)
  | 0, _, _, _ => none
  | f + 1, r, acc, left => match s[r]? with
    | none => none
    | some n => match n.fr with
      | none => some (some acc, left)
      | some a => match fshown s f a left with
        | none => none
        | some (none, l1) => some (none, l1)
        | some (some x, l1) => if acc.length < 5864062014805 then (match n.tk with
          | none => none
          | some t => match fend s f t with
            | none => none
            | some r2 => fshownL s f r2 (acc ++ [⟨x⟩]) l1) else none
end
theorem fshown_bd (s : List KN) : ∀ (f : Nat), (∀ i left o l1, fshown s f i left = some (o, l1) → l1 ≤ left ∧ (0 ≤ left → -1 ≤ l1 ∧ (∀ x, o = some x → 0 ≤ l1))) ∧ (∀ r acc left o l1, fshownL s f r acc left = some (o, l1) → l1 ≤ left ∧ (0 ≤ left → -1 ≤ l1 ∧ (∀ x, o = some x → 0 ≤ l1)))
  | 0 => ⟨fun i left o l1 h => by simp [fshown] at h, fun r acc left o l1 h => by simp [fshownL] at h⟩
  | f + 1 => by
    obtain ⟨ih1, ih2⟩ := fshown_bd s f
    refine ⟨fun i left o l1 h => ?_, fun r acc left o l1 h => ?_⟩
    · unfold fshown at h
      by_cases h0 : left - 1 < 0
      · rw [if_pos h0] at h
        injection h with h
        injection h with h2 h
        exact ⟨by omega, fun hz => ⟨by omega, fun x hx => by rw [← h2] at hx; cases hx⟩⟩
      · rw [if_neg h0] at h
        cases hr : fend s f i with
        | none => rw [hr] at h; cases h
        | some r =>
          rw [hr] at h
          have := ih2 r [] (left - 1) o l1 h
          exact ⟨by omega, fun hz => this.2 (by omega)⟩
    · unfold fshownL at h
      cases hn : s[r]? with
      | none => rw [hn] at h; cases h
      | some n =>
        rw [hn] at h
        simp only at h
        cases hf : n.fr with
        | none =>
          rw [hf] at h
          injection h with h
          injection h with _ h
          exact ⟨by omega, fun hz => ⟨by omega, fun _ _ => by omega⟩⟩
        | some a =>
          rw [hf] at h
          simp only at h
          cases hs : fshown s f a left with
          | none => rw [hs] at h; cases h
          | some q =>
            obtain ⟨o2, l2⟩ := q
            have b1 := ih1 a left o2 l2 hs
            rw [hs] at h
            cases o2 with
            | none =>
              injection h with h
              injection h with h2 h
              exact ⟨by omega, fun hz => ⟨by have := (b1.2 hz).1; omega, fun x hx => by rw [← h2] at hx; cases hx⟩⟩
            | some x =>
              simp only at h
              by_cases hl : acc.length < 5864062014805
              · rw [if_pos hl] at h
                cases ht : n.tk with
                | none => rw [ht] at h; cases h
                | some t =>
                  rw [ht] at h
                  simp only at h
                  cases hr : fend s f t with
                  | none => rw [hr] at h; cases h
                  | some r2 =>
                    rw [hr] at h
                    have b2 := ih2 r2 _ l2 o l1 h
                    exact ⟨by omega, fun hz => b2.2 ((b1.2 hz).2 x rfl)⟩
              · rw [if_neg hl] at h; cases h
def HoldI5 (p : Prop) : Prop := p
theorem holdI5 {p : Prop} (h : HoldI5 p) : p := h
theorem Held.keep {B : Nat} {s : List KN} {ad : List Nat} {w w1 : World} {g : Nat} (h : Held B s ad w) (hk : KeepBut w w1 g none) (hg : g ∉ ad) : Held B s ad w1 :=
  ⟨h.len, h.nodup, h.ge, fun i n hn => KeepBut.blk hk (h.cell i n hn) (fun e => hg (by rw [← e]; exact bk_mem h (List.getElem?_eq_some_iff.1 hn).1)) (by simp), h.ok⟩
set_option maxHeartbeats 8000000 in
theorem shown_calls (B : Nat) (s : List KN) (ad : List Nat) (f : Nat) : ∀ (i gl : Nat) (left l' : Int) (o : Option (List S41)) (w0 w : World) (hH : Held B s ad w) (hga : gl ∉ ad) (h : fshown s f i left = some (o, l')) (hg : w0.heap.size ≤ gl) (hB : Below w0.heap.size w0 w)
    (hb : w.heap[gl]? = some (.cells #[.int .i64 left] 3 (0, 0))) (hl : 0 ≤ left) (hl2 : left ≤ 1000),
    Calls Try.prog 40 #[pk ad i, .pointer (some ⟨gl, 0, none⟩)] w fun e w' => ∃ v, e = .returned (.tuple #[.agg #[v], .bool o.isSome]) ∧ (∃ A n c, v = .slice A n c) ∧ (∀ l, o = some l → Kd.R k41 41 w' w.heap.size (fun _ => True) v l) ∧ Below w0.heap.size w0 w' ∧ KeepBut w w' gl none ∧ w'.heap[gl]? = some (.cells #[.int .i64 l'] 3 (0, 0)) := by
  induction f using Nat.strongRecOn with
  | _ f ih =>
  intro i gl left l' o w0 w hH hga h hg hB hb hl hl2
  have hu41 := Try.underlying41
  cases f with
  | zero => exact absurd h (by simp [fshown])
  | succ f =>
  have HH := Aside0.mk hH
  have HGA := Aside0.mk hga
  have HG := Aside0.mk hg
  have HB := Aside0.mk hB
  have Hb := Aside0.mk hb
  have IH := Aside0.mk ih
  have hgl := blk_lt hb
  unfold fshown at h
  have H := Aside0.mk h
  clear hH hga hg hB hb ih h
  go_enter Try.func40, Try.ntmps40
  go_wp2_with (first
   | ((with_reducible refine gate_dst (N := 4) rfl ?_)
      refine box_event ?hg (N := 4) ?hd (cs := #[.slice none 0 0]) (t := 41) ?hr ?_
      (case hd => rfl)
      (case hg => rfl)
      (case hr => first | (go_simp; done) | (go_simp; rfl))
      intro g4 hg4 w2 hbox hb2
      have Sb2 := Aside0.mk (blk_below Hb.out hb2)
      have S42 := Aside0.mk hbox
      have HB2 := Aside0.mk (below_step HB.out hb2)
      have HK2 := Aside0.mk (KeepBut.of_below hb2 gl none)
      have hn4 : g4 ≠ gl := by omega
      have hw4 : w.heap.size ≤ g4 := by omega
      have hl4 := blk_lt hbox
      clear hbox hb2 hg4)
   | ((with_reducible refine gate_dst (N := 6) rfl ?_)
      refine box_event ?hg (N := 6) ?hd (cs := #[.slice none 0 0]) (t := 41) ?hr ?_
      (case hd => rfl)
      (case hg => rfl)
      (case hr => first | (go_simp; done) | (go_simp; rfl))
      intro g6 hg6 w3 hbox hb3
      have hn6 : g6 ≠ gl := by have := blk_lt Sb2.out; omega
      have hn64 : g6 ≠ g4 := by omega
      have hw6 : w.heap.size ≤ g6 := by omega
      have Sb3 := Aside0.mk (blk_put (cs' := #[.int .i64 (left - 1)]) (blk_below Sb2.out hb3) 0 (.int .i64 (left - 1)) rfl)
      have S43 := Aside0.mk (blk_far (p := ⟨gl, 0, none⟩) (blk_below S42.out hb3) hn4 (.int .i64 (left - 1)))
      have S63 := Aside0.mk (blk_far (p := ⟨gl, 0, none⟩) hbox hn6 (.int .i64 (left - 1)))
      have HB3 := Aside0.mk (below_set (g := gl) (j := 0) (v := .int .i64 (left - 1)) (below_step HB2.out hb3) HG.out)
      have HK3 := Aside0.mk (KeepBut.set_ (KeepBut.trans HK2.out (KeepBut.of_below hb3 gl none) (.inl rfl)) 0 (.int .i64 (left - 1)))
      have hcl : w3.cell? ⟨gl, 0, none⟩ = some (.int .i64 left) := (blk_cell (blk_below Sb2.out hb3) 0).trans rfl
      have hfl := blk_frozen (blk_below Sb2.out hb3) 0
      have hcl2 : (w3.setCell ⟨gl, 0, none⟩ (.int .i64 (left - 1))).cell? ⟨gl, 0, none⟩ = some (.int .i64 (left - 1)) := (blk_cell Sb3.out 0).trans rfl
      have hc6 : (w3.setCell ⟨gl, 0, none⟩ (.int .i64 (left - 1))).cell? ⟨g6, 0, none⟩ = some (.slice none 0 0) := (blk_cell S63.out 0).trans rfl
      have hc4 : (w3.setCell ⟨gl, 0, none⟩ (.int .i64 (left - 1))).cell? ⟨g4, 0, none⟩ = some (.slice none 0 0) := (blk_cell S43.out 0).trans rfl
      have hf4 := blk_frozen S43.out 0
      clear hbox hb3 hg6 Sb2 S42 HB2 HK2))
  · have hneg : left - 1 < 0 := by first | assumption | omega
    have h := H.out
    rw [if_pos hneg] at h
    injection h with h
    injection h with e1 e2
    subst e1 e2
    refine bodyPost_ret (results_ct rfl _ _ g4 41 #[.slice none 0 0] (0, 0) _ rfl (blk_put (cs' := #[.slice none 0 0]) S43.out 0 (.slice none 0 0) rfl) Try.underlying41 rfl (by kernel_rfl)) rfl ?_
    exact ⟨_, rfl, ⟨_, _, _, rfl⟩, (fun l hl => by cases hl), below_set (g := g4) (j := 0) HB3.out (Nat.le_trans HB.out.size hw4), keep_far (p := ⟨g4, 0, none⟩) HK3.out hw4 _, blk_far (p := ⟨g4, 0, none⟩) Sb3.out (Ne.symm hn4) _⟩
  · have hneg : ¬ (left - 1 < 0) := by first | assumption | omega
    have h := H.out
    rw [if_neg hneg] at h
    cases hr : fend s f i with
    | none => rw [hr] at h; cases h
    | some r0 =>
    rw [hr] at h
    simp only at h
    have HE := Aside0.mk hr
    have HF := Aside0.mk h
    have hH3 := Held.keep HH.out HK3.out HGA.out
    have H3 := Aside0.mk hH3
    have hsz0 := HB.out.size
    clear h H hr hcl hfl hcl2 hc6 hc4 hf4 HB Hb hH3
    (with_reducible refine (kend_calls B s ad f i r0 _ H3.out HE.out).mono ?_)
    rintro e w4 ⟨rfl, rfl⟩
    go_wp2_with fail
    go_loopg [0] f (fun kq v0 wr => ∃ (r : Nat) (acc : List S41) (v : Value) (lf : Int), v0 = pk ad r ∧ Aside0 (kq ≤ f) ∧ Aside0 (fshownL s kq r acc lf = some (o, l')) ∧ Aside0 (0 ≤ lf ∧ lf ≤ 1000) ∧ Aside0 (wr.heap[gl]? = some (.cells #[.int .i64 lf] 3 (0, 0))) ∧ Aside0 (wr.heap[g4]? = some (.cells #[.slice none 0 0] 41 (0, 0))) ∧ Aside0 (wr.heap[g6]? = some (.cells #[v] 41 (0, 0))) ∧ Aside0 (Kd.R k41 41 wr w.heap.size (fun k => k ≠ gl ∧ k ≠ g4 ∧ k ≠ g6) v acc) ∧ Aside0 (Below w0.heap.size w0 wr) ∧ Aside0 (KeepBut w wr gl none))
    case atStart => exact ⟨r0, [], .slice none 0 0, left - 1, rfl, ⟨Nat.le_refl _⟩, HF, ⟨by omega⟩, Sb3, S43, S63, ⟨Kd.R_nil _ _ _ _ _⟩, HB3, HK3⟩
    case round =>
      clear HF Sb3 S43 S63 HB3 HK3 H3 HE hneg
      obtain ⟨r, acc, v, lf, rfl, Hk, HF, Hlf, Sb, S4, S6, HO, HB, HK⟩ := hrel
      have hf := HF.out
      cases gk with
      | zero => exact absurd hf (by simp [fshownL])
      | succ k1 =>
      unfold fshownL at hf
      cases hn : s[r]? with
      | none => rw [hn] at hf; cases hf
      | some n =>
      rw [hn] at hf
      simp only at hf
      have hHr := Held.keep HH.out HK.out HGA.out
      have Hr := Aside0.mk hHr
      have hcr := hHr.cell r n hn
      have hcr2 : wr.cell? ⟨bk ad r, 2, none⟩ = some (pv ad n.fr) := (blk_cell hcr 2).trans rfl
      have Hn := Aside0.mk hn
      obtain ⟨A1, c1, e1⟩ := Kd.R_slice HO.out
      subst e1
      have hc6 : wr.cell? ⟨g6, 0, none⟩ = some (.slice A1 acc.length c1) := (blk_cell S6.out 0).trans rfl
      have hc4 : wr.cell? ⟨g4, 0, none⟩ = some (.slice none 0 0) := (blk_cell S4.out 0).trans rfl
      have hf4 := blk_frozen S4.out 0
      clear hHr hcr hn HF
      cases hfr : n.fr with
      | none =>
        rw [hfr] at hf hcr2
        injection hf with hf
        injection hf with e1 e2
        subst e1 e2
        simp only [pv] at hcr2
        clear hfr
        go_wp2_with fail
        refine bodyPost_ret (results_ct rfl _ _ g4 41 #[.slice A1 acc.length c1] (0, 0) _ rfl (blk_put (cs' := #[.slice A1 acc.length c1]) S4.out 0 (.slice A1 acc.length c1) rfl) Try.underlying41 rfl (by kernel_rfl)) rfl ?_
        exact ⟨_, rfl, ⟨_, _, _, rfl⟩, (fun l hl => by injection hl with hl; subst hl; exact Kd.R_mono (Kd.R_far (p := ⟨g4, 0, none⟩) HO.out (fun k hk => hk.2.1) _) (fun _ _ => trivial)), below_set (g := g4) (j := 0) HB.out (Nat.le_trans hsz0 hw4), keep_far (p := ⟨g4, 0, none⟩) HK.out hw4 _, blk_far (p := ⟨g4, 0, none⟩) Sb.out (Ne.symm hn4) _⟩
      | some a =>
        rw [hfr] at hf hcr2
        simp only at hf
        simp only [pv, pk] at hcr2
        cases hsh : fshown s k1 a lf with
        | none => rw [hsh] at hf; cases hf
        | some q =>
        obtain ⟨o2, l2⟩ := q
        rw [hsh] at hf
        have hbd := (fshown_bd s k1).1 a lf o2 l2 hsh
        have HS := Aside0.mk hsh
        have Hfr := Aside0.mk hfr
        clear hsh hfr
        go_wp2_with fail
        (with_reducible refine (IH.out k1 (by have := Hk.out; omega) a gl lf l2 o2 w0 wr Hr.out HGA.out HS.out HG.out HB.out Sb.out Hlf.out.1 Hlf.out.2).mono ?_)
        rintro e w5 ⟨v1, rfl, ⟨Av, nv, cv, rfl⟩, hv, hB5, hK5, hb5⟩
        have HV := Aside0.mk hv
        have HB5 := Aside0.mk hB5
        have Sb5 := Aside0.mk hb5
        have S45 := Aside0.mk (KeepBut.blk hK5 S4.out hn4 (by simp))
        have S65 := Aside0.mk (KeepBut.blk hK5 S6.out hn6 (by simp))
        have HO5 := Aside0.mk (Kd.R_keep HO.out hK5 (fun k hk => hk.1))
        have HK5 := Aside0.mk (KeepBut.trans HK.out hK5 (.inl rfl))
        have hszr := HK.out.1
        have Hlr := Aside0.mk (Kd.R_lt HO.out)
        have hlr4 := blk_lt S4.out
        have hlr6 := blk_lt S6.out
        have hlrb := blk_lt Sb.out
        clear hv hB5 hK5 hb5 Sb S4 S6 HO HB HK hc6 hc4 hf4 hcr2
        cases o2 with
        | none =>
          injection hf with hf
          injection hf with e1 e2
          subst e1 e2
          go_wp2_with (
            (with_reducible refine gate_dst (N := 7) rfl ?_)
            refine box_event ?hg (N := 7) ?hd (cs := #[.slice none 0 0]) (t := 41) ?hr ?_
            (case hd => rfl)
            (case hg => rfl)
            (case hr => first | (go_simp; done) | (go_simp; rfl))
            intro g7 hg7 w6 hbox hb6
            have hBw := below_set (j := 0) (v := .slice Av nv cv) hb6 (show w5.heap.size ≤ g7 by omega)
            have Sb6 := Aside0.mk (blk_below Sb5.out hBw)
            have S46 := Aside0.mk (blk_below S45.out hBw)
            have S66 := Aside0.mk (blk_below S65.out hBw)
            have HB6 := Aside0.mk (below_step HB5.out hBw)
            have HK6 := Aside0.mk (KeepBut.trans HK5.out (KeepBut.of_below hBw gl none) (.inl rfl))
            have hcz := (blk_cell hbox 0).trans rfl
            have hfz := blk_frozen hbox 0
            have hc6 : (w6.setCell ⟨g7, 0, none⟩ (.slice Av nv cv)).cell? ⟨g6, 0, none⟩ = some (.slice A1 acc.length c1) := (blk_cell S66.out 0).trans rfl
            have hc4 : (w6.setCell ⟨g7, 0, none⟩ (.slice Av nv cv)).cell? ⟨g4, 0, none⟩ = some (.slice none 0 0) := (blk_cell S46.out 0).trans rfl
            have hf4 := blk_frozen S46.out 0
            clear hbox hb6 hg7 hBw Sb5 S45 S65 HB5 HK5)
          refine bodyPost_ret (results_ct rfl _ _ g4 41 #[.slice A1 acc.length c1] (0, 0) _ rfl (blk_put (cs' := #[.slice A1 acc.length c1]) S46.out 0 (.slice A1 acc.length c1) rfl) Try.underlying41 rfl (by kernel_rfl)) rfl ?_
          exact ⟨_, rfl, ⟨_, _, _, rfl⟩, (fun l hl => by cases hl), below_set (g := g4) (j := 0) HB6.out (Nat.le_trans hsz0 hw4), keep_far (p := ⟨g4, 0, none⟩) HK6.out hw4 _, blk_far (p := ⟨g4, 0, none⟩) Sb6.out (Ne.symm hn4) _⟩
        | some x =>
          simp only at hf
          have hx1 := HV.out x rfl
          have hnv := (Kd.R_reads' hx1).1
          subst hnv
          have HN5 := Aside0.mk (Kd.R_mono (Kd.R_lower (Kd.R_new' (Kd.R_bound hx1) Hlr.out) hszr) (ok' := fun k => (k ≠ gl ∧ k ≠ g4 ∧ k ≠ g6) ∧ some k ≠ (Value.slice A1 acc.length c1).ownBlock) (fun k hk => by
            have h4 := hk.1.2.1
            exact ⟨⟨by omega, by omega, by omega⟩, hk.2⟩))
          by_cases hlm : acc.length < 5864062014805
          · rw [if_pos hlm] at hf
            cases ht : n.tk with
            | none => rw [ht] at hf; cases hf
            | some t =>
            rw [ht] at hf
            simp only at hf
            cases hr2 : fend s k1 t with
            | none => rw [hr2] at hf; cases hf
            | some r2 =>
            rw [hr2] at hf
            simp only at hf
            have LM := Aside0.mk hlm
            have Ht := Aside0.mk ht
            have HE2 := Aside0.mk hr2
            have HF2 := Aside0.mk hf
            have hl20 := (hbd.2 Hlf.out.1).2 x rfl
            have hl21 := hbd.1
            have Hl2 := Aside0.mk (show 0 ≤ l2 ∧ l2 ≤ 1000 from by have := Hlf.out.2; omega)
            clear hlm ht hr2 hf hx1 HV hbd hl20 hl21
            go_wp2_with (first
             | ((with_reducible refine gate_dst (N := 7) rfl ?_)
                refine box_event ?hg (N := 7) ?hd (cs := #[.slice none 0 0]) (t := 41) ?hr ?_
                (case hd => rfl)
                (case hg => rfl)
                (case hr => first | (go_simp; done) | (go_simp; rfl))
                intro g7 hg7 w6 hbox hb6
                have hBw := below_set (j := 0) (v := .slice Av x.length cv) hb6 (show w5.heap.size ≤ g7 by omega)
                have Sb6 := Aside0.mk (blk_below Sb5.out hBw)
                have S46 := Aside0.mk (blk_below S45.out hBw)
                have S66 := Aside0.mk (blk_below S65.out hBw)
                have HO6 := Aside0.mk (Kd.R_below HO5.out hBw)
                have HN6 := Aside0.mk (Kd.R_below HN5.out hBw)
                have HB6 := Aside0.mk (below_step HB5.out hBw)
                have HK6 := Aside0.mk (KeepBut.trans HK5.out (KeepBut.of_below hBw gl none) (.inl rfl))
                have hcz := (blk_cell hbox 0).trans rfl
                have hfz := blk_frozen hbox 0
                have hc6 : (w6.setCell ⟨g7, 0, none⟩ (.slice Av x.length cv)).cell? ⟨g6, 0, none⟩ = some (.slice A1 acc.length c1) := (blk_cell S66.out 0).trans rfl
                have hc7 : (w6.setCell ⟨g7, 0, none⟩ (.slice Av x.length cv)).cell? ⟨g7, 0, none⟩ = some (.slice Av x.length cv) := (blk_cell (blk_set hbox 0 (.slice Av x.length cv)) 0).trans rfl
                have hsz6 := HK6.out.1
                clear hbox hb6 hg7 hBw Sb5 S45 S65 HO5 HN5 HB5 HK5)
             | (at_builtin; refine holdI5 ?_))
            unfold HoldI5
            refine Kd.R_append k41 (w0 := w6.setCell ⟨g7, 0, none⟩ (.slice Av x.length cv)) w.heap.size rfl (.tmp 44) (.tmp 46) 31 41 (.agg #[(.slice none 0 0)]) 24 rfl Try.underlying31 info41 rfl (by decide) (by omega) (.slice A1 acc.length c1) acc (⟨x⟩ : S41) [.slice Av x.length cv] (fun k => k ≠ gl ∧ k ≠ g4 ∧ k ≠ g6) (fun k => (k ≠ gl ∧ k ≠ g4 ∧ k ≠ g6) ∧ some k ≠ (Value.slice A1 acc.length c1).ownBlock) rfl (by rw [show (w6.setCell ⟨g7, 0, none⟩ (.slice Av x.length cv)).heap.size = w6.heap.size from by simp [World.setCell]]; rfl) ?aP (fun _ hk => hk) ?aF ?aO ?aB ?aS ?aL ?_
            (case aP => exact k41_mkM _ _ _ (⟨x⟩ : S41) (HN6.out))
            (case aB => exact Below.refl _ _)
            (case aF => intro k hk; have h1 := blk_lt Sb6.out; have h2 := blk_lt S46.out; have h3 := blk_lt S66.out; exact ⟨by omega, by omega, by omega⟩)
            (case aO => exact HO6.out)
            (case aS => exact hsz6)
            (case aL => have := LM.out; omega)
            intro v2 w50 ho hb hg2 hat
            obtain ⟨A2, c2, e2⟩ := Kd.R_slice ho
            obtain ⟨n2, hn2⟩ : ∃ n, n = (acc ++ [(⟨x⟩ : S41)]).length := ⟨_, rfl⟩
            rw [← hn2] at e2
            subst e2
            clear hn2
            have Sb7 := Aside0.mk (blk_grown Sb6.out hg2 (Kd.R_away HO6.out (fun k hk => hk.1)))
            have S47 := Aside0.mk (blk_grown S46.out hg2 (Kd.R_away HO6.out (fun k hk => hk.2.1)))
            have S67 := Aside0.mk (blk_grown S66.out hg2 (Kd.R_away HO6.out (fun k hk => hk.2.2)))
            have HO7 := Aside0.mk ho
            have HB7 := Aside0.mk (HB6.out.grown hg2 HB6.out.size (fun k hk => by have h1 := Kd.R_base HO6.out k hk; omega))
            have HK7 := Aside0.mk (KeepBut.trans HK6.out (KeepBut.of_grown hg2 gl) (Kd.R_base2 HO6.out))
            have hcs : w50.cell? ⟨g6, 0, none⟩ = some (.slice A1 acc.length c1) := (blk_cell S67.out 0).trans rfl
            have hfs := blk_frozen S67.out 0
            have Sb8 := Aside0.mk (blk_far (p := ⟨g6, 0, none⟩) Sb7.out (Ne.symm hn6) (.slice A2 n2 c2))
            have S48 := Aside0.mk (blk_far (p := ⟨g6, 0, none⟩) S47.out (Ne.symm hn64) (.slice A2 n2 c2))
            have S68 := Aside0.mk (blk_put (cs' := #[.slice A2 n2 c2]) S67.out 0 (.slice A2 n2 c2) rfl)
            have HO8 := Aside0.mk (Kd.R_far (p := ⟨g6, 0, none⟩) HO7.out (fun k hk => hk.2.2) (.slice A2 n2 c2))
            have HB8 := Aside0.mk (below_set (g := g6) (j := 0) (v := .slice A2 n2 c2) HB7.out (Nat.le_trans hsz0 hw6))
            have HK8 := Aside0.mk (keep_far (p := ⟨g6, 0, none⟩) HK7.out hw6 (.slice A2 n2 c2))
            have Hr8 := Aside0.mk (Held.keep HH.out HK8.out HGA.out)
            have hct : (w50.setCell ⟨g6, 0, none⟩ (.slice A2 n2 c2)).cell? ⟨bk ad r, 3, none⟩ = some (pk ad t) := cell_tk Hr8.out Hn.out Ht.out
            clear ho hb hg2 hat hc6 hc7 hcz hfz Sb6 S46 S66 HO6 HN6 HB6 HK6 Sb7 S47 S67 HO7 HB7 HK7 Hr
            simp only [pk] at hct
            go_wp2_with fail
            (with_reducible refine (kend_calls B s ad k1 t r2 _ Hr8.out HE2.out).mono ?_)
            rintro e w9 ⟨rfl, rfl⟩
            go_wp2_with fail
            go_roundg k1
            case measure => omega
            case rel => exact ⟨r2, acc ++ [⟨x⟩], .slice A2 n2 c2, l2, rfl, ⟨by have := Hk.out; omega⟩, HF2, Hl2, Sb8, S48, S68, HO8, HB8, HK8⟩
          · rw [if_neg hlm] at hf
            cases hf
end Go.Proofs.Ytfhgoebgnilfaaa.I
namespace Go.Proofs.Ytfhgoebgnilfaaa.I
open Go.RowKit Go.Proofs.YtfhgoebgnilfaaaW.PrintWords Go.Proofs.YtfhgoebgnilfaaaW.PrintLast Go.Proofs.YtfhgoebgnilfaaaW.PrintMore
attribute [local go_sem] max2_int min2_int max_two min_two max_three min_three max_four min_four
set_option linter.unusedVariables false
set_option maxRecDepth 100000
set_option linter.unusedSimpArgs false
mutual
/-- What measure answers, and what it leaves. -/
def meas : S41 → Int → Int × Int
  | ⟨l⟩, left => measL l (left - 1) 0
def measL : List S41 → Int → Int → Int × Int
  | [], left, d => (d + 1, left)
  | x :: xs, left, d => if left < 0 then (0, left) else measL xs (meas x left).2 (mx d (meas x left).1)
end
theorem mx_ge (a b : Int) : a ≤ mx a b ∧ b ≤ mx a b ∧ (mx a b = a ∨ mx a b = b) := by unfold mx; split <;> omega
mutual
theorem meas_bd : ∀ (x : S41) (left : Int), 0 ≤ left → -1 ≤ (meas x left).2 ∧ (meas x left).2 ≤ left - 1 ∧ 0 ≤ (meas x left).1 ∧ (meas x left).1 + (meas x left).2 ≤ left
  | ⟨l⟩, left, h => by
    have := measL_bd l (left - 1) 0 (by omega) (by omega)
    unfold meas
    omega
theorem measL_bd : ∀ (l : List S41) (left d : Int), -1 ≤ left → 0 ≤ d → -1 ≤ (measL l left d).2 ∧ (measL l left d).2 ≤ left ∧ 0 ≤ (measL l left d).1 ∧ (measL l left d).1 + (measL l left d).2 ≤ d + left + 1
  | [], left, d, h, hd => by unfold measL; simp only; omega
  | x :: xs, left, d, h, hd => by
    unfold measL
    split
    · simp only; omega
    · have h1 := meas_bd x left (by omega)
      have h2 := mx_ge d (meas x left).1
      have h3 := measL_bd xs (meas x left).2 (mx d (meas x left).1) (by omega) (by omega)
      omega
end
theorem rd_T41_drop (l : List S41) (i : Nat) (h : i < l.length) : l.drop i = rd_T41 l (i : Int) :: l.drop (i + 1) := by
  rw [List.drop_eq_getElem_cons h]
  simp [rd_T41, List.getD_eq_getElem?_getD, List.getElem?_eq_getElem h]
theorem rd_T41_mem (l : List S41) (i : Nat) (h : i < l.length) : SizeOf.sizeOf (rd_T41 l (i : Int)).f0 < SizeOf.sizeOf l := by
  have hm : rd_T41 l (i : Int) ∈ l := by
    simp [rd_T41, List.getD_eq_getElem?_getD, List.getElem?_eq_getElem h]
  have h1 := List.sizeOf_lt_of_mem hm
  have h2 : SizeOf.sizeOf (rd_T41 l (i : Int)) = 1 + SizeOf.sizeOf (rd_T41 l (i : Int)).f0 := by
    cases rd_T41 l (i : Int); simp
  omega
theorem measure_calls (N : Nat) : ∀ (l : List S41) (A : Option Addr) (c g : Nat) (left : Int) (w0 w : World) (hN : SizeOf.sizeOf l < N) (hr : Kd.C k41 w0 A l.length l) (hc : l.length ≤ c) (hB : Below w0.heap.size w0 w) (hg : w0.heap.size ≤ g)
    (hb : w.heap[g]? = some (.cells #[.int .i64 left] 3 (0, 0))) (hl : 0 ≤ left) (hl2 : left ≤ 100000000),
    Calls Try.prog 66 #[.agg #[.slice A l.length c], .pointer (some ⟨g, 0, none⟩)] w fun e w' => e = .returned (.int .i64 (meas ⟨l⟩ left).1) ∧ Below w0.heap.size w0 w' ∧ KeepBut w w' g none ∧ w'.heap[g]? = some (.cells #[.int .i64 (meas ⟨l⟩ left).2] 3 (0, 0)) := by
  induction N with
  | zero => intro l A c g left w0 w hN; omega
  | succ N ih =>
  intro l A c g left w0 w hN hr hc hB hg hb hl hl2
  have hu41 := Try.underlying41
  have hlen : l.length ≤ 9223372036854775807 := hr.2.1
  have HR := Aside0.mk hr
  have HC := Aside0.mk hc
  have HB := Aside0.mk hB
  have HG := Aside0.mk hg
  have HN := Aside0.mk hN
  have Hb := Aside0.mk hb
  have hgl := blk_lt hb
  have IH := Aside0.mk ih
  clear hr hc hB hN hb hg ih
  go_enter Try.func66, Try.ntmps66
  go_wp2_with (
    (with_reducible refine gate_dst (N := 2) rfl ?_)
    refine box_event ?hg (N := 2) ?hd (cs := #[.slice A l.length c]) (t := 41) ?hr ?_
    (case hd => rfl)
    (case hg => rfl)
    (case hr => first | (go_simp; done) | (go_simp; rfl))
    intro gb hgb w2 hbox hb2
    have HB2 := Aside0.mk (below_step HB.out hb2)
    have Hb2 := Aside0.mk (blk_below Hb.out hb2)
    have HK2 := Aside0.mk (KeepBut.of_below hb2 g none)
    have hne : g ≠ gb := by omega
    have hGW : w.heap.size ≤ gb := by omega
    have hczg : w2.cell? ⟨g, 0, none⟩ = some (.int .i64 left) := (blk_cell Hb2.out 0).trans rfl
    have hfzg := blk_frozen Hb2.out 0
    have Hbox := Aside0.mk hbox
    have hcz3 : (w2.setCell ⟨g, 0, none⟩ (.int .i64 (left - 1))).cell? ⟨gb, 0, none⟩ = some (.slice A l.length c) := (blk_cell (blk_far hbox (p := ⟨g, 0, none⟩) (Ne.symm hne) _) 0).trans rfl
    clear hbox hb2 hgb HB Hb)
  clear hcz3 hczg hfzg
  go_loopg [5, 16] l.length (fun kq v5 v16 wr => ∃ (i : Nat) (d lf : Int), v5 = .int .i64 d ∧ v16 = .int .i64 (i : Int) ∧ Aside0 (kq + i = l.length) ∧ Aside0 (measL (l.drop i) lf d = meas ⟨l⟩ left) ∧ Aside0 (0 ≤ d ∧ d + lf ≤ left - 1 ∧ -1 ≤ lf ∧ lf ≤ left - 1) ∧ Aside0 (wr.heap[g]? = some (.cells #[.int .i64 lf] 3 (0, 0))) ∧ Aside0 (wr.heap[gb]? = some (.cells #[.slice A l.length c] 41 (0, 0))) ∧ Aside0 (Below w0.heap.size w0 wr) ∧ Aside0 (KeepBut w wr g none))
  case atStart => exact ⟨0, 0, left - 1, rfl, rfl, ⟨by omega⟩, ⟨by rw [List.drop_zero, meas]⟩, ⟨by omega⟩, ⟨by have := blk_set Hb2.out 0 (.int .i64 (left - 1)); simpa using this⟩, ⟨blk_far Hbox.out (p := ⟨g, 0, none⟩) (Ne.symm hne) _⟩, ⟨below_set HB2.out HG.out⟩, ⟨KeepBut.set_ HK2.out 0 _⟩⟩
  case round =>
    clear Hb2 Hbox HB2 HK2
    obtain ⟨i, d, lf, rfl, rfl, Hi, Hm, Hd, Hb, Hbox, HB, HK⟩ := hrel
    have hi : i ≤ l.length := by have := Hi.out; omega
    obtain ⟨hd0, hd1, hd2, hd3⟩ := Hd.out
    by_cases hlt : i < l.length
    · have hdrop := Aside0.mk (rd_T41_drop l i hlt)
      have hmem := Aside0.mk (rd_T41_mem l i hlt)
      obtain ⟨ad, A1, c1, he, hx1, hl1, hi1⟩ := at_T41 HR.out (i : Int) (by omega) (by omega)
      cases he
      replace hx1 := (HB.out.cell (World.block_lt_of_cell? w0 _ hx1)).trans hx1
      rw [Int.toNat_natCast] at hx1
      have Hl1 := Aside0.mk hl1
      have Hi1 := Aside0.mk hi1
      clear hl1 hi1
      have hczg : wr.cell? ⟨g, 0, none⟩ = some (.int .i64 lf) := (blk_cell Hb.out 0).trans rfl
      have hfzg := blk_frozen Hb.out 0
      have p1 : (0 ≤ (i : Int)) = True := eq_true (by omega)
      have p2 : ((i : Int) < (l.length : Int)) = True := eq_true (by omega)
      have p3 : (i < l.length) = True := eq_true (by omega)
      generalize hx : rd_T41 l (i : Int) = x at *
      have Hx := Aside0.mk hx
      clear hx
      go_wp2_with (
        (with_reducible refine gate_dst (N := 7) rfl ?_)
        refine box_event ?hg (N := 7) ?hd (cs := #[.slice none 0 0]) (t := 41) ?hr ?_
        (case hd => rfl)
        (case hg => rfl)
        (case hr => first | (go_simp; done) | (go_simp; rfl))
        intro gi hgi w3 hbox3 hb3
        have hsz := below_size HB.out
        have hkz := keep_size HK.out
        have HB3 := Aside0.mk (below_set (j := 0) (v := .slice A1 x.f0.length c1) (below_step HB.out hb3) (show w0.heap.size ≤ gi by omega))
        have hgl2 := blk_lt Hb.out
        have hne3 : g ≠ gi := by omega
        have hne4 : gb ≠ gi := by have := blk_lt Hbox.out; omega
        have Hb3 := Aside0.mk (blk_far (p := ⟨gi, 0, none⟩) (blk_below Hb.out hb3) hne3 (.slice A1 x.f0.length c1))
        have Hbox3 := Aside0.mk (blk_far (p := ⟨gi, 0, none⟩) (blk_below Hbox.out hb3) hne4 (.slice A1 x.f0.length c1))
        have HK3 := Aside0.mk (keep_far (KeepBut.trans HK.out (KeepBut.of_below hb3 g none) (.inl rfl)) (p := ⟨gi, 0, none⟩) (show w.heap.size ≤ gi by omega) (.slice A1 x.f0.length c1))
        have hci : (w3.setCell ⟨gi, 0, none⟩ (.slice A1 x.f0.length c1)).cell? ⟨gi, 0, none⟩ = some (.slice A1 x.f0.length c1) := (blk_cell (blk_set hbox3 0 (.slice A1 x.f0.length c1)) 0).trans rfl
        have hcz := (blk_cell hbox3 0).trans rfl
        have hfz := blk_frozen hbox3 0
        have hczg : (w3.setCell ⟨gi, 0, none⟩ (.slice A1 x.f0.length c1)).cell? ⟨g, 0, none⟩ = some (.int .i64 lf) := (blk_cell Hb3.out 0).trans rfl
        clear hbox3 hb3 hsz hkz hgi hgl2 HB HK Hb Hbox)
      · have hneg : lf < 0 := by assumption
        go_ret
        have e1 : meas ⟨l⟩ left = (0, lf) := by rw [← Hm.out, hdrop.out, measL, if_pos hneg]
        rw [e1]
        exact ⟨rfl, HB3.out, HK3.out, Hb3.out⟩
      · have hneg : 0 ≤ lf := by first | assumption | omega
        have hbd := Aside0.mk (meas_bd x lf hneg)
        have hxe : x = ⟨x.f0⟩ := by cases x; rfl
        have Hxe := Aside0.mk hxe
        clear hxe
        (with_reducible refine (IH.out x.f0 A1 c1 g lf w0 _ ?_ Hi1.out Hl1.out HB3.out HG.out Hb3.out ?_ ?_).mono ?_)
        · have := hmem.out; have := HN.out; omega
        · omega
        · omega
        rintro e w4 ⟨rfl, hB4, hK4, hb4⟩
        rw [← Hxe.out] at hb4 ⊢
        have HB := Aside0.mk hB4
        have HK := Aside0.mk (KeepBut.trans HK3.out hK4 (.inl rfl))
        have Hb := Aside0.mk hb4
        have Hbox := Aside0.mk (KeepBut.blk hK4 Hbox3.out (Ne.symm hne) (by simp))
        clear hB4 hK4 hb4 HB3 HK3 Hb3 Hbox3
        have hmx : (if d < (meas x lf).1 then (meas x lf).1 else d) = mx d (meas x lf).1 := rfl
        go_wp2_with fail
        clear hmx
        have hk := Hi.out
        obtain ⟨k1, rfl⟩ : ∃ k1, gk = k1 + 1 := ⟨gk - 1, by omega⟩
        go_roundg k1
        case measure => omega
        case rel =>
          have hmx := mx_ge d (meas x lf).1
          have hb1 := hbd.out
          refine ⟨i + 1, mx d (meas x lf).1, (meas x lf).2, rfl, by go_num, ⟨by omega⟩, ⟨?_⟩, ⟨by clear hczg; omega⟩, Hb, Hbox, HB, HK⟩
          rw [← Hm.out, hdrop.out, measL, if_neg (by omega)]
    · have hie : i = l.length := by omega
      go_wp2_with fail
      go_ret
      have e1 : meas ⟨l⟩ left = (d + 1, lf) := by rw [← Hm.out, hie, List.drop_length, measL]
      rw [e1]
      exact ⟨rfl, HB.out, HK.out, Hb.out⟩
def sorts_Size.f (l0_0 : List S41) : Option (Int × Int) := some (if (meas ⟨l0_0⟩ 60).2 < 0 then (61, 0) else (60 - (meas ⟨l0_0⟩ 60).2, (meas ⟨l0_0⟩ 60).1))
theorem sorts_Size.calls (A0_0 : Option Addr) (c0_0 : Nat) (l0_0 : List S41) (r1 r2 : Int) (w : World) (hr0_0 : Kd.C k41 w A0_0 l0_0.length l0_0) (hc0_0 : l0_0.length ≤ c0_0) (h : sorts_Size.f l0_0 = some (r1, r2)) :
    Calls Try.prog 60 #[.agg #[.slice A0_0 l0_0.length c0_0]] w fun e w' => e = .returned (.tuple #[.int .i64 r1, .int .i64 r2]) ∧ Below w.heap.size w w' := by
  have hu41 := Try.underlying41
  have HR := Aside0.mk hr0_0
  have HC := Aside0.mk hc0_0
  have hbd := Aside0.mk (meas_bd ⟨l0_0⟩ 60 (by omega))
  have Hh := Aside0.mk h
  clear h hr0_0 hc0_0
  go_enter Try.func60, Try.ntmps60
  go_wp2_with (first
   | ((with_reducible refine gate_dst (N := 1) rfl ?_)
      refine box_event ?hg (N := 1) ?hd (cs := #[.slice A0_0 l0_0.length c0_0]) (t := 41) ?hr ?_
      (case hd => rfl)
      (case hg => rfl)
      (case hr => first | (go_simp; done) | (go_simp; rfl))
      intro gb hgb w2 hbox hb2
      have HB2 := Aside0.mk hb2
      have Hgb := Aside0.mk hgb
      have Hbox := Aside0.mk hbox
      have hne0 := blk_lt hbox
      clear hbox hb2 hgb)
   | ((with_reducible refine gate_dst (N := 4) rfl ?_)
      refine box_event ?hg (N := 4) ?hd (cs := #[.int .i64 0]) (t := 3) ?hr ?_
      (case hd => rfl)
      (case hg => rfl)
      (case hr => first | (go_simp; done) | (go_simp; rfl))
      intro g hg w3 hb hb3
      have hsz := HB2.out.size
      have HG := Aside0.mk (show w.heap.size ≤ g by omega)
      have HB3 := Aside0.mk (below_set (j := 0) (v := .int .i64 60) (below_step HB2.out hb3) HG.out)
      have hne : gb ≠ g := by omega
      have Hbox3 := Aside0.mk (blk_far (p := ⟨g, 0, none⟩) (blk_below Hbox.out hb3) hne (.int .i64 60))
      have Hb3 := Aside0.mk (blk_put (cs' := #[.int .i64 60]) hb 0 (.int .i64 60) rfl)
      have hcz := (blk_cell hb 0).trans rfl
      have hfz := blk_frozen hb 0
      have hcb : (w3.setCell ⟨g, 0, none⟩ (.int .i64 60)).cell? ⟨gb, 0, none⟩ = some (.slice A0_0 l0_0.length c0_0) := (blk_cell Hbox3.out 0).trans rfl
      clear hb hb3 hg))
  (with_reducible refine (measure_calls (SizeOf.sizeOf l0_0 + 1) l0_0 A0_0 c0_0 g 60 w _ (by omega) HR.out HC.out HB3.out HG.out Hb3.out (by omega) (by omega)).mono ?_)
  rintro e w4 ⟨rfl, hB4, hK4, hb4⟩
  have HB := Aside0.mk hB4
  have hcg : w4.cell? ⟨g, 0, none⟩ = some (.int .i64 (meas ⟨l0_0⟩ 60).2) := (blk_cell hb4 0).trans rfl
  clear hB4 hK4 hb4 hcb
  have hb1 := hbd.out.1
  have hb2 := hbd.out.2.1
  by_cases hneg : (meas ⟨l0_0⟩ 60).2 < 0
  · have e1 := Hh.out
    simp only [sorts_Size.f, if_pos hneg, Option.some.injEq, Prod.mk.injEq] at e1
    obtain ⟨rfl, rfl⟩ := e1
    go_wp2_with fail
    go_ret2
    exact ⟨rfl, HB.out⟩
  · have e1 := Hh.out
    simp only [sorts_Size.f, if_neg hneg, Option.some.injEq, Prod.mk.injEq] at e1
    obtain ⟨rfl, rfl⟩ := e1
    go_wp2_with fail
    go_ret2
    exact ⟨rfl, HB.out⟩
end Go.Proofs.Ytfhgoebgnilfaaa.I
namespace Go.Proofs.Ytfhgoebgnilfaaa.I
open Go.RowKit Go.Proofs.YtfhgoebgnilfaaaW.PrintWords Go.Proofs.YtfhgoebgnilfaaaW.PrintLast Go.Proofs.YtfhgoebgnilfaaaW.PrintMore
attribute [local go_sem] max2_int min2_int max_two min_two max_three min_three max_four min_four
set_option linter.unusedVariables false
set_option maxRecDepth 100000
set_option linter.unusedSimpArgs false
mutual
/-- What measure answers, and what it leaves. -/
def tmeas : S44 → Int → Int × Int
  | ⟨_, _, l⟩, left => tmeasL l (left - 1) 0
def tmeasL : List S44 → Int → Int → Int × Int
  | [], left, d => (d + 1, left)
  | x :: xs, left, d => if left < 0 then (0, left) else tmeasL xs (tmeas x left).2 (mx d (tmeas x left).1)
end
mutual
theorem tmeas_bd : ∀ (x : S44) (left : Int), 0 ≤ left → -1 ≤ (tmeas x left).2 ∧ (tmeas x left).2 ≤ left - 1 ∧ 0 ≤ (tmeas x left).1 ∧ (tmeas x left).1 + (tmeas x left).2 ≤ left
  | ⟨_, _, l⟩, left, h => by
    have := tmeasL_bd l (left - 1) 0 (by omega) (by omega)
    unfold tmeas
    omega
theorem tmeasL_bd : ∀ (l : List S44) (left d : Int), -1 ≤ left → 0 ≤ d → -1 ≤ (tmeasL l left d).2 ∧ (tmeasL l left d).2 ≤ left ∧ 0 ≤ (tmeasL l left d).1 ∧ (tmeasL l left d).1 + (tmeasL l left d).2 ≤ d + left + 1
  | [], left, d, h, hd => by unfold tmeasL; simp only; omega
  | x :: xs, left, d, h, hd => by
    unfold tmeasL
    split
    · simp only; omega
    · have h1 := tmeas_bd x left (by omega)
      have h2 := mx_ge d (tmeas x left).1
      have h3 := tmeasL_bd xs (tmeas x left).2 (mx d (tmeas x left).1) (by omega) (by omega)
      omega
end
theorem rd_T44_drop (l : List S44) (i : Nat) (h : i < l.length) : l.drop i = rd_T44 l (i : Int) :: l.drop (i + 1) := by
  rw [List.drop_eq_getElem_cons h]
  simp [rd_T44, List.getD_eq_getElem?_getD, List.getElem?_eq_getElem h]
theorem rd_T44_mem (l : List S44) (i : Nat) (h : i < l.length) : SizeOf.sizeOf (rd_T44 l (i : Int)).f2 < SizeOf.sizeOf l := by
  have hm : rd_T44 l (i : Int) ∈ l := by
    simp [rd_T44, List.getD_eq_getElem?_getD, List.getElem?_eq_getElem h]
  have h1 := List.sizeOf_lt_of_mem hm
  have h2 : SizeOf.sizeOf (rd_T44 l (i : Int)).f2 < SizeOf.sizeOf (rd_T44 l (i : Int)) := by
    cases rd_T44 l (i : Int); simp; omega
  omega
theorem tmeasure_calls (N : Nat) : ∀ (p q : Int) (l : List S44) (A : Option Addr) (c g : Nat) (left : Int) (w0 w : World) (hN : SizeOf.sizeOf l < N) (hr : Kd.C k44 w0 A l.length l) (hc : l.length ≤ c) (hB : Below w0.heap.size w0 w) (hg : w0.heap.size ≤ g)
    (hb : w.heap[g]? = some (.cells #[.int .i64 left] 3 (0, 0))) (hl : 0 ≤ left) (hl2 : left ≤ 100000000),
    Calls Try.prog 57 #[.agg #[.int .i64 p, .int .i64 q, .slice A l.length c], .pointer (some ⟨g, 0, none⟩)] w fun e w' => e = .returned (.int .i64 (tmeas ⟨p, q, l⟩ left).1) ∧ Below w0.heap.size w0 w' ∧ KeepBut w w' g none ∧ w'.heap[g]? = some (.cells #[.int .i64 (tmeas ⟨p, q, l⟩ left).2] 3 (0, 0)) := by
  induction N with
  | zero => intro p q l A c g left w0 w hN; omega
  | succ N ih =>
  intro p q l A c g left w0 w hN hr hc hB hg hb hl hl2
  have hu44 := Try.underlying44
  have hlen : l.length ≤ 9223372036854775807 := hr.2.1
  have HR := Aside0.mk hr
  have HC := Aside0.mk hc
  have HB := Aside0.mk hB
  have HG := Aside0.mk hg
  have HN := Aside0.mk hN
  have Hb := Aside0.mk hb
  have hgl := blk_lt hb
  have IH := Aside0.mk ih
  clear hr hc hB hN hb hg ih
  go_enter Try.func57, Try.ntmps57
  go_wp2_with (
    (with_reducible refine gate_dst (N := 2) rfl ?_)
    refine box_event ?hg (N := 2) ?hd (cs := #[.int .i64 p, .int .i64 q, .slice A l.length c]) (t := 44) ?hr ?_
    (case hd => rfl)
    (case hg => rfl)
    (case hr => first | (go_simp; done) | (go_simp; rfl))
    intro gb hgb w2 hbox hb2
    have HB2 := Aside0.mk (below_step HB.out hb2)
    have Hb2 := Aside0.mk (blk_below Hb.out hb2)
    have HK2 := Aside0.mk (KeepBut.of_below hb2 g none)
    have hne : g ≠ gb := by omega
    have hGW : w.heap.size ≤ gb := by omega
    have hczg : w2.cell? ⟨g, 0, none⟩ = some (.int .i64 left) := (blk_cell Hb2.out 0).trans rfl
    have hfzg := blk_frozen Hb2.out 0
    have Hbox := Aside0.mk hbox
    have hcz3 : (w2.setCell ⟨g, 0, none⟩ (.int .i64 (left - 1))).cell? ⟨gb, 2, none⟩ = some (.slice A l.length c) := (blk_cell (blk_far hbox (p := ⟨g, 0, none⟩) (Ne.symm hne) _) 2).trans rfl
    clear hbox hb2 hgb HB Hb)
  clear hcz3 hczg hfzg
  go_loopg [5, 16] l.length (fun kq v5 v16 wr => ∃ (i : Nat) (d lf : Int), v5 = .int .i64 d ∧ v16 = .int .i64 (i : Int) ∧ Aside0 (kq + i = l.length) ∧ Aside0 (tmeasL (l.drop i) lf d = tmeas ⟨p, q, l⟩ left) ∧ Aside0 (0 ≤ d ∧ d + lf ≤ left - 1 ∧ -1 ≤ lf ∧ lf ≤ left - 1) ∧ Aside0 (wr.heap[g]? = some (.cells #[.int .i64 lf] 3 (0, 0))) ∧ Aside0 (wr.heap[gb]? = some (.cells #[.int .i64 p, .int .i64 q, .slice A l.length c] 44 (0, 0))) ∧ Aside0 (Below w0.heap.size w0 wr) ∧ Aside0 (KeepBut w wr g none))
  case atStart => exact ⟨0, 0, left - 1, rfl, rfl, ⟨by omega⟩, ⟨by rw [List.drop_zero, tmeas]⟩, ⟨by omega⟩, ⟨by have := blk_set Hb2.out 0 (.int .i64 (left - 1)); simpa using this⟩, ⟨blk_far Hbox.out (p := ⟨g, 0, none⟩) (Ne.symm hne) _⟩, ⟨below_set HB2.out HG.out⟩, ⟨KeepBut.set_ HK2.out 0 _⟩⟩
  case round =>
    clear Hb2 Hbox HB2 HK2
    obtain ⟨i, d, lf, rfl, rfl, Hi, Hm, Hd, Hb, Hbox, HB, HK⟩ := hrel
    have hi : i ≤ l.length := by have := Hi.out; omega
    obtain ⟨hd0, hd1, hd2, hd3⟩ := Hd.out
    by_cases hlt : i < l.length
    · have hdrop := Aside0.mk (rd_T44_drop l i hlt)
      have hmem := Aside0.mk (rd_T44_mem l i hlt)
      obtain ⟨ad, A1, c1, he, hx1, hx2, hx3, hl1, hi1⟩ := at_T44 HR.out (i : Int) (by omega) (by omega)
      cases he
      replace hx1 := (HB.out.cell (World.block_lt_of_cell? w0 _ hx1)).trans hx1
      rw [Int.toNat_natCast] at hx1
      replace hx2 := (HB.out.cell (World.block_lt_of_cell? w0 _ hx2)).trans hx2
      rw [Int.toNat_natCast] at hx2
      replace hx3 := (HB.out.cell (World.block_lt_of_cell? w0 _ hx3)).trans hx3
      rw [Int.toNat_natCast] at hx3
      have Hl1 := Aside0.mk hl1
      have Hi1 := Aside0.mk hi1
      clear hl1 hi1
      have hczg : wr.cell? ⟨g, 0, none⟩ = some (.int .i64 lf) := (blk_cell Hb.out 0).trans rfl
      have hfzg := blk_frozen Hb.out 0
      have p1 : (0 ≤ (i : Int)) = True := eq_true (by omega)
      have p2 : ((i : Int) < (l.length : Int)) = True := eq_true (by omega)
      have p3 : (i < l.length) = True := eq_true (by omega)
      generalize hx : rd_T44 l (i : Int) = x at *
      have Hx := Aside0.mk hx
      clear hx
      go_wp2_with (
        (with_reducible refine gate_dst (N := 7) rfl ?_)
        refine box_event ?hg (N := 7) ?hd (cs := #[.int .i64 0, .int .i64 0, .slice none 0 0]) (t := 44) ?hr ?_
        (case hd => rfl)
        (case hg => rfl)
        (case hr => first | (go_simp; done) | (go_simp; rfl))
        intro gi hgi w3 hbox3 hb3
        have hsz := below_size HB.out
        have hkz := keep_size HK.out
        have hgiw : w0.heap.size ≤ gi := by omega
        have hgiw2 : w.heap.size ≤ gi := by omega
        have HB3 := Aside0.mk (below_set (g := gi) (j := 2) (v := .slice A1 x.f2.length c1) (below_set (g := gi) (j := 1) (v := .int .i64 x.f1) (below_set (g := gi) (j := 0) (v := .int .i64 x.f0) (below_step HB.out hb3) hgiw) hgiw) hgiw)
        have hgl2 := blk_lt Hb.out
        have hne3 : g ≠ gi := by omega
        have hne4 : gb ≠ gi := by have := blk_lt Hbox.out; omega
        have Hb3 := Aside0.mk (blk_far (p := ⟨gi, 2, none⟩) (blk_far (p := ⟨gi, 1, none⟩) (blk_far (p := ⟨gi, 0, none⟩) (blk_below Hb.out hb3) hne3 (.int .i64 x.f0)) hne3 (.int .i64 x.f1)) hne3 (.slice A1 x.f2.length c1))
        have Hbox3 := Aside0.mk (blk_far (p := ⟨gi, 2, none⟩) (blk_far (p := ⟨gi, 1, none⟩) (blk_far (p := ⟨gi, 0, none⟩) (blk_below Hbox.out hb3) hne4 (.int .i64 x.f0)) hne4 (.int .i64 x.f1)) hne4 (.slice A1 x.f2.length c1))
        have HK3 := Aside0.mk (keep_far (p := ⟨gi, 2, none⟩) (keep_far (p := ⟨gi, 1, none⟩) (keep_far (p := ⟨gi, 0, none⟩) (KeepBut.trans HK.out (KeepBut.of_below hb3 g none) (.inl rfl)) hgiw2 (.int .i64 x.f0)) hgiw2 (.int .i64 x.f1)) hgiw2 (.slice A1 x.f2.length c1))
        have Hgi := Aside0.mk (blk_put (cs' := #[.int .i64 x.f0, .int .i64 x.f1, .slice A1 x.f2.length c1]) (blk_put (cs' := #[.int .i64 x.f0, .int .i64 x.f1, .slice none 0 0]) (blk_put (cs' := #[.int .i64 x.f0, .int .i64 0, .slice none 0 0]) hbox3 0 (.int .i64 x.f0) rfl) 1 (.int .i64 x.f1) rfl) 2 (.slice A1 x.f2.length c1) rfl)
        have hci0 : (((w3.setCell ⟨gi, 0, none⟩ (.int .i64 x.f0)).setCell ⟨gi, 1, none⟩ (.int .i64 x.f1)).setCell ⟨gi, 2, none⟩ (.slice A1 x.f2.length c1)).cell? ⟨gi, 0, none⟩ = some (.int .i64 x.f0) := (blk_cell Hgi.out 0).trans rfl
        have hci1 : (((w3.setCell ⟨gi, 0, none⟩ (.int .i64 x.f0)).setCell ⟨gi, 1, none⟩ (.int .i64 x.f1)).setCell ⟨gi, 2, none⟩ (.slice A1 x.f2.length c1)).cell? ⟨gi, 1, none⟩ = some (.int .i64 x.f1) := (blk_cell Hgi.out 1).trans rfl
        have hci2 : (((w3.setCell ⟨gi, 0, none⟩ (.int .i64 x.f0)).setCell ⟨gi, 1, none⟩ (.int .i64 x.f1)).setCell ⟨gi, 2, none⟩ (.slice A1 x.f2.length c1)).cell? ⟨gi, 2, none⟩ = some (.slice A1 x.f2.length c1) := (blk_cell Hgi.out 2).trans rfl
        have hcz0 := (blk_cell hbox3 0).trans rfl
        have hcz1 := (blk_cell hbox3 1).trans rfl
        have hcz2 := (blk_cell hbox3 2).trans rfl
        have hfz0 := blk_frozen hbox3 0
        have hfz1 := blk_frozen hbox3 1
        have hfz2 := blk_frozen hbox3 2
        have hczg : (((w3.setCell ⟨gi, 0, none⟩ (.int .i64 x.f0)).setCell ⟨gi, 1, none⟩ (.int .i64 x.f1)).setCell ⟨gi, 2, none⟩ (.slice A1 x.f2.length c1)).cell? ⟨g, 0, none⟩ = some (.int .i64 lf) := (blk_cell Hb3.out 0).trans rfl
        clear hbox3 hb3 hsz hkz hgi hgl2 HB HK Hb Hbox)
      · have hneg : lf < 0 := by assumption
        go_ret
        have e1 : tmeas ⟨p, q, l⟩ left = (0, lf) := by rw [← Hm.out, hdrop.out, tmeasL, if_pos hneg]
        rw [e1]
        exact ⟨rfl, HB3.out, HK3.out, Hb3.out⟩
      · have hneg : 0 ≤ lf := by first | assumption | omega
        have hbd := Aside0.mk (tmeas_bd x lf hneg)
        have hxe : x = ⟨x.f0, x.f1, x.f2⟩ := by cases x; rfl
        have Hxe := Aside0.mk hxe
        clear hxe
        (with_reducible refine (IH.out x.f0 x.f1 x.f2 A1 c1 g lf w0 _ ?_ Hi1.out Hl1.out HB3.out HG.out Hb3.out ?_ ?_).mono ?_)
        · have := hmem.out; have := HN.out; omega
        · omega
        · omega
        rintro e w4 ⟨rfl, hB4, hK4, hb4⟩
        rw [← Hxe.out] at hb4 ⊢
        have HB := Aside0.mk hB4
        have HK := Aside0.mk (KeepBut.trans HK3.out hK4 (.inl rfl))
        have Hb := Aside0.mk hb4
        have Hbox := Aside0.mk (KeepBut.blk hK4 Hbox3.out (Ne.symm hne) (by simp))
        clear hB4 hK4 hb4 HB3 HK3 Hb3 Hbox3
        have hmx : (if d < (tmeas x lf).1 then (tmeas x lf).1 else d) = mx d (tmeas x lf).1 := rfl
        go_wp2_with fail
        clear hmx
        have hk := Hi.out
        obtain ⟨k1, rfl⟩ : ∃ k1, gk = k1 + 1 := ⟨gk - 1, by omega⟩
        go_roundg k1
        case measure => omega
        case rel =>
          have hmx := mx_ge d (tmeas x lf).1
          have hb1 := hbd.out
          refine ⟨i + 1, mx d (tmeas x lf).1, (tmeas x lf).2, rfl, by go_num, ⟨by omega⟩, ⟨?_⟩, ⟨by clear hczg; omega⟩, Hb, Hbox, HB, HK⟩
          rw [← Hm.out, hdrop.out, tmeasL, if_neg (by omega)]
    · have hie : i = l.length := by omega
      go_wp2_with fail
      go_ret
      have e1 : tmeas ⟨p, q, l⟩ left = (d + 1, lf) := by rw [← Hm.out, hie, List.drop_length, tmeasL]
      rw [e1]
      exact ⟨rfl, HB.out, HK.out, Hb.out⟩
def term_Size.f (a0_0 a0_1 : Int) (l0_2 : List S44) : Option (Int × Int) := some (if (tmeas ⟨a0_0, a0_1, l0_2⟩ 100000).2 < 0 then (100001, 0) else (100000 - (tmeas ⟨a0_0, a0_1, l0_2⟩ 100000).2, (tmeas ⟨a0_0, a0_1, l0_2⟩ 100000).1))
theorem term_Size.calls (a0_0 a0_1 : Int) (A0_2 : Option Addr) (c0_2 : Nat) (l0_2 : List S44) (r1 r2 : Int) (w : World) (hr0_2 : Kd.C k44 w A0_2 l0_2.length l0_2) (hc0_2 : l0_2.length ≤ c0_2) (h : term_Size.f a0_0 a0_1 l0_2 = some (r1, r2)) :
    Calls Try.prog 29 #[.agg #[.int .i64 a0_0, .int .i64 a0_1, .slice A0_2 l0_2.length c0_2]] w fun e w' => e = .returned (.tuple #[.int .i64 r1, .int .i64 r2]) ∧ Below w.heap.size w w' := by
  have hu44 := Try.underlying44
  have HR := Aside0.mk hr0_2
  have HC := Aside0.mk hc0_2
  have hbd := Aside0.mk (tmeas_bd ⟨a0_0, a0_1, l0_2⟩ 100000 (by omega))
  have Hh := Aside0.mk h
  clear h hr0_2 hc0_2
  go_enter Try.func29, Try.ntmps29
  go_wp2_with (first
   | ((with_reducible refine gate_dst (N := 1) rfl ?_)
      refine box_event ?hg (N := 1) ?hd (cs := #[.int .i64 a0_0, .int .i64 a0_1, .slice A0_2 l0_2.length c0_2]) (t := 44) ?hr ?_
      (case hd => rfl)
      (case hg => rfl)
      (case hr => first | (go_simp; done) | (go_simp; rfl))
      intro gb hgb w2 hbox hb2
      have HB2 := Aside0.mk hb2
      have Hgb := Aside0.mk hgb
      have Hbox := Aside0.mk hbox
      have hne0 := blk_lt hbox
      clear hbox hb2 hgb)
   | ((with_reducible refine gate_dst (N := 4) rfl ?_)
      refine box_event ?hg (N := 4) ?hd (cs := #[.int .i64 0]) (t := 3) ?hr ?_
      (case hd => rfl)
      (case hg => rfl)
      (case hr => first | (go_simp; done) | (go_simp; rfl))
      intro g hg w3 hb hb3
      have hsz := HB2.out.size
      have HG := Aside0.mk (show w.heap.size ≤ g by omega)
      have HB3 := Aside0.mk (below_set (j := 0) (v := .int .i64 100000) (below_step HB2.out hb3) HG.out)
      have hne : gb ≠ g := by omega
      have Hbox3 := Aside0.mk (blk_far (p := ⟨g, 0, none⟩) (blk_below Hbox.out hb3) hne (.int .i64 100000))
      have Hb3 := Aside0.mk (blk_put (cs' := #[.int .i64 100000]) hb 0 (.int .i64 100000) rfl)
      have hcz := (blk_cell hb 0).trans rfl
      have hfz := blk_frozen hb 0
      have hcb0 : (w3.setCell ⟨g, 0, none⟩ (.int .i64 100000)).cell? ⟨gb, 0, none⟩ = some (.int .i64 a0_0) := (blk_cell Hbox3.out 0).trans rfl
      have hcb1 : (w3.setCell ⟨g, 0, none⟩ (.int .i64 100000)).cell? ⟨gb, 1, none⟩ = some (.int .i64 a0_1) := (blk_cell Hbox3.out 1).trans rfl
      have hcb2 : (w3.setCell ⟨g, 0, none⟩ (.int .i64 100000)).cell? ⟨gb, 2, none⟩ = some (.slice A0_2 l0_2.length c0_2) := (blk_cell Hbox3.out 2).trans rfl
      clear hb hb3 hg))
  (with_reducible refine (tmeasure_calls (SizeOf.sizeOf l0_2 + 1) a0_0 a0_1 l0_2 A0_2 c0_2 g 100000 w _ (by omega) HR.out HC.out HB3.out HG.out Hb3.out (by omega) (by omega)).mono ?_)
  rintro e w4 ⟨rfl, hB4, hK4, hb4⟩
  have HB := Aside0.mk hB4
  have hcg : w4.cell? ⟨g, 0, none⟩ = some (.int .i64 (tmeas ⟨a0_0, a0_1, l0_2⟩ 100000).2) := (blk_cell hb4 0).trans rfl
  clear hB4 hK4 hb4 hcb0 hcb1 hcb2
  have hb1 := hbd.out.1
  have hb2 := hbd.out.2.1
  by_cases hneg : (tmeas ⟨a0_0, a0_1, l0_2⟩ 100000).2 < 0
  · have e1 := Hh.out
    simp only [term_Size.f, if_pos hneg, Option.some.injEq, Prod.mk.injEq] at e1
    obtain ⟨rfl, rfl⟩ := e1
    go_wp2_with fail
    go_ret2
    exact ⟨rfl, HB.out⟩
  · have e1 := Hh.out
    simp only [term_Size.f, if_neg hneg, Option.some.injEq, Prod.mk.injEq] at e1
    obtain ⟨rfl, rfl⟩ := e1
    go_wp2_with fail
    go_ret2
    exact ⟨rfl, HB.out⟩
end Go.Proofs.Ytfhgoebgnilfaaa.I
namespace Go.Proofs.Ytfhgoebgnilfaaa.I
open Go.RowKit Go.Proofs.YtfhgoebgnilfaaaW.PrintWords Go.Proofs.YtfhgoebgnilfaaaW.PrintLast Go.Proofs.YtfhgoebgnilfaaaW.PrintMore
attribute [local go_sem] max2_int min2_int max_two min_two max_three min_three max_four min_four
set_option linter.unusedVariables false
set_option maxRecDepth 100000
set_option linter.unusedSimpArgs false
structure FE where
  o : Nat
  syms : List S59
  funs : List Nat
  params : List Nat
def fhead (E : FE) (s : List KN) (kd n : Int) : Option (Nat × List KN) :=
  if n < 0 then none
  else if kd = 0 then (E.params[n.toNat]?).map (fun k => (k, s))
  else if kd = 1 then (E.funs[n.toNat]?).map (fun k => (k, s))
  else (E.syms[n.toNat]?).map (fun x => farrow s E.o (List.replicate x.f1.toNat E.o))
mutual
/-- The kind of a term; none inside: it has none. -/
def fterm (E : FE) : Nat → List KN → Int → Int → List S44 → Option (Option Nat × List KN)
  | 0, _, _, _, _ => none
  | f + 1, s, kd, n, l => match fhead E s kd n with
    | none => none
    | some (k, s1) => ftermL E f s1 k l
def ftermL (E : FE) : Nat → List KN → Nat → List S44 → Option (Option Nat × List KN)
  | 0, _, _, _ => none
  | f + 1, s, k, [] => some (some k, s)
  | f + 1, s, k, x :: xs => match fterm E f s x.f0 x.f1 x.f2 with
    | none => none
    | some (none, s1) => some (none, s1)
    | some (some xk, s1) => match fjoin f (s1 ++ [⟨none, false, none, none⟩] ++ [⟨none, false, some xk, some s1.length⟩]) k (s1.length + 1) with
      | none => none
      | some (false, s2) => some (none, s2)
      | some (true, s2) => ftermL E f s2 s1.length xs
end
structure Find (E : FE) (s : List KN) (ad : List Nat) (gf : Nat) (As : Option Addr) (cs : Nat) (w : World) : Prop where
  ex : ∃ Af cf Ap cp, w.heap[gf]? = some (.cells #[pk ad E.o, .slice As E.syms.length cs, .slice Af E.funs.length cf, .slice Ap E.params.length cp] 77 (0, 0)) ∧ Ptrs ad w Af E.funs ∧ Ptrs ad w Ap E.params ∧
    (∀ a, Af = some a → a.block ∉ ad ∧ a.block < w.heap.size) ∧ (∀ a, Ap = some a → a.block ∉ ad ∧ a.block < w.heap.size)
  away : gf ∉ ad
  o : E.o < s.length
theorem pk_app {ad e : List Nat} {i : Nat} (h : i < ad.length) : pk (ad ++ e) i = pk ad i := by unfold pk; rw [bk_app h]
theorem Ptrs.app {ad e : List Nat} {w : World} {A : Option Addr} {ps : List Nat} (h : Ptrs ad w A ps) : Ptrs (ad ++ e) w A ps := by
  refine ⟨h.1, fun p hp => by rw [List.length_append]; have := h.2.1 p hp; omega, fun h0 => ?_⟩
  obtain ⟨adr, ha, hc⟩ := h.2.2 h0
  exact ⟨adr, ha, fun j p hp => by rw [pk_app (h.2.1 p (List.mem_of_getElem? hp))]; exact hc j p hp⟩
theorem Ptrs.move {ad : List Nat} {w w1 : World} {A : Option Addr} {ps : List Nat} (h : Ptrs ad w A ps) (hm : ∀ a, A = some a → w1.heap[a.block]? = w.heap[a.block]?) : Ptrs ad w1 A ps := by
  refine ⟨h.1, h.2.1, fun h0 => ?_⟩
  obtain ⟨adr, ha, hc⟩ := h.2.2 h0
  refine ⟨adr, ha, fun j p hp => ?_⟩
  have := hc j p hp
  exact (World.cell?_of_block (by rw [show (adr.add j).block = adr.block from by unfold Addr.add; split <;> rfl]; exact hm adr ha)).trans this
theorem Find.move {E : FE} {s s1 : List KN} {ad e : List Nat} {gf : Nat} {As : Option Addr} {cs : Nat} {w w1 : World} (h : Find E s ad gf As cs w) (ht : Turned (fun k => k ∈ ad) w w1) (he : ∀ b, b ∈ e → w.heap.size ≤ b) (hs : s.length ≤ s1.length) (hl : ad.length = s.length) : Find E s1 (ad ++ e) gf As cs w1 := by
  obtain ⟨Af, cf, Ap, cp, h1, h2, h3, h4, h5⟩ := h.ex
  have hgf := blk_lt h1
  have no : ∀ b, b ∉ ad → b < w.heap.size → b ∉ ad ++ e := fun b hb hlt hm => by
    rcases List.mem_append.1 hm with hm | hm
    · exact hb hm
    · have := he b hm; omega
  refine ⟨⟨Af, cf, Ap, cp, ?_, Ptrs.app (Ptrs.move h2 (fun a ha => ht.block _ (h4 a ha).2 (h4 a ha).1)), Ptrs.app (Ptrs.move h3 (fun a ha => ht.block _ (h5 a ha).2 (h5 a ha).1)), fun a ha => ⟨no _ (h4 a ha).1 (h4 a ha).2, Nat.lt_of_lt_of_le (h4 a ha).2 ht.size⟩, fun a ha => ⟨no _ (h5 a ha).1 (h5 a ha).2, Nat.lt_of_lt_of_le (h5 a ha).2 ht.size⟩⟩, no _ h.away hgf, Nat.lt_of_lt_of_le h.o hs⟩
  rw [pk_app (by rw [hl]; exact h.o)]
  exact (ht.block gf hgf h.away).trans h1
set_option maxHeartbeats 8000000 in
theorem term_calls (B : Nat) (E : FE) (gf : Nat) (hrk : ∀ x, x ∈ E.syms → x.f1 ≤ 1000000) (f : Nat) : ∀ (s : List KN) (ad : List Nat) (kd n : Int) (l : List S44) (A : Option Addr) (c : Nat) (r : Option Nat) (s' : List KN) (w0 w : World)
    (hH : Held B s ad w) (As : Option Addr) (cs : Nat) (hF : Find E s ad gf As cs w) (hS : Kd.C k59 w0 As E.syms.length E.syms) (hB : B ≤ w.heap.size) (hw0 : w0.heap.size ≤ B) (hr : Kd.C k44 w0 A l.length l) (hc : l.length ≤ c) (hb : Below w0.heap.size w0 w) (h : fterm E f s kd n l = some (r, s')),
    Calls Try.prog 38 #[.pointer (some ⟨gf, 0, none⟩), .agg #[.int .i64 kd, .int .i64 n, .slice A l.length c]] w fun e w' => ∃ e1 v, e = .returned (.tuple #[v, .bool r.isSome]) ∧ (∀ k, r = some k → v = pk (ad ++ e1) k ∧ k < s'.length) ∧ (r = none → v = .pointer none) ∧ Held B s' (ad ++ e1) w' ∧ Turned (fun k => k ∈ ad) w w' ∧ (∀ b, b ∈ e1 → w.heap.size ≤ b) := by
  induction f using Nat.strongRecOn with
  | _ f ih =>
  intro s ad kd n l A c r s' w0 w hH As cs hF hS hB hw0 hr hc hb h
  have hu44 := Try.underlying44
  have hu77 := Try.underlying77
  have hu74 := Try.underlying74
  have hu59 := Try.underlying59
  cases f with
  | zero => exact absurd h (by simp [fterm])
  | succ f =>
  unfold fterm at h
  cases hh : fhead E s kd n with
  | none => rw [hh] at h; cases h
  | some q =>
  obtain ⟨k, s1⟩ := q
  rw [hh] at h
  simp only at h
  unfold fhead at hh
  by_cases hn0 : n < 0
  · rw [if_pos hn0] at hh; cases hh
  rw [if_neg hn0] at hh
  obtain ⟨Af, cf, Ap, cp, hfin, hPf, hPp, haF, haP⟩ := hF.ex
  have HH := Aside0.mk hH
  have HFi := Aside0.mk hF
  have HR := Aside0.mk hr
  have HC := Aside0.mk hc
  have HB := Aside0.mk hb
  have IH := Aside0.mk ih
  have HT := Aside0.mk h
  have Hfin := Aside0.mk hfin
  have HPp := Aside0.mk hPp
  have HPf := Aside0.mk hPf
  have HCs := Aside0.mk hS
  clear hr hc hb ih h hH hF hPf hS haF haP hPp
  by_cases hk0 : kd = 0
  · rw [if_pos hk0] at hh
    obtain ⟨p, hp, hpe⟩ := Option.map_eq_some_iff.1 hh
    injection hpe with e1 e2
    subst e1 e2
    have hkb : (kd == 0) = true := beq_iff_eq.2 hk0
    have hpl : n.toNat < E.params.length := (List.getElem?_eq_some_iff.1 hp).1
    obtain ⟨adr, hadr, hcel⟩ := HPp.out.2.2 (by omega)
    subst hadr
    have hx := hcel n.toNat p hp
    have p1 : (0 ≤ n) = True := eq_true (by omega)
    have p2 : (n < (E.params.length : Int)) = True := eq_true (by omega)
    have Hp := Aside0.mk hp
    clear hh hcel hp hfin
    go_enter Try.func38, Try.ntmps38
    go_wp2_with (
      (with_reducible refine gate_dst (N := 3) rfl ?_)
      refine box_event ?hg (N := 3) ?hd (cs := #[.int .i64 kd, .int .i64 n, .slice A l.length c]) (t := 44) ?hr ?_
      (case hd => rfl)
      (case hg => rfl)
      (case hr => first | (go_simp; done) | (go_simp; rfl))
      intro g3 hg3 w2 hbox hb2
      have S3 := Aside0.mk hbox
      have Hb2 := Aside0.mk hb2
      have hc0 : w2.cell? ⟨g3, 0, none⟩ = some (.int .i64 kd) := (blk_cell hbox 0).trans rfl
      clear hbox hb2 hg3)
    have c1 : w2.cell? ⟨g3, 1, none⟩ = some (.int .i64 n) := (blk_cell S3.out 1).trans rfl
    have c2 : w2.cell? ⟨gf, 3, none⟩ = some (.slice (some adr) E.params.length cp) := (blk_cell (blk_below Hfin.out Hb2.out) 3).trans rfl
    have c3 : w2.cell? (adr.add n.toNat) = some (pk ad p) := (Hb2.out.cell (World.block_lt_of_cell? w _ hx)).trans hx
    go_region_held3 (fun w' => w'.cell? ⟨g3, 1, none⟩ = some (.int .i64 n) ∧ w'.cell? ⟨gf, 3, none⟩ = some (.slice (some adr) E.params.length cp) ∧ w'.cell? (adr.add n.toNat) = some (pk ad p)) (go_keep) (fail)
    have HHq := Aside0.mk (Held.heap (Held.below HH.out Hb2.out) (w1 := w2.drew) rfl)
    have HTq := Aside0.mk (Turned.trans (Turned.of_below (ok := fun k => k ∈ ad) Hb2.out) (Turned.of_below (ok := fun k => k ∈ ad) (below_drew (Below.refl w2.heap.size w2))) (fun k hk _ => hk))
    have HBq := Aside0.mk (below_drew (below_step HB.out Hb2.out))
    have c5 : w2.drew.cell? ⟨g3, 2, none⟩ = some (.slice A l.length c) := (blk_cell (blk_drew S3.out) 2).trans rfl
    have hsl := HH.out
    have hpp := HPp.out.2.1 p (List.mem_of_getElem? Hp.out)
    have hplen : p < s.length := by have := HH.out.len; omega
    clear c1 c2 c3 hx hc0 hsl
    generalize w2.drew = wq at *
    go_wp2_with fail
    go_loopg [6, 60] f (fun kq v6 v60 wr => ∃ (i k : Nat) (s1 : List KN) (e1 : List Nat), v6 = pk (ad ++ e1) k ∧ v60 = .int .i64 (i : Int) ∧ Aside0 (kq ≤ f ∧ i ≤ l.length) ∧ Aside0 (ftermL E kq s1 k (l.drop i) = some (r, s')) ∧ Aside0 (Held B s1 (ad ++ e1) wr) ∧ Aside0 (k < s1.length ∧ s.length ≤ s1.length) ∧ Aside0 (Turned (fun k => k ∈ ad) w wr) ∧ Aside0 (∀ b, b ∈ e1 → w.heap.size ≤ b) ∧ Aside0 (Below w0.heap.size w0 wr))
    case atStart => exact ⟨0, p, s, [], by rw [List.append_nil], rfl, ⟨Nat.le_refl _, Nat.zero_le _⟩, HT, ⟨by rw [List.append_nil]; exact HHq.out⟩, ⟨hplen, Nat.le_refl _⟩, HTq, ⟨by intro b hb; cases hb⟩, HBq⟩
    case round =>
      clear HHq HTq HBq c5
      obtain ⟨i, k, s1, e1, rfl, rfl, Hi, HM, H1, Hk, HT1, HE1, HB1⟩ := hrel
      have hm := HM.out
      have hi := Hi.out.2
      by_cases hlt : i < l.length
      · have Hlt := Aside0.mk hlt
        have hdrop := rd_T44_drop l i hlt
        obtain ⟨ad0, A1, c1, he, hx1, hx2, hx3, hl1, hi1⟩ := at_T44 HR.out (i : Int) (by omega) (by omega)
        cases he
        replace hx1 := (HB1.out.cell (World.block_lt_of_cell? w0 _ hx1)).trans hx1
        replace hx2 := (HB1.out.cell (World.block_lt_of_cell? w0 _ hx2)).trans hx2
        replace hx3 := (HB1.out.cell (World.block_lt_of_cell? w0 _ hx3)).trans hx3
        rw [Int.toNat_natCast] at hx1 hx2 hx3
        have Hl1 := Aside0.mk hl1
        have Hi1 := Aside0.mk hi1
        clear hl1 hi1
        have p1 : (0 ≤ (i : Int)) = True := eq_true (by omega)
        have p2 : ((i : Int) < (l.length : Int)) = True := eq_true (by omega)
        have p3 : (i < l.length) = True := eq_true (by omega)
        rw [hdrop] at hm
        generalize hx : rd_T44 l (i : Int) = x at *
        cases gk with
        | zero => exact absurd hm (by simp [ftermL])
        | succ k1 =>
        unfold ftermL at hm
        cases hft : fterm E k1 s1 x.f0 x.f1 x.f2 with
        | none => rw [hft] at hm; cases hm
        | some q =>
        obtain ⟨r2, s2⟩ := q
        rw [hft] at hm
        have HFT := Aside0.mk hft
        have HMM := Aside0.mk hm
        clear hx hdrop hft hm HM
        go_wp2_with (
          (with_reducible refine gate_dst (N := 9) rfl ?_)
          refine box_event ?hg (N := 9) ?hd (cs := #[.int .i64 0, .int .i64 0, .slice none 0 0]) (t := 44) ?hr ?_
          (case hd => rfl)
          (case hg => rfl)
          (case hr => first | (go_simp; done) | (go_simp; rfl))
          intro gi hgi w3 hbox3 hb3
          have hsz := below_size HB1.out
          have hgiw : w0.heap.size ≤ gi := by omega
          have hgr : wr.heap.size ≤ gi := by omega
          have hbw := below_set (g := gi) (j := 2) (v := .slice A1 x.f2.length c1) (below_set (g := gi) (j := 1) (v := .int .i64 x.f1) (below_set (g := gi) (j := 0) (v := .int .i64 x.f0) hb3 hgr) hgr) hgr
          have HB3 := Aside0.mk (below_step HB1.out hbw)
          have H3 := Aside0.mk (Held.below H1.out hbw)
          have HT3 := Aside0.mk (Turned.trans HT1.out (Turned.of_below (ok := fun k => k ∈ ad) hbw) (fun k hk _ => hk))
          have Hgi := Aside0.mk (blk_put (cs' := #[.int .i64 x.f0, .int .i64 x.f1, .slice A1 x.f2.length c1]) (blk_put (cs' := #[.int .i64 x.f0, .int .i64 x.f1, .slice none 0 0]) (blk_put (cs' := #[.int .i64 x.f0, .int .i64 0, .slice none 0 0]) hbox3 0 (.int .i64 x.f0) rfl) 1 (.int .i64 x.f1) rfl) 2 (.slice A1 x.f2.length c1) rfl)
          have hci0 : (((w3.setCell ⟨gi, 0, none⟩ (.int .i64 x.f0)).setCell ⟨gi, 1, none⟩ (.int .i64 x.f1)).setCell ⟨gi, 2, none⟩ (.slice A1 x.f2.length c1)).cell? ⟨gi, 0, none⟩ = some (.int .i64 x.f0) := (blk_cell Hgi.out 0).trans rfl
          have hci1 : (((w3.setCell ⟨gi, 0, none⟩ (.int .i64 x.f0)).setCell ⟨gi, 1, none⟩ (.int .i64 x.f1)).setCell ⟨gi, 2, none⟩ (.slice A1 x.f2.length c1)).cell? ⟨gi, 1, none⟩ = some (.int .i64 x.f1) := (blk_cell Hgi.out 1).trans rfl
          have hci2 : (((w3.setCell ⟨gi, 0, none⟩ (.int .i64 x.f0)).setCell ⟨gi, 1, none⟩ (.int .i64 x.f1)).setCell ⟨gi, 2, none⟩ (.slice A1 x.f2.length c1)).cell? ⟨gi, 2, none⟩ = some (.slice A1 x.f2.length c1) := (blk_cell Hgi.out 2).trans rfl
          have hcz0 := (blk_cell hbox3 0).trans rfl
          have hcz1 := (blk_cell hbox3 1).trans rfl
          have hcz2 := (blk_cell hbox3 2).trans rfl
          have hfz0 := blk_frozen hbox3 0
          have hfz1 := blk_frozen hbox3 1
          have hfz2 := blk_frozen hbox3 2
          clear hbox3 hb3 hsz hgi hgr hbw HB1 H1 HT1)
        have hF3 := Find.move HFi.out HT3.out HE1.out Hk.out.2 HH.out.len
        (with_reducible refine (IH.out k1 (by have := Hi.out.1; omega) s1 (ad ++ e1) x.f0 x.f1 x.f2 A1 c1 r2 s2 w0 _ H3.out _ cs hF3 HCs.out (Nat.le_trans hB HT3.out.size) hw0 Hi1.out Hl1.out HB3.out HFT.out).mono ?_)
        rintro e w4 ⟨e2, v, rfl, hv1, hv2, h4, t4, he2⟩
        have hszW := HT3.out.size
        have HT4 := Aside0.mk (Turned.trans HT3.out t4 (fun k hk hlt => by rcases List.mem_append.1 hk with hk | hk; exact hk; have := HE1.out k hk; omega))
        have HE4 := Aside0.mk (show ∀ b, b ∈ e1 ++ e2 → w.heap.size ≤ b from fun b hb => by rcases List.mem_append.1 hb with hb | hb; exact HE1.out b hb; have := he2 b hb; omega)
        have HB4 := Aside0.mk (Turned.below t4 HB3.out HB3.out.size (fun k hk => Nat.le_trans hw0 (H3.out.ge k hk)))
        have h4' : Held B s2 (ad ++ (e1 ++ e2)) w4 := by rw [← List.append_assoc]; exact h4
        have H4 := Aside0.mk h4'
        have hl1 := H3.out.len
        have hl2 := h4.len
        have hlen2 : s1.length ≤ s2.length := by rw [← hl1, ← hl2, show (ad ++ e1 ++ e2).length = (ad ++ e1).length + e2.length from List.length_append]; omega
        have Hlen := Aside0.mk hlen2
        have HKK := Aside0.mk (show pk (ad ++ e1) k = pk (ad ++ (e1 ++ e2)) k from by rw [← List.append_assoc]; exact (pk_app (ad := ad ++ e1) (e := e2) (by rw [hl1]; exact Hk.out.1)).symm)
        have hmm2 := HMM.out
        clear hci0 hci1 hci2 hcz0 hcz1 hcz2 hfz0 hfz1 hfz2 t4 he2 h4 h4' hl1 hl2 hF3 HT3 HB3 H3 Hgi hlen2 HMM hszW
        cases r2 with
        | none =>
          injection hmm2 with e
          injection e with ea eb
          subst ea eb
          have hv := hv2 rfl
          subst hv
          clear hv1 hv2
          go_wp2_with fail
          go_ret2
          first | exact ⟨e1 ++ e2, _, rfl, rfl, H4.out, HT4.out, HE4.out⟩ | exact ⟨e1 ++ e2, _, rfl, (fun k hk => by cases hk), fun _ => rfl, H4.out, HT4.out, HE4.out⟩
        | some xk =>
          simp only at hmm2
          obtain ⟨hve, hxl⟩ := hv1 xk rfl
          rw [List.append_assoc] at hve
          subst hve
          cases hj : fjoin k1 (s2 ++ [⟨none, false, none, none⟩] ++ [⟨none, false, some xk, some s2.length⟩]) k (s2.length + 1) with
          | none => rw [hj] at hmm2; cases hmm2
          | some q =>
          obtain ⟨rj, s3⟩ := q
          rw [hj] at hmm2
          have HJ := Aside0.mk hj
          have HM3 := Aside0.mk hmm2
          have Hxl := Aside0.mk hxl
          clear hj hmm2 hv1 hv2 hxl
          go_wp2_with (first
           | ((with_reducible refine gate_dst (N := 73) rfl ?_)
              refine box_event ?hg (N := 73) ?hd (cs := #[.pointer none, .bool false, .pointer none, .pointer none]) (t := 74) ?hr ?_
              (case hd => rfl)
              (case hg => rfl)
              (case hr => first | (go_simp; done) | (go_simp; rfl))
              intro g5 hg5 w5 hbox hb5
              have H5 := Aside0.mk (Held.push (n := ⟨none, false, none, none⟩) H4.out hb5 (Nat.le_of_eq hg5.symm) (Nat.le_trans hB HT4.out.size) ⟨(by intro j hj; cases hj), (by intro j hj; cases hj), (by intro j hj; cases hj)⟩ hbox)
              have HT5 := Aside0.mk (Turned.trans HT4.out (Turned.of_below (ok := fun k => k ∈ ad) hb5) (fun k hk _ => hk))
              have HB5 := Aside0.mk (below_step HB4.out hb5)
              have hge5 : w.heap.size ≤ g5 := by have := HT4.out.size; omega
              have Hb5 := Aside0.mk (bk_new (g := g5) H4.out.len)
              clear hbox hb5 hg5)
           | fail)
          have hb6 := below_alloc (Below.refl w5.heap.size w5) (.cells #[.pointer none, .bool false, pk (ad ++ (e1 ++ e2)) xk, .pointer (some ⟨g5, 0, none⟩)] 74 (0, 0))
          have hbox6 := blk_new w5 (.cells #[.pointer none, .bool false, pk (ad ++ (e1 ++ e2)) xk, .pointer (some ⟨g5, 0, none⟩)] 74 (0, 0))
          have H6 := Aside0.mk (Held.push (n := ⟨none, false, some xk, some s2.length⟩) H5.out hb6 (Nat.le_refl _) (Nat.le_trans hB HT5.out.size) ⟨(by intro j hj; cases hj), (by intro j hj; injection hj with hj; rw [List.length_append]; have := Hxl.out; omega), (by intro j hj; injection hj with hj; rw [List.length_append]; simp only [List.length_cons, List.length_nil]; omega)⟩ (by rw [hbox6]; unfold kcells; show _ = some (Obj.cells #[.pointer none, .bool false, pk (ad ++ (e1 ++ e2) ++ [g5]) xk, pk (ad ++ (e1 ++ e2) ++ [g5]) s2.length] 74 (0, 0)); rw [pk_app (ad := ad ++ (e1 ++ e2)) (e := [g5]) (by rw [H4.out.len]; exact Hxl.out)]; unfold pk; rw [Hb5.out]))
          have HT6 := Aside0.mk (Turned.trans HT5.out (Turned.of_below (ok := fun k => k ∈ ad) hb6) (fun k hk _ => hk))
          have HB6 := Aside0.mk (below_step HB5.out hb6)
          have hge6 : w.heap.size ≤ w5.heap.size := HT5.out.size
          have Hb6 := Aside0.mk (bk_new (g := w5.heap.size) H5.out.len)
          have hargs : #[pk (ad ++ e1) k, Value.pointer (some ⟨w5.heap.size, 0, none⟩)] = #[pk (ad ++ (e1 ++ e2) ++ [g5] ++ [w5.heap.size]) k, pk (ad ++ (e1 ++ e2) ++ [g5] ++ [w5.heap.size]) (s2.length + 1)] := by
            have hkl : k < s2.length := by have := Hk.out.1; have := Hlen.out; omega
            have e1' : pk (ad ++ (e1 ++ e2) ++ [g5] ++ [w5.heap.size]) k = pk (ad ++ e1) k := by
              rw [pk_app (ad := ad ++ (e1 ++ e2) ++ [g5]) (e := [w5.heap.size]) (by rw [H5.out.len, List.length_append]; omega), pk_app (ad := ad ++ (e1 ++ e2)) (e := [g5]) (by rw [H4.out.len]; exact hkl), HKK.out]
            have e2' : pk (ad ++ (e1 ++ e2) ++ [g5] ++ [w5.heap.size]) (s2.length + 1) = .pointer (some ⟨w5.heap.size, 0, none⟩) := by
              have := Hb6.out
              rw [List.length_append] at this
              unfold pk
              rw [show s2.length + 1 = s2.length + [(⟨none, false, none, none⟩ : KN)].length from rfl, this]
            rw [e1', e2']
          refine Calls.mono (calls_of_args hargs (join_calls B (ad ++ (e1 ++ e2) ++ [g5] ++ [w5.heap.size]) k1 _ k (s2.length + 1) rj s3 _ H6.out HJ.out)) ?_
          rintro e w7 ⟨rfl, h7, t7⟩
          have hszX := HB6.out.size
          have happ : ad ++ (e1 ++ e2) ++ [g5] ++ [w5.heap.size] = ad ++ (e1 ++ e2 ++ [g5] ++ [w5.heap.size]) := by simp [List.append_assoc]
          have HE7 := Aside0.mk (show ∀ b, b ∈ e1 ++ e2 ++ [g5] ++ [w5.heap.size] → w.heap.size ≤ b from fun b hb => by
            rcases List.mem_append.1 hb with hb | hb
            · rcases List.mem_append.1 hb with hb | hb
              · exact HE4.out b hb
              · rw [List.mem_singleton] at hb; omega
            · rw [List.mem_singleton] at hb; omega)
          have HT7 := Aside0.mk (Turned.trans HT6.out t7 (fun k hk hlt => by
            rw [happ] at hk
            rcases List.mem_append.1 hk with hk | hk
            · exact hk
            · have := HE7.out k hk; omega))
          have HB7 := Aside0.mk (Turned.below t7 HB6.out HB6.out.size (fun k hk => Nat.le_trans hw0 (H6.out.ge k hk)))
          have hl7 := h7.len
          have hl6 := H6.out.len
          have hg5l : pk (ad ++ (e1 ++ e2) ++ [g5] ++ [w5.heap.size]) s2.length = .pointer (some ⟨g5, 0, none⟩) := by
            rw [pk_app (ad := ad ++ (e1 ++ e2) ++ [g5]) (e := [w5.heap.size]) (by rw [H5.out.len, List.length_append]; simp)]
            unfold pk
            rw [Hb5.out]
          rw [happ] at h7 hl7 hg5l
          have H7 := Aside0.mk h7
          have HG7 := Aside0.mk hg5l
          have Hl7 := Aside0.mk (show s2.length < s3.length ∧ s.length ≤ s3.length from by
            have e := hl6.symm.trans (by rw [happ] : _)
            rw [happ] at hl6
            rw [← hl7, hl6, List.length_append, List.length_append]
            have := Hlen.out; have := Hk.out.2
            simp only [List.length_cons, List.length_nil]
            omega)
          have hm3 := HM3.out
          clear h7 t7 hl7 hl6 hg5l hargs happ hb6 hbox6 hge5 hge6 hszX H4 H5 H6 HT4 HT5 HT6 HB4 HB5 HB6 HE4 HM3
          cases rj with
          | false =>
            injection hm3 with e
            injection e with ea eb
            subst ea eb
            go_wp2_with fail
            go_ret2
            first | exact ⟨_, _, rfl, rfl, H7.out, HT7.out, HE7.out⟩ | exact ⟨_, _, rfl, (fun k hk => by cases hk), fun _ => rfl, H7.out, HT7.out, HE7.out⟩
          | true =>
            simp only at hm3
            have HM4 := Aside0.mk hm3
            clear hm3
            go_wp2_with fail
            go_roundg k1
            case measure => omega
            case rel => exact ⟨i + 1, s2.length, s3, _, HG7.out.symm, (by
              have h1 := Hlt.out
              have h2 := HR.out.2.1
              exact congrArg (Value.int .i64) (by unfold wrap64; omega)), ⟨by have := Hi.out.1; omega, Hlt.out⟩, HM4, H7, ⟨Hl7.out.1, Hl7.out.2⟩, HT7, HE7, HB7⟩
      · have hie : i = l.length := by omega
        rw [hie, List.drop_length] at hm
        cases gk with
        | zero => exact absurd hm (by simp [ftermL])
        | succ k1 =>
        unfold ftermL at hm
        injection hm with e
        injection e with ea eb
        subst ea eb
        clear hie
        go_wp2_with fail
        go_ret2
        first | exact ⟨e1, _, rfl, ⟨rfl, Hk.out.1⟩, H1.out, HT1.out, HE1.out⟩ | exact ⟨e1, _, rfl, (fun k hk => by injection hk with hk; subst hk; exact ⟨rfl, Hk.out.1⟩), (fun hk => by cases hk), H1.out, HT1.out, HE1.out⟩
  rw [if_neg hk0] at hh
  by_cases hk1 : kd = 1
  · rw [if_pos hk1] at hh
    obtain ⟨p, hp, hpe⟩ := Option.map_eq_some_iff.1 hh
    injection hpe with e1 e2
    subst e1 e2
    have hkb0 : (kd == 0) = false := beq_eq_false_iff_ne.2 hk0
    have hkb : (kd == 1) = true := beq_iff_eq.2 hk1
    have hpl : n.toNat < E.funs.length := (List.getElem?_eq_some_iff.1 hp).1
    obtain ⟨adr, hadr, hcel⟩ := HPf.out.2.2 (by omega)
    subst hadr
    have hx := hcel n.toNat p hp
    have p1 : (0 ≤ n) = True := eq_true (by omega)
    have p2 : (n < (E.funs.length : Int)) = True := eq_true (by omega)
    have Hp := Aside0.mk hp
    clear hh hcel hp hfin
    go_enter Try.func38, Try.ntmps38
    go_wp2_with (
      (with_reducible refine gate_dst (N := 3) rfl ?_)
      refine box_event ?hg (N := 3) ?hd (cs := #[.int .i64 kd, .int .i64 n, .slice A l.length c]) (t := 44) ?hr ?_
      (case hd => rfl)
      (case hg => rfl)
      (case hr => first | (go_simp; done) | (go_simp; rfl))
      intro g3 hg3 w2 hbox hb2
      have S3 := Aside0.mk hbox
      have Hb2 := Aside0.mk hb2
      have hc0 : w2.cell? ⟨g3, 0, none⟩ = some (.int .i64 kd) := (blk_cell hbox 0).trans rfl
      clear hbox hb2 hg3)
    have c1 : w2.cell? ⟨g3, 1, none⟩ = some (.int .i64 n) := (blk_cell S3.out 1).trans rfl
    have c2 : w2.cell? ⟨gf, 2, none⟩ = some (.slice (some adr) E.funs.length cf) := (blk_cell (blk_below Hfin.out Hb2.out) 2).trans rfl
    have c3 : w2.cell? (adr.add n.toNat) = some (pk ad p) := (Hb2.out.cell (World.block_lt_of_cell? w _ hx)).trans hx
    go_region_held3 (fun w' => w'.cell? ⟨g3, 1, none⟩ = some (.int .i64 n) ∧ w'.cell? ⟨gf, 2, none⟩ = some (.slice (some adr) E.funs.length cf) ∧ w'.cell? (adr.add n.toNat) = some (pk ad p)) (go_keep) (fail)
    have HHq := Aside0.mk (Held.heap (Held.below HH.out Hb2.out) (w1 := w2.drew) rfl)
    have HTq := Aside0.mk (Turned.trans (Turned.of_below (ok := fun k => k ∈ ad) Hb2.out) (Turned.of_below (ok := fun k => k ∈ ad) (below_drew (Below.refl w2.heap.size w2))) (fun k hk _ => hk))
    have HBq := Aside0.mk (below_drew (below_step HB.out Hb2.out))
    have c5 : w2.drew.cell? ⟨g3, 2, none⟩ = some (.slice A l.length c) := (blk_cell (blk_drew S3.out) 2).trans rfl
    have hsl := HH.out
    have hpp := HPf.out.2.1 p (List.mem_of_getElem? Hp.out)
    have hplen : p < s.length := by have := HH.out.len; omega
    clear c1 c2 c3 hx hc0 hsl
    generalize w2.drew = wq at *
    go_wp2_with fail
    go_loopg [6, 60] f (fun kq v6 v60 wr => ∃ (i k : Nat) (s1 : List KN) (e1 : List Nat), v6 = pk (ad ++ e1) k ∧ v60 = .int .i64 (i : Int) ∧ Aside0 (kq ≤ f ∧ i ≤ l.length) ∧ Aside0 (ftermL E kq s1 k (l.drop i) = some (r, s')) ∧ Aside0 (Held B s1 (ad ++ e1) wr) ∧ Aside0 (k < s1.length ∧ s.length ≤ s1.length) ∧ Aside0 (Turned (fun k => k ∈ ad) w wr) ∧ Aside0 (∀ b, b ∈ e1 → w.heap.size ≤ b) ∧ Aside0 (Below w0.heap.size w0 wr))
    case atStart => exact ⟨0, p, s, [], by rw [List.append_nil], rfl, ⟨Nat.le_refl _, Nat.zero_le _⟩, HT, ⟨by rw [List.append_nil]; exact HHq.out⟩, ⟨hplen, Nat.le_refl _⟩, HTq, ⟨by intro b hb; cases hb⟩, HBq⟩
    case round =>
      clear HHq HTq HBq c5
      obtain ⟨i, k, s1, e1, rfl, rfl, Hi, HM, H1, Hk, HT1, HE1, HB1⟩ := hrel
      have hm := HM.out
      have hi := Hi.out.2
      by_cases hlt : i < l.length
      · have Hlt := Aside0.mk hlt
        have hdrop := rd_T44_drop l i hlt
        obtain ⟨ad0, A1, c1, he, hx1, hx2, hx3, hl1, hi1⟩ := at_T44 HR.out (i : Int) (by omega) (by omega)
        cases he
        replace hx1 := (HB1.out.cell (World.block_lt_of_cell? w0 _ hx1)).trans hx1
        replace hx2 := (HB1.out.cell (World.block_lt_of_cell? w0 _ hx2)).trans hx2
        replace hx3 := (HB1.out.cell (World.block_lt_of_cell? w0 _ hx3)).trans hx3
        rw [Int.toNat_natCast] at hx1 hx2 hx3
        have Hl1 := Aside0.mk hl1
        have Hi1 := Aside0.mk hi1
        clear hl1 hi1
        have p1 : (0 ≤ (i : Int)) = True := eq_true (by omega)
        have p2 : ((i : Int) < (l.length : Int)) = True := eq_true (by omega)
        have p3 : (i < l.length) = True := eq_true (by omega)
        rw [hdrop] at hm
        generalize hx : rd_T44 l (i : Int) = x at *
        cases gk with
        | zero => exact absurd hm (by simp [ftermL])
        | succ k1 =>
        unfold ftermL at hm
        cases hft : fterm E k1 s1 x.f0 x.f1 x.f2 with
        | none => rw [hft] at hm; cases hm
        | some q =>
        obtain ⟨r2, s2⟩ := q
        rw [hft] at hm
        have HFT := Aside0.mk hft
        have HMM := Aside0.mk hm
        clear hx hdrop hft hm HM
        go_wp2_with (
          (with_reducible refine gate_dst (N := 9) rfl ?_)
          refine box_event ?hg (N := 9) ?hd (cs := #[.int .i64 0, .int .i64 0, .slice none 0 0]) (t := 44) ?hr ?_
          (case hd => rfl)
          (case hg => rfl)
          (case hr => first | (go_simp; done) | (go_simp; rfl))
          intro gi hgi w3 hbox3 hb3
          have hsz := below_size HB1.out
          have hgiw : w0.heap.size ≤ gi := by omega
          have hgr : wr.heap.size ≤ gi := by omega
          have hbw := below_set (g := gi) (j := 2) (v := .slice A1 x.f2.length c1) (below_set (g := gi) (j := 1) (v := .int .i64 x.f1) (below_set (g := gi) (j := 0) (v := .int .i64 x.f0) hb3 hgr) hgr) hgr
          have HB3 := Aside0.mk (below_step HB1.out hbw)
          have H3 := Aside0.mk (Held.below H1.out hbw)
          have HT3 := Aside0.mk (Turned.trans HT1.out (Turned.of_below (ok := fun k => k ∈ ad) hbw) (fun k hk _ => hk))
          have Hgi := Aside0.mk (blk_put (cs' := #[.int .i64 x.f0, .int .i64 x.f1, .slice A1 x.f2.length c1]) (blk_put (cs' := #[.int .i64 x.f0, .int .i64 x.f1, .slice none 0 0]) (blk_put (cs' := #[.int .i64 x.f0, .int .i64 0, .slice none 0 0]) hbox3 0 (.int .i64 x.f0) rfl) 1 (.int .i64 x.f1) rfl) 2 (.slice A1 x.f2.length c1) rfl)
          have hci0 : (((w3.setCell ⟨gi, 0, none⟩ (.int .i64 x.f0)).setCell ⟨gi, 1, none⟩ (.int .i64 x.f1)).setCell ⟨gi, 2, none⟩ (.slice A1 x.f2.length c1)).cell? ⟨gi, 0, none⟩ = some (.int .i64 x.f0) := (blk_cell Hgi.out 0).trans rfl
          have hci1 : (((w3.setCell ⟨gi, 0, none⟩ (.int .i64 x.f0)).setCell ⟨gi, 1, none⟩ (.int .i64 x.f1)).setCell ⟨gi, 2, none⟩ (.slice A1 x.f2.length c1)).cell? ⟨gi, 1, none⟩ = some (.int .i64 x.f1) := (blk_cell Hgi.out 1).trans rfl
          have hci2 : (((w3.setCell ⟨gi, 0, none⟩ (.int .i64 x.f0)).setCell ⟨gi, 1, none⟩ (.int .i64 x.f1)).setCell ⟨gi, 2, none⟩ (.slice A1 x.f2.length c1)).cell? ⟨gi, 2, none⟩ = some (.slice A1 x.f2.length c1) := (blk_cell Hgi.out 2).trans rfl
          have hcz0 := (blk_cell hbox3 0).trans rfl
          have hcz1 := (blk_cell hbox3 1).trans rfl
          have hcz2 := (blk_cell hbox3 2).trans rfl
          have hfz0 := blk_frozen hbox3 0
          have hfz1 := blk_frozen hbox3 1
          have hfz2 := blk_frozen hbox3 2
          clear hbox3 hb3 hsz hgi hgr hbw HB1 H1 HT1)
        have hF3 := Find.move HFi.out HT3.out HE1.out Hk.out.2 HH.out.len
        (with_reducible refine (IH.out k1 (by have := Hi.out.1; omega) s1 (ad ++ e1) x.f0 x.f1 x.f2 A1 c1 r2 s2 w0 _ H3.out _ cs hF3 HCs.out (Nat.le_trans hB HT3.out.size) hw0 Hi1.out Hl1.out HB3.out HFT.out).mono ?_)
        rintro e w4 ⟨e2, v, rfl, hv1, hv2, h4, t4, he2⟩
        have hszW := HT3.out.size
        have HT4 := Aside0.mk (Turned.trans HT3.out t4 (fun k hk hlt => by rcases List.mem_append.1 hk with hk | hk; exact hk; have := HE1.out k hk; omega))
        have HE4 := Aside0.mk (show ∀ b, b ∈ e1 ++ e2 → w.heap.size ≤ b from fun b hb => by rcases List.mem_append.1 hb with hb | hb; exact HE1.out b hb; have := he2 b hb; omega)
        have HB4 := Aside0.mk (Turned.below t4 HB3.out HB3.out.size (fun k hk => Nat.le_trans hw0 (H3.out.ge k hk)))
        have h4' : Held B s2 (ad ++ (e1 ++ e2)) w4 := by rw [← List.append_assoc]; exact h4
        have H4 := Aside0.mk h4'
        have hl1 := H3.out.len
        have hl2 := h4.len
        have hlen2 : s1.length ≤ s2.length := by rw [← hl1, ← hl2, show (ad ++ e1 ++ e2).length = (ad ++ e1).length + e2.length from List.length_append]; omega
        have Hlen := Aside0.mk hlen2
        have HKK := Aside0.mk (show pk (ad ++ e1) k = pk (ad ++ (e1 ++ e2)) k from by rw [← List.append_assoc]; exact (pk_app (ad := ad ++ e1) (e := e2) (by rw [hl1]; exact Hk.out.1)).symm)
        have hmm2 := HMM.out
        clear hci0 hci1 hci2 hcz0 hcz1 hcz2 hfz0 hfz1 hfz2 t4 he2 h4 h4' hl1 hl2 hF3 HT3 HB3 H3 Hgi hlen2 HMM hszW
        cases r2 with
        | none =>
          injection hmm2 with e
          injection e with ea eb
          subst ea eb
          have hv := hv2 rfl
          subst hv
          clear hv1 hv2
          go_wp2_with fail
          go_ret2
          first | exact ⟨e1 ++ e2, _, rfl, rfl, H4.out, HT4.out, HE4.out⟩ | exact ⟨e1 ++ e2, _, rfl, (fun k hk => by cases hk), fun _ => rfl, H4.out, HT4.out, HE4.out⟩
        | some xk =>
          simp only at hmm2
          obtain ⟨hve, hxl⟩ := hv1 xk rfl
          rw [List.append_assoc] at hve
          subst hve
          cases hj : fjoin k1 (s2 ++ [⟨none, false, none, none⟩] ++ [⟨none, false, some xk, some s2.length⟩]) k (s2.length + 1) with
          | none => rw [hj] at hmm2; cases hmm2
          | some q =>
          obtain ⟨rj, s3⟩ := q
          rw [hj] at hmm2
          have HJ := Aside0.mk hj
          have HM3 := Aside0.mk hmm2
          have Hxl := Aside0.mk hxl
          clear hj hmm2 hv1 hv2 hxl
          go_wp2_with (first
           | ((with_reducible refine gate_dst (N := 73) rfl ?_)
              refine box_event ?hg (N := 73) ?hd (cs := #[.pointer none, .bool false, .pointer none, .pointer none]) (t := 74) ?hr ?_
              (case hd => rfl)
              (case hg => rfl)
              (case hr => first | (go_simp; done) | (go_simp; rfl))
              intro g5 hg5 w5 hbox hb5
              have H5 := Aside0.mk (Held.push (n := ⟨none, false, none, none⟩) H4.out hb5 (Nat.le_of_eq hg5.symm) (Nat.le_trans hB HT4.out.size) ⟨(by intro j hj; cases hj), (by intro j hj; cases hj), (by intro j hj; cases hj)⟩ hbox)
              have HT5 := Aside0.mk (Turned.trans HT4.out (Turned.of_below (ok := fun k => k ∈ ad) hb5) (fun k hk _ => hk))
              have HB5 := Aside0.mk (below_step HB4.out hb5)
              have hge5 : w.heap.size ≤ g5 := by have := HT4.out.size; omega
              have Hb5 := Aside0.mk (bk_new (g := g5) H4.out.len)
              clear hbox hb5 hg5)
           | fail)
          have hb6 := below_alloc (Below.refl w5.heap.size w5) (.cells #[.pointer none, .bool false, pk (ad ++ (e1 ++ e2)) xk, .pointer (some ⟨g5, 0, none⟩)] 74 (0, 0))
          have hbox6 := blk_new w5 (.cells #[.pointer none, .bool false, pk (ad ++ (e1 ++ e2)) xk, .pointer (some ⟨g5, 0, none⟩)] 74 (0, 0))
          have H6 := Aside0.mk (Held.push (n := ⟨none, false, some xk, some s2.length⟩) H5.out hb6 (Nat.le_refl _) (Nat.le_trans hB HT5.out.size) ⟨(by intro j hj; cases hj), (by intro j hj; injection hj with hj; rw [List.length_append]; have := Hxl.out; omega), (by intro j hj; injection hj with hj; rw [List.length_append]; simp only [List.length_cons, List.length_nil]; omega)⟩ (by rw [hbox6]; unfold kcells; show _ = some (Obj.cells #[.pointer none, .bool false, pk (ad ++ (e1 ++ e2) ++ [g5]) xk, pk (ad ++ (e1 ++ e2) ++ [g5]) s2.length] 74 (0, 0)); rw [pk_app (ad := ad ++ (e1 ++ e2)) (e := [g5]) (by rw [H4.out.len]; exact Hxl.out)]; unfold pk; rw [Hb5.out]))
          have HT6 := Aside0.mk (Turned.trans HT5.out (Turned.of_below (ok := fun k => k ∈ ad) hb6) (fun k hk _ => hk))
          have HB6 := Aside0.mk (below_step HB5.out hb6)
          have hge6 : w.heap.size ≤ w5.heap.size := HT5.out.size
          have Hb6 := Aside0.mk (bk_new (g := w5.heap.size) H5.out.len)
          have hargs : #[pk (ad ++ e1) k, Value.pointer (some ⟨w5.heap.size, 0, none⟩)] = #[pk (ad ++ (e1 ++ e2) ++ [g5] ++ [w5.heap.size]) k, pk (ad ++ (e1 ++ e2) ++ [g5] ++ [w5.heap.size]) (s2.length + 1)] := by
            have hkl : k < s2.length := by have := Hk.out.1; have := Hlen.out; omega
            have e1' : pk (ad ++ (e1 ++ e2) ++ [g5] ++ [w5.heap.size]) k = pk (ad ++ e1) k := by
              rw [pk_app (ad := ad ++ (e1 ++ e2) ++ [g5]) (e := [w5.heap.size]) (by rw [H5.out.len, List.length_append]; omega), pk_app (ad := ad ++ (e1 ++ e2)) (e := [g5]) (by rw [H4.out.len]; exact hkl), HKK.out]
            have e2' : pk (ad ++ (e1 ++ e2) ++ [g5] ++ [w5.heap.size]) (s2.length + 1) = .pointer (some ⟨w5.heap.size, 0, none⟩) := by
              have := Hb6.out
              rw [List.length_append] at this
              unfold pk
              rw [show s2.length + 1 = s2.length + [(⟨none, false, none, none⟩ : KN)].length from rfl, this]
            rw [e1', e2']
          refine Calls.mono (calls_of_args hargs (join_calls B (ad ++ (e1 ++ e2) ++ [g5] ++ [w5.heap.size]) k1 _ k (s2.length + 1) rj s3 _ H6.out HJ.out)) ?_
          rintro e w7 ⟨rfl, h7, t7⟩
          have hszX := HB6.out.size
          have happ : ad ++ (e1 ++ e2) ++ [g5] ++ [w5.heap.size] = ad ++ (e1 ++ e2 ++ [g5] ++ [w5.heap.size]) := by simp [List.append_assoc]
          have HE7 := Aside0.mk (show ∀ b, b ∈ e1 ++ e2 ++ [g5] ++ [w5.heap.size] → w.heap.size ≤ b from fun b hb => by
            rcases List.mem_append.1 hb with hb | hb
            · rcases List.mem_append.1 hb with hb | hb
              · exact HE4.out b hb
              · rw [List.mem_singleton] at hb; omega
            · rw [List.mem_singleton] at hb; omega)
          have HT7 := Aside0.mk (Turned.trans HT6.out t7 (fun k hk hlt => by
            rw [happ] at hk
            rcases List.mem_append.1 hk with hk | hk
            · exact hk
            · have := HE7.out k hk; omega))
          have HB7 := Aside0.mk (Turned.below t7 HB6.out HB6.out.size (fun k hk => Nat.le_trans hw0 (H6.out.ge k hk)))
          have hl7 := h7.len
          have hl6 := H6.out.len
          have hg5l : pk (ad ++ (e1 ++ e2) ++ [g5] ++ [w5.heap.size]) s2.length = .pointer (some ⟨g5, 0, none⟩) := by
            rw [pk_app (ad := ad ++ (e1 ++ e2) ++ [g5]) (e := [w5.heap.size]) (by rw [H5.out.len, List.length_append]; simp)]
            unfold pk
            rw [Hb5.out]
          rw [happ] at h7 hl7 hg5l
          have H7 := Aside0.mk h7
          have HG7 := Aside0.mk hg5l
          have Hl7 := Aside0.mk (show s2.length < s3.length ∧ s.length ≤ s3.length from by
            have e := hl6.symm.trans (by rw [happ] : _)
            rw [happ] at hl6
            rw [← hl7, hl6, List.length_append, List.length_append]
            have := Hlen.out; have := Hk.out.2
            simp only [List.length_cons, List.length_nil]
            omega)
          have hm3 := HM3.out
          clear h7 t7 hl7 hl6 hg5l hargs happ hb6 hbox6 hge5 hge6 hszX H4 H5 H6 HT4 HT5 HT6 HB4 HB5 HB6 HE4 HM3
          cases rj with
          | false =>
            injection hm3 with e
            injection e with ea eb
            subst ea eb
            go_wp2_with fail
            go_ret2
            first | exact ⟨_, _, rfl, rfl, H7.out, HT7.out, HE7.out⟩ | exact ⟨_, _, rfl, (fun k hk => by cases hk), fun _ => rfl, H7.out, HT7.out, HE7.out⟩
          | true =>
            simp only at hm3
            have HM4 := Aside0.mk hm3
            clear hm3
            go_wp2_with fail
            go_roundg k1
            case measure => omega
            case rel => exact ⟨i + 1, s2.length, s3, _, HG7.out.symm, (by
              have h1 := Hlt.out
              have h2 := HR.out.2.1
              exact congrArg (Value.int .i64) (by unfold wrap64; omega)), ⟨by have := Hi.out.1; omega, Hlt.out⟩, HM4, H7, ⟨Hl7.out.1, Hl7.out.2⟩, HT7, HE7, HB7⟩
      · have hie : i = l.length := by omega
        rw [hie, List.drop_length] at hm
        cases gk with
        | zero => exact absurd hm (by simp [ftermL])
        | succ k1 =>
        unfold ftermL at hm
        injection hm with e
        injection e with ea eb
        subst ea eb
        clear hie
        go_wp2_with fail
        go_ret2
        first | exact ⟨e1, _, rfl, ⟨rfl, Hk.out.1⟩, H1.out, HT1.out, HE1.out⟩ | exact ⟨e1, _, rfl, (fun k hk => by injection hk with hk; subst hk; exact ⟨rfl, Hk.out.1⟩), (fun hk => by cases hk), H1.out, HT1.out, HE1.out⟩
  rw [if_neg hk1] at hh
  obtain ⟨x, hp, hpe⟩ := Option.map_eq_some_iff.1 hh
  have hkb0 : (kd == 0) = false := beq_eq_false_iff_ne.2 hk0
  have hkb1 : (kd == 1) = false := beq_eq_false_iff_ne.2 hk1
  have hpl : n.toNat < E.syms.length := (List.getElem?_eq_some_iff.1 hp).1
  obtain ⟨adr, he, hx1, hx2⟩ := at_T59 HCs.out n (by omega) (by omega)
  cases he
  replace hx1 := (HB.out.cell (World.block_lt_of_cell? w0 _ hx1)).trans hx1
  replace hx2 := (HB.out.cell (World.block_lt_of_cell? w0 _ hx2)).trans hx2
  have p1 : (0 ≤ n) = True := eq_true (by omega)
  have p2 : (n < (E.syms.length : Int)) = True := eq_true (by omega)
  have Hp := Aside0.mk hp
  have HE := Aside0.mk hpe
  clear hh hp hfin hpe
  go_enter Try.func38, Try.ntmps38
  go_wp2_with (
    (with_reducible refine gate_dst (N := 3) rfl ?_)
    refine box_event ?hg (N := 3) ?hd (cs := #[.int .i64 kd, .int .i64 n, .slice A l.length c]) (t := 44) ?hr ?_
    (case hd => rfl)
    (case hg => rfl)
    (case hr => first | (go_simp; done) | (go_simp; rfl))
    intro g3 hg3 w2 hbox hb2
    have S3 := Aside0.mk hbox
    have Hb2 := Aside0.mk hb2
    have hc0 : w2.cell? ⟨g3, 0, none⟩ = some (.int .i64 kd) := (blk_cell hbox 0).trans rfl
    have hge3 : w.heap.size ≤ g3 := by omega
    clear hbox hb2 hg3)
  have hxe : rd_T59 E.syms n = x := by
    have := Hp.out
    unfold rd_T59
    rw [List.getD_eq_getElem?_getD, this]
    rfl
  rw [hxe] at hx2
  have c1 : w2.cell? ⟨g3, 1, none⟩ = some (.int .i64 n) := (blk_cell S3.out 1).trans rfl
  have c2 : w2.cell? ⟨gf, 1, none⟩ = some (.slice (some adr) E.syms.length cs) := (blk_cell (blk_below Hfin.out Hb2.out) 1).trans rfl
  have c3 : w2.cell? { block := (adr.add (n.toNat * 2)).block, off := (adr.add (n.toNat * 2)).off + 1 } = some (.int .i64 x.f1) := (Hb2.out.cell (World.block_lt_of_cell? w _ hx2)).trans hx2
  have hrx := hrk x (List.mem_of_getElem? Hp.out)
  clear hx1 hx2 hxe
  go_region_held3 (fun w' => w'.cell? ⟨g3, 1, none⟩ = some (.int .i64 n) ∧ w'.cell? ⟨gf, 1, none⟩ = some (.slice (some adr) E.syms.length cs) ∧ w'.cell? { block := (adr.add (n.toNat * 2)).block, off := (adr.add (n.toNat * 2)).off + 1 } = some (.int .i64 x.f1)) (go_keep) (fail)
  have HBw := Aside0.mk (below_drew Hb2.out)
  have S3q := Aside0.mk (blk_drew S3.out)
  clear c1 c2 c3 hc0 Hb2 S3
  generalize w2.drew = wq at *
  go_wp2_with fail
  go_loopg [7, 24] x.f1.toNat (fun kq v7 v24 wr => ∃ (i : Nat) (A7 : Option Addr) (c7 : Nat), v7 = .slice A7 i c7 ∧ v24 = .int .i64 (i : Int) ∧ Aside0 (i + kq = x.f1.toNat) ∧ Aside0 ((Kd.raw 1).R 72 wr w.heap.size (fun k => k ≠ g3) (.slice A7 i c7) (List.replicate i [pk ad E.o])) ∧ Aside0 (Below w.heap.size w wr) ∧ Aside0 (wr.heap[g3]? = some (.cells #[.int .i64 kd, .int .i64 n, .slice A l.length c] 44 (0, 0))))
  case atStart => exact ⟨0, none, 0, rfl, rfl, ⟨by omega⟩, ⟨Kd.R_nil _ _ _ _ _⟩, HBw, S3q⟩
  case round =>
    clear HBw S3q
    obtain ⟨i, A7, c7, rfl, rfl, Hi, HRo, HBr, S3r⟩ := hrel
    have hcf : wr.cell? ⟨gf, 0, none⟩ = some (pk ad E.o) := (blk_cell (blk_below Hfin.out HBr.out) 0).trans rfl
    by_cases hlt : (i : Int) < x.f1
    · cases gk with
      | zero => exact absurd Hi.out (by omega)
      | succ k1 =>
      have hszr := below_size HBr.out
      go_wp2_with (at_builtin; refine holdI5 ?_)
      unfold HoldI5
      refine Kd.R_append (Kd.raw 1) (w0 := w) w.heap.size rfl (.tmp 26) (.tmp 31) 75 72 (.pointer none) 8 rfl Try.underlying75 (by kernel_rfl) rfl (by decide) (by omega) (.slice A7 i c7) (List.replicate i [pk ad E.o]) [pk ad E.o] [pk ad E.o] (fun k => k ≠ g3) (fun k => k ≠ g3 ∧ some k ≠ (Value.slice A7 i c7).ownBlock) rfl rfl ?aP (fun _ hk => hk) ?aF ?aO ?aB ?aS ?aL ?_
      (case aP => exact ⟨rfl, rfl, by intro u hu; rw [List.mem_singleton] at hu; subst hu; rfl⟩)
      (case aB => exact HBr.out)
      (case aF => intro k hk; have h1 := blk_lt S3r.out; omega)
      (case aO => exact HRo.out)
      (case aS => exact hszr)
      (case aL => rw [List.length_replicate]; have := Hi.out; omega)
      intro v2 w5 ho hb hg2 hat
      rw [show List.replicate i [pk ad E.o] ++ [[pk ad E.o]] = List.replicate (i + 1) [pk ad E.o] from List.replicate_succ'.symm] at ho
      obtain ⟨A2, c2, e2⟩ := Kd.R_slice ho
      rw [List.length_replicate] at e2
      subst e2
      have S3n := Aside0.mk (blk_grown S3r.out hg2 (Kd.R_away HRo.out (fun k hk => hk)))
      have HOn := Aside0.mk ho
      have HBn := Aside0.mk hb
      clear ho hb hg2 hat S3r HRo HBr hszr hcf
      go_wp2_with fail
      go_roundg k1
      case measure => omega
      case rel => exact ⟨i + 1, A2, c2, rfl, congrArg (Value.int .i64) (by have := Hi.out; first | rfl | (unfold wrap64; omega)), ⟨by have := Hi.out; omega⟩, HOn, HBn, S3n⟩
    · have hie : i = x.f1.toNat := by have := Hi.out; omega
      have hlp : (List.replicate x.f1.toNat E.o).length = i := by rw [List.length_replicate, hie]
      have HP := Aside0.mk (show Ptrs ad wr A7 (List.replicate x.f1.toNat E.o) from by
        refine ⟨by rw [List.length_replicate]; omega, fun p hp => by rw [(List.mem_replicate.1 hp).2, HH.out.len]; exact HFi.out.o, fun h0 => ?_⟩
        obtain ⟨_, _, hC⟩ := Kd.R_reads' HRo.out
        have hi0 : 0 < i := Nat.lt_of_lt_of_eq h0 hlp
        obtain ⟨ad0, c0, he0, _⟩ := Kd.C_get hC [] 0 (by omega) (by rw [List.length_replicate]; omega)
        refine ⟨ad0, he0, fun j p hj => ?_⟩
        have hjl : j < i := by have := (List.getElem?_eq_some_iff.1 hj).1; rw [hlp] at this; exact this
        have hpo : p = E.o := (List.mem_replicate.1 (List.mem_of_getElem? hj)).2
        obtain ⟨ad1, c1, he1, hcl, hK, hcc⟩ := Kd.C_get hC [] (j : Int) (by omega) (by rw [List.length_replicate]; omega)
        rw [he0] at he1
        injection he1 with he1
        subst he1
        have hc1 : c1 = [pk ad E.o] := by
          have h1 := hK.1
          rw [Int.toNat_natCast, List.getD_eq_getElem?_getD, List.getElem?_replicate, if_pos hjl] at h1
          exact h1
        have := hcc 0 (pk ad E.o) (by rw [hc1]; rfl)
        rw [Int.toNat_natCast] at this
        rw [hpo]
        exact (congrArg wr.cell? (congrArg ad0.add (show j = j * (Kd.raw 1).sz + 0 from by show j = j * 1 + 0; omega))).trans this)
      go_wp2_with fail
      have hszr := below_size HBr.out
      refine Calls.mono (calls_of_args (by rw [List.length_replicate]) (arrow_calls B s ad E.o A7 c7 (List.replicate x.f1.toNat E.o) gf _ _ _ wr (Held.below HH.out HBr.out) HFi.out.o (Nat.le_trans hB hszr) HP.out (blk_below Hfin.out HBr.out))) ?_
      rintro e wq2 ⟨ad', rfl, hh5, hb5, hk5⟩
      have HHq0 := Aside0.mk hh5
      have hkq0 := hk5
      rw [HE.out] at HHq0 hkq0
      have HHq := Aside0.mk (show Held B s1 (ad ++ ad') wq2 from HHq0.out)
      have hkq : k < s1.length := hkq0.1
      rw [HE.out]
      have HEq := Aside0.mk (show ∀ b, b ∈ ad' → w.heap.size ≤ b from fun b hb => Nat.le_trans hszr (hk5.2 b hb))
      have HTq := Aside0.mk (Turned.trans (Turned.of_below (ok := fun k => k ∈ ad) HBr.out) (Turned.of_below (ok := fun k => k ∈ ad) hb5) (fun k hk _ => hk))
      have HBq := Aside0.mk (below_step HB.out (below_step HBr.out hb5))
      have c5 : wq2.cell? ⟨g3, 2, none⟩ = some (.slice A l.length c) := (blk_cell (blk_below S3r.out hb5) 2).trans rfl
      have hlq : s.length ≤ s1.length := by have h1 := HHq.out.len; have h2 := HH.out.len; rw [List.length_append] at h1; omega
      clear hh5 hk5 hb5 HHq0 hkq0 hlp hie HP HRo HBr S3r hcf hszr hlt Hi
      try dsimp only
      go_wp2_with fail
      go_loopg [6, 60] f (fun kq v6 v60 wr => ∃ (i k : Nat) (s1 : List KN) (e1 : List Nat), v6 = pk (ad ++ e1) k ∧ v60 = .int .i64 (i : Int) ∧ Aside0 (kq ≤ f ∧ i ≤ l.length) ∧ Aside0 (ftermL E kq s1 k (l.drop i) = some (r, s')) ∧ Aside0 (Held B s1 (ad ++ e1) wr) ∧ Aside0 (k < s1.length ∧ s.length ≤ s1.length) ∧ Aside0 (Turned (fun k => k ∈ ad) w wr) ∧ Aside0 (∀ b, b ∈ e1 → w.heap.size ≤ b) ∧ Aside0 (Below w0.heap.size w0 wr))
      case atStart => exact ⟨0, k, s1, ad', rfl, rfl, ⟨Nat.le_refl _, Nat.zero_le _⟩, HT, HHq, ⟨hkq, hlq⟩, HTq, HEq, HBq⟩
      case round =>
        clear HHq HTq HBq HEq c5
        obtain ⟨i, k, s1, e1, rfl, rfl, Hi, HM, H1, Hk, HT1, HE1, HB1⟩ := hrel
        have hm := HM.out
        have hi := Hi.out.2
        by_cases hlt : i < l.length
        · have Hlt := Aside0.mk hlt
          have hdrop := rd_T44_drop l i hlt
          obtain ⟨ad0, A1, c1, he, hx1, hx2, hx3, hl1, hi1⟩ := at_T44 HR.out (i : Int) (by omega) (by omega)
          cases he
          replace hx1 := (HB1.out.cell (World.block_lt_of_cell? w0 _ hx1)).trans hx1
          replace hx2 := (HB1.out.cell (World.block_lt_of_cell? w0 _ hx2)).trans hx2
          replace hx3 := (HB1.out.cell (World.block_lt_of_cell? w0 _ hx3)).trans hx3
          rw [Int.toNat_natCast] at hx1 hx2 hx3
          have Hl1 := Aside0.mk hl1
          have Hi1 := Aside0.mk hi1
          clear hl1 hi1
          have p1 : (0 ≤ (i : Int)) = True := eq_true (by omega)
          have p2 : ((i : Int) < (l.length : Int)) = True := eq_true (by omega)
          have p3 : (i < l.length) = True := eq_true (by omega)
          rw [hdrop] at hm
          generalize hx : rd_T44 l (i : Int) = x at *
          cases gk with
          | zero => exact absurd hm (by simp [ftermL])
          | succ k1 =>
          unfold ftermL at hm
          cases hft : fterm E k1 s1 x.f0 x.f1 x.f2 with
          | none => rw [hft] at hm; cases hm
          | some q =>
          obtain ⟨r2, s2⟩ := q
          rw [hft] at hm
          have HFT := Aside0.mk hft
          have HMM := Aside0.mk hm
          clear hx hdrop hft hm HM
          go_wp2_with (
            (with_reducible refine gate_dst (N := 9) rfl ?_)
            refine box_event ?hg (N := 9) ?hd (cs := #[.int .i64 0, .int .i64 0, .slice none 0 0]) (t := 44) ?hr ?_
            (case hd => rfl)
            (case hg => rfl)
            (case hr => first | (go_simp; done) | (go_simp; rfl))
            intro gi hgi w3 hbox3 hb3
            have hsz := below_size HB1.out
            have hgiw : w0.heap.size ≤ gi := by omega
            have hgr : wr.heap.size ≤ gi := by omega
            have hbw := below_set (g := gi) (j := 2) (v := .slice A1 x.f2.length c1) (below_set (g := gi) (j := 1) (v := .int .i64 x.f1) (below_set (g := gi) (j := 0) (v := .int .i64 x.f0) hb3 hgr) hgr) hgr
            have HB3 := Aside0.mk (below_step HB1.out hbw)
            have H3 := Aside0.mk (Held.below H1.out hbw)
            have HT3 := Aside0.mk (Turned.trans HT1.out (Turned.of_below (ok := fun k => k ∈ ad) hbw) (fun k hk _ => hk))
            have Hgi := Aside0.mk (blk_put (cs' := #[.int .i64 x.f0, .int .i64 x.f1, .slice A1 x.f2.length c1]) (blk_put (cs' := #[.int .i64 x.f0, .int .i64 x.f1, .slice none 0 0]) (blk_put (cs' := #[.int .i64 x.f0, .int .i64 0, .slice none 0 0]) hbox3 0 (.int .i64 x.f0) rfl) 1 (.int .i64 x.f1) rfl) 2 (.slice A1 x.f2.length c1) rfl)
            have hci0 : (((w3.setCell ⟨gi, 0, none⟩ (.int .i64 x.f0)).setCell ⟨gi, 1, none⟩ (.int .i64 x.f1)).setCell ⟨gi, 2, none⟩ (.slice A1 x.f2.length c1)).cell? ⟨gi, 0, none⟩ = some (.int .i64 x.f0) := (blk_cell Hgi.out 0).trans rfl
            have hci1 : (((w3.setCell ⟨gi, 0, none⟩ (.int .i64 x.f0)).setCell ⟨gi, 1, none⟩ (.int .i64 x.f1)).setCell ⟨gi, 2, none⟩ (.slice A1 x.f2.length c1)).cell? ⟨gi, 1, none⟩ = some (.int .i64 x.f1) := (blk_cell Hgi.out 1).trans rfl
            have hci2 : (((w3.setCell ⟨gi, 0, none⟩ (.int .i64 x.f0)).setCell ⟨gi, 1, none⟩ (.int .i64 x.f1)).setCell ⟨gi, 2, none⟩ (.slice A1 x.f2.length c1)).cell? ⟨gi, 2, none⟩ = some (.slice A1 x.f2.length c1) := (blk_cell Hgi.out 2).trans rfl
            have hcz0 := (blk_cell hbox3 0).trans rfl
            have hcz1 := (blk_cell hbox3 1).trans rfl
            have hcz2 := (blk_cell hbox3 2).trans rfl
            have hfz0 := blk_frozen hbox3 0
            have hfz1 := blk_frozen hbox3 1
            have hfz2 := blk_frozen hbox3 2
            clear hbox3 hb3 hsz hgi hgr hbw HB1 H1 HT1)
          have hF3 := Find.move HFi.out HT3.out HE1.out Hk.out.2 HH.out.len
          (with_reducible refine (IH.out k1 (by have := Hi.out.1; omega) s1 (ad ++ e1) x.f0 x.f1 x.f2 A1 c1 r2 s2 w0 _ H3.out _ cs hF3 HCs.out (Nat.le_trans hB HT3.out.size) hw0 Hi1.out Hl1.out HB3.out HFT.out).mono ?_)
          rintro e w4 ⟨e2, v, rfl, hv1, hv2, h4, t4, he2⟩
          have hszW := HT3.out.size
          have HT4 := Aside0.mk (Turned.trans HT3.out t4 (fun k hk hlt => by rcases List.mem_append.1 hk with hk | hk; exact hk; have := HE1.out k hk; omega))
          have HE4 := Aside0.mk (show ∀ b, b ∈ e1 ++ e2 → w.heap.size ≤ b from fun b hb => by rcases List.mem_append.1 hb with hb | hb; exact HE1.out b hb; have := he2 b hb; omega)
          have HB4 := Aside0.mk (Turned.below t4 HB3.out HB3.out.size (fun k hk => Nat.le_trans hw0 (H3.out.ge k hk)))
          have h4' : Held B s2 (ad ++ (e1 ++ e2)) w4 := by rw [← List.append_assoc]; exact h4
          have H4 := Aside0.mk h4'
          have hl1 := H3.out.len
          have hl2 := h4.len
          have hlen2 : s1.length ≤ s2.length := by rw [← hl1, ← hl2, show (ad ++ e1 ++ e2).length = (ad ++ e1).length + e2.length from List.length_append]; omega
          have Hlen := Aside0.mk hlen2
          have HKK := Aside0.mk (show pk (ad ++ e1) k = pk (ad ++ (e1 ++ e2)) k from by rw [← List.append_assoc]; exact (pk_app (ad := ad ++ e1) (e := e2) (by rw [hl1]; exact Hk.out.1)).symm)
          have hmm2 := HMM.out
          clear hci0 hci1 hci2 hcz0 hcz1 hcz2 hfz0 hfz1 hfz2 t4 he2 h4 h4' hl1 hl2 hF3 HT3 HB3 H3 Hgi hlen2 HMM hszW
          cases r2 with
          | none =>
            injection hmm2 with e
            injection e with ea eb
            subst ea eb
            have hv := hv2 rfl
            subst hv
            clear hv1 hv2
            go_wp2_with fail
            go_ret2
            first | exact ⟨e1 ++ e2, _, rfl, rfl, H4.out, HT4.out, HE4.out⟩ | exact ⟨e1 ++ e2, _, rfl, (fun k hk => by cases hk), fun _ => rfl, H4.out, HT4.out, HE4.out⟩
          | some xk =>
            simp only at hmm2
            obtain ⟨hve, hxl⟩ := hv1 xk rfl
            rw [List.append_assoc] at hve
            subst hve
            cases hj : fjoin k1 (s2 ++ [⟨none, false, none, none⟩] ++ [⟨none, false, some xk, some s2.length⟩]) k (s2.length + 1) with
            | none => rw [hj] at hmm2; cases hmm2
            | some q =>
            obtain ⟨rj, s3⟩ := q
            rw [hj] at hmm2
            have HJ := Aside0.mk hj
            have HM3 := Aside0.mk hmm2
            have Hxl := Aside0.mk hxl
            clear hj hmm2 hv1 hv2 hxl
            go_wp2_with (first
             | ((with_reducible refine gate_dst (N := 73) rfl ?_)
                refine box_event ?hg (N := 73) ?hd (cs := #[.pointer none, .bool false, .pointer none, .pointer none]) (t := 74) ?hr ?_
                (case hd => rfl)
                (case hg => rfl)
                (case hr => first | (go_simp; done) | (go_simp; rfl))
                intro g5 hg5 w5 hbox hb5
                have H5 := Aside0.mk (Held.push (n := ⟨none, false, none, none⟩) H4.out hb5 (Nat.le_of_eq hg5.symm) (Nat.le_trans hB HT4.out.size) ⟨(by intro j hj; cases hj), (by intro j hj; cases hj), (by intro j hj; cases hj)⟩ hbox)
                have HT5 := Aside0.mk (Turned.trans HT4.out (Turned.of_below (ok := fun k => k ∈ ad) hb5) (fun k hk _ => hk))
                have HB5 := Aside0.mk (below_step HB4.out hb5)
                have hge5 : w.heap.size ≤ g5 := by have := HT4.out.size; omega
                have Hb5 := Aside0.mk (bk_new (g := g5) H4.out.len)
                clear hbox hb5 hg5)
             | fail)
            have hb6 := below_alloc (Below.refl w5.heap.size w5) (.cells #[.pointer none, .bool false, pk (ad ++ (e1 ++ e2)) xk, .pointer (some ⟨g5, 0, none⟩)] 74 (0, 0))
            have hbox6 := blk_new w5 (.cells #[.pointer none, .bool false, pk (ad ++ (e1 ++ e2)) xk, .pointer (some ⟨g5, 0, none⟩)] 74 (0, 0))
            have H6 := Aside0.mk (Held.push (n := ⟨none, false, some xk, some s2.length⟩) H5.out hb6 (Nat.le_refl _) (Nat.le_trans hB HT5.out.size) ⟨(by intro j hj; cases hj), (by intro j hj; injection hj with hj; rw [List.length_append]; have := Hxl.out; omega), (by intro j hj; injection hj with hj; rw [List.length_append]; simp only [List.length_cons, List.length_nil]; omega)⟩ (by rw [hbox6]; unfold kcells; show _ = some (Obj.cells #[.pointer none, .bool false, pk (ad ++ (e1 ++ e2) ++ [g5]) xk, pk (ad ++ (e1 ++ e2) ++ [g5]) s2.length] 74 (0, 0)); rw [pk_app (ad := ad ++ (e1 ++ e2)) (e := [g5]) (by rw [H4.out.len]; exact Hxl.out)]; unfold pk; rw [Hb5.out]))
            have HT6 := Aside0.mk (Turned.trans HT5.out (Turned.of_below (ok := fun k => k ∈ ad) hb6) (fun k hk _ => hk))
            have HB6 := Aside0.mk (below_step HB5.out hb6)
            have hge6 : w.heap.size ≤ w5.heap.size := HT5.out.size
            have Hb6 := Aside0.mk (bk_new (g := w5.heap.size) H5.out.len)
            have hargs : #[pk (ad ++ e1) k, Value.pointer (some ⟨w5.heap.size, 0, none⟩)] = #[pk (ad ++ (e1 ++ e2) ++ [g5] ++ [w5.heap.size]) k, pk (ad ++ (e1 ++ e2) ++ [g5] ++ [w5.heap.size]) (s2.length + 1)] := by
              have hkl : k < s2.length := by have := Hk.out.1; have := Hlen.out; omega
              have e1' : pk (ad ++ (e1 ++ e2) ++ [g5] ++ [w5.heap.size]) k = pk (ad ++ e1) k := by
                rw [pk_app (ad := ad ++ (e1 ++ e2) ++ [g5]) (e := [w5.heap.size]) (by rw [H5.out.len, List.length_append]; omega), pk_app (ad := ad ++ (e1 ++ e2)) (e := [g5]) (by rw [H4.out.len]; exact hkl), HKK.out]
              have e2' : pk (ad ++ (e1 ++ e2) ++ [g5] ++ [w5.heap.size]) (s2.length + 1) = .pointer (some ⟨w5.heap.size, 0, none⟩) := by
                have := Hb6.out
                rw [List.length_append] at this
                unfold pk
                rw [show s2.length + 1 = s2.length + [(⟨none, false, none, none⟩ : KN)].length from rfl, this]
              rw [e1', e2']
            refine Calls.mono (calls_of_args hargs (join_calls B (ad ++ (e1 ++ e2) ++ [g5] ++ [w5.heap.size]) k1 _ k (s2.length + 1) rj s3 _ H6.out HJ.out)) ?_
            rintro e w7 ⟨rfl, h7, t7⟩
            have hszX := HB6.out.size
            have happ : ad ++ (e1 ++ e2) ++ [g5] ++ [w5.heap.size] = ad ++ (e1 ++ e2 ++ [g5] ++ [w5.heap.size]) := by simp [List.append_assoc]
            have HE7 := Aside0.mk (show ∀ b, b ∈ e1 ++ e2 ++ [g5] ++ [w5.heap.size] → w.heap.size ≤ b from fun b hb => by
              rcases List.mem_append.1 hb with hb | hb
              · rcases List.mem_append.1 hb with hb | hb
                · exact HE4.out b hb
                · rw [List.mem_singleton] at hb; omega
              · rw [List.mem_singleton] at hb; omega)
            have HT7 := Aside0.mk (Turned.trans HT6.out t7 (fun k hk hlt => by
              rw [happ] at hk
              rcases List.mem_append.1 hk with hk | hk
              · exact hk
              · have := HE7.out k hk; omega))
            have HB7 := Aside0.mk (Turned.below t7 HB6.out HB6.out.size (fun k hk => Nat.le_trans hw0 (H6.out.ge k hk)))
            have hl7 := h7.len
            have hl6 := H6.out.len
            have hg5l : pk (ad ++ (e1 ++ e2) ++ [g5] ++ [w5.heap.size]) s2.length = .pointer (some ⟨g5, 0, none⟩) := by
              rw [pk_app (ad := ad ++ (e1 ++ e2) ++ [g5]) (e := [w5.heap.size]) (by rw [H5.out.len, List.length_append]; simp)]
              unfold pk
              rw [Hb5.out]
            rw [happ] at h7 hl7 hg5l
            have H7 := Aside0.mk h7
            have HG7 := Aside0.mk hg5l
            have Hl7 := Aside0.mk (show s2.length < s3.length ∧ s.length ≤ s3.length from by
              have e := hl6.symm.trans (by rw [happ] : _)
              rw [happ] at hl6
              rw [← hl7, hl6, List.length_append, List.length_append]
              have := Hlen.out; have := Hk.out.2
              simp only [List.length_cons, List.length_nil]
              omega)
            have hm3 := HM3.out
            clear h7 t7 hl7 hl6 hg5l hargs happ hb6 hbox6 hge5 hge6 hszX H4 H5 H6 HT4 HT5 HT6 HB4 HB5 HB6 HE4 HM3
            cases rj with
            | false =>
              injection hm3 with e
              injection e with ea eb
              subst ea eb
              go_wp2_with fail
              go_ret2
              first | exact ⟨_, _, rfl, rfl, H7.out, HT7.out, HE7.out⟩ | exact ⟨_, _, rfl, (fun k hk => by cases hk), fun _ => rfl, H7.out, HT7.out, HE7.out⟩
            | true =>
              simp only at hm3
              have HM4 := Aside0.mk hm3
              clear hm3
              go_wp2_with fail
              go_roundg k1
              case measure => omega
              case rel => exact ⟨i + 1, s2.length, s3, _, HG7.out.symm, (by
                have h1 := Hlt.out
                have h2 := HR.out.2.1
                exact congrArg (Value.int .i64) (by unfold wrap64; omega)), ⟨by have := Hi.out.1; omega, Hlt.out⟩, HM4, H7, ⟨Hl7.out.1, Hl7.out.2⟩, HT7, HE7, HB7⟩
        · have hie : i = l.length := by omega
          rw [hie, List.drop_length] at hm
          cases gk with
          | zero => exact absurd hm (by simp [ftermL])
          | succ k1 =>
          unfold ftermL at hm
          injection hm with e
          injection e with ea eb
          subst ea eb
          clear hie
          go_wp2_with fail
          go_ret2
          first | exact ⟨e1, _, rfl, ⟨rfl, Hk.out.1⟩, H1.out, HT1.out, HE1.out⟩ | exact ⟨e1, _, rfl, (fun k hk => by injection hk with hk; subst hk; exact ⟨rfl, Hk.out.1⟩), (fun hk => by cases hk), H1.out, HT1.out, HE1.out⟩
end Go.Proofs.Ytfhgoebgnilfaaa.I
namespace Go.Proofs.Ytfhgoebgnilfaaa.I
open Go.RowKit Go.Proofs.YtfhgoebgnilfaaaW.PrintWords Go.Proofs.YtfhgoebgnilfaaaW.PrintLast Go.Proofs.YtfhgoebgnilfaaaW.PrintMore
open Go.WideShapes Go.Maps Go.ChangeMaps Go.WideMaps
set_option linter.unusedVariables false
set_option maxRecDepth 100000
set_option linter.unusedSimpArgs false
def lits (L : List ByteArray) : List Lit := L.map (fun s => Lit.string s.data.toList)
def isIn (L : List ByteArray) (s : ByteArray) : Bool := L.any (fun x => x.data.toList == s.data.toList)
def Seen (w : World) (b n : Nat) (L : List ByteArray) : Prop := w.ownsMap (H := Unit) Try.prog 9 (plainElem Try.prog 4) b n (setOf (.lit (.bool true)) (lits L))
theorem seen_made (w : World) : Seen (w.alloc (.map #[] 0)) w.heap.size 0 [] := World.ownsMap_made w Try.prog 9 _
theorem bool_inv {e : TypeId} (he : Try.prog.underlying e = some .bool) {v : Value} {z : DataW Unit × List MemPlace} (h : plainElem Try.prog e v = some z) : ∃ x, v = .bool x ∧ z = (.lit (.bool x), []) := by
  unfold plainElem at h
  rw [he] at h
  cases v <;> simp at h
  exact ⟨_, rfl, h.symm⟩
theorem iskey (x : ByteArray) : WideAt.IsKeyLit (Lit.string x.data.toList) := trivial
theorem atKey_set (L : List ByteArray) (s : ByteArray) : (setOf (H := Unit) (.lit (.bool true)) (lits L)).atKey (.string s.data.toList) (.lit (.bool false)) = .lit (.bool (isIn L s)) := by
  have gen : ∀ (M : List ByteArray), (setOf (H := Unit) (.lit (.bool true)) (lits M.reverse)).atKey (.string s.data.toList) (.lit (.bool false)) = .lit (.bool (isIn M s)) := by
    intro M
    induction M with
    | nil => rfl
    | cons x M ih =>
      have e : lits (x :: M).reverse = lits M.reverse ++ [Lit.string x.data.toList] := by simp [lits]
      have hk : ∀ y ∈ lits M.reverse, WideAt.IsKeyLit y := by
        intro y hy
        obtain ⟨z, _, rfl⟩ := List.mem_map.1 hy
        exact iskey z
      rw [e, setOf_snoc]
      by_cases hx : x.data.toList = s.data.toList
      · rw [hx, atKey_put_same (tidy_setOf _ _ hk).isMap (iskey s)]
        have : (x.data.toList == s.data.toList) = true := beq_iff_eq.2 hx
        unfold isIn
        rw [List.any_cons, this]
        rfl
      · have hne : Lit.string s.data.toList ≠ Lit.string x.data.toList := by
          intro h
          injection h with h
          exact hx h.symm
        rw [atKey_put_other hne, ih]
        have : (x.data.toList == s.data.toList) = false := beq_eq_false_iff_ne.2 hx
        unfold isIn
        rw [List.any_cons, this]
        rfl
  have := gen L.reverse
  rw [List.reverse_reverse] at this
  rw [this]
  simp [isIn, List.any_reverse]
theorem law9 : Keyed Try.prog 9 := string_keyed Try.underlying9
theorem zero4 (w : World) : (zeroValue 4).run Try.prog w = .ok (.bool false) w := by kernel_rfl
theorem seen_look {w : World} {b n : Nat} {L : List ByteArray} (h : Seen w b n L) (s : ByteArray) (hs : s.size ≤ maxLen) : (Instr.lookup 64 (.map (some b)) (.string s) false).run Try.prog w = .ok (.bool (isIn L s)) w := by
  obtain ⟨v, ps, hrun, hv⟩ := World.ownsMap.lookup (t := 64) h law9 Try.underlying64 (zero4 w) (plainElem_bool Try.underlying4 false) (keyOf_string_mk Try.underlying9 hs)
  obtain ⟨x, rfl, hx⟩ := bool_inv Try.underlying4 hv
  injection hx with hx _
  rw [atKey_set] at hx
  injection hx with hx
  injection hx with hx
  rw [hrun, hx]
theorem Seen.grown {w w1 : World} {b n : Nat} {L : List ByteArray} (h : Seen w b n L) (hb : Below w.heap.size w w1) : Seen w1 b n L :=
  World.ownsMap.kept (row := none) h ⟨hb.os, hb.tape, hb.output, hb.size, fun i hi _ => hb.block i hi⟩ (by simp)
theorem Seen.set {w : World} {b n : Nat} {L : List ByteArray} (h : Seen w b n L) {p : Addr} (hp : b ≠ p.block) (u : Value) : Seen (w.setCell p u) b n L := by
  obtain ⟨es, clock, hb, r⟩ := h
  exact ⟨es, clock, by rw [Below.heap_setCell _ _ _ _ hp]; exact hb, r⟩
theorem Seen.lt {w : World} {b n : Nat} {L : List ByteArray} (h : Seen w b n L) : b < w.heap.size := World.ownsMap.lt h
theorem seen_put {b n : Nat} {L : List ByteArray} {s : ByteArray} {w' : World} (h : w'.ownsMap (H := Unit) Try.prog 9 (plainElem Try.prog 4) b (n + 1) ((setOf (.lit (.bool true)) (lits L)).put (.string s.data.toList) (.lit (.bool true)))) : Seen w' b (n + 1) (L ++ [s]) := by
  unfold Seen
  rw [show lits (L ++ [s]) = lits L ++ [Lit.string s.data.toList] from by simp [lits], setOf_snoc]
  exact h
end Go.Proofs.Ytfhgoebgnilfaaa.I
namespace Go.Proofs.Ytfhgoebgnilfaaa.I
open Go.RowKit Go.Proofs.YtfhgoebgnilfaaaW.PrintWords Go.Proofs.YtfhgoebgnilfaaaW.PrintLast Go.Proofs.YtfhgoebgnilfaaaW.PrintMore
set_option linter.unusedVariables false
set_option maxRecDepth 100000
set_option linter.unusedSimpArgs false
theorem w64 (x : Int) (h : -1000000 ≤ x ∧ x ≤ 1000000) : wrap64 x = x := by unfold wrap64; omega
theorem Ev.ifp {α : Type} {c : Prop} [Decidable c] {f g : Nat → Option α} {r : α} (h : c) (k : Ev f r) : Ev (fun n => if c then f n else g n) r := by
  simp only [if_pos h]; exact k
theorem Ev.ifn {α : Type} {c : Prop} [Decidable c] {f g : Nat → Option α} {r : α} (h : ¬ c) (k : Ev g r) : Ev (fun n => if c then f n else g n) r := by
  simp only [if_neg h]; exact k
def okc (b : Int) : Bool := decide ((97 ≤ b ∧ b ≤ 122) ∨ (48 ≤ b ∧ b ≤ 57) ∨ b = 95)
theorem chr_ite {α : Type} (b : Int) (c d : α) : (if b < 97 then (if b < 48 then (if b = 95 then c else d) else (if b > 57 then (if b = 95 then c else d) else c)) else (if b > 122 then (if b < 48 then (if b = 95 then c else d) else (if b > 57 then (if b = 95 then c else d) else c)) else c)) = if okc b = true then c else d := by
  unfold okc
  simp only [decide_eq_true_eq]
  repeat' split
  all_goals first | rfl | (exfalso; omega)
def chars (s : ByteArray) : Nat → Nat → Bool
  | 0, _ => true
  | n + 1, i => okc (bt s (i : Int)) && chars s n (i + 1)
def nameOk (s : ByteArray) : Bool := decide (1 ≤ s.size ∧ s.size ≤ 24 ∧ 97 ≤ bt s 0 ∧ bt s 0 ≤ 122) && chars s s.size 0
theorem name_loop (s : ByteArray) (hs : s.size ≤ 24) : ∀ (n i : Nat), i + n = s.size → Ev (fun k => term_Name.l0 k s (s.size : Int) (i : Int)) (chars s n i)
  | 0, i, h => Ev.step (fun k => by rw [term_Name.l0, if_neg (by omega)]; rfl) (Ev.now _)
  | n + 1, i, h => by
    refine Ev.step (fun k => by rw [term_Name.l0, if_pos (by omega), if_pos (by omega), if_pos (by omega), chr_ite]) ?_
    unfold chars
    cases hc : okc (bt s (i : Int))
    · exact Ev.ifn (by simp) (Ev.now _)
    · refine Ev.ifp rfl ?_
      rw [w64 _ (by omega)]
      exact name_loop s hs n (i + 1) (by omega)
theorem refname_loop (s : ByteArray) (hs : s.size ≤ 24) : ∀ (n i : Nat), i + n = s.size → Ev (fun k => virgationref02_Name.l0 k s (i : Int)) (chars s n i)
  | 0, i, h => Ev.step (fun k => by rw [virgationref02_Name.l0, if_neg (by omega)]; rfl) (Ev.now _)
  | n + 1, i, h => by
    refine Ev.step (fun k => by rw [virgationref02_Name.l0, if_pos (by omega), if_pos (by omega), chr_ite]) ?_
    unfold chars
    cases hc : okc (bt s (i : Int))
    · exact Ev.ifn (by simp) (Ev.now _)
    · refine Ev.ifp rfl ?_
      rw [w64 _ (by omega)]
      exact refname_loop s hs n (i + 1) (by omega)
theorem name_no (s : ByteArray) : Ev (fun k => term_Name.j0 k s true) false := Ev.step (fun k => by rw [term_Name.j0, if_pos rfl]) (Ev.now _)
theorem refname_no (s : ByteArray) : Ev (fun k => virgationref02_Name.j0 k s true) false := Ev.step (fun k => by rw [virgationref02_Name.j0, if_pos rfl]) (Ev.now _)
theorem nameOk_no {s : ByteArray} (h : ¬ (1 ≤ s.size ∧ s.size ≤ 24 ∧ 97 ≤ bt s 0 ∧ bt s 0 ≤ 122)) : nameOk s = false := by
  unfold nameOk
  rw [decide_eq_false h, Bool.false_and]
theorem name_ev (s : ByteArray) : Ev (fun k => term_Name.f k s) (nameOk s) := by
  unfold term_Name.f
  by_cases h1 : (s.size : Int) = 0
  · rw [nameOk_no (by omega)]; exact Ev.ifp h1 (name_no s)
  · by_cases h2 : (s.size : Int) > 24
    · rw [nameOk_no (by omega)]; exact Ev.ifn h1 (Ev.ifp h2 (name_no s))
    · refine Ev.ifn h1 (Ev.ifn h2 (Ev.ifp (by omega) ?_))
      by_cases h3 : bt s 0 < 97
      · rw [nameOk_no (by omega)]; exact Ev.ifp h3 (name_no s)
      · refine Ev.ifn h3 ?_
        by_cases h4 : bt s 0 > 122
        · rw [nameOk_no (by omega), decide_eq_true h4]; exact name_no s
        · rw [decide_eq_false h4]
          refine Ev.step (fun k => by rw [term_Name.j0, if_neg (by simp)]) ?_
          unfold nameOk
          rw [decide_eq_true (by omega), Bool.true_and]
          exact name_loop s (by omega) s.size 0 (by omega)
theorem refname_ev (s : ByteArray) : Ev (fun k => virgationref02_Name.f k s) (nameOk s) := by
  unfold virgationref02_Name.f
  by_cases h1 : (s.size : Int) < 1
  · rw [nameOk_no (by omega)]; exact Ev.ifp h1 (refname_no s)
  · by_cases h2 : (s.size : Int) > 24
    · rw [nameOk_no (by omega)]; exact Ev.ifn h1 (Ev.ifp h2 (refname_no s))
    · refine Ev.ifn h1 (Ev.ifn h2 (Ev.ifp (by omega) ?_))
      by_cases h3 : bt s 0 < 97
      · rw [nameOk_no (by omega)]; exact Ev.ifp h3 (refname_no s)
      · refine Ev.ifn h3 ?_
        by_cases h4 : bt s 0 > 122
        · rw [nameOk_no (by omega), decide_eq_true h4]; exact refname_no s
        · rw [decide_eq_false h4]
          refine Ev.step (fun k => by rw [virgationref02_Name.j0, if_neg (by simp)]) ?_
          unfold nameOk
          rw [decide_eq_true (by omega), Bool.true_and]
          exact refname_loop s (by omega) s.size 0 (by omega)
end Go.Proofs.Ytfhgoebgnilfaaa.I
namespace Go.Proofs.Ytfhgoebgnilfaaa.I
open Go.RowKit Go.Proofs.YtfhgoebgnilfaaaW.PrintWords Go.Proofs.YtfhgoebgnilfaaaW.PrintLast Go.Proofs.YtfhgoebgnilfaaaW.PrintMore
open Go.WideShapes Go.Maps Go.ChangeMaps Go.WideMaps
attribute [local go_sem] max2_int min2_int max_two min_two max_three min_three max_four min_four
set_option linter.unusedVariables false
set_option maxRecDepth 100000
set_option linter.unusedSimpArgs false
def symBad (x : S59) (L : List ByteArray) : Bool := !nameOk x.f0 || (isIn L x.f0 || (decide (x.f1 < 0) || decide (4 < x.f1)))
def symsL : List S59 → List ByteArray → Bool
  | [], _ => true
  | x :: xs, L => if symBad x L = true then false else symsL xs (L ++ [x.f0])
def names59 (l : List S59) : List ByteArray := l.map (fun x => x.f0)
def term_Symbols.f (l0 : List S59) : Option Bool := some (symsL l0 [] && decide (l0.length ≤ 24))
theorem rd_T59_drop (l : List S59) (i : Nat) (h : i < l.length) : l.drop i = rd_T59 l (i : Int) :: l.drop (i + 1) := by
  rw [List.drop_eq_getElem_cons h]
  simp [rd_T59, List.getD_eq_getElem?_getD, List.getElem?_eq_getElem h]
theorem rd_T59_take (l : List S59) (i : Nat) (h : i < l.length) : names59 (l.take i) ++ [(rd_T59 l (i : Int)).f0] = names59 (l.take (i + 1)) := by
  have e : l.take (i + 1) = l.take i ++ [l[i]] := by rw [List.take_add_one, List.getElem?_eq_getElem h]; rfl
  have e2 : rd_T59 l (i : Int) = l[i] := by unfold rd_T59; rw [Int.toNat_natCast, List.getD_eq_getElem?_getD, List.getElem?_eq_getElem h]; rfl
  rw [e, e2]
  unfold names59
  rw [List.map_append]
  rfl
theorem nameOk_size {s : ByteArray} (h : nameOk s = true) : s.size ≤ maxLen := by
  unfold nameOk at h
  rw [Bool.and_eq_true, decide_eq_true_eq] at h
  have := h.1.2.1
  unfold maxLen
  omega
def HoldI (p : Prop) : Prop := p
theorem holdI {p : Prop} (h : HoldI p) : p := h
theorem drawn_below {w w1 : World} (h : Drawn0 w w1) : Below w.heap.size w w1 := by
  obtain ⟨nd, rfl⟩ := h
  exact pw_below_drewN (Below.refl _ _) nd
set_option maxHeartbeats 4000000 in
theorem term_Symbols.calls (A0 : Option Addr) (c0 : Nat) (l0 : List S59) (r : Bool) (w : World) (hr0 : Kd.C k59 w A0 l0.length l0) (hc0 : l0.length ≤ c0) (h : term_Symbols.f l0 = some r) :
    Calls Try.prog 28 #[.slice A0 l0.length c0] w fun e w' => e = .returned (.bool r) ∧ Below w.heap.size w w' := by
  have hu59 := Try.underlying59
  have hmm := @run_makeMap Try.prog
  have hlen : l0.length ≤ 9223372036854775807 := hr0.2.1
  have HR := Aside0.mk hr0
  have HC := Aside0.mk hc0
  have H := Aside0.mk h
  clear hr0 hc0 h
  go_enter Try.func28, Try.ntmps28
  go_wp2_with fail
  go_loopg [9] l0.length (fun kq v9 wr => ∃ (i : Nat), v9 = .int .i64 (i : Int) ∧ Aside0 (kq + i = l0.length) ∧ Aside0 (Seen wr w.heap.size i (names59 (l0.take i))) ∧ Aside0 (symsL (l0.drop i) (names59 (l0.take i)) = symsL l0 []) ∧ Aside0 (Below w.heap.size w wr))
  case atStart => exact ⟨0, rfl, ⟨by omega⟩, ⟨seen_made w⟩, ⟨rfl⟩, ⟨below_alloc (Below.refl _ _) _⟩⟩
  case round =>
    obtain ⟨i, rfl, Hi, HS, HM, HB⟩ := hrel
    have hi : i ≤ l0.length := by have := Hi.out; omega
    by_cases hlt : i < l0.length
    · have hdrop := Aside0.mk (rd_T59_drop l0 i hlt)
      have htake := Aside0.mk (rd_T59_take l0 i hlt)
      obtain ⟨ad, he, hx1, hx2⟩ := at_T59 HR.out (i : Int) (by omega) (by omega)
      cases he
      replace hx1 := (HB.out.cell (World.block_lt_of_cell? w _ hx1)).trans hx1
      replace hx2 := (HB.out.cell (World.block_lt_of_cell? w _ hx2)).trans hx2
      rw [Int.toNat_natCast] at hx1 hx2
      have p1 : (0 ≤ (i : Int)) = True := eq_true (by omega)
      have p2 : ((i : Int) < (l0.length : Int)) = True := eq_true (by omega)
      have p3 : (i < l0.length) = True := eq_true (by omega)
      generalize hx : rd_T59 l0 (i : Int) = x at *
      clear hx
      obtain ⟨kN, hN⟩ := (name_ev x.f0).rounds
      have HN := Aside0.mk hN
      clear hN
      go_wp2_with (
        (with_reducible refine gate_dst (N := 5) rfl ?_)
        refine box_event ?hg (N := 5) ?hd (cs := #[.string (⟨#[]⟩ : ByteArray), .int .i64 0]) (t := 59) ?hr ?_
        (case hd => rfl)
        (case hg => rfl)
        (case hr => first | (go_simp; done) | (go_simp; rfl))
        intro gi hgi w3 hbox hb3
        have hsz := below_size HB.out
        have hgw : w.heap.size ≤ gi := by omega
        have hnb : w.heap.size ≠ gi := by have := HS.out.lt; omega
        have HB3 := Aside0.mk (below_set (g := gi) (j := 1) (v := .int .i64 x.f1) (below_set (g := gi) (j := 0) (v := .string x.f0) (below_step HB.out hb3) hgw) hgw)
        have HS3 := Aside0.mk (Seen.set (Seen.set (Seen.grown HS.out hb3) (p := ⟨gi, 0, none⟩) hnb (.string x.f0)) (p := ⟨gi, 1, none⟩) hnb (.int .i64 x.f1))
        have Hgi := Aside0.mk (blk_put (cs' := #[.string x.f0, .int .i64 x.f1]) (blk_put (cs' := #[.string x.f0, .int .i64 0]) hbox 0 (.string x.f0) rfl) 1 (.int .i64 x.f1) rfl)
        have hci0 : ((w3.setCell ⟨gi, 0, none⟩ (.string x.f0)).setCell ⟨gi, 1, none⟩ (.int .i64 x.f1)).cell? ⟨gi, 0, none⟩ = some (.string x.f0) := (blk_cell Hgi.out 0).trans rfl
        have hcz0 := (blk_cell hbox 0).trans rfl
        have hcz1 := (blk_cell hbox 1).trans rfl
        have hfz0 := blk_frozen hbox 0
        have hfz1 := blk_frozen hbox 1
        clear hbox hb3 hgi hsz)
      (with_reducible refine (term_Name.calls kN x.f0 (nameOk x.f0) _ HN.out).mono ?_)
      rintro e w4 ⟨rfl, hD⟩
      have hB4 := drawn_below hD
      have HB4 := Aside0.mk (below_step HB3.out hB4)
      have HS4 := Aside0.mk (Seen.grown HS3.out hB4)
      have Hg4 := Aside0.mk (blk_below Hgi.out hB4)
      have hc0 : w4.cell? ⟨gi, 0, none⟩ = some (.string x.f0) := (blk_cell Hg4.out 0).trans rfl
      have hc1 : w4.cell? ⟨gi, 1, none⟩ = some (.int .i64 x.f1) := (blk_cell Hg4.out 1).trans rfl
      clear hD hB4 HB HS HB3 HS3 Hgi hci0 hcz0 hcz1 hfz0 hfz1
      cases hn : nameOk x.f0 with
      | false =>
        have hr : r = false := by
          have e := H.out
          unfold term_Symbols.f at e
          rw [← HM.out, hdrop.out, symsL, if_pos (by simp [symBad, hn]), Bool.false_and] at e
          injection e with e
          exact e.symm
        subst hr
        go_wp2_with fail
        go_ret
        exact ⟨rfl, HB4.out⟩
      | true =>
        have hlk := seen_look HS4.out x.f0 (nameOk_size hn)
        cases hin : isIn (names59 (l0.take i)) x.f0 with
        | true =>
          have hr : r = false := by
            have e := H.out
            unfold term_Symbols.f at e
            rw [← HM.out, hdrop.out, symsL, if_pos (by simp [symBad, hn, hin]), Bool.false_and] at e
            injection e with e
            exact e.symm
          rw [hin] at hlk
          subst hr
          go_wp2_with fail
          go_ret
          exact ⟨rfl, HB4.out⟩
        | false =>
          rw [hin] at hlk
          by_cases h1 : x.f1 < 0
          · have h1b : decide (x.f1 < 0) = true := decide_eq_true h1
            have hr : r = false := by
              have e := H.out
              unfold term_Symbols.f at e
              rw [← HM.out, hdrop.out, symsL, if_pos (by simp [symBad, hn, hin, h1]), Bool.false_and] at e
              injection e with e
              exact e.symm
            clear h1
            subst hr
            go_wp2_with fail
            go_ret
            exact ⟨rfl, HB4.out⟩
          · have h1b : decide (x.f1 < 0) = false := decide_eq_false h1
            by_cases h2 : 4 < x.f1
            · have h2b : decide (4 < x.f1) = true := decide_eq_true h2
              have hr : r = false := by
                have e := H.out
                unfold term_Symbols.f at e
                rw [← HM.out, hdrop.out, symsL, if_pos (by simp [symBad, hn, hin, h1, h2]), Bool.false_and] at e
                injection e with e
                exact e.symm
              clear h1 h2
              subst hr
              go_wp2_with fail
              go_ret
              exact ⟨rfl, HB4.out⟩
            · have h2b : decide (4 < x.f1) = false := decide_eq_false h2
              have HM2 : Aside0 (symsL (l0.drop (i + 1)) (names59 (l0.take (i + 1))) = symsL l0 []) := ⟨by rw [← HM.out, hdrop.out, symsL, if_neg (by simp [symBad, hn, hin, h1, h2]), htake.out]⟩
              have hkey := keyOf_string_mk Try.underlying9 (nameOk_size hn)
              have Hkey := Aside0.mk hkey
              clear h1 h2 hn hin hkey
              go_wp2_with (at_mapUpdate; refine holdI ?_)
              unfold HoldI
              refine wpList_mapUpdate_own (H := Unit) _ rfl (.tmp 33) (.tmp 35) (.const (.bool true)) 64 rfl 9 4 law9 Try.underlying64 (plainElem Try.prog 4) w.heap.size i _ rfl HS4.out (by unfold maxLen; omega) (.string x.f0) (.bool true) (.string x.f0.data.toList) rfl rfl Hkey.out _ [] (plainElem_bool Try.underlying4 true) ?_
              intro w5 hown5 hgrow5
              have HS5 := Aside0.mk (seen_put hown5)
              have HB5 := Aside0.mk (HB4.out.grown hgrow5 HB4.out.size (fun k hk => by injection hk with hk; omega))
              rw [htake.out] at HS5
              clear hown5 hgrow5 hc0 hc1 hlk HS4 HB4 HM
              go_wp2_with fail
              have hk := Hi.out
              obtain ⟨k1, rfl⟩ : ∃ k1, gk = k1 + 1 := ⟨gk - 1, by omega⟩
              go_roundg k1
              case measure => omega
              case rel => exact ⟨i + 1, by go_num, ⟨by omega⟩, HS5, HM2, HB5⟩
    · have hie : i = l0.length := by omega
      have hr : r = decide ((l0.length : Int) ≤ 24) := by
        have e := H.out
        unfold term_Symbols.f at e
        rw [← HM.out, hie, List.drop_length, symsL, Bool.true_and] at e
        injection e with e
        rw [← e]
        exact decide_eq_decide.2 (by omega)
      clear hie
      subst hr
      go_wp2_with fail
      go_ret
      exact ⟨rfl, HB.out⟩
end Go.Proofs.Ytfhgoebgnilfaaa.I
namespace Go.Proofs.Ytfhgoebgnilfaaa.I
open Go.RowKit Go.Proofs.YtfhgoebgnilfaaaW.PrintWords Go.Proofs.YtfhgoebgnilfaaaW.PrintLast Go.Proofs.YtfhgoebgnilfaaaW.PrintMore
open Go.WideShapes Go.Maps Go.ChangeMaps Go.WideMaps
attribute [local go_sem] max2_int min2_int max_two min_two max_three min_three max_four min_four
set_option linter.unusedVariables false
set_option maxRecDepth 100000
set_option linter.unusedSimpArgs false
def manyK (k p f s : Int) : Int := if k = 2 then s else if k = 1 then f else if k = 0 then p else 0
def isK (k : Int) : Bool := decide (k = 0 ∨ k = 1 ∨ k = 2)
mutual
/-- Do all heads of a term exist? -/
def knownS : S44 → Int → Int → Int → Bool
  | ⟨k, n, l⟩, p, f, s => (isK k && (decide (0 ≤ n) && decide (n < manyK k p f s))) && knownL l p f s
def knownL : List S44 → Int → Int → Int → Bool
  | [], _, _, _ => true
  | x :: xs, p, f, s => knownS x p f s && knownL xs p f s
end
mutual
/-- The kinds of a term's heads are whole numbers of the machine's. -/
def twf : S44 → Prop
  | ⟨k, _, l⟩ => (Lit.int .i64 k).wf = true ∧ twfL l
def twfL : List S44 → Prop
  | [] => True
  | x :: xs => twf x ∧ twfL xs
end
theorem twfL_drop : ∀ (l : List S44) (i : Nat), twfL l → twfL (l.drop i)
  | [], i, h => by simpa using h
  | x :: xs, 0, h => h
  | x :: xs, i + 1, h => twfL_drop xs i h.2
def kmap (p f s : Int) : DataW Unit := (((DataW.map []).put (.int .i64 0) (.lit (.int .i64 p))).put (.int .i64 1) (.lit (.int .i64 f))).put (.int .i64 2) (.lit (.int .i64 s))
theorem ikey (k : Int) : WideAt.IsKeyLit (Lit.int .i64 k) := trivial
theorem lit_ne {a b : Int} (h : a ≠ b) : Lit.int .i64 a ≠ Lit.int .i64 b := fun e => by injection e with _ e; exact h e
theorem kmap_at (k p f s : Int) : (kmap p f s).atKey (.int .i64 k) (.lit (.int .i64 0)) = .lit (.int .i64 (manyK k p f s)) := by
  unfold kmap manyK
  have m0 : IsMap (DataW.map [] : DataW Unit) := isMap_empty
  by_cases h2 : k = 2
  · subst h2
    rw [atKey_put_same ((m0.put _ _).put _ _) (ikey 2), if_pos rfl]
  · rw [atKey_put_other (lit_ne h2), if_neg h2]
    by_cases h1 : k = 1
    · subst h1
      rw [atKey_put_same (m0.put _ _) (ikey 1), if_pos rfl]
    · rw [atKey_put_other (lit_ne h1), if_neg h1]
      by_cases h0 : k = 0
      · subst h0
        rw [atKey_put_same m0 (ikey 0), if_pos rfl]
      · rw [atKey_put_other (lit_ne h0), if_neg h0]
        rfl
theorem kmap_has (k p f s : Int) : Maps.has (kmap p f s) (.int .i64 k) = isK k := by
  unfold kmap isK
  have m0 : IsMap (DataW.map [] : DataW Unit) := isMap_empty
  by_cases h2 : k = 2
  · subst h2
    rw [has_put_same ((m0.put _ _).put _ _) (ikey 2)]
    simp
  · rw [has_put_other (lit_ne h2)]
    by_cases h1 : k = 1
    · subst h1
      rw [has_put_same (m0.put _ _) (ikey 1)]
      simp
    · rw [has_put_other (lit_ne h1)]
      by_cases h0 : k = 0
      · subst h0
        rw [has_put_same m0 (ikey 0)]
        simp
      · rw [has_put_other (lit_ne h0)]
        simp [h0, h1, h2, Maps.has]
theorem law3 : Keyed Try.prog 3 := int_keyed Try.underlying3
theorem zero3 (w : World) : (zeroValue 3).run Try.prog w = .ok (.int .i64 0) w := by kernel_rfl
theorem ok64 {a : Int} (h : -1000000 ≤ a ∧ a ≤ 1000000) : (Lit.int .i64 a).wf = true := WalkArith.wf_i64 (by omega)
theorem kmap_made (w : World) (p f s : Int) (hp : -1000000 ≤ p ∧ p ≤ 1000000) (hf : -1000000 ≤ f ∧ f ≤ 1000000) (hs : -1000000 ≤ s ∧ s ≤ 1000000) : ∃ wa wb wc,
    (Instr.mapUpdate 109 (.map (some w.heap.size)) (.int .i64 0) (.int .i64 p)).run Try.prog (w.alloc (.map #[] 0)) = .ok () wa ∧
    (Instr.mapUpdate 109 (.map (some w.heap.size)) (.int .i64 1) (.int .i64 f)).run Try.prog wa = .ok () wb ∧
    (Instr.mapUpdate 109 (.map (some w.heap.size)) (.int .i64 2) (.int .i64 s)).run Try.prog wb = .ok () wc ∧
    wc.ownsMap (H := Unit) Try.prog 3 (plainElem Try.prog 3) w.heap.size 3 (kmap p f s) ∧ Below w.heap.size w wc := by
  have o0 := World.ownsMap_made (H := Unit) w Try.prog 3 (plainElem Try.prog 3)
  obtain ⟨wa, ra, oa, ga⟩ := World.ownsMap.update (t := 109) o0 law3 Try.underlying109 (by unfold maxLen; omega) (keyOf_int_mk Try.underlying3 (ok64 (a := 0) (by omega))) (plainElem_int Try.underlying3 (ok64 hp))
  obtain ⟨wb, rb, ob, gb⟩ := World.ownsMap.update (t := 109) oa law3 Try.underlying109 (by unfold maxLen; omega) (keyOf_int_mk Try.underlying3 (ok64 (a := 1) (by omega))) (plainElem_int Try.underlying3 (ok64 hf))
  obtain ⟨wc, rc, oc, gc⟩ := World.ownsMap.update (t := 109) ob law3 Try.underlying109 (by unfold maxLen; omega) (keyOf_int_mk Try.underlying3 (ok64 (a := 2) (by omega))) (plainElem_int Try.underlying3 (ok64 hs))
  have hle : ∀ k, some w.heap.size = some k → w.heap.size ≤ k := fun k hk => by injection hk with hk; omega
  have b0 := below_alloc (Below.refl w.heap.size w) (.map #[] 0)
  have b1 := b0.grown ga b0.size hle
  have b2 := b1.grown gb b1.size hle
  have b3 := b2.grown gc b2.size hle
  exact ⟨wa, wb, wc, ra, rb, rc, oc, b3⟩
theorem kmap_look {w : World} {b : Nat} {p f s : Int} (h : w.ownsMap (H := Unit) Try.prog 3 (plainElem Try.prog 3) b 3 (kmap p f s)) (k : Int) (hk : (Lit.int .i64 k).wf = true) :
    (Instr.lookup 109 (.map (some b)) (.int .i64 k) true).run Try.prog w = .ok (.tuple #[.int .i64 (manyK k p f s), .bool (isK k)]) w := by
  obtain ⟨v, ps, hrun, hv⟩ := World.ownsMap.look_ok (t := 109) h law3 Try.underlying109 (zero3 w) (plainElem_int Try.underlying3 (ok64 (a := 0) (by omega))) (keyOf_int_mk Try.underlying3 hk)
  obtain ⟨x, rfl, hx, _⟩ := plainElem_int_inv Try.underlying3 hv
  injection hx with hx _
  rw [kmap_at] at hx
  injection hx with hx
  injection hx with _ hx
  rw [hrun, kmap_has, hx]
set_option maxHeartbeats 4000000 in
theorem known_calls (N : Nat) : ∀ (k n : Int) (l : List S44) (A : Option Addr) (c : Nat) (p f s : Int) (w0 w : World) (hN : SizeOf.sizeOf l < N) (hr : Kd.C k44 w0 A l.length l) (hc : l.length ≤ c) (hB : Below w0.heap.size w0 w)
    (hk : (Lit.int .i64 k).wf = true) (hl : twfL l) (hp : -1000000 ≤ p ∧ p ≤ 1000000) (hf : -1000000 ≤ f ∧ f ≤ 1000000) (hs : -1000000 ≤ s ∧ s ≤ 1000000),
    Calls Try.prog 31 #[.agg #[.int .i64 k, .int .i64 n, .slice A l.length c], .int .i64 p, .int .i64 f, .int .i64 s] w fun e w' => e = .returned (.bool (knownS ⟨k, n, l⟩ p f s)) ∧ Below w0.heap.size w0 w' := by
  induction N with
  | zero => intro k n l A c p f s w0 w hN; omega
  | succ N ih =>
  intro k n l A c p f s w0 w hN hr hc hB hk hl hp hf hs
  have hu44 := Try.underlying44
  have hmm := @run_makeMap Try.prog
  have hlen : l.length ≤ 9223372036854775807 := hr.2.1
  have HR := Aside0.mk hr
  have HC := Aside0.mk hc
  have HB := Aside0.mk hB
  have HN := Aside0.mk hN
  have HK := Aside0.mk hk
  have HL := Aside0.mk hl
  have HP := Aside0.mk hp
  have HF := Aside0.mk hf
  have HQ := Aside0.mk hs
  have IH := Aside0.mk ih
  clear hr hc hB hN ih hk hl hp hf hs
  cases hK : isK k with
  | false =>
    have hr : knownS ⟨k, n, l⟩ p f s = false := by
      unfold knownS
      simp [hK]
    rw [hr]
    go_enter Try.func31, Try.ntmps31
    go_wp2_with (
      (with_reducible refine gate_dst (N := 4) rfl ?_)
      refine box_event ?hg (N := 4) ?hd (cs := #[.int .i64 k, .int .i64 n, .slice A l.length c]) (t := 44) ?hr ?_
      (case hd => rfl)
      (case hg => rfl)
      (case hr => first | (go_simp; done) | (go_simp; rfl))
      intro g4 hg4 w2 hbox hb2
      obtain ⟨wa, wb, wc, ra, rb, rc, oc, bc⟩ := kmap_made w2 p f s HP.out HF.out HQ.out
      have HBc := Aside0.mk (below_step (below_step HB.out hb2) bc)
      have S4 := Aside0.mk (blk_below hbox bc)
      have hc0 : wc.cell? ⟨g4, 0, none⟩ = some (.int .i64 k) := (blk_cell S4.out 0).trans rfl
      have hc1 : wc.cell? ⟨g4, 1, none⟩ = some (.int .i64 n) := (blk_cell S4.out 1).trans rfl
      have hc2 : wc.cell? ⟨g4, 2, none⟩ = some (.slice A l.length c) := (blk_cell S4.out 2).trans rfl
      have hlk := kmap_look oc k HK.out
      rw [hK] at hlk
      clear hbox hb2 hg4 oc bc HB)
    go_ret
    exact ⟨rfl, HBc.out⟩
  | true =>
    by_cases h1 : n < 0
    · have h1b : decide (n < 0) = true := decide_eq_true h1
      have hr : knownS ⟨k, n, l⟩ p f s = false := by
        unfold knownS
        simp [hK, show ¬ (0 ≤ n) from by omega]
      rw [hr]
      go_enter Try.func31, Try.ntmps31
      clear h1
      go_wp2_with (
        (with_reducible refine gate_dst (N := 4) rfl ?_)
        refine box_event ?hg (N := 4) ?hd (cs := #[.int .i64 k, .int .i64 n, .slice A l.length c]) (t := 44) ?hr ?_
        (case hd => rfl)
        (case hg => rfl)
        (case hr => first | (go_simp; done) | (go_simp; rfl))
        intro g4 hg4 w2 hbox hb2
        obtain ⟨wa, wb, wc, ra, rb, rc, oc, bc⟩ := kmap_made w2 p f s HP.out HF.out HQ.out
        have HBc := Aside0.mk (below_step (below_step HB.out hb2) bc)
        have S4 := Aside0.mk (blk_below hbox bc)
        have hc0 : wc.cell? ⟨g4, 0, none⟩ = some (.int .i64 k) := (blk_cell S4.out 0).trans rfl
        have hc1 : wc.cell? ⟨g4, 1, none⟩ = some (.int .i64 n) := (blk_cell S4.out 1).trans rfl
        have hc2 : wc.cell? ⟨g4, 2, none⟩ = some (.slice A l.length c) := (blk_cell S4.out 2).trans rfl
        have hlk := kmap_look oc k HK.out
        rw [hK] at hlk
        clear hbox hb2 hg4 oc bc HB)
      go_ret
      exact ⟨rfl, HBc.out⟩
    · have h1b : decide (n < 0) = false := decide_eq_false h1
      by_cases h2 : manyK k p f s ≤ n
      · have h2b : decide (manyK k p f s ≤ n) = true := decide_eq_true h2
        have hr : knownS ⟨k, n, l⟩ p f s = false := by
          unfold knownS
          simp [hK, show ¬ (n < manyK k p f s) from by omega]
        rw [hr]
        go_enter Try.func31, Try.ntmps31
        clear h1 h2
        go_wp2_with (
          (with_reducible refine gate_dst (N := 4) rfl ?_)
          refine box_event ?hg (N := 4) ?hd (cs := #[.int .i64 k, .int .i64 n, .slice A l.length c]) (t := 44) ?hr ?_
          (case hd => rfl)
          (case hg => rfl)
          (case hr => first | (go_simp; done) | (go_simp; rfl))
          intro g4 hg4 w2 hbox hb2
          obtain ⟨wa, wb, wc, ra, rb, rc, oc, bc⟩ := kmap_made w2 p f s HP.out HF.out HQ.out
          have HBc := Aside0.mk (below_step (below_step HB.out hb2) bc)
          have S4 := Aside0.mk (blk_below hbox bc)
          have hc0 : wc.cell? ⟨g4, 0, none⟩ = some (.int .i64 k) := (blk_cell S4.out 0).trans rfl
          have hc1 : wc.cell? ⟨g4, 1, none⟩ = some (.int .i64 n) := (blk_cell S4.out 1).trans rfl
          have hc2 : wc.cell? ⟨g4, 2, none⟩ = some (.slice A l.length c) := (blk_cell S4.out 2).trans rfl
          have hlk := kmap_look oc k HK.out
          rw [hK] at hlk
          clear hbox hb2 hg4 oc bc HB)
        go_ret
        exact ⟨rfl, HBc.out⟩
      · have h2b : decide (manyK k p f s ≤ n) = false := decide_eq_false h2
        have hr : knownS ⟨k, n, l⟩ p f s = knownL l p f s := by
          unfold knownS
          simp [hK, show 0 ≤ n from by omega, show n < manyK k p f s from by omega]
        rw [hr]
        clear h1 h2 hr
        go_enter Try.func31, Try.ntmps31
        go_wp2_with (
          (with_reducible refine gate_dst (N := 4) rfl ?_)
          refine box_event ?hg (N := 4) ?hd (cs := #[.int .i64 k, .int .i64 n, .slice A l.length c]) (t := 44) ?hr ?_
          (case hd => rfl)
          (case hg => rfl)
          (case hr => first | (go_simp; done) | (go_simp; rfl))
          intro g4 hg4 w2 hbox hb2
          obtain ⟨wa, wb, wc, ra, rb, rc, oc, bc⟩ := kmap_made w2 p f s HP.out HF.out HQ.out
          have HBc := Aside0.mk (below_step (below_step HB.out hb2) bc)
          have S4 := Aside0.mk (blk_below hbox bc)
          have hc0 : wc.cell? ⟨g4, 0, none⟩ = some (.int .i64 k) := (blk_cell S4.out 0).trans rfl
          have hc1 : wc.cell? ⟨g4, 1, none⟩ = some (.int .i64 n) := (blk_cell S4.out 1).trans rfl
          have hc2 : wc.cell? ⟨g4, 2, none⟩ = some (.slice A l.length c) := (blk_cell S4.out 2).trans rfl
          have hlk := kmap_look oc k HK.out
          rw [hK] at hlk
          clear hbox hb2 hg4 oc bc HB)
        clear hlk ra rb rc hc0 hc1 hc2 h1b h2b hK
        go_loopg [42] l.length (fun kq v42 wr => ∃ (i : Nat), v42 = .int .i64 (i : Int) ∧ Aside0 (kq + i = l.length) ∧ Aside0 (knownL (l.drop i) p f s = knownL l p f s) ∧ Aside0 (Below w0.heap.size w0 wr))
        case atStart => exact ⟨0, rfl, ⟨by omega⟩, ⟨rfl⟩, HBc⟩
        case round =>
          clear HBc S4
          obtain ⟨i, rfl, Hi, HM, HB⟩ := hrel
          have hi : i ≤ l.length := by have := Hi.out; omega
          by_cases hlt : i < l.length
          · have hdrop := Aside0.mk (rd_T44_drop l i hlt)
            have hmem := Aside0.mk (rd_T44_mem l i hlt)
            have hwf := Aside0.mk (show twf (rd_T44 l (i : Int)) from by have := twfL_drop l i HL.out; rw [rd_T44_drop l i hlt] at this; exact this.1)
            obtain ⟨ad, A1, c1, he, hx1, hx2, hx3, hl1, hi1⟩ := at_T44 HR.out (i : Int) (by omega) (by omega)
            cases he
            replace hx1 := (HB.out.cell (World.block_lt_of_cell? w0 _ hx1)).trans hx1
            replace hx2 := (HB.out.cell (World.block_lt_of_cell? w0 _ hx2)).trans hx2
            replace hx3 := (HB.out.cell (World.block_lt_of_cell? w0 _ hx3)).trans hx3
            rw [Int.toNat_natCast] at hx1 hx2 hx3
            have Hl1 := Aside0.mk hl1
            have Hi1 := Aside0.mk hi1
            clear hl1 hi1
            have p1 : (0 ≤ (i : Int)) = True := eq_true (by omega)
            have p2 : ((i : Int) < (l.length : Int)) = True := eq_true (by omega)
            have p3 : (i < l.length) = True := eq_true (by omega)
            generalize hx : rd_T44 l (i : Int) = x at *
            clear hx
            go_wp2_with (
              (with_reducible refine gate_dst (N := 13) rfl ?_)
              refine box_event ?hg (N := 13) ?hd (cs := #[.int .i64 0, .int .i64 0, .slice none 0 0]) (t := 44) ?hr ?_
              (case hd => rfl)
              (case hg => rfl)
              (case hr => first | (go_simp; done) | (go_simp; rfl))
              intro gi hgi w3 hbox3 hb3
              have hsz := below_size HB.out
              have hgiw : w0.heap.size ≤ gi := by omega
              have HB3 := Aside0.mk (below_set (g := gi) (j := 2) (v := .slice A1 x.f2.length c1) (below_set (g := gi) (j := 1) (v := .int .i64 x.f1) (below_set (g := gi) (j := 0) (v := .int .i64 x.f0) (below_step HB.out hb3) hgiw) hgiw) hgiw)
              have Hgi := Aside0.mk (blk_put (cs' := #[.int .i64 x.f0, .int .i64 x.f1, .slice A1 x.f2.length c1]) (blk_put (cs' := #[.int .i64 x.f0, .int .i64 x.f1, .slice none 0 0]) (blk_put (cs' := #[.int .i64 x.f0, .int .i64 0, .slice none 0 0]) hbox3 0 (.int .i64 x.f0) rfl) 1 (.int .i64 x.f1) rfl) 2 (.slice A1 x.f2.length c1) rfl)
              have hci0 : (((w3.setCell ⟨gi, 0, none⟩ (.int .i64 x.f0)).setCell ⟨gi, 1, none⟩ (.int .i64 x.f1)).setCell ⟨gi, 2, none⟩ (.slice A1 x.f2.length c1)).cell? ⟨gi, 0, none⟩ = some (.int .i64 x.f0) := (blk_cell Hgi.out 0).trans rfl
              have hci1 : (((w3.setCell ⟨gi, 0, none⟩ (.int .i64 x.f0)).setCell ⟨gi, 1, none⟩ (.int .i64 x.f1)).setCell ⟨gi, 2, none⟩ (.slice A1 x.f2.length c1)).cell? ⟨gi, 1, none⟩ = some (.int .i64 x.f1) := (blk_cell Hgi.out 1).trans rfl
              have hci2 : (((w3.setCell ⟨gi, 0, none⟩ (.int .i64 x.f0)).setCell ⟨gi, 1, none⟩ (.int .i64 x.f1)).setCell ⟨gi, 2, none⟩ (.slice A1 x.f2.length c1)).cell? ⟨gi, 2, none⟩ = some (.slice A1 x.f2.length c1) := (blk_cell Hgi.out 2).trans rfl
              have hcz0 := (blk_cell hbox3 0).trans rfl
              have hcz1 := (blk_cell hbox3 1).trans rfl
              have hcz2 := (blk_cell hbox3 2).trans rfl
              have hfz0 := blk_frozen hbox3 0
              have hfz1 := blk_frozen hbox3 1
              have hfz2 := blk_frozen hbox3 2
              clear hbox3 hb3 hsz hgi HB)
            have hxe : x = ⟨x.f0, x.f1, x.f2⟩ := by cases x; rfl
            have Hxe := Aside0.mk hxe
            have hw2 := Aside0.mk (show (Lit.int .i64 x.f0).wf = true ∧ twfL x.f2 from by have := hwf.out; rw [hxe] at this; exact this)
            clear hxe
            (with_reducible refine (IH.out x.f0 x.f1 x.f2 A1 c1 p f s w0 _ ?_ Hi1.out Hl1.out HB3.out hw2.out.1 hw2.out.2 HP.out HF.out HQ.out).mono ?_)
            · have := hmem.out; have := HN.out; omega
            rintro e w4 ⟨rfl, hB4⟩
            rw [← Hxe.out]
            have HB4 := Aside0.mk hB4
            clear hB4 HB3 Hgi hci0 hci1 hci2 hcz0 hcz1 hcz2 hfz0 hfz1 hfz2
            cases hkx : knownS x p f s with
            | false =>
              have hr : knownL l p f s = false := by rw [← HM.out, hdrop.out, knownL, hkx]; rfl
              have Hr := Aside0.mk hr
              clear hr
              go_wp2_with fail
              go_ret
              exact ⟨by have := Hr.out; simp [this], HB4.out⟩
            | true =>
              have HM2 : Aside0 (knownL (l.drop (i + 1)) p f s = knownL l p f s) := ⟨by rw [← HM.out, hdrop.out, knownL, hkx]; rfl⟩
              clear hkx
              go_wp2_with fail
              have hk := Hi.out
              obtain ⟨k1, rfl⟩ : ∃ k1, gk = k1 + 1 := ⟨gk - 1, by omega⟩
              go_roundg k1
              case measure => omega
              case rel => exact ⟨i + 1, by go_num, ⟨by omega⟩, HM2, HB4⟩
          · have hie : i = l.length := by omega
            have hr : knownL l p f s = true := by rw [← HM.out, hie, List.drop_length, knownL]
            have Hr := Aside0.mk hr
            clear hr
            go_wp2_with fail
            go_ret
            exact ⟨by have := Hr.out; simp [this], HB.out⟩
end Go.Proofs.Ytfhgoebgnilfaaa.I
namespace Go.Proofs.Ytfhgoebgnilfaaa.I
open Go.RowKit Go.Proofs.YtfhgoebgnilfaaaW.PrintWords Go.Proofs.YtfhgoebgnilfaaaW.PrintLast Go.Proofs.YtfhgoebgnilfaaaW.PrintMore
open Go.WideShapes Go.Maps Go.ChangeMaps Go.WideMaps
attribute [local go_sem] max2_int min2_int max_two min_two max_three min_three max_four min_four
set_option linter.unusedVariables false
set_option maxRecDepth 100000
set_option linter.unusedSimpArgs false
def szT (x : S44) : Int × Int := if (tmeas x 100000).2 < 0 then (100001, 0) else (100000 - (tmeas x 100000).2, (tmeas x 100000).1)
theorem szT_eq (a b : Int) (l : List S44) : term_Size.f a b l = some ((szT ⟨a, b, l⟩).1, (szT ⟨a, b, l⟩).2) := by unfold term_Size.f szT; split <;> rfl
def looseBad (x : S48) (nf ns : Int) (L : List ByteArray) : Bool := !nameOk x.f0 || (isIn L x.f0 || (decide (x.f1 < 0) || (decide (8 < x.f1) || (decide (400 < (szT ⟨x.f2.f0, x.f2.f1, x.f2.f2⟩).1) || (decide (30 < (szT ⟨x.f2.f0, x.f2.f1, x.f2.f2⟩).2) || !knownS ⟨x.f2.f0, x.f2.f1, x.f2.f2⟩ x.f1 nf ns)))))
def looseL : List S48 → Int → Int → List ByteArray → Bool
  | [], _, _, _ => true
  | x :: xs, nf, ns, L => if looseBad x nf ns L = true then false else looseL xs nf ns (L ++ [x.f0])
def names48 (l : List S48) : List ByteArray := l.map (fun x => x.f0)
def chkF (l0 : List S59) (l1 : List S48) : Option Int := some (if 24 < l0.length ∨ symsL l0 [] = false then 2 else if l1.length = 0 ∨ 64 < l1.length ∨ (rd_T48 l1 0).f1 ≠ 0 then 4 else if looseL l1 (l1.length : Int) (l0.length : Int) [] = true then 0 else 4)
theorem rd_T48_drop (l : List S48) (i : Nat) (h : i < l.length) : l.drop i = rd_T48 l (i : Int) :: l.drop (i + 1) := by
  rw [List.drop_eq_getElem_cons h]
  simp [rd_T48, List.getD_eq_getElem?_getD, List.getElem?_eq_getElem h]
theorem rd_T48_take (l : List S48) (i : Nat) (h : i < l.length) : names48 (l.take i) ++ [(rd_T48 l (i : Int)).f0] = names48 (l.take (i + 1)) := by
  have e : l.take (i + 1) = l.take i ++ [l[i]] := by rw [List.take_add_one, List.getElem?_eq_getElem h]; rfl
  have e2 : rd_T48 l (i : Int) = l[i] := by unfold rd_T48; rw [Int.toNat_natCast, List.getD_eq_getElem?_getD, List.getElem?_eq_getElem h]; rfl
  rw [e, e2]
  unfold names48
  rw [List.map_append]
  rfl
theorem rd_T48_mem (l : List S48) (i : Nat) (h : i < l.length) : rd_T48 l (i : Int) ∈ l := by
  simp [rd_T48, List.getD_eq_getElem?_getD, List.getElem?_eq_getElem h]
set_option maxHeartbeats 8000000 in
theorem chkF_calls (A0 : Option Addr) (c0 : Nat) (l0 : List S59) (A1 : Option Addr) (c1 : Nat) (l1 : List S48) (r : Int) (w : World) (hr0 : Kd.C k59 w A0 l0.length l0) (hc0 : l0.length ≤ c0) (hr1 : Kd.C k48 w A1 l1.length l1) (hc1 : l1.length ≤ c1) (hwf : ∀ x ∈ l1, twf x.f2) (h : chkF l0 l1 = some r) :
    Calls Try.prog 10 #[.slice A0 l0.length c0, .slice A1 l1.length c1] w fun e w' => e = .returned (.int .i64 r) ∧ Below w.heap.size w w' := by
  have hu48 := Try.underlying48
  have hu44 := Try.underlying44
  have hmm := @run_makeMap Try.prog
  have hlen0 : l0.length ≤ 9223372036854775807 := hr0.2.1
  have hlen1 : l1.length ≤ 9223372036854775807 := hr1.2.1
  have HR0 := Aside0.mk hr0
  have HC0 := Aside0.mk hc0
  have HR1 := Aside0.mk hr1
  have HC1 := Aside0.mk hc1
  have HW := Aside0.mk hwf
  have H := Aside0.mk h
  have HBw := Aside0.mk (Below.refl w.heap.size w)
  clear hr0 hc0 hr1 hc1 hwf h
  by_cases ha : 24 < l0.length
  · have hab : decide ((24 : Int) < (l0.length : Int)) = true := decide_eq_true (by omega)
    have hr : r = 2 := by
      have e := H.out
      unfold chkF at e
      rw [if_pos (.inl ha)] at e
      injection e with e
      exact e.symm
    clear ha
    go_enter Try.func10, Try.ntmps10
    subst hr
    go_wp2_with fail
    go_ret
    exact ⟨rfl, HBw.out⟩
  have hab : decide ((24 : Int) < (l0.length : Int)) = false := decide_eq_false (by omega)
  have hsy := Aside0.mk (show term_Symbols.f l0 = some (symsL l0 []) from by unfold term_Symbols.f; rw [decide_eq_true (by omega), Bool.and_true])
  have hal : l0.length ≤ 24 := by omega
  clear ha
  go_enter Try.func10, Try.ntmps10
  go_wp2_with fail
  (with_reducible refine (term_Symbols.calls A0 c0 l0 (symsL l0 []) _ HR0.out HC0.out hsy.out).mono ?_)
  rintro e w1 ⟨rfl, hB1⟩
  have HB1 := Aside0.mk hB1
  clear hB1 HBw
  cases hs : symsL l0 [] with
  | false =>
    have hr : r = 2 := by
      have e := H.out
      unfold chkF at e
      rw [if_pos (.inr hs)] at e
      injection e with e
      exact e.symm
    subst hr
    go_wp2_with fail
    go_ret
    exact ⟨rfl, HB1.out⟩
  | true =>
    have HA := Aside0.mk (show ¬ (24 < l0.length ∨ symsL l0 [] = false) from by rw [hs]; simp; omega)
    clear hs
    have end4 : ∀ (hq : l1.length = 0 ∨ 64 < l1.length ∨ (rd_T48 l1 0).f1 ≠ 0), r = 4 := by
      intro hq
      have e := H.out
      unfold chkF at e
      rw [if_neg HA.out, if_pos hq] at e
      injection e with e
      exact e.symm
    have End4 := Aside0.mk end4
    clear end4
    by_cases hz : l1.length = 0
    · have hzb : ((l1.length : Int) == 0) = true := beq_iff_eq.2 (by omega)
      have hr := End4.out (.inl hz)
      clear hz
      subst hr
      go_wp2_with fail
      go_ret
      exact ⟨rfl, HB1.out⟩
    have hzb : ((l1.length : Int) == 0) = false := beq_eq_false_iff_ne.2 (by omega)
    by_cases hy : 64 < l1.length
    · have hyb : decide ((64 : Int) < (l1.length : Int)) = true := decide_eq_true (by omega)
      have hr := End4.out (.inr (.inl hy))
      clear hz hy
      subst hr
      go_wp2_with fail
      go_ret
      exact ⟨rfl, HB1.out⟩
    have hyb : decide ((64 : Int) < (l1.length : Int)) = false := decide_eq_false (by omega)
    have hbl : l1.length ≤ 64 := by omega
    have hpl : 0 < l1.length := by omega
    obtain ⟨ad0, A4_, c4_, he0, _, hy1, _, _, _, _, _⟩ := at_T48 HR1.out 0 (by omega) (by omega)
    replace hy1 := (HB1.out.cell (World.block_lt_of_cell? w _ hy1)).trans hy1
    replace hy1 : w1.cell? ⟨ad0.block, ad0.off + 1, none⟩ = some (.int .i64 (rd_T48 l1 0).f1) := by simpa [Addr.add] using hy1
    cases he0
    have p2_ : ((0 : Int) < (l1.length : Int)) = True := eq_true (by omega)
    have p3_ : (0 < l1.length) = True := eq_true hpl
    by_cases hx0 : (rd_T48 l1 0).f1 = 0
    · have hxb : ((rd_T48 l1 0).f1 != 0) = false := bne_eq_false_iff_eq.2 hx0
      have HAB := Aside0.mk (show ¬ (l1.length = 0 ∨ 64 < l1.length ∨ (rd_T48 l1 0).f1 ≠ 0) from fun hq => by
        rcases hq with hq | hq | hq
        · omega
        · omega
        · exact hq hx0)
      clear hx0 hz hy
      go_wp2_with fail
      obtain ⟨bm, hbm⟩ : ∃ b, b = w1.heap.size := ⟨_, rfl⟩
      have hbw : w.heap.size ≤ bm := by have := HB1.out.size; omega
      have HS1 := Aside0.mk (show Seen (w1.alloc (.map #[] 0)) bm 0 [] from by rw [hbm]; exact seen_made w1)
      have HBa := Aside0.mk (below_alloc HB1.out (.map #[] 0))
      rw [← hbm]
      clear hbm
      go_loopg [36] l1.length (fun kq v36 wr => ∃ (i : Nat), v36 = .int .i64 (i : Int) ∧ Aside0 (kq + i = l1.length) ∧ Aside0 (Seen wr bm i (names48 (l1.take i))) ∧ Aside0 (looseL (l1.drop i) (l1.length : Int) (l0.length : Int) (names48 (l1.take i)) = looseL l1 (l1.length : Int) (l0.length : Int) []) ∧ Aside0 (Below w.heap.size w wr))
      case atStart => exact ⟨0, rfl, ⟨by omega⟩, HS1, ⟨rfl⟩, HBa⟩
      case round =>
        clear HS1 HBa HB1 hy1
        obtain ⟨i, rfl, Hi, HS, HM, HB⟩ := hrel
        have hi : i ≤ l1.length := by have := Hi.out; omega
        by_cases hlt : i < l1.length
        · have hdrop := Aside0.mk (rd_T48_drop l1 i hlt)
          have htake := Aside0.mk (rd_T48_take l1 i hlt)
          have hxw := Aside0.mk (HW.out _ (rd_T48_mem l1 i hlt))
          obtain ⟨ad, A4, c4, he, hx1, hx2, hx3, hx4, hx5, hl4, hC4⟩ := at_T48 HR1.out (i : Int) (by omega) (by omega)
          cases he
          replace hx1 := (HB.out.cell (World.block_lt_of_cell? w _ hx1)).trans hx1
          rw [Int.toNat_natCast] at hx1
          replace hx2 := (HB.out.cell (World.block_lt_of_cell? w _ hx2)).trans hx2
          rw [Int.toNat_natCast] at hx2
          replace hx3 := (HB.out.cell (World.block_lt_of_cell? w _ hx3)).trans hx3
          rw [Int.toNat_natCast] at hx3
          replace hx4 := (HB.out.cell (World.block_lt_of_cell? w _ hx4)).trans hx4
          rw [Int.toNat_natCast] at hx4
          replace hx5 := (HB.out.cell (World.block_lt_of_cell? w _ hx5)).trans hx5
          rw [Int.toNat_natCast] at hx5
          have Hl4 := Aside0.mk hl4
          have HC4 := Aside0.mk hC4
          clear hl4 hC4
          have p1 : (0 ≤ (i : Int)) = True := eq_true (by omega)
          have p2 : ((i : Int) < (l1.length : Int)) = True := eq_true (by omega)
          have p3 : (i < l1.length) = True := eq_true (by omega)
          generalize hx : rd_T48 l1 (i : Int) = x at *
          clear hx
          obtain ⟨kN, hN⟩ := (name_ev x.f0).rounds
          have HN := Aside0.mk hN
          clear hN
          go_wp2_with (
            (with_reducible refine gate_dst (N := 7) rfl ?_)
            refine box_event ?hg (N := 7) ?hd (cs := #[.string (⟨#[]⟩ : ByteArray), .int .i64 0, .int .i64 0, .int .i64 0, .slice none 0 0]) (t := 48) ?hr ?_
            (case hd => rfl)
            (case hg => rfl)
            (case hr => first | (go_simp; done) | (go_simp; rfl))
            intro gi hgi w3 hbox hb3
            have hsz := below_size HB.out
            have hgw : w.heap.size ≤ gi := by omega
            have hnb : bm ≠ gi := by have := HS.out.lt; omega
            have HB3 := Aside0.mk (below_set (g := gi) (j := 4) (v := .slice A4 x.f2.f2.length c4) (below_set (g := gi) (j := 3) (v := .int .i64 x.f2.f1) (below_set (g := gi) (j := 2) (v := .int .i64 x.f2.f0) (below_set (g := gi) (j := 1) (v := .int .i64 x.f1) (below_set (g := gi) (j := 0) (v := .string x.f0) (below_step HB.out hb3) hgw) hgw) hgw) hgw) hgw)
            have HS3 := Aside0.mk (Seen.set (Seen.set (Seen.set (Seen.set (Seen.set (Seen.grown HS.out hb3) (p := ⟨gi, 0, none⟩) hnb (.string x.f0)) (p := ⟨gi, 1, none⟩) hnb (.int .i64 x.f1)) (p := ⟨gi, 2, none⟩) hnb (.int .i64 x.f2.f0)) (p := ⟨gi, 3, none⟩) hnb (.int .i64 x.f2.f1)) (p := ⟨gi, 4, none⟩) hnb (.slice A4 x.f2.f2.length c4))
            have Hgi := Aside0.mk (blk_put (cs' := #[.string x.f0, .int .i64 x.f1, .int .i64 x.f2.f0, .int .i64 x.f2.f1, .slice A4 x.f2.f2.length c4]) (blk_put (cs' := #[.string x.f0, .int .i64 x.f1, .int .i64 x.f2.f0, .int .i64 x.f2.f1, .slice none 0 0]) (blk_put (cs' := #[.string x.f0, .int .i64 x.f1, .int .i64 x.f2.f0, .int .i64 0, .slice none 0 0]) (blk_put (cs' := #[.string x.f0, .int .i64 x.f1, .int .i64 0, .int .i64 0, .slice none 0 0]) (blk_put (cs' := #[.string x.f0, .int .i64 0, .int .i64 0, .int .i64 0, .slice none 0 0]) (hbox) 0 (.string x.f0) rfl) 1 (.int .i64 x.f1) rfl) 2 (.int .i64 x.f2.f0) rfl) 3 (.int .i64 x.f2.f1) rfl) 4 (.slice A4 x.f2.f2.length c4) rfl)
            have hci0 : (((((w3.setCell ⟨gi, 0, none⟩ (.string x.f0)).setCell ⟨gi, 1, none⟩ (.int .i64 x.f1)).setCell ⟨gi, 2, none⟩ (.int .i64 x.f2.f0)).setCell ⟨gi, 3, none⟩ (.int .i64 x.f2.f1)).setCell ⟨gi, 4, none⟩ (.slice A4 x.f2.f2.length c4)).cell? ⟨gi, 0, none⟩ = some (.string x.f0) := (blk_cell Hgi.out 0).trans rfl
            have hcz0 := (blk_cell hbox 0).trans rfl
            have hfz0 := blk_frozen hbox 0
            have hci1 : (((((w3.setCell ⟨gi, 0, none⟩ (.string x.f0)).setCell ⟨gi, 1, none⟩ (.int .i64 x.f1)).setCell ⟨gi, 2, none⟩ (.int .i64 x.f2.f0)).setCell ⟨gi, 3, none⟩ (.int .i64 x.f2.f1)).setCell ⟨gi, 4, none⟩ (.slice A4 x.f2.f2.length c4)).cell? ⟨gi, 1, none⟩ = some (.int .i64 x.f1) := (blk_cell Hgi.out 1).trans rfl
            have hcz1 := (blk_cell hbox 1).trans rfl
            have hfz1 := blk_frozen hbox 1
            have hci2 : (((((w3.setCell ⟨gi, 0, none⟩ (.string x.f0)).setCell ⟨gi, 1, none⟩ (.int .i64 x.f1)).setCell ⟨gi, 2, none⟩ (.int .i64 x.f2.f0)).setCell ⟨gi, 3, none⟩ (.int .i64 x.f2.f1)).setCell ⟨gi, 4, none⟩ (.slice A4 x.f2.f2.length c4)).cell? ⟨gi, 2, none⟩ = some (.int .i64 x.f2.f0) := (blk_cell Hgi.out 2).trans rfl
            have hcz2 := (blk_cell hbox 2).trans rfl
            have hfz2 := blk_frozen hbox 2
            have hci3 : (((((w3.setCell ⟨gi, 0, none⟩ (.string x.f0)).setCell ⟨gi, 1, none⟩ (.int .i64 x.f1)).setCell ⟨gi, 2, none⟩ (.int .i64 x.f2.f0)).setCell ⟨gi, 3, none⟩ (.int .i64 x.f2.f1)).setCell ⟨gi, 4, none⟩ (.slice A4 x.f2.f2.length c4)).cell? ⟨gi, 3, none⟩ = some (.int .i64 x.f2.f1) := (blk_cell Hgi.out 3).trans rfl
            have hcz3 := (blk_cell hbox 3).trans rfl
            have hfz3 := blk_frozen hbox 3
            have hci4 : (((((w3.setCell ⟨gi, 0, none⟩ (.string x.f0)).setCell ⟨gi, 1, none⟩ (.int .i64 x.f1)).setCell ⟨gi, 2, none⟩ (.int .i64 x.f2.f0)).setCell ⟨gi, 3, none⟩ (.int .i64 x.f2.f1)).setCell ⟨gi, 4, none⟩ (.slice A4 x.f2.f2.length c4)).cell? ⟨gi, 4, none⟩ = some (.slice A4 x.f2.f2.length c4) := (blk_cell Hgi.out 4).trans rfl
            have hcz4 := (blk_cell hbox 4).trans rfl
            have hfz4 := blk_frozen hbox 4
            clear hbox hb3 hgi hsz)
          (with_reducible refine (term_Size.calls x.f2.f0 x.f2.f1 A4 c4 x.f2.f2 _ _ _ (Kd.C_below HC4.out HB3.out) Hl4.out (szT_eq x.f2.f0 x.f2.f1 x.f2.f2)).mono ?_)
          rintro e w4 ⟨rfl, hB4⟩
          have HB4 := Aside0.mk (below_step HB3.out hB4)
          have HS4 := Aside0.mk (Seen.grown HS3.out hB4)
          have Hg4 := Aside0.mk (blk_below Hgi.out hB4)
          have hc0 : w4.cell? ⟨gi, 0, none⟩ = some (.string x.f0) := (blk_cell Hg4.out 0).trans rfl
          clear hB4 HB HS HB3 HS3 Hgi hci0 hci1 hci2 hci3 hci4 hcz0 hcz1 hcz2 hcz3 hcz4 hfz0 hfz1 hfz2 hfz3 hfz4
          go_wp2_with fail
          (with_reducible refine (term_Name.calls kN x.f0 (nameOk x.f0) _ HN.out).mono ?_)
          rintro e w5 ⟨rfl, hD⟩
          have hB5 := drawn_below hD
          have HB5 := Aside0.mk (below_step HB4.out hB5)
          have HS5 := Aside0.mk (Seen.grown HS4.out hB5)
          have Hg5 := Aside0.mk (blk_below Hg4.out hB5)
          have hcw50 : w5.cell? ⟨gi, 0, none⟩ = some (.string x.f0) := (blk_cell Hg5.out 0).trans rfl
          have hcw51 : w5.cell? ⟨gi, 1, none⟩ = some (.int .i64 x.f1) := (blk_cell Hg5.out 1).trans rfl
          have hcw52 : w5.cell? ⟨gi, 2, none⟩ = some (.int .i64 x.f2.f0) := (blk_cell Hg5.out 2).trans rfl
          have hcw53 : w5.cell? ⟨gi, 3, none⟩ = some (.int .i64 x.f2.f1) := (blk_cell Hg5.out 3).trans rfl
          have hcw54 : w5.cell? ⟨gi, 4, none⟩ = some (.slice A4 x.f2.f2.length c4) := (blk_cell Hg5.out 4).trans rfl
          clear hD hB5 HB4 HS4 Hg4 hc0
          cases hn : nameOk x.f0 with
          | false =>
            have hr : r = 4 := by
              have e := H.out
              have hbad : looseBad x (l1.length : Int) (l0.length : Int) (names48 (l1.take i)) = true := by
                unfold looseBad
                simp [hn]
              unfold chkF at e
              rw [if_neg HA.out, if_neg HAB.out, ← HM.out, hdrop.out, looseL, if_pos hbad, if_neg (by simp)] at e
              injection e with e
              exact e.symm
            subst hr
            go_wp2_with fail
            go_ret
            exact ⟨rfl, HB5.out⟩
          | true =>
            have hlk := seen_look HS5.out x.f0 (nameOk_size hn)
            cases hin : isIn (names48 (l1.take i)) x.f0 with
            | true =>
              have hr : r = 4 := by
                have e := H.out
                have hbad : looseBad x (l1.length : Int) (l0.length : Int) (names48 (l1.take i)) = true := by
                  unfold looseBad
                  simp [hn, hin]
                unfold chkF at e
                rw [if_neg HA.out, if_neg HAB.out, ← HM.out, hdrop.out, looseL, if_pos hbad, if_neg (by simp)] at e
                injection e with e
                exact e.symm
              rw [hin] at hlk
              subst hr
              go_wp2_with fail
              go_ret
              exact ⟨rfl, HB5.out⟩
            | false =>
              rw [hin] at hlk
              by_cases h1 : x.f1 < 0
              · have h1b : decide (x.f1 < 0) = true := decide_eq_true h1
                have hr : r = 4 := by
                  have e := H.out
                  have hbad : looseBad x (l1.length : Int) (l0.length : Int) (names48 (l1.take i)) = true := by
                    unfold looseBad
                    simp [hn, hin, h1]
                  unfold chkF at e
                  rw [if_neg HA.out, if_neg HAB.out, ← HM.out, hdrop.out, looseL, if_pos hbad, if_neg (by simp)] at e
                  injection e with e
                  exact e.symm
                clear h1
                subst hr
                go_wp2_with fail
                go_ret
                exact ⟨rfl, HB5.out⟩
              have h1b : decide (x.f1 < 0) = false := decide_eq_false h1
              by_cases h2 : 8 < x.f1
              · have h2b : decide (8 < x.f1) = true := decide_eq_true h2
                have hr : r = 4 := by
                  have e := H.out
                  have hbad : looseBad x (l1.length : Int) (l0.length : Int) (names48 (l1.take i)) = true := by
                    unfold looseBad
                    simp [hn, hin, h1, h2]
                  unfold chkF at e
                  rw [if_neg HA.out, if_neg HAB.out, ← HM.out, hdrop.out, looseL, if_pos hbad, if_neg (by simp)] at e
                  injection e with e
                  exact e.symm
                clear h1 h2
                subst hr
                go_wp2_with fail
                go_ret
                exact ⟨rfl, HB5.out⟩
              have h2b : decide (8 < x.f1) = false := decide_eq_false h2
              by_cases h3 : 400 < (szT ⟨x.f2.f0, x.f2.f1, x.f2.f2⟩).1
              · have h3b : decide (400 < (szT ⟨x.f2.f0, x.f2.f1, x.f2.f2⟩).1) = true := decide_eq_true h3
                have hr : r = 4 := by
                  have e := H.out
                  have hbad : looseBad x (l1.length : Int) (l0.length : Int) (names48 (l1.take i)) = true := by
                    unfold looseBad
                    simp [hn, hin, h1, h2, h3]
                  unfold chkF at e
                  rw [if_neg HA.out, if_neg HAB.out, ← HM.out, hdrop.out, looseL, if_pos hbad, if_neg (by simp)] at e
                  injection e with e
                  exact e.symm
                clear h1 h2 h3
                subst hr
                go_wp2_with fail
                go_ret
                exact ⟨rfl, HB5.out⟩
              have h3b : decide (400 < (szT ⟨x.f2.f0, x.f2.f1, x.f2.f2⟩).1) = false := decide_eq_false h3
              by_cases h4 : 30 < (szT ⟨x.f2.f0, x.f2.f1, x.f2.f2⟩).2
              · have h4b : decide (30 < (szT ⟨x.f2.f0, x.f2.f1, x.f2.f2⟩).2) = true := decide_eq_true h4
                have hr : r = 4 := by
                  have e := H.out
                  have hbad : looseBad x (l1.length : Int) (l0.length : Int) (names48 (l1.take i)) = true := by
                    unfold looseBad
                    simp [hn, hin, h1, h2, h3, h4]
                  unfold chkF at e
                  rw [if_neg HA.out, if_neg HAB.out, ← HM.out, hdrop.out, looseL, if_pos hbad, if_neg (by simp)] at e
                  injection e with e
                  exact e.symm
                clear h1 h2 h3 h4
                subst hr
                go_wp2_with fail
                go_ret
                exact ⟨rfl, HB5.out⟩
              have h4b : decide (30 < (szT ⟨x.f2.f0, x.f2.f1, x.f2.f2⟩).2) = false := decide_eq_false h4
              have hq := Aside0.mk (show (Lit.int .i64 x.f2.f0).wf = true ∧ twfL x.f2.f2 from by have := hxw.out; cases hxx : x.f2 with | mk a b l => rw [hxx] at this; exact this)
              have Hn := Aside0.mk hn
              have Hin := Aside0.mk hin
              have H1 := Aside0.mk h1
              have H2 := Aside0.mk h2
              have H3 := Aside0.mk h3
              have H4 := Aside0.mk h4
              clear hn hin h1 h2 h3 h4
              go_wp2_with fail
              (with_reducible refine (known_calls (SizeOf.sizeOf x.f2.f2 + 1) x.f2.f0 x.f2.f1 x.f2.f2 A4 c4 x.f1 (l1.length : Int) (l0.length : Int) w5 w5 (Nat.lt_succ_self _) (Kd.C_below HC4.out HB5.out) Hl4.out (Below.refl _ _) hq.out.1 hq.out.2 (by have := H1.out; have := H2.out; omega) (by omega) (by omega)).mono ?_)
              rintro e w6 ⟨rfl, hB6⟩
              have HB6 := Aside0.mk (below_step HB5.out hB6)
              have HS6 := Aside0.mk (Seen.grown HS5.out hB6)
              have Hg6 := Aside0.mk (blk_below Hg5.out hB6)
              have hc6 : w6.cell? ⟨gi, 0, none⟩ = some (.string x.f0) := (blk_cell Hg6.out 0).trans rfl
              clear hB6 HB5 HS5 Hg5 hlk hcw50 hcw51 hcw52 hcw53 hcw54 h1b h2b h3b h4b
              cases hkn : knownS ⟨x.f2.f0, x.f2.f1, x.f2.f2⟩ x.f1 (l1.length : Int) (l0.length : Int) with
              | false =>
                have hr : r = 4 := by
                  have e := H.out
                  have hbad : looseBad x (l1.length : Int) (l0.length : Int) (names48 (l1.take i)) = true := by
                    unfold looseBad
                    simp [Hn.out, Hin.out, H1.out, H2.out, H3.out, H4.out, hkn]
                  unfold chkF at e
                  rw [if_neg HA.out, if_neg HAB.out, ← HM.out, hdrop.out, looseL, if_pos hbad, if_neg (by simp)] at e
                  injection e with e
                  exact e.symm
                subst hr
                go_wp2_with fail
                go_ret
                exact ⟨rfl, HB6.out⟩
              | true =>
                have hgood : looseBad x (l1.length : Int) (l0.length : Int) (names48 (l1.take i)) = false := by
                  unfold looseBad
                  simp [Hn.out, Hin.out, H1.out, H2.out, H3.out, H4.out, hkn]
                have HM2 : Aside0 (looseL (l1.drop (i + 1)) (l1.length : Int) (l0.length : Int) (names48 (l1.take (i + 1))) = looseL l1 (l1.length : Int) (l0.length : Int) []) := ⟨by rw [← HM.out, hdrop.out, looseL, if_neg (by rw [hgood]; simp), htake.out]⟩
                have Hkey := Aside0.mk (keyOf_string_mk Try.underlying9 (nameOk_size Hn.out))
                clear hkn hgood
                go_wp2_with (at_mapUpdate; refine holdI ?_)
                unfold HoldI
                refine wpList_mapUpdate_own (H := Unit) _ rfl (.tmp 86) (.tmp 88) (.const (.bool true)) 64 rfl 9 4 law9 Try.underlying64 (plainElem Try.prog 4) bm i _ rfl HS6.out (by unfold maxLen; omega) (.string x.f0) (.bool true) (.string x.f0.data.toList) rfl rfl Hkey.out _ [] (plainElem_bool Try.underlying4 true) ?_
                intro w7 hown7 hgrow7
                have HS7 := Aside0.mk (seen_put hown7)
                have HB7 := Aside0.mk (HB6.out.grown hgrow7 HB6.out.size (fun k hk => by injection hk with hk; omega))
                rw [htake.out] at HS7
                clear hown7 hgrow7 hc6 HS6 HB6 HM
                go_wp2_with fail
                have hk := Hi.out
                obtain ⟨k1, rfl⟩ : ∃ k1, gk = k1 + 1 := ⟨gk - 1, by omega⟩
                go_roundg k1
                case measure => omega
                case rel => exact ⟨i + 1, by go_num, ⟨by omega⟩, HS7, HM2, HB7⟩
        · have hie : i = l1.length := by omega
          have hr : r = 0 := by
            have e := H.out
            unfold chkF at e
            rw [if_neg HA.out, if_neg HAB.out, ← HM.out, hie, List.drop_length, looseL, if_pos rfl] at e
            injection e with e
            exact e.symm
          clear hie
          subst hr
          go_wp2_with fail
          go_ret
          exact ⟨rfl, HB.out⟩
    · have hxb : ((rd_T48 l1 0).f1 != 0) = true := bne_iff_ne.2 hx0
      have hr := End4.out (.inr (.inr hx0))
      clear hx0 hz hy
      subst hr
      go_wp2_with fail
      go_ret
      exact ⟨rfl, HB1.out⟩
end Go.Proofs.Ytfhgoebgnilfaaa.I
namespace Go.Proofs.Ytfhgoebgnilfaaa.I
open Go.RowKit Go.Proofs.YtfhgoebgnilfaaaW.PrintWords Go.Proofs.YtfhgoebgnilfaaaW.PrintLast Go.Proofs.YtfhgoebgnilfaaaW.PrintMore
attribute [local go_sem] max2_int min2_int max_two min_two max_three min_three max_four min_four
set_option linter.unusedVariables false
set_option maxRecDepth 100000
set_option linter.unusedSimpArgs false
mutual
/-- Has it, and each sort in it, at most 8 arguments? -/
def fewS : S41 → Bool
  | ⟨l⟩ => fewL l && decide (l.length ≤ 8)
def fewL : List S41 → Bool
  | [] => true
  | x :: xs => fewS x && fewL xs
end
theorem few1_calls (l : List S41) (A : Option Addr) (c : Nat) (w : World) (hr : Kd.C k41 w A l.length l) (hc : l.length ≤ c) :
    Calls Try.prog 62 #[.agg #[.slice A l.length c]] w fun e w' => e = .returned (.bool (decide (l.length ≤ 8))) ∧ Below w.heap.size w w' := by
  have hu41 := Try.underlying41
  have hlen : l.length ≤ 9223372036854775807 := hr.2.1
  have HR := Aside0.mk hr
  clear hr
  go_enter Try.func62, Try.ntmps62
  have HB := Aside0.mk (below_alloc (Below.refl w.heap.size w) (.cells #[.slice A l.length c] 41))
  by_cases h8 : l.length ≤ 8
  · have h8' : decide ((l.length : Int) ≤ 8) = true := decide_eq_true (by omega)
    have h9 : decide (l.length ≤ 8) = true := decide_eq_true h8
    go_wp2_with fail
    go_ret
    exact ⟨by rw [h9]; rfl, HB.out⟩
  · have h8' : decide ((l.length : Int) ≤ 8) = false := decide_eq_false (by omega)
    have h9 : decide (l.length ≤ 8) = false := decide_eq_false h8
    go_wp2_with fail
    go_ret
    exact ⟨by rw [h9]; rfl, HB.out⟩
theorem all_calls (N : Nat) : ∀ (l : List S41) (A : Option Addr) (c : Nat) (w : World) (hN : SizeOf.sizeOf l < N) (hr : Kd.C k41 w A l.length l) (hc : l.length ≤ c),
    Calls Try.prog 61 #[.agg #[.slice A l.length c], .func (.func 62) #[] #[]] w fun e w' => e = .returned (.bool (fewS ⟨l⟩)) ∧ Below w.heap.size w w' := by
  induction N with
  | zero => intro l A c w hN; omega
  | succ N ih =>
  intro l A c w hN hr hc
  have hu41 := Try.underlying41
  have hlen : l.length ≤ 9223372036854775807 := hr.2.1
  have HR := Aside0.mk hr
  have HC := Aside0.mk hc
  have HN := Aside0.mk hN
  have IH := Aside0.mk ih
  clear hr hc hN ih
  go_enter Try.func61, Try.ntmps61
  go_wp2_with (
    (with_reducible refine gate_dst (N := 2) rfl ?_)
    refine box_event ?hg (N := 2) ?hd (cs := #[.slice A l.length c]) (t := 41) ?hr ?_
    (case hd => rfl)
    (case hg => rfl)
    (case hr => first | (go_simp; done) | (go_simp; rfl))
    intro gb hgb w2 hbox hb2
    have HB2 := Aside0.mk hb2
    have hcz2 : w2.cell? ⟨gb, 0, none⟩ = some (.slice A l.length c) := (blk_cell hbox 0).trans rfl
    have Hbox := Aside0.mk hbox
    clear hbox hb2 hgb)
  clear hcz2
  go_loopg [10] l.length (fun kq v10 wr => ∃ (i : Nat), v10 = .int .i64 (i : Int) ∧ Aside0 (kq + i = l.length) ∧ Aside0 (fewL (l.drop i) = fewL l) ∧ Aside0 (wr.heap[gb]? = some (.cells #[.slice A l.length c] 41 (0, 0))) ∧ Aside0 (Below w.heap.size w wr))
  case atStart => exact ⟨0, rfl, ⟨by omega⟩, ⟨by rw [List.drop_zero]⟩, Hbox, HB2⟩
  case round =>
    clear Hbox HB2
    obtain ⟨i, rfl, Hi, Hm, Hbox, HB⟩ := hrel
    have hi : i ≤ l.length := by have := Hi.out; omega
    by_cases hlt : i < l.length
    · have hdrop := Aside0.mk (rd_T41_drop l i hlt)
      have hmem := Aside0.mk (rd_T41_mem l i hlt)
      obtain ⟨ad, A1, c1, he, hx1, hl1, hi1⟩ := at_T41 HR.out (i : Int) (by omega) (by omega)
      cases he
      replace hx1 := (HB.out.cell (World.block_lt_of_cell? w _ hx1)).trans hx1
      rw [Int.toNat_natCast] at hx1
      have Hl1 := Aside0.mk hl1
      have Hi1 := Aside0.mk hi1
      clear hl1 hi1
      have p1 : (0 ≤ (i : Int)) = True := eq_true (by omega)
      have p2 : ((i : Int) < (l.length : Int)) = True := eq_true (by omega)
      have p3 : (i < l.length) = True := eq_true (by omega)
      generalize hx : rd_T41 l (i : Int) = x at *
      have Hx := Aside0.mk hx
      clear hx
      go_wp2_with (
        (with_reducible refine gate_dst (N := 6) rfl ?_)
        refine box_event ?hg (N := 6) ?hd (cs := #[.slice none 0 0]) (t := 41) ?hr ?_
        (case hd => rfl)
        (case hg => rfl)
        (case hr => first | (go_simp; done) | (go_simp; rfl))
        intro gi hgi w3 hbox3 hb3
        have hsz := below_size HB.out
        have HB3 := Aside0.mk (below_set (j := 0) (v := .slice A1 x.f0.length c1) (below_step HB.out hb3) (show w.heap.size ≤ gi by omega))
        have hne4 : gb ≠ gi := by have := blk_lt Hbox.out; omega
        have Hbox3 := Aside0.mk (blk_far (p := ⟨gi, 0, none⟩) (blk_below Hbox.out hb3) hne4 (.slice A1 x.f0.length c1))
        have hci : (w3.setCell ⟨gi, 0, none⟩ (.slice A1 x.f0.length c1)).cell? ⟨gi, 0, none⟩ = some (.slice A1 x.f0.length c1) := (blk_cell (blk_set hbox3 0 (.slice A1 x.f0.length c1)) 0).trans rfl
        have hcz := (blk_cell hbox3 0).trans rfl
        have hfz := blk_frozen hbox3 0
        clear hbox3 hb3 hsz hgi HB Hbox)
      (with_reducible refine (IH.out x.f0 A1 c1 _ ?_ (Kd.C_below Hi1.out HB3.out) Hl1.out).mono ?_)
      · have := hmem.out; have := HN.out; omega
      rintro e w4 ⟨rfl, hB4⟩
      have HB := Aside0.mk (below_step HB3.out hB4)
      have Hbox := Aside0.mk (blk_below Hbox3.out hB4)
      clear hB4 HB3 Hbox3 hci hcz hfz
      have hxe : fewS ⟨x.f0⟩ = fewS x := by cases x; rfl
      have HM : Aside0 (fewL l = (fewS ⟨x.f0⟩ && fewL (l.drop (i + 1)))) := ⟨by rw [← Hm.out, hdrop.out, fewL, hxe]⟩
      clear hxe
      cases hf : fewS ⟨x.f0⟩ with
      | false =>
        rw [hf] at HM
        have HM2 : Aside0 (fewS ⟨l⟩ = false) := ⟨by rw [fewS, HM.out]; simp⟩
        clear hf HM
        go_wp2_with fail
        go_ret
        exact ⟨by rw [HM2.out]; rfl, HB.out⟩
      | true =>
        rw [hf] at HM
        clear hf
        go_wp2_with fail
        have hk := Hi.out
        obtain ⟨k1, rfl⟩ : ∃ k1, gk = k1 + 1 := ⟨gk - 1, by omega⟩
        go_roundg k1
        case measure => omega
        case rel => exact ⟨i + 1, by go_num, ⟨by omega⟩, ⟨by rw [HM.out]; simp⟩, Hbox, HB⟩
    · have hie : i = l.length := by omega
      have Hfew : Aside0 (fewS ⟨l⟩ = decide (l.length ≤ 8)) := ⟨by rw [fewS, ← Hm.out, hie, List.drop_length, fewL]; simp⟩
      have Hie := Aside0.mk hie
      clear hie
      have hcz2 : wr.cell? ⟨gb, 0, none⟩ = some (.slice A l.length c) := (blk_cell Hbox.out 0).trans rfl
      go_wp2_with fail
      (with_reducible refine (few1_calls l A c _ (Kd.C_below HR.out HB.out) HC.out).mono ?_)
      rintro e w4 ⟨rfl, hB4⟩
      have HB4 := Aside0.mk (below_step HB.out hB4)
      clear hB4
      go_wp2_with fail
      go_ret
      exact ⟨by rw [Hfew.out]; rfl, HB4.out⟩
def sorts_Check.f (l0_0 : List S41) : Option Int := some (if (meas ⟨l0_0⟩ 60).2 < 0 ∨ (meas ⟨l0_0⟩ 60).1 > 30 ∨ fewS ⟨l0_0⟩ = false then 6 else 0)
theorem sorts_Check.calls (A0_0 : Option Addr) (c0_0 : Nat) (l0_0 : List S41) (r : Int) (w : World) (hr0_0 : Kd.C k41 w A0_0 l0_0.length l0_0) (hc0_0 : l0_0.length ≤ c0_0) (h : sorts_Check.f l0_0 = some r) :
    Calls Try.prog 41 #[.agg #[.slice A0_0 l0_0.length c0_0]] w fun e w' => e = .returned (.int .i64 r) ∧ Below w.heap.size w w' := by
  have hu41 := Try.underlying41
  have HR := Aside0.mk hr0_0
  have HC := Aside0.mk hc0_0
  have HBD := Aside0.mk (meas_bd ⟨l0_0⟩ 60 (by omega))
  obtain ⟨n1, n2, hS⟩ : ∃ n1 n2, sorts_Size.f l0_0 = some (n1, n2) := ⟨_, _, rfl⟩
  have HS := Aside0.mk hS
  have HSC : Aside0 ((n1 > 60 ∨ n2 > 30 ∨ fewS ⟨l0_0⟩ = false) ↔ ((meas ⟨l0_0⟩ 60).2 < 0 ∨ (meas ⟨l0_0⟩ 60).1 > 30 ∨ fewS ⟨l0_0⟩ = false)) := ⟨by
    have hb := HBD.out
    unfold sorts_Size.f at hS
    by_cases hneg : (meas ⟨l0_0⟩ 60).2 < 0
    · simp only [if_pos hneg, Option.some.injEq, Prod.mk.injEq] at hS
      obtain ⟨rfl, rfl⟩ := hS
      exact ⟨fun _ => .inl hneg, fun _ => .inl (by omega)⟩
    · simp only [if_neg hneg, Option.some.injEq, Prod.mk.injEq] at hS
      obtain ⟨rfl, rfl⟩ := hS
      exact ⟨fun h => h.elim (fun h => by omega) .inr, fun h => h.elim (fun h => absurd h hneg) .inr⟩⟩
  have HF := Aside0.mk h
  clear h hr0_0 hc0_0 hS
  go_enter Try.func41, Try.ntmps41
  go_wp2_with (
      (with_reducible refine gate_dst (N := 1) rfl ?_)
      refine box_event ?hg (N := 1) ?hd (cs := #[.slice A0_0 l0_0.length c0_0]) (t := 41) ?hr ?_
      (case hd => rfl)
      (case hg => rfl)
      (case hr => first | (go_simp; done) | (go_simp; rfl))
      intro gb hgb w2 hbox hb2
      have HB2 := Aside0.mk hb2
      have Hbox := Aside0.mk hbox
      have hcz2 : w2.cell? ⟨gb, 0, none⟩ = some (.slice A0_0 l0_0.length c0_0) := (blk_cell hbox 0).trans rfl
      clear hbox hb2 hgb)
  (with_reducible refine (sorts_Size.calls A0_0 c0_0 l0_0 n1 n2 _ (Kd.C_below HR.out HB2.out) HC.out HS.out).mono ?_)
  rintro e w3 ⟨rfl, hB3⟩
  have HB3 := Aside0.mk (below_step HB2.out hB3)
  have Hbox3 := Aside0.mk (blk_below Hbox.out hB3)
  clear hB3 hcz2
  have hcz3 : w3.cell? ⟨gb, 0, none⟩ = some (.slice A0_0 l0_0.length c0_0) := (blk_cell Hbox3.out 0).trans rfl
  by_cases h1 : n1 > 60
  · have HR6 : Aside0 (r = 6) := ⟨by have e := HF.out; rw [sorts_Check.f, if_pos (HSC.out.1 (.inl h1))] at e; injection e with e; exact e.symm⟩
    have h1b : decide (60 < n1) = true := decide_eq_true h1
    go_wp2_with fail
    go_ret
    exact ⟨by rw [HR6.out]; rfl, HB3.out⟩
  · have h1b : decide (60 < n1) = false := decide_eq_false h1
    by_cases h2 : n2 > 30
    · have HR6 : Aside0 (r = 6) := ⟨by have e := HF.out; rw [sorts_Check.f, if_pos (HSC.out.1 (.inr (.inl h2)))] at e; injection e with e; exact e.symm⟩
      have h2b : decide (30 < n2) = true := decide_eq_true h2
      go_wp2_with fail
      go_ret
      exact ⟨by rw [HR6.out]; rfl, HB3.out⟩
    · have h2b : decide (30 < n2) = false := decide_eq_false h2
      go_wp2_with fail
      (with_reducible refine (all_calls (SizeOf.sizeOf l0_0 + 1) l0_0 A0_0 c0_0 _ (by omega) (Kd.C_below HR.out HB3.out) HC.out).mono ?_)
      rintro e w4 ⟨rfl, hB4⟩
      have HB4 := Aside0.mk (below_step HB3.out hB4)
      clear hB4
      cases hf : fewS ⟨l0_0⟩ with
      | false =>
        have HR6 : Aside0 (r = 6) := ⟨by have e := HF.out; rw [sorts_Check.f, if_pos (HSC.out.1 (.inr (.inr hf)))] at e; injection e with e; exact e.symm⟩
        clear hf
        go_wp2_with fail
        go_ret
        exact ⟨by rw [HR6.out]; rfl, HB4.out⟩
      | true =>
        have HR6 : Aside0 (r = 0) := ⟨by have e := HF.out; rw [sorts_Check.f, if_neg (fun h => by rcases HSC.out.2 h with h | h | h; omega; omega; rw [hf] at h; cases h)] at e; injection e with e; exact e.symm⟩
        clear hf
        go_wp2_with fail
        go_ret
        exact ⟨by rw [HR6.out]; rfl, HB4.out⟩
end Go.Proofs.Ytfhgoebgnilfaaa.I
namespace Go.Proofs.Ytfhgoebgnilfaaa.I
open Go.RowKit
set_option linter.unusedVariables false
def kbare : KN := ⟨none, false, none, none⟩
def fheads : List KN → List S48 → (List (List Nat) × List Nat) × List KN
  | s, [] => (([], []), s)
  | s, x :: xs =>
    let a := farrow (s ++ List.replicate x.f1.toNat kbare) 0 (List.range' s.length x.f1.toNat)
    let r := fheads a.2 xs
    ((List.range' s.length x.f1.toNat :: r.1.1, a.1 :: r.1.2), r.2)
def fbodies (syms : List S59) (funs : List Nat) (f : Nat) : List KN → List (List Nat) → List S48 → Option (Bool × List KN)
  | s, _, [] => some (true, s)
  | s, [], _ :: _ => none
  | s, ps :: pss, x :: xs => match fterm ⟨0, syms, funs, ps⟩ f s x.f2.f0 x.f2.f1 x.f2.f2 with
    | none => none
    | some (none, s1) => some (false, s1)
    | some (some k, s1) => match fjoin f s1 k 0 with
      | none => none
      | some (false, s2) => some (false, s2)
      | some (true, s2) => fbodies syms funs f s2 pss xs
def fouts (s : List KN) (f : Nat) : List S41 → List Nat → Option (Option (List S41))
  | acc, [] => some (some acc)
  | acc, k :: ks => match fshown s f k 60 with
    | none => none
    | some (none, _) => some none
    | some (some l, _) => match sorts_Check.f l with
      | none => none
      | some e => if e = 0 then fouts s f (acc ++ [⟨l⟩]) ks else some none
def fsorts (f : Nat) (syms : List S59) (l : List S48) : Option (List S41 × Int) :=
  match chkF syms l with
  | none => none
  | some e => if e = 0 then
      match fbodies syms (fheads [⟨none, true, none, none⟩] l).1.2 f (fheads [⟨none, true, none, none⟩] l).2 (fheads [⟨none, true, none, none⟩] l).1.1 l with
      | none => none
      | some (false, _) => some ([], 6)
      | some (true, s) => match fouts s f [] (fheads [⟨none, true, none, none⟩] l).1.2 with
        | none => none
        | some none => some ([], 3)
        | some (some out) => some (out, 0)
    else some ([], e)
theorem looseL_le : ∀ (l : List S48) (nf ns : Int) (L : List ByteArray), looseL l nf ns L = true → ∀ x ∈ l, 0 ≤ x.f1 ∧ x.f1 ≤ 8
  | [], _, _, _, _, x, hx => by cases hx
  | y :: ys, nf, ns, L, h, x, hx => by
    unfold looseL at h
    by_cases hb : looseBad y nf ns L = true
    · rw [if_pos hb] at h; cases h
    · rw [if_neg hb] at h
      rcases List.mem_cons.1 hx with hx | hx
      · subst hx
        unfold looseBad at hb
        simp only [Bool.or_eq_true, decide_eq_true_eq, not_or] at hb
        exact ⟨by have := hb.2.2.1; omega, by have := hb.2.2.2.1; omega⟩
      · exact looseL_le ys nf ns _ h x hx
theorem symsL_le : ∀ (l : List S59) (L : List ByteArray), symsL l L = true → ∀ x ∈ l, 0 ≤ x.f1 ∧ x.f1 ≤ 4
  | [], _, _, x, hx => by cases hx
  | y :: ys, L, h, x, hx => by
    unfold symsL at h
    by_cases hb : symBad y L = true
    · rw [if_pos hb] at h; cases h
    · rw [if_neg hb] at h
      rcases List.mem_cons.1 hx with hx | hx
      · subst hx
        unfold symBad at hb
        simp only [Bool.or_eq_true, decide_eq_true_eq, not_or] at hb
        exact ⟨by have := hb.2.2.1; omega, by have := hb.2.2.2; omega⟩
      · exact symsL_le ys _ h x hx
theorem fCheck_ok {l0 : List S59} {l1 : List S48} (h : chkF l0 l1 = some 0) : symsL l0 [] = true ∧ l0.length ≤ 24 ∧ 0 < l1.length ∧ l1.length ≤ 64 ∧ ∀ x ∈ l1, 0 ≤ x.f1 ∧ x.f1 ≤ 8 := by
  unfold chkF at h
  injection h with h
  split at h
  · cases h
  · split at h
    · cases h
    · split at h
      · rename_i h1 h2 h3
        refine ⟨by cases hs : symsL l0 [] <;> simp_all, by omega, by omega, by omega, looseL_le _ _ _ _ h3⟩
      · cases h
end Go.Proofs.Ytfhgoebgnilfaaa.I
