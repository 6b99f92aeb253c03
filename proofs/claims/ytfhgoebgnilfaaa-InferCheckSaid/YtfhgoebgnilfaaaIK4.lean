/- Contract of finder.arrow, by hand. -/
import Derived.Test.YtfhgoebgnilfaaaIK3
namespace Go.Proofs.Ytfhgoebgnilfaaa.I
open Go.RowKit Go.Proofs.YtfhgoebgnilfaaaW.PrintWords Go.Proofs.YtfhgoebgnilfaaaW.PrintLast Go.Proofs.YtfhgoebgnilfaaaW.PrintMore
attribute [local go_sem] max2_int min2_int max_two min_two max_three min_three max_four min_four
set_option linter.unusedVariables false
set_option maxRecDepth 100000
set_option linter.unusedSimpArgs false
theorem bk_app {ad e : List Nat} {i : Nat} (h : i < ad.length) : bk (ad ++ e) i = bk ad i := by
  unfold bk
  rw [List.getD_eq_getElem?_getD, List.getD_eq_getElem?_getD, List.getElem?_append_left h]
theorem pv_app {ad e : List Nat} {o : Option Nat} (h : inS ad.length o) : pv (ad ++ e) o = pv ad o := by
  cases o with
  | none => rfl
  | some j => show pk (ad ++ e) j = pk ad j; unfold pk; rw [bk_app (h j rfl)]
/-- A new kind is made. -/
theorem Held.push {B : Nat} {s : List KN} {ad : List Nat} {w w1 : World} {g : Nat} {n : KN} (h : Held B s ad w) (hb : Below w.heap.size w w1) (hg : w.heap.size ≤ g) (hB : B ≤ w.heap.size) (hn : inS s.length n.lk ∧ inS s.length n.fr ∧ inS s.length n.tk)
    (hc : w1.heap[g]? = some (.cells (kcells ad n) 74 (0, 0))) : Held B (s ++ [n]) (ad ++ [g]) w1 := by
  have hl := h.len
  have up : ∀ o, inS s.length o → inS (s ++ [n]).length o := fun o ho j hj => by rw [List.length_append]; have := ho j hj; simp only [List.length_cons, List.length_nil]; omega
  refine ⟨by rw [List.length_append, List.length_append, hl]; rfl, ?_, ?_, ?_, ?_⟩
  · rw [List.nodup_append]
    refine ⟨h.nodup, by simp, ?_⟩
    intro a ha b hb' e
    rw [List.mem_singleton] at hb'
    subst hb' e
    obtain ⟨i, hi, e⟩ := List.getElem_of_mem ha
    obtain ⟨m, _, hm⟩ := h.at (i := i) (by rw [← hl]; exact hi)
    have := blk_lt hm
    unfold bk at this
    rw [List.getD_eq_getElem?_getD, List.getElem?_eq_getElem hi] at this
    simp only [Option.getD_some] at this
    omega
  · intro b hb'
    rcases List.mem_append.1 hb' with h1 | h1
    · exact h.ge b h1
    · rw [List.mem_singleton] at h1; omega
  · intro i m hm
    by_cases hi : i < s.length
    · rw [List.getElem?_append_left hi] at hm
      have ho := h.ok i m hm
      rw [← hl] at ho
      rw [bk_app (by omega)]
      have e : kcells (ad ++ [g]) m = kcells ad m := by unfold kcells; rw [pv_app ho.1, pv_app ho.2.1, pv_app ho.2.2]
      rw [e]
      exact blk_below (h.cell i m hm) hb
    · have hil : i < (s ++ [n]).length := (List.getElem?_eq_some_iff.1 hm).1
      rw [List.length_append] at hil
      simp only [List.length_cons, List.length_nil] at hil
      have hie : i = s.length := by omega
      subst hie
      rw [List.getElem?_append_right (Nat.le_refl _), Nat.sub_self] at hm
      injection hm with hm
      subst hm
      have e : bk (ad ++ [g]) s.length = g := by
        unfold bk
        rw [List.getD_eq_getElem?_getD, ← hl, List.getElem?_append_right (Nat.le_refl _), Nat.sub_self]
        rfl
      rw [e]
      rw [← hl] at hn
      have e2 : kcells (ad ++ [g]) n = kcells ad n := by unfold kcells; rw [pv_app hn.1, pv_app hn.2.1, pv_app hn.2.2]
      rw [e2]
      exact hc
  · intro i m hm
    by_cases hi : i < s.length
    · rw [List.getElem?_append_left hi] at hm
      have ho := h.ok i m hm
      exact ⟨up _ ho.1, up _ ho.2.1, up _ ho.2.2⟩
    · have hil : i < (s ++ [n]).length := (List.getElem?_eq_some_iff.1 hm).1
      rw [List.length_append] at hil
      simp only [List.length_cons, List.length_nil] at hil
      have hie : i = s.length := by omega
      subst hie
      rw [List.getElem?_append_right (Nat.le_refl _), Nat.sub_self] at hm
      injection hm with hm
      subst hm
      exact ⟨up _ hn.1, up _ hn.2.1, up _ hn.2.2⟩
theorem bk_new {ad : List Nat} {s : List KN} {g : Nat} (hl : ad.length = s.length) : bk (ad ++ [g]) s.length = g := by
  unfold bk
  rw [List.getD_eq_getElem?_getD, ← hl, List.getElem?_append_right (Nat.le_refl _), Nat.sub_self]
  rfl
/-- A row of pointers to kinds is read. -/
def Ptrs (ad : List Nat) (w : World) (A : Option Addr) (ps : List Nat) : Prop :=
  ps.length ≤ 9223372036854775807 ∧ (∀ p, p ∈ ps → p < ad.length) ∧ (0 < ps.length → ∃ adr, A = some adr ∧ ∀ (j : Nat) (p : Nat), ps[j]? = some p → w.cell? (adr.add j) = some (pk ad p))
/-- Arrows from kinds, the last one first. -/
def farrowR : List KN → Nat → List Nat → Nat × List KN
  | s, k, [] => (k, s)
  | s, k, p :: rest => farrowR (s ++ [⟨none, false, some p, some k⟩]) s.length rest
def farrow (s : List KN) (o : Nat) (ps : List Nat) : Nat × List KN := farrowR s o ps.reverse
set_option maxHeartbeats 4000000 in
theorem arrow_calls (B : Nat) (s : List KN) (ad : List Nat) (o : Nat) (A : Option Addr) (c : Nat) (ps : List Nat) (gf : Nat) (v1 v2 v3 : Value) (w : World) (hH : Held B s ad w) (ho : o < s.length) (hB : B ≤ w.heap.size) (hP : Ptrs ad w A ps)
    (hf : w.heap[gf]? = some (.cells #[pk ad o, v1, v2, v3] 77 (0, 0))) :
    Calls Try.prog 37 #[.pointer (some ⟨gf, 0, none⟩), .slice A ps.length c] w fun e w' => ∃ ad', e = .returned (pk (ad ++ ad') (farrow s o ps).1) ∧ Held B (farrow s o ps).2 (ad ++ ad') w' ∧ Below w.heap.size w w' ∧ (farrow s o ps).1 < (farrow s o ps).2.length ∧ ∀ b, b ∈ ad' → w.heap.size ≤ b := by
  have hu74 := Try.underlying74
  have hu77 := Try.underlying77
  have hlen := hP.1
  have HH := Aside0.mk hH
  have HO := Aside0.mk ho
  have HBB := Aside0.mk hB
  have HP := Aside0.mk hP
  have hc0 : w.cell? ⟨gf, 0, none⟩ = some (pk ad o) := (blk_cell hf 0).trans rfl
  have HL := Aside0.mk hH.len
  clear hH ho hB hP hf
  go_enter Try.func37, Try.ntmps37
  go_wp2_with fail
  go_loopg [5, 6] ps.length (fun kq v5 v6 wr => ∃ (m : Nat) (s1 : List KN) (e1 : List Nat) (k : Nat), v5 = pk (ad ++ e1) k ∧ v6 = .int .i64 ((m : Int) - 1) ∧ Aside0 (kq = m ∧ m ≤ ps.length) ∧ Aside0 (farrowR s1 k (ps.take m).reverse = farrow s o ps) ∧ Aside0 (Held B s1 (ad ++ e1) wr) ∧ Aside0 (k < s1.length ∧ s.length ≤ s1.length) ∧ Aside0 (Below w.heap.size w wr) ∧ Aside0 (∀ b, b ∈ e1 → w.heap.size ≤ b))
  case atStart => exact ⟨ps.length, s, [], o, by rw [List.append_nil], by go_num, ⟨rfl, Nat.le_refl _⟩, ⟨by rw [List.take_length]; rfl⟩, ⟨by rw [List.append_nil]; exact HH.out⟩, ⟨HO.out, Nat.le_refl _⟩, ⟨Below.refl _ _⟩, ⟨by intro b hb; cases hb⟩⟩
  case round =>
    obtain ⟨m, s1, e1, k, rfl, rfl, Hm, HF, H1, HK, HB, HN1⟩ := hrel
    cases m with
    | zero =>
      have hj : decide ((0 : Int) ≤ ((0 : Nat) : Int) - 1) = false := by decide
      have e := HF.out
      rw [List.take_zero, List.reverse_nil, farrowR] at e
      have e' := Aside0.mk e
      clear e
      go_wp2_with fail
      go_ret
      exact ⟨e1, by rw [← e'.out]; rfl, by rw [← e'.out]; exact H1.out, HB.out, by rw [← e'.out]; exact HK.out.1, HN1.out⟩
    | succ m =>
      have hmle := Hm.out.2
      have hmi : m < ps.length := by omega
      have hpm := Aside0.mk (List.getElem?_eq_getElem hmi)
      have htk : (ps.take (m + 1)).reverse = ps[m] :: (ps.take m).reverse := by
        rw [List.take_add_one, List.getElem?_eq_getElem hmi]
        simp
      have HT := Aside0.mk htk
      have hpl := HP.out.2.1 ps[m] (List.getElem_mem hmi)
      obtain ⟨adr, hadr, hcells⟩ := HP.out.2.2 (by omega)
      cases hadr
      have hx1 := hcells m ps[m] hpm.out
      replace hx1 := (HB.out.cell (World.block_lt_of_cell? w _ hx1)).trans hx1
      have hfo := (HB.out.cell (World.block_lt_of_cell? w _ hc0)).trans hc0
      generalize hp : ps[m] = p at *
      have hml := HL.out
      have hppe : pk (ad ++ e1) p = pk ad p := by unfold pk; rw [bk_app hpl]
      have Hpp := Aside0.mk hppe
      have hj : decide ((0 : Int) ≤ (m : Int)) = true := decide_eq_true (by omega)
      have p1 : (0 ≤ (m : Int)) = True := eq_true (by omega)
      have p2 : ((m : Int) < (ps.length : Int)) = True := eq_true (by omega)
      have p3 : (m < ps.length) = True := eq_true hmi
      rw [show (((m + 1 : Nat) : Int) - 1) = (m : Int) from by omega]
      clear hcells htk hp hppe hpm
      go_wp2_with (
        (with_reducible refine gate_dst (N := 24) rfl ?_)
        refine box_event ?hg (N := 24) ?hd (cs := #[.pointer none, .bool false, pk ad p, pk (ad ++ e1) k]) (t := 74) ?hr ?_
        (case hd => rfl)
        (case hg => rfl)
        (case hr => first | (go_simp; done) | (go_simp; rfl))
        intro g hg w3 hbox hb3
        have hsz := HB.out.size
        have H3 := Aside0.mk (Held.push (n := ⟨none, false, some p, some k⟩) H1.out hb3 (Nat.le_of_eq hg.symm) (Nat.le_trans HBB.out hsz) ⟨(by intro j hj; cases hj), (by intro j hj; injection hj with hj; have := HK.out.2; omega), (by intro j hj; injection hj with hj; have := HK.out.1; omega)⟩ (by rw [hbox]; unfold kcells; show _ = some (Obj.cells #[.pointer none, .bool false, pk (ad ++ e1) p, pk (ad ++ e1) k] 74 (0, 0)); rw [Hpp.out]))
        have HB3 := Aside0.mk (below_step HB.out hb3)
        have HN3 := Aside0.mk (show ∀ b, b ∈ e1 ++ [g] → w.heap.size ≤ b from fun b hb => by
          rcases List.mem_append.1 hb with hb | hb
          · exact HN1.out b hb
          · rw [List.mem_singleton] at hb; omega)
        have hbn := Aside0.mk (show bk (ad ++ e1 ++ [g]) s1.length = g from bk_new H1.out.len)
        clear hbox hb3 hsz hg)
      have hgk := Hm.out.1
      go_roundg m
      case measure => omega
      case rel => exact ⟨m, s1 ++ [⟨none, false, some p, some k⟩], e1 ++ [g], s1.length, by rw [← List.append_assoc]; unfold pk; rw [hbn.out], by go_num, ⟨rfl, by omega⟩, ⟨by rw [← HF.out, HT.out, farrowR]⟩, ⟨by rw [← List.append_assoc]; exact H3.out⟩, ⟨by rw [List.length_append]; simp, by rw [List.length_append]; have := HK.out.2; omega⟩, HB3, HN3⟩
end Go.Proofs.Ytfhgoebgnilfaaa.I
