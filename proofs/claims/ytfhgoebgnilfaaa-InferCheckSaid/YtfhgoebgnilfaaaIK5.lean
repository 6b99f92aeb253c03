/- Contract of infer.shown, by hand. -/
import Derived.Test.YtfhgoebgnilfaaaIK4
namespace Go.Proofs.Ytfhgoebgnilfaaa.I
open Go.RowKit Go.Proofs.YtfhgoebgnilfaaaW.PrintWords Go.Proofs.YtfhgoebgnilfaaaW.PrintLast Go.Proofs.YtfhgoebgnilfaaaW.PrintMore
attribute [local go_sem] max2_int min2_int max_two min_two max_three min_three max_four min_four
set_option linter.unusedVariables false
set_option maxRecDepth 100000
set_option linter.unusedSimpArgs false
mutual
/-- The sort of a kind; none inside: it has too many nodes. -/
def fshown (s : List KN) : Nat → Nat → Int → Option (Option (List S41) × Int)
  | 0, _, _ => none
  | f + 1, i, left => if left - 1 < 0 then some (none, left - 1) else match fend s f i with
    | none => none
    | some r => fshownL s f r [] (left - 1)
def fshownL (s : List KN) : Nat → Nat → List S41 → Int → Option (Option (List S41) × Int)
  | 0, _, _, _ => none
  | f + 1, r, acc, left => match s[r]? with
    | none => none
    | some n => match n.fr with
      | none => some (some acc, left)
      | some a => match fshown s f a left with
        | none => none
        | some (none, l1) => some (none, l1)
        | some (some x, l1) => if acc.length < 5864062014805 then (match n.tk with
          | none => none
          | some t => match fend s f t with
            | none => none
            | some r2 => fshownL s f r2 (acc ++ [⟨x⟩]) l1) else none
end
theorem fshown_bd (s : List KN) : ∀ (f : Nat), (∀ i left o l1, fshown s f i left = some (o, l1) → l1 ≤ left ∧ (0 ≤ left → -1 ≤ l1 ∧ (∀ x, o = some x → 0 ≤ l1))) ∧ (∀ r acc left o l1, fshownL s f r acc left = some (o, l1) → l1 ≤ left ∧ (0 ≤ left → -1 ≤ l1 ∧ (∀ x, o = some x → 0 ≤ l1)))
  | 0 => ⟨fun i left o l1 h => by simp [fshown] at h, fun r acc left o l1 h => by simp [fshownL] at h⟩
  | f + 1 => by
    obtain ⟨ih1, ih2⟩ := fshown_bd s f
    refine ⟨fun i left o l1 h => ?_, fun r acc left o l1 h => ?_⟩
    · unfold fshown at h
      by_cases h0 : left - 1 < 0
      · rw [if_pos h0] at h
        injection h with h
        injection h with h2 h
        exact ⟨by omega, fun hz => ⟨by omega, fun x hx => by rw [← h2] at hx; cases hx⟩⟩
      · rw [if_neg h0] at h
        cases hr : fend s f i with
        | none => rw [hr] at h; cases h
        | some r =>
          rw [hr] at h
          have := ih2 r [] (left - 1) o l1 h
          exact ⟨by omega, fun hz => this.2 (by omega)⟩
    · unfold fshownL at h
      cases hn : s[r]? with
      | none => rw [hn] at h; cases h
      | some n =>
        rw [hn] at h
        simp only at h
        cases hf : n.fr with
        | none =>
          rw [hf] at h
          injection h with h
          injection h with _ h
          exact ⟨by omega, fun hz => ⟨by omega, fun _ _ => by omega⟩⟩
        | some a =>
          rw [hf] at h
          simp only at h
          cases hs : fshown s f a left with
          | none => rw [hs] at h; cases h
          | some q =>
            obtain ⟨o2, l2⟩ := q
            have b1 := ih1 a left o2 l2 hs
            rw [hs] at h
            cases o2 with
            | none =>
              injection h with h
              injection h with h2 h
              exact ⟨by omega, fun hz => ⟨by have := (b1.2 hz).1; omega, fun x hx => by rw [← h2] at hx; cases hx⟩⟩
            | some x =>
              simp only at h
              by_cases hl : acc.length < 5864062014805
              · rw [if_pos hl] at h
                cases ht : n.tk with
                | none => rw [ht] at h; cases h
                | some t =>
                  rw [ht] at h
                  simp only at h
                  cases hr : fend s f t with
                  | none => rw [hr] at h; cases h
                  | some r2 =>
                    rw [hr] at h
                    have b2 := ih2 r2 _ l2 o l1 h
                    exact ⟨by omega, fun hz => b2.2 ((b1.2 hz).2 x rfl)⟩
              · rw [if_neg hl] at h; cases h
/-- A goal at which the walk stands still. -/
def HoldI5 (p : Prop) : Prop := p
theorem holdI5 {p : Prop} (h : HoldI5 p) : p := h
theorem Held.keep {B : Nat} {s : List KN} {ad : List Nat} {w w1 : World} {g : Nat} (h : Held B s ad w) (hk : KeepBut w w1 g none) (hg : g ∉ ad) : Held B s ad w1 :=
  ⟨h.len, h.nodup, h.ge, fun i n hn => KeepBut.blk hk (h.cell i n hn) (fun e => hg (by rw [← e]; exact bk_mem h (List.getElem?_eq_some_iff.1 hn).1)) (by simp), h.ok⟩
set_option maxHeartbeats 8000000 in
theorem shown_calls (B : Nat) (s : List KN) (ad : List Nat) (f : Nat) : ∀ (i gl : Nat) (left l' : Int) (o : Option (List S41)) (w0 w : World) (hH : Held B s ad w) (hga : gl ∉ ad) (h : fshown s f i left = some (o, l')) (hg : w0.heap.size ≤ gl) (hB : Below w0.heap.size w0 w)
    (hb : w.heap[gl]? = some (.cells #[.int .i64 left] 3 (0, 0))) (hl : 0 ≤ left) (hl2 : left ≤ 1000),
    Calls Try.prog 40 #[pk ad i, .pointer (some ⟨gl, 0, none⟩)] w fun e w' => ∃ v, e = .returned (.tuple #[.agg #[v], .bool o.isSome]) ∧ (∃ A n c, v = .slice A n c) ∧ (∀ l, o = some l → Kd.R k41 41 w' w.heap.size (fun _ => True) v l) ∧ Below w0.heap.size w0 w' ∧ KeepBut w w' gl none ∧ w'.heap[gl]? = some (.cells #[.int .i64 l'] 3 (0, 0)) := by
  induction f using Nat.strongRecOn with
  | _ f ih =>
  intro i gl left l' o w0 w hH hga h hg hB hb hl hl2
  have hu41 := Try.underlying41
  cases f with
  | zero => exact absurd h (by simp [fshown])
  | succ f =>
  have HH := Aside0.mk hH
  have HGA := Aside0.mk hga
  have HG := Aside0.mk hg
  have HB := Aside0.mk hB
  have Hb := Aside0.mk hb
  have IH := Aside0.mk ih
  have hgl := blk_lt hb
  unfold fshown at h
  have H := Aside0.mk h
  clear hH hga hg hB hb ih h
  go_enter Try.func40, Try.ntmps40
  go_wp2_with (first
   | ((with_reducible refine gate_dst (N := 4) rfl ?_)
      refine box_event ?hg (N := 4) ?hd (cs := #[.slice none 0 0]) (t := 41) ?hr ?_
      (case hd => rfl)
      (case hg => rfl)
      (case hr => first | (go_simp; done) | (go_simp; rfl))
      intro g4 hg4 w2 hbox hb2
      have Sb2 := Aside0.mk (blk_below Hb.out hb2)
      have S42 := Aside0.mk hbox
      have HB2 := Aside0.mk (below_step HB.out hb2)
      have HK2 := Aside0.mk (KeepBut.of_below hb2 gl none)
      have hn4 : g4 ≠ gl := by omega
      have hw4 : w.heap.size ≤ g4 := by omega
      have hl4 := blk_lt hbox
      clear hbox hb2 hg4)
   | ((with_reducible refine gate_dst (N := 6) rfl ?_)
      refine box_event ?hg (N := 6) ?hd (cs := #[.slice none 0 0]) (t := 41) ?hr ?_
      (case hd => rfl)
      (case hg => rfl)
      (case hr => first | (go_simp; done) | (go_simp; rfl))
      intro g6 hg6 w3 hbox hb3
      have hn6 : g6 ≠ gl := by have := blk_lt Sb2.out; omega
      have hn64 : g6 ≠ g4 := by omega
      have hw6 : w.heap.size ≤ g6 := by omega
      have Sb3 := Aside0.mk (blk_put (cs' := #[.int .i64 (left - 1)]) (blk_below Sb2.out hb3) 0 (.int .i64 (left - 1)) rfl)
      have S43 := Aside0.mk (blk_far (p := ⟨gl, 0, none⟩) (blk_below S42.out hb3) hn4 (.int .i64 (left - 1)))
      have S63 := Aside0.mk (blk_far (p := ⟨gl, 0, none⟩) hbox hn6 (.int .i64 (left - 1)))
      have HB3 := Aside0.mk (below_set (g := gl) (j := 0) (v := .int .i64 (left - 1)) (below_step HB2.out hb3) HG.out)
      have HK3 := Aside0.mk (KeepBut.set_ (KeepBut.trans HK2.out (KeepBut.of_below hb3 gl none) (.inl rfl)) 0 (.int .i64 (left - 1)))
      have hcl : w3.cell? ⟨gl, 0, none⟩ = some (.int .i64 left) := (blk_cell (blk_below Sb2.out hb3) 0).trans rfl
      have hfl := blk_frozen (blk_below Sb2.out hb3) 0
      have hcl2 : (w3.setCell ⟨gl, 0, none⟩ (.int .i64 (left - 1))).cell? ⟨gl, 0, none⟩ = some (.int .i64 (left - 1)) := (blk_cell Sb3.out 0).trans rfl
      have hc6 : (w3.setCell ⟨gl, 0, none⟩ (.int .i64 (left - 1))).cell? ⟨g6, 0, none⟩ = some (.slice none 0 0) := (blk_cell S63.out 0).trans rfl
      have hc4 : (w3.setCell ⟨gl, 0, none⟩ (.int .i64 (left - 1))).cell? ⟨g4, 0, none⟩ = some (.slice none 0 0) := (blk_cell S43.out 0).trans rfl
      have hf4 := blk_frozen S43.out 0
      clear hbox hb3 hg6 Sb2 S42 HB2 HK2))
  · have hneg : left - 1 < 0 := by first | assumption | omega
    have h := H.out
    rw [if_pos hneg] at h
    injection h with h
    injection h with e1 e2
    subst e1 e2
    refine bodyPost_ret (results_ct rfl _ _ g4 41 #[.slice none 0 0] (0, 0) _ rfl (blk_put (cs' := #[.slice none 0 0]) S43.out 0 (.slice none 0 0) rfl) Try.underlying41 rfl (by kernel_rfl)) rfl ?_
    exact ⟨_, rfl, ⟨_, _, _, rfl⟩, (fun l hl => by cases hl), below_set (g := g4) (j := 0) HB3.out (Nat.le_trans HB.out.size hw4), keep_far (p := ⟨g4, 0, none⟩) HK3.out hw4 _, blk_far (p := ⟨g4, 0, none⟩) Sb3.out (Ne.symm hn4) _⟩
  · have hneg : ¬ (left - 1 < 0) := by first | assumption | omega
    have h := H.out
    rw [if_neg hneg] at h
    cases hr : fend s f i with
    | none => rw [hr] at h; cases h
    | some r0 =>
    rw [hr] at h
    simp only at h
    have HE := Aside0.mk hr
    have HF := Aside0.mk h
    have hH3 := Held.keep HH.out HK3.out HGA.out
    have H3 := Aside0.mk hH3
    have hsz0 := HB.out.size
    clear h H hr hcl hfl hcl2 hc6 hc4 hf4 HB Hb hH3
    (with_reducible refine (kend_calls B s ad f i r0 _ H3.out HE.out).mono ?_)
    rintro e w4 ⟨rfl, rfl⟩
    go_wp2_with fail
    go_loopg [0] f (fun kq v0 wr => ∃ (r : Nat) (acc : List S41) (v : Value) (lf : Int), v0 = pk ad r ∧ Aside0 (kq ≤ f) ∧ Aside0 (fshownL s kq r acc lf = some (o, l')) ∧ Aside0 (0 ≤ lf ∧ lf ≤ 1000) ∧ Aside0 (wr.heap[gl]? = some (.cells #[.int .i64 lf] 3 (0, 0))) ∧ Aside0 (wr.heap[g4]? = some (.cells #[.slice none 0 0] 41 (0, 0))) ∧ Aside0 (wr.heap[g6]? = some (.cells #[v] 41 (0, 0))) ∧ Aside0 (Kd.R k41 41 wr w.heap.size (fun k => k ≠ gl ∧ k ≠ g4 ∧ k ≠ g6) v acc) ∧ Aside0 (Below w0.heap.size w0 wr) ∧ Aside0 (KeepBut w wr gl none))
    case atStart => exact ⟨r0, [], .slice none 0 0, left - 1, rfl, ⟨Nat.le_refl _⟩, HF, ⟨by omega⟩, Sb3, S43, S63, ⟨Kd.R_nil _ _ _ _ _⟩, HB3, HK3⟩
    case round =>
      clear HF Sb3 S43 S63 HB3 HK3 H3 HE hneg
      obtain ⟨r, acc, v, lf, rfl, Hk, HF, Hlf, Sb, S4, S6, HO, HB, HK⟩ := hrel
      have hf := HF.out
      cases gk with
      | zero => exact absurd hf (by simp [fshownL])
      | succ k1 =>
      unfold fshownL at hf
      cases hn : s[r]? with
      | none => rw [hn] at hf; cases hf
      | some n =>
      rw [hn] at hf
      simp only at hf
      have hHr := Held.keep HH.out HK.out HGA.out
      have Hr := Aside0.mk hHr
      have hcr := hHr.cell r n hn
      have hcr2 : wr.cell? ⟨bk ad r, 2, none⟩ = some (pv ad n.fr) := (blk_cell hcr 2).trans rfl
      have Hn := Aside0.mk hn
      obtain ⟨A1, c1, e1⟩ := Kd.R_slice HO.out
      subst e1
      have hc6 : wr.cell? ⟨g6, 0, none⟩ = some (.slice A1 acc.length c1) := (blk_cell S6.out 0).trans rfl
      have hc4 : wr.cell? ⟨g4, 0, none⟩ = some (.slice none 0 0) := (blk_cell S4.out 0).trans rfl
      have hf4 := blk_frozen S4.out 0
      clear hHr hcr hn HF
      cases hfr : n.fr with
      | none =>
        rw [hfr] at hf hcr2
        injection hf with hf
        injection hf with e1 e2
        subst e1 e2
        simp only [pv] at hcr2
        clear hfr
        go_wp2_with fail
        refine bodyPost_ret (results_ct rfl _ _ g4 41 #[.slice A1 acc.length c1] (0, 0) _ rfl (blk_put (cs' := #[.slice A1 acc.length c1]) S4.out 0 (.slice A1 acc.length c1) rfl) Try.underlying41 rfl (by kernel_rfl)) rfl ?_
        exact ⟨_, rfl, ⟨_, _, _, rfl⟩, (fun l hl => by injection hl with hl; subst hl; exact Kd.R_mono (Kd.R_far (p := ⟨g4, 0, none⟩) HO.out (fun k hk => hk.2.1) _) (fun _ _ => trivial)), below_set (g := g4) (j := 0) HB.out (Nat.le_trans hsz0 hw4), keep_far (p := ⟨g4, 0, none⟩) HK.out hw4 _, blk_far (p := ⟨g4, 0, none⟩) Sb.out (Ne.symm hn4) _⟩
      | some a =>
        rw [hfr] at hf hcr2
        simp only at hf
        simp only [pv, pk] at hcr2
        cases hsh : fshown s k1 a lf with
        | none => rw [hsh] at hf; cases hf
        | some q =>
        obtain ⟨o2, l2⟩ := q
        rw [hsh] at hf
        have hbd := (fshown_bd s k1).1 a lf o2 l2 hsh
        have HS := Aside0.mk hsh
        have Hfr := Aside0.mk hfr
        clear hsh hfr
        go_wp2_with fail
        (with_reducible refine (IH.out k1 (by have := Hk.out; omega) a gl lf l2 o2 w0 wr Hr.out HGA.out HS.out HG.out HB.out Sb.out Hlf.out.1 Hlf.out.2).mono ?_)
        rintro e w5 ⟨v1, rfl, ⟨Av, nv, cv, rfl⟩, hv, hB5, hK5, hb5⟩
        have HV := Aside0.mk hv
        have HB5 := Aside0.mk hB5
        have Sb5 := Aside0.mk hb5
        have S45 := Aside0.mk (KeepBut.blk hK5 S4.out hn4 (by simp))
        have S65 := Aside0.mk (KeepBut.blk hK5 S6.out hn6 (by simp))
        have HO5 := Aside0.mk (Kd.R_keep HO.out hK5 (fun k hk => hk.1))
        have HK5 := Aside0.mk (KeepBut.trans HK.out hK5 (.inl rfl))
        have hszr := HK.out.1
        have Hlr := Aside0.mk (Kd.R_lt HO.out)
        have hlr4 := blk_lt S4.out
        have hlr6 := blk_lt S6.out
        have hlrb := blk_lt Sb.out
        clear hv hB5 hK5 hb5 Sb S4 S6 HO HB HK hc6 hc4 hf4 hcr2
        cases o2 with
        | none =>
          injection hf with hf
          injection hf with e1 e2
          subst e1 e2
          go_wp2_with (
            (with_reducible refine gate_dst (N := 7) rfl ?_)
            refine box_event ?hg (N := 7) ?hd (cs := #[.slice none 0 0]) (t := 41) ?hr ?_
            (case hd => rfl)
            (case hg => rfl)
            (case hr => first | (go_simp; done) | (go_simp; rfl))
            intro g7 hg7 w6 hbox hb6
            have hBw := below_set (j := 0) (v := .slice Av nv cv) hb6 (show w5.heap.size ≤ g7 by omega)
            have Sb6 := Aside0.mk (blk_below Sb5.out hBw)
            have S46 := Aside0.mk (blk_below S45.out hBw)
            have S66 := Aside0.mk (blk_below S65.out hBw)
            have HB6 := Aside0.mk (below_step HB5.out hBw)
            have HK6 := Aside0.mk (KeepBut.trans HK5.out (KeepBut.of_below hBw gl none) (.inl rfl))
            have hcz := (blk_cell hbox 0).trans rfl
            have hfz := blk_frozen hbox 0
            have hc6 : (w6.setCell ⟨g7, 0, none⟩ (.slice Av nv cv)).cell? ⟨g6, 0, none⟩ = some (.slice A1 acc.length c1) := (blk_cell S66.out 0).trans rfl
            have hc4 : (w6.setCell ⟨g7, 0, none⟩ (.slice Av nv cv)).cell? ⟨g4, 0, none⟩ = some (.slice none 0 0) := (blk_cell S46.out 0).trans rfl
            have hf4 := blk_frozen S46.out 0
            clear hbox hb6 hg7 hBw Sb5 S45 S65 HB5 HK5)
          refine bodyPost_ret (results_ct rfl _ _ g4 41 #[.slice A1 acc.length c1] (0, 0) _ rfl (blk_put (cs' := #[.slice A1 acc.length c1]) S46.out 0 (.slice A1 acc.length c1) rfl) Try.underlying41 rfl (by kernel_rfl)) rfl ?_
          exact ⟨_, rfl, ⟨_, _, _, rfl⟩, (fun l hl => by cases hl), below_set (g := g4) (j := 0) HB6.out (Nat.le_trans hsz0 hw4), keep_far (p := ⟨g4, 0, none⟩) HK6.out hw4 _, blk_far (p := ⟨g4, 0, none⟩) Sb6.out (Ne.symm hn4) _⟩
        | some x =>
          simp only at hf
          have hx1 := HV.out x rfl
          have hnv := (Kd.R_reads' hx1).1
          subst hnv
          have HN5 := Aside0.mk (Kd.R_mono (Kd.R_lower (Kd.R_new' (Kd.R_bound hx1) Hlr.out) hszr) (ok' := fun k => (k ≠ gl ∧ k ≠ g4 ∧ k ≠ g6) ∧ some k ≠ (Value.slice A1 acc.length c1).ownBlock) (fun k hk => by
            have h4 := hk.1.2.1
            exact ⟨⟨by omega, by omega, by omega⟩, hk.2⟩))
          by_cases hlm : acc.length < 5864062014805
          · rw [if_pos hlm] at hf
            cases ht : n.tk with
            | none => rw [ht] at hf; cases hf
            | some t =>
            rw [ht] at hf
            simp only at hf
            cases hr2 : fend s k1 t with
            | none => rw [hr2] at hf; cases hf
            | some r2 =>
            rw [hr2] at hf
            simp only at hf
            have LM := Aside0.mk hlm
            have Ht := Aside0.mk ht
            have HE2 := Aside0.mk hr2
            have HF2 := Aside0.mk hf
            have hl20 := (hbd.2 Hlf.out.1).2 x rfl
            have hl21 := hbd.1
            have Hl2 := Aside0.mk (show 0 ≤ l2 ∧ l2 ≤ 1000 from by have := Hlf.out.2; omega)
            clear hlm ht hr2 hf hx1 HV hbd hl20 hl21
            go_wp2_with (first
             | ((with_reducible refine gate_dst (N := 7) rfl ?_)
                refine box_event ?hg (N := 7) ?hd (cs := #[.slice none 0 0]) (t := 41) ?hr ?_
                (case hd => rfl)
                (case hg => rfl)
                (case hr => first | (go_simp; done) | (go_simp; rfl))
                intro g7 hg7 w6 hbox hb6
                have hBw := below_set (j := 0) (v := .slice Av x.length cv) hb6 (show w5.heap.size ≤ g7 by omega)
                have Sb6 := Aside0.mk (blk_below Sb5.out hBw)
                have S46 := Aside0.mk (blk_below S45.out hBw)
                have S66 := Aside0.mk (blk_below S65.out hBw)
                have HO6 := Aside0.mk (Kd.R_below HO5.out hBw)
                have HN6 := Aside0.mk (Kd.R_below HN5.out hBw)
                have HB6 := Aside0.mk (below_step HB5.out hBw)
                have HK6 := Aside0.mk (KeepBut.trans HK5.out (KeepBut.of_below hBw gl none) (.inl rfl))
                have hcz := (blk_cell hbox 0).trans rfl
                have hfz := blk_frozen hbox 0
                have hc6 : (w6.setCell ⟨g7, 0, none⟩ (.slice Av x.length cv)).cell? ⟨g6, 0, none⟩ = some (.slice A1 acc.length c1) := (blk_cell S66.out 0).trans rfl
                have hc7 : (w6.setCell ⟨g7, 0, none⟩ (.slice Av x.length cv)).cell? ⟨g7, 0, none⟩ = some (.slice Av x.length cv) := (blk_cell (blk_set hbox 0 (.slice Av x.length cv)) 0).trans rfl
                have hsz6 := HK6.out.1
                clear hbox hb6 hg7 hBw Sb5 S45 S65 HO5 HN5 HB5 HK5)
             | (at_builtin; refine holdI5 ?_))
            unfold HoldI5
            refine Kd.R_append k41 (w0 := w6.setCell ⟨g7, 0, none⟩ (.slice Av x.length cv)) w.heap.size rfl (.tmp 44) (.tmp 46) 31 41 (.agg #[(.slice none 0 0)]) 24 rfl Try.underlying31 info41 rfl (by decide) (by omega) (.slice A1 acc.length c1) acc (⟨x⟩ : S41) [.slice Av x.length cv] (fun k => k ≠ gl ∧ k ≠ g4 ∧ k ≠ g6) (fun k => (k ≠ gl ∧ k ≠ g4 ∧ k ≠ g6) ∧ some k ≠ (Value.slice A1 acc.length c1).ownBlock) rfl (by rw [show (w6.setCell ⟨g7, 0, none⟩ (.slice Av x.length cv)).heap.size = w6.heap.size from by simp [World.setCell]]; rfl) ?aP (fun _ hk => hk) ?aF ?aO ?aB ?aS ?aL ?_
            (case aP => exact k41_mkM _ _ _ (⟨x⟩ : S41) (HN6.out))
            (case aB => exact Below.refl _ _)
            (case aF => intro k hk; have h1 := blk_lt Sb6.out; have h2 := blk_lt S46.out; have h3 := blk_lt S66.out; exact ⟨by omega, by omega, by omega⟩)
            (case aO => exact HO6.out)
            (case aS => exact hsz6)
            (case aL => have := LM.out; omega)
            intro v2 w50 ho hb hg2 hat
            obtain ⟨A2, c2, e2⟩ := Kd.R_slice ho
            obtain ⟨n2, hn2⟩ : ∃ n, n = (acc ++ [(⟨x⟩ : S41)]).length := ⟨_, rfl⟩
            rw [← hn2] at e2
            subst e2
            clear hn2
            have Sb7 := Aside0.mk (blk_grown Sb6.out hg2 (Kd.R_away HO6.out (fun k hk => hk.1)))
            have S47 := Aside0.mk (blk_grown S46.out hg2 (Kd.R_away HO6.out (fun k hk => hk.2.1)))
            have S67 := Aside0.mk (blk_grown S66.out hg2 (Kd.R_away HO6.out (fun k hk => hk.2.2)))
            have HO7 := Aside0.mk ho
            have HB7 := Aside0.mk (HB6.out.grown hg2 HB6.out.size (fun k hk => by have h1 := Kd.R_base HO6.out k hk; omega))
            have HK7 := Aside0.mk (KeepBut.trans HK6.out (KeepBut.of_grown hg2 gl) (Kd.R_base2 HO6.out))
            have hcs : w50.cell? ⟨g6, 0, none⟩ = some (.slice A1 acc.length c1) := (blk_cell S67.out 0).trans rfl
            have hfs := blk_frozen S67.out 0
            have Sb8 := Aside0.mk (blk_far (p := ⟨g6, 0, none⟩) Sb7.out (Ne.symm hn6) (.slice A2 n2 c2))
            have S48 := Aside0.mk (blk_far (p := ⟨g6, 0, none⟩) S47.out (Ne.symm hn64) (.slice A2 n2 c2))
            have S68 := Aside0.mk (blk_put (cs' := #[.slice A2 n2 c2]) S67.out 0 (.slice A2 n2 c2) rfl)
            have HO8 := Aside0.mk (Kd.R_far (p := ⟨g6, 0, none⟩) HO7.out (fun k hk => hk.2.2) (.slice A2 n2 c2))
            have HB8 := Aside0.mk (below_set (g := g6) (j := 0) (v := .slice A2 n2 c2) HB7.out (Nat.le_trans hsz0 hw6))
            have HK8 := Aside0.mk (keep_far (p := ⟨g6, 0, none⟩) HK7.out hw6 (.slice A2 n2 c2))
            have Hr8 := Aside0.mk (Held.keep HH.out HK8.out HGA.out)
            have hct : (w50.setCell ⟨g6, 0, none⟩ (.slice A2 n2 c2)).cell? ⟨bk ad r, 3, none⟩ = some (pk ad t) := cell_tk Hr8.out Hn.out Ht.out
            clear ho hb hg2 hat hc6 hc7 hcz hfz Sb6 S46 S66 HO6 HN6 HB6 HK6 Sb7 S47 S67 HO7 HB7 HK7 Hr
            simp only [pk] at hct
            go_wp2_with fail
            (with_reducible refine (kend_calls B s ad k1 t r2 _ Hr8.out HE2.out).mono ?_)
            rintro e w9 ⟨rfl, rfl⟩
            go_wp2_with fail
            go_roundg k1
            case measure => omega
            case rel => exact ⟨r2, acc ++ [⟨x⟩], .slice A2 n2 c2, l2, rfl, ⟨by have := Hk.out; omega⟩, HF2, Hl2, Sb8, S48, S68, HO8, HB8, HK8⟩
          · rw [if_neg hlm] at hf
            cases hf
end Go.Proofs.Ytfhgoebgnilfaaa.I
