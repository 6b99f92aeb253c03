/- Texts of this session's proof, laid together: IQ1, IKM, IK8, IG, IAe, IA, I6. -/
import Derived.Deep.RegionLaw
import Derived.Deep.RegionHeld3
import Derived.Test.YtfhgoebgnilfaaaU2
namespace Go.Proofs.Ytfhgoebgnilfaaa.I
open Go.RowKit
set_option linter.unusedVariables false
theorem fend_s (s : List KN) : ∀ (k i r : Nat), fend s k i = some r → fend s (k + 1) i = some r := by
  intro k
  induction k with
  | zero => intro i r h; simp [fend] at h
  | succ k ih =>
    intro i r h
    unfold fend at h ⊢
    grind
theorem fwithin_s (s : List KN) : ∀ (f k i : Nat) (r : Bool), fwithin s f k i = some r → fwithin s (f + 1) k i = some r := by
  intro f
  induction f with
  | zero => intro k i r h; simp [fwithin] at h
  | succ f ih =>
    intro k i r h
    have := fend_s s f
    unfold fwithin at h ⊢
    cases h1 : fend s f i with
    | none => rw [h1] at h; cases h
    | some t =>
      rw [h1] at h
      rw [this _ _ h1]
      simp only at h ⊢
      by_cases hk : k = t
      · rw [if_pos hk] at h ⊢; exact h
      · rw [if_neg hk] at h ⊢
        cases h2 : s[t]? with
        | none => rw [h2] at h; cases h
        | some n =>
          rw [h2] at h
          simp only at h ⊢
          cases h3 : n.fr with
          | none => rw [h3] at h; exact h
          | some a =>
            rw [h3] at h
            simp only at h ⊢
            cases h4 : fwithin s f k a with
            | none => rw [h4] at h; cases h
            | some b =>
              rw [h4] at h
              rw [ih _ _ _ h4]
              cases b with
              | true => exact h
              | false =>
                simp only at h ⊢
                cases h5 : n.tk with
                | none => rw [h5] at h; cases h
                | some u => rw [h5] at h; exact ih _ _ _ h
theorem fjoin_s : ∀ (f : Nat) (s : List KN) (a b : Nat) (r : Bool × List KN), fjoin f s a b = some r → fjoin (f + 1) s a b = some r := by
  intro f
  induction f with
  | zero => intro s a b r h; simp [fjoin] at h
  | succ f ih =>
    intro s a b r h
    unfold fjoin at h ⊢
    cases c0 : fend s f a with
    | none => rw [c0] at h; cases h
    | some p =>
      rw [c0] at h
      rw [fend_s s f _ _ c0]
      simp only at h ⊢
      cases c1 : fend s f b with
      | none => rw [c1] at h; cases h
      | some q =>
        rw [c1] at h
        rw [fend_s s f _ _ c1]
        simp only at h ⊢
        by_cases e0 : p = q
        · rw [if_pos e0] at h ⊢; exact h
        · rw [if_neg e0] at h ⊢
          cases c2 : s[p]? with
          | none => rw [c2] at h; cases h
          | some x =>
            rw [c2] at h
            simp only at h ⊢
            cases c3 : s[q]? with
            | none => rw [c3] at h; cases h
            | some y =>
              rw [c3] at h
              simp only at h ⊢
              by_cases e1 : x.bs = false ∧ x.fr = none
              · rw [if_pos e1] at h ⊢
                cases w1 : fwithin s f p q with
                | none => rw [w1] at h; cases h
                | some b =>
                  rw [w1] at h
                  rw [fwithin_s s f _ _ _ w1]
                  exact h
              · rw [if_neg e1] at h ⊢
                by_cases e2 : y.bs = false ∧ y.fr = none
                · rw [if_pos e2] at h ⊢; exact ih _ _ _ _ h
                · rw [if_neg e2] at h ⊢
                  by_cases e3 : x.bs = true ∨ y.bs = true
                  · rw [if_pos e3] at h ⊢; exact h
                  · rw [if_neg e3] at h ⊢
                    cases c4 : x.fr with
                    | none => rw [c4] at h; cases h
                    | some xf =>
                      rw [c4] at h
                      simp only at h ⊢
                      cases c4b : y.fr with
                      | none => rw [c4b] at h; cases h
                      | some yf =>
                        rw [c4b] at h
                        simp only at h ⊢
                        cases c5 : fjoin f s xf yf with
                        | none => rw [c5] at h; cases h
                        | some w =>
                          rw [c5] at h
                          rw [ih _ _ _ _ c5]
                          obtain ⟨bb, s1⟩ := w
                          cases bb with
                          | false => exact h
                          | true =>
                            simp only at h ⊢
                            cases c6 : s1[p]? with
                            | none => rw [c6] at h; cases h
                            | some x1 =>
                              rw [c6] at h
                              simp only at h ⊢
                              cases c6b : s1[q]? with
                              | none => rw [c6b] at h; cases h
                              | some y1 =>
                                rw [c6b] at h
                                simp only at h ⊢
                                cases c7 : x1.tk with
                                | none => rw [c7] at h; cases h
                                | some xt =>
                                  rw [c7] at h
                                  simp only at h ⊢
                                  cases c8 : y1.tk with
                                  | none => rw [c8] at h; cases h
                                  | some yt =>
                                    rw [c8] at h
                                    simp only at h ⊢
                                    exact ih _ _ _ _ h
theorem fterm_s (E : FE) : ∀ (f : Nat), (∀ s kd n l r, fterm E f s kd n l = some r → fterm E (f + 1) s kd n l = some r) ∧ (∀ s k l r, ftermL E f s k l = some r → ftermL E (f + 1) s k l = some r) := by
  intro f
  induction f with
  | zero => exact ⟨fun s kd n l r h => by simp [fterm] at h, fun s k l r h => by simp [ftermL] at h⟩
  | succ f ih =>
    obtain ⟨i1, i2⟩ := ih
    refine ⟨fun s kd n l r h => ?_, fun s k l r h => ?_⟩
    · unfold fterm at h ⊢
      grind
    · have h2 := fjoin_s f
      cases l with
      | nil => unfold ftermL at h ⊢; exact h
      | cons x xs =>
        unfold ftermL at h ⊢
        grind
theorem fshown_s (s : List KN) : ∀ (f : Nat), (∀ i l r, fshown s f i l = some r → fshown s (f + 1) i l = some r) ∧ (∀ q acc l r, fshownL s f q acc l = some r → fshownL s (f + 1) q acc l = some r) := by
  intro f
  induction f with
  | zero => exact ⟨fun i l r h => by simp [fshown] at h, fun q acc l r h => by simp [fshownL] at h⟩
  | succ f ih =>
    obtain ⟨i1, i2⟩ := ih
    have h1 := fend_s s f
    refine ⟨fun i l r h => ?_, fun q acc l r h => ?_⟩
    · unfold fshown at h ⊢
      grind
    · unfold fshownL at h ⊢
      cases c1 : s[q]? with
      | none => rw [c1] at h; cases h
      | some n =>
        rw [c1] at h
        simp only at h ⊢
        cases c2 : n.fr with
        | none => rw [c2] at h; exact h
        | some a =>
          rw [c2] at h
          simp only at h ⊢
          cases c3 : fshown s f a l with
          | none => rw [c3] at h; cases h
          | some w =>
            rw [c3] at h
            rw [i1 _ _ _ c3]
            obtain ⟨o, l1⟩ := w
            cases o with
            | none => exact h
            | some x =>
              simp only at h ⊢
              by_cases hl : acc.length < 5864062014805
              · rw [if_pos hl] at h ⊢
                cases c4 : n.tk with
                | none => rw [c4] at h; cases h
                | some t =>
                  rw [c4] at h
                  simp only at h ⊢
                  cases c5 : fend s f t with
                  | none => rw [c5] at h; cases h
                  | some r2 =>
                    rw [c5] at h
                    rw [h1 _ _ c5]
                    exact i2 _ _ _ _ h
              · rw [if_neg hl] at h; cases h
theorem fbodies_s (syms : List S59) (funs : List Nat) (f : Nat) : ∀ (l : List S48) (s : List KN) (pss : List (List Nat)) (r : Bool × List KN), fbodies syms funs f s pss l = some r → fbodies syms funs (f + 1) s pss l = some r := by
  intro l
  induction l with
  | nil => intro s pss r h; unfold fbodies at h ⊢; exact h
  | cons x xs ih =>
    intro s pss r h
    cases pss with
    | nil => unfold fbodies at h; cases h
    | cons ps pss =>
      unfold fbodies at h ⊢
      cases h1 : fterm ⟨0, syms, funs, ps⟩ f s x.f2.f0 x.f2.f1 x.f2.f2 with
      | none => rw [h1] at h; cases h
      | some q =>
        rw [h1] at h
        rw [(fterm_s ⟨0, syms, funs, ps⟩ f).1 _ _ _ _ _ h1]
        obtain ⟨o, s1⟩ := q
        cases o with
        | none => exact h
        | some k =>
          simp only at h ⊢
          cases h2 : fjoin f s1 k 0 with
          | none => rw [h2] at h; cases h
          | some q2 =>
            rw [h2] at h
            rw [fjoin_s f _ _ _ _ h2]
            obtain ⟨b, s2⟩ := q2
            cases b with
            | false => exact h
            | true => exact ih _ _ _ h
theorem fouts_s (s : List KN) (f : Nat) : ∀ (ks : List Nat) (acc : List S41) (r : Option (List S41)), fouts s f acc ks = some r → fouts s (f + 1) acc ks = some r := by
  intro ks
  induction ks with
  | nil => intro acc r h; unfold fouts at h ⊢; exact h
  | cons k ks ih =>
    intro acc r h
    unfold fouts at h ⊢
    cases h1 : fshown s f k 60 with
    | none => rw [h1] at h; cases h
    | some q =>
      rw [h1] at h
      rw [(fshown_s s f).1 _ _ _ h1]
      obtain ⟨o, l1⟩ := q
      cases o with
      | none => exact h
      | some x =>
        simp only at h ⊢
        cases h2 : sorts_Check.f x with
        | none => rw [h2] at h; cases h
        | some e =>
          rw [h2] at h
          simp only at h ⊢
          by_cases h0 : e = 0
          · rw [if_pos h0] at h ⊢; exact ih _ _ h
          · rw [if_neg h0] at h ⊢; exact h
theorem fsorts_s (f : Nat) (syms : List S59) (l : List S48) (r : List S41 × Int) (h : fsorts f syms l = some r) : fsorts (f + 1) syms l = some r := by
  have h1 := fbodies_s syms (fheads [⟨none, true, none, none⟩] l).1.2 f l (fheads [⟨none, true, none, none⟩] l).2 (fheads [⟨none, true, none, none⟩] l).1.1
  have h2 := fun s => fouts_s s f (fheads [⟨none, true, none, none⟩] l).1.2 []
  unfold fsorts at h ⊢
  generalize fheads [⟨none, true, none, none⟩] l = hd at *
  cases hc : chkF syms l with
  | none => rw [hc] at h; cases h
  | some e =>
    rw [hc] at h
    simp only at h ⊢
    by_cases h0 : e = 0
    · rw [if_pos h0] at h ⊢
      cases h3 : fbodies syms hd.1.2 f hd.2 hd.1.1 l with
      | none => rw [h3] at h; cases h
      | some q =>
        rw [h3] at h
        rw [h1 _ h3]
        obtain ⟨b, s⟩ := q
        cases b with
        | false => exact h
        | true =>
          simp only at h ⊢
          cases h4 : fouts s f [] hd.1.2 with
          | none => rw [h4] at h; cases h
          | some o => rw [h4] at h; rw [h2 s _ h4]; exact h
    · rw [if_neg h0] at h ⊢; exact h
end Go.Proofs.Ytfhgoebgnilfaaa.I
namespace Go.Proofs.Ytfhgoebgnilfaaa.I
open Go.RowKit Go.Proofs.YtfhgoebgnilfaaaW.PrintWords Go.Proofs.YtfhgoebgnilfaaaW.PrintLast Go.Proofs.YtfhgoebgnilfaaaW.PrintMore
set_option linter.unusedVariables false
set_option maxRecDepth 100000
set_option linter.unusedSimpArgs false
def kds (ad : List Nat) (ps : List Nat) : List (List Value) := ps.map (fun p => [pk ad p])
theorem kds_len (ad ps : List Nat) : (kds ad ps).length = ps.length := by unfold kds; rw [List.length_map]
theorem kds_app {ad e ps : List Nat} (h : ∀ p, p ∈ ps → p < ad.length) : kds (ad ++ e) ps = kds ad ps := by
  unfold kds
  exact List.map_congr_left (fun p hp => by rw [pk_app (h p hp)])
theorem rows_app {ad e : List Nat} {rows : List (List Nat)} (h : ∀ ps, ps ∈ rows → ∀ p, p ∈ ps → p < ad.length) : rows.map (kds (ad ++ e)) = rows.map (kds ad) :=
  List.map_congr_left (fun ps hp => kds_app (h ps hp))
theorem rows_getD (ad : List Nat) (rows : List (List Nat)) (i : Nat) : (rows.map (kds ad)).getD i [] = kds ad (rows.getD i []) := by
  rw [List.getD_eq_getElem?_getD, List.getD_eq_getElem?_getD, List.getElem?_map]
  cases rows[i]? <;> rfl
abbrev KR := Kd.slice 72 (Kd.raw 1)
structure Mem (gf gp cp n : Nat) (A0 : Option Addr) (m0 c0 : Nat) (w0 : World) (s : List KN) (ad : List Nat) (rs : List (List Nat)) (fs : List Nat) (Af : Option Addr) (cf : Nat) (pr : Value) (w : World) : Prop where
  held : Held w0.heap.size s ad w
  pos : 0 < s.length
  rows : Kd.S KR 75 w w0.heap.size (fun k => some k ≠ (Value.slice Af fs.length cf).ownBlock) (.slice (some ⟨gp, 0, none⟩) n cp) (rs.map (kds ad))
  funs : Kd.R (Kd.raw 1) 72 w w0.heap.size (fun _ => True) (.slice Af fs.length cf) (kds ad fs)
  fin : w.heap[gf]? = some (.cells #[pk ad 0, .slice A0 m0 c0, .slice Af fs.length cf, pr] 77 (0, 0))
  brows : ∀ ps, ps ∈ rs → ∀ p, p ∈ ps → p < s.length
  bfuns : ∀ p, p ∈ fs → p < s.length
  gf0 : w0.heap.size ≤ gf
  below : Below w0.heap.size w0 w
variable {gf gp cp n : Nat} {A0 : Option Addr} {m0 c0 : Nat} {w0 w w1 w2 w5 : World} {s s' : List KN} {ad e' : List Nat} {rows : List (List Nat)} {funs : List Nat} {Af : Option Addr} {cf : Nat} {pr : Value}
theorem Mem.sub (h : Mem gf gp cp n A0 m0 c0 w0 s ad rows funs Af cf pr w) (hb : Below w.heap.size w w1) : Mem gf gp cp n A0 m0 c0 w0 s ad rows funs Af cf pr w1 :=
  ⟨Held.below h.held hb, h.pos, Kd.S_below h.rows hb, Kd.R_below h.funs hb, blk_below h.fin hb, h.brows, h.bfuns, h.gf0, below_step h.below hb⟩
theorem Mem.grow (h : Mem gf gp cp n A0 m0 c0 w0 s ad rows funs Af cf pr w) (hH : Held w0.heap.size s' (ad ++ e') w1) (hb : Below w.heap.size w w1) : Mem gf gp cp n A0 m0 c0 w0 s' (ad ++ e') rows funs Af cf pr w1 := by
  have hl := h.held.len
  have hl' := hH.len
  rw [List.length_append] at hl'
  have hle : s.length ≤ s'.length := by omega
  refine ⟨hH, Nat.lt_of_lt_of_le h.pos hle, ?_, ?_, ?_, fun ps hp p hq => Nat.lt_of_lt_of_le (h.brows ps hp p hq) hle, fun p hp => Nat.lt_of_lt_of_le (h.bfuns p hp) hle, h.gf0, below_step h.below hb⟩
  · rw [rows_app (fun ps hp p hq => by rw [hl]; exact h.brows ps hp p hq)]; exact Kd.S_below h.rows hb
  · rw [kds_app (fun p hp => by rw [hl]; exact h.bfuns p hp)]; exact Kd.R_below h.funs hb
  · rw [pk_app (by rw [hl]; exact h.pos)]; exact blk_below h.fin hb
theorem Mem.lend (h : Mem gf gp cp n A0 m0 c0 w0 s ad rows funs Af cf pr w) {i : Nat} (hi : i < n) : ∃ (oki : Nat → Prop) (A7 : Option Addr) (c7 : Nat), w.cell? ⟨gp, i, none⟩ = some (.slice A7 (rows.getD i []).length c7) ∧ (Kd.raw 1).R 72 w w0.heap.size oki (.slice A7 (rows.getD i []).length c7) (kds ad (rows.getD i [])) ∧
    (∀ k, oki k → some k ≠ (Value.slice Af funs.length cf).ownBlock ∧ k ≠ gp) ∧ Kd.H KR 75 w w0.heap.size (fun k => some k ≠ (Value.slice Af funs.length cf).ownBlock) (.slice (some ⟨gp, 0, none⟩) n cp) (rows.map (kds ad)) (i : Int) oki [.slice A7 (rows.getD i []).length c7] := by
  obtain ⟨oki, c, hcl, hM, hcc, hoki, hH⟩ := Kd.S_lend h.rows [] (i : Int) (by omega) (by omega)
  rw [Int.toNat_natCast, rows_getD] at hM
  obtain ⟨v, rfl, hR⟩ := hM
  obtain ⟨A7, c7, rfl⟩ := Kd.R_slice hR
  rw [kds_len] at hR hcc hH
  refine ⟨oki, A7, c7, ?_, hR, hoki, hH⟩
  have := hcc 0 _ rfl
  rw [Int.toNat_natCast] at this
  exact (congrArg (fun j => w.cell? ⟨gp, j, none⟩) (show i = i * (KR).sz + 0 from by show i = i * 1 + 0; omega)).trans this
theorem Held.grownT {B : Nat} {row : Option Nat} (h : Held B s ad w) (hg : w.grownBy w1 row) (ht : ∀ k, row = some k → ∃ q cells, q ≠ 74 ∧ w.heap[k]? = some (.cells cells q (0, 0))) : Held B s ad w1 :=
  ⟨h.len, h.nodup, h.ge, fun i n hn => blk_grown (h.cell i n hn) hg (fun e => by
    obtain ⟨q, cells, hq, hc⟩ := ht _ e.symm
    have := hc.symm.trans (h.cell i n hn)
    injection this with this
    injection this with _ e2 _
    exact hq e2), h.ok⟩
theorem blk_grownT {g t : Nat} {cs : Array Value} {row : Option Nat} (h : w.heap[g]? = some (.cells cs t (0, 0))) (hg : w.grownBy w1 row) (ht : ∀ k, row = some k → ∃ q cells, q ≠ t ∧ w.heap[k]? = some (.cells cells q (0, 0))) : w1.heap[g]? = some (.cells cs t (0, 0)) :=
  blk_grown h hg (fun e => by
    obtain ⟨q, cells, hq, hc⟩ := ht _ e.symm
    have := hc.symm.trans h
    injection this with this
    injection this with _ e2 _
    exact hq e2)
theorem Mem.put (h : Mem gf gp cp n A0 m0 c0 w0 s ad rows funs Af cf pr w) {i : Nat} (hi : i < n) {oki : Nat → Prop} {v : Value} (hoki : ∀ k, oki k → some k ≠ (Value.slice Af funs.length cf).ownBlock ∧ k ≠ gp) (hv : (Kd.raw 1).R 72 w w0.heap.size oki v (kds ad (rows.getD i [])))
    {g : Nat} (hb5 : Below w.heap.size w w5) (hH5 : Held w0.heap.size (s ++ [kbare]) (ad ++ [g]) w5) (hg1 : w5.grownBy w1 v.ownBlock) (hg2 : w1.grownBy w2 (some gp)) (hbw : Below w0.heap.size w0 w2)
    (hS : Kd.S KR 75 w2 w0.heap.size (fun k => some k ≠ (Value.slice Af funs.length cf).ownBlock) (.slice (some ⟨gp, 0, none⟩) n cp) ((rows.map (kds ad)).set i (kds ad (rows.getD i []) ++ [[pk (ad ++ [g]) s.length]]))) :
    Mem gf gp cp n A0 m0 c0 w0 (s ++ [kbare]) (ad ++ [g]) (rows.set i (rows.getD i [] ++ [s.length])) funs Af cf pr w2 := by
  have hl := h.held.len
  have h5 := h.sub hb5
  have tv : ∀ k, v.ownBlock = some k → ∃ cells, w5.heap[k]? = some (.cells cells 72 (0, 0)) := fun k hk => by
    obtain ⟨cells, hc⟩ := Kd.R_typed hv k hk
    exact ⟨cells, blk_below hc hb5⟩
  have tp : ∀ w' : World, w5.grownBy w' v.ownBlock → ∃ cells, w'.heap[gp]? = some (.cells cells 75 (0, 0)) := fun w' hg => by
    obtain ⟨cells, hc⟩ := Kd.S_typed h5.rows gp (by simp [Value.ownBlock])
    exact ⟨cells, blk_grownT hc hg (fun k hk => by obtain ⟨c, hk'⟩ := tv k hk; exact ⟨72, c, by decide, hk'⟩)⟩
  obtain ⟨cp1, hcp1⟩ := tp w1 hg1
  have rl : rows.length = n := by have := (Kd.S_reads' h.rows).1; rw [List.length_map] at this; exact this.symm
  have brow : ∀ p, p ∈ rows.getD i [] → p < s.length := fun p hp => by
    rw [List.getD_eq_getElem?_getD, List.getElem?_eq_getElem (by omega)] at hp
    exact h.brows _ (List.getElem_mem _) p hp
  refine ⟨?_, by rw [List.length_append]; exact Nat.lt_of_lt_of_le h.pos (Nat.le_add_right _ _), ?_, ?_, ?_, ?_, fun p hp => by rw [List.length_append]; have := h.bfuns p hp; omega, h.gf0, hbw⟩
  · exact Held.grownT (Held.grownT hH5 hg1 (fun k hk => by obtain ⟨c, hk'⟩ := tv k hk; exact ⟨72, c, by decide, hk'⟩)) hg2 (fun k hk => by injection hk with hk; subst hk; exact ⟨75, cp1, by decide, hcp1⟩)
  · have e : (rows.set i (rows.getD i [] ++ [s.length])).map (kds (ad ++ [g])) = (rows.map (kds ad)).set i (kds ad (rows.getD i []) ++ [[pk (ad ++ [g]) s.length]]) := by
      rw [List.map_set, rows_app (fun ps hp p hq => by rw [hl]; exact h.brows ps hp p hq)]
      congr 1
      unfold kds
      rw [List.map_append]
      congr 1
      exact List.map_congr_left (fun p hp => by rw [pk_app (by rw [hl]; exact brow p hp)])
    rw [e]
    exact hS
  · rw [kds_app (fun p hp => by rw [hl]; exact h.bfuns p hp)]
    have f1 := Kd.R_tight rfl h5.funs
    have f2 : (Kd.raw 1).R 72 w1 w0.heap.size (fun k => some k = (Value.slice Af funs.length cf).ownBlock) (.slice Af funs.length cf) (kds ad funs) := Kd.R_grown f1 hg1 (fun k hk hk2 => (hoki k (hv.1 k hk2.symm)).1 hk)
    exact Kd.R_mono (Kd.R_grown f2 hg2 (fun k hk hk2 => by
      injection hk2 with hk2
      subst hk2
      obtain ⟨c, hc⟩ := Kd.R_typed f2 k hk.symm
      have := hc.symm.trans hcp1
      injection this with this
      injection this with _ e2 _
      exact absurd e2 (by decide))) (fun _ _ => trivial)
  · rw [pk_app (by rw [hl]; exact h.pos)]
    exact blk_grownT (blk_grownT h5.fin hg1 (fun k hk => by obtain ⟨c, hk'⟩ := tv k hk; exact ⟨72, c, by decide, hk'⟩)) hg2 (fun k hk => by injection hk with hk; subst hk; exact ⟨75, cp1, by decide, hcp1⟩)
  · intro ps hp p hq
    rw [List.length_append]
    simp only [List.length_cons, List.length_nil]
    rcases List.mem_or_eq_of_mem_set hp with hp | hp
    · have := h.brows ps hp p hq; omega
    · subst hp
      rcases List.mem_append.1 hq with hq | hq
      · have := brow p hq; omega
      · rw [List.mem_singleton] at hq; omega
theorem Ptrs_of_R {B : Nat} {ok : Nat → Prop} {A : Option Addr} {c : Nat} {ps : List Nat} (h : (Kd.raw 1).R 72 w B ok (.slice A ps.length c) (kds ad ps)) (hp : ∀ p, p ∈ ps → p < ad.length) (hl : ps.length ≤ 9223372036854775807) : Ptrs ad w A ps := by
  refine ⟨hl, hp, fun h0 => ?_⟩
  obtain ⟨_, _, hC⟩ := Kd.R_reads' h
  rw [kds_len] at hC
  obtain ⟨ad0, c0, he0, _⟩ := Kd.C_get hC [] 0 (by omega) (by omega)
  refine ⟨ad0, he0, fun j p hj => ?_⟩
  have hjl := (List.getElem?_eq_some_iff.1 hj).1
  obtain ⟨ad1, c1, he1, hcl, hK, hcc⟩ := Kd.C_get hC [] (j : Int) (by omega) (by omega)
  rw [he0] at he1
  injection he1 with he1
  subst he1
  have hc1 : c1 = [pk ad p] := by
    have h1 := hK.1
    rw [Int.toNat_natCast, List.getD_eq_getElem?_getD] at h1
    unfold kds at h1
    rw [List.getElem?_map, hj] at h1
    exact h1
  have := hcc 0 (pk ad p) (by rw [hc1]; rfl)
  rw [Int.toNat_natCast] at this
  exact (congrArg w.cell? (congrArg ad0.add (show j = j * (Kd.raw 1).sz + 0 from by show j = j * 1 + 0; omega))).trans this
theorem Held.far {B g t j : Nat} {cs : Array Value} (h : Held B s ad w) (hg : w.heap[g]? = some (.cells cs t (0, 0))) (ht : t ≠ 74) (u : Value) : Held B s ad (w.setCell ⟨g, j, none⟩ u) :=
  ⟨h.len, h.nodup, h.ge, fun i n hn => blk_far (h.cell i n hn) (fun e => blk_ne hg (h.cell i n hn) ht e.symm) u, h.ok⟩
theorem Mem.putFun (h : Mem gf gp cp n A0 m0 c0 w0 s ad rows funs Af cf pr w) {k : Nat} (hk : k < s.length) {A2 : Option Addr} {c2 : Nat} (hg : w.grownBy w1 (Value.slice Af funs.length cf).ownBlock)
    (ho : (Kd.raw 1).R 72 w1 w0.heap.size (fun _ => True) (.slice A2 (funs.length + 1) c2) (kds ad funs ++ [[pk ad k]])) (hb : Below w0.heap.size w0 w1) (hat : (Value.slice A2 (funs.length + 1) c2).ownBlock = (Value.slice Af funs.length cf).ownBlock ∨ ∃ b, (Value.slice A2 (funs.length + 1) c2).ownBlock = some b ∧ w.heap.size ≤ b) :
    Mem gf gp cp n A0 m0 c0 w0 s ad rows (funs ++ [k]) A2 c2 pr (w1.setCell ⟨gf, 2, none⟩ (.slice A2 (funs.length + 1) c2)) := by
  have tf : ∀ k, (Value.slice Af funs.length cf).ownBlock = some k → ∃ cells, w.heap[k]? = some (.cells cells 72 (0, 0)) := Kd.R_typed h.funs
  have hH1 := Held.grownT h.held hg (fun k hk => by obtain ⟨c, hc⟩ := tf k hk; exact ⟨72, c, by decide, hc⟩)
  have hf1 := blk_grownT h.fin hg (fun k hk => by obtain ⟨c, hc⟩ := tf k hk; exact ⟨72, c, by decide, hc⟩)
  have hS1 := Kd.S_after (v1 := .slice A2 (funs.length + 1) c2) (ok := fun _ => True) (Kd.S_mono h.rows (fun k hk => ⟨trivial, hk⟩)) hg hat
  have hlen : (funs ++ [k]).length = funs.length + 1 := by rw [List.length_append]; rfl
  refine ⟨Held.far hH1 hf1 (by decide) _, h.pos, ?_, ?_, ?_, h.brows, fun p hp => ?_, h.gf0, hb.setCell h.gf0 _⟩
  · rw [hlen]
    exact Kd.S_set (Kd.S_mono hS1 (fun k hk => hk.2)) hf1 (by decide) _ _
  · rw [hlen]
    have e : kds ad (funs ++ [k]) = kds ad funs ++ [[pk ad k]] := by unfold kds; rw [List.map_append]; rfl
    rw [e]
    exact Kd.R_set ho hf1 (by decide) _ _
  · rw [hlen]
    exact blk_put hf1 2 _ rfl
  · rcases List.mem_append.1 hp with hp | hp
    · exact h.bfuns p hp
    · rw [List.mem_singleton] at hp; omega
theorem Held.notin {B g t : Nat} {cs : Array Value} (h : Held B s ad w) (hg : w.heap[g]? = some (.cells cs t (0, 0))) (ht : t ≠ 74) : g ∉ ad := fun hm => by
  obtain ⟨i, hi, e⟩ := List.getElem_of_mem hm
  obtain ⟨m, _, hm2⟩ := h.at (i := i) (by rw [← h.len]; exact hi)
  have e2 : bk ad i = g := by
    unfold bk
    rw [List.getD_eq_getElem?_getD, List.getElem?_eq_getElem hi]
    exact e
  rw [e2] at hm2
  exact blk_ne hg hm2 ht rfl
theorem Mem.turn (h : Mem gf gp cp n A0 m0 c0 w0 s ad rows funs Af cf pr w) (hH : Held w0.heap.size s' (ad ++ e') w1) (ht : Turned (fun k => k ∈ ad) w w1) : Mem gf gp cp n A0 m0 c0 w0 s' (ad ++ e') rows funs Af cf pr w1 := by
  have hl := h.held.len
  have hl' := hH.len
  rw [List.length_append] at hl'
  have hle : s.length ≤ s'.length := by omega
  refine ⟨hH, Nat.lt_of_lt_of_le h.pos hle, ?_, ?_, ?_, fun ps hp p hq => Nat.lt_of_lt_of_le (h.brows ps hp p hq) hle, fun p hp => Nat.lt_of_lt_of_le (h.bfuns p hp) hle, h.gf0, Turned.below ht h.below h.below.size (fun k hk => h.held.ge k hk)⟩
  · rw [rows_app (fun ps hp p hq => by rw [hl]; exact h.brows ps hp p hq)]
    exact Kd.S_mono (Kd.S_step (Kd.S_bound h.rows) (fun k hk hlt => by
      obtain ⟨_, _, _, q, hq, cells, hc⟩ := hk
      refine ht.block k hlt (h.held.notin hc ?_)
      simp [Kd.slice, Kd.raw] at hq
      omega)) (fun k hk => hk.1)
  · rw [kds_app (fun p hp => by rw [hl]; exact h.bfuns p hp)]
    exact Kd.R_mono (Kd.R_step (Kd.R_bound h.funs) (fun k hk hlt => by
      obtain ⟨_, _, _, q, hq, cells, hc⟩ := hk
      refine ht.block k hlt (h.held.notin hc ?_)
      simp [Kd.raw] at hq
      omega)) (fun k hk => trivial)
  · rw [pk_app (by rw [hl]; exact h.pos)]
    exact (ht.block gf (blk_lt h.fin) (h.held.notin h.fin (by decide))).trans h.fin
theorem Mem.setPr (h : Mem gf gp cp n A0 m0 c0 w0 s ad rows funs Af cf pr w) (v : Value) : Mem gf gp cp n A0 m0 c0 w0 s ad rows funs Af cf v (w.setCell ⟨gf, 3, none⟩ v) :=
  ⟨Held.far h.held h.fin (by decide) _, h.pos, Kd.S_set h.rows h.fin (by decide) _ _, Kd.R_set h.funs h.fin (by decide) _ _, blk_put h.fin 3 v rfl, h.brows, h.bfuns, h.gf0, h.below.setCell h.gf0 _⟩
theorem Mem.find {l0 : List S59} {ps : List Nat} {Ap : Option Addr} {cp' : Nat} (h : Mem gf gp cp n A0 l0.length c0 w0 s ad rows funs Af cf (.slice Ap ps.length cp') w) (hP : (Kd.raw 1).R 72 w w0.heap.size (fun _ => True) (.slice Ap ps.length cp') (kds ad ps)) (hps : ∀ p, p ∈ ps → p < s.length) (hl1 : ps.length ≤ 9223372036854775807) (hl2 : funs.length ≤ 9223372036854775807) :
    Find ⟨0, l0, funs, ps⟩ s ad gf A0 c0 w := by
  have hl := h.held.len
  have blk : ∀ (A : Option Addr) (c : Nat) (qs : List Nat), (Kd.raw 1).R 72 w w0.heap.size (fun _ => True) (.slice A qs.length c) (kds ad qs) → ∀ a, A = some a → a.block ∉ ad ∧ a.block < w.heap.size := by
    intro A c qs hR a ha
    subst ha
    have ho : (Value.slice (some a) qs.length c).ownBlock = some a.block := rfl
    obtain ⟨cells, hc⟩ := Kd.R_typed hR a.block ho
    exact ⟨h.held.notin hc (by decide), blk_lt hc⟩
  exact ⟨⟨Af, cf, Ap, cp', h.fin, Ptrs_of_R h.funs (fun p hp => by rw [hl]; exact h.bfuns p hp) hl2, Ptrs_of_R hP (fun p hp => by rw [hl]; exact hps p hp) hl1, blk _ _ _ h.funs, blk _ _ _ hP⟩, h.held.notin h.fin (by decide), h.pos⟩
end Go.Proofs.Ytfhgoebgnilfaaa.I
namespace Go.Proofs.Ytfhgoebgnilfaaa.I
open Go.RowKit Go.Proofs.YtfhgoebgnilfaaaW.PrintWords Go.Proofs.YtfhgoebgnilfaaaW.PrintLast Go.Proofs.YtfhgoebgnilfaaaW.PrintMore
attribute [local go_sem] max2_int min2_int max_two min_two max_three min_three max_four min_four
set_option linter.unusedVariables false
set_option maxRecDepth 100000
set_option linter.unusedSimpArgs false
set_option maxHeartbeats 8000000 in
theorem infer_Sorts_calls (f : Nat) (A0 : Option Addr) (c0 : Nat) (l0 : List S59) (A1 : Option Addr) (c1 : Nat) (l1 : List S48) (out : List S41) (er : Int) (w : World) (hr0 : Kd.C k59 w A0 l0.length l0) (hc0 : l0.length ≤ c0) (hr1 : Kd.C k48 w A1 l1.length l1) (hc1 : l1.length ≤ c1) (hwf : ∀ x ∈ l1, twf x.f2) (h : fsorts f l0 l1 = some (out, er)) :
    Calls Try.prog 13 #[.slice A0 l0.length c0, .slice A1 l1.length c1] w fun e w' => ∃ v, e = .returned (.tuple #[v, .int .i64 er]) ∧ Kd.R k41 41 w' w.heap.size (fun _ => True) v out ∧ Below w.heap.size w w' := by
  have hu48 := Try.underlying48
  have hu44 := Try.underlying44
  have hu41 := Try.underlying41
  have hu74 := Try.underlying74
  have hu77 := Try.underlying77
  have HR0 := Aside0.mk hr0
  have HC0 := Aside0.mk hc0
  have HR1 := Aside0.mk hr1
  have HC1 := Aside0.mk hc1
  have HW := Aside0.mk hwf
  have hlen1 : l1.length ≤ 9223372036854775807 := hr1.2.1
  unfold fsorts at h
  cases hch : chkF l0 l1 with
  | none => rw [hch] at h; cases h
  | some e0 =>
  rw [hch] at h
  simp only at h
  have HCH := Aside0.mk hch
  clear hr0 hc0 hr1 hc1 hwf hch
  go_enter Try.func13, Try.ntmps13
  go_wp2_with fail
  (with_reducible refine (chkF_calls A0 c0 l0 A1 c1 l1 e0 w HR0.out HC0.out HR1.out HC1.out HW.out HCH.out).mono ?_)
  rintro e w1 ⟨rfl, hb1⟩
  have HB1 := Aside0.mk hb1
  clear hb1
  by_cases he0 : e0 = 0
  · subst he0
    rw [if_pos rfl] at h
    have HH := Aside0.mk h
    clear h
    have hok := fCheck_ok HCH.out
    go_wp2_with (first
     | ((with_reducible refine gate_dst (N := 28) rfl ?_)
        refine box_event ?hg (N := 28) ?hd (cs := #[.pointer none, .bool true, .pointer none, .pointer none]) (t := 74) ?hr ?_
        (case hd => rfl)
        (case hg => rfl)
        (case hr => first | (go_simp; done) | (go_simp; rfl))
        intro go hgo w2 hboxo hbo
        have HBo := Aside0.mk hbo
        have So := Aside0.mk hboxo
        have Hgo := Aside0.mk hgo
        clear hboxo hbo hgo)
     | ((with_reducible refine gate_dst (N := 31) rfl ?_)
        refine box_event ?hg (N := 31) ?hd (cs := #[.pointer (some ⟨go, 0, none⟩), .slice A0 l0.length c0, .slice none 0 0, .slice none 0 0]) (t := 77) ?hr ?_
        (case hd => rfl)
        (case hg => rfl)
        (case hr => first | (go_simp; done) | (go_simp; rfl))
        intro gf hgf w3 hboxf hbf
        have HBf := Aside0.mk hbf
        have Sf := Aside0.mk hboxf
        have Hgf := Aside0.mk hgf
        clear hboxf hbf hgf)
     | ((with_reducible refine gate_dst (N := 34) rfl ?_)
        refine Kd.S_make (Kd.slice 72 (Kd.raw 1)) w.heap.size 75 rfl (N := 34) rfl 78 _ _ rfl (l1.length : Int) rfl rfl Try.underlying78 (.slice none 0 0) 24 (by kernel_rfl) rfl (by decide) (by omega) [] (ok := fun _ => True) (okp := fun _ => True) ⟨_, rfl, Kd.R_nil _ _ _ _ _⟩ (fun _ hk => hk) trivial (by omega) (by omega) (below_step (below_step HB1.out HBo.out) HBf.out) (below_size (below_step (below_step HB1.out HBo.out) HBf.out)) ?_
        intro vp w4 HS hb4 hg4 hat4
        obtain ⟨gp, cp, evp, hgp0, hgp1, _⟩ := Kd.S_form HS (by rw [List.length_replicate]; omega)
        rw [List.length_replicate, Int.toNat_natCast] at evp
        subst evp
        have Hgp := Aside0.mk (And.intro hgp0 hgp1)
        rw [Int.toNat_natCast] at HS
        have HS4 := Aside0.mk HS
        have HB4 := Aside0.mk hb4
        have HG4 := Aside0.mk hg4
        clear HS hb4 hg4 hat4 hgp0 hgp1))
    have hso4 : w4.heap[go]? = some (.cells #[.pointer none, .bool true, .pointer none, .pointer none] 74 (0, 0)) := by
      have h3 := blk_below So.out HBf.out
      exact (HG4.out.block go (blk_lt h3) (by simp)).trans h3
    have hsf4 : w4.heap[gf]? = some (.cells #[.pointer (some ⟨go, 0, none⟩), .slice A0 l0.length c0, .slice none 0 0, .slice none 0 0] 77 (0, 0)) := (HG4.out.block gf (blk_lt Sf.out) (by simp)).trans Sf.out
    have hgo0 : w.heap.size ≤ go := by have := Hgo.out; have := below_size HB1.out; omega
    have H4 : Held w.heap.size [⟨none, true, none, none⟩] [go] w4 := by
      refine ⟨rfl, by simp, fun b hb => by rw [List.mem_singleton] at hb; omega, fun i n hn => ?_, fun i n hn => ?_⟩
      · cases i with
        | zero => injection hn with hn; subst hn; exact hso4
        | succ i => cases hn
      · cases i with
        | zero => injection hn with hn; subst hn; exact ⟨(by intro j hj; cases hj), (by intro j hj; cases hj), (by intro j hj; cases hj)⟩
        | succ i => cases hn
    have hgf0 : w.heap.size ≤ gf := by have := Hgf.out; have := below_size HB1.out; have := below_size HBo.out; omega
    have HM0 := Aside0.mk (show Mem gf gp cp l1.length A0 l0.length c0 w [⟨none, true, none, none⟩] [go] (List.replicate l1.length []) [] none 0 (.slice none 0 0) w4 from
      ⟨H4, by decide, by rw [List.map_replicate]; exact Kd.S_mono HS4.out (fun k _ => by simp [Value.ownBlock]), Kd.R_nil _ _ _ _ _, hsf4, (fun ps hp p hq => by rw [(List.mem_replicate.1 hp).2] at hq; cases hq), (fun p hp => by cases hp), hgf0, HB4.out⟩)
    generalize hHd : fheads [⟨none, true, none, none⟩] l1 = hd at *
    have HHd := Aside0.mk hHd
    clear So Sf HBo HBf HG4 H4 HS4 hso4 hsf4 HB4 hgo0 hgf0 hHd Hgo Hgf Hgp
    go_loopg [37] l1.length (fun kq v37 wr => ∃ (i : Nat) (s1 : List KN) (ad1 : List Nat) (psd : List (List Nat)) (funs : List Nat) (Af : Option Addr) (cf : Nat), v37 = .int .i64 (i : Int) ∧ Aside0 (i + kq = l1.length ∧ psd.length = i ∧ funs.length = i) ∧ Aside0 (((psd ++ (fheads s1 (l1.drop i)).1.1, funs ++ (fheads s1 (l1.drop i)).1.2), (fheads s1 (l1.drop i)).2) = hd) ∧ Aside0 (Mem gf gp cp l1.length A0 l0.length c0 w s1 ad1 (psd ++ List.replicate (l1.length - i) []) funs Af cf (.slice none 0 0) wr))
    case atStart =>
      exact ⟨0, _, [go], [], [], none, 0, rfl, ⟨by omega, rfl, rfl⟩, ⟨by rw [← HHd.out]; rfl⟩, HM0⟩
    case round =>
      clear HM0
      obtain ⟨i, s1, ad1, psd, funs, Af, cf, rfl, Hi, HF, HM⟩ := hrel
      by_cases hlt : i < l1.length
      · cases gk with
        | zero => exact absurd Hi.out.1 (by omega)
        | succ k1 =>
        have Hlt := Aside0.mk hlt
        have HX := Aside0.mk (rd_T48_drop l1 i hlt)
        obtain ⟨ad0, A4, c4, he, hx1, hx2, hx3, hx4, hx5, hl4, hC4⟩ := at_T48 HR1.out (i : Int) (by omega) (by omega)
        cases he
        replace hx1 := (HM.out.below.cell (World.block_lt_of_cell? w _ hx1)).trans hx1
        replace hx2 := (HM.out.below.cell (World.block_lt_of_cell? w _ hx2)).trans hx2
        replace hx3 := (HM.out.below.cell (World.block_lt_of_cell? w _ hx3)).trans hx3
        replace hx4 := (HM.out.below.cell (World.block_lt_of_cell? w _ hx4)).trans hx4
        replace hx5 := (HM.out.below.cell (World.block_lt_of_cell? w _ hx5)).trans hx5
        rw [Int.toNat_natCast] at hx1 hx2 hx3 hx4 hx5
        have Hl4 := Aside0.mk hl4
        have HC4 := Aside0.mk hC4
        clear hl4 hC4
        have p1 : (0 ≤ (i : Int)) = True := eq_true (by omega)
        have p2 : ((i : Int) < (l1.length : Int)) = True := eq_true (by omega)
        have p3 : (i < l1.length) = True := eq_true (by omega)
        generalize hx : rd_T48 l1 (i : Int) = x at *
        clear hx
        go_wp2_with (
          (with_reducible refine gate_dst (N := 10) rfl ?_)
          refine box_event ?hg (N := 10) ?hd (cs := #[.string (⟨#[]⟩ : ByteArray), .int .i64 0, .int .i64 0, .int .i64 0, .slice none 0 0]) (t := 48) ?hr ?_
          (case hd => rfl)
          (case hg => rfl)
          (case hr => first | (go_simp; done) | (go_simp; rfl))
          intro gi hgi w3 hbox hb3
          have hgw : wr.heap.size ≤ gi := by omega
          have HM3 := Aside0.mk (HM.out.sub (below_set (g := gi) (j := 4) (v := .slice A4 x.f2.f2.length c4) (below_set (g := gi) (j := 3) (v := .int .i64 x.f2.f1) (below_set (g := gi) (j := 2) (v := .int .i64 x.f2.f0) (below_set (g := gi) (j := 1) (v := .int .i64 x.f1) (below_set (g := gi) (j := 0) (v := .string x.f0) hb3 hgw) hgw) hgw) hgw) hgw))
          have Hgi := Aside0.mk (blk_put (cs' := #[.string x.f0, .int .i64 x.f1, .int .i64 x.f2.f0, .int .i64 x.f2.f1, .slice A4 x.f2.f2.length c4]) (blk_put (cs' := #[.string x.f0, .int .i64 x.f1, .int .i64 x.f2.f0, .int .i64 x.f2.f1, .slice none 0 0]) (blk_put (cs' := #[.string x.f0, .int .i64 x.f1, .int .i64 x.f2.f0, .int .i64 0, .slice none 0 0]) (blk_put (cs' := #[.string x.f0, .int .i64 x.f1, .int .i64 0, .int .i64 0, .slice none 0 0]) (blk_put (cs' := #[.string x.f0, .int .i64 0, .int .i64 0, .int .i64 0, .slice none 0 0]) (hbox) 0 (.string x.f0) rfl) 1 (.int .i64 x.f1) rfl) 2 (.int .i64 x.f2.f0) rfl) 3 (.int .i64 x.f2.f1) rfl) 4 (.slice A4 x.f2.f2.length c4) rfl)
          have hci1 : (((((w3.setCell ⟨gi, 0, none⟩ (.string x.f0)).setCell ⟨gi, 1, none⟩ (.int .i64 x.f1)).setCell ⟨gi, 2, none⟩ (.int .i64 x.f2.f0)).setCell ⟨gi, 3, none⟩ (.int .i64 x.f2.f1)).setCell ⟨gi, 4, none⟩ (.slice A4 x.f2.f2.length c4)).cell? ⟨gi, 1, none⟩ = some (.int .i64 x.f1) := (blk_cell Hgi.out 1).trans rfl
          have hcz0 := (blk_cell hbox 0).trans rfl
          have hfz0 := blk_frozen hbox 0
          have hcz1 := (blk_cell hbox 1).trans rfl
          have hfz1 := blk_frozen hbox 1
          have hcz2 := (blk_cell hbox 2).trans rfl
          have hfz2 := blk_frozen hbox 2
          have hcz3 := (blk_cell hbox 3).trans rfl
          have hfz3 := blk_frozen hbox 3
          have hcz4 := (blk_cell hbox 4).trans rfl
          have hfz4 := blk_frozen hbox 4
          clear hbox hb3 hgi hgw)
        clear hci1 hcz0 hcz1 hcz2 hcz3 hcz4 hfz0 hfz1 hfz2 hfz3 hfz4 hx1 hx2 hx3 hx4 hx5 HM
        generalize (((((w3.setCell ⟨gi, 0, none⟩ (.string x.f0)).setCell ⟨gi, 1, none⟩ (.int .i64 x.f1)).setCell ⟨gi, 2, none⟩ (.int .i64 x.f2.f0)).setCell ⟨gi, 3, none⟩ (.int .i64 x.f2.f1)).setCell ⟨gi, 4, none⟩ (.slice A4 x.f2.f2.length c4)) = wq at *
        have hprm := (hok.2.2.2.2 x (by have := HX.out; have h2 : x ∈ l1.drop i := (by rw [this]; exact List.mem_cons_self); exact List.mem_of_mem_drop h2))
        go_loopg [44] x.f1.toNat (fun kq v44 wr => ∃ (j : Nat) (e2 : List Nat), v44 = .int .i64 (j : Int) ∧ Aside0 (j + kq = x.f1.toNat ∧ e2.length = j) ∧ Aside0 (Mem gf gp cp l1.length A0 l0.length c0 w (s1 ++ List.replicate j kbare) (ad1 ++ e2) (psd ++ List.range' s1.length j :: List.replicate (l1.length - i - 1) []) funs Af cf (.slice none 0 0) wr) ∧ Aside0 (wr.heap[gi]? = some (.cells #[.string x.f0, .int .i64 x.f1, .int .i64 x.f2.f0, .int .i64 x.f2.f1, .slice A4 x.f2.f2.length c4] 48 (0, 0))))
        case atStart =>
          exact ⟨0, [], rfl, ⟨by omega, rfl⟩, ⟨by
            have h := HM3.out
            rw [show l1.length - i = (l1.length - i - 1) + 1 from by omega, List.replicate_succ] at h
            rw [List.replicate_zero, List.append_nil, List.append_nil]
            exact h⟩, Hgi⟩
        case round =>
          clear HM3 Hgi
          obtain ⟨j, e2, rfl, Hj, HM, Hgi⟩ := hrel
          have hget : (psd ++ List.range' s1.length j :: List.replicate (l1.length - i - 1) []).getD i [] = List.range' s1.length j := by
            have hp := Hi.out.2.1
            rw [List.getD_eq_getElem?_getD, List.getElem?_append_right (by omega), hp, Nat.sub_self]
            rfl
          by_cases hjl : (j : Int) < x.f1
          · cases gk with
            | zero => exact absurd Hj.out.1 (by omega)
            | succ k2 =>
            obtain ⟨oki, A7, c7, hcell, hR, hoki, hH⟩ := HM.out.lend hlt
            rw [hget, List.length_range'] at hcell hR hH
            have HG := Aside0.mk hget
            have HRr := Aside0.mk hR
            have HHo := Aside0.mk hH
            have Hoki := Aside0.mk hoki
            have Hcell := Aside0.mk hcell
            clear hget hR hH hoki
            go_wp2_with (first
             | ((with_reducible refine gate_dst (N := 53) rfl ?_)
                refine box_event ?hg (N := 53) ?hd (cs := #[.pointer none, .bool false, .pointer none, .pointer none]) (t := 74) ?hr ?_
                (case hd => rfl)
                (case hg => rfl)
                (case hr => first | (go_simp; done) | (go_simp; rfl))
                intro g5 hg5 w5 hbox hb5
                have H5 := Aside0.mk (Held.push (n := kbare) HM.out.held hb5 (Nat.le_of_eq hg5.symm) HM.out.below.size ⟨(by intro j hj; cases hj), (by intro j hj; cases hj), (by intro j hj; cases hj)⟩ hbox)
                have HB5 := Aside0.mk hb5
                have Hg5 := Aside0.mk hg5
                clear hbox hb5 hg5)
             | (at_builtin; refine holdI5 ?_))
            unfold HoldI5
            refine Kd.R_append (Kd.raw 1) (w0 := w) w.heap.size rfl (.tmp 51) (.tmp 54) 75 72 (.pointer none) 8 rfl Try.underlying75 (by kernel_rfl) rfl (by decide) (by omega) (.slice A7 j c7) (kds (ad1 ++ e2) (List.range' s1.length j)) [.pointer (some ⟨g5, 0, none⟩)] [.pointer (some ⟨g5, 0, none⟩)] (fun k => oki k ∨ some k ≠ (Value.slice Af funs.length cf).ownBlock ∧ wr.heap.size ≤ k) (fun k => (oki k ∨ some k ≠ (Value.slice Af funs.length cf).ownBlock ∧ wr.heap.size ≤ k) ∧ some k ≠ (Value.slice A7 j c7).ownBlock) rfl rfl ?aP (fun _ hk => hk) ?aF ?aO ?aB ?aS ?aL ?_
            (case aP => exact ⟨rfl, rfl, by intro u hu; rw [List.mem_singleton] at hu; subst hu; rfl⟩)
            (case aB => exact below_step HM.out.below HB5.out)
            (case aF => intro k hk; right; have := below_size HB5.out; exact ⟨fun he => by have := Kd.R_lt HM.out.funs k he.symm; omega, by omega⟩)
            (case aO => exact Kd.R_mono (Kd.R_below HRr.out HB5.out) (fun k hk => .inl hk))
            (case aS => exact (below_step HM.out.below HB5.out).size)
            (case aL => rw [kds_len, List.length_range']; omega)
            intro v2 w6 ho hb hg2 hat
            obtain ⟨A2, c2, e2'⟩ := Kd.R_slice ho
            rw [List.length_append, kds_len, List.length_range'] at e2'
            subst e2'
            have HOn := Aside0.mk ho
            have HBn := Aside0.mk hb
            have HG2 := Aside0.mk hg2
            clear ho hb hg2 hat
            go_wp2_with ((with_reducible refine gate_store (p := 56) rfl ?_); refine holdI5 ?_)
            unfold HoldI5
            refine Kd.H_store KR (w0 := w) w.heap.size rfl rfl 75 (.tmp 56) (.tmp 55) rfl 75 (g := gp) (n := l1.length) (cap := cp) (o' := i) (i : Int) 0 ((psd ++ List.range' s1.length j :: List.replicate (l1.length - i - 1) []).map (kds (ad1 ++ e2))) (kds (ad1 ++ e2) (List.range' s1.length j) ++ [[.pointer (some ⟨g5, 0, none⟩)]]) (.slice A2 (j + 1) c2) [.slice A2 (j + 1) c2] [.slice A7 j c7] (fun k => some k ≠ (Value.slice Af funs.length cf).ownBlock) (fun k => oki k ∨ some k ≠ (Value.slice Af funs.length cf).ownBlock ∧ wr.heap.size ≤ k) (fun k => oki k ∨ some k ≠ (Value.slice Af funs.length cf).ownBlock ∧ wr.heap.size ≤ k) rfl (by show i = i * 1 + 0; omega) rfl rfl (by kernel_rfl) (by intro q hq; rw [List.mem_singleton] at hq; subst hq; rfl) ?sO (by omega) (by omega) (by show 0 + 1 ≤ 1; omega) ?sM (fun _ hk => hk) HBn.out ?_
            (case sO => exact Kd.H_grown (Kd.H_below (Kd.H_widen HHo.out) HB5.out) HG2.out (fun k hk => .inl (HRr.out.1 k hk)))
            (case sM => exact ⟨_, rfl, HOn.out⟩)
            intro w7 hs7 hb7 hg7
            have hg5e : pk (ad1 ++ e2 ++ [g5]) (s1 ++ List.replicate j kbare).length = .pointer (some ⟨g5, 0, none⟩) := by unfold pk; rw [bk_new HM.out.held.len]
            have HM7 := HM.out.put hlt Hoki.out (by rw [HG.out]; exact HRr.out) HB5.out H5.out HG2.out hg7 hb7 (by rw [HG.out, hg5e]; exact hs7)
            rw [HG.out] at HM7
            have tg : ∃ cells, w5.heap[gp]? = some (.cells cells 75 (0, 0)) := by
              obtain ⟨cells, hc⟩ := Kd.S_typed HM.out.rows gp (by simp [Value.ownBlock])
              exact ⟨cells, blk_below hc HB5.out⟩
            have Hgi7 := Aside0.mk (blk_grownT (blk_grownT (blk_below Hgi.out HB5.out) HG2.out (fun k hk => by obtain ⟨c, hk'⟩ := Kd.R_typed (Kd.R_below HRr.out HB5.out) k hk; exact ⟨72, c, by decide, hk'⟩)) hg7 (fun k hk => by
              injection hk with hk
              subst hk
              obtain ⟨c, hc⟩ := tg
              exact ⟨75, c, by decide, blk_grownT hc HG2.out (fun k hk => by obtain ⟨c, hk'⟩ := Kd.R_typed (Kd.R_below HRr.out HB5.out) k hk; exact ⟨72, c, by decide, hk'⟩)⟩))
            have HM8 := Aside0.mk (show Mem gf gp cp l1.length A0 l0.length c0 w (s1 ++ List.replicate (j + 1) kbare) (ad1 ++ (e2 ++ [g5])) (psd ++ List.range' s1.length (j + 1) :: List.replicate (l1.length - i - 1) []) funs Af cf (.slice none 0 0) w7 from by
              have e1 : s1 ++ List.replicate (j + 1) kbare = s1 ++ List.replicate j kbare ++ [kbare] := by rw [List.replicate_succ', List.append_assoc]
              have e3 : List.range' s1.length (j + 1) = List.range' s1.length j ++ [(s1 ++ List.replicate j kbare).length] := by
                rw [List.range'_concat, List.length_append, List.length_replicate]; simp
              have e4 : (psd ++ List.range' s1.length j :: List.replicate (l1.length - i - 1) []).set i (List.range' s1.length j ++ [(s1 ++ List.replicate j kbare).length]) = psd ++ List.range' s1.length (j + 1) :: List.replicate (l1.length - i - 1) [] := by
                rw [List.set_append_right _ _ (by have := Hi.out.2.1; omega), Hi.out.2.1, Nat.sub_self, List.set_cons_zero, e3]
              rw [e1, ← e4, ← List.append_assoc]
              exact HM7)
            have HL := Aside0.mk (show (j + 1) + k2 = x.f1.toNat ∧ (e2 ++ [g5]).length = j + 1 from ⟨by have := Hj.out.1; omega, by rw [List.length_append, Hj.out.2]; rfl⟩)
            clear hs7 hb7 hg7 hg5e HM7 tg HM Hgi H5 HB5 HG HRr HHo Hoki Hcell HOn HBn HG2 hcell
            go_wp2_with fail
            go_roundg k2
            case measure => omega
            case rel => exact ⟨j + 1, _, by go_num, HL, HM8, Hgi7⟩
          · have hje : j = x.f1.toNat := by have := Hj.out.1; omega
            obtain ⟨oki, A7, c7, hcell, hR, hoki, hH⟩ := HM.out.lend hlt
            have hmem : ∀ p, p ∈ List.range' s1.length j → p < (ad1 ++ e2).length := fun p hp => by
              have h1 := HM.out.brows _ (List.mem_append_right _ List.mem_cons_self) p hp
              rw [HM.out.held.len]
              exact h1
            have HP := Aside0.mk (Ptrs_of_R (ps := List.range' s1.length j) (by rw [hget] at hR; exact hR) hmem (by rw [List.length_range']; omega))
            rw [hget, List.length_range'] at hcell
            have HG := Aside0.mk hget
            have hfin := blk_cell HM.out.fin 2
            have hc2 : wr.cell? ⟨gf, 2, none⟩ = some (.slice Af funs.length cf) := hfin.trans rfl
            have HMq := Aside0.mk (HM.out.sub (below_drew (Below.refl _ _)))
            have Hgiq := Aside0.mk (blk_drew Hgi.out)
            have Hje := Aside0.mk hje
            have hfl : funs.length ≤ 64 := by have := Hi.out.2.2; have := hok.2.2.2.1; omega
            generalize hAD : ad1 ++ e2 = ad2 at *
            generalize hSS : s1 ++ List.replicate j kbare = s2 at *
            have HAD := Aside0.mk hAD
            have HSS := Aside0.mk hSS
            have HFN := Aside0.mk (show (((psd ++ [List.range' s1.length j] ++ (fheads (farrow s2 0 (List.range' s1.length j)).2 (l1.drop (i + 1))).1.1, funs ++ [(farrow s2 0 (List.range' s1.length j)).1] ++ (fheads (farrow s2 0 (List.range' s1.length j)).2 (l1.drop (i + 1))).1.2), (fheads (farrow s2 0 (List.range' s1.length j)).2 (l1.drop (i + 1))).2) = hd) from by
              have e := HF.out
              rw [HX.out] at e
              unfold fheads at e
              simp only at e
              rw [← Hje.out, HSS.out] at e
              rw [List.append_assoc, List.append_assoc]
              exact e)
            have HRN := Aside0.mk (show psd ++ List.range' s1.length j :: List.replicate (l1.length - i - 1) [] = psd ++ [List.range' s1.length j] ++ List.replicate (l1.length - (i + 1)) [] from by rw [List.append_assoc]; rfl)
            clear hAD hSS
            clear hget hR hoki hH hmem hfin hje
            go_wp2_with fail
            go_region_law (first
              | (refine Kd.R_append_step (Kd.raw 1) (w0 := w) w.heap.size rfl (.tmp 62) (.tmp 69) 75 72 (.pointer none) 8 rfl Try.underlying75 (by kernel_rfl) rfl (by decide) (by omega) (.slice Af funs.length cf) (kds (ad2 ++ e3) funs) [pk (ad2 ++ e3) (farrow s2 0 (List.range' s1.length j)).1] [pk (ad2 ++ e3) (farrow s2 0 (List.range' s1.length j)).1] (fun _ => True) (fun k => True ∧ some k ≠ (Value.slice Af funs.length cf).ownBlock) rfl rfl (by exact ⟨rfl, rfl, by intro u hu; rw [List.mem_singleton] at hu; subst hu; rfl⟩) (fun _ hk => hk) (fun _ _ => trivial) HMA.out.funs HMA.out.below HMA.out.below.size (by rw [kds_len]; omega) ?_
                 intro v2 w6 ho hb hg2 hat
                 obtain ⟨A2, c2, e2'⟩ := Kd.R_slice ho
                 rw [List.length_append, kds_len] at e2'
                 simp only [List.length_cons, List.length_nil, Nat.zero_add] at e2'
                 subst e2'
                 have HM9 := Aside0.mk (HMA.out.putFun HkA.out hg2 ho hb hat)
                 have HF6 := Aside0.mk (blk_grownT HMA.out.fin hg2 (fun k hk => by obtain ⟨c, hc⟩ := Kd.R_typed HMA.out.funs k hk; exact ⟨72, c, by decide, hc⟩))
                 have Hgi9 := Aside0.mk (blk_far (p := ⟨gf, 2, none⟩) (blk_grownT HgiA.out hg2 (fun k hk => by obtain ⟨c, hc⟩ := Kd.R_typed HMA.out.funs k hk; exact ⟨72, c, by decide, hc⟩)) (blk_ne HgiA.out HMA.out.fin (by decide)) (.slice A2 (funs.length + 1) c2))
                 have hc6 : w6.cell? ⟨gf, 2, none⟩ = some (.slice Af funs.length cf) := (blk_cell HF6.out 2).trans rfl
                 have hz6 : w6.frozen? ⟨gf, 2, none⟩ = false := blk_frozen HF6.out 2
                 clear ho hb hg2 hat HMA HgiA HF6)
              | (go_simp
                 go_at_call 37
                 refine Calls.mono (calls_of_args (by rw [List.length_range']) (arrow_calls w.heap.size s2 ad2 0 A7 c7 (List.range' s1.length j) gf _ _ _ _ HMq.out.held HMq.out.pos HMq.out.below.size (Ptrs.move HP.out (fun a _ => rfl)) HMq.out.fin)) ?_
                 rintro e wA ⟨e3, rfl, hA, hbA, hkA, hnA⟩
                 have HMA := Aside0.mk (HMq.out.grow hA hbA)
                 have HgiA := Aside0.mk (blk_below Hgiq.out hbA)
                 have hcA : wA.cell? ⟨gf, 2, none⟩ = some (.slice Af funs.length cf) := (blk_cell HMA.out.fin 2).trans rfl
                 have hcA2 : ∀ o : Obj, (wA.alloc o).cell? ⟨gf, 2, none⟩ = some (.slice Af funs.length cf) := fun o => (blk_cell (blk_alloc HMA.out.fin o) 2).trans rfl
                 have HkA := Aside0.mk hkA
                 clear hA hbA hkA hnA))
            all_goals rw [HRN.out] at HM9
            all_goals generalize (w6.setCell { block := gf, off := 2 } (Value.slice A2 (funs.length + 1) c2)) = w9 at *
            all_goals clear hc6 hz6 hcA hcA2 HMq Hgiq HP hc2 hcell
            all_goals go_wp2_with fail
            all_goals go_roundg k1
            all_goals try (case measure => omega)
            all_goals (case rel => exact ⟨i + 1, _, _, psd ++ [List.range' s1.length j], funs ++ [(farrow s2 0 (List.range' s1.length j)).1], A2, c2, by go_num, ⟨by have := Hi.out.1; omega, by rw [List.length_append, Hi.out.2.1]; rfl, by rw [List.length_append, Hi.out.2.2]; rfl⟩, HFN, HM9⟩)
      · have hie : i = l1.length := by have := Hi.out.1; omega
        subst hie
        have hhd : hd = ((psd, funs), s1) := by
          have e := HF.out
          rw [List.drop_length] at e
          rw [← e]
          simp [fheads]
        subst hhd
        have HM' := Aside0.mk (show Mem gf gp cp l1.length A0 l0.length c0 w s1 ad1 psd funs Af cf (.slice none 0 0) wr from by
          have h := HM.out
          rw [Nat.sub_self, List.replicate_zero, List.append_nil] at h
          exact h)
        have HPL := Aside0.mk Hi.out.2
        have h := HH.out
        simp only at h
        cases hfb : fbodies l0 funs f s1 psd l1 with
        | none => rw [hfb] at h; cases h
        | some q =>
        obtain ⟨bF, sF⟩ := q
        rw [hfb] at h
        have HFB := Aside0.mk hfb
        have HH2 := Aside0.mk h
        clear hfb h HF HM HHd Hi HH
        go_wp2_with fail
        go_loopg [76] l1.length (fun kq v76 wr => ∃ (i : Nat) (s2 : List KN) (ad2 : List Nat) (pr : Value), v76 = .int .i64 (i : Int) ∧ Aside0 (i + kq = l1.length) ∧ Aside0 (fbodies l0 funs f s2 (psd.drop i) (l1.drop i) = some (bF, sF)) ∧ Aside0 (Mem gf gp cp l1.length A0 l0.length c0 w s2 ad2 psd funs Af cf pr wr))
        case atStart => exact ⟨0, s1, ad1, _, rfl, ⟨by omega⟩, HFB, HM'⟩
        case round =>
          clear HFB HM' 
          obtain ⟨i, s2, ad2, pr, rfl, Hi, HFB, HM⟩ := hrel
          by_cases hlt : i < l1.length
          · cases gk with
            | zero => exact absurd Hi.out (by omega)
            | succ k1 =>
            have Hlt := Aside0.mk hlt
            have HX := Aside0.mk (rd_T48_drop l1 i hlt)
            obtain ⟨ad0, A4, c4, he, hx1, hx2, hx3, hx4, hx5, hl4, hC4⟩ := at_T48 HR1.out (i : Int) (by omega) (by omega)
            cases he
            replace hx1 := (HM.out.below.cell (World.block_lt_of_cell? w _ hx1)).trans hx1
            replace hx2 := (HM.out.below.cell (World.block_lt_of_cell? w _ hx2)).trans hx2
            replace hx3 := (HM.out.below.cell (World.block_lt_of_cell? w _ hx3)).trans hx3
            replace hx4 := (HM.out.below.cell (World.block_lt_of_cell? w _ hx4)).trans hx4
            replace hx5 := (HM.out.below.cell (World.block_lt_of_cell? w _ hx5)).trans hx5
            rw [Int.toNat_natCast] at hx1 hx2 hx3 hx4 hx5
            have Hl4 := Aside0.mk hl4
            have HC4 := Aside0.mk hC4
            clear hl4 hC4
            have p1 : (0 ≤ (i : Int)) = True := eq_true (by omega)
            have p2 : ((i : Int) < (l1.length : Int)) = True := eq_true (by omega)
            have p3 : (i < l1.length) = True := eq_true (by omega)
            generalize hx : rd_T48 l1 (i : Int) = x at *
            clear hx
            go_upto_region 18 with (
              (with_reducible refine gate_dst (N := 12) rfl ?_)
              refine box_event ?hg (N := 12) ?hd (cs := #[.string (⟨#[]⟩ : ByteArray), .int .i64 0, .int .i64 0, .int .i64 0, .slice none 0 0]) (t := 48) ?hr ?_
              (case hd => rfl)
              (case hg => rfl)
              (case hr => first | (go_simp; done) | (go_simp; rfl))
              intro gi hgi w3 hbox hb3
              have hgw : wr.heap.size ≤ gi := by omega
              have HM3 := Aside0.mk (HM.out.sub (below_set (g := gi) (j := 4) (v := .slice A4 x.f2.f2.length c4) (below_set (g := gi) (j := 3) (v := .int .i64 x.f2.f1) (below_set (g := gi) (j := 2) (v := .int .i64 x.f2.f0) (below_set (g := gi) (j := 1) (v := .int .i64 x.f1) (below_set (g := gi) (j := 0) (v := .string x.f0) hb3 hgw) hgw) hgw) hgw) hgw))
              have Hgi := Aside0.mk (blk_put (cs' := #[.string x.f0, .int .i64 x.f1, .int .i64 x.f2.f0, .int .i64 x.f2.f1, .slice A4 x.f2.f2.length c4]) (blk_put (cs' := #[.string x.f0, .int .i64 x.f1, .int .i64 x.f2.f0, .int .i64 x.f2.f1, .slice none 0 0]) (blk_put (cs' := #[.string x.f0, .int .i64 x.f1, .int .i64 x.f2.f0, .int .i64 0, .slice none 0 0]) (blk_put (cs' := #[.string x.f0, .int .i64 x.f1, .int .i64 0, .int .i64 0, .slice none 0 0]) (blk_put (cs' := #[.string x.f0, .int .i64 0, .int .i64 0, .int .i64 0, .slice none 0 0]) (hbox) 0 (.string x.f0) rfl) 1 (.int .i64 x.f1) rfl) 2 (.int .i64 x.f2.f0) rfl) 3 (.int .i64 x.f2.f1) rfl) 4 (.slice A4 x.f2.f2.length c4) rfl)
              have hci1 : (((((w3.setCell ⟨gi, 0, none⟩ (.string x.f0)).setCell ⟨gi, 1, none⟩ (.int .i64 x.f1)).setCell ⟨gi, 2, none⟩ (.int .i64 x.f2.f0)).setCell ⟨gi, 3, none⟩ (.int .i64 x.f2.f1)).setCell ⟨gi, 4, none⟩ (.slice A4 x.f2.f2.length c4)).cell? ⟨gi, 1, none⟩ = some (.int .i64 x.f1) := (blk_cell Hgi.out 1).trans rfl
              have hcz0 := (blk_cell hbox 0).trans rfl
              have hfz0 := blk_frozen hbox 0
              have hcz1 := (blk_cell hbox 1).trans rfl
              have hfz1 := blk_frozen hbox 1
              have hcz2 := (blk_cell hbox 2).trans rfl
              have hfz2 := blk_frozen hbox 2
              have hcz3 := (blk_cell hbox 3).trans rfl
              have hfz3 := blk_frozen hbox 3
              have hcz4 := (blk_cell hbox 4).trans rfl
              have hfz4 := blk_frozen hbox 4
              clear hbox hb3 hgi hgw)
            clear hci1 hcz0 hcz1 hcz2 hcz3 hcz4 hfz0 hfz1 hfz2 hfz3 hfz4 hx1 hx2 hx3 hx4 hx5 HM
            generalize (((((w3.setCell ⟨gi, 0, none⟩ (.string x.f0)).setCell ⟨gi, 1, none⟩ (.int .i64 x.f1)).setCell ⟨gi, 2, none⟩ (.int .i64 x.f2.f0)).setCell ⟨gi, 3, none⟩ (.int .i64 x.f2.f1)).setCell ⟨gi, 4, none⟩ (.slice A4 x.f2.f2.length c4)) = wq at *
            have hpi : i < psd.length := by rw [HPL.out.1]; exact hlt
            have hrow : psd.getD i [] = psd[i] := by rw [List.getD_eq_getElem?_getD, List.getElem?_eq_getElem hpi]; rfl
            have hdp : psd.drop i = psd[i] :: psd.drop (i + 1) := List.drop_eq_getElem_cons hpi
            obtain ⟨oki, A7, c7, hcell, hR, hoki, hH⟩ := HM3.out.lend hlt
            rw [hrow] at hcell hR
            have hpsl : ∀ p, p ∈ psd[i] → p < s2.length := HM3.out.brows _ (List.getElem_mem hpi)
            generalize psd[i] = ps at *
            have hc3 : wq.cell? ⟨gf, 3, none⟩ = some pr := (blk_cell HM3.out.fin 3).trans rfl
            have hz3 : wq.frozen? ⟨gf, 3, none⟩ = false := blk_frozen HM3.out.fin 3
            have HM4 := Aside0.mk (HM3.out.setPr (.slice A7 ps.length c7))
            have HRp := Aside0.mk (Kd.R_set (Kd.R_mono hR (fun _ _ => trivial)) HM3.out.fin (by decide) 3 (.slice A7 ps.length c7))
            have Hgi4 := Aside0.mk (blk_far (p := ⟨gf, 3, none⟩) Hgi.out (blk_ne Hgi.out HM3.out.fin (by decide)) (.slice A7 ps.length c7))
            have HDP := Aside0.mk hdp
            have HPSL := Aside0.mk hpsl
            clear hrow hdp hR hoki hH hpsl HM3 Hgi
            go_upto_region 19 with (fail)
            clear hc3 hz3 hcell
            generalize (wq.setCell { block := gf, off := 3 } (.slice A7 ps.length c7)) = wp at *
            have hb2 : wp.cell? ⟨gi, 2, none⟩ = some (.int .i64 x.f2.f0) := (blk_cell Hgi4.out 2).trans rfl
            have hb3 : wp.cell? ⟨gi, 3, none⟩ = some (.int .i64 x.f2.f1) := (blk_cell Hgi4.out 3).trans rfl
            have hb4 : wp.cell? ⟨gi, 4, none⟩ = some (.slice A4 x.f2.f2.length c4) := (blk_cell Hgi4.out 4).trans rfl
            have hfb := HFB.out
            rw [HDP.out, HX.out] at hfb
            unfold fbodies at hfb
            cases hft : fterm ⟨0, l0, funs, ps⟩ f s2 x.f2.f0 x.f2.f1 x.f2.f2 with
            | none => rw [hft] at hfb; cases hfb
            | some q =>
            obtain ⟨r, s3⟩ := q
            rw [hft] at hfb
            have HFT := Aside0.mk hft
            have HFN := Aside0.mk hfb
            clear hft hfb HFB
            go_wp2_with fail
            have hpl : ps.length ≤ 9223372036854775807 := by
              have h := (Kd.R_reads' HRp.out).2.2.2.1
              rw [kds_len] at h
              exact h
            have hfl : funs.length ≤ 9223372036854775807 := by rw [HPL.out.2]; exact hlen1
            (with_reducible refine (term_calls w.heap.size ⟨0, l0, funs, ps⟩ gf (fun x hx => by have := symsL_le l0 [] hok.1 x hx; omega) f s2 ad2 x.f2.f0 x.f2.f1 x.f2.f2 A4 c4 r s3 w wp HM4.out.held A0 c0 (HM4.out.find HRp.out HPSL.out hpl hfl) HR0.out HM4.out.below.size (Nat.le_refl _) HC4.out Hl4.out HM4.out.below HFT.out).mono ?_)
            rintro e w5 ⟨e1, v, rfl, hv1, hv2, hH5, hT5, hn5⟩
            have HM5 := Aside0.mk (HM4.out.turn hH5 hT5)
            have hfn := HFN.out
            clear hH5 hT5 hn5 HM4 HRp Hgi4 hb2 hb3 hb4 hpl hfl HFN HPSL
            cases r with
            | none =>
              injection hfn with e
              injection e with ea eb
              subst ea eb
              have hh := HH2.out
              injection hh with hh
              injection hh with ha hb
              subst ha hb
              have hv := hv2 rfl
              subst hv
              clear hv1 hv2
              go_wp2_with fail
              go_ret2
              exact ⟨_, rfl, Kd.R_nil _ _ _ _ _, HM5.out.below⟩
            | some k =>
              obtain ⟨hv, hkl⟩ := hv1 k rfl
              subst hv
              simp only at hfn
              clear hv1 hv2
              cases hj : fjoin f s3 k 0 with
              | none => rw [hj] at hfn; cases hfn
              | some q =>
              obtain ⟨rj, s4⟩ := q
              rw [hj] at hfn
              have HJ := Aside0.mk hj
              have HFN := Aside0.mk hfn
              have hc0 : w5.cell? ⟨gf, 0, none⟩ = some (pk (ad2 ++ e1) 0) := (blk_cell HM5.out.fin 0).trans rfl
              clear hj hfn
              go_wp2_with fail
              (with_reducible refine (join_calls w.heap.size (ad2 ++ e1) f s3 k 0 rj s4 w5 HM5.out.held HJ.out).mono ?_)
              rintro e w6 ⟨rfl, hH6, hT6⟩
              have HM6 := Aside0.mk (show Mem gf gp cp l1.length A0 l0.length c0 w s4 (ad2 ++ e1) psd funs Af cf (.slice A7 ps.length c7) w6 from by
                have h := HM5.out.turn (e' := []) (by rw [List.append_nil]; exact hH6) hT6
                rw [List.append_nil] at h
                exact h)
              have hfn := HFN.out
              clear hH6 hT6 HM5 hc0 HFN
              cases rj with
              | false =>
                injection hfn with e
                injection e with ea eb
                subst ea eb
                have hh := HH2.out
                injection hh with hh
                injection hh with ha hb
                subst ha hb
                go_wp2_with fail
                go_ret2
                exact ⟨_, rfl, Kd.R_nil _ _ _ _ _, HM6.out.below⟩
              | true =>
                simp only at hfn
                have HFN := Aside0.mk hfn
                clear hfn
                go_wp2_with fail
                go_roundg k1
                case measure => omega
                case rel => exact ⟨i + 1, s4, ad2 ++ e1, _, by go_num, ⟨by have := Hi.out; omega⟩, HFN, HM6⟩
          · have hie : i = l1.length := by have := Hi.out; omega
            subst hie
            have hfb := HFB.out
            rw [List.drop_length] at hfb
            have hq : (true, s2) = (bF, sF) := by
              cases hd2 : psd.drop l1.length with
              | nil => rw [hd2] at hfb; unfold fbodies at hfb; injection hfb
              | cons _ _ => rw [hd2] at hfb; unfold fbodies at hfb; injection hfb
            injection hq with ea eb
            subst ea eb
            have h := HH2.out
            simp only at h
            cases hfo : fouts s2 f [] funs with
            | none => rw [hfo] at h; cases h
            | some fo =>
            rw [hfo] at h
            have HFO := Aside0.mk hfo
            have HH3 := Aside0.mk h
            have hc2 : wr.cell? ⟨gf, 2, none⟩ = some (.slice Af funs.length cf) := (blk_cell HM.out.fin 2).trans rfl
            have Hh := Aside0.mk HM.out.held
            have HRf := Aside0.mk HM.out.funs
            have Hbf := Aside0.mk HM.out.bfuns
            have HB := Aside0.mk HM.out.below
            have hfl : funs.length ≤ 64 := by rw [HPL.out.2]; have := hok.2.2.2.1; omega
            clear hfb hfo h HFB HH2 HM
            go_wp2_with fail
            go_loopg [15, 112] funs.length (fun kq v15 v112 wr => ∃ (i : Nat) (acc : List S41) (Ao : Option Addr) (co : Nat), v15 = .slice Ao acc.length co ∧ v112 = .int .i64 (i : Int) ∧ Aside0 (i + kq = funs.length ∧ acc.length = i) ∧ Aside0 (fouts s2 f acc (funs.drop i) = some fo) ∧ Aside0 (Held w.heap.size s2 ad2 wr) ∧ Aside0 ((Kd.raw 1).R 72 wr w.heap.size (fun _ => True) (.slice Af funs.length cf) (kds ad2 funs)) ∧ Aside0 (k41.R 41 wr w.heap.size (fun _ => True) (.slice Ao acc.length co) acc) ∧ Aside0 (Below w.heap.size w wr))
            case atStart => exact ⟨0, [], none, 0, rfl, rfl, ⟨by omega, rfl⟩, HFO, Hh, HRf, ⟨Kd.R_nil _ _ _ _ _⟩, HB⟩
            case round =>
              clear HFO Hh HRf HB hc2
              obtain ⟨i, acc, Ao, co, rfl, rfl, Hi, HFO, Hh, HRf, HRo, HB⟩ := hrel
              by_cases hlt : i < funs.length
              · cases gk with
                | zero => exact absurd Hi.out.1 (by omega)
                | succ k1 =>
                have HP := Ptrs_of_R HRf.out (fun p hp => by rw [Hh.out.len]; exact Hbf.out p hp) (by omega)
                obtain ⟨adr, hadr, hcel⟩ := HP.2.2 (by omega)
                subst hadr
                have hx := hcel i funs[i] (List.getElem?_eq_getElem hlt)
                have HD := Aside0.mk (List.drop_eq_getElem_cons hlt)
                have hkl := Hbf.out funs[i] (List.getElem_mem hlt)
                generalize funs[i] = k at *
                have p1 : (0 ≤ (i : Int)) = True := eq_true (by omega)
                have p2 : ((i : Int) < (funs.length : Int)) = True := eq_true (by omega)
                have p3 : (i < funs.length) = True := eq_true (by omega)
                have hfo := HFO.out
                rw [HD.out] at hfo
                unfold fouts at hfo
                cases hsh : fshown s2 f k 60 with
                | none => rw [hsh] at hfo; cases hfo
                | some q =>
                obtain ⟨o, lft⟩ := q
                rw [hsh] at hfo
                have HSH := Aside0.mk hsh
                have HFN := Aside0.mk hfo
                clear HP hcel hsh hfo HFO
                go_upto_region 28 with (
                  (with_reducible refine gate_dst (N := 18) rfl ?_)
                  refine box_event ?hg (N := 18) ?hd (cs := #[.int .i64 0]) (t := 3) ?hr ?_
                  (case hd => rfl)
                  (case hg => rfl)
                  (case hr => first | (go_simp; done) | (go_simp; rfl))
                  intro gl hgl w3 hbox hb3
                  have hcz := (blk_cell hbox 0).trans rfl
                  have hfz := blk_frozen hbox 0
                  have hgw : wr.heap.size ≤ gl := by omega
                  have Hbl := Aside0.mk (blk_put (cs' := #[.int .i64 60]) hbox 0 (.int .i64 60) rfl)
                  have hbw := below_set (g := gl) (j := 0) (v := .int .i64 60) hb3 hgw
                  have Hh3 := Aside0.mk (Held.below Hh.out hbw)
                  have HRf3 := Aside0.mk (Kd.R_below HRf.out hbw)
                  have HRo3 := Aside0.mk (Kd.R_below HRo.out hbw)
                  have HB3 := Aside0.mk (below_step HB.out hbw)
                  have Hgl := Aside0.mk (Nat.le_trans HB.out.size hgw)
                  clear hbox hb3 hbw hgw hgl)
                generalize (w3.setCell { block := gl, off := 0 } (Value.int IntKind.i64 60)) = wc at *
                have hgn : gl ∉ ad2 := Hh3.out.notin Hbl.out (by decide)
                clear hx hcz hfz p1 p2 p3 Hh HRf HRo HB
                go_wp2_with fail
                (with_reducible refine (shown_calls w.heap.size s2 ad2 f k gl 60 lft o w wc Hh3.out hgn HSH.out Hgl.out HB3.out Hbl.out (by decide) (by decide)).mono ?_)
                rintro e w5 ⟨v, rfl, ⟨Av, nv, cv, rfl⟩, hR5, hB5, hK5, hb5⟩
                have Hh5 := Aside0.mk (Held.keep Hh3.out hK5 hgn)
                have HRf5 := Aside0.mk (Kd.R_mono (Kd.R_keep (Kd.R_types HRf3.out Hbl.out (by decide)) hK5 (fun k hk => hk.2)) (fun _ _ => trivial))
                have HRo5 := Aside0.mk (Kd.R_mono (Kd.R_keep (Kd.R_types HRo3.out Hbl.out (by decide)) hK5 (fun k hk => hk.2)) (fun _ _ => trivial))
                have HB5 := Aside0.mk hB5
                have HR5 := Aside0.mk hR5
                have Hlt := Aside0.mk (Kd.R_lt HRo3.out)
                have hsz5 : wc.heap.size ≤ w5.heap.size := hK5.1
                have hszw : w.heap.size ≤ wc.heap.size := HB3.out.size
                have hfn := HFN.out
                clear hR5 hB5 hK5 hb5 Hh3 HRf3 HRo3 HB3 hgn Hbl HFN
                cases o with
                | none =>
                  injection hfn with e
                  subst e
                  have hh := HH3.out
                  injection hh with hh
                  injection hh with ha hb
                  subst ha hb
                  clear HR5
                  go_wp2_with ((with_reducible refine gate_dst (N := 19) rfl ?_); refine holdI5 ?_)
                  unfold HoldI5
                  (
                    refine box_event ?hg (N := 19) ?hd (cs := #[.slice none 0 0]) (t := 41) ?hr ?_
                    (case hd => rfl)
                    (case hg => rfl)
                    (case hr => first | (go_simp; done) | (go_simp; rfl))
                    intro g7 hg7 w6 hbox hb6
                    have hg6 : w.heap.size ≤ g7 := by omega
                    have HB6 := Aside0.mk (below_set (g := g7) (j := 0) (v := .slice Av nv cv) (below_step HB5.out hb6) hg6)
                    have hcz := (blk_cell hbox 0).trans rfl
                    have hfz := blk_frozen hbox 0
                    clear hbox hb6 hg6 hg7)
                  go_wp2_with fail
                  go_ret2
                  exact ⟨_, rfl, Kd.R_nil _ _ _ _ _, HB6.out⟩
                | some x =>
                  simp only at hfn
                  cases hck : sorts_Check.f x with
                  | none => rw [hck] at hfn; cases hfn
                  | some ec =>
                  rw [hck] at hfn
                  simp only at hfn
                  have HCK := Aside0.mk hck
                  have hr5 := HR5.out x rfl
                  obtain ⟨Ax, cx, ex⟩ := Kd.R_slice hr5
                  injection ex with e1 e2 e3
                  subst e1 e2 e3
                  have HX := Aside0.mk hr5
                  clear hck hr5 HR5
                  go_wp2_with ((with_reducible refine gate_dst (N := 19) rfl ?_); refine holdI5 ?_)
                  unfold HoldI5
                  (
                    refine box_event ?hg (N := 19) ?hd (cs := #[.slice none 0 0]) (t := 41) ?hr ?_
                    (case hd => rfl)
                    (case hg => rfl)
                    (case hr => first | (go_simp; done) | (go_simp; rfl))
                    intro g7 hg7 w6 hbox hb6
                    have hg6 : w.heap.size ≤ g7 := by omega
                    have hbw := below_set (g := g7) (j := 0) (v := .slice Av x.length cv) hb6 (Nat.le_of_eq hg7.symm)
                    have HB6 := Aside0.mk (below_step HB5.out hbw)
                    have Hh6 := Aside0.mk (Held.below Hh5.out hbw)
                    have HRf6 := Aside0.mk (Kd.R_below HRf5.out hbw)
                    have HRo6 := Aside0.mk (Kd.R_below (Kd.R_mono (Kd.R_bound HRo5.out) (fun k hk => (show k ≠ g7 by have := hk.2.2.1; omega))) hbw)
                    have HX6 := Aside0.mk (Kd.R_below (Kd.R_mono (Kd.R_bound HX.out) (fun k hk => (show k ≠ g7 ∧ wc.heap.size ≤ k from ⟨by have := hk.2.2.1; omega, hk.2.1⟩))) hbw)
                    have Hb7 := Aside0.mk (blk_put (cs' := #[.slice Av x.length cv]) hbox 0 (.slice Av x.length cv) rfl)
                    have hcz := (blk_cell hbox 0).trans rfl
                    have hfz := blk_frozen hbox 0
                    have hc7 : (w6.setCell ⟨g7, 0, none⟩ (.slice Av x.length cv)).cell? ⟨g7, 0, none⟩ = some (.slice Av x.length cv) := (blk_cell Hb7.out 0).trans rfl
                    clear hbox hb6 hbw hg6
                    have Hg7 := Aside0.mk hg7
                    clear hg7)
                  go_wp2_with fail
                  obtain ⟨_, hxc, hxr⟩ := Kd.R_reads' HX6.out
                  (with_reducible refine (sorts_Check.calls Av cv x ec _ hxr hxc HCK.out).mono ?_)
                  rintro e w7 ⟨rfl, hb7⟩
                  have HB7 := Aside0.mk (below_step HB6.out hb7)
                  have Hh7 := Aside0.mk (Held.below Hh6.out hb7)
                  have HRf7 := Aside0.mk (Kd.R_below HRf6.out hb7)
                  have HRo7 := Aside0.mk (Kd.R_below HRo6.out hb7)
                  have HX7 := Aside0.mk (Kd.R_below HX6.out hb7)
                  have Hb77 := Aside0.mk (blk_below Hb7.out hb7)
                  have hc77 : w7.cell? ⟨g7, 0, none⟩ = some (.slice Av x.length cv) := (blk_cell Hb77.out 0).trans rfl
                  clear hcz hfz hc7 hxc hxr hb7 HB6 Hh6 HRf6 HRo6 HX6 Hb7 HX HB5 Hh5 HRf5 HRo5
                  by_cases hec : ec = 0
                  · rw [if_pos hec] at hfn
                    subst hec
                    have HFN := Aside0.mk hfn
                    clear hfn
                    go_wp2_with (at_builtin; refine holdI5 ?_)
                    unfold HoldI5
                    refine Kd.R_append k41 (w0 := w) w.heap.size rfl (.tmp 128) (.tmp 130) 31 41 (.agg #[(.slice none 0 0)]) 24 rfl Try.underlying31 info41 rfl (by decide) (by omega) (.slice Ao acc.length co) acc (⟨x⟩ : S41) [.slice Av x.length cv] (fun k => k ≠ g7) (fun k => k ≠ g7 ∧ wc.heap.size ≤ k) rfl rfl ?aP ?aK ?aF ?aO ?aB ?aS ?aL ?_
                    (case aP => exact k41_mkM _ _ _ (⟨x⟩ : S41) (Kd.R_lower HX7.out hszw))
                    (case aK => exact fun k hk => ⟨hk.1, fun he => by have := Hlt.out k he.symm; have := hk.2; omega⟩)
                    (case aF => intro k hk; have := blk_lt Hb77.out; omega)
                    (case aO => exact HRo7.out)
                    (case aB => exact HB7.out)
                    (case aS => exact HB7.out.size)
                    (case aL => have := Hi.out.2; omega)
                    intro v2 w8 ho hb hg2 hat
                    obtain ⟨A2, c2, e2⟩ := Kd.R_slice ho
                    have tg : ∀ k, (Value.slice Ao acc.length co).ownBlock = some k → ∃ cells, w7.heap[k]? = some (.cells cells 41 (0, 0)) := Kd.R_typed HRo7.out
                    have Hh8 := Aside0.mk (Held.grownT Hh7.out hg2 (fun k hk => by obtain ⟨c, hc⟩ := tg k hk; exact ⟨41, c, by decide, hc⟩))
                    have HRf8 := Aside0.mk (Kd.R_over' HRf7.out tg (by decide) hg2)
                    have HRo8 := Aside0.mk (Kd.R_mono ho (fun _ _ => trivial))
                    have HB8 := Aside0.mk hb
                    have HL8 := Aside0.mk (show (acc ++ [(⟨x⟩ : S41)]).length = i + 1 from by rw [List.length_append, Hi.out.2]; rfl)
                    obtain ⟨n2, hn2⟩ : ∃ n, n = (acc ++ [(⟨x⟩ : S41)]).length := ⟨_, rfl⟩
                    rw [← hn2] at e2
                    subst e2
                    have HN2 := Aside0.mk hn2
                    clear ho hb hg2 hat tg hn2 HB7 Hh7 HRf7 HRo7 HX7 Hb77 hc77 Hlt
                    go_wp2_with fail
                    go_roundg k1
                    case measure => omega
                    case rel => exact ⟨i + 1, acc ++ [⟨x⟩], A2, c2, by rw [HN2.out], by go_num, ⟨by have := Hi.out.1; omega, HL8.out⟩, HFN, Hh8, HRf8, ⟨by rw [← HN2.out]; exact HRo8.out⟩, HB8⟩
                  · rw [if_neg hec] at hfn
                    injection hfn with e
                    subst e
                    have hh := HH3.out
                    injection hh with hh
                    injection hh with ha hb
                    subst ha hb
                    have hne : (ec != 0) = true := by rw [bne_iff_ne]; exact hec
                    clear hec
                    go_wp2_with fail
                    go_ret2
                    exact ⟨_, rfl, Kd.R_nil _ _ _ _ _, HB7.out⟩
              · have hie : i = funs.length := by have := Hi.out.1; omega
                subst hie
                have hfn := HFO.out
                rw [List.drop_length] at hfn
                unfold fouts at hfn
                injection hfn with e
                subst e
                have hh := HH3.out
                injection hh with hh
                injection hh with ha hb
                subst ha hb
                go_wp2_with fail
                go_ret2
                exact ⟨_, rfl, HRo.out, HB.out⟩
  · rw [if_neg he0] at h
    injection h with h
    injection h with ea eb
    subst ea eb
    have hne : (e0 != 0) = true := by rw [bne_iff_ne]; exact he0
    go_wp2_with fail
    go_ret2
    exact ⟨_, rfl, Kd.R_nil _ _ _ _ _, HB1.out⟩
end Go.Proofs.Ytfhgoebgnilfaaa.I
namespace Go.Proofs.Ytfhgoebgnilfaaa.I
open Go.RowKit Go.Proofs.YtfhgoebgnilfaaaW.PrintWords Go.Proofs.YtfhgoebgnilfaaaW.PrintLast Go.Proofs.YtfhgoebgnilfaaaW.PrintMore
set_option linter.unusedVariables false
mutual
/-- Are all heads' kinds ints? -/
def twfB : S44 → Bool
  | ⟨k, _, l⟩ => (Lit.int .i64 k).wf && twfBL l
def twfBL : List S44 → Bool
  | [] => true
  | x :: xs => twfB x && twfBL xs
end
mutual
theorem twf_of : ∀ {x : S44}, twfB x = true → twf x
  | ⟨k, n, l⟩, h => by
    unfold twfB at h
    rw [Bool.and_eq_true] at h
    exact ⟨h.1, twfL_of h.2⟩
theorem twfL_of : ∀ {l : List S44}, twfBL l = true → twfL l
  | [], _ => trivial
  | x :: xs, h => by
    unfold twfBL at h
    rw [Bool.and_eq_true] at h
    exact ⟨twf_of h.1, twfL_of h.2⟩
end
def looseWf (l : List S48) : Bool := l.all (fun x => twfB x.f2)
theorem looseWf_of {l : List S48} (h : looseWf l = true) : ∀ x ∈ l, twf x.f2 := fun x hx => twf_of (List.all_eq_true.1 h x hx)
def infer_Sorts.f (k : Nat) (l0 : List S59) (l1 : List S48) : Option (List S41 × Int) := if looseWf l1 = true then fsorts k l0 l1 else none
theorem infer_Sorts.calls (k : Nat) (A0 : Option Addr) (c0 : Nat) (l0 : List S59) (A1 : Option Addr) (c1 : Nat) (l1 : List S48) (r1 : List S41) (r2 : Int) (w : World) (hr0 : Kd.C k59 w A0 l0.length l0) (hc0 : l0.length ≤ c0) (hr1 : Kd.C k48 w A1 l1.length l1) (hc1 : l1.length ≤ c1) (h : infer_Sorts.f k l0 l1 = some (r1, r2)) :
    Calls Try.prog 13 #[.slice A0 l0.length c0, .slice A1 l1.length c1] w fun e w' => ∃ v0_ : Value, e = .returned (.tuple #[v0_, .int .i64 r2]) ∧ Kd.R k41 41 w' w.heap.size (fun _ => True) v0_ r1 ∧ Below w.heap.size w w' := by
  unfold infer_Sorts.f at h
  by_cases hw : looseWf l1 = true
  · rw [if_pos hw] at h
    exact infer_Sorts_calls k A0 c0 l0 A1 c1 l1 r1 r2 w hr0 hc0 hr1 hc1 (looseWf_of hw) h
  · rw [if_neg hw] at h; cases h
end Go.Proofs.Ytfhgoebgnilfaaa.I
namespace Go.Proofs.Ytfhgoebgnilfaaa.I
open Go.RowKit
def x0 : S44 := ⟨0, 0, []⟩
def x1 : S44 := ⟨2, 1, [x0]⟩
def x2 : S44 := ⟨1, 1, [x1]⟩
def x3 : S44 := ⟨2, 0, [x0, x2]⟩
def xc : S44 := ⟨2, 2, []⟩
def exSyms : List S59 := [⟨⟨#[97]⟩, 2⟩, ⟨⟨#[98]⟩, 1⟩, ⟨⟨#[99]⟩, 0⟩]
def ex1 : List S48 := [⟨⟨#[115]⟩, 0, ⟨1, 1, [xc]⟩⟩, ⟨⟨#[102]⟩, 1, x3⟩]
def ex2 : List S48 := [⟨⟨#[115]⟩, 0, xc⟩, ⟨⟨#[102]⟩, 1, ⟨0, 0, [x0]⟩⟩]
def ex3 : List S48 := [⟨⟨#[115]⟩, 0, xc⟩, ⟨⟨#[107]⟩, 2, x0⟩]
theorem ev1 : infer_Sorts.f 40 exSyms ex1 = some ([⟨[]⟩, ⟨[⟨[]⟩]⟩], 0) := by kernel_rfl
theorem ev2 : infer_Sorts.f 40 exSyms ex2 = some ([], 6) := by kernel_rfl
theorem ev3 : infer_Sorts.f 40 exSyms ex3 = some ([⟨[]⟩, ⟨[⟨[]⟩, ⟨[]⟩]⟩], 0) := by kernel_rfl
end Go.Proofs.Ytfhgoebgnilfaaa.I
namespace Go.Proofs.Ytfhgoebgnilfaaa.I
open Go.RowKit Go.Proofs.YtfhgoebgnilfaaaW.PrintWords Go.Proofs.YtfhgoebgnilfaaaW.PrintLast Go.Proofs.YtfhgoebgnilfaaaW.PrintMore
attribute [local go_sem] max2_int min2_int max_two min_two max_three min_three max_four min_four
set_option linter.unusedVariables false
set_option maxRecDepth 100000
set_option linter.unusedSimpArgs false
set_option maxHeartbeats 8000000 in
theorem term_ex (a0 a1 : Int) (A : Option Addr) (n c : Nat) (w : World) :
    Calls Try.prog 27 #[.int .i64 a0, .int .i64 a1, .slice A n c] w fun e w' => e = .returned (.agg #[.int .i64 a0, .int .i64 a1, .slice A n c]) ∧ Below w.heap.size w w' := by
  have hu44 := Try.underlying44
  go_enter Try.func27, Try.ntmps27
  go_wp2_with (
    (with_reducible refine gate_dst (N := 6) rfl ?_)
    refine box_event ?hg (N := 6) ?hd (cs := #[.int .i64 0, .int .i64 0, .slice none 0 0]) (t := 44) ?hr ?_
    (case hd => rfl)
    (case hg => rfl)
    (case hr => first | (go_simp; done) | (go_simp; rfl))
    intro gi hgi w3 hbox hb3
    have hg := Nat.le_of_eq hgi.symm
    have HB := Aside0.mk (below_set (g := gi) (j := 2) (v := .slice A n c) (below_set (g := gi) (j := 1) (v := .int .i64 a1) (below_set (g := gi) (j := 0) (v := .int .i64 a0) hb3 hg) hg) hg)
    have Hgi := Aside0.mk (blk_put (cs' := #[.int .i64 a0, .int .i64 a1, .slice A n c]) (blk_put (cs' := #[.int .i64 a0, .int .i64 a1, .slice none 0 0]) (blk_put (cs' := #[.int .i64 a0, .int .i64 0, .slice none 0 0]) hbox 0 (.int .i64 a0) rfl) 1 (.int .i64 a1) rfl) 2 (.slice A n c) rfl)
    have hcz0 := (blk_cell hbox 0).trans rfl
    have hcz1 := (blk_cell hbox 1).trans rfl
    have hcz2 := (blk_cell hbox 2).trans rfl
    have hfz0 := blk_frozen hbox 0
    have hfz1 := blk_frozen hbox 1
    have hfz2 := blk_frozen hbox 2
    clear hbox hb3 hgi hg)
  refine bodyPost_ret (results_cell_row rfl _ _ gi 44 #[.int .i64 a0, .int .i64 a1, .slice A n c] (0, 0) _ rfl Hgi.out Try.underlying44 rfl (by kernel_rfl)) rfl ?_
  exact ⟨rfl, HB.out⟩
theorem C_cel {α : Type} {d : Kd α} {w : World} {g : Nat} {cs : List Value} {xs : List α} (ccs : List (List Value)) (hb : ∀ (j : Nat) (u : Value), cs[j]? = some u → w.cell? ⟨g, j, none⟩ = some u) (hcs : cs = ccs.flatten) (hl : ccs.length = xs.length) (hm : xs.length ≤ 1000) (hK : ∀ (j : Nat) (x : α) (c : List Value), xs[j]? = some x → ccs[j]? = some c → d.K w x c) :
    d.C w (some ⟨g, 0, none⟩) xs.length xs := by
  refine ⟨rfl, by omega, fun _ => ⟨_, rfl, fun j x hj => ?_⟩⟩
  have hjl : j < ccs.length := by rw [hl]; exact (List.getElem?_eq_some_iff.1 hj).1
  have hk := hK j x ccs[j] hj (List.getElem?_eq_getElem hjl)
  have hlen : ∀ c ∈ ccs, c.length = d.sz := fun c hc => by
    obtain ⟨i, hi, e⟩ := List.getElem_of_mem hc
    have hx : xs[i]? = some (xs[i]'(by rw [← hl]; exact hi)) := List.getElem?_eq_getElem _
    rw [← e]
    exact d.K_len (hK i _ _ hx (List.getElem?_eq_getElem hi))
  refine ⟨ccs[j], d.K_len hk, hk, fun i u hu => ?_⟩
  have hil : i < ccs[j].length := (List.getElem?_eq_some_iff.1 hu).1
  have key : ∀ (l : List (List Value)) (sz : Nat), (∀ c ∈ l, c.length = sz) → ∀ (j i : Nat) (c : List Value) (u : Value), l[j]? = some c → c[i]? = some u → l.flatten[j * sz + i]? = some u := by
    intro l sz
    induction l with
    | nil => intro _ j i c u hj; simp at hj
    | cons a l ih =>
      intro hs j i c u hj hi
      have ha := hs a List.mem_cons_self
      cases j with
      | zero =>
        injection hj with hj
        subst hj
        rw [List.flatten_cons, Nat.zero_mul, Nat.zero_add, List.getElem?_append_left (List.getElem?_eq_some_iff.1 hi).1]
        exact hi
      | succ j =>
        rw [List.flatten_cons, List.getElem?_append_right (by rw [ha, Nat.succ_mul]; omega), ha, Nat.succ_mul, show j * sz + sz + i - sz = j * sz + i from by omega]
        exact ih (fun c hc => hs c (List.mem_cons_of_mem _ hc)) j i c u hj hi
  have h2 := key ccs d.sz hlen j i _ u (List.getElem?_eq_getElem hjl) hu
  rw [← hcs] at h2
  have e : (⟨g, 0, none⟩ : Addr).add (j * d.sz + i) = ⟨g, j * d.sz + i, none⟩ := by unfold Addr.add; simp; omega
  rw [e]
  exact hb _ _ h2
theorem C_blk {α : Type} {d : Kd α} {w : World} {g : Nat} {t : TypeId} {cs : List Value} {xs : List α} (ccs : List (List Value)) (hb : w.heap[g]? = some (.cells cs.toArray t (0, 0))) (hcs : cs = ccs.flatten) (hl : ccs.length = xs.length) (hm : xs.length ≤ 1000) (hK : ∀ (j : Nat) (x : α) (c : List Value), xs[j]? = some x → ccs[j]? = some c → d.K w x c) :
    d.C w (some ⟨g, 0, none⟩) xs.length xs :=
  C_cel ccs (fun j u hu => (blk_cell hb j).trans (by simpa using hu)) hcs hl hm hK
theorem C_cel1 {α : Type} {d : Kd α} {w : World} {g : Nat} {x : α} (c : List Value) (hb : ∀ (j : Nat) (u : Value), c[j]? = some u → w.cell? ⟨g, j, none⟩ = some u) (hK : d.K w x c) : d.C w (some ⟨g, 0, none⟩) 1 [x] :=
  C_cel (xs := [x]) [c] hb (by simp) rfl (by simp) (fun j y e h1 h2 => by
    cases j with
    | zero => injection h1 with h1; injection h2 with h2; subst h1 h2; exact hK
    | succ j => cases h1)
theorem C_cel2 {α : Type} {d : Kd α} {w : World} {g : Nat} {x x' : α} (c c' : List Value) (hb : ∀ (j : Nat) (u : Value), (c ++ c')[j]? = some u → w.cell? ⟨g, j, none⟩ = some u) (hK : d.K w x c) (hK' : d.K w x' c') : d.C w (some ⟨g, 0, none⟩) 2 [x, x'] :=
  C_cel (xs := [x, x']) [c, c'] hb (by simp) rfl (by simp) (fun j y e h1 h2 => by
    match j with
    | 0 => injection h1 with h1; injection h2 with h2; subst h1 h2; exact hK
    | 1 => injection h1 with h1; injection h2 with h2; subst h1 h2; exact hK'
    | j + 2 => cases h1)
theorem C_blk3 {α : Type} {d : Kd α} {w : World} {g : Nat} {t : TypeId} {x x' x'' : α} (c c' c'' : List Value) (hb : w.heap[g]? = some (.cells (c ++ c' ++ c'').toArray t (0, 0))) (hK : d.K w x c) (hK' : d.K w x' c') (hK'' : d.K w x'' c'') : d.C w (some ⟨g, 0, none⟩) 3 [x, x', x''] :=
  C_blk (xs := [x, x', x'']) [c, c', c''] hb (by simp) rfl (by simp) (fun j y e h1 h2 => by
    match j with
    | 0 => injection h1 with h1; injection h2 with h2; subst h1 h2; exact hK
    | 1 => injection h1 with h1; injection h2 with h2; subst h1 h2; exact hK'
    | 2 => injection h1 with h1; injection h2 with h2; subst h1 h2; exact hK''
    | j + 3 => cases h1)
theorem cel3 {w : World} {g : Nat} {a b c : Value} (h0 : w.cell? ⟨g, 0, none⟩ = some a) (h1 : w.cell? ⟨g, 1, none⟩ = some b) (h2 : w.cell? ⟨g, 2, none⟩ = some c) : ∀ (j : Nat) (u : Value), [a, b, c][j]? = some u → w.cell? ⟨g, j, none⟩ = some u
  | 0, u, h => by injection h with h; rw [← h]; exact h0
  | 1, u, h => by injection h with h; rw [← h]; exact h1
  | 2, u, h => by injection h with h; rw [← h]; exact h2
  | j + 3, u, h => by cases h
theorem cel6 {w : World} {g : Nat} {a b c d e f : Value} (h0 : w.cell? ⟨g, 0, none⟩ = some a) (h1 : w.cell? ⟨g, 1, none⟩ = some b) (h2 : w.cell? ⟨g, 2, none⟩ = some c) (h3 : w.cell? ⟨g, 3, none⟩ = some d) (h4 : w.cell? ⟨g, 4, none⟩ = some e) (h5 : w.cell? ⟨g, 5, none⟩ = some f) : ∀ (j : Nat) (u : Value), ([a, b, c] ++ [d, e, f])[j]? = some u → w.cell? ⟨g, j, none⟩ = some u
  | 0, u, h => by injection h with h; rw [← h]; exact h0
  | 1, u, h => by injection h with h; rw [← h]; exact h1
  | 2, u, h => by injection h with h; rw [← h]; exact h2
  | 3, u, h => by injection h with h; rw [← h]; exact h3
  | 4, u, h => by injection h with h; rw [← h]; exact h4
  | 5, u, h => by injection h with h; rw [← h]; exact h5
  | j + 6, u, h => by cases h
theorem C_blk1 {α : Type} {d : Kd α} {w : World} {g : Nat} {t : TypeId} {x : α} (c : List Value) (hb : w.heap[g]? = some (.cells c.toArray t (0, 0))) (hK : d.K w x c) : d.C w (some ⟨g, 0, none⟩) 1 [x] :=
  C_blk (xs := [x]) [c] hb (by simp) rfl (by simp) (fun j y e h1 h2 => by
    cases j with
    | zero => injection h1 with h1; injection h2 with h2; subst h1 h2; exact hK
    | succ j => cases h1)
theorem C_blk2 {α : Type} {d : Kd α} {w : World} {g : Nat} {t : TypeId} {x x' : α} (c c' : List Value) (hb : w.heap[g]? = some (.cells (c ++ c').toArray t (0, 0))) (hK : d.K w x c) (hK' : d.K w x' c') : d.C w (some ⟨g, 0, none⟩) 2 [x, x'] :=
  C_blk (xs := [x, x']) [c, c'] hb (by simp) rfl (by simp) (fun j y e h1 h2 => by
    match j with
    | 0 => injection h1 with h1; injection h2 with h2; subst h1 h2; exact hK
    | 1 => injection h1 with h1; injection h2 with h2; subst h1 h2; exact hK'
    | j + 2 => cases h1)
theorem C_nil {α : Type} (d : Kd α) (w : World) : d.C w none 0 [] := ⟨rfl, by omega, fun h => absurd h (by omega)⟩
theorem bcell {W w1 : World} (hb : Below W.heap.size W w1) : (∀ b o, b < W.heap.size → w1.cell? ⟨b, o, none⟩ = W.cell? ⟨b, o, none⟩) ∧ (∀ b o, b < W.heap.size → w1.frozen? ⟨b, o, none⟩ = W.frozen? ⟨b, o, none⟩) :=
  ⟨fun b o h => hb.cell (p := ⟨b, o, none⟩) h, fun b o h => hb.frozen (p := ⟨b, o, none⟩) h⟩
theorem blk_new1 (w : World) (o o' : Obj) : ((w.alloc o).alloc o').heap[w.heap.size + 1]? = some o' := by
  have h := blk_new (w.alloc o) o'
  have e : (w.alloc o).heap.size = w.heap.size + 1 := Array.size_push _
  rw [e] at h
  exact h
theorem cell_alloc_lt (w : World) (o : Obj) (b j : Nat) (h : b < w.heap.size) : (w.alloc o).cell? ⟨b, j, none⟩ = w.cell? ⟨b, j, none⟩ :=
  ((below_alloc (Below.refl w.heap.size w) o).cell (p := ⟨b, j, none⟩) h)
theorem cell_alloc_at (w : World) (cs : Array Value) (t : TypeId) (j : Nat) : (w.alloc (.cells cs t (0, 0))).cell? ⟨w.heap.size, j, none⟩ = cs[j]? := blk_cell (blk_new w _) j
theorem cell_alloc_at1 (w : World) (o : Obj) (cs : Array Value) (t : TypeId) (j : Nat) : ((w.alloc o).alloc (.cells cs t (0, 0))).cell? ⟨w.heap.size + 1, j, none⟩ = cs[j]? := blk_cell (blk_new1 w o _) j
theorem cell_set_far (w : World) (g i b j : Nat) (v : Value) (h : b ≠ g) : (w.setCell ⟨g, i, none⟩ v).cell? ⟨b, j, none⟩ = w.cell? ⟨b, j, none⟩ :=
  World.cell?_of_block (Below.heap_setCell w ⟨g, i, none⟩ v b h)
theorem cell_drew0 (w : World) (p : Addr) : w.drew.cell? p = w.cell? p := rfl
theorem cell_set3 {w : World} {g : Nat} {u0 u1 u2 : Value} (v0 v1 v2 : Value) (h0 : w.cell? ⟨g, 0, none⟩ = some u0) (h1 : w.cell? ⟨g, 1, none⟩ = some u1) (h2 : w.cell? ⟨g, 2, none⟩ = some u2) :
    (((w.setCell ⟨g, 0, none⟩ v0).setCell ⟨g, 1, none⟩ v1).setCell ⟨g, 2, none⟩ v2).cell? ⟨g, 0, none⟩ = some v0 ∧ (((w.setCell ⟨g, 0, none⟩ v0).setCell ⟨g, 1, none⟩ v1).setCell ⟨g, 2, none⟩ v2).cell? ⟨g, 1, none⟩ = some v1 ∧ (((w.setCell ⟨g, 0, none⟩ v0).setCell ⟨g, 1, none⟩ v1).setCell ⟨g, 2, none⟩ v2).cell? ⟨g, 2, none⟩ = some v2 := by
  have n01 : (⟨g, 0, none⟩ : Addr) ≠ ⟨g, 1, none⟩ := by simp
  have n02 : (⟨g, 0, none⟩ : Addr) ≠ ⟨g, 2, none⟩ := by simp
  have n12 : (⟨g, 1, none⟩ : Addr) ≠ ⟨g, 2, none⟩ := by simp
  refine ⟨?_, ?_, ?_⟩
  · rw [World.cell?_setCell_other (h := n02.symm), World.cell?_setCell_other (h := n01.symm)]
    exact World.cell?_setCell_same _ _ _ h0
  · rw [World.cell?_setCell_other (h := n12.symm)]
    exact World.cell?_setCell_same _ _ _ ((World.cell?_setCell_other _ _ _ _ n01).trans h1)
  · exact World.cell?_setCell_same _ _ _ ((World.cell?_setCell_other _ _ _ _ n12).trans ((World.cell?_setCell_other _ _ _ _ n02).trans h2))
theorem sorts_ex (k : Nat) (A0 : Option Addr) (n0 c0 : Nat) (l0 : List S59) (A1 : Option Addr) (n1 c1 : Nat) (l1 : List S48) (r1 : List S41) (r2 : Int) (w : World) (hn0 : l0.length = n0) (hn1 : l1.length = n1) (hr0 : Kd.C k59 w A0 n0 l0) (hc0 : n0 ≤ c0) (hr1 : Kd.C k48 w A1 n1 l1) (hc1 : n1 ≤ c1) (h : infer_Sorts.f k l0 l1 = some (r1, r2)) :
    Calls Try.prog 13 #[.slice A0 n0 c0, .slice A1 n1 c1] w fun e w' => ∃ (A : Option Addr) (c : Nat), e = .returned (.tuple #[.slice A r1.length c, .int .i64 r2]) ∧ k41.C w' A r1.length r1 ∧ Below w.heap.size w w' := by
  subst hn0 hn1
  refine (infer_Sorts.calls k A0 c0 l0 A1 c1 l1 r1 r2 w hr0 hc0 hr1 hc1 h).mono ?_
  rintro e w' ⟨v, rfl, hR, hb⟩
  obtain ⟨A, c, rfl⟩ := Kd.R_slice hR
  exact ⟨A, c, rfl, (Kd.R_reads' hR).2.2, hb⟩
theorem k41_at {w : World} {A : Option Addr} {n : Nat} {xs : List S41} (h : k41.C w A n xs) {i : Nat} {x : S41} (hx : xs[i]? = some x) : ∃ (ad : Addr) (A' : Option Addr) (c' : Nat), A = some ad ∧ w.cell? (ad.add i) = some (.slice A' x.f0.length c') ∧ k41.C w A' x.f0.length x.f0 := by
  have hl := (List.getElem?_eq_some_iff.1 hx).1
  obtain ⟨ad, c, e, hc, hk, hcc⟩ := Kd.C_get h ⟨[]⟩ (i : Int) (by omega) (by have := h.1; omega)
  rw [Int.toNat_natCast, List.getD_eq_getElem?_getD, hx] at hk
  obtain ⟨A', c', rfl, _, hC⟩ := k41_open hk
  refine ⟨ad, A', c', e, ?_, hC⟩
  have := hcc 0 _ rfl
  rw [Int.toNat_natCast] at this
  exact (congrArg w.cell? (congrArg ad.add (show i = i * (k41).sz + 0 from by show i = i * 1 + 0; omega))).trans this
theorem cell_up {w w1 : World} {p : Addr} {v : Value} (hb : Below w.heap.size w w1) (h : w.cell? p = some v) : w1.cell? p = some v := (hb.cell (World.block_lt_of_cell? w p h)).trans h
set_option maxHeartbeats 8000000 in
theorem alive_calls (w : World) : Calls Try.prog 9 #[] w fun e w' => e = .returned (.bool true) ∧ Below w.heap.size w w' := by
  have hu44 := Try.underlying44
  have hu48 := Try.underlying48
  have hu59 := Try.underlying59
  have hu41 := Try.underlying41
  go_enter Try.func9, Try.ntmps9
  go_upto_region 2 with (fail)
  have Hsy := Aside0.mk (blk_new w (.cells #[.string ⟨#[97]⟩, .int .i64 2, .string ⟨#[98]⟩, .int .i64 1, .string ⟨#[99]⟩, .int .i64 0] 59 (0, 0)))
  have HB1 := Aside0.mk (below_alloc (Below.refl w.heap.size w) (.cells #[.string ⟨#[97]⟩, .int .i64 2, .string ⟨#[98]⟩, .int .i64 1, .string ⟨#[99]⟩, .int .i64 0] 59 (0, 0)))
  generalize hgs : w.heap.size = gs at *
  generalize (w.alloc (.cells #[.string ⟨#[97]⟩, .int .i64 2, .string ⟨#[98]⟩, .int .i64 1, .string ⟨#[99]⟩, .int .i64 0] 59 (0, 0))) = w1 at *
  have Hgs := Aside0.mk hgs
  clear hgs
  go_wp2_with fail
  (with_reducible refine (term_ex 0 0 none 0 0 w1).mono ?_)
  rintro e w2 ⟨rfl, hb2⟩
  have HB2 := Aside0.mk hb2
  clear hb2
  go_upto_region 3 with (
    (with_reducible refine gate_dst (N := 2) rfl ?_)
    refine box_event ?hg (N := 2) ?hd (cs := #[.int .i64 0, .int .i64 0, .slice none 0 0]) (t := 44) ?hr ?_
    (case hd => rfl)
    (case hg => rfl)
    (case hr => first | (go_simp; done) | (go_simp; rfl))
    intro gx hgx w3 hbox hb3
    have hg := Nat.le_of_eq hgx.symm
    have HB3 := Aside0.mk (below_step HB2.out (below_set (g := gx) (j := 2) (v := .slice none 0 0) (below_set (g := gx) (j := 1) (v := .int .i64 0) (below_set (g := gx) (j := 0) (v := .int .i64 0) hb3 hg) hg) hg))
    have Hgx := Aside0.mk (blk_put (cs' := #[.int .i64 0, .int .i64 0, .slice none 0 0]) (blk_put (cs' := #[.int .i64 0, .int .i64 0, .slice none 0 0]) (blk_put (cs' := #[.int .i64 0, .int .i64 0, .slice none 0 0]) hbox 0 (.int .i64 0) rfl) 1 (.int .i64 0) rfl) 2 (.slice none 0 0) rfl)
    have hcz0 := (blk_cell hbox 0).trans rfl
    have hcz1 := (blk_cell hbox 1).trans rfl
    have hcz2 := (blk_cell hbox 2).trans rfl
    have hfz0 := blk_frozen hbox 0
    have hfz1 := blk_frozen hbox 1
    have hfz2 := blk_frozen hbox 2
    clear hbox hb3 hgx hg)
  clear hcz0 hcz1 hcz2 hfz0 hfz1 hfz2
  generalize ((w3.setCell { block := gx, off := 0 } (.int .i64 0)).setCell { block := gx, off := 1 } (.int .i64 0)).setCell { block := gx, off := 2 } (.slice none 0 0) = w4 at *
  have c0 : w4.cell? ⟨gx, 0, none⟩ = some (.int .i64 0) := (blk_cell Hgx.out 0).trans rfl
  have c1 : w4.cell? ⟨gx, 1, none⟩ = some (.int .i64 0) := (blk_cell Hgx.out 1).trans rfl
  have c2 : w4.cell? ⟨gx, 2, none⟩ = some (.slice none 0 0) := (blk_cell Hgx.out 2).trans rfl
  have HB4 := Aside0.mk HB3.out
  clear HB3 HB2
  go_cut [3] (fun v3 wc => ∃ (gb gA gB gC : Nat), v3 = .pointer (some ⟨gb, 0, none⟩) ∧ Aside0 (wc.cell? ⟨gb, 0, none⟩ = some (.int .i64 2)) ∧ Aside0 (wc.cell? ⟨gb, 1, none⟩ = some (.int .i64 0)) ∧ Aside0 (wc.cell? ⟨gb, 2, none⟩ = some (.slice (some ⟨gC, 0, none⟩) 2 2)) ∧ Aside0 (wc.cell? ⟨gA, 0, none⟩ = some (.int .i64 0)) ∧ Aside0 (wc.cell? ⟨gA, 1, none⟩ = some (.int .i64 0)) ∧ Aside0 (wc.cell? ⟨gA, 2, none⟩ = some (.slice none 0 0)) ∧ Aside0 (wc.cell? ⟨gB, 0, none⟩ = some (.int .i64 2)) ∧ Aside0 (wc.cell? ⟨gB, 1, none⟩ = some (.int .i64 1)) ∧ Aside0 (wc.cell? ⟨gB, 2, none⟩ = some (.slice (some ⟨gA, 0, none⟩) 1 1)) ∧ Aside0 (wc.cell? ⟨gC, 0, none⟩ = some (.int .i64 0)) ∧ Aside0 (wc.cell? ⟨gC, 1, none⟩ = some (.int .i64 0)) ∧ Aside0 (wc.cell? ⟨gC, 2, none⟩ = some (.slice none 0 0)) ∧ Aside0 (wc.cell? ⟨gC, 3, none⟩ = some (.int .i64 1)) ∧ Aside0 (wc.cell? ⟨gC, 4, none⟩ = some (.int .i64 1)) ∧ Aside0 (wc.cell? ⟨gC, 5, none⟩ = some (.slice (some ⟨gB, 0, none⟩) 1 1)) ∧ Aside0 (Below w4.heap.size w4 wc))
  case first =>
    have Hgxl := Aside0.mk (blk_lt Hgx.out)
    have m40 : w4.heap.size ≠ gx := by have := Hgxl.out; omega
    have m41 : w4.heap.size + 1 ≠ gx := by have := Hgxl.out; omega
    go_region_held3 (fun w' => w'.cell? ⟨gx, 0, none⟩ = some (.int .i64 0) ∧ w'.cell? ⟨gx, 1, none⟩ = some (.int .i64 0) ∧ w'.cell? ⟨gx, 2, none⟩ = some (.slice none 0 0)) (go_keep)
      (first
        | (go_at_call 27; (with_reducible refine (term_ex 2 1 _ _ _ _).mono ?_); rintro e wA ⟨rfl, hbA⟩; have a0 : wA.cell? ⟨gx, 0, none⟩ = some (.int .i64 0) := cell_up hbA (by go_keep); have a1 : wA.cell? ⟨gx, 1, none⟩ = some (.int .i64 0) := cell_up hbA (by go_keep); have a2 : wA.cell? ⟨gx, 2, none⟩ = some (.slice none 0 0) := cell_up hbA (by go_keep); have HbA := Aside0.mk (show Below w4.heap.size w4 wA from below_step (by repeat (first | (with_reducible first | exact Below.refl _ _ | apply below_alloc | apply pw_below_drewN | apply below_drew1) | exact Below.refl _ _)) hbA); have yA := hbA.size; simp at yA; have tA4 : w4.heap.size < wA.heap.size := (by omega); (try have uA4 : w4.heap.size + 1 < wA.heap.size := (by omega)); obtain ⟨zcA, zfA⟩ := bcell hbA; have mA0 : wA.heap.size ≠ gx := (by have := Hgxl.out; have := HbA.out.size; omega); have mA1 : wA.heap.size + 1 ≠ gx := (by have := Hgxl.out; have := HbA.out.size; omega); clear hbA)
        | (go_at_call 27; (with_reducible refine (term_ex 1 1 _ _ _ _).mono ?_); rintro e wB ⟨rfl, hbB⟩; have b0 : wB.cell? ⟨gx, 0, none⟩ = some (.int .i64 0) := cell_up hbB (by go_keep); have b1 : wB.cell? ⟨gx, 1, none⟩ = some (.int .i64 0) := cell_up hbB (by go_keep); have b2 : wB.cell? ⟨gx, 2, none⟩ = some (.slice none 0 0) := cell_up hbB (by go_keep); have HbB := Aside0.mk (show Below w4.heap.size w4 wB from below_step (by repeat (first | (with_reducible first | exact Below.refl _ _ | exact HbA.out | apply below_alloc | apply pw_below_drewN | apply below_drew1) | exact Below.refl _ _ | exact HbA.out)) hbB); have yB := hbB.size; simp at yB; have tB4 : w4.heap.size < wB.heap.size := (by omega); (try have uB4 : w4.heap.size + 1 < wB.heap.size := (by omega)); have tBA : wA.heap.size < wB.heap.size := (by omega); (try have uBA : wA.heap.size + 1 < wB.heap.size := (by omega)); obtain ⟨zcB, zfB⟩ := bcell hbB; have mB0 : wB.heap.size ≠ gx := (by have := Hgxl.out; have := HbB.out.size; omega); have mB1 : wB.heap.size + 1 ≠ gx := (by have := Hgxl.out; have := HbB.out.size; omega); clear hbB)
        | (go_at_call 27; (with_reducible refine (term_ex 2 0 _ _ _ _).mono ?_); rintro e wC ⟨rfl, hbC⟩; have c0 : wC.cell? ⟨gx, 0, none⟩ = some (.int .i64 0) := cell_up hbC (by go_keep); have c1 : wC.cell? ⟨gx, 1, none⟩ = some (.int .i64 0) := cell_up hbC (by go_keep); have c2 : wC.cell? ⟨gx, 2, none⟩ = some (.slice none 0 0) := cell_up hbC (by go_keep); have HbC := Aside0.mk (show Below w4.heap.size w4 wC from below_step (by repeat (first | (with_reducible first | exact Below.refl _ _ | exact HbA.out | exact HbB.out | apply below_alloc | apply pw_below_drewN | apply below_drew1) | exact Below.refl _ _ | exact HbA.out | exact HbB.out)) hbC); have yC := hbC.size; simp at yC; have tC4 : w4.heap.size < wC.heap.size := (by omega); (try have uC4 : w4.heap.size + 1 < wC.heap.size := (by omega)); have tCA : wA.heap.size < wC.heap.size := (by omega); (try have uCA : wA.heap.size + 1 < wC.heap.size := (by omega)); have tCB : wB.heap.size < wC.heap.size := (by omega); (try have uCB : wB.heap.size + 1 < wC.heap.size := (by omega)); obtain ⟨zcC, zfC⟩ := bcell hbC; have mC0 : wC.heap.size ≠ gx := (by have := Hgxl.out; have := HbC.out.size; omega); have mC1 : wC.heap.size + 1 ≠ gx := (by have := Hgxl.out; have := HbC.out.size; omega); clear hbC))
    all_goals go_wp2_with fail
    all_goals go_meet
    all_goals first
      | (refine ⟨_, w4.heap.size, wA.heap.size, wB.heap.size, rfl, ?_, ?_, ?_, ?_, ?_, ?_, ?_, ?_, ?_, ?_, ?_, ?_, ?_, ?_, ?_, ⟨(by repeat (first | (with_reducible first | exact HbC.out | apply below_alloc | apply pw_below_drewN | apply below_drew1 | refine below_set ?_ (by have := HbC.out.size; have := HbA.out.size; have := HbB.out.size; omega)) | exact HbC.out))⟩⟩ <;> (refine ⟨?_⟩; first | (go_simp; done) | (simp (disch := first | omega | (simp; omega)) only [zcC, zcB, zcA, cell_alloc_lt, cell_alloc_at, cell_alloc_at1, cell_set_far, cell_drew0]; first | done | rfl | (go_simp; done))))
      | (have G0 : wC.cell? ⟨wB.heap.size, 0, none⟩ = some (.int .i64 0) := (by simp (disch := first | omega | (simp; omega)) only [zcC, zcB, zcA, cell_alloc_lt, cell_alloc_at, cell_alloc_at1, cell_set_far, cell_drew0]; first | done | rfl | (go_simp; done)); have G1 : wC.cell? ⟨wB.heap.size, 1, none⟩ = some (.int .i64 0) := (by simp (disch := first | omega | (simp; omega)) only [zcC, zcB, zcA, cell_alloc_lt, cell_alloc_at, cell_alloc_at1, cell_set_far, cell_drew0]; first | done | rfl | (go_simp; done)); have G2 : wC.cell? ⟨wB.heap.size, 2, none⟩ = some (.slice none 0 0) := (by simp (disch := first | omega | (simp; omega)) only [zcC, zcB, zcA, cell_alloc_lt, cell_alloc_at, cell_alloc_at1, cell_set_far, cell_drew0]; first | done | rfl | (go_simp; done)); refine ⟨wB.heap.size, w4.heap.size, wA.heap.size, wB.heap.size + 1, rfl, ⟨(cell_set3 (.int .i64 2) (.int .i64 0) (.slice (some ⟨wB.heap.size + 1, 0, none⟩) 2 2) G0 G1 G2).1⟩, ⟨(cell_set3 (.int .i64 2) (.int .i64 0) (.slice (some ⟨wB.heap.size + 1, 0, none⟩) 2 2) G0 G1 G2).2.1⟩, ⟨(cell_set3 (.int .i64 2) (.int .i64 0) (.slice (some ⟨wB.heap.size + 1, 0, none⟩) 2 2) G0 G1 G2).2.2⟩, ?_, ?_, ?_, ?_, ?_, ?_, ?_, ?_, ?_, ?_, ?_, ?_, ⟨(by repeat (first | (with_reducible first | exact HbC.out | apply below_alloc | apply pw_below_drewN | apply below_drew1 | refine below_set ?_ (by have := HbC.out.size; have := HbA.out.size; have := HbB.out.size; omega)) | exact HbC.out))⟩⟩ <;> (refine ⟨?_⟩; first | (go_simp; done) | (simp (disch := first | omega | (simp; omega)) only [zcC, zcB, zcA, cell_alloc_lt, cell_alloc_at, cell_alloc_at1, cell_set_far, cell_drew0]; first | done | rfl | (go_simp; done))))
      | (have G0 : wC.cell? ⟨wA.heap.size, 0, none⟩ = some (.int .i64 0) := (by simp (disch := first | omega | (simp; omega)) only [zcC, zcB, zcA, cell_alloc_lt, cell_alloc_at, cell_alloc_at1, cell_set_far, cell_drew0]; first | done | rfl | (go_simp; done)); have G1 : wC.cell? ⟨wA.heap.size, 1, none⟩ = some (.int .i64 0) := (by simp (disch := first | omega | (simp; omega)) only [zcC, zcB, zcA, cell_alloc_lt, cell_alloc_at, cell_alloc_at1, cell_set_far, cell_drew0]; first | done | rfl | (go_simp; done)); have G2 : wC.cell? ⟨wA.heap.size, 2, none⟩ = some (.slice none 0 0) := (by simp (disch := first | omega | (simp; omega)) only [zcC, zcB, zcA, cell_alloc_lt, cell_alloc_at, cell_alloc_at1, cell_set_far, cell_drew0]; first | done | rfl | (go_simp; done)); refine ⟨wA.heap.size, w4.heap.size, wA.heap.size + 1, wB.heap.size, rfl, ⟨(cell_set3 (.int .i64 2) (.int .i64 0) (.slice (some ⟨wB.heap.size, 0, none⟩) 2 2) G0 G1 G2).1⟩, ⟨(cell_set3 (.int .i64 2) (.int .i64 0) (.slice (some ⟨wB.heap.size, 0, none⟩) 2 2) G0 G1 G2).2.1⟩, ⟨(cell_set3 (.int .i64 2) (.int .i64 0) (.slice (some ⟨wB.heap.size, 0, none⟩) 2 2) G0 G1 G2).2.2⟩, ?_, ?_, ?_, ?_, ?_, ?_, ?_, ?_, ?_, ?_, ?_, ?_, ⟨(by repeat (first | (with_reducible first | exact HbC.out | apply below_alloc | apply pw_below_drewN | apply below_drew1 | refine below_set ?_ (by have := HbC.out.size; have := HbA.out.size; have := HbB.out.size; omega)) | exact HbC.out))⟩⟩ <;> (refine ⟨?_⟩; first | (go_simp; done) | (simp (disch := first | omega | (simp; omega)) only [zcC, zcB, zcA, cell_alloc_lt, cell_alloc_at, cell_alloc_at1, cell_set_far, cell_drew0]; first | done | rfl | (go_simp; done))))
      | (have G0 : wC.cell? ⟨w4.heap.size, 0, none⟩ = some (.int .i64 0) := (by simp (disch := first | omega | (simp; omega)) only [zcC, zcB, zcA, cell_alloc_lt, cell_alloc_at, cell_alloc_at1, cell_set_far, cell_drew0]; first | done | rfl | (go_simp; done)); have G1 : wC.cell? ⟨w4.heap.size, 1, none⟩ = some (.int .i64 0) := (by simp (disch := first | omega | (simp; omega)) only [zcC, zcB, zcA, cell_alloc_lt, cell_alloc_at, cell_alloc_at1, cell_set_far, cell_drew0]; first | done | rfl | (go_simp; done)); have G2 : wC.cell? ⟨w4.heap.size, 2, none⟩ = some (.slice none 0 0) := (by simp (disch := first | omega | (simp; omega)) only [zcC, zcB, zcA, cell_alloc_lt, cell_alloc_at, cell_alloc_at1, cell_set_far, cell_drew0]; first | done | rfl | (go_simp; done)); refine ⟨w4.heap.size, w4.heap.size + 1, wA.heap.size, wB.heap.size, rfl, ⟨(cell_set3 (.int .i64 2) (.int .i64 0) (.slice (some ⟨wB.heap.size, 0, none⟩) 2 2) G0 G1 G2).1⟩, ⟨(cell_set3 (.int .i64 2) (.int .i64 0) (.slice (some ⟨wB.heap.size, 0, none⟩) 2 2) G0 G1 G2).2.1⟩, ⟨(cell_set3 (.int .i64 2) (.int .i64 0) (.slice (some ⟨wB.heap.size, 0, none⟩) 2 2) G0 G1 G2).2.2⟩, ?_, ?_, ?_, ?_, ?_, ?_, ?_, ?_, ?_, ?_, ?_, ?_, ⟨(by repeat (first | (with_reducible first | exact HbC.out | apply below_alloc | apply pw_below_drewN | apply below_drew1 | refine below_set ?_ (by have := HbC.out.size; have := HbA.out.size; have := HbB.out.size; omega)) | exact HbC.out))⟩⟩ <;> (refine ⟨?_⟩; first | (go_simp; done) | (simp (disch := first | omega | (simp; omega)) only [zcC, zcB, zcA, cell_alloc_lt, cell_alloc_at, cell_alloc_at1, cell_set_far, cell_drew0]; first | done | rfl | (go_simp; done))))
  case rest =>
    obtain ⟨gb, gA, gB, gC, rfl, B0, B1, B2, A0, A1, A2, D0, D1, D2, E0, E1, E2, E3, E4, E5, HBc⟩ := hcut
    have K0 := C_cel1 (d := k44) (x := x0) _ (cel3 A0.out A1.out A2.out) (k44_mk _ x0 (Nat.zero_le _) (C_nil k44 _))
    have K1 := C_cel1 (d := k44) (x := x1) _ (cel3 D0.out D1.out D2.out) (k44_mk _ x1 (Nat.le_refl _) K0)
    have K2 := C_cel2 (d := k44) (x := x0) (x' := x2) _ _ (cel6 E0.out E1.out E2.out E3.out E4.out E5.out) (k44_mk _ x0 (Nat.zero_le _) (C_nil k44 _)) (k44_mk _ x2 (Nat.le_refl _) K1)
    have HK2 := Aside0.mk K2
    have Hgxc := Aside0.mk (blk_below Hgx.out HBc.out)
    have HB5 := Aside0.mk (below_step HB4.out HBc.out)
    have Hsyc := Aside0.mk (C_blk3 (d := k59) (x := ⟨⟨#[97]⟩, 2⟩) (x' := ⟨⟨#[98]⟩, 1⟩) (x'' := ⟨⟨#[99]⟩, 0⟩) [.string ⟨#[97]⟩, .int .i64 2] [.string ⟨#[98]⟩, .int .i64 1] [.string ⟨#[99]⟩, .int .i64 0] Hsy.out (k59_mk _ _) (k59_mk _ _) (k59_mk _ _))
    have b0 := B0.out
    have b1 := B1.out
    have b2 := B2.out
    clear K0 K1 K2 c0 c1 c2 B0 B1 B2 A0 A1 A2 D0 D1 D2 E0 E1 E2 E3 E4 E5 Hgx HB4 HBc
    go_upto_region 4 with (fail)
    go_region_held3 (fun w' => w'.cell? ⟨gb, 0, none⟩ = some (.int .i64 2) ∧ w'.cell? ⟨gb, 1, none⟩ = some (.int .i64 0) ∧ w'.cell? ⟨gb, 2, none⟩ = some (.slice (some ⟨gC, 0, none⟩) 2 2)) (go_keep)
      (first
        | (go_at_call 27; (with_reducible refine (term_ex 2 2 _ _ _ _).mono ?_); rintro e wF ⟨rfl, hbF⟩; have f0 := cell_up hbF b0; have f1 := cell_up hbF b1; have f2 := cell_up hbF b2; have HbF := Aside0.mk (show Below wc.heap.size wc wF from below_step (below_drew (Below.refl _ _)) hbF); clear hbF)
        | (go_at_call 27; (with_reducible refine (term_ex 1 1 _ _ _ _).mono ?_); rintro e wG ⟨rfl, hbG⟩; have g0 := cell_up hbG ((cell_alloc_lt _ _ _ _ (World.block_lt_of_cell? _ _ f0)).trans f0); have g1 := cell_up hbG ((cell_alloc_lt _ _ _ _ (World.block_lt_of_cell? _ _ f1)).trans f1); have g2 := cell_up hbG ((cell_alloc_lt _ _ _ _ (World.block_lt_of_cell? _ _ f2)).trans f2); have HCG := Aside0.mk (Kd.C_below (C_blk1 (d := k44) (x := xc) [.int .i64 2, .int .i64 2, .slice none 0 0] (blk_new wF _) (k44_mk _ xc (Nat.zero_le _) (C_nil k44 _))) hbG); have HbG := Aside0.mk (show Below wc.heap.size wc wG from below_step (below_alloc HbF.out _) hbG); clear hbG)
        | (go_at_call 13; (with_reducible refine (sorts_ex 40 _ 3 3 exSyms _ 2 2 ex1 _ 0 _ rfl rfl (Kd.C_below Hsyc.out (below_alloc (below_step HB5.out HbG.out) _)) (by omega) (C_blk2 (d := k48) (x := ⟨⟨#[115]⟩, 0, ⟨1, 1, [xc]⟩⟩) (x' := ⟨⟨#[102]⟩, 1, x3⟩) [.string ⟨#[115]⟩, .int .i64 0, .int .i64 1, .int .i64 1, .slice (some ⟨wF.heap.size, 0, none⟩) 1 1] [.string ⟨#[102]⟩, .int .i64 1, .int .i64 2, .int .i64 0, .slice (some ⟨gC, 0, none⟩) 2 2] (blk_new wG _) (k48_mk _ _ (Nat.le_refl _) (Kd.C_below HCG.out (below_alloc (Below.refl _ _) _))) (k48_mk _ _ (Nat.le_refl _) (Kd.C_below HK2.out (below_alloc HbG.out _)))) (by omega) ev1).mono ?_); rintro e wS ⟨A4, c4, rfl, hC4, hbS⟩; have s0 := cell_up hbS ((cell_alloc_lt _ _ _ _ (World.block_lt_of_cell? _ _ g0)).trans g0); have s1 := cell_up hbS ((cell_alloc_lt _ _ _ _ (World.block_lt_of_cell? _ _ g1)).trans g1); have s2 := cell_up hbS ((cell_alloc_lt _ _ _ _ (World.block_lt_of_cell? _ _ g2)).trans g2); have HbS := Aside0.mk (show Below wc.heap.size wc wS from below_step (below_alloc HbG.out _) hbS); have HC4 := Aside0.mk hC4; clear hbS hC4))
    clear f0 f1 f2 g0 g1 g2 s0 s1 s2 b0 b1 b2
    have HB6 := Aside0.mk (below_step HB5.out HbS.out)
    have Hgxs := Aside0.mk (blk_below Hgxc.out HbS.out)
    clear HB5 HbS HbF HbG HCG HK2 Hgxc
    go_upto_region 5 with (fail)
    go_cut [6, 7] (fun v6 v7 wd => ∃ (A6 : Option Addr) (c6 : Nat), v6 = .slice A6 0 c6 ∧ v7 = .int .i64 6 ∧ Aside0 (Below wS.heap.size wS wd))
    case first =>
      have b0 : wS.cell? ⟨gx, 0, none⟩ = some (.int .i64 0) := (blk_cell Hgxs.out 0).trans rfl
      have b1 : wS.cell? ⟨gx, 1, none⟩ = some (.int .i64 0) := (blk_cell Hgxs.out 1).trans rfl
      have b2 : wS.cell? ⟨gx, 2, none⟩ = some (.slice none 0 0) := (blk_cell Hgxs.out 2).trans rfl
      go_region_held3 (fun w' => w'.cell? ⟨gx, 0, none⟩ = some (.int .i64 0) ∧ w'.cell? ⟨gx, 1, none⟩ = some (.int .i64 0) ∧ w'.cell? ⟨gx, 2, none⟩ = some (.slice none 0 0)) (go_keep)
        (first
          | (go_at_call 27; (with_reducible refine (term_ex 2 2 _ _ _ _).mono ?_); rintro e wF ⟨rfl, hbF⟩; have f0 := cell_up hbF (by first | exact b0 | exact ((cell_alloc_lt _ _ _ _ (World.block_lt_of_cell? _ _ b0)).trans b0)); have f1 := cell_up hbF (by first | exact b1 | exact ((cell_alloc_lt _ _ _ _ (World.block_lt_of_cell? _ _ b1)).trans b1)); have f2 := cell_up hbF (by first | exact b2 | exact ((cell_alloc_lt _ _ _ _ (World.block_lt_of_cell? _ _ b2)).trans b2)); have HF := Aside0.mk (show Below wS.heap.size wS wF from below_step (by repeat (first | (with_reducible first | exact Below.refl _ _ | apply below_alloc | apply pw_below_drewN | apply below_drew1) | exact Below.refl _ _)) hbF); have HbF := Aside0.mk hbF; clear hbF)
          | (go_at_call 27; (with_reducible refine (term_ex 0 0 _ _ _ _).mono ?_); rintro e wG ⟨rfl, hbG⟩; have g0 := cell_up hbG (by first | exact f0 | exact ((cell_alloc_lt _ _ _ _ (World.block_lt_of_cell? _ _ f0)).trans f0)); have g1 := cell_up hbG (by first | exact f1 | exact ((cell_alloc_lt _ _ _ _ (World.block_lt_of_cell? _ _ f1)).trans f1)); have g2 := cell_up hbG (by first | exact f2 | exact ((cell_alloc_lt _ _ _ _ (World.block_lt_of_cell? _ _ f2)).trans f2)); have HG := Aside0.mk (show Below wS.heap.size wS wG from below_step (by repeat (first | (with_reducible first | exact Below.refl _ _ | exact HF.out | apply below_alloc | apply pw_below_drewN | apply below_drew1) | exact Below.refl _ _)) hbG); (first | have HCG := Aside0.mk (Kd.C_below (C_blk1 (d := k44) (x := x0) [.int .i64 0, .int .i64 0, .slice none 0 0] (blk_new wF _) (k44_mk _ x0 (Nat.zero_le _) (C_nil k44 _))) hbG) | have HCG := Aside0.mk (Kd.C_below (Kd.C_below (C_blk1 (d := k44) (x := x0) [.int .i64 0, .int .i64 0, .slice none 0 0] (blk_drew (blk_new wS _)) (k44_mk _ x0 (Nat.zero_le _) (C_nil k44 _))) HbF.out) hbG) | have HCG := Aside0.mk (Kd.C_below (Kd.C_below (C_blk1 (d := k44) (x := x0) [.int .i64 0, .int .i64 0, .slice none 0 0] (blk_new wS.drew _) (k44_mk _ x0 (Nat.zero_le _) (C_nil k44 _))) HbF.out) hbG)); clear hbG)
          | (go_at_call 13; (with_reducible refine (sorts_ex 40 _ 3 3 exSyms _ 2 2 ex2 _ 6 _ rfl rfl (Kd.C_below Hsyc.out (below_alloc (below_step HB6.out HG.out) _)) (by omega) (C_blk2 (d := k48) (x := ⟨⟨#[115]⟩, 0, xc⟩) (x' := ⟨⟨#[102]⟩, 1, ⟨0, 0, [x0]⟩⟩) [.string ⟨#[115]⟩, .int .i64 0, .int .i64 2, .int .i64 2, .slice none 0 0] [.string ⟨#[102]⟩, .int .i64 1, .int .i64 0, .int .i64 0, .slice (some ⟨_, 0, none⟩) 1 1] (blk_new wG _) (k48_mk _ _ (Nat.zero_le _) (C_nil k44 _)) (k48_mk _ ⟨⟨#[102]⟩, 1, ⟨0, 0, [x0]⟩⟩ (Nat.le_refl _) (Kd.C_below HCG.out (below_alloc (Below.refl _ _) _)))) (by omega) ev2).mono ?_); rintro e wT ⟨A6, c6, rfl, hC6, hbT⟩; have t0 := cell_up hbT (by first | exact g0 | exact ((cell_alloc_lt _ _ _ _ (World.block_lt_of_cell? _ _ g0)).trans g0)); have t1 := cell_up hbT (by first | exact g1 | exact ((cell_alloc_lt _ _ _ _ (World.block_lt_of_cell? _ _ g1)).trans g1)); have t2 := cell_up hbT (by first | exact g2 | exact ((cell_alloc_lt _ _ _ _ (World.block_lt_of_cell? _ _ g2)).trans g2)); have HT := Aside0.mk (show Below wS.heap.size wS wT from below_step (below_alloc HG.out _) hbT); clear hbT hC6))
      all_goals go_wp2_with fail
      all_goals go_meet
      all_goals (case rel => exact ⟨A6, c6, rfl, rfl, HT⟩)
    case rest =>
      obtain ⟨A6, c6, rfl, rfl, HBd⟩ := hcut
      have HB7 := Aside0.mk (below_step HB6.out HBd.out)
      have Hgxd := Aside0.mk (blk_below Hgxs.out HBd.out)
      have HC4d := Aside0.mk (Kd.C_below HC4.out HBd.out)
      clear HB6 HBd Hgxs HC4
      generalize wc = wd at *
      go_upto_region 6 with (fail)
      have b0 : wd.cell? ⟨gx, 0, none⟩ = some (.int .i64 0) := (blk_cell Hgxd.out 0).trans rfl
      have b1 : wd.cell? ⟨gx, 1, none⟩ = some (.int .i64 0) := (blk_cell Hgxd.out 1).trans rfl
      have b2 : wd.cell? ⟨gx, 2, none⟩ = some (.slice none 0 0) := (blk_cell Hgxd.out 2).trans rfl
      go_region_held3 (fun w' => w'.cell? ⟨gx, 0, none⟩ = some (.int .i64 0) ∧ w'.cell? ⟨gx, 1, none⟩ = some (.int .i64 0) ∧ w'.cell? ⟨gx, 2, none⟩ = some (.slice none 0 0)) (go_keep)
        (first
          | (go_at_call 27; (with_reducible refine (term_ex 2 2 _ _ _ _).mono ?_); rintro e wF ⟨rfl, hbF⟩; have f0 := cell_up hbF (by first | exact b0 | exact ((cell_alloc_lt _ _ _ _ (World.block_lt_of_cell? _ _ b0)).trans b0)); have f1 := cell_up hbF (by first | exact b1 | exact ((cell_alloc_lt _ _ _ _ (World.block_lt_of_cell? _ _ b1)).trans b1)); have f2 := cell_up hbF (by first | exact b2 | exact ((cell_alloc_lt _ _ _ _ (World.block_lt_of_cell? _ _ b2)).trans b2)); have HF := Aside0.mk (show Below wd.heap.size wd wF from below_step (by repeat (first | (with_reducible first | exact Below.refl _ _ | apply below_alloc | apply pw_below_drewN | apply below_drew1) | exact Below.refl _ _)) hbF); clear hbF)
          | (go_at_call 13; (with_reducible refine (sorts_ex 40 _ 3 3 exSyms _ 2 2 ex3 _ 0 _ rfl rfl (Kd.C_below Hsyc.out (below_alloc (below_step HB7.out HF.out) _)) (by omega) (C_blk2 (d := k48) (x := ⟨⟨#[115]⟩, 0, xc⟩) (x' := ⟨⟨#[107]⟩, 2, x0⟩) [.string ⟨#[115]⟩, .int .i64 0, .int .i64 2, .int .i64 2, .slice none 0 0] [.string ⟨#[107]⟩, .int .i64 2, .int .i64 0, .int .i64 0, .slice none 0 0] (blk_new wF _) (k48_mk _ _ (Nat.zero_le _) (C_nil k44 _)) (k48_mk _ ⟨⟨#[107]⟩, 2, x0⟩ (Nat.zero_le _) (C_nil k44 _))) (by omega) ev3).mono ?_); rintro e wU ⟨A8, c8, rfl, hC8, hbU⟩; have q0 := cell_up hbU (by first | exact f0 | exact ((cell_alloc_lt _ _ _ _ (World.block_lt_of_cell? _ _ f0)).trans f0)); have q1 := cell_up hbU (by first | exact f1 | exact ((cell_alloc_lt _ _ _ _ (World.block_lt_of_cell? _ _ f1)).trans f1)); have q2 := cell_up hbU (by first | exact f2 | exact ((cell_alloc_lt _ _ _ _ (World.block_lt_of_cell? _ _ f2)).trans f2)); have HU := Aside0.mk (show Below wd.heap.size wd wU from below_step (below_alloc HF.out _) hbU); have HC8 := Aside0.mk hC8; clear hbU hC8))
      have HB8 := Aside0.mk (below_step HB7.out HU.out)
      have HC4u := Aside0.mk (Kd.C_below HC4d.out HU.out)
      clear b0 b1 b2 f0 f1 f2 q0 q1 q2 HB7 HC4d HU HF Hgxd
      obtain ⟨ad4, Aa, ca, e4, hz0, _⟩ := k41_at (i := 0) (x := ⟨[]⟩) HC4u.out rfl
      obtain ⟨ad4', Ab, cb, e4', hz1, hCb⟩ := k41_at (i := 1) (x := ⟨[⟨[]⟩]⟩) HC4u.out rfl
      rw [e4] at e4'
      injection e4' with e4'
      subst e4' e4
      obtain ⟨adb, Ac, cc, eb, hz2, _⟩ := k41_at (i := 0) (x := ⟨[]⟩) hCb rfl
      subst eb
      obtain ⟨ad8, Ad, cd, e8, hz3, _⟩ := k41_at (i := 1) (x := ⟨[⟨[]⟩, ⟨[]⟩]⟩) HC8.out rfl
      subst e8
      clear hCb HC8 HC4u
      simp only [List.length_cons, List.length_nil, Nat.zero_add, Nat.reduceAdd] at hz0 hz1 hz2 hz3
      have hfin := Aside0.mk (show Below w.heap.size w wU from by
        have h1 := HB1.out
        have h2 := HB8.out
        have e := Hgs.out
        rw [← e] at h1
        exact below_step h1 h2)
      have add0 : ∀ a : Addr, a.add 0 = a := fun a => by unfold Addr.add; split <;> simp_all
      rw [add0] at hz0 hz2
      clear add0
      simp only [Addr.add] at hz1 hz3
      simp at hz1 hz3
      go_wp2_with fail
      go_ret
      exact ⟨rfl, hfin.out⟩
end Go.Proofs.Ytfhgoebgnilfaaa.I
namespace Go.Proofs.Ytfhgoebgnilfaaa.I
open Go.RowKit Go.Proofs.YtfhgoebgnilfaaaW.PrintWords Go.Proofs.YtfhgoebgnilfaaaW.PrintLast Go.Proofs.YtfhgoebgnilfaaaW.PrintMore
attribute [local go_sem] max2_int min2_int max_two min_two max_three min_three max_four min_four   -- for this text's walks alone
set_option linter.unusedVariables false
set_option linter.unusedSimpArgs false
mutual
def virgationref01_Nodes.l0 : Nat → Int → Int → Int → List (S41) → Option (Int)
  | 0, _, _, _, _ => none
  | k + 1, x1, x5, x6, x165000 => if x6 < (x165000.length : Int) then (if x5 ≤ x1 then (if 0 ≤ x6 then ((virgationref01_Nodes.f k ((rd_T41 x165000 x6).f0) (wrap64 (x1 - x5))).bind fun t166 => (virgationref01_Nodes.l0 k x1 (wrap64 (x5 + t166)) (wrap64 (x6 + 1)) x165000)) else (none)) else (some x5)) else (some x5)
def virgationref01_Nodes.f : Nat → List (S41) → Int → Option (Int)
  | 0, _, _ => none
  | k + 1, l0_0, a1 => virgationref01_Nodes.l0 k a1 1 0 l0_0
end
set_option maxHeartbeats 8000000 in
set_option maxRecDepth 100000 in
theorem virgationref01_Nodes.calls (k : Nat) : ∀ (A0_0 : Option Addr) (c0_0 : Nat) (l0_0 : List (S41)) (a1 : Int) (r : Int) (w : World) (hr0_0 : Kd.C k41 w A0_0 l0_0.length l0_0) (hc0_0 : l0_0.length ≤ c0_0) (h : virgationref01_Nodes.f k l0_0 a1 = some r),
    Calls Try.prog 19 #[.agg #[.slice A0_0 l0_0.length c0_0], .int .i64 a1] w fun e w' => e = .returned (.int .i64 r) ∧ Below w.heap.size w w' := by
  induction k using Nat.strongRecOn with
  | _ k ih =>
  intro A0_0 c0_0 l0_0 a1 r w hr0_0 hc0_0 h
  cases k with
  | zero => exact absurd h (by simp [virgationref01_Nodes.f])
  | succ k =>
  simp only [virgationref01_Nodes.f] at h
  have hu41 := Try.underlying41
  have HR0_0 := Aside0.mk hr0_0
  have HC0_0 := Aside0.mk hc0_0
  clear hr0_0 hc0_0
  have HB := Aside0.mk (Below.refl w.heap.size w)
  have H : (virgationref01_Nodes.l0 k a1 1 0 l0_0) = some r := h
  clear h
  have H' := Aside0.mk H
  clear H
  go_enter Try.func19, Try.ntmps19
  go_wp2_with (first | ((with_reducible refine gate_dst (N := 2) rfl ?_); refine box_event ?hg (N := 2) ?hd (cs := #[.slice A0_0 l0_0.length c0_0]) (t := 41) ?hr ?_; (case hd => rfl); (case hg => rfl); (case hr => first | (go_simp; done) | (go_simp; rfl)); intro gb164 hg w3 hbox hb; have n0_ := Aside0.mk (below_step (by repeat (first | (with_reducible first | exact HB.out | apply below_alloc | apply pw_below_drewN | apply below_drew1) | exact HB.out)) hb); have n1_ := Aside0.mk (hbox); have n2_ := Aside0.mk ((by rw [hg]; exact (below_size (by repeat (first | (with_reducible first | exact HB.out | apply below_alloc | apply pw_below_drewN | apply below_drew1) | exact HB.out))) : w.heap.size ≤ gb164)); have n3_ := Aside0.mk ((by rw [hg]; exact (below_size (by repeat (first | (with_reducible first | exact HB.out | apply below_alloc | apply pw_below_drewN | apply below_drew1) | exact HB.out))) : w.heap.size ≤ gb164)); clear HB; have HB := n0_; have BK164 := n1_; have GW164 := n2_; have GE164 := n3_; clear n0_ n1_ n2_ n3_; clear hb hbox hg))
  go_loopg [5, 6] k (fun kq v5 v6 w' => ∃ (x5_1 : Int) (x6_1 : Int), v5 = .int .i64 x5_1 ∧ v6 = .int .i64 x6_1 ∧ Aside0 (virgationref01_Nodes.l0 kq a1 x5_1 x6_1 l0_0 = some r) ∧ Aside0 (kq ≤ k) ∧ Aside0 (w'.heap[gb164]? = some (.cells #[(.slice A0_0 l0_0.length c0_0)] 41 (0, 0))) ∧ Aside0 (Below w.heap.size w w'))
  case atStart => exact ⟨(1), (0), (by first | rfl | (simp; done) | (simp [*]; done)), (by first | rfl | (simp; done) | (simp [*]; done)), H', ⟨Nat.le_refl _⟩, ⟨by (with_reducible repeat (first | refine blk_drewN ?_ _ | refine blk_drew ?_ | refine blk_alloc ?_ _)); exact BK164.out⟩, ⟨by repeat (first | (with_reducible first | exact HB.out | apply below_alloc | apply pw_below_drewN | apply below_drew1 | refine below_set ?_ GE164.out) | exact HB.out)⟩⟩
  case round =>
    clear H'
    try clear c1
    try clear p2
    obtain ⟨x5_1, x6_1, rfl, rfl, HA, HK1, BK164, HB⟩ := hrel
    cases gk with
    | zero => exact absurd HA.out (by simp [virgationref01_Nodes.l0])
    | succ k1 =>
      have H := HA.out
      clear HA
      simp only [virgationref01_Nodes.l0] at H
      by_cases c4 : x6_1 < (l0_0.length : Int)
      · rw [if_pos c4] at H
        have c4b0 : decide (x6_1 < (l0_0.length : Int)) = true := decide_eq_true c4
        clear c4
        by_cases c5 : x5_1 ≤ a1
        · rw [if_pos c5] at H
          have c5b0 : decide (x5_1 ≤ a1) = true := decide_eq_true c5
          clear c5
          by_cases c6 : 0 ≤ x6_1
          · rw [if_pos c6] at H
            have c6b0 : decide (0 ≤ x6_1) = true := decide_eq_true c6
            clear c6
            replace H := Option.bind_eq_some_iff.mp H
            obtain ⟨t166, A70, H⟩ := H
            replace H : (virgationref01_Nodes.l0 k1 a1 (wrap64 (x5_1 + t166)) (wrap64 (x6_1 + 1)) l0_0) = some r := H
            have A7 := Aside0.mk A70
            clear A70
            have H' := Aside0.mk H
            clear H
            have hcz8_0 : wr.cell? ⟨gb164, 0, none⟩ = some (.slice A0_0 l0_0.length c0_0) := (blk_cell BK164.out 0).trans rfl
            have hfz8_0 := blk_frozen BK164.out 0
            have p165 : 0 ≤ (x6_1 : Int) := of_decide_eq_true (by first | (with_reducible assumption) | assumption)
            have q165 : x6_1 < (l0_0.length : Int) := of_decide_eq_true (by first | (with_reducible assumption) | assumption)
            obtain ⟨ad165, A165_0, c165_0, e165, hx165_0, hl165_0, hi165_0⟩ := at_T41 HR0_0.out x6_1 p165 q165
            cases e165
            replace hx165_0 := (HB.out.cell (World.block_lt_of_cell? w _ hx165_0)).trans hx165_0
            have HR165_0 := Aside0.mk hi165_0
            have HC165_0 := Aside0.mk hl165_0
            clear hi165_0 hl165_0
            replace p165 := eq_true p165
            replace q165 := eq_true q165
            go_wp2_with (first | ((with_reducible refine gate_callee (f := 19) rfl ?_); refine goesL_ (some 28) rfl rfl Try.func19 (by kernel_rfl) rfl #[.agg #[.slice A165_0 ((rd_T41 l0_0 x6_1).f0).length c165_0], .int .i64 (wrap64 (a1 - x5_1))] rfl (by (try simp only [List.map_toArray, List.map_cons, List.map_nil]); first | done | rfl | (simp only [List.length_drop, List.length_take]; rfl)) ?_; (with_reducible refine (ih k1 (by have := HK1.out; omega) _ _ ((rd_T41 l0_0 x6_1).f0) (wrap64 (a1 - x5_1)) t166 _ ?side1 ?side2 A7.out).mono ?_); (case side1 => repeat (first | exact (Kd.C_below HR165_0.out HB.out) | (with_reducible refine Kd.C_alloc ?_ _) | (with_reducible refine Kd.C_drewN ?_ _) | (with_reducible refine Kd.C_drew ?_))); (case side2 => exact HC165_0.out); rintro e w9 ⟨rfl, hb⟩; refine ⟨_, rfl, ?_⟩; have n0_ := Aside0.mk (blk_below (g := gb164) (o := .cells #[.slice (some ad165) l0_0.length c0_0] 41 (0, 0)) (by (with_reducible repeat (first | refine blk_drewN ?_ _ | refine blk_drew ?_ | refine blk_alloc ?_ _)); exact BK164.out) hb); have n1_ := Aside0.mk (below_step (by repeat (first | (with_reducible first | exact HB.out | apply below_alloc | apply pw_below_drewN | apply below_drew1 | refine below_set ?_ GE164.out) | exact HB.out)) hb); clear BK164; clear HB; have BK164 := n0_; have HB := n1_; clear n0_ n1_; (try clear hb); (try clear hb2); (try clear hk); (try clear hi)))
            go_roundg k1
            case measure => have := HK1.out; omega
            case rel => exact ⟨(wrap64 (x5_1 + t166)), (wrap64 (x6_1 + 1)), (by first | rfl | (simp; done) | (simp [*]; done)), (by first | rfl | (simp; done) | (simp [*]; done)), H', ⟨by have := HK1.out; omega⟩, ⟨by (with_reducible repeat (first | refine blk_drewN ?_ _ | refine blk_drew ?_ | refine blk_alloc ?_ _)); exact BK164.out⟩, ⟨by repeat (first | (with_reducible first | exact HB.out | apply below_alloc | apply pw_below_drewN | apply below_drew1 | refine below_set ?_ GE164.out) | exact HB.out)⟩⟩
          · rw [if_neg c6] at H
            exact absurd H (by simp)
        · rw [if_neg c5] at H
          have c5b0 : decide (x5_1 ≤ a1) = false := decide_eq_false c5
          clear c5
          obtain rfl := Option.some.inj H
          have hcz10_0 : wr.cell? ⟨gb164, 0, none⟩ = some (.slice A0_0 l0_0.length c0_0) := (blk_cell BK164.out 0).trans rfl
          have hfz10_0 := blk_frozen BK164.out 0
          go_wp2
          go_ret
          exact ⟨by first | rfl | (simp [errW_none, errW_some] <;> rfl) | (simp [*, errW_none, errW_some] <;> rfl), by repeat (first | (with_reducible first | exact HB.out | apply below_alloc | apply pw_below_drewN | apply below_drew1 | refine below_set ?_ GE164.out) | exact HB.out)⟩
      · rw [if_neg c4] at H
        have c4b0 : decide (x6_1 < (l0_0.length : Int)) = false := decide_eq_false c4
        clear c4
        obtain rfl := Option.some.inj H
        have hcz11_0 : wr.cell? ⟨gb164, 0, none⟩ = some (.slice A0_0 l0_0.length c0_0) := (blk_cell BK164.out 0).trans rfl
        have hfz11_0 := blk_frozen BK164.out 0
        go_wp2
        go_ret
        exact ⟨by first | rfl | (simp [errW_none, errW_some] <;> rfl) | (simp [*, errW_none, errW_some] <;> rfl), by repeat (first | (with_reducible first | exact HB.out | apply below_alloc | apply pw_below_drewN | apply below_drew1 | refine below_set ?_ GE164.out) | exact HB.out)⟩
mutual
def virgationref01_depth.l0 : Nat → Int → List (S41) → Int → Int → Option (Int)
  | 0, _, _, _, _ => none
  | k + 1, x3, x7, x8, x9 => if x9 < x8 then (if 0 ≤ x9 then (if x9 < (x7.length : Int) then ((virgationref01_depth.f k ((rd_T41 x7 x9).f0)).bind fun t170 => (virgationref01_depth.l0 k (mx x3 t170) x7 x8 (wrap64 (x9 + 1)))) else (none)) else (none)) else (some (wrap64 (x3 + 1)))
def virgationref01_depth.f : Nat → List (S41) → Option (Int)
  | 0, _ => none
  | k + 1, l0_0 => virgationref01_depth.l0 k 0 l0_0 (l0_0.length : Int) 0
end
set_option maxHeartbeats 8000000 in
set_option maxRecDepth 100000 in
theorem virgationref01_depth.calls (k : Nat) : ∀ (A0_0 : Option Addr) (c0_0 : Nat) (l0_0 : List (S41)) (r : Int) (w : World) (hr0_0 : Kd.C k41 w A0_0 l0_0.length l0_0) (hc0_0 : l0_0.length ≤ c0_0) (h : virgationref01_depth.f k l0_0 = some r),
    Calls Try.prog 52 #[.agg #[.slice A0_0 l0_0.length c0_0]] w fun e w' => e = .returned (.int .i64 r) ∧ Below w.heap.size w w' := by
  induction k using Nat.strongRecOn with
  | _ k ih =>
  intro A0_0 c0_0 l0_0 r w hr0_0 hc0_0 h
  cases k with
  | zero => exact absurd h (by simp [virgationref01_depth.f])
  | succ k =>
  simp only [virgationref01_depth.f] at h
  have hu41 := Try.underlying41
  have HR0_0 := Aside0.mk hr0_0
  have HC0_0 := Aside0.mk hc0_0
  clear hr0_0 hc0_0
  have HB := Aside0.mk (Below.refl w.heap.size w)
  have H : (virgationref01_depth.l0 k 0 l0_0 (l0_0.length : Int) 0) = some r := h
  clear h
  have H' := Aside0.mk H
  clear H
  go_enter Try.func52, Try.ntmps52
  go_wp2_with (first | ((with_reducible refine gate_dst (N := 1) rfl ?_); refine box_event ?hg (N := 1) ?hd (cs := #[.slice A0_0 l0_0.length c0_0]) (t := 41) ?hr ?_; (case hd => rfl); (case hg => rfl); (case hr => first | (go_simp; done) | (go_simp; rfl)); intro gb167 hg w2 hbox hb; have n0_ := Aside0.mk (below_step (by repeat (first | (with_reducible first | exact HB.out | apply below_alloc | apply pw_below_drewN | apply below_drew1) | exact HB.out)) hb); have n1_ := Aside0.mk (hbox); have n2_ := Aside0.mk ((by rw [hg]; exact (below_size (by repeat (first | (with_reducible first | exact HB.out | apply below_alloc | apply pw_below_drewN | apply below_drew1) | exact HB.out))) : w.heap.size ≤ gb167)); have n3_ := Aside0.mk ((by rw [hg]; exact (below_size (by repeat (first | (with_reducible first | exact HB.out | apply below_alloc | apply pw_below_drewN | apply below_drew1) | exact HB.out))) : w.heap.size ≤ gb167)); clear HB; have HB := n0_; have BK167 := n1_; have GW167 := n2_; have GE167 := n3_; clear n0_ n1_ n2_ n3_; clear hb hbox hg; have hcz3_0 : w2.cell? ⟨gb167, 0, none⟩ = some (.slice A0_0 l0_0.length c0_0) := (blk_cell BK167.out 0).trans rfl; have hfz3_0 := blk_frozen BK167.out 0))
  go_loopg [3, 9] k (fun kq v3 v9 w' => ∃ (x3_1 : Int) (x9_1 : Int), v3 = .int .i64 x3_1 ∧ v9 = .int .i64 x9_1 ∧ Aside0 (virgationref01_depth.l0 kq x3_1 l0_0 (l0_0.length : Int) x9_1 = some r) ∧ Aside0 (kq ≤ k) ∧ Aside0 (w'.heap[gb167]? = some (.cells #[(.slice A0_0 l0_0.length c0_0)] 41 (0, 0))) ∧ Aside0 (Below w.heap.size w w'))
  case atStart => exact ⟨(0), (0), (by first | rfl | (simp; done) | (simp [*]; done)), (by first | rfl | (simp; done) | (simp [*]; done)), H', ⟨Nat.le_refl _⟩, ⟨by (with_reducible repeat (first | refine blk_drewN ?_ _ | refine blk_drew ?_ | refine blk_alloc ?_ _)); exact BK167.out⟩, ⟨by repeat (first | (with_reducible first | exact HB.out | apply below_alloc | apply pw_below_drewN | apply below_drew1 | refine below_set ?_ GE167.out) | exact HB.out)⟩⟩
  case round =>
    clear H'
    try clear p2
    try clear hcz3_0
    try clear hfz3_0
    obtain ⟨x3_1, x9_1, rfl, rfl, HA, HK1, BK167, HB⟩ := hrel
    cases gk with
    | zero => exact absurd HA.out (by simp [virgationref01_depth.l0])
    | succ k1 =>
      have H := HA.out
      clear HA
      simp only [virgationref01_depth.l0] at H
      by_cases c4 : x9_1 < (l0_0.length : Int)
      · rw [if_pos c4] at H
        have c4b0 : decide (x9_1 < (l0_0.length : Int)) = true := decide_eq_true c4
        clear c4
        by_cases c5 : 0 ≤ x9_1
        · rw [if_pos c5] at H
          have c5b0 : decide (0 ≤ x9_1) = true := decide_eq_true c5
          clear c5
          by_cases c6 : x9_1 < (l0_0.length : Int)
          · rw [if_pos c6] at H
            have c6b0 : decide (x9_1 < (l0_0.length : Int)) = true := decide_eq_true c6
            clear c6
            replace H := Option.bind_eq_some_iff.mp H
            obtain ⟨t170, A70, H⟩ := H
            replace H : (virgationref01_depth.l0 k1 (mx x3_1 t170) l0_0 (l0_0.length : Int) (wrap64 (x9_1 + 1))) = some r := H
            have A7 := Aside0.mk A70
            clear A70
            obtain ⟨ji8, hji8⟩ : ∃ j_ : Int, (mx x3_1 t170) = j_ := ⟨_, rfl⟩
            replace H : (virgationref01_depth.l0 k1 ji8 l0_0 (l0_0.length : Int) (wrap64 (x9_1 + 1))) = some r := by first | (rw [hji8] at H; exact H) | (simp only [hji8] at H ⊢; exact H)
            (try rw [hji8] at A7)
            have hji8_ : (if x3_1 < t170 then t170 else x3_1) = ji8 := hji8
            have H' := Aside0.mk H
            clear H
            have p168 : 0 ≤ (x9_1 : Int) := of_decide_eq_true (by first | (with_reducible assumption) | assumption)
            have q168 : x9_1 < (l0_0.length : Int) := of_decide_eq_true (by first | (with_reducible assumption) | assumption)
            obtain ⟨ad168, A168_0, c168_0, e168, hx168_0, hl168_0, hi168_0⟩ := at_T41 HR0_0.out x9_1 p168 q168
            cases e168
            replace hx168_0 := (HB.out.cell (World.block_lt_of_cell? w _ hx168_0)).trans hx168_0
            have HR168_0 := Aside0.mk hi168_0
            have HC168_0 := Aside0.mk hl168_0
            clear hi168_0 hl168_0
            replace p168 := eq_true p168
            replace q168 := eq_true q168
            go_wp2_with (first | ((with_reducible refine gate_dst (N := 5) rfl ?_); refine box_event ?hg (N := 5) ?hd (cs := #[.slice none 0 0]) (t := 41) ?hr ?_; (case hd => rfl); (case hg => rfl); (case hr => first | (go_simp; done) | (go_simp; rfl)); intro gb169 hg w9 hbox hb; have n0_ := Aside0.mk (blk_below (g := gb167) (o := .cells #[.slice (some ad168) l0_0.length c0_0] 41 (0, 0)) (by (with_reducible repeat (first | refine blk_drewN ?_ _ | refine blk_drew ?_ | refine blk_alloc ?_ _)); exact BK167.out) hb); have n1_ := Aside0.mk (below_step (by repeat (first | (with_reducible first | exact HB.out | apply below_alloc | apply pw_below_drewN | apply below_drew1 | refine below_set ?_ GE167.out) | exact HB.out)) hb); have n2_ := Aside0.mk (hbox); have n3_ := Aside0.mk ((by rw [hg]; exact (below_size (by repeat (first | (with_reducible first | exact HB.out | apply below_alloc | apply pw_below_drewN | apply below_drew1 | refine below_set ?_ GE167.out) | exact HB.out))) : w.heap.size ≤ gb169)); have n4_ := Aside0.mk ((by rw [hg]; exact (below_size (by repeat (first | (with_reducible first | exact HB.out | apply below_alloc | apply pw_below_drewN | apply below_drew1 | refine below_set ?_ GE167.out) | exact HB.out))) : w.heap.size ≤ gb169)); have n5_ := Aside0.mk ((by rw [hg]; exact Nat.ne_of_lt (blk_lt (g := gb167) (o := .cells #[.slice (some ad168) l0_0.length c0_0] 41 (0, 0)) (by (with_reducible repeat (first | refine blk_drewN ?_ _ | refine blk_drew ?_ | refine blk_alloc ?_ _)); exact BK167.out)) : gb167 ≠ gb169)); have n6_ := Aside0.mk ((by rw [hg]; exact Nat.ne_of_gt (blk_lt (g := gb167) (o := .cells #[.slice (some ad168) l0_0.length c0_0] 41 (0, 0)) (by (with_reducible repeat (first | refine blk_drewN ?_ _ | refine blk_drew ?_ | refine blk_alloc ?_ _)); exact BK167.out)) : gb169 ≠ gb167)); clear BK167; clear HB; have BK167 := n0_; have HB := n1_; have BK169 := n2_; have GW169 := n3_; have GE169 := n4_; have NB167_169 := n5_; have NB169_167 := n6_; clear n0_ n1_ n2_ n3_ n4_ n5_ n6_; clear hb hbox hg; have hnb10 := NB169_167.out; have hnc10 := NB167_169.out; have hcz11_0 : w9.cell? ⟨gb169, 0, none⟩ = some (.slice none 0 0) := (blk_cell BK169.out 0).trans rfl; have hfz11_0 := blk_frozen BK169.out 0) | ((with_reducible refine gate_callee (f := 52) rfl ?_); refine goesL_ (some 15) rfl rfl Try.func52 (by kernel_rfl) rfl #[.agg #[.slice A168_0 ((rd_T41 l0_0 x9_1).f0).length c168_0]] rfl (by (try simp only [List.map_toArray, List.map_cons, List.map_nil]); first | done | rfl | (simp only [List.length_drop, List.length_take]; rfl)) ?_; (with_reducible refine (ih k1 (by have := HK1.out; omega) _ _ ((rd_T41 l0_0 x9_1).f0) t170 _ ?side1 ?side2 A7.out).mono ?_); (case side1 => exact Kd.C_below HR168_0.out (by repeat (first | (with_reducible first | exact HB.out | apply below_alloc | apply pw_below_drewN | apply below_drew1 | refine below_set ?_ GE167.out | refine below_set ?_ GE169.out) | exact HB.out))); (case side2 => exact HC168_0.out); rintro e w12 ⟨rfl, hb⟩; refine ⟨_, rfl, ?_⟩; have n0_ := Aside0.mk (blk_below (g := gb167) (o := .cells #[.slice (some ad168) l0_0.length c0_0] 41 (0, 0)) (by (with_reducible repeat (first | refine blk_drewN ?_ _ | refine blk_drew ?_ | refine blk_alloc ?_ _)); refine blk_far ?_ NB167_169.out _; (with_reducible repeat (first | refine blk_drewN ?_ _ | refine blk_drew ?_ | refine blk_alloc ?_ _)); exact BK167.out) hb); have n1_ := Aside0.mk (blk_below (g := gb169) (o := .cells #[.slice A168_0 ((rd_T41 l0_0 x9_1).f0).length c168_0] 41 (0, 0)) (by (with_reducible repeat (first | refine blk_drewN ?_ _ | refine blk_drew ?_ | refine blk_alloc ?_ _)); refine blk_put (cs := #[.slice none 0 0]) ?_ 0 _ rfl; (with_reducible repeat (first | refine blk_drewN ?_ _ | refine blk_drew ?_ | refine blk_alloc ?_ _)); exact BK169.out) hb); have n2_ := Aside0.mk (below_step (by repeat (first | (with_reducible first | exact HB.out | apply below_alloc | apply pw_below_drewN | apply below_drew1 | refine below_set ?_ GE167.out | refine below_set ?_ GE169.out) | exact HB.out)) hb); clear BK167; clear BK169; clear HB; have BK167 := n0_; have BK169 := n1_; have HB := n2_; clear n0_ n1_ n2_; (try clear hb); (try clear hb2); (try clear hk); (try clear hi)))
            go_roundg k1
            case measure => have := HK1.out; omega
            case rel => exact ⟨(ji8), (wrap64 (x9_1 + 1)), (by first | rfl | (simp; done) | (simp only [← hji8] <;> (first | rfl | simp)) | (simp [*]; done)), (by first | rfl | (simp; done) | (simp [*]; done)), H', ⟨by have := HK1.out; omega⟩, ⟨by (with_reducible repeat (first | refine blk_drewN ?_ _ | refine blk_drew ?_ | refine blk_alloc ?_ _)); exact BK167.out⟩, ⟨by repeat (first | (with_reducible first | exact HB.out | apply below_alloc | apply pw_below_drewN | apply below_drew1 | refine below_set ?_ GE167.out | refine below_set ?_ GE169.out) | exact HB.out)⟩⟩
          · rw [if_neg c6] at H
            exact absurd H (by simp)
        · rw [if_neg c5] at H
          exact absurd H (by simp)
      · rw [if_neg c4] at H
        have c4b0 : decide (x9_1 < (l0_0.length : Int)) = false := decide_eq_false c4
        clear c4
        obtain rfl := Option.some.inj H
        go_wp2
        go_ret
        exact ⟨by first | rfl | (simp [errW_none, errW_some] <;> rfl) | (simp [*, errW_none, errW_some] <;> rfl), by repeat (first | (with_reducible first | exact HB.out | apply below_alloc | apply pw_below_drewN | apply below_drew1 | refine below_set ?_ GE167.out) | exact HB.out)⟩
mutual
def virgationref01_few.l0 : Nat → List (S41) → Int → Int → List (S41) → Option (Bool)
  | 0, _, _, _, _ => none
  | k + 1, x6, x7, x8, x172000 => if x8 < x7 then (if 0 ≤ x8 then (if x8 < (x6.length : Int) then ((virgationref01_few.f k ((rd_T41 x6 x8).f0)).bind fun t174 => (if t174 = true then (virgationref01_few.l0 k x6 x7 (wrap64 (x8 + 1)) x172000) else (some false))) else (none)) else (none)) else (some (decide ((x172000.length : Int) ≤ 8)))
def virgationref01_few.f : Nat → List (S41) → Option (Bool)
  | 0, _ => none
  | k + 1, l0_0 => virgationref01_few.l0 k l0_0 (l0_0.length : Int) 0 l0_0
end
set_option maxHeartbeats 8000000 in
set_option maxRecDepth 100000 in
theorem virgationref01_few.calls (k : Nat) : ∀ (A0_0 : Option Addr) (c0_0 : Nat) (l0_0 : List (S41)) (r : Bool) (w : World) (hr0_0 : Kd.C k41 w A0_0 l0_0.length l0_0) (hc0_0 : l0_0.length ≤ c0_0) (h : virgationref01_few.f k l0_0 = some r),
    Calls Try.prog 53 #[.agg #[.slice A0_0 l0_0.length c0_0]] w fun e w' => e = .returned (.bool r) ∧ Below w.heap.size w w' := by
  induction k using Nat.strongRecOn with
  | _ k ih =>
  intro A0_0 c0_0 l0_0 r w hr0_0 hc0_0 h
  cases k with
  | zero => exact absurd h (by simp [virgationref01_few.f])
  | succ k =>
  simp only [virgationref01_few.f] at h
  have hu41 := Try.underlying41
  have HR0_0 := Aside0.mk hr0_0
  have HC0_0 := Aside0.mk hc0_0
  clear hr0_0 hc0_0
  have HB := Aside0.mk (Below.refl w.heap.size w)
  have H : (virgationref01_few.l0 k l0_0 (l0_0.length : Int) 0 l0_0) = some r := h
  clear h
  have H' := Aside0.mk H
  clear H
  go_enter Try.func53, Try.ntmps53
  go_wp2_with (first | ((with_reducible refine gate_dst (N := 1) rfl ?_); refine box_event ?hg (N := 1) ?hd (cs := #[.slice A0_0 l0_0.length c0_0]) (t := 41) ?hr ?_; (case hd => rfl); (case hg => rfl); (case hr => first | (go_simp; done) | (go_simp; rfl)); intro gb171 hg w2 hbox hb; have n0_ := Aside0.mk (below_step (by repeat (first | (with_reducible first | exact HB.out | apply below_alloc | apply pw_below_drewN | apply below_drew1) | exact HB.out)) hb); have n1_ := Aside0.mk (hbox); have n2_ := Aside0.mk ((by rw [hg]; exact (below_size (by repeat (first | (with_reducible first | exact HB.out | apply below_alloc | apply pw_below_drewN | apply below_drew1) | exact HB.out))) : w.heap.size ≤ gb171)); have n3_ := Aside0.mk ((by rw [hg]; exact (below_size (by repeat (first | (with_reducible first | exact HB.out | apply below_alloc | apply pw_below_drewN | apply below_drew1) | exact HB.out))) : w.heap.size ≤ gb171)); clear HB; have HB := n0_; have BK171 := n1_; have GW171 := n2_; have GE171 := n3_; clear n0_ n1_ n2_ n3_; clear hb hbox hg; have hcz3_0 : w2.cell? ⟨gb171, 0, none⟩ = some (.slice A0_0 l0_0.length c0_0) := (blk_cell BK171.out 0).trans rfl; have hfz3_0 := blk_frozen BK171.out 0))
  go_loopg [8] k (fun kq v8 w' => ∃ (x8_1 : Int), v8 = .int .i64 x8_1 ∧ Aside0 (virgationref01_few.l0 kq l0_0 (l0_0.length : Int) x8_1 l0_0 = some r) ∧ Aside0 (kq ≤ k) ∧ Aside0 (w'.heap[gb171]? = some (.cells #[(.slice A0_0 l0_0.length c0_0)] 41 (0, 0))) ∧ Aside0 (Below w.heap.size w w'))
  case atStart => exact ⟨(0), (by first | rfl | (simp; done) | (simp [*]; done)), H', ⟨Nat.le_refl _⟩, ⟨by (with_reducible repeat (first | refine blk_drewN ?_ _ | refine blk_drew ?_ | refine blk_alloc ?_ _)); exact BK171.out⟩, ⟨by repeat (first | (with_reducible first | exact HB.out | apply below_alloc | apply pw_below_drewN | apply below_drew1 | refine below_set ?_ GE171.out) | exact HB.out)⟩⟩
  case round =>
    clear H'
    try clear p2
    try clear hcz3_0
    try clear hfz3_0
    obtain ⟨x8_1, rfl, HA, HK1, BK171, HB⟩ := hrel
    cases gk with
    | zero => exact absurd HA.out (by simp [virgationref01_few.l0])
    | succ k1 =>
      have H := HA.out
      clear HA
      simp only [virgationref01_few.l0] at H
      by_cases c4 : x8_1 < (l0_0.length : Int)
      · rw [if_pos c4] at H
        have c4b0 : decide (x8_1 < (l0_0.length : Int)) = true := decide_eq_true c4
        clear c4
        by_cases c5 : 0 ≤ x8_1
        · rw [if_pos c5] at H
          have c5b0 : decide (0 ≤ x8_1) = true := decide_eq_true c5
          clear c5
          by_cases c6 : x8_1 < (l0_0.length : Int)
          · rw [if_pos c6] at H
            have c6b0 : decide (x8_1 < (l0_0.length : Int)) = true := decide_eq_true c6
            clear c6
            replace H := Option.bind_eq_some_iff.mp H
            obtain ⟨t174, A70, H⟩ := H
            replace H : (if t174 = true then (virgationref01_few.l0 k1 l0_0 (l0_0.length : Int) (wrap64 (x8_1 + 1)) l0_0) else (some false)) = some r := H
            have A7 := Aside0.mk A70
            clear A70
            by_cases c8 : t174 = true
            · subst c8
              have H1 : (virgationref01_few.l0 k1 l0_0 (l0_0.length : Int) (wrap64 (x8_1 + 1)) l0_0) = some r := by rw [if_pos rfl] at H; exact H
              clear H
              have H := H1
              clear H1
              have H' := Aside0.mk H
              clear H
              have p172 : 0 ≤ (x8_1 : Int) := of_decide_eq_true (by first | (with_reducible assumption) | assumption)
              have q172 : x8_1 < (l0_0.length : Int) := of_decide_eq_true (by first | (with_reducible assumption) | assumption)
              obtain ⟨ad172, A172_0, c172_0, e172, hx172_0, hl172_0, hi172_0⟩ := at_T41 HR0_0.out x8_1 p172 q172
              cases e172
              replace hx172_0 := (HB.out.cell (World.block_lt_of_cell? w _ hx172_0)).trans hx172_0
              have HR172_0 := Aside0.mk hi172_0
              have HC172_0 := Aside0.mk hl172_0
              clear hi172_0 hl172_0
              replace p172 := eq_true p172
              replace q172 := eq_true q172
              go_wp2_with (first | ((with_reducible refine gate_dst (N := 4) rfl ?_); refine box_event ?hg (N := 4) ?hd (cs := #[.slice none 0 0]) (t := 41) ?hr ?_; (case hd => rfl); (case hg => rfl); (case hr => first | (go_simp; done) | (go_simp; rfl)); intro gb173 hg w9 hbox hb; have n0_ := Aside0.mk (blk_below (g := gb171) (o := .cells #[.slice (some ad172) l0_0.length c0_0] 41 (0, 0)) (by (with_reducible repeat (first | refine blk_drewN ?_ _ | refine blk_drew ?_ | refine blk_alloc ?_ _)); exact BK171.out) hb); have n1_ := Aside0.mk (below_step (by repeat (first | (with_reducible first | exact HB.out | apply below_alloc | apply pw_below_drewN | apply below_drew1 | refine below_set ?_ GE171.out) | exact HB.out)) hb); have n2_ := Aside0.mk (hbox); have n3_ := Aside0.mk ((by rw [hg]; exact (below_size (by repeat (first | (with_reducible first | exact HB.out | apply below_alloc | apply pw_below_drewN | apply below_drew1 | refine below_set ?_ GE171.out) | exact HB.out))) : w.heap.size ≤ gb173)); have n4_ := Aside0.mk ((by rw [hg]; exact (below_size (by repeat (first | (with_reducible first | exact HB.out | apply below_alloc | apply pw_below_drewN | apply below_drew1 | refine below_set ?_ GE171.out) | exact HB.out))) : w.heap.size ≤ gb173)); have n5_ := Aside0.mk ((by rw [hg]; exact Nat.ne_of_lt (blk_lt (g := gb171) (o := .cells #[.slice (some ad172) l0_0.length c0_0] 41 (0, 0)) (by (with_reducible repeat (first | refine blk_drewN ?_ _ | refine blk_drew ?_ | refine blk_alloc ?_ _)); exact BK171.out)) : gb171 ≠ gb173)); have n6_ := Aside0.mk ((by rw [hg]; exact Nat.ne_of_gt (blk_lt (g := gb171) (o := .cells #[.slice (some ad172) l0_0.length c0_0] 41 (0, 0)) (by (with_reducible repeat (first | refine blk_drewN ?_ _ | refine blk_drew ?_ | refine blk_alloc ?_ _)); exact BK171.out)) : gb173 ≠ gb171)); clear BK171; clear HB; have BK171 := n0_; have HB := n1_; have BK173 := n2_; have GW173 := n3_; have GE173 := n4_; have NB171_173 := n5_; have NB173_171 := n6_; clear n0_ n1_ n2_ n3_ n4_ n5_ n6_; clear hb hbox hg; have hnb10 := NB173_171.out; have hnc10 := NB171_173.out; have hcz11_0 : w9.cell? ⟨gb173, 0, none⟩ = some (.slice none 0 0) := (blk_cell BK173.out 0).trans rfl; have hfz11_0 := blk_frozen BK173.out 0) | ((with_reducible refine gate_callee (f := 53) rfl ?_); refine goesL_ (some 13) rfl rfl Try.func53 (by kernel_rfl) rfl #[.agg #[.slice A172_0 ((rd_T41 l0_0 x8_1).f0).length c172_0]] rfl (by (try simp only [List.map_toArray, List.map_cons, List.map_nil]); first | done | rfl | (simp only [List.length_drop, List.length_take]; rfl)) ?_; (with_reducible refine (ih k1 (by have := HK1.out; omega) _ _ ((rd_T41 l0_0 x8_1).f0) true _ ?side1 ?side2 A7.out).mono ?_); (case side1 => exact Kd.C_below HR172_0.out (by repeat (first | (with_reducible first | exact HB.out | apply below_alloc | apply pw_below_drewN | apply below_drew1 | refine below_set ?_ GE171.out | refine below_set ?_ GE173.out) | exact HB.out))); (case side2 => exact HC172_0.out); rintro e w12 ⟨rfl, hb⟩; refine ⟨_, rfl, ?_⟩; have n0_ := Aside0.mk (blk_below (g := gb171) (o := .cells #[.slice (some ad172) l0_0.length c0_0] 41 (0, 0)) (by (with_reducible repeat (first | refine blk_drewN ?_ _ | refine blk_drew ?_ | refine blk_alloc ?_ _)); refine blk_far ?_ NB171_173.out _; (with_reducible repeat (first | refine blk_drewN ?_ _ | refine blk_drew ?_ | refine blk_alloc ?_ _)); exact BK171.out) hb); have n1_ := Aside0.mk (blk_below (g := gb173) (o := .cells #[.slice A172_0 ((rd_T41 l0_0 x8_1).f0).length c172_0] 41 (0, 0)) (by (with_reducible repeat (first | refine blk_drewN ?_ _ | refine blk_drew ?_ | refine blk_alloc ?_ _)); refine blk_put (cs := #[.slice none 0 0]) ?_ 0 _ rfl; (with_reducible repeat (first | refine blk_drewN ?_ _ | refine blk_drew ?_ | refine blk_alloc ?_ _)); exact BK173.out) hb); have n2_ := Aside0.mk (below_step (by repeat (first | (with_reducible first | exact HB.out | apply below_alloc | apply pw_below_drewN | apply below_drew1 | refine below_set ?_ GE171.out | refine below_set ?_ GE173.out) | exact HB.out)) hb); clear BK171; clear BK173; clear HB; have BK171 := n0_; have BK173 := n1_; have HB := n2_; clear n0_ n1_ n2_; (try clear hb); (try clear hb2); (try clear hk); (try clear hi)))
              go_roundg k1
              case measure => have := HK1.out; omega
              case rel => exact ⟨(wrap64 (x8_1 + 1)), (by first | rfl | (simp; done) | (simp [*]; done)), H', ⟨by have := HK1.out; omega⟩, ⟨by (with_reducible repeat (first | refine blk_drewN ?_ _ | refine blk_drew ?_ | refine blk_alloc ?_ _)); exact BK171.out⟩, ⟨by repeat (first | (with_reducible first | exact HB.out | apply below_alloc | apply pw_below_drewN | apply below_drew1 | refine below_set ?_ GE171.out | refine below_set ?_ GE173.out) | exact HB.out)⟩⟩
            · replace c8 := Bool.eq_false_iff.mpr c8
              subst c8
              have H1 : (some false) = some r := by rw [if_neg (show ¬ (false = true) by decide)] at H; exact H
              clear H
              have H := H1
              clear H1
              obtain rfl := Option.some.inj H
              have p172 : 0 ≤ (x8_1 : Int) := of_decide_eq_true (by first | (with_reducible assumption) | assumption)
              have q172 : x8_1 < (l0_0.length : Int) := of_decide_eq_true (by first | (with_reducible assumption) | assumption)
              obtain ⟨ad172, A172_0, c172_0, e172, hx172_0, hl172_0, hi172_0⟩ := at_T41 HR0_0.out x8_1 p172 q172
              cases e172
              replace hx172_0 := (HB.out.cell (World.block_lt_of_cell? w _ hx172_0)).trans hx172_0
              have HR172_0 := Aside0.mk hi172_0
              have HC172_0 := Aside0.mk hl172_0
              clear hi172_0 hl172_0
              replace p172 := eq_true p172
              replace q172 := eq_true q172
              go_wp2_with (first | ((with_reducible refine gate_dst (N := 4) rfl ?_); refine box_event ?hg (N := 4) ?hd (cs := #[.slice none 0 0]) (t := 41) ?hr ?_; (case hd => rfl); (case hg => rfl); (case hr => first | (go_simp; done) | (go_simp; rfl)); intro gb173 hg w13 hbox hb; have n0_ := Aside0.mk (blk_below (g := gb171) (o := .cells #[.slice (some ad172) l0_0.length c0_0] 41 (0, 0)) (by (with_reducible repeat (first | refine blk_drewN ?_ _ | refine blk_drew ?_ | refine blk_alloc ?_ _)); exact BK171.out) hb); have n1_ := Aside0.mk (below_step (by repeat (first | (with_reducible first | exact HB.out | apply below_alloc | apply pw_below_drewN | apply below_drew1 | refine below_set ?_ GE171.out) | exact HB.out)) hb); have n2_ := Aside0.mk (hbox); have n3_ := Aside0.mk ((by rw [hg]; exact (below_size (by repeat (first | (with_reducible first | exact HB.out | apply below_alloc | apply pw_below_drewN | apply below_drew1 | refine below_set ?_ GE171.out) | exact HB.out))) : w.heap.size ≤ gb173)); have n4_ := Aside0.mk ((by rw [hg]; exact (below_size (by repeat (first | (with_reducible first | exact HB.out | apply below_alloc | apply pw_below_drewN | apply below_drew1 | refine below_set ?_ GE171.out) | exact HB.out))) : w.heap.size ≤ gb173)); have n5_ := Aside0.mk ((by rw [hg]; exact Nat.ne_of_lt (blk_lt (g := gb171) (o := .cells #[.slice (some ad172) l0_0.length c0_0] 41 (0, 0)) (by (with_reducible repeat (first | refine blk_drewN ?_ _ | refine blk_drew ?_ | refine blk_alloc ?_ _)); exact BK171.out)) : gb171 ≠ gb173)); have n6_ := Aside0.mk ((by rw [hg]; exact Nat.ne_of_gt (blk_lt (g := gb171) (o := .cells #[.slice (some ad172) l0_0.length c0_0] 41 (0, 0)) (by (with_reducible repeat (first | refine blk_drewN ?_ _ | refine blk_drew ?_ | refine blk_alloc ?_ _)); exact BK171.out)) : gb173 ≠ gb171)); clear BK171; clear HB; have BK171 := n0_; have HB := n1_; have BK173 := n2_; have GW173 := n3_; have GE173 := n4_; have NB171_173 := n5_; have NB173_171 := n6_; clear n0_ n1_ n2_ n3_ n4_ n5_ n6_; clear hb hbox hg; have hnb14 := NB173_171.out; have hnc14 := NB171_173.out; have hcz15_0 : w13.cell? ⟨gb173, 0, none⟩ = some (.slice none 0 0) := (blk_cell BK173.out 0).trans rfl; have hfz15_0 := blk_frozen BK173.out 0) | ((with_reducible refine gate_callee (f := 53) rfl ?_); refine goesL_ (some 13) rfl rfl Try.func53 (by kernel_rfl) rfl #[.agg #[.slice A172_0 ((rd_T41 l0_0 x8_1).f0).length c172_0]] rfl (by (try simp only [List.map_toArray, List.map_cons, List.map_nil]); first | done | rfl | (simp only [List.length_drop, List.length_take]; rfl)) ?_; (with_reducible refine (ih k1 (by have := HK1.out; omega) _ _ ((rd_T41 l0_0 x8_1).f0) false _ ?side1 ?side2 A7.out).mono ?_); (case side1 => exact Kd.C_below HR172_0.out (by repeat (first | (with_reducible first | exact HB.out | apply below_alloc | apply pw_below_drewN | apply below_drew1 | refine below_set ?_ GE171.out | refine below_set ?_ GE173.out) | exact HB.out))); (case side2 => exact HC172_0.out); rintro e w16 ⟨rfl, hb⟩; refine ⟨_, rfl, ?_⟩; have n0_ := Aside0.mk (blk_below (g := gb171) (o := .cells #[.slice (some ad172) l0_0.length c0_0] 41 (0, 0)) (by (with_reducible repeat (first | refine blk_drewN ?_ _ | refine blk_drew ?_ | refine blk_alloc ?_ _)); refine blk_far ?_ NB171_173.out _; (with_reducible repeat (first | refine blk_drewN ?_ _ | refine blk_drew ?_ | refine blk_alloc ?_ _)); exact BK171.out) hb); have n1_ := Aside0.mk (blk_below (g := gb173) (o := .cells #[.slice A172_0 ((rd_T41 l0_0 x8_1).f0).length c172_0] 41 (0, 0)) (by (with_reducible repeat (first | refine blk_drewN ?_ _ | refine blk_drew ?_ | refine blk_alloc ?_ _)); refine blk_put (cs := #[.slice none 0 0]) ?_ 0 _ rfl; (with_reducible repeat (first | refine blk_drewN ?_ _ | refine blk_drew ?_ | refine blk_alloc ?_ _)); exact BK173.out) hb); have n2_ := Aside0.mk (below_step (by repeat (first | (with_reducible first | exact HB.out | apply below_alloc | apply pw_below_drewN | apply below_drew1 | refine below_set ?_ GE171.out | refine below_set ?_ GE173.out) | exact HB.out)) hb); clear BK171; clear BK173; clear HB; have BK171 := n0_; have BK173 := n1_; have HB := n2_; clear n0_ n1_ n2_; (try clear hb); (try clear hb2); (try clear hk); (try clear hi)))
              go_ret
              exact ⟨by first | rfl | (simp [errW_none, errW_some] <;> rfl) | (simp [*, errW_none, errW_some] <;> rfl), by repeat (first | (with_reducible first | exact HB.out | apply below_alloc | apply pw_below_drewN | apply below_drew1 | refine below_set ?_ GE171.out | refine below_set ?_ GE173.out) | exact HB.out)⟩
          · rw [if_neg c6] at H
            exact absurd H (by simp)
        · rw [if_neg c5] at H
          exact absurd H (by simp)
      · rw [if_neg c4] at H
        have c4b0 : decide (x8_1 < (l0_0.length : Int)) = false := decide_eq_false c4
        clear c4
        obtain rfl := Option.some.inj H
        have hcz17_0 : wr.cell? ⟨gb171, 0, none⟩ = some (.slice A0_0 l0_0.length c0_0) := (blk_cell BK171.out 0).trans rfl
        have hfz17_0 := blk_frozen BK171.out 0
        go_wp2
        go_ret
        exact ⟨by first | rfl | (simp [errW_none, errW_some] <;> rfl) | (simp [*, errW_none, errW_some] <;> rfl), by repeat (first | (with_reducible first | exact HB.out | apply below_alloc | apply pw_below_drewN | apply below_drew1 | refine below_set ?_ GE171.out) | exact HB.out)⟩
def virgationref01_Is.f (k : Nat) (l0_0 : List (S41)) : Option (Bool) := (virgationref01_Nodes.f k l0_0 60).bind fun t176 => (if t176 ≤ 60 then ((virgationref01_depth.f k l0_0).bind fun t177 => (if t177 ≤ 30 then ((virgationref01_few.f k l0_0).bind fun t178 => (some t178)) else (some false))) else (some false))
set_option maxHeartbeats 8000000 in
set_option maxRecDepth 100000 in
theorem virgationref01_Is.calls (k : Nat) (A0_0 : Option Addr) (c0_0 : Nat) (l0_0 : List (S41)) (r : Bool) (w : World) (hr0_0 : Kd.C k41 w A0_0 l0_0.length l0_0) (hc0_0 : l0_0.length ≤ c0_0) (h : virgationref01_Is.f k l0_0 = some r) :
    Calls Try.prog 17 #[.agg #[.slice A0_0 l0_0.length c0_0]] w fun e w' => e = .returned (.bool r) ∧ Below w.heap.size w w' := by
  have hu41 := Try.underlying41
  have HR0_0 := Aside0.mk hr0_0
  have HC0_0 := Aside0.mk hc0_0
  clear hr0_0 hc0_0
  have HB := Aside0.mk (Below.refl w.heap.size w)
  have H : ((virgationref01_Nodes.f k l0_0 60).bind fun t176 => (if t176 ≤ 60 then ((virgationref01_depth.f k l0_0).bind fun t177 => (if t177 ≤ 30 then ((virgationref01_few.f k l0_0).bind fun t178 => (some t178)) else (some false))) else (some false))) = some r := h
  clear h
  replace H := Option.bind_eq_some_iff.mp H
  obtain ⟨t176, A20, H⟩ := H
  replace H : (if t176 ≤ 60 then ((virgationref01_depth.f k l0_0).bind fun t177 => (if t177 ≤ 30 then ((virgationref01_few.f k l0_0).bind fun t178 => (some t178)) else (some false))) else (some false)) = some r := H
  have A2 := Aside0.mk A20
  clear A20
  by_cases c3 : t176 ≤ 60
  · rw [if_pos c3] at H
    have c3b0 : decide (t176 ≤ 60) = true := decide_eq_true c3
    clear c3
    replace H := Option.bind_eq_some_iff.mp H
    obtain ⟨t177, A40, H⟩ := H
    replace H : (if t177 ≤ 30 then ((virgationref01_few.f k l0_0).bind fun t178 => (some t178)) else (some false)) = some r := H
    have A4 := Aside0.mk A40
    clear A40
    by_cases c5 : t177 ≤ 30
    · rw [if_pos c5] at H
      have c5b0 : decide (t177 ≤ 30) = true := decide_eq_true c5
      clear c5
      replace H := Option.bind_eq_some_iff.mp H
      obtain ⟨t178, A60, H⟩ := H
      replace H : (some t178) = some r := H
      have A6 := Aside0.mk A60
      clear A60
      obtain rfl := Option.some.inj H
      go_enter Try.func17, Try.ntmps17
      go_wp2_with (first | ((with_reducible refine gate_dst (N := 1) rfl ?_); refine box_event ?hg (N := 1) ?hd (cs := #[.slice A0_0 l0_0.length c0_0]) (t := 41) ?hr ?_; (case hd => rfl); (case hg => rfl); (case hr => first | (go_simp; done) | (go_simp; rfl)); intro gb175 hg w7 hbox hb; have n0_ := Aside0.mk (below_step (by repeat (first | (with_reducible first | exact HB.out | apply below_alloc | apply pw_below_drewN | apply below_drew1) | exact HB.out)) hb); have n1_ := Aside0.mk (hbox); have n2_ := Aside0.mk ((by rw [hg]; exact (below_size (by repeat (first | (with_reducible first | exact HB.out | apply below_alloc | apply pw_below_drewN | apply below_drew1) | exact HB.out))) : w.heap.size ≤ gb175)); have n3_ := Aside0.mk ((by rw [hg]; exact (below_size (by repeat (first | (with_reducible first | exact HB.out | apply below_alloc | apply pw_below_drewN | apply below_drew1) | exact HB.out))) : w.heap.size ≤ gb175)); clear HB; have HB := n0_; have BK175 := n1_; have GW175 := n2_; have GE175 := n3_; clear n0_ n1_ n2_ n3_; clear hb hbox hg; have hcz8_0 : w7.cell? ⟨gb175, 0, none⟩ = some (.slice A0_0 l0_0.length c0_0) := (blk_cell BK175.out 0).trans rfl; have hfz8_0 := blk_frozen BK175.out 0) | ((with_reducible refine gate_callee (f := 19) rfl ?_); refine goesL_ (some 4) rfl rfl Try.func19 (by kernel_rfl) rfl #[.agg #[.slice A0_0 l0_0.length c0_0], .int .i64 60] rfl (by (try simp only [List.map_toArray, List.map_cons, List.map_nil]); first | done | rfl | (simp only [List.length_drop, List.length_take]; rfl)) ?_; (with_reducible refine (virgationref01_Nodes.calls k _ _ l0_0 60 t176 _ ?side1 ?side2 A2.out).mono ?_); (case side1 => repeat (first | exact (Kd.C_below HR0_0.out HB.out) | (with_reducible refine Kd.C_alloc ?_ _) | (with_reducible refine Kd.C_drewN ?_ _) | (with_reducible refine Kd.C_drew ?_))); (case side2 => exact HC0_0.out); rintro e w9 ⟨rfl, hb⟩; refine ⟨_, rfl, ?_⟩; have n0_ := Aside0.mk (blk_below (g := gb175) (o := .cells #[.slice A0_0 l0_0.length c0_0] 41 (0, 0)) (by (with_reducible repeat (first | refine blk_drewN ?_ _ | refine blk_drew ?_ | refine blk_alloc ?_ _)); exact BK175.out) hb); have n1_ := Aside0.mk (below_step (by repeat (first | (with_reducible first | exact HB.out | apply below_alloc | apply pw_below_drewN | apply below_drew1 | refine below_set ?_ GE175.out) | exact HB.out)) hb); clear BK175; clear HB; have BK175 := n0_; have HB := n1_; clear n0_ n1_; (try clear hb); (try clear hb2); (try clear hk); (try clear hi); have hcz10_0 : w9.cell? ⟨gb175, 0, none⟩ = some (.slice A0_0 l0_0.length c0_0) := (blk_cell BK175.out 0).trans rfl; have hfz10_0 := blk_frozen BK175.out 0) | (go_at_call 52; (with_reducible refine (virgationref01_depth.calls k _ _ l0_0 t177 _ ?side1 ?side2 A4.out).mono ?_); (case side1 => repeat (first | exact (Kd.C_below HR0_0.out HB.out) | (with_reducible refine Kd.C_alloc ?_ _) | (with_reducible refine Kd.C_drewN ?_ _) | (with_reducible refine Kd.C_drew ?_))); (case side2 => exact HC0_0.out); rintro e w11 ⟨rfl, hb⟩; have n0_ := Aside0.mk (blk_below (g := gb175) (o := .cells #[.slice A0_0 l0_0.length c0_0] 41 (0, 0)) (by (with_reducible repeat (first | refine blk_drewN ?_ _ | refine blk_drew ?_ | refine blk_alloc ?_ _)); exact BK175.out) hb); have n1_ := Aside0.mk (below_step (by repeat (first | (with_reducible first | exact HB.out | apply below_alloc | apply pw_below_drewN | apply below_drew1 | refine below_set ?_ GE175.out) | exact HB.out)) hb); clear BK175; clear HB; have BK175 := n0_; have HB := n1_; clear n0_ n1_; (try clear hb); (try clear hb2); (try clear hk); (try clear hi); have hcz12_0 : w11.cell? ⟨gb175, 0, none⟩ = some (.slice A0_0 l0_0.length c0_0) := (blk_cell BK175.out 0).trans rfl; have hfz12_0 := blk_frozen BK175.out 0) | (go_at_call 53; (with_reducible refine (virgationref01_few.calls k _ _ l0_0 t178 _ ?side1 ?side2 A6.out).mono ?_); (case side1 => repeat (first | exact (Kd.C_below HR0_0.out HB.out) | (with_reducible refine Kd.C_alloc ?_ _) | (with_reducible refine Kd.C_drewN ?_ _) | (with_reducible refine Kd.C_drew ?_))); (case side2 => exact HC0_0.out); rintro e w13 ⟨rfl, hb⟩; have n0_ := Aside0.mk (blk_below (g := gb175) (o := .cells #[.slice A0_0 l0_0.length c0_0] 41 (0, 0)) (by (with_reducible repeat (first | refine blk_drewN ?_ _ | refine blk_drew ?_ | refine blk_alloc ?_ _)); exact BK175.out) hb); have n1_ := Aside0.mk (below_step (by repeat (first | (with_reducible first | exact HB.out | apply below_alloc | apply pw_below_drewN | apply below_drew1 | refine below_set ?_ GE175.out) | exact HB.out)) hb); clear BK175; clear HB; have BK175 := n0_; have HB := n1_; clear n0_ n1_; (try clear hb); (try clear hb2); (try clear hk); (try clear hi)))
      go_ret
      exact ⟨by first | rfl | (simp [errW_none, errW_some] <;> rfl) | (simp [*, errW_none, errW_some] <;> rfl), by repeat (first | (with_reducible first | exact HB.out | apply below_alloc | apply pw_below_drewN | apply below_drew1 | refine below_set ?_ GE175.out) | exact HB.out)⟩
    · rw [if_neg c5] at H
      have c5b0 : decide (t177 ≤ 30) = false := decide_eq_false c5
      clear c5
      obtain rfl := Option.some.inj H
      go_enter Try.func17, Try.ntmps17
      go_wp2_with (first | ((with_reducible refine gate_dst (N := 1) rfl ?_); refine box_event ?hg (N := 1) ?hd (cs := #[.slice A0_0 l0_0.length c0_0]) (t := 41) ?hr ?_; (case hd => rfl); (case hg => rfl); (case hr => first | (go_simp; done) | (go_simp; rfl)); intro gb175 hg w14 hbox hb; have n0_ := Aside0.mk (below_step (by repeat (first | (with_reducible first | exact HB.out | apply below_alloc | apply pw_below_drewN | apply below_drew1) | exact HB.out)) hb); have n1_ := Aside0.mk (hbox); have n2_ := Aside0.mk ((by rw [hg]; exact (below_size (by repeat (first | (with_reducible first | exact HB.out | apply below_alloc | apply pw_below_drewN | apply below_drew1) | exact HB.out))) : w.heap.size ≤ gb175)); have n3_ := Aside0.mk ((by rw [hg]; exact (below_size (by repeat (first | (with_reducible first | exact HB.out | apply below_alloc | apply pw_below_drewN | apply below_drew1) | exact HB.out))) : w.heap.size ≤ gb175)); clear HB; have HB := n0_; have BK175 := n1_; have GW175 := n2_; have GE175 := n3_; clear n0_ n1_ n2_ n3_; clear hb hbox hg; have hcz15_0 : w14.cell? ⟨gb175, 0, none⟩ = some (.slice A0_0 l0_0.length c0_0) := (blk_cell BK175.out 0).trans rfl; have hfz15_0 := blk_frozen BK175.out 0) | ((with_reducible refine gate_callee (f := 19) rfl ?_); refine goesL_ (some 4) rfl rfl Try.func19 (by kernel_rfl) rfl #[.agg #[.slice A0_0 l0_0.length c0_0], .int .i64 60] rfl (by (try simp only [List.map_toArray, List.map_cons, List.map_nil]); first | done | rfl | (simp only [List.length_drop, List.length_take]; rfl)) ?_; (with_reducible refine (virgationref01_Nodes.calls k _ _ l0_0 60 t176 _ ?side1 ?side2 A2.out).mono ?_); (case side1 => repeat (first | exact (Kd.C_below HR0_0.out HB.out) | (with_reducible refine Kd.C_alloc ?_ _) | (with_reducible refine Kd.C_drewN ?_ _) | (with_reducible refine Kd.C_drew ?_))); (case side2 => exact HC0_0.out); rintro e w16 ⟨rfl, hb⟩; refine ⟨_, rfl, ?_⟩; have n0_ := Aside0.mk (blk_below (g := gb175) (o := .cells #[.slice A0_0 l0_0.length c0_0] 41 (0, 0)) (by (with_reducible repeat (first | refine blk_drewN ?_ _ | refine blk_drew ?_ | refine blk_alloc ?_ _)); exact BK175.out) hb); have n1_ := Aside0.mk (below_step (by repeat (first | (with_reducible first | exact HB.out | apply below_alloc | apply pw_below_drewN | apply below_drew1 | refine below_set ?_ GE175.out) | exact HB.out)) hb); clear BK175; clear HB; have BK175 := n0_; have HB := n1_; clear n0_ n1_; (try clear hb); (try clear hb2); (try clear hk); (try clear hi); have hcz17_0 : w16.cell? ⟨gb175, 0, none⟩ = some (.slice A0_0 l0_0.length c0_0) := (blk_cell BK175.out 0).trans rfl; have hfz17_0 := blk_frozen BK175.out 0) | (go_at_call 52; (with_reducible refine (virgationref01_depth.calls k _ _ l0_0 t177 _ ?side1 ?side2 A4.out).mono ?_); (case side1 => repeat (first | exact (Kd.C_below HR0_0.out HB.out) | (with_reducible refine Kd.C_alloc ?_ _) | (with_reducible refine Kd.C_drewN ?_ _) | (with_reducible refine Kd.C_drew ?_))); (case side2 => exact HC0_0.out); rintro e w18 ⟨rfl, hb⟩; have n0_ := Aside0.mk (blk_below (g := gb175) (o := .cells #[.slice A0_0 l0_0.length c0_0] 41 (0, 0)) (by (with_reducible repeat (first | refine blk_drewN ?_ _ | refine blk_drew ?_ | refine blk_alloc ?_ _)); exact BK175.out) hb); have n1_ := Aside0.mk (below_step (by repeat (first | (with_reducible first | exact HB.out | apply below_alloc | apply pw_below_drewN | apply below_drew1 | refine below_set ?_ GE175.out) | exact HB.out)) hb); clear BK175; clear HB; have BK175 := n0_; have HB := n1_; clear n0_ n1_; (try clear hb); (try clear hb2); (try clear hk); (try clear hi)))
      go_ret
      exact ⟨by first | rfl | (simp [errW_none, errW_some] <;> rfl) | (simp [*, errW_none, errW_some] <;> rfl), by repeat (first | (with_reducible first | exact HB.out | apply below_alloc | apply pw_below_drewN | apply below_drew1 | refine below_set ?_ GE175.out) | exact HB.out)⟩
  · rw [if_neg c3] at H
    have c3b0 : decide (t176 ≤ 60) = false := decide_eq_false c3
    clear c3
    obtain rfl := Option.some.inj H
    go_enter Try.func17, Try.ntmps17
    go_wp2_with (first | ((with_reducible refine gate_dst (N := 1) rfl ?_); refine box_event ?hg (N := 1) ?hd (cs := #[.slice A0_0 l0_0.length c0_0]) (t := 41) ?hr ?_; (case hd => rfl); (case hg => rfl); (case hr => first | (go_simp; done) | (go_simp; rfl)); intro gb175 hg w19 hbox hb; have n0_ := Aside0.mk (below_step (by repeat (first | (with_reducible first | exact HB.out | apply below_alloc | apply pw_below_drewN | apply below_drew1) | exact HB.out)) hb); have n1_ := Aside0.mk (hbox); have n2_ := Aside0.mk ((by rw [hg]; exact (below_size (by repeat (first | (with_reducible first | exact HB.out | apply below_alloc | apply pw_below_drewN | apply below_drew1) | exact HB.out))) : w.heap.size ≤ gb175)); have n3_ := Aside0.mk ((by rw [hg]; exact (below_size (by repeat (first | (with_reducible first | exact HB.out | apply below_alloc | apply pw_below_drewN | apply below_drew1) | exact HB.out))) : w.heap.size ≤ gb175)); clear HB; have HB := n0_; have BK175 := n1_; have GW175 := n2_; have GE175 := n3_; clear n0_ n1_ n2_ n3_; clear hb hbox hg; have hcz20_0 : w19.cell? ⟨gb175, 0, none⟩ = some (.slice A0_0 l0_0.length c0_0) := (blk_cell BK175.out 0).trans rfl; have hfz20_0 := blk_frozen BK175.out 0) | ((with_reducible refine gate_callee (f := 19) rfl ?_); refine goesL_ (some 4) rfl rfl Try.func19 (by kernel_rfl) rfl #[.agg #[.slice A0_0 l0_0.length c0_0], .int .i64 60] rfl (by (try simp only [List.map_toArray, List.map_cons, List.map_nil]); first | done | rfl | (simp only [List.length_drop, List.length_take]; rfl)) ?_; (with_reducible refine (virgationref01_Nodes.calls k _ _ l0_0 60 t176 _ ?side1 ?side2 A2.out).mono ?_); (case side1 => repeat (first | exact (Kd.C_below HR0_0.out HB.out) | (with_reducible refine Kd.C_alloc ?_ _) | (with_reducible refine Kd.C_drewN ?_ _) | (with_reducible refine Kd.C_drew ?_))); (case side2 => exact HC0_0.out); rintro e w21 ⟨rfl, hb⟩; refine ⟨_, rfl, ?_⟩; have n0_ := Aside0.mk (blk_below (g := gb175) (o := .cells #[.slice A0_0 l0_0.length c0_0] 41 (0, 0)) (by (with_reducible repeat (first | refine blk_drewN ?_ _ | refine blk_drew ?_ | refine blk_alloc ?_ _)); exact BK175.out) hb); have n1_ := Aside0.mk (below_step (by repeat (first | (with_reducible first | exact HB.out | apply below_alloc | apply pw_below_drewN | apply below_drew1 | refine below_set ?_ GE175.out) | exact HB.out)) hb); clear BK175; clear HB; have BK175 := n0_; have HB := n1_; clear n0_ n1_; (try clear hb); (try clear hb2); (try clear hk); (try clear hi)))
    go_ret
    exact ⟨by first | rfl | (simp [errW_none, errW_some] <;> rfl) | (simp [*, errW_none, errW_some] <;> rfl), by repeat (first | (with_reducible first | exact HB.out | apply below_alloc | apply pw_below_drewN | apply below_drew1 | refine below_set ?_ GE175.out) | exact HB.out)⟩
end Go.Proofs.Ytfhgoebgnilfaaa.I
