/- The memory of infer.Sorts: the kinds, the rows of the parameters, the kinds of the functions, the finder. -/
import Derived.Test.YtfhgoebgnilfaaaIK7
namespace Go.Proofs.Ytfhgoebgnilfaaa.I
open Go.RowKit Go.Proofs.YtfhgoebgnilfaaaW.PrintWords Go.Proofs.YtfhgoebgnilfaaaW.PrintLast Go.Proofs.YtfhgoebgnilfaaaW.PrintMore
set_option linter.unusedVariables false
set_option maxRecDepth 100000
set_option linter.unusedSimpArgs false
/-- Pointers to kinds, as elements of a row. -/
def kds (ad : List Nat) (ps : List Nat) : List (List Value) := ps.map (fun p => [pk ad p])
theorem kds_len (ad ps : List Nat) : (kds ad ps).length = ps.length := by unfold kds; rw [List.length_map]
theorem kds_app {ad e ps : List Nat} (h : ∀ p, p ∈ ps → p < ad.length) : kds (ad ++ e) ps = kds ad ps := by
  unfold kds
  exact List.map_congr_left (fun p hp => by rw [pk_app (h p hp)])
theorem rows_app {ad e : List Nat} {rows : List (List Nat)} (h : ∀ ps, ps ∈ rows → ∀ p, p ∈ ps → p < ad.length) : rows.map (kds (ad ++ e)) = rows.map (kds ad) :=
  List.map_congr_left (fun ps hp => kds_app (h ps hp))
theorem rows_getD (ad : List Nat) (rows : List (List Nat)) (i : Nat) : (rows.map (kds ad)).getD i [] = kds ad (rows.getD i []) := by
  rw [List.getD_eq_getElem?_getD, List.getD_eq_getElem?_getD, List.getElem?_map]
  cases rows[i]? <;> rfl
abbrev KR := Kd.slice 72 (Kd.raw 1)
structure Mem (gf gp cp n : Nat) (A0 : Option Addr) (m0 c0 : Nat) (w0 : World) (s : List KN) (ad : List Nat) (rs : List (List Nat)) (fs : List Nat) (Af : Option Addr) (cf : Nat) (pr : Value) (w : World) : Prop where
  held : Held w0.heap.size s ad w
  pos : 0 < s.length
  rows : Kd.S KR 75 w w0.heap.size (fun k => some k ≠ (Value.slice Af fs.length cf).ownBlock) (.slice (some ⟨gp, 0, none⟩) n cp) (rs.map (kds ad))
  funs : Kd.R (Kd.raw 1) 72 w w0.heap.size (fun _ => True) (.slice Af fs.length cf) (kds ad fs)
  fin : w.heap[gf]? = some (.cells #[pk ad 0, .slice A0 m0 c0, .slice Af fs.length cf, pr] 77 (0, 0))
  brows : ∀ ps, ps ∈ rs → ∀ p, p ∈ ps → p < s.length
  bfuns : ∀ p, p ∈ fs → p < s.length
  gf0 : w0.heap.size ≤ gf
  below : Below w0.heap.size w0 w
variable {gf gp cp n : Nat} {A0 : Option Addr} {m0 c0 : Nat} {w0 w w1 w2 w5 : World} {s s' : List KN} {ad e' : List Nat} {rows : List (List Nat)} {funs : List Nat} {Af : Option Addr} {cf : Nat} {pr : Value}
theorem Mem.sub (h : Mem gf gp cp n A0 m0 c0 w0 s ad rows funs Af cf pr w) (hb : Below w.heap.size w w1) : Mem gf gp cp n A0 m0 c0 w0 s ad rows funs Af cf pr w1 :=
  ⟨Held.below h.held hb, h.pos, Kd.S_below h.rows hb, Kd.R_below h.funs hb, blk_below h.fin hb, h.brows, h.bfuns, h.gf0, below_step h.below hb⟩
theorem Mem.grow (h : Mem gf gp cp n A0 m0 c0 w0 s ad rows funs Af cf pr w) (hH : Held w0.heap.size s' (ad ++ e') w1) (hb : Below w.heap.size w w1) : Mem gf gp cp n A0 m0 c0 w0 s' (ad ++ e') rows funs Af cf pr w1 := by
  have hl := h.held.len
  have hl' := hH.len
  rw [List.length_append] at hl'
  have hle : s.length ≤ s'.length := by omega
  refine ⟨hH, Nat.lt_of_lt_of_le h.pos hle, ?_, ?_, ?_, fun ps hp p hq => Nat.lt_of_lt_of_le (h.brows ps hp p hq) hle, fun p hp => Nat.lt_of_lt_of_le (h.bfuns p hp) hle, h.gf0, below_step h.below hb⟩
  · rw [rows_app (fun ps hp p hq => by rw [hl]; exact h.brows ps hp p hq)]; exact Kd.S_below h.rows hb
  · rw [kds_app (fun p hp => by rw [hl]; exact h.bfuns p hp)]; exact Kd.R_below h.funs hb
  · rw [pk_app (by rw [hl]; exact h.pos)]; exact blk_below h.fin hb
theorem Mem.lend (h : Mem gf gp cp n A0 m0 c0 w0 s ad rows funs Af cf pr w) {i : Nat} (hi : i < n) : ∃ (oki : Nat → Prop) (A7 : Option Addr) (c7 : Nat), w.cell? ⟨gp, i, none⟩ = some (.slice A7 (rows.getD i []).length c7) ∧ (Kd.raw 1).R 72 w w0.heap.size oki (.slice A7 (rows.getD i []).length c7) (kds ad (rows.getD i [])) ∧
    (∀ k, oki k → some k ≠ (Value.slice Af funs.length cf).ownBlock ∧ k ≠ gp) ∧ Kd.H KR 75 w w0.heap.size (fun k => some k ≠ (Value.slice Af funs.length cf).ownBlock) (.slice (some ⟨gp, 0, none⟩) n cp) (rows.map (kds ad)) (i : Int) oki [.slice A7 (rows.getD i []).length c7] := by
  obtain ⟨oki, c, hcl, hM, hcc, hoki, hH⟩ := Kd.S_lend h.rows [] (i : Int) (by omega) (by omega)
  rw [Int.toNat_natCast, rows_getD] at hM
  obtain ⟨v, rfl, hR⟩ := hM
  obtain ⟨A7, c7, rfl⟩ := Kd.R_slice hR
  rw [kds_len] at hR hcc hH
  refine ⟨oki, A7, c7, ?_, hR, hoki, hH⟩
  have := hcc 0 _ rfl
  rw [Int.toNat_natCast] at this
  exact (congrArg (fun j => w.cell? ⟨gp, j, none⟩) (show i = i * (KR).sz + 0 from by show i = i * 1 + 0; omega)).trans this
theorem Held.grownT {B : Nat} {row : Option Nat} (h : Held B s ad w) (hg : w.grownBy w1 row) (ht : ∀ k, row = some k → ∃ q cells, q ≠ 74 ∧ w.heap[k]? = some (.cells cells q (0, 0))) : Held B s ad w1 :=
  ⟨h.len, h.nodup, h.ge, fun i n hn => blk_grown (h.cell i n hn) hg (fun e => by
    obtain ⟨q, cells, hq, hc⟩ := ht _ e.symm
    have := hc.symm.trans (h.cell i n hn)
    injection this with this
    injection this with _ e2 _
    exact hq e2), h.ok⟩
theorem blk_grownT {g t : Nat} {cs : Array Value} {row : Option Nat} (h : w.heap[g]? = some (.cells cs t (0, 0))) (hg : w.grownBy w1 row) (ht : ∀ k, row = some k → ∃ q cells, q ≠ t ∧ w.heap[k]? = some (.cells cells q (0, 0))) : w1.heap[g]? = some (.cells cs t (0, 0)) :=
  blk_grown h hg (fun e => by
    obtain ⟨q, cells, hq, hc⟩ := ht _ e.symm
    have := hc.symm.trans h
    injection this with this
    injection this with _ e2 _
    exact hq e2)
/-- A kind is made and put behind row i. -/
theorem Mem.put (h : Mem gf gp cp n A0 m0 c0 w0 s ad rows funs Af cf pr w) {i : Nat} (hi : i < n) {oki : Nat → Prop} {v : Value} (hoki : ∀ k, oki k → some k ≠ (Value.slice Af funs.length cf).ownBlock ∧ k ≠ gp) (hv : (Kd.raw 1).R 72 w w0.heap.size oki v (kds ad (rows.getD i [])))
    {g : Nat} (hb5 : Below w.heap.size w w5) (hH5 : Held w0.heap.size (s ++ [kbare]) (ad ++ [g]) w5) (hg1 : w5.grownBy w1 v.ownBlock) (hg2 : w1.grownBy w2 (some gp)) (hbw : Below w0.heap.size w0 w2)
    (hS : Kd.S KR 75 w2 w0.heap.size (fun k => some k ≠ (Value.slice Af funs.length cf).ownBlock) (.slice (some ⟨gp, 0, none⟩) n cp) ((rows.map (kds ad)).set i (kds ad (rows.getD i []) ++ [[pk (ad ++ [g]) s.length]]))) :
    Mem gf gp cp n A0 m0 c0 w0 (s ++ [kbare]) (ad ++ [g]) (rows.set i (rows.getD i [] ++ [s.length])) funs Af cf pr w2 := by
  have hl := h.held.len
  have h5 := h.sub hb5
  have tv : ∀ k, v.ownBlock = some k → ∃ cells, w5.heap[k]? = some (.cells cells 72 (0, 0)) := fun k hk => by
    obtain ⟨cells, hc⟩ := Kd.R_typed hv k hk
    exact ⟨cells, blk_below hc hb5⟩
  have tp : ∀ w' : World, w5.grownBy w' v.ownBlock → ∃ cells, w'.heap[gp]? = some (.cells cells 75 (0, 0)) := fun w' hg => by
    obtain ⟨cells, hc⟩ := Kd.S_typed h5.rows gp (by simp [Value.ownBlock])
    exact ⟨cells, blk_grownT hc hg (fun k hk => by obtain ⟨c, hk'⟩ := tv k hk; exact ⟨72, c, by decide, hk'⟩)⟩
  obtain ⟨cp1, hcp1⟩ := tp w1 hg1
  have rl : rows.length = n := by have := (Kd.S_reads' h.rows).1; rw [List.length_map] at this; exact this.symm
  have brow : ∀ p, p ∈ rows.getD i [] → p < s.length := fun p hp => by
    rw [List.getD_eq_getElem?_getD, List.getElem?_eq_getElem (by omega)] at hp
    exact h.brows _ (List.getElem_mem _) p hp
  refine ⟨?_, by rw [List.length_append]; exact Nat.lt_of_lt_of_le h.pos (Nat.le_add_right _ _), ?_, ?_, ?_, ?_, fun p hp => by rw [List.length_append]; have := h.bfuns p hp; omega, h.gf0, hbw⟩
  · exact Held.grownT (Held.grownT hH5 hg1 (fun k hk => by obtain ⟨c, hk'⟩ := tv k hk; exact ⟨72, c, by decide, hk'⟩)) hg2 (fun k hk => by injection hk with hk; subst hk; exact ⟨75, cp1, by decide, hcp1⟩)
  · have e : (rows.set i (rows.getD i [] ++ [s.length])).map (kds (ad ++ [g])) = (rows.map (kds ad)).set i (kds ad (rows.getD i []) ++ [[pk (ad ++ [g]) s.length]]) := by
      rw [List.map_set, rows_app (fun ps hp p hq => by rw [hl]; exact h.brows ps hp p hq)]
      congr 1
      unfold kds
      rw [List.map_append]
      congr 1
      exact List.map_congr_left (fun p hp => by rw [pk_app (by rw [hl]; exact brow p hp)])
    rw [e]
    exact hS
  · rw [kds_app (fun p hp => by rw [hl]; exact h.bfuns p hp)]
    have f1 := Kd.R_tight rfl h5.funs
    have f2 : (Kd.raw 1).R 72 w1 w0.heap.size (fun k => some k = (Value.slice Af funs.length cf).ownBlock) (.slice Af funs.length cf) (kds ad funs) := Kd.R_grown f1 hg1 (fun k hk hk2 => (hoki k (hv.1 k hk2.symm)).1 hk)
    exact Kd.R_mono (Kd.R_grown f2 hg2 (fun k hk hk2 => by
      injection hk2 with hk2
      subst hk2
      obtain ⟨c, hc⟩ := Kd.R_typed f2 k hk.symm
      have := hc.symm.trans hcp1
      injection this with this
      injection this with _ e2 _
      exact absurd e2 (by decide))) (fun _ _ => trivial)
  · rw [pk_app (by rw [hl]; exact h.pos)]
    exact blk_grownT (blk_grownT h5.fin hg1 (fun k hk => by obtain ⟨c, hk'⟩ := tv k hk; exact ⟨72, c, by decide, hk'⟩)) hg2 (fun k hk => by injection hk with hk; subst hk; exact ⟨75, cp1, by decide, hcp1⟩)
  · intro ps hp p hq
    rw [List.length_append]
    simp only [List.length_cons, List.length_nil]
    rcases List.mem_or_eq_of_mem_set hp with hp | hp
    · have := h.brows ps hp p hq; omega
    · subst hp
      rcases List.mem_append.1 hq with hq | hq
      · have := brow p hq; omega
      · rw [List.mem_singleton] at hq; omega
/-- A row of pointers of the call's own, read. -/
theorem Ptrs_of_R {B : Nat} {ok : Nat → Prop} {A : Option Addr} {c : Nat} {ps : List Nat} (h : (Kd.raw 1).R 72 w B ok (.slice A ps.length c) (kds ad ps)) (hp : ∀ p, p ∈ ps → p < ad.length) (hl : ps.length ≤ 9223372036854775807) : Ptrs ad w A ps := by
  refine ⟨hl, hp, fun h0 => ?_⟩
  obtain ⟨_, _, hC⟩ := Kd.R_reads' h
  rw [kds_len] at hC
  obtain ⟨ad0, c0, he0, _⟩ := Kd.C_get hC [] 0 (by omega) (by omega)
  refine ⟨ad0, he0, fun j p hj => ?_⟩
  have hjl := (List.getElem?_eq_some_iff.1 hj).1
  obtain ⟨ad1, c1, he1, hcl, hK, hcc⟩ := Kd.C_get hC [] (j : Int) (by omega) (by omega)
  rw [he0] at he1
  injection he1 with he1
  subst he1
  have hc1 : c1 = [pk ad p] := by
    have h1 := hK.1
    rw [Int.toNat_natCast, List.getD_eq_getElem?_getD] at h1
    unfold kds at h1
    rw [List.getElem?_map, hj] at h1
    exact h1
  have := hcc 0 (pk ad p) (by rw [hc1]; rfl)
  rw [Int.toNat_natCast] at this
  exact (congrArg w.cell? (congrArg ad0.add (show j = j * (Kd.raw 1).sz + 0 from by show j = j * 1 + 0; omega))).trans this
theorem Held.far {B g t j : Nat} {cs : Array Value} (h : Held B s ad w) (hg : w.heap[g]? = some (.cells cs t (0, 0))) (ht : t ≠ 74) (u : Value) : Held B s ad (w.setCell ⟨g, j, none⟩ u) :=
  ⟨h.len, h.nodup, h.ge, fun i n hn => blk_far (h.cell i n hn) (fun e => blk_ne hg (h.cell i n hn) ht e.symm) u, h.ok⟩
/-- The kind of one function more. -/
theorem Mem.putFun (h : Mem gf gp cp n A0 m0 c0 w0 s ad rows funs Af cf pr w) {k : Nat} (hk : k < s.length) {A2 : Option Addr} {c2 : Nat} (hg : w.grownBy w1 (Value.slice Af funs.length cf).ownBlock)
    (ho : (Kd.raw 1).R 72 w1 w0.heap.size (fun _ => True) (.slice A2 (funs.length + 1) c2) (kds ad funs ++ [[pk ad k]])) (hb : Below w0.heap.size w0 w1) (hat : (Value.slice A2 (funs.length + 1) c2).ownBlock = (Value.slice Af funs.length cf).ownBlock ∨ ∃ b, (Value.slice A2 (funs.length + 1) c2).ownBlock = some b ∧ w.heap.size ≤ b) :
    Mem gf gp cp n A0 m0 c0 w0 s ad rows (funs ++ [k]) A2 c2 pr (w1.setCell ⟨gf, 2, none⟩ (.slice A2 (funs.length + 1) c2)) := by
  have tf : ∀ k, (Value.slice Af funs.length cf).ownBlock = some k → ∃ cells, w.heap[k]? = some (.cells cells 72 (0, 0)) := Kd.R_typed h.funs
  have hH1 := Held.grownT h.held hg (fun k hk => by obtain ⟨c, hc⟩ := tf k hk; exact ⟨72, c, by decide, hc⟩)
  have hf1 := blk_grownT h.fin hg (fun k hk => by obtain ⟨c, hc⟩ := tf k hk; exact ⟨72, c, by decide, hc⟩)
  have hS1 := Kd.S_after (v1 := .slice A2 (funs.length + 1) c2) (ok := fun _ => True) (Kd.S_mono h.rows (fun k hk => ⟨trivial, hk⟩)) hg hat
  have hlen : (funs ++ [k]).length = funs.length + 1 := by rw [List.length_append]; rfl
  refine ⟨Held.far hH1 hf1 (by decide) _, h.pos, ?_, ?_, ?_, h.brows, fun p hp => ?_, h.gf0, hb.setCell h.gf0 _⟩
  · rw [hlen]
    exact Kd.S_set (Kd.S_mono hS1 (fun k hk => hk.2)) hf1 (by decide) _ _
  · rw [hlen]
    have e : kds ad (funs ++ [k]) = kds ad funs ++ [[pk ad k]] := by unfold kds; rw [List.map_append]; rfl
    rw [e]
    exact Kd.R_set ho hf1 (by decide) _ _
  · rw [hlen]
    exact blk_put hf1 2 _ rfl
  · rcases List.mem_append.1 hp with hp | hp
    · exact h.bfuns p hp
    · rw [List.mem_singleton] at hp; omega
theorem Held.notin {B g t : Nat} {cs : Array Value} (h : Held B s ad w) (hg : w.heap[g]? = some (.cells cs t (0, 0))) (ht : t ≠ 74) : g ∉ ad := fun hm => by
  obtain ⟨i, hi, e⟩ := List.getElem_of_mem hm
  obtain ⟨m, _, hm2⟩ := h.at (i := i) (by rw [← h.len]; exact hi)
  have e2 : bk ad i = g := by
    unfold bk
    rw [List.getD_eq_getElem?_getD, List.getElem?_eq_getElem hi]
    exact e
  rw [e2] at hm2
  exact blk_ne hg hm2 ht rfl
/-- The kinds have been made the same, new ones have been made. -/
theorem Mem.turn (h : Mem gf gp cp n A0 m0 c0 w0 s ad rows funs Af cf pr w) (hH : Held w0.heap.size s' (ad ++ e') w1) (ht : Turned (fun k => k ∈ ad) w w1) : Mem gf gp cp n A0 m0 c0 w0 s' (ad ++ e') rows funs Af cf pr w1 := by
  have hl := h.held.len
  have hl' := hH.len
  rw [List.length_append] at hl'
  have hle : s.length ≤ s'.length := by omega
  refine ⟨hH, Nat.lt_of_lt_of_le h.pos hle, ?_, ?_, ?_, fun ps hp p hq => Nat.lt_of_lt_of_le (h.brows ps hp p hq) hle, fun p hp => Nat.lt_of_lt_of_le (h.bfuns p hp) hle, h.gf0, Turned.below ht h.below h.below.size (fun k hk => h.held.ge k hk)⟩
  · rw [rows_app (fun ps hp p hq => by rw [hl]; exact h.brows ps hp p hq)]
    exact Kd.S_mono (Kd.S_step (Kd.S_bound h.rows) (fun k hk hlt => by
      obtain ⟨_, _, _, q, hq, cells, hc⟩ := hk
      refine ht.block k hlt (h.held.notin hc ?_)
      simp [Kd.slice, Kd.raw] at hq
      omega)) (fun k hk => hk.1)
  · rw [kds_app (fun p hp => by rw [hl]; exact h.bfuns p hp)]
    exact Kd.R_mono (Kd.R_step (Kd.R_bound h.funs) (fun k hk hlt => by
      obtain ⟨_, _, _, q, hq, cells, hc⟩ := hk
      refine ht.block k hlt (h.held.notin hc ?_)
      simp [Kd.raw] at hq
      omega)) (fun k hk => trivial)
  · rw [pk_app (by rw [hl]; exact h.pos)]
    exact (ht.block gf (blk_lt h.fin) (h.held.notin h.fin (by decide))).trans h.fin
/-- f.params is set. -/
theorem Mem.setPr (h : Mem gf gp cp n A0 m0 c0 w0 s ad rows funs Af cf pr w) (v : Value) : Mem gf gp cp n A0 m0 c0 w0 s ad rows funs Af cf v (w.setCell ⟨gf, 3, none⟩ v) :=
  ⟨Held.far h.held h.fin (by decide) _, h.pos, Kd.S_set h.rows h.fin (by decide) _ _, Kd.R_set h.funs h.fin (by decide) _ _, blk_put h.fin 3 v rfl, h.brows, h.bfuns, h.gf0, h.below.setCell h.gf0 _⟩
/-- The finder, for the walk of a term. -/
theorem Mem.find {l0 : List S59} {ps : List Nat} {Ap : Option Addr} {cp' : Nat} (h : Mem gf gp cp n A0 l0.length c0 w0 s ad rows funs Af cf (.slice Ap ps.length cp') w) (hP : (Kd.raw 1).R 72 w w0.heap.size (fun _ => True) (.slice Ap ps.length cp') (kds ad ps)) (hps : ∀ p, p ∈ ps → p < s.length) (hl1 : ps.length ≤ 9223372036854775807) (hl2 : funs.length ≤ 9223372036854775807) :
    Find ⟨0, l0, funs, ps⟩ s ad gf A0 c0 w := by
  have hl := h.held.len
  have blk : ∀ (A : Option Addr) (c : Nat) (qs : List Nat), (Kd.raw 1).R 72 w w0.heap.size (fun _ => True) (.slice A qs.length c) (kds ad qs) → ∀ a, A = some a → a.block ∉ ad ∧ a.block < w.heap.size := by
    intro A c qs hR a ha
    subst ha
    have ho : (Value.slice (some a) qs.length c).ownBlock = some a.block := rfl
    obtain ⟨cells, hc⟩ := Kd.R_typed hR a.block ho
    exact ⟨h.held.notin hc (by decide), blk_lt hc⟩
  exact ⟨⟨Af, cf, Ap, cp', h.fin, Ptrs_of_R h.funs (fun p hp => by rw [hl]; exact h.bfuns p hp) hl2, Ptrs_of_R hP (fun p hp => by rw [hl]; exact hps p hp) hl1, blk _ _ _ h.funs, blk _ _ _ hP⟩, h.held.notin h.fin (by decide), h.pos⟩
end Go.Proofs.Ytfhgoebgnilfaaa.I
