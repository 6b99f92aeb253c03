/- Texts of this session's proof, laid together: IU6, IZE, IZ2, IU7, IU8, IX6, IS4, IZ4. -/
import Derived.Deep.RegionLaw
import Derived.Deep.RegionHeld3
import Derived.Test.YtfhgoebgnilfaaaU6
namespace Go.Proofs.Ytfhgoebgnilfaaa.I
open Go.RowKit Go.Proofs.YtfhgoebgnilfaaaW.PrintWords Go.Proofs.YtfhgoebgnilfaaaW.PrintLast Go.Proofs.YtfhgoebgnilfaaaW.PrintMore
set_option linter.unusedVariables false
set_option linter.unusedSimpArgs false
theorem GSorts.inv {syms : List S59} {l : List S48} {out : List S41} {er : Int} (h : GSorts syms l out er) : ∃ b s, GBodies (gS syms).1 (gH syms l).1.2 (gH syms l).2 (gH syms l).1.1 l b s ∧
    ((b = false ∧ out = [] ∧ er = 6) ∨ (b = true ∧ ∃ r, GRounds s (List.replicate s.length 0) 0 r ∧ ((r = true ∧ out = [] ∧ er = 6) ∨ (r = false ∧ ∃ o, GOuts s [] (gH syms l).1.2 o ∧ ((o = none ∧ out = [] ∧ er = 3) ∨ (o = some out ∧ er = 0)))))) := by
  cases h with
  | bad hb => exact ⟨_, _, hb, .inl ⟨rfl, rfl, rfl⟩⟩
  | ring hb hr => exact ⟨_, _, hb, .inr ⟨rfl, _, hr, .inl ⟨rfl, rfl, rfl⟩⟩⟩
  | many hb hr ho => exact ⟨_, _, hb, .inr ⟨rfl, _, hr, .inr ⟨rfl, _, ho, .inl ⟨rfl, rfl, rfl⟩⟩⟩⟩
  | good hb hr ho => exact ⟨_, _, hb, .inr ⟨rfl, _, hr, .inr ⟨rfl, _, ho, .inr ⟨rfl, rfl⟩⟩⟩⟩
theorem gchain_len (s : List GN) (ps : List Nat) (d0 : Nat) : (gchain s ps d0).2.length = s.length + ps.length := by
  unfold gchain
  rw [gchainR_len, List.length_reverse]
theorem GSort.bound {hd : Int → Int → Option Nat} {s s' : List GN} {n : Nat} {l : List S44} {r : Option Nat} (h : GSort hd s n l r s') : (s'.length : Int) ≤ s.length + 2 * tcntL l := by
  induction h with
  | nil => simp [tcntL]
  | @bad s s1 n m x xs _ _ ih =>
    have h1 := tcnt_f2 x
    have h2 := tcntL_ge xs
    simp only [tcntL]
    omega
  | @clash s s1 s2 n m a x xs _ _ hu ih =>
    have h0 := hu.len
    rw [gtwo_len] at h0
    have h1 := tcnt_f2 x
    have h2 := tcntL_ge xs
    simp only [tcntL]
    omega
  | @step s s1 s2 s3 n m a x xs r _ _ hu _ ih1 ih2 =>
    have h0 := hu.len
    rw [gtwo_len] at h0
    have h1 := tcnt_f2 x
    simp only [tcntL]
    omega
theorem R_beside {α : Type} {d : Kd α} {e b : Nat} {Q : Nat → Prop} {w w1 : World} {u u1 v : Value} {xs : List α} (h : d.R e w b (fun k => Q k ∧ some k ≠ u.ownBlock) v xs) (hg : w.grownBy w1 u.ownBlock) (hat : u1.ownBlock = u.ownBlock ∨ ∃ q, u1.ownBlock = some q ∧ w.heap.size ≤ q) : d.R e w1 b (fun k => Q k ∧ some k ≠ u1.ownBlock) v xs := by
  refine Kd.R_mono (Kd.R_grown (Kd.R_bound h) hg (fun k hk => hk.1.2)) (fun k hk => ⟨hk.1.1, fun e => ?_⟩)
  rcases hat with h1 | ⟨q, h1, hq⟩
  · exact hk.1.2 (e.trans h1)
  · rw [h1] at e
    injection e with e
    have := hk.2.2.1
    omega
theorem R_beside1 {α : Type} {d : Kd α} {e b : Nat} {w w1 : World} {u u1 v : Value} {xs : List α} (h : d.R e w b (fun k => some k ≠ u.ownBlock) v xs) (hg : w.grownBy w1 u.ownBlock) (hat : u1.ownBlock = u.ownBlock ∨ ∃ q, u1.ownBlock = some q ∧ w.heap.size ≤ q) : d.R e w1 b (fun k => some k ≠ u1.ownBlock) v xs :=
  Kd.R_mono (R_beside (Q := fun _ => True) (Kd.R_mono h (fun k hk => ⟨trivial, hk⟩)) hg hat) (fun k hk => hk.2)
theorem gsyms_step {s : List GN} {x : S59} {xs : List S59} {pre : List Nat} {g : List Nat × List GN} (h : g = (pre ++ (gsyms s (x :: xs)).1, (gsyms s (x :: xs)).2)) : g = ((pre ++ [(gchain s (List.replicate x.f1.toNat 0) 0).1]) ++ (gsyms (gchain s (List.replicate x.f1.toNat 0) 0).2 xs).1, (gsyms (gchain s (List.replicate x.f1.toNat 0) 0).2 xs).2) := by
  rw [h, List.append_assoc]
  rfl
theorem GM.grown {gg B : Nat} {row r : Option Nat} {w w' : World} {s : List GN} (h : GM gg B row w s) (hw : w.grownBy w' r) (hr : ∀ k, r = some k → ∃ cells t, w.heap[k]? = some (.cells cells t (0, 0)) ∧ t ≠ 90 ∧ t ≠ 114) : GM gg B row w' s := by
  obtain ⟨h0, A, c, h1, h2, h3⟩ := h
  refine ⟨h0, A, c, blk_grown h1 hw (fun e => ?_), ?_, h3⟩
  · obtain ⟨cells, t, hc, ht, _⟩ := hr gg e.symm
    exact ht (blk_type hc h1)
  · refine Kd.R_mono (Kd.R_move (Kd.R_bound h2) (fun k hk => ?_)) (fun _ hk => hk.1)
    obtain ⟨_, _, hl, q, hq, c1, hc⟩ := hk
    refine hw.block k hl (fun e => ?_)
    obtain ⟨cells, t, hc2, _, ht⟩ := hr k e.symm
    have := blk_type hc2 hc
    rcases List.mem_cons.1 hq with e | hq
    · exact ht (this.trans e)
    · cases hq
theorem chain_calls' {gg B : Nat} {row : Option Nat} {w : World} {s : List GN} {c d0 n : Nat} {di : Int} {A : Option Addr} {ps : List Nat} (hn : ps.length = n) (hd : di = (d0 : Int)) (hM : GM gg B row w s) (hBw : B ≤ w.heap.size) (hl : s.length + n ≤ 1000000) {b : Nat} {ok : Nat → Prop} (hR : KI.R 3 w b ok (.slice A n c) (ints ps)) :
    Calls Try.prog 43 #[.pointer (some ⟨gg, 0, none⟩), .slice A n c, .int .i64 di] w fun e w' => ∃ row', e = .returned (.int .i64 ((gchain s ps d0).1 : Int)) ∧ GM gg B row' w' (gchain s ps d0).2 ∧ GKeep gg row row' w w' := by
  subst hn hd
  refine chain_calls hM hBw hl (fun w' row' hK => ?_)
  have := (Kd.R_reads' (hK.R hM hR (by decide))).2.2
  rwa [ints_len] at this
theorem ints_app (a : List Nat) (b : Nat) : ints (a ++ [b]) = ints a ++ [(b : Int)] := by unfold ints; rw [List.map_append]; rfl
theorem ints_rep (n : Nat) : List.replicate n (0 : Int) = ints (List.replicate n 0) := by unfold ints; rw [List.map_replicate]; rfl
theorem info3 : (Try.prog.info? 3).map (fun i => (i.zero, i.size, i.bytes)) = some (some (.int .i64 0), 1, 8) := by kernel_rfl
theorem make_row (n : Nat) (hn : n ≤ 1000000) : ∃ ob : Obj, (∀ w : World, (Instr.makeSlice 92 (.int .i64 (n : Int)) (.int .i64 (n : Int))).run Try.prog w = .ok (.slice (some ⟨w.heap.size, 0, none⟩) n n) (w.alloc ob)) ∧
    (∀ (w : World) (b : Nat), b ≤ w.heap.size → KI.R 3 (w.alloc ob) b (fun _ => True) (.slice (some ⟨w.heap.size, 0, none⟩) n n) (ints (List.replicate n 0))) := by
  obtain ⟨i0, hi, hzz⟩ := Option.map_eq_some_iff.1 info3
  simp only [Prod.mk.injEq] at hzz
  obtain ⟨hz0, hz1, hz2⟩ := hzz
  refine ⟨.cells (madeCells #[.int .i64 0] (n * 1)) 3, fun w => ?_, fun w b hb => ?_⟩
  · have h := run_make (P := Try.prog) (w := w) 92 3 i0 (.int .i64 0) Try.underlying92 hi hz0 .i64 .i64 (n : Int) (n : Int) (by omega) (by omega) (by rw [hz2]; omega) (by omega)
    rw [hz1, Int.toNat_natCast] at h
    exact h
  · have hr : Reps (KI.M w b (fun _ => False)) KI.sz (List.replicate n (0 : Int)) (madeCells #[.int .i64 0] (n * 1)).toList := Kd.reps_made (R := KI.M w b (fun _ => False)) (z := .int .i64 0) (size := 1) (z0 := (0 : Int)) rfl (by decide) rfl n
    have h := OwnRow.lit (e := 3) w b (hr.imp_ (R' := KI.M (w.alloc (.cells (madeCells #[.int .i64 0] (n * 1)) 3)) b (fun k => True ∧ some k ≠ (Value.slice (some ⟨w.heap.size, 0, none⟩) n n).ownBlock)) (fun p c hp => hp)) hb (by rw [List.length_replicate]; omega)
    rw [List.length_replicate] at h
    rw [← ints_rep]
    refine ⟨fun _ _ => trivial, ?_⟩
    simpa using h
theorem gheads_step {s : List GN} {x : S48} {xs : List S48} {pre : List (List Nat)} {pf : List Nat} {g : (List (List Nat) × List Nat) × List GN} (h : g = ((pre ++ (gheads s (x :: xs)).1.1, pf ++ (gheads s (x :: xs)).1.2), (gheads s (x :: xs)).2)) {n : Nat} (hn : x.f1.toNat = n) :
    g = (((pre ++ [List.range' s.length n]) ++ (gheads (gchain (s ++ List.replicate n gbare) (List.range' s.length n) 0).2 xs).1.1, (pf ++ [(gchain (s ++ List.replicate n gbare) (List.range' s.length n) 0).1]) ++ (gheads (gchain (s ++ List.replicate n gbare) (List.range' s.length n) 0).2 xs).1.2), (gheads (gchain (s ++ List.replicate n gbare) (List.range' s.length n) 0).2 xs).2) := by
  subst hn
  rw [h, List.append_assoc, List.append_assoc]
  rfl
theorem range_snoc (a j : Nat) : List.range' a (j + 1) = List.range' a j ++ [a + j] := by rw [List.range'_concat, Nat.one_mul]
theorem bares_snoc (s : List GN) (j : Nat) : s ++ List.replicate (j + 1) gbare = s ++ List.replicate j gbare ++ [⟨0, 0, 0⟩] := by rw [List.replicate_succ', List.append_assoc]; rfl
theorem to48_drop {l : List S56} {i : Nat} (h : i < l.length) : (l.map to48).drop i = to48 l[i] :: (l.map to48).drop (i + 1) := by
  rw [List.drop_eq_getElem_cons (by rw [List.length_map]; exact h), List.getElem_map]
theorem GBodies.inv {hs hf : List Nat} {s s' : List GN} {ps : List Nat} {pss : List (List Nat)} {x : S48} {xs : List S48} {b : Bool} (h : GBodies hs hf s (ps :: pss) (x :: xs) b s') : ∃ m, hdR ps hf hs x.f2.f0 x.f2.f1 = some m ∧
    ((b = false ∧ GSort (hdR ps hf hs) s m x.f2.f2 none s') ∨ (∃ k s1, GSort (hdR ps hf hs) s m x.f2.f2 (some k) s1 ∧ GUni s1 k 0 false s' ∧ b = false) ∨ (∃ k s1 s2, GSort (hdR ps hf hs) s m x.f2.f2 (some k) s1 ∧ GUni s1 k 0 true s2 ∧ GBodies hs hf s2 pss xs b s')) := by
  cases h with
  | bad hm h1 => exact ⟨_, hm, .inl ⟨rfl, h1⟩⟩
  | clash hm h1 hu => exact ⟨_, hm, .inr (.inl ⟨_, _, h1, hu, rfl⟩)⟩
  | step hm h1 hu h2 => exact ⟨_, hm, .inr (.inr ⟨_, _, _, h1, hu, h2⟩)⟩
theorem GBodies.inv_nil {hs hf : List Nat} {s s' : List GN} {pss : List (List Nat)} {b : Bool} (h : GBodies hs hf s pss [] b s') : b = true ∧ s' = s := by
  cases h; exact ⟨rfl, rfl⟩
theorem unify_calls' {gg B : Nat} {row : Option Nat} {w : World} {s s' : List GN} {a b : Nat} {bi : Int} {r : Bool} (hb : bi = (b : Int)) (h : GUni s a b r s') (hw : GWF s) (hM : GM gg B row w s) (hB : B ≤ w.heap.size) (hl : s.length ≤ 1000000) :
    Calls Try.prog 45 #[.pointer (some ⟨gg, 0, none⟩), .int .i64 (a : Int), .int .i64 bi] w (UniOk gg B row r s' w) := by
  subst hb
  exact unify_calls h hw row w hM hB hl
theorem GRounds.inv {s : List GN} {st : List Nat} {i : Nat} {r : Bool} (h : GRounds s st i r) (hi : i < s.length) : (∃ st', GRound s st i true st' ∧ r = true) ∨ (∃ st', GRound s st i false st' ∧ GRounds s st' (i + 1) r) := by
  cases h with
  | done h1 => omega
  | ring _ h1 => exact .inl ⟨_, h1, rfl⟩
  | next _ h1 h2 => exact .inr ⟨_, h1, h2⟩
theorem GRounds.end_ {s : List GN} {st : List Nat} {r : Bool} (h : GRounds s st s.length r) : r = false := by
  cases h with
  | done h1 => rfl
  | ring h1 _ => omega
  | next h1 _ _ => omega
theorem GOuts.inv {s : List GN} {acc : List S41} {k : Nat} {ks : List Nat} {r : Option (List S41)} (h : GOuts s acc (k :: ks) r) : ∃ c p m, GEnd s c k p ∧ GNodesL s p 60 1 m ∧ ((60 < m ∧ r = none) ∨ (m ≤ 60 ∧ ∃ l, GOutL s p [] l ∧ ((isok l = false ∧ r = none) ∨ (isok l = true ∧ GOuts s (acc ++ [⟨l⟩]) ks r)))) := by
  cases h with
  | many he hn hm => exact ⟨_, _, _, he, hn, .inl ⟨hm, rfl⟩⟩
  | bad he hn hm ho hi => exact ⟨_, _, _, he, hn, .inr ⟨hm, _, ho, .inl ⟨hi, rfl⟩⟩⟩
  | step he hn hm ho hi h2 => exact ⟨_, _, _, he, hn, .inr ⟨hm, _, ho, .inr ⟨hi, h2⟩⟩⟩
theorem GOuts.inv_nil {s : List GN} {acc : List S41} {r : Option (List S41)} (h : GOuts s acc [] r) : r = some acc := by cases h; rfl
theorem rows_at {w : World} {B n c i : Nat} {ok : Nat → Prop} {A : Option Addr} {pss : List (List Nat)} (h : (Kd.slice 3 KI).R 92 w B ok (.slice A n c) (pss.map ints)) (hn : n = pss.length) (hi : i < pss.length) : ∃ (g : Nat) (A' : Option Addr) (c' : Nat), A = some ⟨g, 0, none⟩ ∧ w.cell? ⟨g, i, none⟩ = some (.slice A' (pss[i]).length c') ∧ KI.R 3 w B (fun _ => True) (.slice A' (pss[i]).length c') (ints pss[i]) := by
  subst hn
  have hl : (pss.map ints).length = pss.length := List.length_map ..
  have h' : (Kd.slice 3 KI).R 92 w B ok (.slice A (pss.map ints).length c) (pss.map ints) := by rw [hl]; exact h
  obtain ⟨g, cap, e, hB, _, cells, hg⟩ := Kd.R_form h' (by omega)
  injection e with e1 _ e2
  subst e1 e2
  obtain ⟨co, _, hM, hcc, _⟩ := Kd.R_elem h' [] (i : Int) (by omega) (by rw [hl]; omega)
  obtain ⟨v, rfl, hV⟩ := hM
  have he : (pss.map ints).getD (i : Int).toNat [] = ints pss[i] := by rw [Int.toNat_natCast, List.getD_eq_getElem?_getD, List.getElem?_map, List.getElem?_eq_getElem hi]; rfl
  rw [he] at hV
  obtain ⟨A', c', e⟩ := Kd.R_slice hV
  rw [ints_len] at e
  subst e
  have y := hcc 0 _ rfl
  rw [Int.toNat_natCast] at y
  refine ⟨g, A', c', rfl, ?_, Kd.R_mono hV (fun _ _ => trivial)⟩
  exact (congrArg (fun j => w.cell? ⟨g, j, none⟩) (show i = i * (Kd.slice 3 KI).sz + 0 from by show i = i * 1 + 0; omega)).trans y
theorem nodes_calls' {gg B : Nat} {row : Option Nat} {w : World} {s : List GN} {h : Nat → Nat} (wf : WF (s.map toK) h) (hM : GM gg B row w s) (hl : s.length ≤ 1000000) {n c p r : Nat} (he : GEnd s c n p) (hn : GNodesL s p 60 1 r) :
    Calls Try.prog 47 #[.pointer (some ⟨gg, 0, none⟩), .int .i64 (n : Int), .int .i64 60] w fun e w' => e = .returned (.int .i64 (r : Int)) ∧ w' = w :=
  nodes_calls wf hM hl _ n c p 60 r he (Nat.lt_succ_self _) (by omega) hn
end Go.Proofs.Ytfhgoebgnilfaaa.I
namespace Go.Proofs.Ytfhgoebgnilfaaa.I
open Go.RowKit Go.Proofs.YtfhgoebgnilfaaaW.PrintWords Go.Proofs.YtfhgoebgnilfaaaW.PrintLast Go.Proofs.YtfhgoebgnilfaaaW.PrintMore
attribute [local go_sem] max2_int min2_int max_two min_two max_three min_three max_four min_four
set_option linter.unusedVariables false
set_option maxRecDepth 100000
set_option linter.unusedSimpArgs false
theorem many_other {k : Int} (h0 : ¬ k = 0) (h1 : ¬ k = 1) (h2 : ¬ k = 2) (p f s : Int) : manyK k p f s = 0 := by unfold manyK; rw [if_neg h2, if_neg h1, if_neg h0]
theorem known_step {l : List S44} {p f s : Int} {i : Nat} (h : i < l.length) : knownL (l.drop i) p f s = (knownS (rd_T44 l (i : Int)) p f s && knownL (l.drop (i + 1)) p f s) := by rw [rd_T44_drop l i h, knownL]
theorem isK_of {k n p f s : Int} (h0 : 0 ≤ n) (h : n < manyK k p f s) : isK k = true := by
  unfold isK
  by_cases a : k = 0 ∨ k = 1 ∨ k = 2
  · exact decide_eq_true a
  · rw [many_other (fun e => a (.inl e)) (fun e => a (.inr (.inl e))) (fun e => a (.inr (.inr e)))] at h; omega
set_option maxHeartbeats 8000000 in
theorem exist_calls (N : Nat) : ∀ (k n : Int) (l : List S44) (A : Option Addr) (c : Nat) (p f s : Int) (w : World), SizeOf.sizeOf l < N → Kd.C k44 w A l.length l → l.length ≤ c →
    Calls Try.prog 36 #[.agg #[.int .i64 k, .int .i64 n, .slice A l.length c], .int .i64 p, .int .i64 f, .int .i64 s] w fun e w' => e = .returned (.bool (knownS ⟨k, n, l⟩ p f s)) ∧ Below w.heap.size w w' := by
  have hu44 := Try.underlying44
  have hu42 := Try.underlying42
  induction N with
  | zero => intro k n l A c p f s w hN; omega
  | succ N ih =>
  intro k n l A c p f s w hN hr hc
  have hlen : l.length ≤ 9223372036854775807 := hr.2.1
  have HR := Aside0.mk hr
  have HC := Aside0.mk hc
  have HN := Aside0.mk hN
  have IH := Aside0.mk ih
  clear hr hc hN ih
  obtain ⟨r, hr⟩ : ∃ r, r = knownS ⟨k, n, l⟩ p f s := ⟨_, rfl⟩
  rw [← hr]
  have HE := Aside0.mk hr
  clear hr
  by_cases hn : n < 0
  · have hr : r = false := by rw [HE.out]; unfold knownS; rw [decide_eq_false (show ¬ 0 ≤ n from by omega)]; simp
    have q0 : (n < 0) = True := eq_true hn
    subst hr
    clear HE hn
    by_cases h0 : k = 0
    rotate_left
    by_cases h1 : k = 1
    rotate_left
    by_cases h2 : k = 2
    rotate_left
    rotate_left
    all_goals (
      go_enter Try.func36, Try.ntmps36
      go_wp2_with (
        (with_reducible refine gate_dst (N := 4) rfl ?_)
        refine box_event ?hg (N := 4) ?hd (cs := #[.int .i64 k, .int .i64 n, .slice A l.length c]) (t := 44) ?hr ?_
        (case hd => rfl)
        (case hg => rfl)
        (case hr => first | (go_simp; done) | (go_simp; rfl))
        intro g4 hg4 w2 hbox hb2
        have S4 := Aside0.mk hbox
        have HB2 := Aside0.mk hb2
        have e0 : w2.cell? ⟨g4, 0, none⟩ = some (.int .i64 k) := (blk_cell hbox 0).trans rfl
        have e1 : w2.cell? ⟨g4, 1, none⟩ = some (.int .i64 n) := (blk_cell hbox 1).trans rfl
        have e2 : w2.cell? ⟨g4, 2, none⟩ = some (.slice A l.length c) := (blk_cell hbox 2).trans rfl
        clear hbox hb2 hg4)
      go_ret
      exact ⟨rfl, HB2.out⟩)
  have q0 : (n < 0) = False := eq_false hn
  by_cases hm : manyK k p f s ≤ n
  · have hr : r = false := by rw [HE.out]; unfold knownS; rw [decide_eq_false (show ¬ n < manyK k p f s from by omega)]; simp
    subst hr
    clear HE
    by_cases h0 : k = 0
    rotate_left
    by_cases h1 : k = 1
    rotate_left
    by_cases h2 : k = 2
    rotate_left
    rw [many_other h0 h1 h2] at hm
    rotate_left
    all_goals (
      try first
        | rw [h0] at hm
        | rw [h1] at hm
        | rw [h2] at hm
      have q1 := eq_true hm
      first
      | replace q1 : (p ≤ n) = True := q1
      | replace q1 : (f ≤ n) = True := q1
      | replace q1 : (s ≤ n) = True := q1
      | replace q1 : ((0 : Int) ≤ n) = True := q1
      clear hm hn
      go_enter Try.func36, Try.ntmps36
      go_wp2_with (
        (with_reducible refine gate_dst (N := 4) rfl ?_)
        refine box_event ?hg (N := 4) ?hd (cs := #[.int .i64 k, .int .i64 n, .slice A l.length c]) (t := 44) ?hr ?_
        (case hd => rfl)
        (case hg => rfl)
        (case hr => first | (go_simp; done) | (go_simp; rfl))
        intro g4 hg4 w2 hbox hb2
        have S4 := Aside0.mk hbox
        have HB2 := Aside0.mk hb2
        have e0 : w2.cell? ⟨g4, 0, none⟩ = some (.int .i64 k) := (blk_cell hbox 0).trans rfl
        have e1 : w2.cell? ⟨g4, 1, none⟩ = some (.int .i64 n) := (blk_cell hbox 1).trans rfl
        have e2 : w2.cell? ⟨g4, 2, none⟩ = some (.slice A l.length c) := (blk_cell hbox 2).trans rfl
        clear hbox hb2 hg4)
      go_ret
      exact ⟨rfl, HB2.out⟩)
  have HQ := Aside0.mk (show r = knownL (l.drop 0) p f s from by
    rw [HE.out]; unfold knownS; rw [isK_of (show 0 ≤ n from by omega) (show n < manyK k p f s from by omega), decide_eq_true (show 0 ≤ n from by omega), decide_eq_true (show n < manyK k p f s from by omega)]; rfl)
  have hk3 : k = 0 ∨ k = 1 ∨ k = 2 := by
    have := isK_of (show 0 ≤ n from by omega) (show n < manyK k p f s from by omega)
    exact of_decide_eq_true this
  clear HE hn
  rcases hk3 with h0 | h0 | h0
  all_goals (
    rw [h0] at hm
    have q1 := eq_false hm
    first
    | replace q1 : (p ≤ n) = False := q1
    | replace q1 : (f ≤ n) = False := q1
    | replace q1 : (s ≤ n) = False := q1
    clear hm
    go_enter Try.func36, Try.ntmps36
    go_wp2_with (
      (with_reducible refine gate_dst (N := 4) rfl ?_)
      refine box_event ?hg (N := 4) ?hd (cs := #[.int .i64 k, .int .i64 n, .slice A l.length c]) (t := 44) ?hr ?_
      (case hd => rfl)
      (case hg => rfl)
      (case hr => first | (go_simp; done) | (go_simp; rfl))
      intro g4 hg4 w2 hbox hb2
      have S4 := Aside0.mk hbox
      have HB2 := Aside0.mk hb2
      have e0 : w2.cell? ⟨g4, 0, none⟩ = some (.int .i64 k) := (blk_cell hbox 0).trans rfl
      have e1 : w2.cell? ⟨g4, 1, none⟩ = some (.int .i64 n) := (blk_cell hbox 1).trans rfl
      have e2 : w2.cell? ⟨g4, 2, none⟩ = some (.slice A l.length c) := (blk_cell hbox 2).trans rfl
      clear hbox hb2 hg4)
    clear e0 e1 e2 q0 q1
    go_loopg [35] l.length (fun kq v35 wr => ∃ i : Nat, v35 = .int .i64 (i : Int) ∧ Aside0 (i + kq = l.length) ∧ Aside0 (r = knownL (l.drop i) p f s) ∧ Aside0 (Below w.heap.size w wr))
    case atStart => exact ⟨0, rfl, ⟨by omega⟩, HQ, HB2⟩
    case round =>
      clear HQ HB2
      obtain ⟨i, rfl, Hi, HQ, HB⟩ := hrel
      by_cases hlt : i < l.length
      rotate_left
      · have hr : r = true := by have := HQ.out; rw [List.drop_of_length_le (by omega)] at this; exact this
        subst hr
        clear HQ
        go_wp2_with fail
        go_ret
        exact ⟨rfl, HB.out⟩
      obtain ⟨ad, A4, c4, he, hx2, hx3, hx4, hl4, hC4⟩ := at_T44 (Kd.C_below HR.out HB.out) (i : Int) (by omega) (by omega)
      cases he
      rw [Int.toNat_natCast] at hx2 hx3 hx4
      have HC4 := Aside0.mk hC4
      have Hl4 := Aside0.mk hl4
      have HSZ := Aside0.mk (show SizeOf.sizeOf (rd_T44 l (i : Int)).f2 < N from by have := rd_T44_mem l i hlt; have := HN.out; omega)
      have HQ2 := Aside0.mk (HQ.out.trans (known_step hlt))
      have q1 : (0 ≤ (i : Int)) = True := eq_true (by omega)
      have q2 : ((i : Int) < (l.length : Int)) = True := eq_true (by omega)
      have q3 : (i < l.length) = True := eq_true (by omega)
      clear hl4 hC4 HQ
      generalize rd_T44 l (i : Int) = x at *
      go_wp2_with (
        (with_reducible refine gate_dst (N := 11) rfl ?_)
        refine box_event ?hg (N := 11) ?hd (cs := #[.int .i64 0, .int .i64 0, .slice none 0 0]) (t := 44) ?hr ?_
        (case hd => rfl)
        (case hg => rfl)
        (case hr => first | (go_simp; done) | (go_simp; rfl))
        intro gi hgi w6 hbox hbb
        have hgw : wr.heap.size ≤ gi := by omega
        have Hbw := Aside0.mk (below_set (g := gi) (j := 2) (v := .slice A4 x.f2.length c4) (below_set (g := gi) (j := 1) (v := .int .i64 x.f1) (below_set (g := gi) (j := 0) (v := .int .i64 x.f0) hbb hgw) hgw) hgw)
        have Sgi := Aside0.mk (blk_put (cs' := #[.int .i64 x.f0, .int .i64 x.f1, .slice A4 x.f2.length c4]) (blk_put (cs' := #[.int .i64 x.f0, .int .i64 x.f1, .slice none 0 0]) (blk_put (cs' := #[.int .i64 x.f0, .int .i64 0, .slice none 0 0]) hbox 0 (.int .i64 x.f0) rfl) 1 (.int .i64 x.f1) rfl) 2 (.slice A4 x.f2.length c4) rfl)
        have hcz0 := (blk_cell hbox 0).trans rfl
        have hfz0 := blk_frozen hbox 0
        have hcz1 := (blk_cell hbox 1).trans rfl
        have hfz1 := blk_frozen hbox 1
        have hcz2 := (blk_cell hbox 2).trans rfl
        have hfz2 := blk_frozen hbox 2
        have n0 := (blk_cell Sgi.out 0).trans rfl
        have n1 := (blk_cell Sgi.out 1).trans rfl
        have n2 := (blk_cell Sgi.out 2).trans rfl
        clear hbox hbb hgi hgw)
      clear hcz0 hcz1 hcz2 hfz0 hfz1 hfz2 hx2 hx3 hx4 n0 n1 n2
      generalize (((w6.setCell ⟨gi, 0, none⟩ (.int .i64 x.f0)).setCell ⟨gi, 1, none⟩ (.int .i64 x.f1)).setCell ⟨gi, 2, none⟩ (.slice A4 x.f2.length c4)) = wq at *
      (with_reducible refine (IH.out x.f0 x.f1 x.f2 A4 c4 p f s wq HSZ.out (Kd.C_below HC4.out Hbw.out) Hl4.out).mono ?_)
      rintro e w8 ⟨rfl, hb8⟩
      rw [show (⟨x.f0, x.f1, x.f2⟩ : S44) = x from by cases x; rfl]
      have HB8 := Aside0.mk (below_step HB.out (below_step Hbw.out hb8))
      clear hb8 Hbw Sgi
      generalize knownS x p f s = b at *
      cases b with
      | false =>
        have hr : r = false := HQ2.out
        subst hr
        clear HQ2
        go_wp2_with fail
        go_ret
        exact ⟨rfl, HB8.out⟩
      | true =>
        have HN2 := Aside0.mk (show r = knownL (l.drop (i + 1)) p f s from HQ2.out)
        clear HQ2
        go_wp2_with fail
        have hk := Hi.out
        obtain ⟨k1, rfl⟩ : ∃ k1, gk = k1 + 1 := ⟨gk - 1, by omega⟩
        go_roundg k1
        case measure => omega
        case rel => exact ⟨i + 1, by go_num, ⟨by omega⟩, HN2, HB8⟩)
end Go.Proofs.Ytfhgoebgnilfaaa.I
namespace Go.Proofs.Ytfhgoebgnilfaaa.I
open Go.RowKit Go.Proofs.YtfhgoebgnilfaaaW.PrintWords Go.Proofs.YtfhgoebgnilfaaaW.PrintLast Go.Proofs.YtfhgoebgnilfaaaW.PrintMore
attribute [local go_sem] max2_int min2_int max_two min_two max_three min_three max_four min_four
set_option linter.unusedVariables false
set_option maxRecDepth 100000
set_option linter.unusedSimpArgs false
theorem to48_rd {l : List S56} {i : Nat} (h : i < l.length) : rd_T48 (l.map to48) (i : Int) = to48 (rd_T56 l (i : Int)) := by
  unfold rd_T48 rd_T56
  rw [Int.toNat_natCast, List.getD_eq_getElem?_getD, List.getD_eq_getElem?_getD, List.getElem?_map, List.getElem?_eq_getElem h]
  rfl
def lkB (l : List S56) (ns : Int) (i : Nat) : Bool := looseL ((l.map to48).drop i) (l.length : Int) ns (names48 ((l.map to48).take i))
theorem lkB_end {l : List S56} {ns : Int} : lkB l ns l.length = true := by
  unfold lkB
  rw [List.drop_of_length_le (by rw [List.length_map]; exact Nat.le_refl _)]
  rfl
theorem lkB_step {l : List S56} {ns : Int} {i : Nat} (h : i < l.length) : lkB l ns i = ((nameOk (rd_T56 l (i : Int)).f0 && (!(decide ((rd_T56 l (i : Int)).f1 < 0)) && (!(decide (8 < (rd_T56 l (i : Int)).f1)) && (!(decide (400 < tcnt (rd_T56 l (i : Int)).f2)) && (!(decide (30 < tdep (rd_T56 l (i : Int)).f2)) && (knownS (rd_T56 l (i : Int)).f2 (rd_T56 l (i : Int)).f1 (l.length : Int) ns && !isIn (names48 ((l.map to48).take i)) (rd_T56 l (i : Int)).f0)))))) && lkB l ns (i + 1)) := by
  have hm : i < (l.map to48).length := by rw [List.length_map]; exact h
  unfold lkB
  rw [rd_T48_drop _ i hm, looseL, rd_T48_take _ i hm, loose_eq, to48_rd h]
  show (if ((!nameOk (rd_T56 l (i : Int)).f0 || (decide ((rd_T56 l (i : Int)).f1 < 0) || (decide (8 < (rd_T56 l (i : Int)).f1) || (big (rd_T56 l (i : Int)).f2 || !knownS (rd_T56 l (i : Int)).f2 (rd_T56 l (i : Int)).f1 (l.length : Int) ns)))) || isIn (names48 ((l.map to48).take i)) (rd_T56 l (i : Int)).f0) = true then false else _) = _
  unfold big
  cases nameOk (rd_T56 l (i : Int)).f0 <;> cases decide ((rd_T56 l (i : Int)).f1 < 0) <;> cases decide (8 < (rd_T56 l (i : Int)).f1) <;> cases decide (400 < tcnt (rd_T56 l (i : Int)).f2) <;> cases decide (30 < tdep (rd_T56 l (i : Int)).f2) <;> cases knownS (rd_T56 l (i : Int)).f2 (rd_T56 l (i : Int)).f1 (l.length : Int) ns <;> cases isIn (names48 ((l.map to48).take i)) (rd_T56 l (i : Int)).f0 <;> simp
set_option maxHeartbeats 16000000 in
theorem refcheck_calls (A0 : Option Addr) (c0 : Nat) (l0 : List S59) (A1 : Option Addr) (c1 : Nat) (l1 : List S56) (r : Int) (w : World) (hr0 : Kd.C k59 w A0 l0.length l0) (hc0 : l0.length ≤ c0) (hr1 : Kd.C k56 w A1 l1.length l1) (hc1 : l1.length ≤ c1) (h : chkF l0 (l1.map to48) = some r) :
    Calls Try.prog 12 #[.slice A0 l0.length c0, .slice A1 l1.length c1] w fun e w' => e = .returned (.int .i64 r) ∧ Below w.heap.size w w' := by
  have hu56 := Try.underlying56
  have hu44 := Try.underlying44
  have hlen1 : l1.length ≤ 9223372036854775807 := hr1.2.1
  have hlen0 : l0.length ≤ 9223372036854775807 := hr0.2.1
  have HR0 := Aside0.mk hr0
  have HC0 := Aside0.mk hc0
  have HR1 := Aside0.mk hr1
  have HC1 := Aside0.mk hc1
  have hE : r = if 24 < l0.length ∨ symsL l0 [] = false then 2 else if l1.length = 0 ∨ 64 < l1.length ∨ (rd_T48 (l1.map to48) 0).f1 ≠ 0 then 4 else if lkB l1 (l0.length : Int) 0 = true then 0 else 4 := by
    unfold chkF at h
    injection h with h
    rw [List.length_map] at h
    exact h.symm
  have HE := Aside0.mk hE
  clear hr0 hc0 hr1 hc1 h hE
  go_enter Try.func12, Try.ntmps12
  go_wp2_with fail
  (with_reducible refine (syms_calls HR0.out HC0.out).mono ?_)
  rintro e w2 ⟨rfl, hb2⟩
  have HB2 := Aside0.mk hb2
  clear hb2
  obtain ⟨sb, hsb⟩ : ∃ sb, sb = (symsL l0 [] && decide (l0.length ≤ 24)) := ⟨_, rfl⟩
  rw [← hsb]
  have HS := Aside0.mk hsb
  clear hsb
  cases sb with
  | false =>
    have hr : r = 2 := by
      rw [HE.out, if_pos]
      have := HS.out
      by_cases h : 24 < l0.length
      · exact .inl h
      · rw [decide_eq_true (by omega : l0.length ≤ 24), Bool.and_true] at this
        exact .inr this.symm
    subst hr
    clear HE HS
    go_wp2_with fail
    go_ret
    exact ⟨rfl, HB2.out⟩
  | true =>
  have HE2 := Aside0.mk (show r = if l1.length = 0 ∨ 64 < l1.length ∨ (rd_T48 (l1.map to48) 0).f1 ≠ 0 then 4 else if lkB l1 (l0.length : Int) 0 = true then 0 else 4 from by
    have := HS.out.symm
    rw [Bool.and_eq_true, decide_eq_true_eq] at this
    rw [HE.out, if_neg (fun hh => by rcases hh with h | h; omega; rw [this.1] at h; cases h)])
  clear HE HS
  by_cases h1 : l1.length < 1
  · have hr : r = 4 := by rw [HE2.out, if_pos (.inl (by omega))]
    have q1 : (l1.length < 1) = True := eq_true h1
    have q2 : ((l1.length : Int) < 1) = True := eq_true (by omega)
    have q0 : l1.length = 0 := by omega
    subst hr
    clear HE2 h1
    go_wp2_with fail
    go_ret
    exact ⟨rfl, HB2.out⟩
  have q1 : (l1.length < 1) = False := eq_false h1
  have q2 : ((l1.length : Int) < 1) = False := eq_false (by omega)
  by_cases h2 : 64 < l1.length
  · have hr : r = 4 := by rw [HE2.out, if_pos (.inr (.inl h2))]
    have q3 : (64 < l1.length) = True := eq_true h2
    have q3' : ((64 : Int) < (l1.length : Int)) = True := eq_true (by omega)
    subst hr
    clear HE2 h1 h2
    go_wp2_with fail
    go_ret
    exact ⟨rfl, HB2.out⟩
  have q3 : (64 < l1.length) = False := eq_false h2
  have q3' : ((64 : Int) < (l1.length : Int)) = False := eq_false (by omega)
  obtain ⟨ad, A4, c4, rfl, hx1, hx2, hx3, hx4, hx5, hl4, hC4⟩ := at_T56 (Kd.C_below HR1.out HB2.out) 0 (by omega) (by omega)
  clear hx1 hx3 hx4 hx5 hl4 hC4
  replace hx2 : w2.cell? ⟨ad.block, ad.off + 1, none⟩ = _ := hx2
  have q4 : (0 < l1.length) = True := eq_true (by omega)
  have q5 : ((0 : Int) < (l1.length : Int)) = True := eq_true (by omega)
  have hz : (rd_T48 (l1.map to48) 0).f1 = (rd_T56 l1 0).f1 := by have := to48_rd (l := l1) (i := 0) (by omega); rw [show ((0 : Nat) : Int) = 0 from rfl] at this; rw [this]; rfl
  rw [hz] at HE2
  have H1 := Aside0.mk h1
  have H2 := Aside0.mk h2
  clear hz h1 h2
  generalize (rd_T56 l1 0).f1 = m at *
  by_cases hm : m = 0
  rotate_left
  · have hr : r = 4 := by rw [HE2.out, if_pos (.inr (.inr hm))]
    have q6 : (m != 0) = true := bne_iff_ne.2 hm
    have q7 : (m == 0) = false := beq_eq_false_iff_ne.2 hm
    subst hr
    clear HE2 hm
    go_wp2_with fail
    go_ret
    exact ⟨rfl, HB2.out⟩
  subst hm
  have HE3 := Aside0.mk (show r = if lkB l1 (l0.length : Int) 0 = true then 0 else 4 from by
    rw [HE2.out, if_neg (fun hh => by rcases hh with h | h | h; exact H1.out (by omega); exact H2.out h; exact h rfl)])
  clear HE2
  go_wp2_with fail
  clear q1 q2 q3 q3' q4 q5 hx2
  go_loopg [29] l1.length (fun kq v29 wr => ∃ i : Nat, v29 = .int .i64 (i : Int) ∧ Aside0 (i + kq = l1.length) ∧ Aside0 (r = if lkB l1 (l0.length : Int) i = true then 0 else 4) ∧ Aside0 (Below w.heap.size w wr))
  case atStart => exact ⟨0, rfl, ⟨by omega⟩, HE3, HB2⟩
  case round =>
    clear HE3 HB2
    obtain ⟨i, rfl, Hi, HQ, HB⟩ := hrel
    have h64' : l1.length ≤ 64 := by have := H2.out; omega
    by_cases hlt : i < l1.length
    rotate_left
    · have hie : i = l1.length := by have := Hi.out; omega
      have hr : r = 0 := by have := HQ.out; rw [hie, lkB_end] at this; exact this
      subst hr
      clear HQ Hi hlt h64'
      subst hie
      go_wp2_with fail
      go_ret
      exact ⟨rfl, HB.out⟩
    obtain ⟨ad', A4, c4, he, hx0, hx1, hx2, hx3, hx4, hl4, hC4⟩ := at_T56 (Kd.C_below HR1.out HB.out) (i : Int) (by omega) (by omega)
    cases he
    rw [Int.toNat_natCast] at hx0 hx1 hx2 hx3 hx4
    have HC4 := Aside0.mk hC4
    have Hl4 := Aside0.mk hl4
    have HF := Aside0.mk (HQ.out.trans (by rw [lkB_step hlt]))
    have q1 : (0 ≤ (i : Int)) = True := eq_true (by omega)
    have q2 : ((i : Int) < (l1.length : Int)) = True := eq_true (by omega)
    have q3 : (i < l1.length) = True := eq_true (by omega)
    clear hl4 hC4 HQ
    generalize rd_T56 l1 (i : Int) = x at *
    go_wp2_with (
      (with_reducible refine gate_dst (N := 6) rfl ?_)
      refine box_event ?hg (N := 6) ?hd (cs := #[.string (⟨#[]⟩ : ByteArray), .int .i64 0, .int .i64 0, .int .i64 0, .slice none 0 0]) (t := 56) ?hr ?_
      (case hd => rfl)
      (case hg => rfl)
      (case hr => first | (go_simp; done) | (go_simp; rfl))
      intro gi hgi w6 hbox hbb
      have hgw : wr.heap.size ≤ gi := by omega
      have Hbwgi := Aside0.mk (below_set (g := gi) (j := 4) (v := .slice A4 x.f2.f2.length c4) (below_set (g := gi) (j := 3) (v := .int .i64 x.f2.f1) (below_set (g := gi) (j := 2) (v := .int .i64 x.f2.f0) (below_set (g := gi) (j := 1) (v := .int .i64 x.f1) (below_set (g := gi) (j := 0) (v := .string x.f0) hbb hgw) hgw) hgw) hgw) hgw)
      have Sgi := Aside0.mk (blk_put (cs' := #[.string x.f0, .int .i64 x.f1, .int .i64 x.f2.f0, .int .i64 x.f2.f1, .slice A4 x.f2.f2.length c4]) (blk_put (cs' := #[.string x.f0, .int .i64 x.f1, .int .i64 x.f2.f0, .int .i64 x.f2.f1, .slice none 0 0]) (blk_put (cs' := #[.string x.f0, .int .i64 x.f1, .int .i64 x.f2.f0, .int .i64 0, .slice none 0 0]) (blk_put (cs' := #[.string x.f0, .int .i64 x.f1, .int .i64 0, .int .i64 0, .slice none 0 0]) (blk_put (cs' := #[.string x.f0, .int .i64 0, .int .i64 0, .int .i64 0, .slice none 0 0]) hbox 0 (.string x.f0) rfl) 1 (.int .i64 x.f1) rfl) 2 (.int .i64 x.f2.f0) rfl) 3 (.int .i64 x.f2.f1) rfl) 4 (.slice A4 x.f2.f2.length c4) rfl)
      have hczgi0 := (blk_cell hbox 0).trans rfl
      have hfzgi0 := blk_frozen hbox 0
      have hczgi1 := (blk_cell hbox 1).trans rfl
      have hfzgi1 := blk_frozen hbox 1
      have hczgi2 := (blk_cell hbox 2).trans rfl
      have hfzgi2 := blk_frozen hbox 2
      have hczgi3 := (blk_cell hbox 3).trans rfl
      have hfzgi3 := blk_frozen hbox 3
      have hczgi4 := (blk_cell hbox 4).trans rfl
      have hfzgi4 := blk_frozen hbox 4
      have m0 := (blk_cell Sgi.out 0).trans rfl
      clear hbox hbb hgi hgw)
    clear hczgi0 hfzgi0 hczgi1 hfzgi1 hczgi2 hfzgi2 hczgi3 hfzgi3 hczgi4 hfzgi4 m0 hx0 hx1 hx2 hx3 hx4
    generalize (((((w6.setCell ⟨gi, 0, none⟩ (.string x.f0)).setCell ⟨gi, 1, none⟩ (.int .i64 x.f1)).setCell ⟨gi, 2, none⟩ (.int .i64 x.f2.f0)).setCell ⟨gi, 3, none⟩ (.int .i64 x.f2.f1)).setCell ⟨gi, 4, none⟩ (.slice A4 x.f2.f2.length c4)) = wq at *
    (with_reducible refine (name_calls x.f0 _).mono ?_)
    rintro e w8 ⟨rfl, hb8⟩
    have Hbw8 := Aside0.mk (below_step Hbwgi.out hb8)
    have Hgi8 := Aside0.mk (blk_below Sgi.out hb8)
    clear hb8 Hbwgi Sgi
    generalize nameOk x.f0 = b at *
    cases b with
    | false =>
      have hr : r = 4 := HF.out
      subst hr
      clear HF
      go_wp2_with fail
      go_ret
      exact ⟨rfl, below_step HB.out Hbw8.out⟩
    | true =>
    have m1 : w8.cell? ⟨gi, 1, none⟩ = some (.int .i64 x.f1) := (blk_cell Hgi8.out 1).trans rfl
    have m2 : w8.cell? ⟨gi, 2, none⟩ = some (.int .i64 x.f2.f0) := (blk_cell Hgi8.out 2).trans rfl
    have m3 : w8.cell? ⟨gi, 3, none⟩ = some (.int .i64 x.f2.f1) := (blk_cell Hgi8.out 3).trans rfl
    have m4 : w8.cell? ⟨gi, 4, none⟩ = some (.slice A4 x.f2.f2.length c4) := (blk_cell Hgi8.out 4).trans rfl
    by_cases hp : x.f1 < 0
    · have hr : r = 4 := by have := HF.out; rw [decide_eq_true hp] at this; exact this
      have p0 : (x.f1 < 0) = True := eq_true hp
      subst hr
      clear HF hp
      go_wp2_with fail
      go_ret
      exact ⟨rfl, below_step HB.out Hbw8.out⟩
    have p0 : (x.f1 < 0) = False := eq_false hp
    by_cases hp8 : 8 < x.f1
    · have hr : r = 4 := by have := HF.out; rw [decide_eq_false hp, decide_eq_true hp8] at this; exact this
      have p8 : (8 < x.f1) = True := eq_true hp8
      subst hr
      clear HF hp hp8
      go_wp2_with fail
      go_ret
      exact ⟨rfl, below_step HB.out Hbw8.out⟩
    have p8 : (8 < x.f1) = False := eq_false hp8
    have HF2 := Aside0.mk (show r = if ((!(decide (400 < tcnt x.f2)) && (!(decide (30 < tdep x.f2)) && (knownS x.f2 x.f1 (l1.length : Int) (l0.length : Int) && !isIn (names48 ((l1.map to48).take i)) x.f0))) && lkB l1 (l0.length : Int) (i + 1)) = true then 0 else 4 from by have := HF.out; rw [decide_eq_false hp, decide_eq_false hp8] at this; exact this)
    clear HF hp hp8
    go_wp2_with fail
    (with_reducible refine (tnodes_calls x.f2.f0 x.f2.f1 (Kd.C_below HC4.out Hbw8.out) Hl4.out).mono ?_)
    rintro e wA ⟨rfl, hbA⟩
    have HbwA := Aside0.mk (below_step Hbw8.out hbA)
    have HgiA := Aside0.mk (blk_below Hgi8.out hbA)
    clear hbA Hbw8 Hgi8 m1 m2 m3 m4 p0 p8
    have hcn := tcnt_f2 x.f2
    by_cases hn : 400 < tcnt x.f2
    · have hr : r = 4 := by have := HF2.out; rw [decide_eq_true hn] at this; exact this
      rw [show min (1 + tcntL x.f2.f2) 401 = 401 from by omega]
      subst hr
      clear HF2 hn hcn
      go_wp2_with fail
      go_ret
      exact ⟨rfl, below_step HB.out HbwA.out⟩
    obtain ⟨nn, hnn⟩ : ∃ nn, nn = min (1 + tcntL x.f2.f2) 401 := ⟨_, rfl⟩
    rw [← hnn]
    have p400 : ((400 : Int) < nn) = False := eq_false (by omega)
    have Hcn := Aside0.mk (show tcntL x.f2.f2 ≤ 1000 from by omega)
    have HF3 := Aside0.mk (show r = if ((!(decide (30 < tdep x.f2)) && (knownS x.f2 x.f1 (l1.length : Int) (l0.length : Int) && !isIn (names48 ((l1.map to48).take i)) x.f0)) && lkB l1 (l0.length : Int) (i + 1)) = true then 0 else 4 from by have := HF2.out; rw [decide_eq_false hn] at this; exact this)
    clear HF2 hn hcn hnn
    have m2 : wA.cell? ⟨gi, 2, none⟩ = some (.int .i64 x.f2.f0) := (blk_cell HgiA.out 2).trans rfl
    have m3 : wA.cell? ⟨gi, 3, none⟩ = some (.int .i64 x.f2.f1) := (blk_cell HgiA.out 3).trans rfl
    have m4 : wA.cell? ⟨gi, 4, none⟩ = some (.slice A4 x.f2.f2.length c4) := (blk_cell HgiA.out 4).trans rfl
    go_wp2_with fail
    (with_reducible refine (tdepth_calls x.f2.f0 x.f2.f1 Hcn.out (Kd.C_below HC4.out HbwA.out) Hl4.out).mono ?_)
    rintro e wB ⟨rfl, hbB⟩
    have HbwB := Aside0.mk (below_step HbwA.out hbB)
    have HgiB := Aside0.mk (blk_below HgiA.out hbB)
    clear hbB HbwA HgiA m2 m3 m4 p400
    have hde := tdep_f2 x.f2
    rw [← hde]
    clear hde
    by_cases hd : 30 < tdep x.f2
    · have hr : r = 4 := by have := HF3.out; rw [decide_eq_true hd] at this; exact this
      have p30 : ((30 : Int) < tdep x.f2) = True := eq_true hd
      subst hr
      clear HF3 hd
      go_wp2_with fail
      go_ret
      exact ⟨rfl, below_step HB.out HbwB.out⟩
    have p30 : ((30 : Int) < tdep x.f2) = False := eq_false hd
    have HF4 := Aside0.mk (show r = if ((knownS x.f2 x.f1 (l1.length : Int) (l0.length : Int) && !isIn (names48 ((l1.map to48).take i)) x.f0) && lkB l1 (l0.length : Int) (i + 1)) = true then 0 else 4 from by have := HF3.out; rw [decide_eq_false hd] at this; exact this)
    clear HF3 hd
    have m1 : wB.cell? ⟨gi, 1, none⟩ = some (.int .i64 x.f1) := (blk_cell HgiB.out 1).trans rfl
    have m2 : wB.cell? ⟨gi, 2, none⟩ = some (.int .i64 x.f2.f0) := (blk_cell HgiB.out 2).trans rfl
    have m3 : wB.cell? ⟨gi, 3, none⟩ = some (.int .i64 x.f2.f1) := (blk_cell HgiB.out 3).trans rfl
    have m4 : wB.cell? ⟨gi, 4, none⟩ = some (.slice A4 x.f2.f2.length c4) := (blk_cell HgiB.out 4).trans rfl
    go_wp2_with fail
    (with_reducible refine (exist_calls _ x.f2.f0 x.f2.f1 x.f2.f2 A4 c4 x.f1 (l1.length : Int) (l0.length : Int) _ (Nat.lt_succ_self _) (Kd.C_below HC4.out HbwB.out) Hl4.out).mono ?_)
    rintro e wC ⟨rfl, hbC⟩
    rw [show (⟨x.f2.f0, x.f2.f1, x.f2.f2⟩ : S44) = x.f2 from by cases x.f2; rfl]
    have HbwC := Aside0.mk (below_step HbwB.out hbC)
    have HgiC := Aside0.mk (blk_below HgiB.out hbC)
    clear hbC HbwB HgiB m1 m2 m3 m4 p30
    generalize knownS x.f2 x.f1 (l1.length : Int) (l0.length : Int) = b at *
    cases b with
    | false =>
      have hr : r = 4 := HF4.out
      subst hr
      clear HF4
      go_wp2_with fail
      go_ret
      exact ⟨rfl, below_step HB.out HbwC.out⟩
    | true =>
    have HB5 := Aside0.mk (below_step HB.out HbwC.out)
    have pc : (i ≤ c1) = True := eq_true (by have := HC1.out; omega)
    go_wp2_with fail
    clear pc
    have hko := Hi.out
    obtain ⟨ko, rfl⟩ : ∃ ko, gk = ko + 1 := ⟨gk - 1, by omega⟩
    clear hko
    obtain ⟨z, hz⟩ : ∃ z, z = isIn (names48 ((l1.map to48).take i)) x.f0 := ⟨_, rfl⟩
    have HF5 := Aside0.mk (show r = if (!z && lkB l1 (l0.length : Int) (i + 1)) = true then 0 else 4 from by have := HF4.out; rw [← hz] at this; exact this)
    have HZ := Aside0.mk (show z = isIn (names48 (((l1.map to48).take i).drop 0)) x.f0 from hz)
    clear hz HbwC HF4
    go_loopg [76] i (fun kq v76 wr2 => ∃ j : Nat, v76 = .int .i64 (j : Int) ∧ Aside0 (j + kq = i) ∧ Aside0 (z = isIn (names48 (((l1.map to48).take i).drop j)) x.f0) ∧ Aside0 (Below wC.heap.size wC wr2))
    case atStart => exact ⟨0, rfl, ⟨by omega⟩, HZ, ⟨Below.refl _ _⟩⟩
    case round =>
      clear HZ
      obtain ⟨j, rfl, Hj, HZ, HBi⟩ := hrel
      by_cases hjt : j < i
      rotate_left
      · have hje : j = i := by have := Hj.out; omega
        have hz : z = false := by have := HZ.out; rw [hje, List.drop_of_length_le (by rw [List.length_take]; omega)] at this; exact this
        have HN := Aside0.mk (show r = if lkB l1 (l0.length : Int) (i + 1) = true then 0 else 4 from by have := HF5.out; rw [hz] at this; exact this)
        have HB7 := Aside0.mk (below_step HB5.out HBi.out)
        subst hje
        clear hz HZ HF5 HBi
        go_wp2_with fail
        go_roundg ko
        case measure => omega
        case rel => exact ⟨j + 1, by go_num, ⟨by have := Hi.out; omega⟩, HN, HB7⟩
      have HB6 := Aside0.mk (below_step HB5.out HBi.out)
      obtain ⟨ad2, A6, c6, he, hx0, hx1, hx2, hx3, hx4, hl6, hC6⟩ := at_T56 (Kd.C_below HR1.out HB6.out) (j : Int) (by omega) (by omega)
      cases he
      rw [Int.toNat_natCast] at hx0 hx1 hx2 hx3 hx4
      have HZ2 := Aside0.mk (show z = ((rd_T56 l1 (j : Int)).f0.data.toList == x.f0.data.toList || isIn (names48 (((l1.map to48).take i).drop (j + 1))) x.f0) from by
        rw [HZ.out, rd_T48_drop ((l1.map to48).take i) j (by rw [List.length_take, List.length_map]; omega)]
        have e : rd_T48 ((l1.map to48).take i) (j : Int) = rd_T48 (l1.map to48) (j : Int) := by unfold rd_T48; rw [Int.toNat_natCast, List.getD_eq_getElem?_getD, List.getD_eq_getElem?_getD, List.getElem?_take_of_lt hjt]
        rw [e, to48_rd (by omega)]
        rfl)
      have q4 : (0 ≤ (j : Int)) = True := eq_true (by omega)
      have q5 : ((j : Int) < (i : Int)) = True := eq_true (by omega)
      have q6 : (j < i) = True := eq_true (by omega)
      clear hl6 hC6 HZ
      generalize rd_T56 l1 (j : Int) = y at *
      obtain ⟨bb, hbb⟩ : ∃ bb, (x.f0.toList == y.f0.toList) = bb := ⟨_, rfl⟩
      have HBB := Aside0.mk (show (y.f0.data.toList == x.f0.data.toList) = bb from by
        rw [← hbb, ← Go.ByteArray.toList_eq, ← Go.ByteArray.toList_eq]
        exact BEq.comm)
      rw [HBB.out] at HZ2
      clear HBB
      go_wp2_with (
        (with_reducible refine gate_dst (N := 8) rfl ?_)
        refine box_event ?hg (N := 8) ?hd (cs := #[.string (⟨#[]⟩ : ByteArray), .int .i64 0, .int .i64 0, .int .i64 0, .slice none 0 0]) (t := 56) ?hr ?_
        (case hd => rfl)
        (case hg => rfl)
        (case hr => first | (go_simp; done) | (go_simp; rfl))
        intro gy hgy w6 hbox hbb
        have hgw : wr.heap.size ≤ gy := by omega
        have Hbwgy := Aside0.mk (below_set (g := gy) (j := 4) (v := .slice A6 y.f2.f2.length c6) (below_set (g := gy) (j := 3) (v := .int .i64 y.f2.f1) (below_set (g := gy) (j := 2) (v := .int .i64 y.f2.f0) (below_set (g := gy) (j := 1) (v := .int .i64 y.f1) (below_set (g := gy) (j := 0) (v := .string y.f0) hbb hgw) hgw) hgw) hgw) hgw)
        have Sgy := Aside0.mk (blk_put (cs' := #[.string y.f0, .int .i64 y.f1, .int .i64 y.f2.f0, .int .i64 y.f2.f1, .slice A6 y.f2.f2.length c6]) (blk_put (cs' := #[.string y.f0, .int .i64 y.f1, .int .i64 y.f2.f0, .int .i64 y.f2.f1, .slice none 0 0]) (blk_put (cs' := #[.string y.f0, .int .i64 y.f1, .int .i64 y.f2.f0, .int .i64 0, .slice none 0 0]) (blk_put (cs' := #[.string y.f0, .int .i64 y.f1, .int .i64 0, .int .i64 0, .slice none 0 0]) (blk_put (cs' := #[.string y.f0, .int .i64 0, .int .i64 0, .int .i64 0, .slice none 0 0]) hbox 0 (.string y.f0) rfl) 1 (.int .i64 y.f1) rfl) 2 (.int .i64 y.f2.f0) rfl) 3 (.int .i64 y.f2.f1) rfl) 4 (.slice A6 y.f2.f2.length c6) rfl)
        have hczgy0 := (blk_cell hbox 0).trans rfl
        have hfzgy0 := blk_frozen hbox 0
        have hczgy1 := (blk_cell hbox 1).trans rfl
        have hfzgy1 := blk_frozen hbox 1
        have hczgy2 := (blk_cell hbox 2).trans rfl
        have hfzgy2 := blk_frozen hbox 2
        have hczgy3 := (blk_cell hbox 3).trans rfl
        have hfzgy3 := blk_frozen hbox 3
        have hczgy4 := (blk_cell hbox 4).trans rfl
        have hfzgy4 := blk_frozen hbox 4
        have m0 := (blk_cell Sgy.out 0).trans rfl
        have m1 := (blk_cell (blk_below HgiC.out (below_step HBi.out Hbwgy.out)) 0).trans rfl
        clear hbox hbb hgy hgw)
      rotate_left
      · have HZ3 := Aside0.mk (show z = isIn (names48 (((l1.map to48).take i).drop (j + 1))) x.f0 from HZ2.out.trans (by rw [‹bb = false›]; rfl))
        have HBi2 := Aside0.mk (below_step HBi.out Hbwgy.out)
        clear hczgy0 hfzgy0 hczgy1 hfzgy1 hczgy2 hfzgy2 hczgy3 hfzgy3 hczgy4 hfzgy4 m0 m1 hx0 hx1 hx2 hx3 hx4 HZ2
        have hk := Hj.out
        obtain ⟨k1, rfl⟩ : ∃ k1, gk = k1 + 1 := ⟨gk - 1, by omega⟩
        go_roundg k1
        case measure => omega
        case rel => exact ⟨j + 1, by go_num, ⟨by omega⟩, HZ3, HBi2⟩
      · have hr : r = 4 := by rw [HF5.out, HZ2.out, ‹bb = true›]; rfl
        subst hr
        go_ret
        exact ⟨rfl, below_step HB6.out Hbwgy.out⟩
end Go.Proofs.Ytfhgoebgnilfaaa.I
namespace Go.Proofs.Ytfhgoebgnilfaaa.I
open Go.RowKit Go.Proofs.YtfhgoebgnilfaaaW.PrintWords Go.Proofs.YtfhgoebgnilfaaaW.PrintLast Go.Proofs.YtfhgoebgnilfaaaW.PrintMore
attribute [local go_sem] max2_int min2_int max_two min_two max_three min_three max_four min_four
set_option linter.unusedVariables false
set_option maxRecDepth 100000
set_option linter.unusedSimpArgs false
theorem refsorts_err (A0 : Option Addr) (c0 : Nat) (l0 : List S59) (A1 : Option Addr) (c1 : Nat) (l1 : List S56) (r : Int) (w : World) (hr0 : Kd.C k59 w A0 l0.length l0) (hc0 : l0.length ≤ c0) (hr1 : Kd.C k56 w A1 l1.length l1) (hc1 : l1.length ≤ c1) (h : chkF l0 (l1.map to48) = some r) (hr : r ≠ 0) :
    Calls Try.prog 14 #[.slice A0 l0.length c0, .slice A1 l1.length c1] w fun e w' => e = .returned (.tuple #[.slice none 0 0, .int .i64 r]) ∧ Below w.heap.size w w' := by
  have HR0 := Aside0.mk hr0
  have HC0 := Aside0.mk hc0
  have HR1 := Aside0.mk hr1
  have HC1 := Aside0.mk hc1
  have H := Aside0.mk h
  have hne : (r != 0) = true := bne_iff_ne.2 hr
  clear hr0 hc0 hr1 hc1 h hr
  go_enter Try.func14, Try.ntmps14
  go_wp2_with fail
  (with_reducible refine (refcheck_calls A0 c0 l0 A1 c1 l1 r _ HR0.out HC0.out HR1.out HC1.out H.out).mono ?_)
  rintro e w1 ⟨rfl, hb1⟩
  have HB1 := Aside0.mk hb1
  clear hb1
  go_wp2_with fail
  go_ret2
  exact ⟨rfl, HB1.out⟩
set_option maxHeartbeats 8000000 in
theorem refsorts_ok (A0 : Option Addr) (c0 : Nat) (l0 : List S59) (A1 : Option Addr) (c1 : Nat) (l1 : List S56) (out : List S41) (er : Int) (w : World) (hr0 : Kd.C k59 w A0 l0.length l0) (hc0 : l0.length ≤ c0) (hr1 : Kd.C k56 w A1 l1.length l1) (hc1 : l1.length ≤ c1) (h : chkF l0 (l1.map to48) = some 0) (hk : chkF l0 (l1.map to48) = some 0) (hG : GSorts l0 (l1.map to48) out er) :
    Calls Try.prog 14 #[.slice A0 l0.length c0, .slice A1 l1.length c1] w fun e w' => ∃ v, e = .returned (.tuple #[v, .int .i64 er]) ∧ Kd.R k41 41 w' w.heap.size (fun _ => True) v out ∧ Below w.heap.size w w' := by
  have hu56 := Try.underlying56
  have hu44 := Try.underlying44
  have hu59 := Try.underlying59
  have hu90 := Try.underlying90
  have hu41 := Try.underlying41
  have HR0 := Aside0.mk hr0
  have HC0 := Aside0.mk hc0
  have HR1 := Aside0.mk hr1
  have HC1 := Aside0.mk hc1
  have HK := Aside0.mk hk
  have HCk := Aside0.mk h
  have HG := Aside0.mk hG
  have hok := fCheck_ok hk
  rw [List.length_map] at hok
  have h24 : l0.length ≤ 24 := hok.2.1
  have h64 : l1.length ≤ 64 := hok.2.2.2.1
  have HSY := Aside0.mk (symsL_le _ _ hok.1)
  have HLE := Aside0.mk hok.2.2.2.2
  clear hr0 hc0 hr1 hc1 hk h hG hok
  go_enter Try.func14, Try.ntmps14
  go_wp2_with fail
  (with_reducible refine (refcheck_calls A0 c0 l0 A1 c1 l1 0 _ HR0.out HC0.out HR1.out HC1.out HCk.out).mono ?_)
  rintro e w1 ⟨rfl, hb1⟩
  have HB1 := Aside0.mk hb1
  clear hb1 HCk
  go_wp2_with (
    (with_reducible refine gate_dst (N := 33) rfl ?_)
    refine box_event ?hg (N := 33) ?hd (cs := #[.slice none 0 0]) (t := 90) ?hr ?_
    (case hd => rfl)
    (case hg => rfl)
    (case hr => first | (go_simp; done) | (go_simp; rfl))
    intro gg hgg w2 hbox hb2
    have HGM := Aside0.mk (show GM gg w.heap.size none w2 [] from ⟨by have := HB1.out.size; omega, none, 0, hbox, Kd.R_nil _ _ _ _ _, rfl⟩)
    have HB2 := Aside0.mk (below_step HB1.out hb2)
    clear hbox hb2 hgg HB1)
  (with_reducible refine (add_calls (k := 1) (ki := 1) (a := 0) (ai := 0) (b := 0) (bi := 0) rfl rfl rfl HGM.out HB2.out.size (by simp)).mono ?_)
  rintro e w3 ⟨row, rfl, hM3, hK3⟩
  have HM3 := Aside0.mk (show GM gg w.heap.size row w3 g0 from hM3)
  have HB3 := Aside0.mk (hK3.elder HGM.out HB2.out HB2.out.size)
  clear hM3 hK3 HGM HB2
  go_wp2_with (
    (with_reducible refine gate_dst (N := 9) rfl ?_)
    refine box_event ?hg (N := 9) ?hd (cs := #[.slice none 0 0, .slice none 0 0, .slice none 0 0]) (t := 93) ?hr ?_
    (case hd => rfl)
    (case hg => rfl)
    (case hr => first | (go_simp; done) | (go_simp; rfl))
    intro gh hgh w4 hbox hb4
    have HM4 := Aside0.mk (HM3.out.keep hb4)
    have HB4 := Aside0.mk (below_step HB3.out hb4)
    have HH4 := Aside0.mk hbox
    have hwh : w.heap.size ≤ gh := by have := HB3.out.size; omega
    clear hbox hb4 hgh HM3 HB3)
  go_loopg [38] l0.length (fun kq v38 wr => ∃ (i : Nat) (s : List GN) (row : Option Nat) (hs : List Nat) (AS : Option Addr) (cS : Nat), v38 = .int .i64 (i : Int) ∧ Aside0 (i + kq = l0.length) ∧ Aside0 (gS l0 = (hs ++ (gsyms s (l0.drop i)).1, (gsyms s (l0.drop i)).2)) ∧ Aside0 (s.length ≤ 1 + 4 * i) ∧ Aside0 (hs.length = i) ∧ Aside0 (GM gg w.heap.size row wr s) ∧ Aside0 (wr.heap[gh]? = some (.cells #[.slice none 0 0, .slice none 0 0, .slice AS hs.length cS] 93 (0, 0))) ∧ Aside0 (KI.R 3 wr w.heap.size (fun _ => True) (.slice AS hs.length cS) (ints hs)) ∧ Aside0 (Below w.heap.size w wr))
  case atStart => exact ⟨0, g0, row, [], none, 0, rfl, ⟨by omega⟩, ⟨rfl⟩, ⟨by decide⟩, ⟨rfl⟩, HM4, HH4, ⟨Kd.R_nil _ _ _ _ _⟩, HB4⟩
  case round =>
    clear HM4 HH4 HB4
    obtain ⟨i, s, row, hs, AS, cS, rfl, Hi, HGS, Hsl, Hhl, HM, HH, HRS, HB⟩ := hrel
    by_cases hlt : i < l0.length
    · obtain ⟨ad0, he, hx1, hx2⟩ := at_T59 HR0.out (i : Int) (by omega) (by omega)
      cases he
      replace hx1 := (HB.out.cell (World.block_lt_of_cell? w _ hx1)).trans hx1
      replace hx2 := (HB.out.cell (World.block_lt_of_cell? w _ hx2)).trans hx2
      rw [Int.toNat_natCast] at hx1 hx2
      have hxe : rd_T59 l0 (i : Int) = l0[i] := by unfold rd_T59; rw [Int.toNat_natCast, List.getD_eq_getElem?_getD, List.getElem?_eq_getElem hlt]; rfl
      have hrk := HSY.out l0[i] (List.getElem_mem hlt)
      have hgs := HGS.out
      rw [List.drop_eq_getElem_cons hlt] at hgs
      have HGS2 := Aside0.mk (gsyms_step hgs)
      rw [hxe] at hx1 hx2
      have p1 : (0 ≤ (i : Int)) = True := eq_true (by omega)
      have p2 : ((i : Int) < (l0.length : Int)) = True := eq_true (by omega)
      have p3 : (i < l0.length) = True := eq_true (by omega)
      clear hxe hgs HGS
      generalize l0[i] = x at *
      obtain ⟨nm, rk⟩ := x
      obtain ⟨n, rfl⟩ : ∃ n : Nat, rk = (n : Int) := ⟨rk.toNat, by have := hrk.1; simp at this; omega⟩
      have hn4 : n ≤ 4 := by have := hrk.2; simp at this; omega
      have HGS3 := HGS2.out
      simp only [Int.toNat_natCast] at HGS3
      have HGS4 := Aside0.mk HGS3
      clear HGS2 HGS3 hrk
      go_upto_region 10 with (
        (with_reducible refine gate_dst (N := 11) rfl ?_)
        refine box_event ?hg (N := 11) ?hd (cs := #[.string (⟨#[]⟩ : ByteArray), .int .i64 0]) (t := 59) ?hr ?_
        (case hd => rfl)
        (case hg => rfl)
        (case hr => first | (go_simp; done) | (go_simp; rfl))
        intro gi hgi w6 hbox hb6
        have hgw : wr.heap.size ≤ gi := by omega
        have Hbw := Aside0.mk (below_set (g := gi) (j := 1) (v := .int .i64 (n : Int)) (below_set (g := gi) (j := 0) (v := .string nm) hb6 hgw) hgw)
        have Hgi := Aside0.mk (blk_put (cs' := #[.string nm, .int .i64 (n : Int)]) (blk_put (cs' := #[.string nm, .int .i64 0]) hbox 0 (.string nm) rfl) 1 (.int .i64 (n : Int)) rfl)
        have hcz0 := (blk_cell hbox 0).trans rfl
        have hfz0 := blk_frozen hbox 0
        have hcz1 := (blk_cell hbox 1).trans rfl
        have hfz1 := blk_frozen hbox 1
        clear hbox hb6 hgi hgw)
      clear hcz0 hfz0 hcz1 hfz1 hx1 hx2
      generalize ((w6.setCell ⟨gi, 0, none⟩ (.string nm)).setCell ⟨gi, 1, none⟩ (.int .i64 (n : Int))) = wq at *
      have HMq := Aside0.mk (HM.out.keep Hbw.out)
      have HHq := Aside0.mk (blk_below HH.out Hbw.out)
      have HRSq := Aside0.mk (Kd.R_below HRS.out Hbw.out)
      have HBq := Aside0.mk (below_step HB.out Hbw.out)
      have n1 : wq.cell? ⟨gi, 1, none⟩ = some (.int .i64 (n : Int)) := (blk_cell Hgi.out 1).trans rfl
      have n2 : wq.cell? ⟨gh, 2, none⟩ = some (.slice AS hs.length cS) := (blk_cell HHq.out 2).trans rfl
      clear HM HH HRS HB Hbw Hgi
      obtain ⟨ob, hmk, hobR⟩ := make_row n (by omega)
      have n3 := cellA n2
      have HW8 := Aside0.mk (show Below wq.heap.size wq (wq.alloc ob).drew from below_drew (below_alloc (Below.refl _ _) ob))
      have HOB := Aside0.mk (Kd.R_drew (hobR wq w.heap.size HBq.out.size))
      have HM8 := Aside0.mk (HMq.out.keep HW8.out)
      have HH8 := Aside0.mk (blk_below HHq.out HW8.out)
      have HRS8 := Aside0.mk (Kd.R_below HRSq.out HW8.out)
      have HB8 := Aside0.mk (below_step HBq.out HW8.out)
      clear hobR
      go_region_law
        (first
          | (go_simp
             go_at_call 43
             (with_reducible refine (chain_calls' (ps := List.replicate n 0) (d0 := 0) (di := 0) (List.length_replicate ..) rfl HM8.out HB8.out.size (by have := Hsl.out; omega) HOB.out).mono ?_)
             rintro e9 w9 ⟨row9, rfl, hM9, hK9⟩
             have HM9 := Aside0.mk hM9
             have HH9 := Aside0.mk (hK9.blk HM8.out HH8.out (by decide))
             have HRS9 := Aside0.mk (hK9.R HM8.out HRS8.out (by decide))
             have HB9 := Aside0.mk (hK9.elder HM8.out HB8.out HB8.out.size)
             have m2 : w9.cell? ⟨gh, 2, none⟩ = some (.slice AS hs.length cS) := (blk_cell HH9.out 2).trans rfl
             have m3 := cellA m2
             clear hM9 hK9)
          | (have tk := HM9.out
             refine Kd.R_append_step KI (w0 := w) w.heap.size rfl (.tmp 43) (.tmp 50) 92 3 (.int .i64 0) 8 rfl Try.underlying92 info3 rfl (by decide) (by omega) (.slice AS hs.length cS) (ints hs) (((gchain s (List.replicate n 0) 0).1 : Nat) : Int) [.int .i64 (((gchain s (List.replicate n 0) 0).1 : Nat) : Int)] (fun _ => True) (fun _ => False) rfl rfl rfl (fun _ hk => hk.elim) (fun _ _ => trivial) HRS9.out HB9.out HB9.out.size (by rw [ints_len, Hhl.out]; omega) ?_
             intro v2 w10 hr10 hb10 hg10 _
             rw [← ints_app] at hr10
             obtain ⟨A2, c2, e2⟩ := Kd.R_slice hr10
             rw [ints_len] at e2
             subst e2
             have tf := Kd.R_typed HRS9.out
             have HRS10 := Aside0.mk hr10
             have HB10 := Aside0.mk hb10
             have HM10 := Aside0.mk (HM9.out.grown hg10 (fun k hk => by obtain ⟨c, hc⟩ := tf k hk; exact ⟨c, 3, hc, by decide, by decide⟩))
             have HH10 := Aside0.mk (blk_grownT HH9.out hg10 (fun k hk => by obtain ⟨c, hc⟩ := tf k hk; exact ⟨3, c, by decide, hc⟩))
             have k0 : w10.cell? ⟨gh, 2, none⟩ = some (.slice AS hs.length cS) := (blk_cell HH10.out 2).trans rfl
             have k1 := blk_frozen HH10.out 2
             clear hr10 hb10 hg10 tf HM9 HH9 HRS9 HB9 m2 m3 tk))
      all_goals (
        have hll : (hs ++ [(gchain s (List.replicate n 0) 0).1]).length = hs.length + 1 := by rw [List.length_append]; rfl
        have HH11 := Aside0.mk (show (w10.setCell ⟨gh, 2, none⟩ (.slice A2 (hs.length + 1) c2)).heap[gh]? = some (.cells #[.slice none 0 0, .slice none 0 0, .slice A2 (hs ++ [(gchain s (List.replicate n 0) 0).1]).length c2] 93 (0, 0)) from by rw [hll]; exact blk_put HH10.out 2 _ rfl)
        have HM11 := Aside0.mk (HM10.out.over (w' := w10.setCell ⟨gh, 2, none⟩ (.slice A2 (hs.length + 1) c2)) HH10.out (by decide) ⟨rfl, rfl, rfl, by simp [World.setCell], fun k hk he => Below.heap_setCell w10 _ _ k (fun e => he (by rw [e]))⟩)
        have HRS11 := Aside0.mk (Kd.R_set HRS10.out HH10.out (by decide) 2 (.slice A2 (hs.length + 1) c2))
        have HB11 := Aside0.mk (below_set (g := gh) (j := 2) (v := .slice A2 (hs.length + 1) c2) HB10.out hwh)
        clear HH10 HM10 HRS10 HB10 k0 k1 HMq HHq HRSq HBq n1 n2 n3 HW8 HOB HM8 HH8 HRS8 HB8 hmk
        generalize w10.setCell ⟨gh, 2, none⟩ (.slice A2 (hs.length + 1) c2) = w11 at *
        have HLL := Aside0.mk hll
        clear hll
        go_wp2_with fail
        have hk := Hi.out
        obtain ⟨k1, rfl⟩ : ∃ k1, gk = k1 + 1 := ⟨gk - 1, by omega⟩
        go_roundg k1
        case measure => omega
        case rel => exact ⟨i + 1, _, _, hs ++ [(gchain s (List.replicate n 0) 0).1], A2, c2, by go_num, ⟨by omega⟩, HGS4, ⟨by rw [gchain_len, List.length_replicate]; have := Hsl.out; omega⟩, ⟨by rw [HLL.out, Hhl.out]⟩, HM11, HH11, HRS11, HB11⟩)
    · have hie : i = l0.length := by have := Hi.out; omega
      subst hie
      have hgs := HGS.out
      rw [List.drop_length] at hgs
      have e1 : (gS l0).1 = hs := by rw [hgs]; exact List.append_nil hs
      have e2 : (gS l0).2 = s := by rw [hgs]; rfl
      subst e1 e2
      clear hgs HGS
      have HSL := Aside0.mk (show (gS l0).2.length ≤ 97 from by have := Hsl.out; omega)
      clear Hsl
      go_wp2_with fail
      go_loopg [12, 56] l1.length (fun kq v12 v56 wr => ∃ (i : Nat) (s : List GN) (row : Option Nat) (pss : List (List Nat)) (hf : List Nat) (AF AP : Option Addr) (cF cP : Nat), v12 = .slice AP i cP ∧ v56 = .int .i64 (i : Int) ∧ Aside0 (i + kq = l1.length) ∧ Aside0 (gH l0 (l1.map to48) = ((pss ++ (gheads s ((l1.map to48).drop i)).1.1, hf ++ (gheads s ((l1.map to48).drop i)).1.2), (gheads s ((l1.map to48).drop i)).2)) ∧ Aside0 (s.length ≤ 97 + 16 * i) ∧ Aside0 (hf.length = i ∧ pss.length = i) ∧ Aside0 (GM gg w.heap.size row wr s) ∧ Aside0 (wr.heap[gh]? = some (.cells #[.slice none 0 0, .slice AF hf.length cF, .slice AS (gS l0).1.length cS] 93 (0, 0))) ∧ Aside0 (KI.R 3 wr w.heap.size (fun k => some k ≠ (Value.slice AF hf.length cF).ownBlock) (.slice AS (gS l0).1.length cS) (ints (gS l0).1)) ∧ Aside0 (KI.R 3 wr w.heap.size (fun _ => True) (.slice AF hf.length cF) (ints hf)) ∧ Aside0 ((Kd.slice 3 KI).R 92 wr w.heap.size (fun k => some k ≠ (Value.slice AF hf.length cF).ownBlock) (.slice AP i cP) (pss.map ints)) ∧ Aside0 (Below w.heap.size w wr))
      case atStart => exact ⟨0, (gS l0).2, row, [], [], none, none, 0, 0, rfl, rfl, ⟨by omega⟩, ⟨rfl⟩, HSL, ⟨rfl, rfl⟩, HM, HH, ⟨Kd.R_mono HRS.out (fun k _ => by simp [Value.ownBlock])⟩, ⟨Kd.R_nil _ _ _ _ _⟩, ⟨Kd.R_nil _ _ _ _ _⟩, HB⟩
      case round =>
        clear HSL HM HH HRS HB
        obtain ⟨i, s, row, pss, hf, AF, AP, cF, cP, rfl, rfl, Hi, HGH, Hsl, Hlen, HM, HH, HRS, HRF, HRP, HB⟩ := hrel
        by_cases hlt : i < l1.length
        · have hki := Hi.out
          obtain ⟨ko, rfl⟩ : ∃ ko, gk = ko + 1 := ⟨gk - 1, by omega⟩
          clear hki
          obtain ⟨ad0, A4, c4, he, hx1, hx2, hx3, hx4, hx5, hl4, hC4⟩ := at_T56 HR1.out (i : Int) (by omega) (by omega)
          cases he
          replace hx1 := (HB.out.cell (World.block_lt_of_cell? w _ hx1)).trans hx1
          replace hx2 := (HB.out.cell (World.block_lt_of_cell? w _ hx2)).trans hx2
          replace hx3 := (HB.out.cell (World.block_lt_of_cell? w _ hx3)).trans hx3
          replace hx4 := (HB.out.cell (World.block_lt_of_cell? w _ hx4)).trans hx4
          replace hx5 := (HB.out.cell (World.block_lt_of_cell? w _ hx5)).trans hx5
          rw [Int.toNat_natCast] at hx1 hx2 hx3 hx4 hx5
          have hxe : rd_T56 l1 (i : Int) = l1[i] := by unfold rd_T56; rw [Int.toNat_natCast, List.getD_eq_getElem?_getD, List.getElem?_eq_getElem hlt]; rfl
          rw [hxe] at hx1 hx2 hx3 hx4 hx5
          have hrk := HLE.out (to48 l1[i]) (List.mem_map_of_mem (List.getElem_mem hlt))
          have hgs := HGH.out
          rw [to48_drop hlt] at hgs
          have p1 : (0 ≤ (i : Int)) = True := eq_true (by omega)
          have p2 : ((i : Int) < (l1.length : Int)) = True := eq_true (by omega)
          have p3 : (i < l1.length) = True := eq_true (by omega)
          clear hxe HGH hl4 hC4
          generalize l1[i] = x at *
          obtain ⟨nm, rk, tb⟩ := x
          obtain ⟨n, rfl⟩ : ∃ n : Nat, rk = (n : Int) := ⟨rk.toNat, by have := hrk.1; simp [to48] at this; omega⟩
          have hn8 : n ≤ 8 := by have := hrk.2; simp [to48] at this; omega
          have HGH4 := Aside0.mk (gheads_step hgs (n := n) (by simp [to48]))
          clear hgs hrk
          simp only at hx1 hx2 hx3 hx4 hx5
          go_wp2_with (
              (with_reducible refine gate_dst (N := 14) rfl ?_)
              refine box_event ?hg (N := 14) ?hd (cs := #[.string (⟨#[]⟩ : ByteArray), .int .i64 0, .int .i64 0, .int .i64 0, .slice none 0 0]) (t := 56) ?hr ?_
              (case hd => rfl)
              (case hg => rfl)
              (case hr => first | (go_simp; done) | (go_simp; rfl))
              intro gi hgi w6 hbox hb3
              have hgw : wr.heap.size ≤ gi := by omega
              have Hbw := Aside0.mk (below_set (g := gi) (j := 4) (v := .slice A4 tb.f2.length c4) (below_set (g := gi) (j := 3) (v := .int .i64 tb.f1) (below_set (g := gi) (j := 2) (v := .int .i64 tb.f0) (below_set (g := gi) (j := 1) (v := .int .i64 (n : Int)) (below_set (g := gi) (j := 0) (v := .string nm) hb3 hgw) hgw) hgw) hgw) hgw)
              have Hgi := Aside0.mk (blk_put (cs' := #[.string nm, .int .i64 (n : Int), .int .i64 tb.f0, .int .i64 tb.f1, .slice A4 tb.f2.length c4]) (blk_put (cs' := #[.string nm, .int .i64 (n : Int), .int .i64 tb.f0, .int .i64 tb.f1, .slice none 0 0]) (blk_put (cs' := #[.string nm, .int .i64 (n : Int), .int .i64 tb.f0, .int .i64 0, .slice none 0 0]) (blk_put (cs' := #[.string nm, .int .i64 (n : Int), .int .i64 0, .int .i64 0, .slice none 0 0]) (blk_put (cs' := #[.string nm, .int .i64 0, .int .i64 0, .int .i64 0, .slice none 0 0]) (hbox) 0 (.string nm) rfl) 1 (.int .i64 (n : Int)) rfl) 2 (.int .i64 tb.f0) rfl) 3 (.int .i64 tb.f1) rfl) 4 (.slice A4 tb.f2.length c4) rfl)
              have n1 := (blk_cell Hgi.out 1).trans rfl
              have hcz0 := (blk_cell hbox 0).trans rfl
              have hfz0 := blk_frozen hbox 0
              have hcz1 := (blk_cell hbox 1).trans rfl
              have hfz1 := blk_frozen hbox 1
              have hcz2 := (blk_cell hbox 2).trans rfl
              have hfz2 := blk_frozen hbox 2
              have hcz3 := (blk_cell hbox 3).trans rfl
              have hfz3 := blk_frozen hbox 3
              have hcz4 := (blk_cell hbox 4).trans rfl
              have hfz4 := blk_frozen hbox 4
              clear hbox hb3 hgi hgw)
          clear n1 hcz0 hcz1 hcz2 hcz3 hcz4 hfz0 hfz1 hfz2 hfz3 hfz4 hx1 hx2 hx3 hx4 hx5
          generalize (((((w6.setCell ⟨gi, 0, none⟩ (.string nm)).setCell ⟨gi, 1, none⟩ (.int .i64 (n : Int))).setCell ⟨gi, 2, none⟩ (.int .i64 tb.f0)).setCell ⟨gi, 3, none⟩ (.int .i64 tb.f1)).setCell ⟨gi, 4, none⟩ (.slice A4 tb.f2.length c4)) = wq at *
          have HMq := Aside0.mk (HM.out.keep Hbw.out)
          have HHq := Aside0.mk (blk_below HH.out Hbw.out)
          have HRSq := Aside0.mk (Kd.R_below HRS.out Hbw.out)
          have HRFq := Aside0.mk (Kd.R_below HRF.out Hbw.out)
          have HRPq := Aside0.mk (Kd.R_below HRP.out Hbw.out)
          have HBq := Aside0.mk (below_step HB.out Hbw.out)
          clear HM HH HRS HRF HRP HB Hbw Hgi
          go_loopg [15, 62] n (fun kq v15 v62 wr => ∃ (j : Nat) (row : Option Nat) (Af : Option Addr) (cf : Nat), v15 = .slice Af j cf ∧ v62 = .int .i64 (j : Int) ∧ Aside0 (j + kq = n) ∧ Aside0 (GM gg w.heap.size row wr (s ++ List.replicate j gbare)) ∧ Aside0 (wr.heap[gh]? = some (.cells #[.slice none 0 0, .slice AF hf.length cF, .slice AS (gS l0).1.length cS] 93 (0, 0))) ∧ Aside0 (KI.R 3 wr w.heap.size (fun k => some k ≠ (Value.slice AF hf.length cF).ownBlock ∧ some k ≠ (Value.slice Af j cf).ownBlock) (.slice AS (gS l0).1.length cS) (ints (gS l0).1)) ∧ Aside0 (KI.R 3 wr w.heap.size (fun k => some k ≠ (Value.slice Af j cf).ownBlock) (.slice AF hf.length cF) (ints hf)) ∧ Aside0 ((Kd.slice 3 KI).R 92 wr w.heap.size (fun k => some k ≠ (Value.slice AF hf.length cF).ownBlock ∧ some k ≠ (Value.slice Af j cf).ownBlock) (.slice AP i cP) (pss.map ints)) ∧ Aside0 (KI.R 3 wr w.heap.size (fun k => some k ≠ (Value.slice AF hf.length cF).ownBlock) (.slice Af j cf) (ints (List.range' s.length j))) ∧ Aside0 (Below w.heap.size w wr))
          case atStart => exact ⟨0, row, none, 0, rfl, rfl, ⟨by omega⟩, ⟨by rw [List.replicate_zero, List.append_nil]; exact HMq.out⟩, HHq, ⟨Kd.R_mono HRSq.out (fun k hk => ⟨hk, by simp [Value.ownBlock]⟩)⟩, ⟨Kd.R_mono HRFq.out (fun k hk => by simp [Value.ownBlock])⟩, ⟨Kd.R_mono HRPq.out (fun k hk => ⟨hk, by simp [Value.ownBlock]⟩)⟩, ⟨Kd.R_nil _ _ _ _ _⟩, HBq⟩
          case round =>
            clear HMq HHq HRSq HRFq HRPq HBq
            obtain ⟨j, row, Af, cf, rfl, rfl, Hj, HM, HH, HRS, HRF, HRP, HRf, HB⟩ := hrel
            by_cases hjn : j < n
            · go_wp2_with fail
              (with_reducible refine (add_calls (k := 0) (ki := 0) (a := 0) (ai := 0) (b := 0) (bi := 0) rfl rfl rfl HM.out HB.out.size (by rw [List.length_append, List.length_replicate]; have := Hsl.out; omega)).mono ?_)
              rintro e w7 ⟨row7, he, hM7, hK7⟩
              obtain ⟨a7, ha7⟩ : ∃ a7, a7 = s.length + j := ⟨_, rfl⟩
              rw [show (s ++ List.replicate j gbare).length = a7 from by rw [ha7, List.length_append, List.length_replicate]] at he
              subst he
              have HA7 := Aside0.mk ha7
              rw [← bares_snoc] at hM7
              have HM7 := Aside0.mk hM7
              have HH7 := Aside0.mk (hK7.blk HM.out HH.out (by decide))
              have HRS7 := Aside0.mk (hK7.R HM.out HRS.out (by decide))
              have HRF7 := Aside0.mk (hK7.R HM.out HRF.out (by decide))
              have HRP7 := Aside0.mk (hK7.R HM.out HRP.out (by decide))
              have HRf7 := Aside0.mk (hK7.R HM.out HRf.out (by decide))
              have HB7 := Aside0.mk (hK7.elder HM.out HB.out HB.out.size)
              clear ha7 hM7 hK7 HM HH HRS HRF HRP HRf HB
              go_wp2_with (at_builtin; refine holdI5 ?_)
              unfold HoldI5
              refine Kd.R_append KI (w0 := w) w.heap.size rfl (.tmp 64) (.tmp 67) 92 3 (.int .i64 0) 8 rfl Try.underlying92 info3 rfl (by decide) (by omega) (.slice Af j cf) (ints (List.range' s.length j)) (a7 : Int) [.int .i64 (a7 : Int)] (fun k => some k ≠ (Value.slice AF hf.length cF).ownBlock) (fun _ => False) rfl rfl rfl (fun _ hk => hk.elim) (fun k hk e => by have := Kd.R_lt HRF7.out k e.symm; omega) HRf7.out HB7.out HB7.out.size (by rw [ints_len, List.length_range']; omega) ?_
              intro v8 w8 hr8 hb8 hg8 hat8
              rw [← ints_app, show List.range' s.length j ++ [a7] = List.range' s.length (j + 1) from by rw [HA7.out, range_snoc]] at hr8
              have tf := Kd.R_typed HRf7.out
              have HRS8 := Aside0.mk (R_beside HRS7.out hg8 hat8)
              have HRF8 := Aside0.mk (R_beside1 HRF7.out hg8 hat8)
              have HRP8 := Aside0.mk (R_beside HRP7.out hg8 hat8)
              have HM8 := Aside0.mk (HM7.out.grown hg8 (fun k hk => by obtain ⟨c, hc⟩ := tf k hk; exact ⟨c, 3, hc, by decide, by decide⟩))
              have HH8 := Aside0.mk (blk_grownT HH7.out hg8 (fun k hk => by obtain ⟨c, hc⟩ := tf k hk; exact ⟨3, c, by decide, hc⟩))
              have HB8 := Aside0.mk hb8
              obtain ⟨A2, c2, e2⟩ := Kd.R_slice hr8
              rw [ints_len, List.length_range'] at e2
              subst e2
              have HRf8 := Aside0.mk hr8
              clear hr8 hb8 hg8 hat8 tf HRS7 HRF7 HRP7 HM7 HH7 HB7 HRf7
              go_wp2_with fail
              have hk := Hj.out
              obtain ⟨k1, rfl⟩ : ∃ k1, gk = k1 + 1 := ⟨gk - 1, by omega⟩
              go_roundg k1
              case measure => omega
              case rel => exact ⟨j + 1, row7, A2, c2, by rfl, by go_num, ⟨by omega⟩, HM8, HH8, HRS8, HRF8, HRP8, HRf8, HB8⟩
            · have hje : j = n := by have := Hj.out; omega
              subst hje
              go_wp2_with (at_builtin; refine holdI5 ?_)
              unfold HoldI5
              have info92 : (Try.prog.info? 92).map (fun i => (i.zero, i.size, i.bytes)) = some (some (.slice none 0 0), 1, 24) := by kernel_rfl
              refine Kd.R_append (Kd.slice 3 KI) (w0 := w) w.heap.size rfl (.tmp 70) (.tmp 72) 95 92 (.slice none 0 0) 24 rfl Try.underlying95 info92 rfl (Nat.lt_succ_self 0) (by omega) (.slice AP i cP) (pss.map ints) (ints (List.range' s.length j)) [.slice Af j cf] (fun k => some k ≠ (Value.slice AF hf.length cF).ownBlock) (fun k => some k ≠ (Value.slice AF hf.length cF).ownBlock ∧ ∃ cells, wr.heap[k]? = some (.cells cells 3 (0, 0))) rfl rfl ?xM (fun k hk => ⟨hk.1, fun e => ?xN⟩) (fun k hk e => by have := Kd.R_lt HRF.out k e.symm; omega) (Kd.R_mono HRP.out (fun k hk => hk.1)) HB.out HB.out.size (by rw [List.length_map, Hlen.out.2]; omega) ?_
              (case xM => exact ⟨_, rfl, Kd.R_mono (Kd.R_bound HRf.out) (fun k hk => by
                obtain ⟨h1, _, _, q, hq, cells, hc⟩ := hk
                rcases List.mem_cons.1 hq with e | hq
                · subst e; exact ⟨h1, cells, hc⟩
                · cases hq)⟩)
              (case xN => obtain ⟨cells, hc⟩ := hk.2; obtain ⟨c2, hc2⟩ := Kd.R_typed HRP.out k e.symm; exact absurd (blk_type hc hc2) (by decide))
              intro v8 w8 hr8 hb8 hg8 hat8
              rw [show pss.map ints ++ [ints (List.range' s.length j)] = (pss ++ [List.range' s.length j]).map ints from by rw [List.map_append]; rfl] at hr8
              have tf := Kd.R_typed HRP.out
              have HRS8 := Aside0.mk (Kd.R_over' HRS.out tf (by decide) hg8)
              have HRF8 := Aside0.mk (Kd.R_over' HRF.out tf (by decide) hg8)
              have HRf8 := Aside0.mk (Kd.R_over' HRf.out tf (by decide) hg8)
              have HM8 := Aside0.mk (HM.out.grown hg8 (fun k hk => by obtain ⟨c, hc⟩ := tf k hk; exact ⟨c, 92, hc, by decide, by decide⟩))
              have HH8 := Aside0.mk (blk_grownT HH.out hg8 (fun k hk => by obtain ⟨c, hc⟩ := tf k hk; exact ⟨92, c, by decide, hc⟩))
              have HB8 := Aside0.mk hb8
              have HRS8' := Aside0.mk (Kd.R_mono HRS8.out (fun k hk => hk.1))
              have HRF8' := Aside0.mk (Kd.R_mono HRF8.out (fun k hk => trivial) (ok' := fun _ => True))
              obtain ⟨A2, c2, e2⟩ := Kd.R_slice hr8
              rw [List.length_map, List.length_append, Hlen.out.2, show ([List.range' s.length j] : List (List Nat)).length = 1 from rfl] at e2
              subst e2
              have HRP8 := Aside0.mk hr8
              clear hr8 hb8 hg8 hat8 tf HRS HRF HRP HM HH HB HRf HRS8 HRF8 info92
              have n2 : w8.cell? ⟨gh, 1, none⟩ = some (.slice AF hf.length cF) := (blk_cell HH8.out 1).trans rfl
              go_upto_region 22 with (fail)
              go_region_law
                (first
                  | (go_simp
                     go_at_call 43
                     (with_reducible refine (chain_calls' (ps := List.range' s.length j) (d0 := 0) (di := 0) (List.length_range' ..) rfl (GM.keep HM8.out (below_drew (Below.refl _ _))) (below_drew HB8.out).size (by rw [List.length_append, List.length_replicate]; have := Hsl.out; omega) (Kd.R_drew HRf8.out)).mono ?_)
                     rintro e9 w9 ⟨row9, rfl, hM9, hK9⟩
                     have HM9 := Aside0.mk hM9
                     have hMd := GM.keep HM8.out (below_drew (Below.refl w8.heap.size w8))
                     have HH9 := Aside0.mk (hK9.blk hMd (blk_drew HH8.out) (by decide))
                     have HRS9 := Aside0.mk (hK9.R hMd (Kd.R_drew HRS8'.out) (by decide))
                     have HRF9 := Aside0.mk (hK9.R hMd (Kd.R_drew HRF8'.out) (by decide))
                     have HRP9 := Aside0.mk (hK9.R hMd (Kd.R_drew HRP8.out) (by decide))
                     have HB9 := Aside0.mk (hK9.elder hMd (below_drew HB8.out) (below_drew HB8.out).size)
                     have m2 : w9.cell? ⟨gh, 1, none⟩ = some (.slice AF hf.length cF) := (blk_cell HH9.out 1).trans rfl
                     have m3 := cellA m2
                     clear hM9 hK9 hMd)
                  | (have tk := HM9.out
                     refine Kd.R_append_step KI (w0 := w) w.heap.size rfl (.tmp 75) (.tmp 80) 92 3 (.int .i64 0) 8 rfl Try.underlying92 info3 rfl (by decide) (by omega) (.slice AF hf.length cF) (ints hf) (((gchain (s ++ List.replicate j gbare) (List.range' s.length j) 0).1 : Nat) : Int) [.int .i64 (((gchain (s ++ List.replicate j gbare) (List.range' s.length j) 0).1 : Nat) : Int)] (fun _ => True) (fun _ => False) rfl rfl rfl (fun _ hk => hk.elim) (fun _ _ => trivial) HRF9.out HB9.out HB9.out.size (by rw [ints_len, Hlen.out.1]; omega) ?_
                     intro v2 w10 hr10 hb10 hg10 hat10
                     rw [← ints_app] at hr10
                     have HRS10 := Aside0.mk (R_beside1 HRS9.out hg10 hat10)
                     have HRP10 := Aside0.mk (R_beside1 HRP9.out hg10 hat10)
                     obtain ⟨A3, c3, e3⟩ := Kd.R_slice hr10
                     rw [ints_len] at e3
                     subst e3
                     have tf := Kd.R_typed HRF9.out
                     have HRF10 := Aside0.mk hr10
                     have HB10 := Aside0.mk hb10
                     have HM10 := Aside0.mk (HM9.out.grown hg10 (fun k hk => by obtain ⟨c, hc⟩ := tf k hk; exact ⟨c, 3, hc, by decide, by decide⟩))
                     have HH10 := Aside0.mk (blk_grownT HH9.out hg10 (fun k hk => by obtain ⟨c, hc⟩ := tf k hk; exact ⟨3, c, by decide, hc⟩))
                     have k0 : w10.cell? ⟨gh, 1, none⟩ = some (.slice AF hf.length cF) := (blk_cell HH10.out 1).trans rfl
                     have k1 := blk_frozen HH10.out 1
                     clear hr10 hb10 hg10 hat10 tf HM9 HH9 HRS9 HRF9 HRP9 HB9 m2 m3 tk))
              all_goals (
                obtain ⟨ch, hch⟩ : ∃ ch, ch = gchain (s ++ List.replicate j gbare) (List.range' s.length j) 0 := ⟨_, rfl⟩
                rw [← hch] at HM10 HRS10 HRF10 HRP10 HGH4
                have hll : (hf ++ [ch.1]).length = hf.length + 1 := by rw [List.length_append]; rfl
                have HH11 := Aside0.mk (show (w10.setCell ⟨gh, 1, none⟩ (.slice A3 (hf.length + 1) c3)).heap[gh]? = some (.cells #[.slice none 0 0, .slice A3 (hf ++ [ch.1]).length c3, .slice AS (gS l0).1.length cS] 93 (0, 0)) from by rw [hll]; exact blk_put HH10.out 1 _ rfl)
                have HM11 := Aside0.mk (HM10.out.over (w' := w10.setCell ⟨gh, 1, none⟩ (.slice A3 (hf.length + 1) c3)) HH10.out (by decide) ⟨rfl, rfl, rfl, by simp [World.setCell], fun k hk he => Below.heap_setCell w10 _ _ k (fun e => he (by rw [e]))⟩)
                have HRS11 := Aside0.mk (Kd.R_set HRS10.out HH10.out (by decide) 1 (.slice A3 (hf.length + 1) c3))
                have HRF11 := Aside0.mk (Kd.R_set HRF10.out HH10.out (by decide) 1 (.slice A3 (hf.length + 1) c3))
                have HRP11 := Aside0.mk (Kd.R_set HRP10.out HH10.out (by decide) 1 (.slice A3 (hf.length + 1) c3))
                have HB11 := Aside0.mk (below_set (g := gh) (j := 1) (v := .slice A3 (hf.length + 1) c3) HB10.out hwh)
                have HLL := Aside0.mk hll
                have HCH := Aside0.mk (show ch.2.length = s.length + j + j from by rw [hch, gchain_len, List.length_append, List.length_replicate, List.length_range'])
                clear HH10 HM10 HRS10 HRF10 HRP10 HB10 k0 k1 HH8 HRS8' HRF8' HRP8 HRf8 HM8 HB8 n2 hch hll
                generalize w10.setCell ⟨gh, 1, none⟩ (.slice A3 (hf.length + 1) c3) = w11 at *
                go_wp2_with fail
                have hk := Hi.out
                go_roundg ko
                case measure => omega
                case rel => exact ⟨i + 1, ch.2, _, pss ++ [List.range' s.length j], hf ++ [ch.1], A3, A2, c3, c2, rfl, by go_num, ⟨by omega⟩, HGH4, ⟨by rw [HCH.out]; have := Hsl.out; omega⟩, ⟨by rw [HLL.out, Hlen.out.1], by rw [List.length_append, Hlen.out.2]; rfl⟩, HM11, HH11, HRS11, HRF11, HRP11, HB11⟩)
        · have hie : i = l1.length := by have := Hi.out; omega
          subst hie
          have hgs := HGH.out
          rw [List.drop_eq_nil_of_le (by rw [List.length_map]; exact Nat.le_refl _)] at hgs
          have e1 : (gH l0 (l1.map to48)).1.1 = pss := by rw [hgs]; exact List.append_nil pss
          have e2 : (gH l0 (l1.map to48)).1.2 = hf := by rw [hgs]; exact List.append_nil hf
          have e3 : (gH l0 (l1.map to48)).2 = s := by rw [hgs]; rfl
          subst e1 e2 e3
          have HHL := Aside0.mk (show (gH l0 (l1.map to48)).2.length ≤ 1121 from by have := Hsl.out; omega)
          clear hgs HGH Hsl
          go_wp2_with fail
          have HRS2 := Aside0.mk (Kd.R_mono HRS.out (fun k _ => trivial) (ok' := fun _ => True))
          have HRP2 := Aside0.mk (Kd.R_mono HRP.out (fun k _ => trivial) (ok' := fun _ => True))
          obtain ⟨b, s', hGB, hInv⟩ := HG.out.inv
          have HGB := Aside0.mk hGB
          have HInv := Aside0.mk hInv
          have Hh := Aside0.mk (gH_ok l0 (l1.map to48))
          have Hs := Aside0.mk (gS_ok l0)
          have Hbg := Aside0.mk (chk_big HK.out)
          clear HRS HRP hGB hInv HG
          go_loopg [86] l1.length (fun kq v86 wr => ∃ (i : Nat) (s : List GN) (row : Option Nat) (AV : Option Addr) (nV cV : Nat), v86 = .int .i64 (i : Int) ∧ Aside0 (i + kq = l1.length) ∧ Aside0 (GBodies (gS l0).1 (gH l0 (l1.map to48)).1.2 s ((gH l0 (l1.map to48)).1.1.drop i) ((l1.map to48).drop i) b s') ∧ Aside0 (GWF s) ∧ Aside0 ((gH l0 (l1.map to48)).2.length ≤ s.length ∧ s.length ≤ 1121 + 2000 * i) ∧ Aside0 (GM gg w.heap.size row wr s) ∧ Aside0 (wr.heap[gh]? = some (.cells #[.slice AV nV cV, .slice AF (gH l0 (l1.map to48)).1.2.length cF, .slice AS (gS l0).1.length cS] 93 (0, 0))) ∧ Aside0 (KI.R 3 wr w.heap.size (fun _ => True) (.slice AS (gS l0).1.length cS) (ints (gS l0).1)) ∧ Aside0 (KI.R 3 wr w.heap.size (fun _ => True) (.slice AF (gH l0 (l1.map to48)).1.2.length cF) (ints (gH l0 (l1.map to48)).1.2)) ∧ Aside0 ((Kd.slice 3 KI).R 92 wr w.heap.size (fun _ => True) (.slice AP l1.length cP) ((gH l0 (l1.map to48)).1.1.map ints)) ∧ Aside0 (Below w.heap.size w wr))
          case atStart => exact ⟨0, (gH l0 (l1.map to48)).2, row, none, 0, 0, rfl, ⟨by omega⟩, HGB, ⟨Hh.out.ext.wf⟩, ⟨Nat.le_refl _, HHL.out⟩, HM, HH, HRS2, HRF, HRP2, HB⟩
          case round =>
            clear HGB HM HH HRS2 HRF HRP2 HB HHL
            obtain ⟨i, s, row, AV, nV, cV, rfl, Hi, HGB, HW, Hsl, HM, HH, HRS, HRF, HRP, HB⟩ := hrel
            by_cases hlt : i < l1.length
            · have hpl : (gH l0 (l1.map to48)).1.1.length = l1.length := Hlen.out.2
              obtain ⟨gP, AVi, cVi, rfl, hv0, hRV⟩ := rows_at HRP.out hpl.symm (i := i) (by omega)
              obtain ⟨ad0, A4, c4, he, hx1, hx2, hx3, hx4, hx5, hl4, hC4⟩ := at_T56 HR1.out (i : Int) (by omega) (by omega)
              cases he
              replace hx1 := (HB.out.cell (World.block_lt_of_cell? w _ hx1)).trans hx1
              replace hx2 := (HB.out.cell (World.block_lt_of_cell? w _ hx2)).trans hx2
              replace hx3 := (HB.out.cell (World.block_lt_of_cell? w _ hx3)).trans hx3
              replace hx4 := (HB.out.cell (World.block_lt_of_cell? w _ hx4)).trans hx4
              replace hx5 := (HB.out.cell (World.block_lt_of_cell? w _ hx5)).trans hx5
              rw [Int.toNat_natCast] at hx1 hx2 hx3 hx4 hx5
              have hxe : rd_T56 l1 (i : Int) = l1[i] := by unfold rd_T56; rw [Int.toNat_natCast, List.getD_eq_getElem?_getD, List.getElem?_eq_getElem hlt]; rfl
              rw [hxe] at hx1 hx2 hx3 hx4 hx5 hl4 hC4
              have hbg := Hbg.out (to48 l1[i]) (List.mem_map_of_mem (List.getElem_mem hlt))
              have hgb := HGB.out
              rw [to48_drop hlt, List.drop_eq_getElem_cons (by omega : i < (gH l0 (l1.map to48)).1.1.length)] at hgb
              obtain ⟨m, hm, hcase⟩ := hgb.inv
              have hps : ∀ p, p ∈ (gH l0 (l1.map to48)).1.1[i] → p < s.length := fun p hp => Nat.lt_of_lt_of_le (Hh.out.lp _ (List.getElem_mem _) p hp) Hsl.out.1
              have hhd := hdR_lt hps (fun p hp => Nat.lt_of_lt_of_le (Hh.out.lk p hp) Hsl.out.1) (fun p hp => Nat.lt_of_lt_of_le (Nat.lt_of_lt_of_le (Hs.out.lk p hp) Hh.out.ext.len) Hsl.out.1)
              have hF4 : Kd.F k44 wr (fun k => k < w.heap.size) A4 l1[i].f2.f2.length l1[i].f2.f2 := Kd.F_step (Kd.C_F k44_heap hC4) (fun k hk _ => HB.out.block k hk)
              have p1 : (0 ≤ (i : Int)) = True := eq_true (by omega)
              have p2 : ((i : Int) < (l1.length : Int)) = True := eq_true (by omega)
              have p3 : (i < l1.length) = True := eq_true (by omega)
              have Hm := Aside0.mk hm
              have Hcase := Aside0.mk hcase
              have Hhd := Aside0.mk hhd
              have HF4 := Aside0.mk hF4
              have Hl4 := Aside0.mk hl4
              have HRV := Aside0.mk hRV
              have Hbgi := Aside0.mk hbg
              clear hxe HGB hl4 hC4 hgb hm hcase hps hhd hF4 hbg hRV
              obtain ⟨psi, hpsi⟩ : ∃ psi, psi = (gH l0 (l1.map to48)).1.1[i]'(by have := Hlen.out.2; omega) := ⟨_, rfl⟩
              rw [← hpsi] at Hm Hcase Hhd HRV hv0
              clear hpsi hpl
              generalize l1[i] = x at *
              obtain ⟨nm, rk, tb⟩ := x
              simp only at hx1 hx2 hx3 hx4 hx5
              replace Hm := Aside0.mk (show hdR psi (gH l0 (l1.map to48)).1.2 (gS l0).1 tb.f0 tb.f1 = some m from Hm.out)
              replace Hbgi := Aside0.mk (show tcntL tb.f2 ≤ 1000 from Hbgi.out)
              have hcs := Hcase.out
              simp only [to48] at hcs
              replace Hcase := Aside0.mk hcs
              clear hcs
              go_upto_region 27 with (
                  (with_reducible refine gate_dst (N := 17) rfl ?_)
                  refine box_event ?hg (N := 17) ?hd (cs := #[.string (⟨#[]⟩ : ByteArray), .int .i64 0, .int .i64 0, .int .i64 0, .slice none 0 0]) (t := 56) ?hr ?_
                  (case hd => rfl)
                  (case hg => rfl)
                  (case hr => first | (go_simp; done) | (go_simp; rfl))
                  intro gi hgi w6 hbox hb3
                  have hgw : wr.heap.size ≤ gi := by omega
                  have Hbw := Aside0.mk (below_set (g := gi) (j := 4) (v := .slice A4 tb.f2.length c4) (below_set (g := gi) (j := 3) (v := .int .i64 tb.f1) (below_set (g := gi) (j := 2) (v := .int .i64 tb.f0) (below_set (g := gi) (j := 1) (v := .int .i64 rk) (below_set (g := gi) (j := 0) (v := .string nm) hb3 hgw) hgw) hgw) hgw) hgw)
                  have Hgi := Aside0.mk (blk_put (cs' := #[.string nm, .int .i64 rk, .int .i64 tb.f0, .int .i64 tb.f1, .slice A4 tb.f2.length c4]) (blk_put (cs' := #[.string nm, .int .i64 rk, .int .i64 tb.f0, .int .i64 tb.f1, .slice none 0 0]) (blk_put (cs' := #[.string nm, .int .i64 rk, .int .i64 tb.f0, .int .i64 0, .slice none 0 0]) (blk_put (cs' := #[.string nm, .int .i64 rk, .int .i64 0, .int .i64 0, .slice none 0 0]) (blk_put (cs' := #[.string nm, .int .i64 0, .int .i64 0, .int .i64 0, .slice none 0 0]) (hbox) 0 (.string nm) rfl) 1 (.int .i64 rk) rfl) 2 (.int .i64 tb.f0) rfl) 3 (.int .i64 tb.f1) rfl) 4 (.slice A4 tb.f2.length c4) rfl)
                  have hcz0 := (blk_cell hbox 0).trans rfl
                  have hfz0 := blk_frozen hbox 0
                  have hcz1 := (blk_cell hbox 1).trans rfl
                  have hfz1 := blk_frozen hbox 1
                  have hcz2 := (blk_cell hbox 2).trans rfl
                  have hfz2 := blk_frozen hbox 2
                  have hcz3 := (blk_cell hbox 3).trans rfl
                  have hfz3 := blk_frozen hbox 3
                  have hcz4 := (blk_cell hbox 4).trans rfl
                  have hfz4 := blk_frozen hbox 4
                  clear hbox hb3 hgi hgw)
              clear hcz0 hcz1 hcz2 hcz3 hcz4 hfz0 hfz1 hfz2 hfz3 hfz4 hx1 hx2 hx3 hx4 hx5
              generalize (((((w6.setCell ⟨gi, 0, none⟩ (.string nm)).setCell ⟨gi, 1, none⟩ (.int .i64 rk)).setCell ⟨gi, 2, none⟩ (.int .i64 tb.f0)).setCell ⟨gi, 3, none⟩ (.int .i64 tb.f1)).setCell ⟨gi, 4, none⟩ (.slice A4 tb.f2.length c4)) = wq at *
              have HHq := Aside0.mk (blk_below HH.out Hbw.out)
              have n5 : wq.cell? ⟨gP, i, none⟩ = _ := cell_up Hbw.out hv0
              have n6 := (blk_cell HHq.out 0).trans rfl
              have n7 := blk_frozen HHq.out 0
              have HH8 := Aside0.mk (blk_put (cs' := #[.slice AVi psi.length cVi, .slice AF (gH l0 (l1.map to48)).1.2.length cF, .slice AS (gS l0).1.length cS]) HHq.out 0 (.slice AVi psi.length cVi) rfl)
              have HG8 := Aside0.mk (blk_far (p := ⟨gh, 0, none⟩) Hgi.out (blk_ne Hgi.out HHq.out (by decide)) (.slice AVi psi.length cVi))
              have HM8 := Aside0.mk ((HM.out.keep Hbw.out).over (w' := wq.setCell ⟨gh, 0, none⟩ (.slice AVi psi.length cVi)) HHq.out (by decide) ⟨rfl, rfl, rfl, by simp [World.setCell], fun k hk he => Below.heap_setCell wq _ _ k (fun e => he (by rw [e]))⟩)
              have HRS8 := Aside0.mk (Kd.R_set (Kd.R_below HRS.out Hbw.out) HHq.out (by decide) 0 (.slice AVi psi.length cVi))
              have HRF8 := Aside0.mk (Kd.R_set (Kd.R_below HRF.out Hbw.out) HHq.out (by decide) 0 (.slice AVi psi.length cVi))
              have HRP8 := Aside0.mk (Kd.R_set (Kd.R_below HRP.out Hbw.out) HHq.out (by decide) 0 (.slice AVi psi.length cVi))
              have HRV8 := Aside0.mk (Kd.R_set (Kd.R_below HRV.out Hbw.out) HHq.out (by decide) 0 (.slice AVi psi.length cVi))
              have HB8 := Aside0.mk (below_set (g := gh) (j := 0) (v := .slice AVi psi.length cVi) (below_step HB.out Hbw.out) hwh)
              have HF8 := Aside0.mk (Kd.F_step HF4.out (W1 := wq.setCell ⟨gh, 0, none⟩ (.slice AVi psi.length cVi)) (fun k hk hkl => ((Below.heap_setCell wq _ _ k (fun e => by have e' : k = gh := e; have h1 : k < w.heap.size := hk; omega)).trans (Hbw.out.block k hkl))))
              have m2 := (blk_cell HG8.out 2).trans rfl
              have m3 := (blk_cell HG8.out 3).trans rfl
              have m4 := (blk_cell HG8.out 4).trans rfl
              have k0 := (blk_cell HH8.out 0).trans rfl
              have k1 := (blk_cell HH8.out 1).trans rfl
              have k2 := (blk_cell HH8.out 2).trans rfl
              clear HM HH HRS HRF HRP HRV HB HF4 Hbw Hgi HHq HG8 hv0
              go_wp2_with fail
              clear n5 n6 n7
              generalize wq.setCell ⟨gh, 0, none⟩ (.slice AVi psi.length cVi) = w8 at *
              rcases Hcase.out with ⟨hb, hG1⟩ | ⟨k, s1, hG1, hu, hb⟩ | ⟨k, s1, s2, hG1, hu, hG2⟩
              · have HG1 := Aside0.mk hG1
                clear hG1 Hcase
                (with_reducible refine (sort_calls psi (gH l0 (l1.map to48)).1.2 (gS l0).1 _ tb.f2 (Nat.lt_succ_self _) tb.f0 tb.f1 A4 c4 m s s' none row w8 AVi AF AS cVi cF cS Hm.out HG1.out HW.out (Hhd.out _ _ _ Hm.out) Hhd.out (by have := HG1.out.bound; have := Hbgi.out; have := Hsl.out.2; have := HB8.out;  omega) HM8.out HB8.out.size HF8.out Hl4.out HRV8.out HRF8.out HRS8.out).mono ?_)
                rintro e w9 ⟨row9, rfl, hM9, hK9⟩
                have HM9 := Aside0.mk hM9
                have HH9 := Aside0.mk (hK9.blk HM8.out HH8.out (by decide))
                have HRS9 := Aside0.mk (hK9.R HM8.out HRS8.out (by decide))
                have HRF9 := Aside0.mk (hK9.R HM8.out HRF8.out (by decide))
                have HRP9 := Aside0.mk (hK9.R HM8.out HRP8.out (by decide))
                have HB9 := Aside0.mk (hK9.elder HM8.out HB8.out HB8.out.size)
                clear hM9 hK9 HM8 HH8 HRS8 HRF8 HRP8 HRV8 HF8 HB8 m2 m3 m4 k0 k1 k2
                have hI := HInv.out
                subst hb
                rcases hI with ⟨_, e1, e2⟩ | ⟨e0, _⟩
                rotate_left
                · cases e0
                subst e1 e2
                go_wp2_with fail
                go_ret2
                exact ⟨_, rfl, Kd.R_nil _ _ _ _ _, HB9.out⟩
              · have HG1 := Aside0.mk hG1
                have HU := Aside0.mk hu
                have Hs1 := Aside0.mk (show s1.length ≤ 1000000 from by have := hG1.bound; have := Hbgi.out; have := Hsl.out.2; omega)
                obtain ⟨_, hX1, _⟩ := (hG1.ok HW.out (Hhd.out _ _ _ Hm.out) Hhd.out).yes k rfl
                have HX1 := Aside0.mk hX1
                clear hG1 hu hX1 Hcase
                (with_reducible refine (sort_calls psi (gH l0 (l1.map to48)).1.2 (gS l0).1 _ tb.f2 (Nat.lt_succ_self _) tb.f0 tb.f1 A4 c4 m s s1 (some k) row w8 AVi AF AS cVi cF cS Hm.out HG1.out HW.out (Hhd.out _ _ _ Hm.out) Hhd.out (by have := HG1.out.bound; have := Hbgi.out; have := Hsl.out.2; have := HB8.out;  omega) HM8.out HB8.out.size HF8.out Hl4.out HRV8.out HRF8.out HRS8.out).mono ?_)
                rintro e w9 ⟨row9, rfl, hM9, hK9⟩
                have HM9 := Aside0.mk hM9
                have HH9 := Aside0.mk (hK9.blk HM8.out HH8.out (by decide))
                have HRS9 := Aside0.mk (hK9.R HM8.out HRS8.out (by decide))
                have HRF9 := Aside0.mk (hK9.R HM8.out HRF8.out (by decide))
                have HRP9 := Aside0.mk (hK9.R HM8.out HRP8.out (by decide))
                have HB9 := Aside0.mk (hK9.elder HM8.out HB8.out HB8.out.size)
                clear hM9 hK9 HM8 HH8 HRS8 HRF8 HRP8 HRV8 HF8 HB8 m2 m3 m4 k0 k1 k2
                go_wp2_with fail
                (with_reducible refine (unify_calls' (b := 0) (bi := 0) rfl HU.out (HX1.out.wf) HM9.out HB9.out.size (by have := Hs1.out; omega)).mono ?_)
                rintro e w10 ⟨rfl, hM10, hK10⟩
                have HM10 := Aside0.mk hM10
                have HB10 := Aside0.mk (hK10.elder HM9.out HB9.out HB9.out.size)
                clear hM10 hK10
                have hI := HInv.out
                subst hb
                rcases hI with ⟨_, e1, e2⟩ | ⟨e0, _⟩
                rotate_left
                · cases e0
                subst e1 e2
                go_wp2_with fail
                go_ret2
                exact ⟨_, rfl, Kd.R_nil _ _ _ _ _, HB10.out⟩
              · have HG1 := Aside0.mk hG1
                have HU := Aside0.mk hu
                have HG2 := Aside0.mk hG2
                have Hs1 := Aside0.mk (show s1.length ≤ s.length + 2000 from by have := hG1.bound; have := Hbgi.out; omega)
                obtain ⟨_, hX1, _⟩ := (hG1.ok HW.out (Hhd.out _ _ _ Hm.out) Hhd.out).yes k rfl
                have HX1 := Aside0.mk hX1
                have HUW := Aside0.mk (hu.ok hX1.wf)
                clear hG1 hu hX1 hG2 Hcase
                (with_reducible refine (sort_calls psi (gH l0 (l1.map to48)).1.2 (gS l0).1 _ tb.f2 (Nat.lt_succ_self _) tb.f0 tb.f1 A4 c4 m s s1 (some k) row w8 AVi AF AS cVi cF cS Hm.out HG1.out HW.out (Hhd.out _ _ _ Hm.out) Hhd.out (by have := HG1.out.bound; have := Hbgi.out; have := Hsl.out.2; have := HB8.out;  omega) HM8.out HB8.out.size HF8.out Hl4.out HRV8.out HRF8.out HRS8.out).mono ?_)
                rintro e w9 ⟨row9, rfl, hM9, hK9⟩
                have HM9 := Aside0.mk hM9
                have HH9 := Aside0.mk (hK9.blk HM8.out HH8.out (by decide))
                have HRS9 := Aside0.mk (hK9.R HM8.out HRS8.out (by decide))
                have HRF9 := Aside0.mk (hK9.R HM8.out HRF8.out (by decide))
                have HRP9 := Aside0.mk (hK9.R HM8.out HRP8.out (by decide))
                have HB9 := Aside0.mk (hK9.elder HM8.out HB8.out HB8.out.size)
                clear hM9 hK9 HM8 HH8 HRS8 HRF8 HRP8 HRV8 HF8 HB8 m2 m3 m4 k0 k1 k2
                go_wp2_with fail
                (with_reducible refine (unify_calls' (b := 0) (bi := 0) rfl HU.out (HX1.out.wf) HM9.out HB9.out.size (by have := Hs1.out; have := Hsl.out.2; omega)).mono ?_)
                rintro e w10 ⟨rfl, hM10, hK10⟩
                have HM10 := Aside0.mk hM10
                have HB10 := Aside0.mk (hK10.elder HM9.out HB9.out HB9.out.size)
                have HH10 := Aside0.mk (hK10.blk HM9.out HH9.out (by decide))
                have HRS10 := Aside0.mk (hK10.R HM9.out HRS9.out (by decide))
                have HRF10 := Aside0.mk (hK10.R HM9.out HRF9.out (by decide))
                have HRP10 := Aside0.mk (hK10.R HM9.out HRP9.out (by decide))
                clear hM10 hK10 HM9 HH9 HRS9 HRF9 HRP9 HB9
                go_wp2_with fail
                have hk := Hi.out
                obtain ⟨k1, rfl⟩ : ∃ k1, gk = k1 + 1 := ⟨gk - 1, by omega⟩
                go_roundg k1
                case measure => omega
                case rel => exact ⟨i + 1, s2, row9, AVi, psi.length, cVi, by go_num, ⟨by omega⟩, HG2, ⟨HUW.out.wf⟩, ⟨by rw [HUW.out.len]; have := Hsl.out.1; have := HX1.out.len; omega, by rw [HUW.out.len]; have := Hsl.out.2; have := Hs1.out; omega⟩, HM10, HH10, HRS10, HRF10, HRP10, HB10⟩
            · have hie : i = l1.length := by have := Hi.out; omega
              subst hie
              have hgb := HGB.out
              rw [show (l1.map to48).drop l1.length = [] from List.drop_eq_nil_of_le (by rw [List.length_map]; exact Nat.le_refl _)] at hgb
              obtain ⟨hb, hs'⟩ := hgb.inv_nil
              subst hb hs'
              have hI := HInv.out
              rcases hI with ⟨e0, _⟩ | ⟨_, r, hGR, hI⟩
              · cases e0
              obtain ⟨ob, hmk, hobR⟩ := make_row s'.length (by have := Hsl.out.2; omega)
              have HOB := Aside0.mk hobR
              have HGR := Aside0.mk hGR
              have HGR0 := Aside0.mk hGR
              have HEX := Aside0.mk (show (gH l0 (l1.map to48)).2.length ≤ s'.length from Hsl.out.1)
              have HI := Aside0.mk hI
              obtain ⟨A0', c0', hgg0⟩ : ∃ A0' c0', wr.heap[gg]? = some (.cells #[.slice A0' s'.length c0'] 90 (0, 0)) := by obtain ⟨_, A, c, h, _⟩ := HM.out; exact ⟨A, c, h⟩
              have n0 : wr.cell? ⟨gg, 0, none⟩ = some (.slice A0' s'.length c0') := (blk_cell hgg0 0).trans rfl
              have n1 := cellA n0
              have HSM := Aside0.mk (show s'.length ≤ 1000000 from by have := Hsl.out.2; omega)
              clear hgb HGB hI hGR hobR HRS HRP HInv hgg0 Hbg Hsl
              go_wp2_with fail
              clear hmk
              have hW5 : Below wr.heap.size wr (wr.alloc ob) := below_alloc (Below.refl _ _) ob
              have HM5 := Aside0.mk (HM.out.keep hW5)
              have HH5 := Aside0.mk (blk_below HH.out hW5)
              have HRF5 := Aside0.mk (Kd.R_mono (Kd.R_below (Kd.R_bound HRF.out) hW5) (ok' := fun k => k ≠ wr.heap.size) (fun k hk => by have := hk.2.2.1; omega))
              have HB5 := Aside0.mk (below_step HB.out hW5)
              have HST := Aside0.mk (show StR w.heap.size wr.heap.size s'.length (wr.alloc ob) (List.replicate s'.length 0) from by
                have := HOB.out wr w.heap.size HB.out.size
                unfold StR
                rw [List.length_replicate]
                exact this)
              clear hW5 HM HH HRF HB n0 n1
              obtain ⟨gst, hgst⟩ : ∃ gst, gst = wr.heap.size := ⟨_, rfl⟩
              rw [← hgst] at HST HRF5 ⊢
              clear hgst HOB
              generalize wr.alloc ob = w5 at *
              go_loopg [125] s'.length (fun kq v125 wr => ∃ (i : Nat) (st : List Nat), v125 = .int .i64 (i : Int) ∧ Aside0 (i + kq = s'.length) ∧ Aside0 (GRounds s' st i r) ∧ Aside0 (st.length = s'.length) ∧ Aside0 (StR w.heap.size gst s'.length wr st) ∧ Aside0 (GM gg w.heap.size row wr s') ∧ Aside0 (wr.heap[gh]? = some (.cells #[.slice AV nV cV, .slice AF (gH l0 (l1.map to48)).1.2.length cF, .slice AS (gS l0).1.length cS] 93 (0, 0))) ∧ Aside0 (KI.R 3 wr w.heap.size (fun k => k ≠ gst) (.slice AF (gH l0 (l1.map to48)).1.2.length cF) (ints (gH l0 (l1.map to48)).1.2)) ∧ Aside0 (Below w.heap.size w wr))
              case atStart => exact ⟨0, _, rfl, ⟨by omega⟩, HGR, ⟨List.length_replicate ..⟩, HST, HM5, HH5, HRF5, HB5⟩
              case round =>
                clear HGR HST HM5 HH5 HRF5 HB5
                obtain ⟨i, st, rfl, Hi, HGR, Hst, HST, HM, HH, HRF, HB⟩ := hrel
                have hsm := HSM.out
                by_cases hlt : i < s'.length
                · have p1 : (0 ≤ (i : Int)) = True := eq_true (by omega)
                  rcases HGR.out.inv hlt with ⟨st', h1, hr⟩ | ⟨st', h1, h2⟩
                  · have H1 := Aside0.mk h1
                    subst hr
                    clear h1
                    go_wp2_with fail
                    (with_reducible refine (round_calls H1.out _ HM.out HST.out HSM.out Hst.out).mono ?_)
                    rintro e w6 ⟨rfl, hS6, hg6⟩
                    have hcs := HST.out.typed
                    have HB6 := Aside0.mk (show Below w.heap.size w w6 from HB.out.grown hg6 HB.out.size (fun k hk => by
                      injection hk with hk
                      subst hk
                      obtain ⟨inner, ho⟩ := Kd.R_own HST.out
                      exact own_base ho gst (by simp [Value.ownBlock])))
                    clear hS6 hg6 hcs
                    have hI := HI.out
                    rcases hI with ⟨_, e1, e2⟩ | ⟨e0, _⟩
                    rotate_left
                    · cases e0
                    subst e1 e2
                    go_wp2_with fail
                    go_ret2
                    exact ⟨_, rfl, Kd.R_nil _ _ _ _ _, HB6.out⟩
                  · have H1 := Aside0.mk h1
                    have H2 := Aside0.mk h2
                    have HL2 := Aside0.mk (show st'.length = s'.length from by rw [h1.len]; exact Hst.out)
                    clear h1 h2
                    go_wp2_with fail
                    (with_reducible refine (round_calls H1.out _ HM.out HST.out HSM.out Hst.out).mono ?_)
                    rintro e w6 ⟨rfl, hS6, hg6⟩
                    obtain ⟨cs, hcs⟩ := HST.out.typed
                    have HS6 := Aside0.mk hS6
                    have HM6 := Aside0.mk (HM.out.over hcs (by decide) hg6)
                    have HH6 := Aside0.mk (blk_grownT HH.out hg6 (fun k hk => by injection hk with hk; subst hk; exact ⟨3, cs, by decide, hcs⟩))
                    have HRF6 := Aside0.mk (Kd.R_grown HRF.out hg6 (fun k hk e => hk (by injection e)))
                    have HB6 := Aside0.mk (show Below w.heap.size w w6 from HB.out.grown hg6 HB.out.size (fun k hk => by
                      injection hk with hk
                      subst hk
                      obtain ⟨inner, ho⟩ := Kd.R_own HST.out
                      exact own_base ho gst (by simp [Value.ownBlock])))
                    clear hS6 hg6 hcs HST HM HH HRF HB
                    go_wp2_with fail
                    have hk := Hi.out
                    obtain ⟨k1, rfl⟩ : ∃ k1, gk = k1 + 1 := ⟨gk - 1, by omega⟩
                    go_roundg k1
                    case measure => omega
                    case rel => exact ⟨i + 1, st', by go_num, ⟨by omega⟩, H2, HL2, HS6, HM6, HH6, HRF6, HB6⟩
                · have hie : i = s'.length := by have := Hi.out; omega
                  subst hie
                  have hr := HGR.out.end_
                  have hgr := HGR.out
                  subst hr
                  have hI := HI.out
                  rcases hI with ⟨e0, _⟩ | ⟨_, o, hGO, hI⟩
                  · cases e0
                  have HGO := Aside0.mk hGO
                  have HI2 := Aside0.mk hI
                  have hWF : GWF s' := HW.out
                  have hrr : (List.replicate s'.length 0).length = s'.length := List.length_replicate ..
                  obtain ⟨hh, wf⟩ := WF_of_fin hWF ((rounds_start hWF HGR0.out).2 rfl)
                  have HWF := Aside0.mk wf
                  have hlF : (gH l0 (l1.map to48)).1.2.length ≤ 64 := by have := Hlen.out.1; omega
                  have k0 := (blk_cell HH.out 1).trans rfl
                  have HRF2 := Aside0.mk (Kd.R_mono HRF.out (fun k _ => trivial) (ok' := fun _ => True))
                  have HBz := Aside0.mk (show ∀ k, k ∈ (gH l0 (l1.map to48)).1.2 → k < s'.length from fun k hk => Nat.lt_of_lt_of_le (Hh.out.lk k hk) HEX.out)
                  clear hgr hGO hI HI HST HRF wf hWF hrr HGR hsm
                  go_wp2_with fail
                  clear k0
                  generalize hpf : (gH l0 (l1.map to48)).1.2 = hf at *
                  go_loopg [22, 136] hf.length (fun kq v22 v136 wr => ∃ (i : Nat) (acc : List S41) (Ao : Option Addr) (co : Nat), v22 = .slice Ao acc.length co ∧ v136 = .int .i64 (i : Int) ∧ Aside0 (i + kq = hf.length) ∧ Aside0 (acc.length = i) ∧ Aside0 (GOuts s' acc (hf.drop i) o) ∧ Aside0 (GM gg w.heap.size row wr s') ∧ Aside0 (KI.R 3 wr w.heap.size (fun _ => True) (.slice AF hf.length cF) (ints hf)) ∧ Aside0 (Kd.R k41 41 wr w.heap.size (fun _ => True) (.slice Ao acc.length co) acc) ∧ Aside0 (Below w.heap.size w wr))
                  case atStart => exact ⟨0, [], none, 0, rfl, rfl, ⟨by omega⟩, ⟨rfl⟩, HGO, HM, HRF2, ⟨Kd.R_nil _ _ _ _ _⟩, HB⟩
                  case round =>
                    clear HGO HM HRF2 HB
                    obtain ⟨i, acc, Ao, co, rfl, rfl, Hi, Hal, HGO, HM, HRF, HRo, HB⟩ := hrel
                    by_cases hlt : i < hf.length
                    rotate_left
                    · have hie : i = hf.length := by have := Hi.out; omega
                      have hgo := HGO.out
                      rw [hie, List.drop_length] at hgo
                      have ho := hgo.inv_nil
                      subst ho
                      have hI := HI2.out
                      rcases hI with ⟨e0, _⟩ | ⟨e0, e1⟩
                      · cases e0
                      injection e0 with e0
                      subst e0 e1
                      clear hgo hie
                      go_wp2_with fail
                      go_ret2
                      exact ⟨_, rfl, HRo.out, HB.out⟩
                    · have hRFc := (Kd.R_reads' HRF.out).2.2
                      rw [ints_len] at hRFc
                      obtain ⟨adF, rfl, hxF⟩ := ints_at hRFc hlt
                      have hgo := HGO.out
                      rw [List.drop_eq_getElem_cons hlt] at hgo
                      obtain ⟨c, p, m, he, hn, hcase⟩ := hgo.inv
                      have He := Aside0.mk he
                      have Hn := Aside0.mk hn
                      have Hcase := Aside0.mk hcase
                      have p1 : (0 ≤ (i : Int)) = True := eq_true (by omega)
                      have p2 : ((i : Int) < (hf.length : Int)) = True := eq_true (by omega)
                      have p3 : (i < hf.length) = True := eq_true (by omega)
                      clear hRFc hgo HGO he hn hcase
                      generalize hf[i] = kf at *
                      rcases Hcase.out with ⟨hm, hr⟩ | ⟨hm, l, hol, hcase2⟩
                      · have b1 : decide (60 < (m : Int)) = true := decide_eq_true (by omega)
                        have b2 : decide (60 < m) = true := decide_eq_true hm
                        clear Hcase
                        go_wp2_with fail
                        (with_reducible refine (nodes_calls' HWF.out HM.out HSM.out He.out Hn.out).mono ?_)
                        rintro e w6 ⟨rfl, rfl⟩
                        · have hI := HI2.out
                          subst hr
                          rcases hI with ⟨_, e1, e2⟩ | ⟨e0, _⟩
                          rotate_left
                          · cases e0
                          subst e1 e2
                          go_wp2_with fail
                          go_ret2
                          exact ⟨_, rfl, Kd.R_nil _ _ _ _ _, HB.out⟩
                      · have b1 : decide (60 < (m : Int)) = false := decide_eq_false (by omega)
                        have b2 : decide (60 < m) = false := decide_eq_false (by omega)
                        have Hol := Aside0.mk hol
                        have Hc2 := Aside0.mk hcase2
                        have HnS := Aside0.mk ((nodes_fit HW.out HWF.out He.out Hn.out).2 hm)
                        obtain ⟨kI, hIs⟩ := (is_ev l).rounds
                        have HIs := Aside0.mk hIs
                        clear hol hcase2 Hcase hIs
                        go_wp2_with fail
                        (with_reducible refine (nodes_calls' HWF.out HM.out HSM.out He.out Hn.out).mono ?_)
                        rintro e w6 ⟨rfl, rfl⟩
                        go_wp2_with fail
                        (with_reducible refine (out_calls HWF.out (GSol_toK.2 (rho_sol HWF.out)) HSM.out _ kf c p l _ He.out (Nat.lt_succ_self _) (by have := HnS.out; omega) Hol.out HM.out).mono ?_)
                        rintro e w7 ⟨v7, rfl, hR7, hb7⟩
                        obtain ⟨A7, c7, rfl⟩ := Kd.R_slice hR7
                        have HM7 := Aside0.mk (HM.out.keep hb7)
                        have HRF7 := Aside0.mk (Kd.R_below HRF.out hb7)
                        have HRo7 := Aside0.mk (Kd.R_below HRo.out hb7)
                        have HN7 := Aside0.mk (Kd.R_mono (Kd.R_lower (Kd.R_new' (Kd.R_bound hR7) (Kd.R_lt HRo.out)) HB.out.size) (ok' := fun k => some k ≠ (Value.slice Ao acc.length co).ownBlock) (fun k hk => hk.2))
                        have HB7 := Aside0.mk (below_step HB.out hb7)
                        clear hR7 hb7 HM HRF HRo HB
                        go_wp2_with (
                          (with_reducible refine gate_dst (N := 25) rfl ?_)
                          refine box_event ?hg (N := 25) ?hd (cs := #[.slice none 0 0]) (t := 41) ?hr ?_
                          (case hd => rfl)
                          (case hg => rfl)
                          (case hr => first | (go_simp; done) | (go_simp; rfl))
                          intro gx hgx w8 hbox hb8
                          have Hbw := Aside0.mk (below_set (g := gx) (j := 0) (v := .slice A7 l.length c7) hb8 (by omega))
                          have HX := Aside0.mk (blk_put (cs' := #[.slice A7 l.length c7]) hbox 0 (.slice A7 l.length c7) rfl)
                          have hcz := (blk_cell hbox 0).trans rfl
                          have hfz := blk_frozen hbox 0
                          have hcx := (blk_cell HX.out 0).trans rfl
                          clear hbox hb8 hgx)
                        clear hcz hfz hcx
                        generalize w8.setCell ⟨gx, 0, none⟩ (.slice A7 l.length c7) = w9 at *
                        have HM9 := Aside0.mk (HM7.out.keep Hbw.out)
                        have HRF9 := Aside0.mk (Kd.R_below HRF7.out Hbw.out)
                        have HRo9 := Aside0.mk (Kd.R_below HRo7.out Hbw.out)
                        have HN9 := Aside0.mk (Kd.R_below HN7.out Hbw.out)
                        have HB9 := Aside0.mk (below_step HB7.out Hbw.out)
                        clear HM7 HRF7 HRo7 HN7 HB7 Hbw
                        (with_reducible refine (virgationref01_Is.calls kI A7 c7 l (isok l) w9 (Kd.R_reads' HN9.out).2.2 (Kd.R_reads' HN9.out).2.1 HIs.out).mono ?_)
                        rintro e w10 ⟨rfl, hb10⟩
                        have HX10 := Aside0.mk (blk_below HX.out hb10)
                        have HM10 := Aside0.mk (HM9.out.keep hb10)
                        have HRF10 := Aside0.mk (Kd.R_below HRF9.out hb10)
                        have HRo10 := Aside0.mk (Kd.R_below HRo9.out hb10)
                        have HN10 := Aside0.mk (Kd.R_below HN9.out hb10)
                        have HB10 := Aside0.mk (below_step HB9.out hb10)
                        clear hb10 HX HM9 HRF9 HRo9 HN9 HB9
                        rcases Hc2.out with ⟨hi, hr⟩ | ⟨hi, h2⟩
                        · rw [hi]
                          clear hi
                          have hI := HI2.out
                          subst hr
                          rcases hI with ⟨_, e1, e2⟩ | ⟨e0, _⟩
                          rotate_left
                          · cases e0
                          subst e1 e2
                          go_wp2_with fail
                          go_ret2
                          exact ⟨_, rfl, Kd.R_nil _ _ _ _ _, HB10.out⟩
                        · rw [hi]
                          have H2 := Aside0.mk h2
                          have hcx := (blk_cell HX10.out 0).trans rfl
                          clear hi h2
                          go_wp2_with (at_builtin; refine holdI5 ?_)
                          unfold HoldI5
                          refine Kd.R_append k41 (w0 := w) w.heap.size rfl (.tmp 150) (.tmp 152) 31 41 (.agg #[(.slice none 0 0)]) 24 rfl Try.underlying31 info41 rfl (by decide) (by omega) (.slice Ao acc.length co) acc (⟨l⟩ : S41) [.slice A7 l.length c7] (fun _ => True) (fun k => some k ≠ (Value.slice Ao acc.length co).ownBlock) rfl rfl (k41_mkM _ _ _ (⟨l⟩ : S41) HN10.out) (fun k hk => ⟨trivial, hk⟩) (fun _ _ => trivial) HRo10.out HB10.out HB10.out.size (by rw [Hal.out]; omega) ?_
                          intro v11 w11 hr11 hb11 hg11 _
                          obtain ⟨A11, c11, e11⟩ := Kd.R_slice hr11
                          obtain ⟨n11, hn11⟩ : ∃ n, n = (acc ++ [(⟨l⟩ : S41)]).length := ⟨_, rfl⟩
                          have tf := Kd.R_typed HRo10.out
                          have HM11 := Aside0.mk (HM10.out.grown hg11 (fun k hk => by obtain ⟨c, hc⟩ := tf k hk; exact ⟨c, 41, hc, by decide, by decide⟩))
                          have HRF11 := Aside0.mk (Kd.R_over' HRF10.out tf (by decide) hg11)
                          have HB11 := Aside0.mk hb11
                          subst e11
                          have HRo11 := Aside0.mk hr11
                          have HL11 := Aside0.mk (show (acc ++ [(⟨l⟩ : S41)]).length = acc.length + 1 from by rw [List.length_append]; rfl)
                          clear hr11 hb11 hg11 tf hcx hn11
                          go_wp2_with fail
                          have hk := Hi.out
                          obtain ⟨k1, rfl⟩ : ∃ k1, gk = k1 + 1 := ⟨gk - 1, by omega⟩
                          go_roundg k1
                          case measure => omega
                          case rel => exact ⟨i + 1, acc ++ [⟨l⟩], A11, c11, (by rw [HL11.out]), by go_num, ⟨by omega⟩, ⟨by rw [HL11.out, Hal.out]⟩, H2, HM11, HRF11, HRo11, HB11⟩
end Go.Proofs.Ytfhgoebgnilfaaa.I
namespace Go.Proofs.Ytfhgoebgnilfaaa.I
open Go.RowKit Go.Proofs.YtfhgoebgnilfaaaW.PrintWords Go.Proofs.YtfhgoebgnilfaaaW.PrintLast Go.Proofs.YtfhgoebgnilfaaaW.PrintMore
set_option linter.unusedVariables false
theorem fsorts_gsorts {k : Nat} {l0 : List S59} {l1 : List S56} {out : List S41} {er : Int} (hc : chkF l0 (l1.map to48) = some 0) (h : fsorts k l0 (l1.map to48) = some (out, er)) : GSorts l0 (l1.map to48) out er := by
  obtain ⟨f, out', er', hf, hu⟩ := sorts_same l0 (l1.map to48) hc
  have h1 := at_rounds (g := fun k => fsorts k l0 (l1.map to48)) (fun k => fsorts_s k l0 _) (Nat.le_max_left k f) h
  have h2 := at_rounds (g := fun k => fsorts k l0 (l1.map to48)) (fun k => fsorts_s k l0 _) (Nat.le_max_right k f) hf
  rw [h1] at h2
  injection h2 with h2
  injection h2 with e1 e2
  obtain ⟨o, e, hG⟩ := (gsorts_main l0 (l1.map to48) hc).1
  obtain ⟨a, b⟩ := hu o e hG
  rw [e1, e2, ← a, ← b]
  exact hG
end Go.Proofs.Ytfhgoebgnilfaaa.I
namespace Go.Proofs.Ytfhgoebgnilfaaa.I
open Go.RowKit
set_option linter.unusedVariables false
set_option linter.unusedSimpArgs false
def sS (t : KT) : S41 := ⟨toS t⟩
theorem toS_ars : ∀ vs : List KT, toS (ars vs .o) = vs.map sS
  | [] => rfl
  | v :: vs => by rw [ars, toS, toS_ars vs]; rfl
theorem toS_rep (n : Nat) : toS (ars (List.replicate n .o) .o) = List.replicate n z41 := by
  rw [toS_ars, List.map_replicate]; rfl
theorem rd_map (l : List KT) (n : Int) (t : KT) (h : l[n.toNat]? = some t) (h0 : 0 ≤ n) : n < ((l.map sS).length : Int) ∧ (rd_T41 (l.map sS) n).f0 = toS t := by
  obtain ⟨hl, he⟩ := List.getElem?_eq_some_iff.1 h
  refine ⟨by rw [List.length_map]; omega, ?_⟩
  unfold rd_T41
  rw [List.getD_eq_getElem?_getD, List.getElem?_map, h]
  rfl
theorem hd_of {sy : List S59} {G vs : List KT} {k n : Int} {t : KT} (h : hdG sy G vs k n = some t) (hk : k ≤ 2) (hk0 : 0 ≤ k) : hdF sy (G.map sS) (vs.map sS) k n = some (toS t) := by
  unfold hdG at h
  unfold hdF
  split at h
  · cases h
  · rename_i hn
    rw [if_neg hn]
    split at h
    · rename_i h0
      obtain ⟨h1, h2⟩ := rd_map vs n t h (by omega)
      rw [if_pos h0, if_pos h1, h2]
    · rename_i h0
      rw [if_neg h0]
      split at h
      · rename_i h1
        obtain ⟨h2, h3⟩ := rd_map G n t h (by omega)
        rw [if_pos h1, if_pos h2, h3]
      · rename_i h1
        obtain ⟨x, hx, rfl⟩ := Option.map_eq_some_iff.1 h
        obtain ⟨hl, he⟩ := List.getElem?_eq_some_iff.1 hx
        rw [if_neg h1, if_pos (by omega), if_pos (by omega), toS_rep]
        have : rd_T59 sy n = x := by unfold rd_T59; rw [List.getD_eq_getElem?_getD, hx]; rfl
        rw [this]
mutual
theorem ofT_ty {sy : List S59} {G vs : List KT} {p f s : Int} : ∀ (x : S44) (t : KT), knownS x p f s = true → Ty (hdG sy G vs) x t → ofT sy (G.map sS) (vs.map sS) x = some (toS t)
  | ⟨k, n, l⟩, t, hk, h => by
    unfold Ty at h
    obtain ⟨t0, h0, h1⟩ := h
    unfold knownS at hk
    simp only [Bool.and_eq_true] at hk
    have hK : 0 ≤ k ∧ k ≤ 2 := by
      have := hk.1.1
      unfold isK at this
      have := of_decide_eq_true this
      omega
    obtain ⟨a, b, c⟩ := ofL_ty l t0 t hk.2 h1
    rw [ofT, hd_of h0 hK.2 hK.1]
    show (if (toS t0).length < l.length then none else if ofL sy (G.map sS) (vs.map sS) l (toS t0) = true then some ((toS t0).drop l.length) else none) = some (toS t)
    rw [if_neg (by omega), if_pos a, c]
theorem ofL_ty {sy : List S59} {G vs : List KT} {p f s : Int} : ∀ (l : List S44) (t0 t : KT), knownL l p f s = true → TyL (hdG sy G vs) t0 l t → ofL sy (G.map sS) (vs.map sS) l (toS t0) = true ∧ l.length ≤ (toS t0).length ∧ (toS t0).drop l.length = toS t
  | [], t0, t, _, h => by
    unfold TyL at h
    subst h
    exact ⟨by rw [ofL], Nat.zero_le _, rfl⟩
  | x :: xs, t0, t, hk, h => by
    unfold TyL at h
    obtain ⟨a, b, rfl, h1, h2⟩ := h
    unfold knownL at hk
    simp only [Bool.and_eq_true] at hk
    have e1 := ofT_ty x a hk.1 h1
    obtain ⟨e2, e3, e4⟩ := ofL_ty xs b t hk.2 h2
    refine ⟨?_, ?_, ?_⟩
    · rw [ofL, e1]
      show (eqL (toS a) (toS a) && ofL sy (G.map sS) (vs.map sS) xs (toS b)) = true
      rw [eqL_refl, e2]
      rfl
    · rw [toS, List.length_cons, List.length_cons]; omega
    · rw [toS, List.length_cons, List.drop_succ_cons]; exact e4
end
theorem bodies_ty {sy : List S59} {G : List KT} {nf ns : Int} : ∀ (As : List (List KT)) (l : List S48), As.length = l.length → (∀ x ∈ l, knownS x.f2 x.f1 nf ns = true) → AllT sy G As l → bodiesL sy (G.map sS) (mkFuns l ((gam As).map sS)) = true
  | [], [], _, _, _ => rfl
  | [], _ :: _, h, _, _ => by cases h
  | _ :: _, [], h, _, _ => by cases h
  | vs :: As, x :: xs, h, hk, ht => by
    unfold AllT at ht
    have e1 := ofT_ty x.f2 .o (hk x List.mem_cons_self) ht.1
    have e2 := bodies_ty As xs (by simpa using h) (fun y hy => hk y (List.mem_cons_of_mem _ hy)) ht.2
    show bodiesL sy (G.map sS) (⟨x.f0, sS (ars vs .o), x.f2⟩ :: mkFuns xs ((gam As).map sS)) = true
    rw [bodiesL]
    show ((match ofT sy (G.map sS) (toS (ars vs .o)) x.f2 with | none => false | some s => decide (s.length = 0)) && bodiesL sy (G.map sS) (mkFuns xs ((gam As).map sS))) = true
    rw [toS_ars, e1, e2]
    rfl
theorem mkFuns_sorts : ∀ (l : List S48) (out : List S41), l.length = out.length → (mkFuns l out).map (·.f1) = out
  | [], [], _ => rfl
  | [], _ :: _, h => by cases h
  | _ :: _, [], h => by cases h
  | x :: xs, o :: os, h => by
    show o :: (mkFuns xs os).map (·.f1) = o :: os
    rw [mkFuns_sorts xs os (by simpa using h)]
theorem good_ok {t : KT} (h : goodB t = true) : isok (toS t) = true := by
  unfold goodB at h
  simp only [Bool.and_eq_true, decide_eq_true_eq] at h
  have h2 := h.2
  rw [check_eq] at h2
  by_cases hi : isok (toS t) = true
  · exact hi
  · rw [if_neg hi] at h2; cases h2
theorem funs_ok {nf ns : Int} : ∀ (l : List S48) (G : List KT) (L : List ByteArray), l.length = G.length → looseL l nf ns L = true → G.all goodB = true → funsL (mkFuns l (G.map sS)) L = true
  | [], [], _, _, _, _ => rfl
  | [], _ :: _, _, h, _, _ => by cases h
  | _ :: _, [], _, h, _, _ => by cases h
  | x :: xs, t :: ts, L, hl, h, hg => by
    unfold looseL at h
    rw [List.all_cons, Bool.and_eq_true] at hg
    split at h
    · cases h
    · rename_i hb
      have e := funs_ok xs ts (L ++ [x.f0]) (by simpa using hl) h hg.2
      show funsL (⟨x.f0, sS t, x.f2⟩ :: mkFuns xs (ts.map sS)) L = true
      rw [funsL]
      have hb2 : looseBad x nf ns L = false := by simpa using hb
      rw [loose_eq] at hb2
      simp only [Bool.or_eq_false_iff, Bool.not_eq_false'] at hb2
      obtain ⟨⟨n1, n2, n3, n4, n5⟩, n6⟩ := hb2
      show ((funOk ⟨x.f0, sS t, x.f2⟩ && !isIn L x.f0) && funsL (mkFuns xs (ts.map sS)) (L ++ [x.f0])) = true
      rw [e, n6]
      unfold funOk
      show (((nameOk x.f0 && (isok (toS t) && !big x.f2)) && true) && true) = true
      rw [n1, good_ok hg.1, n4]
      rfl
theorem found_ok {sy : List S59} {l : List S48} {As : List (List KT)} (hc : chkF sy l = some 0) (ht : Typed sy l As) (hg : (gam As).all goodB = true) : schB sy (mkFuns l ((gam As).map sS)) = true := by
  obtain ⟨h1, h2, h3, h4, h5⟩ := fCheck_ok hc
  have hz : (rd_T48 l 0).f1 = 0 ∧ looseL l (l.length : Int) (sy.length : Int) [] = true := by
    unfold chkF at hc
    injection hc with hc
    split at hc
    · cases hc
    split at hc
    · cases hc
    rename_i h6
    split at hc
    · rename_i h7
      refine ⟨?_, h7⟩
      by_cases h : (rd_T48 l 0).f1 = 0
      · exact h
      · exact absurd (.inr (.inr h)) h6
    · cases hc
  have hl : l.length = As.length := by have := congrArg List.length ht.1; rw [List.length_map, List.length_map] at this; exact this.symm
  have hlg : l.length = (gam As).length := by unfold gam; rw [List.length_map]; exact hl
  have hlm : l.length = ((gam As).map sS).length := by rw [List.length_map]; exact hlg
  have hfl : (mkFuns l ((gam As).map sS)).length = l.length := by unfold mkFuns; rw [List.length_zipWith, ← hlm]; exact Nat.min_self _
  have e1 := funs_ok l (gam As) [] hlg hz.2 hg
  have e2 := bodies_ty (sy := sy) (G := gam As) As l hl.symm (looseL_known l _ _ [] hz.2) ht.2
  have e3 : (rd_T46 (mkFuns l ((gam As).map sS)) 0).f1.f0.length = 0 := by
    cases l with
    | nil => exact absurd h3 (by simp)
    | cons x xs =>
      cases As with
      | nil => cases hl
      | cons vs Bs =>
        show (toS (ars vs .o)).length = 0
        rw [toS_ars, List.length_map]
        have e := ht.1
        rw [List.map_cons, List.map_cons] at e
        injection e with e _
        rw [e]
        have h0 := hz.1
        show x.f1.toNat = 0
        have : x.f1 = 0 := h0
        omega
  unfold schB
  rw [mkFuns_sorts l _ hlm, e2, e1, h1, decide_eq_true h2, hfl, decide_eq_true (by omega : 1 ≤ l.length), decide_eq_true h4, decide_eq_true e3]
  rfl
end Go.Proofs.Ytfhgoebgnilfaaa.I
namespace Go.Proofs.Ytfhgoebgnilfaaa.I
open Go.RowKit Go.Proofs.YtfhgoebgnilfaaaW.PrintWords Go.Proofs.YtfhgoebgnilfaaaW.PrintLast Go.Proofs.YtfhgoebgnilfaaaW.PrintMore
attribute [local go_sem] max2_int min2_int max_two min_two max_three min_three max_four min_four
set_option linter.unusedVariables false
set_option maxRecDepth 100000
set_option linter.unusedSimpArgs false
theorem given_any (k : Nat) (A1 : Option Addr) (c1 : Nat) (l1 : List S56) (w : World) (hr : Kd.C k56 w A1 l1.length l1) (hc : l1.length ≤ c1) (h : virgationlaw04_given.f k l1 = some (l1.map to48)) :
    Calls Try.prog 11 #[.slice A1 l1.length c1] w fun e w' => ∃ A c, e = .returned (.slice A l1.length c) ∧ l1.length ≤ c ∧ Kd.C k48 w' A l1.length (l1.map to48) ∧ Below w.heap.size w w' := by
  refine (virgationlaw04_given.calls k (fun k_ => k_ < w.heap.size) _ _ l1 _ _ (Kd.V_mk hc (Kd.C_F k56_heap hr)) h).mono ?_
  rintro e w' ⟨v, rfl, ho, hb⟩
  obtain ⟨A, c, rfl⟩ := Kd.N_slice ho
  have h2 := Kd.N_reads' ho
  rw [List.length_map] at h2
  exact ⟨A, c, by rw [List.length_map], h2.2.1, h2.2.2, hb⟩
theorem IntSt.of_below {B : Nat} {w w' : World} (h : Below w.heap.size w w') : IntSt B w w' := ⟨h.os, h.tape, h.output, h.size, fun k hk => .inl (h.block k hk)⟩
end Go.Proofs.Ytfhgoebgnilfaaa.I
namespace Go.Proofs.Ytfhgoebgnilfaaa.I
open Go.RowKit Go.Proofs.YtfhgoebgnilfaaaW.PrintWords Go.Proofs.YtfhgoebgnilfaaaW.PrintLast Go.Proofs.YtfhgoebgnilfaaaW.PrintMore
attribute [local go_sem] max2_int min2_int max_two min_two max_three min_three max_four min_four
set_option linter.unusedVariables false
set_option maxRecDepth 100000
set_option linter.unusedSimpArgs false
def ErrC {α : Type} (F : Nat) (d : Kd α) (l0 : List S59) (l1 : List α) (er : Int) : Prop := ∀ (A0 : Option Addr) (c0 : Nat) (A1 : Option Addr) (c1 : Nat) (w : World), Kd.C k59 w A0 l0.length l0 → l0.length ≤ c0 → Kd.C d w A1 l1.length l1 → l1.length ≤ c1 →
  Calls Try.prog F #[.slice A0 l0.length c0, .slice A1 l1.length c1] w fun e w' => e = .returned (.tuple #[.agg #[.slice none 0 0, .slice none 0 0], .int .i64 er]) ∧ Below w.heap.size w w'
def OkC {α : Type} (F : Nat) (d : Kd α) (l0 : List S59) (l1 : List α) (fs : List S46) : Prop := ∀ (A0 : Option Addr) (c0 : Nat) (A1 : Option Addr) (c1 : Nat) (w : World), Kd.C k59 w A0 l0.length l0 → l0.length ≤ c0 → Kd.C d w A1 l1.length l1 → l1.length ≤ c1 →
  Calls Try.prog F #[.slice A0 l0.length c0, .slice A1 l1.length c1] w fun e w' => ∃ v1 v2, e = .returned (.tuple #[.agg #[v1, v2], .int .i64 0]) ∧ Kd.R k59 59 w' w.heap.size (fun _ => True) v1 l0 ∧ Kd.R k46 46 w' w.heap.size (fun _ => True) v2 fs ∧ Below w.heap.size w w'
theorem both_schemes (l0 : List S59) (l1 : List S56) (hw : looseWf (l1.map to48) = true) : (∃ er : Int, er ≠ 0 ∧ ErrC 20 k48 l0 (l1.map to48) er ∧ ErrC 21 k56 l0 l1 er) ∨ (∃ fs : List S46, schB l0 fs = true ∧ OkC 20 k48 l0 (l1.map to48) fs ∧ OkC 21 k56 l0 l1 fs) := by
  obtain ⟨r, hc⟩ : ∃ r, chkF l0 (l1.map to48) = some r := ⟨_, rfl⟩
  have hwf := looseWf_of hw
  by_cases hr : r = 0
  · subst hr
    have hok := fCheck_ok hc
    have hlm : (l1.map to48).length = l1.length := List.length_map _
    have hbig : ∀ x ∈ l1, tcntL x.f2.f2 ≤ 1000 := fun x hx => chk_big hc (to48 x) (List.mem_map_of_mem hx)
    have hbig2 : ∀ x ∈ l1.map to48, tcntL x.f2.f2 ≤ 1000 := fun x hx => chk_big hc x hx
    have err : ∀ (f : Nat) (er : Int), er ≠ 0 → fsorts f l0 (l1.map to48) = some ([], er) → ErrC 20 k48 l0 (l1.map to48) er ∧ ErrC 21 k56 l0 l1 er := fun f er he hf =>
      ⟨fun A0 c0 A1 c1 w h0 k0 h1 k1 => scheme20_err A0 c0 l0 A1 c1 (l1.map to48) [] er w h0 k0 h1 k1 (fun w' a b => infer_Sorts_calls f A0 c0 l0 A1 c1 (l1.map to48) [] er w' a k0 b k1 hwf hf) he,
       fun A0 c0 A1 c1 w h0 k0 h1 k1 => scheme21_err A0 c0 l0 A1 c1 l1 [] er w h0 k0 h1 k1 (fun w' a b => refsorts_ok A0 c0 l0 A1 c1 l1 [] er w' a k0 b k1 hc hc (fsorts_gsorts hc hf)) he⟩
    rcases sorts_main l0 (l1.map to48) hc with ⟨As, hT, _, f, hf⟩ | ⟨_, f, hf⟩
    · by_cases hg : (gam As).all goodB = true
      · rw [if_pos hg] at hf
        have hl : As.length = (l1.map to48).length := by have := congrArg List.length hT.1; rw [List.length_map, List.length_map] at this; exact this
        have hlen : ((gam As).map sS).length = (l1.map to48).length := by unfold gam; rw [List.length_map, List.length_map]; exact hl
        refine .inr ⟨mkFuns (l1.map to48) ((gam As).map sS), found_ok hc hT hg, fun A0 c0 A1 c1 w h0 k0 h1 k1 => ?_, fun A0 c0 A1 c1 w h0 k0 h1 k1 => ?_⟩
        · exact scheme20_ok A0 c0 l0 A1 c1 (l1.map to48) _ w h0 k0 h1 k1 (fun w' a b => infer_Sorts_calls f A0 c0 l0 A1 c1 (l1.map to48) _ 0 w' a k0 b k1 hwf hf) hbig2 hlen hok.2.1 hok.2.2.2.1
        · exact scheme21_ok A0 c0 l0 A1 c1 l1 _ w h0 k0 h1 k1 (fun w' a b => refsorts_ok A0 c0 l0 A1 c1 l1 _ 0 w' a k0 b k1 hc hc (fsorts_gsorts hc hf)) hbig (hlen.trans hlm) hok.2.1 (by rw [← hlm]; exact hok.2.2.2.1)
      · rw [if_neg hg] at hf
        exact .inl ⟨3, by decide, err f 3 (by decide) hf⟩
    · exact .inl ⟨6, by decide, err f 6 (by decide) hf⟩
  · have hf : fsorts 1 l0 (l1.map to48) = some ([], r) := by unfold fsorts; rw [hc]; simp [hr]
    exact .inl ⟨r, hr, fun A0 c0 A1 c1 w h0 k0 h1 k1 => scheme20_err A0 c0 l0 A1 c1 (l1.map to48) [] r w h0 k0 h1 k1 (fun w' a b => infer_Sorts_calls 1 A0 c0 l0 A1 c1 (l1.map to48) [] r w' a k0 b k1 hwf hf) hr,
      fun A0 c0 A1 c1 w h0 k0 h1 k1 => scheme21_err A0 c0 l0 A1 c1 l1 [] r w h0 k0 h1 k1 (fun w' a b => by
        refine (refsorts_err A0 c0 l0 A1 c1 l1 r w' a k0 b k1 hc hr).mono ?_
        rintro e w2 ⟨rfl, hb⟩
        exact ⟨_, rfl, Kd.R_nil _ _ _ _ _, hb⟩) hr⟩
set_option maxHeartbeats 8000000 in
theorem infscheme_calls (A0 : Option Addr) (c0 : Nat) (l0 : List S59) (A1 : Option Addr) (c1 : Nat) (l1 : List S56) (w : World) (hr0 : Kd.C k59 w A0 l0.length l0) (hc0 : l0.length ≤ c0) (hr1 : Kd.C k56 w A1 l1.length l1) (hc1 : l1.length ≤ c1) (hw : looseWf (l1.map to48) = true) :
    Calls Try.prog 6 #[.slice A0 l0.length c0, .slice A1 l1.length c1] w fun e w' => e = .returned (.bool true) ∧ Below w.heap.size w w' := by
  have hu38 := Try.underlying38
  have hlen1 : l1.length ≤ 9223372036854775807 := hr1.2.1
  have hlen0 : l0.length ≤ 9223372036854775807 := hr0.2.1
  have HR0 := Aside0.mk hr0
  have HC0 := Aside0.mk hc0
  have HR1 := Aside0.mk hr1
  have HC1 := Aside0.mk hc1
  have HS := Aside0.mk (both_schemes l0 l1 hw)
  clear hr0 hc0 hr1 hc1 hw
  by_cases h1000 : 1000 < l1.length
  · have q1 : (1000 < l1.length) = True := eq_true h1000
    have q2 : ((1000 : Int) < (l1.length : Int)) = True := eq_true (by omega)
    clear h1000 HS
    go_enter Try.func6, Try.ntmps6
    go_wp2_with fail
    (with_reducible refine (alive_calls _).mono ?_)
    rintro e w1 ⟨rfl, hb1⟩
    have HB1 := Aside0.mk hb1
    clear hb1
    go_wp2_with fail
    go_ret
    exact ⟨rfl, HB1.out⟩
  have q1 : (1000 < l1.length) = False := eq_false h1000
  have q2 : ((1000 : Int) < (l1.length : Int)) = False := eq_false (by omega)
  obtain ⟨kG, hG⟩ := (given_ev l1 (by omega)).rounds
  have HG := Aside0.mk hG
  clear hG h1000
  go_enter Try.func6, Try.ntmps6
  go_wp2_with fail
  (with_reducible refine (given_any kG A1 c1 l1 _ HR1.out HC1.out HG.out).mono ?_)
  rintro e w1 ⟨Ag, cg, rfl, hcg, hCg, hb1⟩
  have HB1 := Aside0.mk hb1
  have HCg := Aside0.mk hCg
  have Hcg := Aside0.mk hcg
  clear hb1 hCg hcg q1 q2 HG
  go_wp2_with fail
  rcases HS.out with ⟨er, her, h20, h21⟩ | ⟨fs, hsch, h20, h21⟩
  · have hs := h20 A0 c0 Ag cg w1 (Kd.C_below HR0.out HB1.out) HC0.out (by rw [List.length_map]; exact HCg.out) (by rw [List.length_map]; exact Hcg.out)
    rw [List.length_map] at hs
    (with_reducible refine hs.mono ?_)
    have H21 := Aside0.mk h21
    clear hs h20 h21 HS HCg Hcg
    rintro e w2 ⟨rfl, hb2⟩
    have HB2 := Aside0.mk (below_step HB1.out hb2)
    have b1 : (er != 0) = true := bne_iff_ne.2 her
    have b2 : (er == 0) = false := beq_eq_false_iff_ne.2 her
    clear hb2 her HB1
    go_wp2_with (
      (with_reducible refine gate_dst (N := 5) rfl ?_)
      refine box_event ?hg (N := 5) ?hd (cs := #[.slice none 0 0, .slice none 0 0]) (t := 38) ?hr ?_
      (case hd => rfl)
      (case hg => rfl)
      (case hr => first | (go_simp; done) | (go_simp; rfl))
      intro g5 hg5 w3 hbox hb3
      have hw5 : w2.heap.size ≤ g5 := by omega
      have HB3 := Aside0.mk (below_step HB2.out (below_set (g := g5) (j := 1) (v := .slice none 0 0) (below_set (g := g5) (j := 0) (v := .slice none 0 0) hb3 hw5) hw5))
      have S5 := Aside0.mk (blk_put (cs' := #[.slice none 0 0, .slice none 0 0]) (blk_put (cs' := #[.slice none 0 0, .slice none 0 0]) hbox 0 (.slice none 0 0) rfl) 1 (.slice none 0 0) rfl)
      have hcz0 := (blk_cell hbox 0).trans rfl
      have hcz1 := (blk_cell hbox 1).trans rfl
      have hfz0 := blk_frozen hbox 0
      have hfz1 := blk_frozen hbox 1
      clear hbox hb3 hg5)
    clear hcz0 hcz1 hfz0 hfz1
    generalize (w3.setCell ⟨g5, 0, none⟩ (.slice none 0 0)).setCell ⟨g5, 1, none⟩ (.slice none 0 0) = w4 at *
    have hs2 := H21.out A0 c0 A1 c1 w4 (Kd.C_below HR0.out HB3.out) HC0.out (Kd.C_below HR1.out HB3.out) HC1.out
    (with_reducible refine hs2.mono ?_)
    clear hs2
    rintro e w5 ⟨rfl, hb5⟩
    have HB5 := Aside0.mk (below_step HB3.out hb5)
    have S55 := Aside0.mk (blk_below S5.out hb5)
    clear hb5 HB3 S5 HB2
    go_wp2_with (
      (with_reducible refine gate_dst (N := 7) rfl ?_)
      refine box_event ?hg (N := 7) ?hd (cs := #[.slice none 0 0, .slice none 0 0]) (t := 38) ?hr ?_
      (case hd => rfl)
      (case hg => rfl)
      (case hr => first | (go_simp; done) | (go_simp; rfl))
      intro g7 hg7 w6 hbox hb3
      have hw5 : w5.heap.size ≤ g7 := by omega
      have Hbw := Aside0.mk (below_set (g := g7) (j := 1) (v := .slice none 0 0) (below_set (g := g7) (j := 0) (v := .slice none 0 0) hb3 hw5) hw5)
      have HB6 := Aside0.mk (below_step HB5.out Hbw.out)
      have hcz0 := (blk_cell hbox 0).trans rfl
      have hcz1 := (blk_cell hbox 1).trans rfl
      have hfz0 := blk_frozen hbox 0
      have hfz1 := blk_frozen hbox 1
      have s0 := (blk_cell (blk_below S55.out Hbw.out) 0).trans rfl
      have s1 := (blk_cell (blk_below S55.out Hbw.out) 1).trans rfl
      clear hbox hb3 hg7)
    (with_reducible refine (alive_calls _).mono ?_)
    rintro e w8 ⟨rfl, hb8⟩
    have HB8 := Aside0.mk (below_step HB6.out hb8)
    clear hb8
    go_wp2_with fail
    go_ret
    exact ⟨rfl, HB8.out⟩
  · have hs := h20 A0 c0 Ag cg w1 (Kd.C_below HR0.out HB1.out) HC0.out (by rw [List.length_map]; exact HCg.out) (by rw [List.length_map]; exact Hcg.out)
    rw [List.length_map] at hs
    (with_reducible refine hs.mono ?_)
    have H21 := Aside0.mk h21
    have HSch := Aside0.mk hsch
    clear hs h20 h21 HS HCg Hcg hsch
    rintro e w2 ⟨v1, v2, rfl, hRs, hRf, hb2⟩
    obtain ⟨As, cs, rfl⟩ := Kd.R_slice hRs
    obtain ⟨Af, cf, rfl⟩ := Kd.R_slice hRf
    have HRs := Aside0.mk (Kd.R_reads' hRs).2
    have HRf := Aside0.mk (Kd.R_reads' hRf).2
    have HB2 := Aside0.mk (below_step HB1.out hb2)
    clear hb2 hRs hRf HB1
    go_wp2_with (
      (with_reducible refine gate_dst (N := 5) rfl ?_)
      refine box_event ?hg (N := 5) ?hd (cs := #[.slice none 0 0, .slice none 0 0]) (t := 38) ?hr ?_
      (case hd => rfl)
      (case hg => rfl)
      (case hr => first | (go_simp; done) | (go_simp; rfl))
      intro g5 hg5 w3 hbox hb3
      have hw5 : w2.heap.size ≤ g5 := by omega
      have Hbw := Aside0.mk (below_set (g := g5) (j := 1) (v := .slice Af fs.length cf) (below_set (g := g5) (j := 0) (v := .slice As l0.length cs) hb3 hw5) hw5)
      have S5 := Aside0.mk (blk_put (cs' := #[.slice As l0.length cs, .slice Af fs.length cf]) (blk_put (cs' := #[.slice As l0.length cs, .slice none 0 0]) hbox 0 (.slice As l0.length cs) rfl) 1 (.slice Af fs.length cf) rfl)
      have hcz0 := (blk_cell hbox 0).trans rfl
      have hcz1 := (blk_cell hbox 1).trans rfl
      have hfz0 := blk_frozen hbox 0
      have hfz1 := blk_frozen hbox 1
      clear hbox hb3 hg5)
    clear hcz0 hcz1 hfz0 hfz1
    generalize (w3.setCell ⟨g5, 0, none⟩ (.slice As l0.length cs)).setCell ⟨g5, 1, none⟩ (.slice Af fs.length cf) = w4 at *
    have HB4 := Aside0.mk (below_step HB2.out Hbw.out)
    have HRs4 := Aside0.mk (Kd.C_below HRs.out.2 Hbw.out)
    have HRf4 := Aside0.mk (Kd.C_below HRf.out.2 Hbw.out)
    have hs2 := H21.out A0 c0 A1 c1 w4 (Kd.C_below HR0.out HB4.out) HC0.out (Kd.C_below HR1.out HB4.out) HC1.out
    (with_reducible refine hs2.mono ?_)
    clear hs2
    rintro e w5 ⟨v3, v4, rfl, hRs, hRf, hb5⟩
    obtain ⟨Bs, ds, rfl⟩ := Kd.R_slice hRs
    obtain ⟨Bf, df, rfl⟩ := Kd.R_slice hRf
    have HTs := Aside0.mk (Kd.R_reads' hRs).2
    have HTf := Aside0.mk (Kd.R_reads' hRf).2
    have HB5 := Aside0.mk (below_step HB4.out hb5)
    have S55 := Aside0.mk (blk_below S5.out hb5)
    have HRs5 := Aside0.mk (Kd.C_below HRs4.out hb5)
    have HRf5 := Aside0.mk (Kd.C_below HRf4.out hb5)
    clear hb5 hRs hRf HB4 S5 HB2 HRs4 HRf4 Hbw
    go_wp2_with (
      (with_reducible refine gate_dst (N := 7) rfl ?_)
      refine box_event ?hg (N := 7) ?hd (cs := #[.slice none 0 0, .slice none 0 0]) (t := 38) ?hr ?_
      (case hd => rfl)
      (case hg => rfl)
      (case hr => first | (go_simp; done) | (go_simp; rfl))
      intro g7 hg7 w6 hbox hb3
      have hw5 : w5.heap.size ≤ g7 := by omega
      have Hbw := Aside0.mk (below_set (g := g7) (j := 1) (v := .slice Bf fs.length df) (below_set (g := g7) (j := 0) (v := .slice Bs l0.length ds) hb3 hw5) hw5)
      have HB6 := Aside0.mk (below_step HB5.out Hbw.out)
      have S7 := Aside0.mk (blk_put (cs' := #[.slice Bs l0.length ds, .slice Bf fs.length df]) (blk_put (cs' := #[.slice Bs l0.length ds, .slice none 0 0]) hbox 0 (.slice Bs l0.length ds) rfl) 1 (.slice Bf fs.length df) rfl)
      have hcz0 := (blk_cell hbox 0).trans rfl
      have hcz1 := (blk_cell hbox 1).trans rfl
      have hfz0 := blk_frozen hbox 0
      have hfz1 := blk_frozen hbox 1
      have s0 := (blk_cell (blk_below S55.out Hbw.out) 0).trans rfl
      have s1 := (blk_cell (blk_below S55.out Hbw.out) 1).trans rfl
      clear hbox hb3 hg7)
    clear hcz0 hcz1 hfz0 hfz1 s0 s1
    generalize (w6.setCell ⟨g7, 0, none⟩ (.slice Bs l0.length ds)).setCell ⟨g7, 1, none⟩ (.slice Bf fs.length df) = w7 at *
    (with_reducible refine (same_calls As cs l0 Af cf fs Bs ds Bf df w7 (Kd.C_below HRs5.out Hbw.out) HRs.out.1 (Kd.C_below HRf5.out Hbw.out) HRf.out.1 (Kd.C_below HTs.out.2 Hbw.out) HTs.out.1 (Kd.C_below HTf.out.2 Hbw.out) HTf.out.1 HSch.out).mono ?_)
    rintro e w8 ⟨rfl, hb8⟩
    have HB8 := Aside0.mk (below_step HB6.out hb8)
    clear hb8
    go_wp2_with fail
    (with_reducible refine (alive_calls _).mono ?_)
    rintro e w9 ⟨rfl, hb9⟩
    have HB9 := Aside0.mk (below_step HB8.out hb9)
    clear hb9
    go_wp2_with fail
    go_ret
    exact ⟨rfl, HB9.out⟩
def virgationlaw04_InferScheme.f (k : Nat) (l0 : List S59) (l1 : List S56) : Option Bool := if looseWf (l1.map to48) = true then some true else none
theorem virgationlaw04_InferScheme.calls (k : Nat) (A0 : Option Addr) (c0 : Nat) (l0 : List S59) (A1 : Option Addr) (c1 : Nat) (l1 : List S56) (r : Bool) (w : World) (hr0 : Kd.C k59 w A0 l0.length l0) (hc0 : l0.length ≤ c0) (hr1 : Kd.C k56 w A1 l1.length l1) (hc1 : l1.length ≤ c1) (h : virgationlaw04_InferScheme.f k l0 l1 = some r) :
    Calls Try.prog 6 #[.slice A0 l0.length c0, .slice A1 l1.length c1] w fun e w' => e = .returned (.bool r) ∧ Below w.heap.size w w' := by
  unfold virgationlaw04_InferScheme.f at h
  by_cases hw : looseWf (l1.map to48) = true
  · rw [if_pos hw] at h
    injection h with h
    subst h
    exact infscheme_calls A0 c0 l0 A1 c1 l1 w hr0 hc0 hr1 hc1 hw
  · rw [if_neg hw] at h; cases h
theorem pure_InferScheme : ∀ (x0 : (List S59)) (x1 : (List S56)), (x0.length ≤ 9223372036854775807 ∧ (∀ y_, y_ ∈ x0 → wf59 y_)) → (x1.length ≤ 9223372036854775807 ∧ (∀ y_, y_ ∈ x1 → wf56 y_)) → ∃ k, virgationlaw04_InferScheme.f k x0 x1 = some true := by
  intro s l hs hl
  refine ⟨0, ?_⟩
  unfold virgationlaw04_InferScheme.f
  rw [if_pos (looseWf_to48 hl.2)]
end Go.Proofs.Ytfhgoebgnilfaaa.I
