/- Contract of infer.join, by hand. -/
import Derived.Test.YtfhgoebgnilfaaaIK2
import Derived.Deep.RegionHeld3
namespace Go.Proofs.Ytfhgoebgnilfaaa.I
open Go.RowKit Go.Proofs.YtfhgoebgnilfaaaW.PrintWords Go.Proofs.YtfhgoebgnilfaaaW.PrintLast Go.Proofs.YtfhgoebgnilfaaaW.PrintMore
attribute [local go_sem] max2_int min2_int max_two min_two max_three min_three max_four min_four
set_option linter.unusedVariables false
set_option maxRecDepth 100000
set_option linter.unusedSimpArgs false
/-- All blocks but some, and the new ones, are as they were. -/
structure Turned (ok : Nat → Prop) (w w' : World) : Prop where
  os : w'.os = w.os
  tape : w'.tape = w.tape
  output : w'.output = w.output
  size : w.heap.size ≤ w'.heap.size
  block : ∀ k, k < w.heap.size → ¬ ok k → w'.heap[k]? = w.heap[k]?
theorem Turned.refl (ok : Nat → Prop) (w : World) : Turned ok w w := ⟨rfl, rfl, rfl, Nat.le_refl _, fun _ _ _ => rfl⟩
theorem Turned.trans {ok ok' : Nat → Prop} {w w1 w2 : World} (h : Turned ok w w1) (k : Turned ok' w1 w2) (ho : ∀ k, ok' k → k < w.heap.size → ok k) : Turned ok w w2 :=
  ⟨k.os.trans h.os, k.tape.trans h.tape, k.output.trans h.output, Nat.le_trans h.size k.size, fun j hj hn => (k.block j (Nat.lt_of_lt_of_le hj h.size) (fun h2 => hn (ho j h2 hj))).trans (h.block j hj hn)⟩
theorem Turned.of_below {ok : Nat → Prop} {w w1 : World} (h : Below w.heap.size w w1) : Turned ok w w1 := ⟨h.os, h.tape, h.output, h.size, fun k hk _ => h.block k hk⟩
theorem Turned.set {ok : Nat → Prop} {w w1 : World} (h : Turned ok w w1) (g j : Nat) (u : Value) (hg : ok g) : Turned ok w (w1.setCell ⟨g, j, none⟩ u) :=
  ⟨h.os, h.tape, h.output, by simpa [World.setCell] using h.size, fun k hk hn => (Below.heap_setCell w1 ⟨g, j, none⟩ u k (fun e => hn (by simp only at e; rw [e]; exact hg))).trans (h.block k hk hn)⟩
theorem Turned.below {ok : Nat → Prop} {w0 w w1 : World} {B : Nat} (h : Turned ok w w1) (hB : Below B w0 w) (hb : B ≤ w.heap.size) (ho : ∀ k, ok k → B ≤ k) : Below B w0 w1 :=
  ⟨h.os.trans hB.os, h.tape.trans hB.tape, h.output.trans hB.output, Nat.le_trans hB.size h.size, fun k hk => (h.block k (Nat.lt_of_lt_of_le hk hb) (fun h2 => by have := ho k h2; omega)).trans (hB.block k hk)⟩
theorem bk_mem {B : Nat} {s : List KN} {ad : List Nat} {w : World} (h : Held B s ad w) {i : Nat} (hi : i < s.length) : bk ad i ∈ ad := by
  have hi' : i < ad.length := by rw [h.len]; exact hi
  unfold bk
  rw [List.getD_eq_getElem?_getD, List.getElem?_eq_getElem hi']
  exact List.getElem_mem hi'
def setlk (s : List KN) (i : Nat) (n : KN) (j : Nat) : List KN := s.set i { n with lk := some j }
theorem Held.setlk {B : Nat} {s : List KN} {ad : List Nat} {w : World} (h : Held B s ad w) {i j : Nat} {n : KN} (hn : s[i]? = some n) (hj : j < s.length) :
    Held B (setlk s i n j) ad (w.setCell ⟨bk ad i, 0, none⟩ (pk ad j)) := by
  have hi : i < s.length := (List.getElem?_eq_some_iff.1 hn).1
  refine ⟨by unfold I.setlk; rw [List.length_set]; exact h.len, h.nodup, h.ge, fun k m hm => ?_, fun k m hm => ?_⟩
  · unfold I.setlk at hm
    rw [List.getElem?_set] at hm
    by_cases hik : i = k
    · subst hik
      rw [if_pos rfl, if_pos hi] at hm
      injection hm with hm
      subst hm
      exact blk_put (cs' := kcells ad { n with lk := some j }) (h.cell i n hn) 0 (pk ad j) rfl
    · rw [if_neg hik] at hm
      have hk : k < s.length := (List.getElem?_eq_some_iff.1 hm).1
      exact blk_far (p := ⟨bk ad i, 0, none⟩) (h.cell k m hm) (fun e => hik ((h.inj hi hk).1 e.symm)) _
  · unfold I.setlk at hm ⊢
    rw [List.length_set]
    rw [List.getElem?_set] at hm
    by_cases hik : i = k
    · subst hik
      rw [if_pos rfl, if_pos hi] at hm
      injection hm with hm
      subst hm
      have := h.ok i n hn
      exact ⟨fun q hq => by injection hq with hq; omega, this.2.1, this.2.2⟩
    · rw [if_neg hik] at hm
      exact h.ok k m hm
/-- Two kinds are made the same, if they can be. -/
def fjoin : Nat → List KN → Nat → Nat → Option (Bool × List KN)
  | 0, _, _, _ => none
  | f + 1, s, a, b => match fend s f a with
    | none => none
    | some a => match fend s f b with
      | none => none
      | some b => if a = b then some (true, s) else match s[a]? with
        | none => none
        | some x => match s[b]? with
          | none => none
          | some y => if x.bs = false ∧ x.fr = none then (match fwithin s f a b with
              | none => none
              | some true => some (false, s)
              | some false => some (true, setlk s a x b))
            else if y.bs = false ∧ y.fr = none then fjoin f s b a
            else if x.bs = true ∨ y.bs = true then some (x.bs && y.bs, s)
            else match x.fr with
              | none => none
              | some xf => match y.fr with
                | none => none
                | some yf => match fjoin f s xf yf with
                  | none => none
                  | some (false, s1) => some (false, s1)
                  | some (true, s1) => match s1[a]? with
                    | none => none
                    | some x1 => match s1[b]? with
                      | none => none
                      | some y1 => match x1.tk with
                        | none => none
                        | some xt => match y1.tk with
                          | none => none
                          | some yt => fjoin f s1 xt yt
def shp (n : KN) : Bool × Option Nat × Option Nat := (n.bs, n.fr, n.tk)
theorem setlk_shape {s : List KN} {i j : Nat} {n : KN} (hn : s[i]? = some n) (k : Nat) : ((setlk s i n j)[k]?).map shp = (s[k]?).map shp := by
  have hi : i < s.length := (List.getElem?_eq_some_iff.1 hn).1
  unfold setlk
  rw [List.getElem?_set]
  by_cases hik : i = k
  · subst hik
    rw [if_pos rfl, if_pos hi, hn]
    rfl
  · rw [if_neg hik]
theorem fjoin_shape : ∀ (f : Nat) (s : List KN) (a b : Nat) (r : Bool) (s' : List KN), fjoin f s a b = some (r, s') → ∀ (k : Nat), (s'[k]?).map shp = (s[k]?).map shp
  | 0, s, a, b, r, s', h, k => by simp [fjoin] at h
  | f + 1, s, a, b, r, s', h, k => by
    unfold fjoin at h
    repeat' (split at h)
    all_goals first
      | (cases h; done)
      | (injection h with h; injection h with h1 h2; subst h2; rfl)
      | (injection h with h; injection h with h1 h2; subst h2; exact setlk_shape (by assumption) k)
      | (injection h with h; injection h with h1 h2; subst h2; exact fjoin_shape f _ _ _ _ _ (by assumption) k)
      | exact fjoin_shape f _ _ _ _ _ h k
      | exact (fjoin_shape f _ _ _ _ _ h k).trans (fjoin_shape f _ _ _ _ _ (by assumption) k)
theorem shape_fr {s s1 : List KN} {p : Nat} {x : KN} (h : (s1[p]?).map shp = (s[p]?).map shp) (hx : s[p]? = some x) : ∃ x1, s1[p]? = some x1 ∧ x1.fr = x.fr ∧ x1.tk = x.tk := by
  rw [hx] at h
  cases h1 : s1[p]? with
  | none => rw [h1] at h; cases h
  | some x1 =>
    rw [h1] at h
    injection h with h
    injection h with _ h
    injection h with h2 h3
    exact ⟨x1, rfl, h2, h3⟩
theorem Held.heap {B : Nat} {s : List KN} {ad : List Nat} {w w1 : World} (h : Held B s ad w) (e : w1.heap = w.heap) : Held B s ad w1 :=
  ⟨h.len, h.nodup, h.ge, fun i n hn => by rw [e]; exact h.cell i n hn, h.ok⟩
theorem cell_fr {B : Nat} {s : List KN} {ad : List Nat} {w : World} {i j : Nat} {n : KN} (h : Held B s ad w) (hn : s[i]? = some n) (hf : n.fr = some j) : w.cell? ⟨bk ad i, 2, none⟩ = some (pk ad j) := by
  have := (blk_cell (h.cell i n hn) 2).trans rfl
  rw [this]
  show some (pv ad n.fr) = _
  rw [hf]
  rfl
theorem cell_tk {B : Nat} {s : List KN} {ad : List Nat} {w : World} {i j : Nat} {n : KN} (h : Held B s ad w) (hn : s[i]? = some n) (hf : n.tk = some j) : w.cell? ⟨bk ad i, 3, none⟩ = some (pk ad j) := by
  have := (blk_cell (h.cell i n hn) 3).trans rfl
  rw [this]
  show some (pv ad n.tk) = _
  rw [hf]
  rfl
set_option maxHeartbeats 8000000 in
theorem join_calls (B : Nat) (ad : List Nat) (f : Nat) : ∀ (s : List KN) (a b : Nat) (r : Bool) (s' : List KN) (w : World) (hH : Held B s ad w) (h : fjoin f s a b = some (r, s')),
    Calls Try.prog 39 #[pk ad a, pk ad b] w fun e w' => e = .returned (.bool r) ∧ Held B s' ad w' ∧ Turned (fun k => k ∈ ad) w w' := by
  induction f using Nat.strongRecOn with
  | _ f ih =>
  intro s a b r s' w hH h
  have hu74 := Try.underlying74
  cases f with
  | zero => exact absurd h (by simp [fjoin])
  | succ f =>
  unfold fjoin at h
  cases ha : fend s f a with
  | none => rw [ha] at h; cases h
  | some p =>
  rw [ha] at h
  simp only at h
  cases hb : fend s f b with
  | none => rw [hb] at h; cases h
  | some q =>
  rw [hb] at h
  simp only at h
  have HH := Aside0.mk hH
  have HA := Aside0.mk ha
  have HB := Aside0.mk hb
  have hp := fend_lt ha
  have hq := fend_lt hb
  have IH := Aside0.mk ih
  have hpe := peq_run hH hp hq
  clear ih ha hb
  go_enter Try.func39, Try.ntmps39
  go_wp2_with fail
  (with_reducible refine (kend_calls B s ad f a p w HH.out HA.out).mono ?_)
  rintro e w1 ⟨rfl, rfl⟩
  go_wp2_with fail
  (with_reducible refine (kend_calls B s ad f b q w1 HH.out HB.out).mono ?_)
  rintro e w2 ⟨rfl, rfl⟩
  by_cases hpq : p = q
  · rw [if_pos hpq] at h
    injection h with h
    injection h with h1 h2
    subst h1 h2
    rw [decide_eq_true hpq] at hpe
    clear hpq hH
    go_wp2_with fail
    go_ret
    exact ⟨rfl, HH.out, Turned.refl _ _⟩
  rw [if_neg hpq] at h
  rw [decide_eq_false hpq] at hpe
  clear hpq
  cases hx : s[p]? with
  | none => rw [hx] at h; cases h
  | some x =>
  cases hy : s[q]? with
  | none => rw [hx, hy] at h; cases h
  | some y =>
  rw [hx, hy] at h
  simp only at h
  have hcx := hH.cell p x hx
  have hcy := hH.cell q y hy
  have cx0 : w2.cell? ⟨bk ad p, 0, none⟩ = some (pv ad x.lk) := (blk_cell hcx 0).trans rfl
  have cx1 : w2.cell? ⟨bk ad p, 1, none⟩ = some (.bool x.bs) := (blk_cell hcx 1).trans rfl
  have cx2 : w2.cell? ⟨bk ad p, 2, none⟩ = some (pv ad x.fr) := (blk_cell hcx 2).trans rfl
  have fx0 := blk_frozen hcx 0
  have cy1 : w2.cell? ⟨bk ad q, 1, none⟩ = some (.bool y.bs) := (blk_cell hcy 1).trans rfl
  have cy2 : w2.cell? ⟨bk ad q, 2, none⟩ = some (pv ad y.fr) := (blk_cell hcy 2).trans rfl
  have Hx := Aside0.mk hx
  have Hy := Aside0.mk hy
  clear hcx hcy hx hy hH
  by_cases hox : x.bs = false ∧ x.fr = none
  · rw [if_pos hox] at h
    obtain ⟨ho1, ho2⟩ := hox
    rw [ho1] at cx1
    rw [ho2] at cx2
    simp only [pv] at cx2
    cases hw : fwithin s f p q with
    | none => rw [hw] at h; cases h
    | some bw =>
    rw [hw] at h
    have HW := Aside0.mk hw
    have hpa := Aside0.mk hp
    clear hw ho1 ho2 cy1 cy2
    go_wp2_with fail
    (with_reducible refine (within_calls B s ad f p q bw w2 HH.out hp HW.out).mono ?_)
    rintro e w3 ⟨rfl, rfl⟩
    cases bw with
    | true =>
      injection h with h
      injection h with h1 h2
      subst h1 h2
      go_wp2_with fail
      go_ret
      exact ⟨rfl, HH.out, Turned.refl _ _⟩
    | false =>
      injection h with h
      injection h with h1 h2
      subst h1 h2
      go_wp2_with fail
      go_ret
      exact ⟨rfl, Held.setlk HH.out Hx.out hq, Turned.set (Turned.refl _ _) _ _ _ (bk_mem HH.out hp)⟩
  · rw [if_neg hox] at h
    have hxs : x.bs = true ∨ ∃ xf, x.bs = false ∧ x.fr = some xf := by
      cases hb : x.bs with
      | true => exact .inl rfl
      | false =>
        cases hf : x.fr with
        | none => exact absurd ⟨hb, hf⟩ hox
        | some xf => exact .inr ⟨xf, rfl, rfl⟩
    clear hox
    by_cases hoy : y.bs = false ∧ y.fr = none
    · rw [if_pos hoy] at h
      obtain ⟨ho1, ho2⟩ := hoy
      rw [ho1] at cy1
      rw [ho2] at cy2
      simp only [pv] at cy2
      have HJ := Aside0.mk h
      clear h ho1 ho2
      rcases hxs with hxb | ⟨xf, hxb, hxf⟩
      · rw [hxb] at cx1
        clear hxb
        go_wp2_with fail
        (with_reducible refine (IH.out f (Nat.lt_succ_self f) s q p r s' w2 HH.out HJ.out).mono ?_)
        rintro e w3 ⟨rfl, h3, t3⟩
        go_wp2_with fail
        go_ret
        exact ⟨rfl, h3, t3⟩
      · rw [hxb] at cx1
        rw [hxf] at cx2
        simp only [pv] at cx2
        clear hxb hxf
        go_wp2_with fail
        (with_reducible refine (IH.out f (Nat.lt_succ_self f) s q p r s' w2 HH.out HJ.out).mono ?_)
        rintro e w3 ⟨rfl, h3, t3⟩
        go_wp2_with fail
        go_ret
        exact ⟨rfl, h3, t3⟩
    rw [if_neg hoy] at h
    have hys : y.bs = true ∨ ∃ yf, y.bs = false ∧ y.fr = some yf := by
      cases hb : y.bs with
      | true => exact .inl rfl
      | false =>
        cases hf : y.fr with
        | none => exact absurd ⟨hb, hf⟩ hoy
        | some yf => exact .inr ⟨yf, rfl, rfl⟩
    clear hoy
    rcases hxs with hxb | ⟨xf, hxb, hxf⟩
    · rw [if_pos (.inl hxb), hxb, Bool.true_and] at h
      injection h with h
      injection h with h1 h2
      subst h2
      rw [hxb] at cx1
      clear hxb
      rcases hys with hyb | ⟨yf, hyb, hyf⟩
      · rw [hyb] at cy1 h1
        subst h1
        clear hyb
        go_wp2_with fail
        go_ret
        exact ⟨rfl, HH.out, Turned.refl _ _⟩
      · rw [hyb] at cy1 h1
        rw [hyf] at cy2
        simp only [pv] at cy2
        subst h1
        clear hyb hyf
        go_wp2_with fail
        go_ret
        exact ⟨rfl, HH.out, Turned.refl _ _⟩
    · rw [hxb] at cx1 h
      rw [hxf] at cx2
      simp only [pv] at cx2
      rcases hys with hyb | ⟨yf, hyb, hyf⟩
      · rw [if_pos (.inr hyb), hyb, Bool.false_and] at h
        injection h with h
        injection h with h1 h2
        subst h1 h2
        rw [hyb] at cy1
        clear hxb hxf hyb
        go_wp2_with fail
        go_ret
        exact ⟨rfl, HH.out, Turned.refl _ _⟩
      · rw [hyb] at cy1
        rw [if_neg (by simp [hyb])] at h
        rw [hyf] at cy2
        simp only [pv] at cy2
        rw [hxf, hyf] at h
        simp only at h
        cases hj : fjoin f s xf yf with
        | none => rw [hj] at h; cases h
        | some rs =>
        obtain ⟨r1, s1⟩ := rs
        rw [hj] at h
        obtain ⟨x1, hx1, hf1, ht1⟩ := shape_fr (fjoin_shape f s xf yf r1 s1 hj p) Hx.out
        obtain ⟨y1, hy1, gf1, gt1⟩ := shape_fr (fjoin_shape f s xf yf r1 s1 hj q) Hy.out
        have HJ := Aside0.mk hj
        have HX1 := Aside0.mk hx1
        have HY1 := Aside0.mk hy1
        have HF1 := Aside0.mk (hf1.trans hxf)
        have HG1 := Aside0.mk (gf1.trans hyf)
        have HH' := Aside0.mk h
        clear hxb hxf hyb hyf hj hx1 hy1 hf1 gf1 h
        go_wp2_with fail
        go_region_held3 (fun w' => w'.cell? ⟨bk ad p, 2, none⟩ = some (pk ad xf) ∧ w'.cell? ⟨bk ad q, 2, none⟩ = some (pk ad yf)) (go_keep)
          (first | (go_at_call 39; refine (IH.out f (Nat.lt_succ_self f) s xf yf r1 s1 w2.drew (Held.heap HH.out rfl) HJ.out).mono ?_; rintro e w3 ⟨rfl, h3, t3⟩; have k1 := cell_fr h3 HX1.out HF1.out; have k2 := cell_fr h3 HY1.out HG1.out))
        have T3 := Aside0.mk (Turned.trans (Turned.of_below (ok := fun k => k ∈ ad) (below_drew (Below.refl w2.heap.size w2))) t3 (fun k hk _ => hk))
        have H3 := Aside0.mk h3
        have h := HH'.out
        clear HH' h3 t3 k1 k2
        cases r1 with
        | false =>
          injection h with h
          injection h with h1 h2
          subst h1 h2
          go_wp2_with fail
          go_ret
          exact ⟨rfl, H3.out, T3.out⟩
        | true =>
          simp only [HX1.out, HY1.out] at h
          cases hxt : x1.tk with
          | none => rw [hxt] at h; cases h
          | some xt =>
          cases hyt : y1.tk with
          | none => rw [hxt, hyt] at h; cases h
          | some yt =>
          rw [hxt, hyt] at h
          simp only at h
          have HT := Aside0.mk hxt
          have HU := Aside0.mk hyt
          have HF := Aside0.mk h
          have k1 := cell_tk H3.out HX1.out hxt
          have k2 := cell_tk H3.out HY1.out hyt
          clear h hxt hyt cx0 cx1 cx2 fx0 cy1 cy2 hpe
          go_wp2_with fail
          obtain ⟨x2, hx2, _, gx2⟩ := shape_fr (fjoin_shape f s1 xt yt r s' HF.out p) HX1.out
          obtain ⟨y2, hy2, _, gy2⟩ := shape_fr (fjoin_shape f s1 xt yt r s' HF.out q) HY1.out
          have HX2 := Aside0.mk hx2
          have HY2 := Aside0.mk hy2
          have HT2 := Aside0.mk (gx2.trans HT.out)
          have HU2 := Aside0.mk (gy2.trans HU.out)
          clear hx2 hy2 gx2 gy2
          go_region_held3 (fun w' => w'.cell? ⟨bk ad p, 3, none⟩ = some (pk ad xt) ∧ w'.cell? ⟨bk ad q, 3, none⟩ = some (pk ad yt)) (go_keep)
            (first | (go_at_call 39; refine (IH.out f (Nat.lt_succ_self f) s1 xt yt r s' w3.drew (Held.heap H3.out rfl) HF.out).mono ?_; rintro e w4 ⟨rfl, h4, t4⟩; have k3 := cell_tk h4 HX2.out HT2.out; have k4 := cell_tk h4 HY2.out HU2.out))
          have T4 := Aside0.mk (Turned.trans T3.out (Turned.trans (Turned.of_below (ok := fun k => k ∈ ad) (below_drew (Below.refl w3.heap.size w3))) t4 (fun k hk _ => hk)) (fun k hk _ => hk))
          have H4 := Aside0.mk h4
          clear h4 t4 k1 k2 k3 k4
          go_wp2_with fail
          go_ret
          exact ⟨rfl, H4.out, T4.out⟩
end Go.Proofs.Ytfhgoebgnilfaaa.I
