/- Texts of this session's proof, laid together: IT4, IP1, IP2, IP3, IPC, IP4, IX2, IX3, IX4, IX6, IS2, I11, IPO. -/
import Derived.Test.YtfhgoebgnilfaaaV4
namespace Go.Proofs.Ytfhgoebgnilfaaa.I
open Go.RowKit
set_option linter.unusedVariables false
/-- The nodes of a sort. -/
def nS : KT → Int
  | .o => 1
  | .ar a b => nS a + nS b
theorem nS_pos : ∀ t : KT, 1 ≤ nS t
  | .o => by simp [nS]
  | .ar a b => by have := nS_pos a; have := nS_pos b; simp only [nS]; omega
/-- The arguments of a sort. -/
def toS : KT → List S41
  | .o => []
  | .ar a b => ⟨toS a⟩ :: toS b
theorem fshown_le {s : List KN} {i : Nat} {l : Int} {r : Option (List S41) × Int} {f f' : Nat} (hf : f ≤ f') (h : fshown s f i l = some r) : fshown s f' i l = some r := by
  induction hf with
  | refl => exact h
  | step _ ih => exact (fshown_s s _).1 _ _ _ ih
theorem fshownL_le {s : List KN} {i : Nat} {acc : List S41} {l : Int} {r : Option (List S41) × Int} {f f' : Nat} (hf : f ≤ f') (h : fshownL s f i acc l = some r) : fshownL s f' i acc l = some r := by
  induction hf with
  | refl => exact h
  | step _ ih => exact (fshown_s s _).2 _ _ _ _ ih
theorem fouts_le {s : List KN} {acc : List S41} {ks : List Nat} {r : Option (List S41)} {f f' : Nat} (hf : f ≤ f') (h : fouts s f acc ks = some r) : fouts s f' acc ks = some r := by
  induction hf with
  | refl => exact h
  | step _ ih => exact fouts_s s _ _ _ _ ih
theorem rho_end {s : List KN} {h : Nat → Nat} (w : WF s h) {f i r : Nat} (e : fend s f i = some r) : rho s h i = rho s h r := (fend_ok e).2.1 _ (rho_sol w)
theorem shown_ok {s : List KN} {h : Nat → Nat} (w : WF s h) : ∀ m : Nat,
    (∀ (i : Nat) (left : Int), h i < m → i < s.length → 0 ≤ left → left ≤ 1000 → ∃ f o l', fshown s f i left = some (o, l') ∧ (nS (rho s h i) ≤ left → o = some (toS (rho s h i)) ∧ l' = left - nS (rho s h i)) ∧ (left < nS (rho s h i) → o = none)) ∧
    (∀ (r : Nat) (n : KN) (acc : List S41) (left : Int), h r < m → s[r]? = some n → n.lk = none → 0 ≤ left → acc.length + left ≤ 1000 → ∃ f o l', fshownL s f r acc left = some (o, l') ∧ (nS (rho s h r) - 1 ≤ left → o = some (acc ++ toS (rho s h r)) ∧ l' = left - (nS (rho s h r) - 1)) ∧ (left < nS (rho s h r) - 1 → o = none)) := by
  intro m
  induction m with
  | zero => exact ⟨fun i left hm => absurd hm (by omega), fun r n acc left hm => absurd hm (by omega)⟩
  | succ m ih =>
    obtain ⟨ihA, ihB⟩ := ih
    have B : ∀ (r : Nat) (n : KN) (acc : List S41) (left : Int), h r < m + 1 → s[r]? = some n → n.lk = none → 0 ≤ left → acc.length + left ≤ 1000 → ∃ f o l', fshownL s f r acc left = some (o, l') ∧ (nS (rho s h r) - 1 ≤ left → o = some (acc ++ toS (rho s h r)) ∧ l' = left - (nS (rho s h r) - 1)) ∧ (left < nS (rho s h r) - 1 → o = none) := by
      intro r n acc left hm hn hl h0 hb
      have hd := w.dec r n hn
      have hr := w.rng r n hn
      cases hf : n.fr with
      | none =>
        have e : rho s h r = .o := by
          unfold rho
          rw [rdF, hn]
          simp only
          rw [hl]
          simp only
          rw [hf]
        refine ⟨1, some acc, left, ?_, fun _ => ?_, fun hlt => ?_⟩
        · unfold fshownL
          rw [hn]
          simp only
          rw [hf]
        · refine ⟨by rw [e, toS, List.append_nil], ?_⟩
          rw [e]
          simp only [nS]
          omega
        · rw [e] at hlt
          simp only [nS] at hlt
          omega
      | some a =>
        cases ht : n.tk with
        | none => exact absurd ((w.arr r n hn).2 ht) (by rw [hf]; simp)
        | some t =>
          have da := hd.2.1 a hf
          have dt := hd.2.2 t ht
          have e : rho s h r = .ar (rho s h a) (rho s h t) := (rho_sol w r n hn).2.2 a t hf ht
          obtain ⟨r2, hr2⟩ := fend_tot w (h t + 1) t (by omega) (hr.2.2 t ht)
          obtain ⟨⟨n2, hn2, hl2⟩, _, hle⟩ := fend_ok hr2
          have hle := hle h w
          have et := rho_end w hr2
          have pa := nS_pos (rho s h a)
          have pt := nS_pos (rho s h t)
          obtain ⟨f1, o1, l1, hs1, y1, n1⟩ := ihA a left (by omega) (hr.2.1 a hf) h0 (by omega)
          by_cases hfit : nS (rho s h a) ≤ left
          · obtain ⟨eo, el⟩ := y1 hfit
            subst eo el
            obtain ⟨f2, o2, l2, hs2, y2, n2'⟩ := ihB r2 n2 (acc ++ [⟨toS (rho s h a)⟩]) (left - nS (rho s h a)) (by omega) hn2 hl2 (by omega) (by rw [List.length_append]; simp only [List.length_cons, List.length_nil]; omega)
            have m1 : f1 ≤ max f1 (max f2 (h t + 1)) := Nat.le_max_left _ _
            have m2 : f2 ≤ max f1 (max f2 (h t + 1)) := Nat.le_trans (Nat.le_max_left _ _) (Nat.le_max_right _ _)
            have m3 : h t + 1 ≤ max f1 (max f2 (h t + 1)) := Nat.le_trans (Nat.le_max_right _ _) (Nat.le_max_right _ _)
            refine ⟨max f1 (max f2 (h t + 1)) + 1, o2, l2, ?_, fun hg => ?_, fun hg => ?_⟩
            · unfold fshownL
              rw [hn]
              simp only
              rw [hf]
              simp only
              rw [fshown_le m1 hs1]
              simp only
              rw [if_pos (by omega), ht]
              simp only
              rw [fend_le m3 hr2]
              exact fshownL_le m2 hs2
            · rw [e] at hg ⊢
              simp only [nS] at hg ⊢
              obtain ⟨z1, z2⟩ := y2 (by rw [← et]; omega)
              rw [← et] at z1 z2
              exact ⟨by rw [z1, toS, List.append_assoc]; rfl, by omega⟩
            · rw [e] at hg
              simp only [nS] at hg
              exact n2' (by rw [← et]; omega)
          · have eo := n1 (by omega)
            subst eo
            refine ⟨f1 + 1, none, l1, ?_, fun hg => ?_, fun _ => rfl⟩
            · unfold fshownL
              rw [hn]
              simp only
              rw [hf]
              simp only
              rw [hs1]
            · rw [e] at hg
              simp only [nS] at hg
              omega
    refine ⟨fun i left hm hi h0 hb => ?_, B⟩
    have p := nS_pos (rho s h i)
    by_cases hz : left - 1 < 0
    · refine ⟨1, none, left - 1, ?_, fun hg => by omega, fun _ => rfl⟩
      unfold fshown
      rw [if_pos hz]
    · obtain ⟨r, hr⟩ := fend_tot w (h i + 1) i (by omega) hi
      obtain ⟨⟨n, hn, hl⟩, _, hle⟩ := fend_ok hr
      have hle := hle h w
      have er := rho_end w hr
      obtain ⟨f, o, l', hs, y, nn⟩ := B r n [] (left - 1) (by omega) hn hl (by omega) (by simp only [List.length_nil]; omega)
      refine ⟨max f (h i + 1) + 1, o, l', ?_, fun hg => ?_, fun hg => ?_⟩
      · unfold fshown
        rw [if_neg hz, fend_le (Nat.le_max_right f (h i + 1)) hr]
        exact fshownL_le (Nat.le_max_left f (h i + 1)) hs
      · rw [er] at hg ⊢
        obtain ⟨z1, z2⟩ := y (by omega)
        exact ⟨by rw [z1, List.nil_append], by omega⟩
      · rw [er] at hg
        exact nn (by omega)
/-- A sort that may be shown. -/
def goodB (t : KT) : Bool := decide (nS t ≤ 60) && decide (sorts_Check.f (toS t) = some 0)
theorem outs_ok {s : List KN} {h : Nat → Nat} (w : WF s h) : ∀ (ks : List Nat) (acc : List S41), (∀ k, k ∈ ks → k < s.length) →
    ∃ f, fouts s f acc ks = some (if (ks.map (rho s h)).all goodB = true then some (acc ++ (ks.map (rho s h)).map (fun t => (⟨toS t⟩ : S41))) else none)
  | [], acc, _ => ⟨0, by unfold fouts; simp⟩
  | k :: ks, acc, hk => by
    obtain ⟨f1, o, l', hs, y, n⟩ := (shown_ok w (h k + 1)).1 k 60 (by omega) (hk k List.mem_cons_self) (by omega) (by omega)
    obtain ⟨f2, h2⟩ := outs_ok w ks (acc ++ [⟨toS (rho s h k)⟩]) (fun q hq => hk q (List.mem_cons_of_mem _ hq))
    rw [List.map_cons, List.all_cons]
    have hc : sorts_Check.f (toS (rho s h k)) = some 0 ∨ sorts_Check.f (toS (rho s h k)) = some 6 := by
      unfold sorts_Check.f
      split
      · exact .inr rfl
      · exact .inl rfl
    by_cases hfit : nS (rho s h k) ≤ 60
    · obtain ⟨eo, _⟩ := y hfit
      subst eo
      rcases hc with hc | hc
      · have g : goodB (rho s h k) = true := by unfold goodB; rw [decide_eq_true hfit, decide_eq_true hc]; rfl
        refine ⟨max f1 f2, ?_⟩
        unfold fouts
        rw [fshown_le (Nat.le_max_left f1 f2) hs]
        simp only
        rw [hc]
        dsimp only
        rw [if_pos rfl, fouts_le (Nat.le_max_right f1 f2) h2, g, Bool.true_and, List.map_cons, List.append_assoc]
        rfl
      · have g : goodB (rho s h k) = false := by unfold goodB; rw [decide_eq_false (p := sorts_Check.f (toS (rho s h k)) = some 0) (by rw [hc]; decide), Bool.and_false]
        refine ⟨f1, ?_⟩
        unfold fouts
        rw [hs]
        simp only
        rw [hc]
        dsimp only
        rw [if_neg (by decide), g, Bool.false_and, if_neg (by simp)]
    · have eo := n (by omega)
      subst eo
      have g : goodB (rho s h k) = false := by unfold goodB; rw [decide_eq_false hfit, Bool.false_and]
      refine ⟨f1, ?_⟩
      unfold fouts
      rw [hs, g, Bool.false_and, if_neg (by simp)]
/-- The sorts of heads, the functions having these sorts and the parameters those. -/
def hdG (syms : List S59) (G vs : List KT) (kd n : Int) : Option KT :=
  if n < 0 then none
  else if kd = 0 then vs[n.toNat]?
  else if kd = 1 then G[n.toNat]?
  else (syms[n.toNat]?).map (fun x => ars (List.replicate x.f1.toNat .o) .o)
def AllT (syms : List S59) (G : List KT) : List (List KT) → List S48 → Prop
  | _, [] => True
  | [], _ :: _ => False
  | vs :: As, x :: xs => Ty (hdG syms G vs) x.f2 .o ∧ AllT syms G As xs
/-- The functions' sorts. -/
def gam (As : List (List KT)) : List KT := As.map (fun vs => ars vs .o)
/-- Sorts of the functions' parameters with which all bodies have the sort o. -/
def Typed (syms : List S59) (l : List S48) (As : List (List KT)) : Prop := As.map List.length = l.map (fun x => x.f1.toNat) ∧ AllT syms (gam As) As l
theorem hdE_hdG (syms : List S59) (funs ps : List Nat) (ρ : Nat → KT) : hdE ⟨0, syms, funs, ps⟩ ρ = hdG syms (funs.map ρ) (ps.map ρ) := by
  funext kd n
  unfold hdE hdG
  rw [List.getElem?_map, List.getElem?_map]
theorem Alls_AllT {syms : List S59} {funs : List Nat} {ρ : Nat → KT} : ∀ (pss : List (List Nat)) (l : List S48), Alls syms funs ρ pss l ↔ AllT syms (funs.map ρ) (pss.map (fun ps => ps.map ρ)) l
  | pss, [] => by
    cases pss <;> (unfold Alls AllT; exact Iff.rfl)
  | [], x :: xs => by unfold Alls; rw [List.map_nil]; unfold AllT; exact Iff.rfl
  | ps :: pss, x :: xs => by
    rw [List.map_cons]
    unfold Alls AllT
    rw [hdE_hdG, Alls_AllT pss xs]
def lesL : List KT → List KT → Prop
  | [], [] => True
  | a :: vs, b :: ws => a.le b ∧ lesL vs ws
  | _, _ => False
theorem lesL_map {ρ ρ' : Nat → KT} (h : ∀ i, (ρ i).le (ρ' i)) : ∀ ks : List Nat, lesL (ks.map ρ) (ks.map ρ')
  | [] => trivial
  | k :: ks => ⟨h k, lesL_map h ks⟩
theorem looseL_known : ∀ (l : List S48) (nf ns : Int) (L : List ByteArray), looseL l nf ns L = true → ∀ x ∈ l, knownS x.f2 x.f1 nf ns = true
  | [], _, _, _, _, x, hx => by cases hx
  | y :: ys, nf, ns, L, h, x, hx => by
    unfold looseL at h
    by_cases hb : looseBad y nf ns L = true
    · rw [if_pos hb] at h; cases h
    · rw [if_neg hb] at h
      rcases List.mem_cons.1 hx with hx | hx
      · subst hx
        unfold looseBad at hb
        simp only [Bool.or_eq_true, not_or, Bool.not_eq_true', Bool.not_eq_true] at hb
        obtain ⟨_, _, _, _, _, _, h7⟩ := hb
        have e : (⟨x.f2.f0, x.f2.f1, x.f2.f2⟩ : S44) = x.f2 := by cases x.f2; rfl
        rw [e] at h7
        simpa using h7
      · exact looseL_known ys nf ns _ h x hx
theorem chkF_known {l0 : List S59} {l1 : List S48} (h : chkF l0 l1 = some 0) : ∀ x ∈ l1, knownS x.f2 x.f1 l1.length l0.length = true := by
  unfold chkF at h
  injection h with h
  split at h
  · cases h
  · split at h
    · cases h
    · split at h
      · rename_i h1 h2 h3
        exact looseL_known _ _ _ _ h3
      · cases h
/-- infer.Sorts. -/
theorem sorts_main (syms : List S59) (l : List S48) (hc : chkF syms l = some 0) :
    (∃ As0, Typed syms l As0 ∧ (∀ As, Typed syms l As → lesL (gam As0) (gam As)) ∧ ∃ f, fsorts f syms l = some (if (gam As0).all goodB = true then ((gam As0).map (fun t => (⟨toS t⟩ : S41)), 0) else ([], 3))) ∨
    ((∀ As, ¬ Typed syms l As) ∧ ∃ f, fsorts f syms l = some ([], 6)) := by
  have hok := fCheck_ok hc
  have w0 : WF [(⟨none, true, none, none⟩ : KN)] (fun _ => 0) := by
    refine ⟨?_, ?_, ?_, ?_, ?_⟩ <;> (intro i n hn; cases i with
      | zero => injection hn with hn; subst hn; simp [inS]
      | succ i => cases hn)
  have hz0 : ∀ ρ, Sol [(⟨none, true, none, none⟩ : KN)] ρ → ρ 0 = .o := fun ρ hs => (hs 0 ⟨none, true, none, none⟩ rfl).2.1 rfl
  have H := heads_ok l w0 (by decide) hz0
  have un : ∀ f, fsorts f syms l = match fbodies syms (fheads [⟨none, true, none, none⟩] l).1.2 f (fheads [⟨none, true, none, none⟩] l).2 (fheads [⟨none, true, none, none⟩] l).1.1 l with
      | none => none
      | some (false, _) => some ([], 6)
      | some (true, s) => match fouts s f [] (fheads [⟨none, true, none, none⟩] l).1.2 with
        | none => none
        | some none => some ([], 3)
        | some (some out) => some (out, 0) := by
    intro f
    unfold fsorts
    rw [hc]
    dsimp only
    rw [if_pos rfl]
    rfl
  generalize fheads [⟨none, true, none, none⟩] l = hd at *
  obtain ⟨h1, w1⟩ := H.ext.wf
  have hks : hd.1.2.length = l.length := by
    have e1 := congrArg List.length (H.down (rho hd.2 h1) (rho_sol w1))
    have e2 := congrArg List.length H.many
    simp only [List.length_map] at e1 e2
    omega
  obtain ⟨f1, b, s', hf1, Y, N⟩ := bodies_ok (syms := syms) (funs := hd.1.2) l hd.1.1 w1 (Nat.lt_of_lt_of_le (by decide) H.ext.len) (fun ρ hs => hz0 ρ (H.ext.down ρ hs)) H.lk H.lp H.many (fun x hx => by
    have h2 := chkF_known hc x hx
    have h3 := (hok.2.2.2.2 x hx).1
    rw [hks, Int.toNat_of_nonneg h3]
    exact h2)
  -- typings are solutions
  have up : ∀ As, Typed syms l As → ∃ ρ, Sol hd.2 ρ ∧ Alls syms hd.1.2 ρ hd.1.1 l ∧ hd.1.2.map ρ = gam As := by
    intro As hT
    obtain ⟨ρ, ag, hs, hm⟩ := H.up (fun _ => .o) As hT.1 (by
      intro i n hn
      cases i with
      | zero => injection hn with hn; subst hn; exact ⟨fun j hj => (by cases hj), fun _ => rfl, fun a t ha _ => (by cases ha)⟩
      | succ i => cases hn)
    have hg : hd.1.2.map ρ = gam As := by
      rw [H.down ρ hs, ← hm]
      unfold gam
      rw [List.map_map]
      rfl
    refine ⟨ρ, hs, ?_, hg⟩
    rw [Alls_AllT, hg, hm]
    exact hT.2
  have down : ∀ ρ, Sol hd.2 ρ → Alls syms hd.1.2 ρ hd.1.1 l → Typed syms l (hd.1.1.map (fun ps => ps.map ρ)) ∧ gam (hd.1.1.map (fun ps => ps.map ρ)) = hd.1.2.map ρ := by
    intro ρ hs ha
    have hg : gam (hd.1.1.map (fun ps => ps.map ρ)) = hd.1.2.map ρ := by
      rw [H.down ρ hs]
      unfold gam
      rw [List.map_map]
      rfl
    refine ⟨⟨?_, ?_⟩, hg⟩
    · rw [← H.many, List.map_map]
      exact List.map_congr_left (fun ps _ => by simp)
    · rw [hg, ← Alls_AllT]
      exact ha
  cases b with
  | false =>
    refine .inr ⟨fun As hT => ?_, f1, ?_⟩
    · obtain ⟨ρ, hs, ha, _⟩ := up As hT
      exact N rfl ρ hs ha
    · rw [un, hf1]
  | true =>
    obtain ⟨x2, d2, u2⟩ := Y rfl
    obtain ⟨h2, w2⟩ := x2.wf
    have hs2 := rho_sol w2
    obtain ⟨hT0, hg0⟩ := down (rho s' h2) (x2.down _ hs2) (d2 _ hs2)
    refine .inl ⟨_, hT0, fun As hT => ?_, ?_⟩
    · obtain ⟨ρ, hs, ha, hg⟩ := up As hT
      obtain ⟨ρ', ag, hs'⟩ := u2 ρ hs ha
      have e : hd.1.2.map ρ' = hd.1.2.map ρ := List.map_congr_left (fun k hk => ag k (H.lk k hk))
      rw [hg0, ← hg, ← e]
      exact lesL_map (fun i => rho_least hs' i) _
    · obtain ⟨f2, ho⟩ := outs_ok w2 hd.1.2 [] (fun k hk => Nat.lt_of_lt_of_le (H.lk k hk) x2.len)
      refine ⟨max f1 f2, ?_⟩
      rw [un, fbodies_le (Nat.le_max_left f1 f2) hf1]
      simp only
      rw [fouts_le (Nat.le_max_right f1 f2) ho, hg0]
      by_cases hgood : (hd.1.2.map (rho s' h2)).all goodB = true
      · rw [if_pos hgood, if_pos hgood, List.nil_append]
      · rw [if_neg hgood, if_neg hgood]
end Go.Proofs.Ytfhgoebgnilfaaa.I
namespace Go.Proofs.Ytfhgoebgnilfaaa.I
open Go.RowKit Go.Proofs.YtfhgoebgnilfaaaW.PrintWords Go.Proofs.YtfhgoebgnilfaaaW.PrintLast Go.Proofs.YtfhgoebgnilfaaaW.PrintMore
set_option linter.unusedVariables false
set_option maxRecDepth 100000
set_option linter.unusedSimpArgs false
mutual
def tcnt : S44 → Int
  | ⟨_, _, l⟩ => 1 + tcntL l
def tcntL : List S44 → Int
  | [] => 0
  | x :: xs => tcnt x + tcntL xs
end
mutual
def tdep : S44 → Int
  | ⟨_, _, l⟩ => 1 + tdepL l
def tdepL : List S44 → Int
  | [] => 0
  | x :: xs => max (tdep x) (tdepL xs)
end
mutual
theorem tcnt_ge : ∀ x : S44, 1 ≤ tcnt x
  | ⟨_, _, l⟩ => by have := tcntL_ge l; unfold tcnt; omega
theorem tcntL_ge : ∀ l : List S44, (l.length : Int) ≤ tcntL l
  | [] => by simp [tcntL]
  | x :: xs => by have h1 := tcnt_ge x; have h2 := tcntL_ge xs; unfold tcntL; simp only [List.length_cons]; omega
end
mutual
theorem tdep_bd : ∀ x : S44, 1 ≤ tdep x ∧ tdep x ≤ tcnt x
  | ⟨_, _, l⟩ => by have := tdepL_bd l; unfold tdep tcnt; omega
theorem tdepL_bd : ∀ l : List S44, 0 ≤ tdepL l ∧ tdepL l ≤ tcntL l
  | [] => by simp [tdepL, tcntL]
  | x :: xs => by have h1 := tdep_bd x; have h2 := tdepL_bd xs; have h3 := tcnt_ge x; have h4 := tcntL_ge xs; unfold tdepL tcntL; omega
end
theorem tcnt_f2 (x : S44) : tcnt x = 1 + tcntL x.f2 := by cases x; rfl
theorem tdep_f2 (x : S44) : tdep x = 1 + tdepL x.f2 := by cases x; rfl
theorem tdrop_cnt (l : List S44) (i : Nat) (h : i < l.length) : tcntL (l.drop i) = 1 + tcntL (rd_T44 l (i : Int)).f2 + tcntL (l.drop (i + 1)) := by
  rw [rd_T44_drop l i h]; show tcnt _ + tcntL _ = _; rw [tcnt_f2]
theorem tdrop_dep (l : List S44) (i : Nat) (h : i < l.length) : tdepL (l.drop i) = max (1 + tdepL (rd_T44 l (i : Int)).f2) (tdepL (l.drop (i + 1))) := by
  rw [rd_T44_drop l i h]; show max (tdep _) (tdepL _) = _; rw [tdep_f2]
theorem tdrop_cnt_le : ∀ (l : List S44) (i : Nat), tcntL (l.drop i) ≤ tcntL l
  | [], i => by simp
  | x :: xs, 0 => by simp
  | x :: xs, i + 1 => by have h1 := tdrop_cnt_le xs i; have h2 := tcnt_ge x; rw [List.drop_succ_cons]; show tcntL (xs.drop i) ≤ tcnt x + tcntL xs; omega
theorem tcnt_child (l : List S44) (i : Nat) (h : i < l.length) : tcntL (rd_T44 l (i : Int)).f2 < tcntL l := by
  have h1 := tdrop_cnt l i h; have h2 := tdrop_cnt_le l i; have h3 := tcntL_ge (l.drop (i + 1)); omega
theorem mx_max (a b : Int) : mx a b = max a b := by unfold mx; split <;> omega
mutual
theorem tmeas_eq : ∀ (x : S44) (left : Int), 0 ≤ left → (if tcnt x ≤ left then tmeas x left = (tdep x, left - tcnt x) else (tmeas x left).2 < 0)
  | ⟨_, _, l⟩, left, h => by
    have := tmeasL_eq l (left - 1) 0 (by omega) (by omega)
    unfold tcnt tmeas tdep
    split at this
    · rw [if_pos (by omega), this]
      have h1 := tdepL_bd l
      rw [show max 0 (tdepL l) + 1 = 1 + tdepL l from by omega, show left - 1 - tcntL l = left - (1 + tcntL l) from by omega]
    · rw [if_neg (by omega)]; exact this
theorem tmeasL_eq : ∀ (l : List S44) (left d : Int), -1 ≤ left → 0 ≤ d → (if tcntL l ≤ left then tmeasL l left d = (max d (tdepL l) + 1, left - tcntL l) else (tmeasL l left d).2 < 0)
  | [], left, d, h, hd => by
    unfold tcntL tmeasL tdepL
    split
    · rw [show max d 0 = d from by omega, show left - 0 = left from by omega]
    · simp only; omega
  | x :: xs, left, d, h, hd => by
    have hc := tcnt_ge x
    have hl := tcntL_ge xs
    unfold tcntL tmeasL tdepL
    by_cases hn : left < 0
    · rw [if_pos hn, if_neg (by omega)]; exact hn
    · rw [if_neg hn]
      have h1 := tmeas_eq x left (by omega)
      have hb := tmeas_bd x left (by omega)
      have h2 := tmeasL_eq xs (tmeas x left).2 (mx d (tmeas x left).1) (by omega) (by rw [mx_max]; omega)
      split at h1
      · rw [h1] at h2
        simp only at h2
        rw [h1]
        simp only
        split at h2
        · rw [if_pos (by omega), h2, mx_max, show max (max d (tdep x)) (tdepL xs) = max d (max (tdep x) (tdepL xs)) from by omega, show left - tcnt x - tcntL xs = left - (tcnt x + tcntL xs) from by omega]
        · rw [if_neg (by omega)]; exact h2
      · rw [if_neg (by omega)]
        rw [if_neg (by omega)] at h2
        exact h2
end
/-- Is a body too great? -/
def big (x : S44) : Bool := decide (400 < tcnt x) || decide (30 < tdep x)
theorem szT_big (x : S44) : (decide (400 < (szT x).1) || decide (30 < (szT x).2)) = big x := by
  have h := tmeas_eq x 100000 (by omega)
  unfold szT big
  by_cases hc : tcnt x ≤ 100000
  · rw [if_pos hc] at h
    rw [h]
    simp only
    rw [if_neg (by omega)]
    simp only
    rw [show 100000 - (100000 - tcnt x) = tcnt x from by omega]
  · rw [if_neg hc] at h
    rw [if_pos h]
    rw [decide_eq_true (by omega : (400 : Int) < 100001), decide_eq_true (by omega : 400 < tcnt x)]
    rfl
theorem tnodes_ev (N : Nat) : ∀ (a b : Int) (l : List S44) (most : Int), SizeOf.sizeOf l < N → 0 ≤ most → most ≤ 1000 → Ev (fun k => virgationref02_Nodes.f k a b l most) (min (1 + tcntL l) (most + 1)) := by
  induction N with
  | zero => intro a b l most h; omega
  | succ N ih =>
  intro a b l most hN h0 h1
  have loop : ∀ (n i : Nat) (x5 : Int), l.length - i = n → i ≤ l.length → 1 ≤ x5 → x5 ≤ most + 1 → (i : Int) ≤ x5 → Ev (fun k => virgationref02_Nodes.l0 k most x5 (i : Int) a b l) (min (x5 + tcntL (l.drop i)) (most + 1)) := by
    intro n
    induction n with
    | zero =>
      intro i x5 hn hi h2 h3 h4
      have hd : l.drop i = [] := List.drop_eq_nil_of_le (by omega)
      rw [hd, show min (x5 + tcntL []) (most + 1) = x5 from by unfold tcntL; omega]
      exact Ev.step (fun k => by rw [virgationref02_Nodes.l0, if_neg (by omega)]) (Ev.now _)
    | succ n ihn =>
      intro i x5 hn hi h2 h3 h4
      have hil : i < l.length := by omega
      have hc := tcntL_ge (l.drop (i + 1))
      have hx := tcntL_ge (rd_T44 l (i : Int)).f2
      by_cases hm : x5 ≤ most
      · refine Ev.step (fun k => by rw [virgationref02_Nodes.l0, if_pos (by omega), if_pos hm, if_pos (by omega)]) ?_
        refine Ev.bind (a := min (1 + tcntL (rd_T44 l (i : Int)).f2) (most - x5 + 1)) ?_ ?_
        · rw [w64 (most - x5) (by omega)]
          exact ih _ _ _ _ (by have := rd_T44_mem l i hil; omega) (by omega) (by omega)
        · rw [w64 _ (by omega), w64 _ (by omega)]
          have := ihn (i + 1) (x5 + min (1 + tcntL (rd_T44 l (i : Int)).f2) (most - x5 + 1)) (by omega) (by omega) (by omega) (by omega) (by omega)
          rw [tdrop_cnt l i hil]
          rw [show ((i + 1 : Nat) : Int) = (i : Int) + 1 from rfl] at this
          rw [show min (x5 + (1 + tcntL (rd_T44 l (i : Int)).f2 + tcntL (l.drop (i + 1)))) (most + 1) = min (x5 + min (1 + tcntL (rd_T44 l (i : Int)).f2) (most - x5 + 1) + tcntL (l.drop (i + 1))) (most + 1) from by omega]
          exact this
      · rw [show min (x5 + tcntL (l.drop i)) (most + 1) = x5 from by have := tcntL_ge (l.drop i); omega]
        exact Ev.step (fun k => by rw [virgationref02_Nodes.l0, if_pos (by omega), if_neg hm]) (Ev.now _)
  refine Ev.step (fun k => by rw [virgationref02_Nodes.f]) ?_
  have := loop l.length 0 1 (by omega) (by omega) (by omega) (by omega) (by omega)
  rw [List.drop_zero] at this
  exact this
theorem tdepth_ev (N : Nat) : ∀ (a b : Int) (l : List S44), SizeOf.sizeOf l < N → tcntL l ≤ 1000 → Ev (fun k => virgationref02_Depth.f k a b l) (1 + tdepL l) := by
  induction N with
  | zero => intro a b l h; omega
  | succ N ih =>
  intro a b l hN h1
  have hlen := tcntL_ge l
  have loop : ∀ (n i : Nat) (x3 : Int), l.length - i = n → i ≤ l.length → 0 ≤ x3 → x3 ≤ 1000 → Ev (fun k => virgationref02_Depth.l0 k x3 l (l.length : Int) (i : Int)) (1 + max x3 (tdepL (l.drop i))) := by
    intro n
    induction n with
    | zero =>
      intro i x3 hn hi h2 h3
      have hd : l.drop i = [] := List.drop_eq_nil_of_le (by omega)
      rw [hd, show 1 + max x3 (tdepL []) = x3 + 1 from by unfold tdepL; omega]
      exact Ev.step (fun k => by rw [virgationref02_Depth.l0, if_neg (by omega), w64 _ (by omega)]) (Ev.now _)
    | succ n ihn =>
      intro i x3 hn hi h2 h3
      have hil : i < l.length := by omega
      have hch := tcnt_child l i hil
      have hdb := tdepL_bd (rd_T44 l (i : Int)).f2
      refine Ev.step (fun k => by rw [virgationref02_Depth.l0, if_pos (by omega), if_pos (by omega), if_pos (by omega)]) ?_
      refine Ev.bind (a := 1 + tdepL (rd_T44 l (i : Int)).f2) ?_ ?_
      · exact ih _ _ _ (by have := rd_T44_mem l i hil; omega) (by omega)
      · rw [w64 _ (by omega), mx_max, tdrop_dep l i hil]
        have := ihn (i + 1) (max x3 (1 + tdepL (rd_T44 l (i : Int)).f2)) (by omega) (by omega) (by omega) (by omega)
        rw [show ((i + 1 : Nat) : Int) = (i : Int) + 1 from rfl] at this
        rw [show 1 + max x3 (max (1 + tdepL (rd_T44 l (i : Int)).f2) (tdepL (l.drop (i + 1)))) = 1 + max (max x3 (1 + tdepL (rd_T44 l (i : Int)).f2)) (tdepL (l.drop (i + 1))) from by omega]
        exact this
  refine Ev.step (fun k => by rw [virgationref02_Depth.f]) ?_
  have := loop l.length 0 0 (by omega) (by omega) (by omega) (by omega)
  rw [List.drop_zero, show max 0 (tdepL l) = tdepL l from by have := tdepL_bd l; omega] at this
  exact this
end Go.Proofs.Ytfhgoebgnilfaaa.I
namespace Go.Proofs.Ytfhgoebgnilfaaa.I
open Go.RowKit Go.Proofs.YtfhgoebgnilfaaaW.PrintWords Go.Proofs.YtfhgoebgnilfaaaW.PrintLast Go.Proofs.YtfhgoebgnilfaaaW.PrintMore
set_option linter.unusedVariables false
set_option maxRecDepth 100000
set_option linter.unusedSimpArgs false
theorem isIn_cons (x : ByteArray) (L : List ByteArray) (s : ByteArray) : isIn (x :: L) s = (x.data.toList == s.data.toList || isIn L s) := rfl
/-- The loop over the symbols ahead. -/
theorem sym_inner {l : List S59} {i : Nat} {nm : ByteArray} {rk : Int} {R : Bool} (y : List S59) (hy : y.length ≤ 1000) (hR : Ev (fun k => virgationref02_Symbols.l0 k l l (l.length : Int) (wrap64 ((i : Int) + 1))) R) :
    ∀ (m j : Nat), y.length - j = m → j ≤ y.length → Ev (fun k => virgationref02_Symbols.l1 k l l (l.length : Int) (i : Int) y (y.length : Int) (j : Int) nm rk) (if isIn (names59 (y.drop j)) nm = true then false else R) := by
  intro m
  induction m with
  | zero =>
    intro j hn hj
    have hd : y.drop j = [] := List.drop_eq_nil_of_le (by omega)
    rw [hd, if_neg (by simp [names59, isIn])]
    exact Ev.step (fun k => by rw [virgationref02_Symbols.l1, if_neg (by omega)]) hR
  | succ m ihm =>
    intro j hn hj
    have hjl : j < y.length := by omega
    refine Ev.step (fun k => by rw [virgationref02_Symbols.l1, if_pos (by omega), if_pos (by omega), if_pos (by omega)]) ?_
    rw [rd_T59_drop y j hjl]
    show Ev _ (if isIn ((rd_T59 y (j : Int)).f0 :: names59 (y.drop (j + 1))) nm = true then false else R)
    rw [isIn_cons]
    by_cases he : nm.toList = (rd_T59 y (j : Int)).f0.toList
    · have : ((rd_T59 y (j : Int)).f0.data.toList == nm.data.toList) = true := by rw [beq_iff_eq, ← Go.ByteArray.toList_eq, ← Go.ByteArray.toList_eq]; exact he.symm
      rw [this, Bool.true_or, if_pos rfl]
      exact Ev.ifp he (Ev.now _)
    · have : ((rd_T59 y (j : Int)).f0.data.toList == nm.data.toList) = false := by
        rw [beq_eq_false_iff_ne, ← Go.ByteArray.toList_eq, ← Go.ByteArray.toList_eq]
        exact fun h => he h.symm
      rw [this, Bool.false_or]
      refine Ev.ifn he ?_
      rw [w64 _ (by omega)]
      exact ihm (j + 1) (by omega) (by omega)
theorem sym_j1 {l : List S59} {i : Nat} {nm : ByteArray} {rk : Int} {R : Bool} (hl : l.length ≤ 24) (hi : i < l.length) (b : Bool) (hR : Ev (fun k => virgationref02_Symbols.l0 k l l (l.length : Int) (wrap64 ((i : Int) + 1))) R) :
    Ev (fun k => virgationref02_Symbols.j1 k l (i : Int) l (l.length : Int) (i : Int) b nm rk) (if (b || isIn (names59 (l.take i)) nm) = true then false else R) := by
  cases b with
  | true => exact Ev.step (fun k => by rw [virgationref02_Symbols.j1, if_pos rfl]; rfl) (Ev.now _)
  | false =>
    rw [Bool.false_or]
    refine Ev.step (fun k => by rw [virgationref02_Symbols.j1, if_neg (by simp), if_pos (by omega), if_pos (by omega)]) ?_
    simp only [Option.bind_some, Int.toNat_natCast]
    have := sym_inner (nm := nm) (rk := rk) (l.take i) (by rw [List.length_take]; omega) hR (l.take i).length 0 (by omega) (by omega)
    rw [List.drop_zero] at this
    exact this
theorem symbols_ev (l : List S59) : Ev (fun k => virgationref02_Symbols.f k l) (symsL l [] && decide (l.length ≤ 24)) := by
  unfold virgationref02_Symbols.f
  by_cases h : (l.length : Int) > 24
  · rw [decide_eq_false (by omega : ¬ l.length ≤ 24), Bool.and_false]
    exact Ev.ifp h (Ev.now _)
  · rw [decide_eq_true (by omega : l.length ≤ 24), Bool.and_true]
    refine Ev.ifn h ?_
    have loop : ∀ (m i : Nat), l.length - i = m → i ≤ l.length → Ev (fun k => virgationref02_Symbols.l0 k l l (l.length : Int) (i : Int)) (symsL (l.drop i) (names59 (l.take i))) := by
      intro m
      induction m with
      | zero =>
        intro i hn hi
        have hd : l.drop i = [] := List.drop_eq_nil_of_le (by omega)
        rw [hd]
        change Ev _ true
        exact Ev.step (fun k => by rw [virgationref02_Symbols.l0, if_neg (by omega)]) (Ev.now _)
      | succ m ihm =>
        intro i hn hi
        have hil : i < l.length := by omega
        have hR : Ev (fun k => virgationref02_Symbols.l0 k l l (l.length : Int) (wrap64 ((i : Int) + 1))) (symsL (l.drop (i + 1)) (names59 (l.take (i + 1)))) := by
          rw [w64 _ (by omega)]
          exact ihm (i + 1) (by omega) (by omega)
        refine Ev.step (fun k => by rw [virgationref02_Symbols.l0, if_pos (by omega), if_pos (by omega), if_pos (by omega)]) ?_
        refine Ev.bind (refname_ev _) ?_
        rw [rd_T59_drop l i hil]
        show Ev _ (if symBad (rd_T59 l (i : Int)) (names59 (l.take i)) = true then false else symsL (l.drop (i + 1)) (names59 (l.take i) ++ [(rd_T59 l (i : Int)).f0]))
        rw [rd_T59_take l i hil]
        unfold symBad
        cases hn1 : nameOk (rd_T59 l (i : Int)).f0
        · refine Ev.ifn (by simp) ?_
          have := sym_j1 (nm := (rd_T59 l (i : Int)).f0) (rk := (rd_T59 l (i : Int)).f1) (by omega) hil true hR
          simpa using this
        · refine Ev.ifp rfl ?_
          by_cases h0 : (rd_T59 l (i : Int)).f1 < 0
          · refine Ev.ifp h0 ?_
            have := sym_j1 (nm := (rd_T59 l (i : Int)).f0) (rk := (rd_T59 l (i : Int)).f1) (by omega) hil true hR
            simpa [h0] using this
          · refine Ev.ifn h0 ?_
            have := sym_j1 (nm := (rd_T59 l (i : Int)).f0) (rk := (rd_T59 l (i : Int)).f1) (by omega) hil (decide ((rd_T59 l (i : Int)).f1 > 4)) hR
            rw [decide_eq_false h0, Bool.not_true, Bool.false_or, Bool.false_or, Bool.or_comm]
            exact this
    exact loop l.length 0 (by omega) (by omega)
end Go.Proofs.Ytfhgoebgnilfaaa.I
namespace Go.Proofs.Ytfhgoebgnilfaaa.I
open Go.RowKit Go.Proofs.YtfhgoebgnilfaaaW.PrintWords Go.Proofs.YtfhgoebgnilfaaaW.PrintLast Go.Proofs.YtfhgoebgnilfaaaW.PrintMore
set_option linter.unusedVariables false
set_option maxRecDepth 100000
set_option linter.unusedSimpArgs false
def to48 (x : S56) : S48 := ⟨x.f0, x.f1, x.f2⟩
theorem loose_eq (x : S48) (nf ns : Int) (L : List ByteArray) : looseBad x nf ns L = ((!nameOk x.f0 || (decide (x.f1 < 0) || (decide (8 < x.f1) || (big x.f2 || !knownS x.f2 x.f1 nf ns)))) || isIn L x.f0) := by
  have e : (⟨x.f2.f0, x.f2.f1, x.f2.f2⟩ : S44) = x.f2 := by cases x.f2; rfl
  have hb := szT_big x.f2
  unfold looseBad
  rw [e, ← hb]
  cases nameOk x.f0 <;> cases isIn L x.f0 <;> cases decide (x.f1 < 0) <;> cases decide (8 < x.f1) <;> cases decide (400 < (szT x.f2).1) <;> cases decide (30 < (szT x.f2).2) <;> cases knownS x.f2 x.f1 nf ns <;> rfl
end Go.Proofs.Ytfhgoebgnilfaaa.I
namespace Go.Proofs.Ytfhgoebgnilfaaa.I
open Go.RowKit Go.Proofs.YtfhgoebgnilfaaaW.PrintWords
set_option linter.unusedVariables false
mutual
theorem wf44_twf : ∀ {x : S44}, wf44 x → twfB x = true
  | ⟨k, n, l⟩, h => by
    unfold wf44 at h
    unfold twfB
    rw [Bool.and_eq_true]
    exact ⟨h.1, wf44L_twf h.2.2.2⟩
theorem wf44L_twf : ∀ {l : List S44}, wf44L l → twfBL l = true
  | [], _ => rfl
  | x :: xs, h => by
    unfold wf44L at h
    unfold twfBL
    rw [Bool.and_eq_true]
    exact ⟨wf44_twf h.1, wf44L_twf h.2⟩
end
theorem looseWf_to48 {l : List S56} (h : ∀ y_, y_ ∈ l → wf56 y_) : looseWf (l.map to48) = true := by
  unfold looseWf
  rw [List.all_eq_true]
  intro x hx
  obtain ⟨y, hy, rfl⟩ := List.mem_map.1 hx
  exact wf44_twf (h y hy).2.2
theorem given_loop (l : List S56) (hl : l.length ≤ 1000) : ∀ (m i : Nat), l.length - i = m → i ≤ l.length → Ev (fun k => virgationlaw04_given.l0 k ((l.take i).map to48) l (l.length : Int) (i : Int)) (l.map to48) := by
  intro m
  induction m with
  | zero =>
    intro i hm hi
    have hie : i = l.length := by omega
    subst hie
    refine Ev.step (fun k => by rw [virgationlaw04_given.l0, if_neg (by omega)]) ?_
    rw [List.take_length]
    exact Ev.now _
  | succ m ih =>
    intro i hm hi
    have hlt : i < l.length := by omega
    refine Ev.step (fun k => by
      rw [virgationlaw04_given.l0, if_pos (by omega), if_pos (by omega), if_pos (by omega), if_pos (by rw [List.length_map, List.length_take]; omega)]) ?_
    have e : wrap64 ((i : Int) + 1) = ((i + 1 : Nat) : Int) := by unfold wrap64; omega
    have e2 : (l.take i).map to48 ++ [(⟨(rd_T56 l (i : Int)).f0, (rd_T56 l (i : Int)).f1, (⟨(rd_T56 l (i : Int)).f2.f0, (rd_T56 l (i : Int)).f2.f1, (rd_T56 l (i : Int)).f2.f2⟩ : S44)⟩ : S48)] = (l.take (i + 1)).map to48 := by
      have e3 : l.take (i + 1) = l.take i ++ [l[i]] := by rw [List.take_add_one, List.getElem?_eq_getElem hlt]; rfl
      have e4 : rd_T56 l (i : Int) = l[i] := by unfold rd_T56; rw [Int.toNat_natCast, List.getD_eq_getElem?_getD, List.getElem?_eq_getElem hlt]; rfl
      rw [e3, List.map_append, e4]
      generalize l[i] = x
      obtain ⟨a, b, c, d, f⟩ := x
      rfl
    rw [e, e2]
    exact ih (i + 1) (by omega) (by omega)
theorem given_ev (l : List S56) (hl : l.length ≤ 1000) : Ev (fun k => virgationlaw04_given.f k l) (l.map to48) := by
  have h := given_loop l hl l.length 0 (by omega) (by omega)
  rw [List.take_zero] at h
  exact h
end Go.Proofs.Ytfhgoebgnilfaaa.I
namespace Go.Proofs.Ytfhgoebgnilfaaa.I
open Go.RowKit Go.Proofs.YtfhgoebgnilfaaaW.PrintWords Go.Proofs.YtfhgoebgnilfaaaW.PrintLast Go.Proofs.YtfhgoebgnilfaaaW.PrintMore
set_option linter.unusedVariables false
set_option linter.unusedSimpArgs false
mutual
def cnt : S41 → Int
  | ⟨l⟩ => 1 + cntL l
def cntL : List S41 → Int
  | [] => 0
  | x :: xs => cnt x + cntL xs
end
mutual
def dep : S41 → Int
  | ⟨l⟩ => 1 + depL l
def depL : List S41 → Int
  | [] => 0
  | x :: xs => max (dep x) (depL xs)
end
mutual
def eqS : S41 → S41 → Bool
  | ⟨l⟩, y => eqL l y.f0
def eqL : List S41 → List S41 → Bool
  | [], m => m.isEmpty
  | _ :: _, [] => false
  | x :: xs, y :: ys => eqS x y && eqL xs ys
end
mutual
theorem cnt_ge : ∀ x : S41, 1 ≤ cnt x
  | ⟨l⟩ => by have := cntL_ge l; unfold cnt; omega
theorem cntL_ge : ∀ l : List S41, (l.length : Int) ≤ cntL l
  | [] => by simp [cntL]
  | x :: xs => by have h1 := cnt_ge x; have h2 := cntL_ge xs; unfold cntL; simp only [List.length_cons]; omega
end
mutual
theorem dep_bd : ∀ x : S41, 1 ≤ dep x ∧ dep x ≤ cnt x
  | ⟨l⟩ => by have := depL_bd l; unfold dep cnt; omega
theorem depL_bd : ∀ l : List S41, 0 ≤ depL l ∧ depL l ≤ cntL l
  | [] => by simp [depL, cntL]
  | x :: xs => by have h1 := dep_bd x; have h2 := depL_bd xs; have h3 := cnt_ge x; have h4 := cntL_ge xs; unfold depL cntL; omega
end
mutual
theorem eqS_refl : ∀ x : S41, eqS x x = true
  | ⟨l⟩ => by unfold eqS; exact eqL_refl l
theorem eqL_refl : ∀ l : List S41, eqL l l = true
  | [] => rfl
  | x :: xs => by unfold eqL; rw [eqS_refl x, eqL_refl xs]; rfl
end
theorem eqL_len : ∀ (l m : List S41), eqL l m = true → l.length = m.length
  | [], [], _ => rfl
  | [], _ :: _, h => by simp [eqL] at h
  | _ :: _, [], h => by simp [eqL] at h
  | x :: xs, y :: ys, h => by
    unfold eqL at h
    rw [Bool.and_eq_true] at h
    rw [List.length_cons, List.length_cons, eqL_len xs ys h.2]
theorem cnt_f0 (x : S41) : cnt x = 1 + cntL x.f0 := by cases x; rfl
theorem dep_f0 (x : S41) : dep x = 1 + depL x.f0 := by cases x; rfl
theorem eqS_f0 (x y : S41) : eqS x y = eqL x.f0 y.f0 := by cases x; rfl
theorem fewS_f0 (x : S41) : fewS x = (fewL x.f0 && decide (x.f0.length ≤ 8)) := by cases x; rfl
theorem drop_cnt (l : List S41) (i : Nat) (h : i < l.length) : cntL (l.drop i) = 1 + cntL (rd_T41 l (i : Int)).f0 + cntL (l.drop (i + 1)) := by
  rw [rd_T41_drop l i h]; show cnt _ + cntL _ = _; rw [cnt_f0]
theorem drop_dep (l : List S41) (i : Nat) (h : i < l.length) : depL (l.drop i) = max (1 + depL (rd_T41 l (i : Int)).f0) (depL (l.drop (i + 1))) := by
  rw [rd_T41_drop l i h]; show max (dep _) (depL _) = _; rw [dep_f0]
theorem drop_few (l : List S41) (i : Nat) (h : i < l.length) : fewL (l.drop i) = ((fewL (rd_T41 l (i : Int)).f0 && decide ((rd_T41 l (i : Int)).f0.length ≤ 8)) && fewL (l.drop (i + 1))) := by
  rw [rd_T41_drop l i h]; show (fewS _ && fewL _) = _; rw [fewS_f0]
theorem drop_eq (l m : List S41) (i : Nat) (h : i < l.length) (h2 : i < m.length) : eqL (l.drop i) (m.drop i) = (eqL (rd_T41 l (i : Int)).f0 (rd_T41 m (i : Int)).f0 && eqL (l.drop (i + 1)) (m.drop (i + 1))) := by
  rw [rd_T41_drop l i h, rd_T41_drop m i h2]; show (eqS _ _ && eqL _ _) = _; rw [eqS_f0]
theorem drop_cnt_le : ∀ (l : List S41) (i : Nat), cntL (l.drop i) ≤ cntL l
  | [], i => by simp
  | x :: xs, 0 => by simp
  | x :: xs, i + 1 => by have h1 := drop_cnt_le xs i; have h2 := cnt_ge x; rw [List.drop_succ_cons]; show cntL (xs.drop i) ≤ cnt x + cntL xs; omega
theorem cnt_child (l : List S41) (i : Nat) (h : i < l.length) : cntL (rd_T41 l (i : Int)).f0 < cntL l := by
  have h1 := drop_cnt l i h; have h2 := drop_cnt_le l i; have h3 := cntL_ge (l.drop (i + 1)); omega
mutual
theorem meas_eq : ∀ (x : S41) (left : Int), 0 ≤ left → (if cnt x ≤ left then meas x left = (dep x, left - cnt x) else (meas x left).2 < 0)
  | ⟨l⟩, left, h => by
    have := measL_eq l (left - 1) 0 (by omega) (by omega)
    unfold cnt meas dep
    split at this
    · rw [if_pos (by omega), this]
      have h1 := depL_bd l
      rw [show max 0 (depL l) + 1 = 1 + depL l from by omega, show left - 1 - cntL l = left - (1 + cntL l) from by omega]
    · rw [if_neg (by omega)]; exact this
theorem measL_eq : ∀ (l : List S41) (left d : Int), -1 ≤ left → 0 ≤ d → (if cntL l ≤ left then measL l left d = (max d (depL l) + 1, left - cntL l) else (measL l left d).2 < 0)
  | [], left, d, h, hd => by
    unfold cntL measL depL
    split
    · rw [show max d 0 = d from by omega, show left - 0 = left from by omega]
    · simp only; omega
  | x :: xs, left, d, h, hd => by
    have hc := cnt_ge x
    have hl := cntL_ge xs
    unfold cntL measL depL
    by_cases hn : left < 0
    · rw [if_pos hn, if_neg (by omega)]; exact hn
    · rw [if_neg hn]
      have h1 := meas_eq x left (by omega)
      have hb := meas_bd x left (by omega)
      have h2 := measL_eq xs (meas x left).2 (mx d (meas x left).1) (by omega) (by rw [mx_max]; omega)
      split at h1
      · rw [h1] at h2
        simp only at h2
        rw [h1]
        simp only
        split at h2
        · rw [if_pos (by omega), h2, mx_max, show max (max d (dep x)) (depL xs) = max d (max (dep x) (depL xs)) from by omega, show left - cnt x - cntL xs = left - (cnt x + cntL xs) from by omega]
        · rw [if_neg (by omega)]; exact h2
      · rw [if_neg (by omega)]
        rw [if_neg (by omega)] at h2
        exact h2
end
/-- Is it a sort that the package takes? -/
def isok (l : List S41) : Bool := decide (1 + cntL l ≤ 60) && (decide (1 + depL l ≤ 30) && fewS ⟨l⟩)
theorem check_eq (l : List S41) : sorts_Check.f l = some (if isok l = true then 0 else 6) := by
  have h := meas_eq ⟨l⟩ 60 (by omega)
  have hc : cnt ⟨l⟩ = 1 + cntL l := rfl
  have hd : dep ⟨l⟩ = 1 + depL l := rfl
  rw [hc, hd] at h
  unfold sorts_Check.f isok
  split at h
  · rename_i hle
    rw [h]
    simp only [hle, decide_true, Bool.true_and, Bool.and_eq_true, decide_eq_true_eq]
    by_cases h1 : 1 + depL l ≤ 30
    · cases h2 : fewS ⟨l⟩
      · rw [if_pos (.inr (.inr rfl)), if_neg (by simp)]
      · rw [if_neg (by simp only [reduceCtorEq, or_false, not_or]; omega), if_pos ⟨h1, rfl⟩]
    · rw [if_pos (.inr (.inl (by omega))), if_neg (by intro hh; exact h1 hh.1)]
  · rename_i hle
    rw [if_pos (.inl h)]
    simp [hle]
theorem nodes_ev (N : Nat) : ∀ (l : List S41) (most : Int), SizeOf.sizeOf l < N → 0 ≤ most → most ≤ 1000 → Ev (fun k => virgationref01_Nodes.f k l most) (min (1 + cntL l) (most + 1)) := by
  induction N with
  | zero => intro l most h; omega
  | succ N ih =>
  intro l most hN h0 h1
  have loop : ∀ (n i : Nat) (x5 : Int), l.length - i = n → i ≤ l.length → 1 ≤ x5 → x5 ≤ most + 1 → (i : Int) ≤ x5 → Ev (fun k => virgationref01_Nodes.l0 k most x5 (i : Int) l) (min (x5 + cntL (l.drop i)) (most + 1)) := by
    intro n
    induction n with
    | zero =>
      intro i x5 hn hi h2 h3 h4
      have hd : l.drop i = [] := List.drop_eq_nil_of_le (by omega)
      rw [hd, show min (x5 + cntL []) (most + 1) = x5 from by unfold cntL; omega]
      exact Ev.step (fun k => by rw [virgationref01_Nodes.l0, if_neg (by omega)]) (Ev.now _)
    | succ n ihn =>
      intro i x5 hn hi h2 h3 h4
      have hil : i < l.length := by omega
      have hc := cntL_ge (l.drop (i + 1))
      have hx := cntL_ge (rd_T41 l (i : Int)).f0
      by_cases hm : x5 ≤ most
      · refine Ev.step (fun k => by rw [virgationref01_Nodes.l0, if_pos (by omega), if_pos hm, if_pos (by omega)]) ?_
        refine Ev.bind (a := min (1 + cntL (rd_T41 l (i : Int)).f0) (most - x5 + 1)) ?_ ?_
        · rw [w64 (most - x5) (by omega)]
          exact ih _ _ (by have := rd_T41_mem l i hil; omega) (by omega) (by omega)
        · rw [w64 _ (by omega), w64 _ (by omega)]
          have := ihn (i + 1) (x5 + min (1 + cntL (rd_T41 l (i : Int)).f0) (most - x5 + 1)) (by omega) (by omega) (by omega) (by omega) (by omega)
          rw [drop_cnt l i hil]
          rw [show ((i + 1 : Nat) : Int) = (i : Int) + 1 from rfl] at this
          rw [show min (x5 + (1 + cntL (rd_T41 l (i : Int)).f0 + cntL (l.drop (i + 1)))) (most + 1) = min (x5 + min (1 + cntL (rd_T41 l (i : Int)).f0) (most - x5 + 1) + cntL (l.drop (i + 1))) (most + 1) from by omega]
          exact this
      · rw [show min (x5 + cntL (l.drop i)) (most + 1) = x5 from by have := cntL_ge (l.drop i); omega]
        exact Ev.step (fun k => by rw [virgationref01_Nodes.l0, if_pos (by omega), if_neg hm]) (Ev.now _)
  refine Ev.step (fun k => by rw [virgationref01_Nodes.f]) ?_
  have := loop l.length 0 1 (by omega) (by omega) (by omega) (by omega) (by omega)
  rw [List.drop_zero] at this
  exact this
theorem nodes60 (l : List S41) : Ev (fun k => virgationref01_Nodes.f k l 60) (min (1 + cntL l) 61) := nodes_ev _ l 60 (Nat.lt_succ_self _) (by omega) (by omega)
theorem depth_ev (N : Nat) : ∀ (l : List S41), SizeOf.sizeOf l < N → cntL l ≤ 1000 → Ev (fun k => virgationref01_depth.f k l) (1 + depL l) := by
  induction N with
  | zero => intro l h; omega
  | succ N ih =>
  intro l hN h1
  have hlen := cntL_ge l
  have loop : ∀ (n i : Nat) (x3 : Int), l.length - i = n → i ≤ l.length → 0 ≤ x3 → x3 ≤ 1000 → Ev (fun k => virgationref01_depth.l0 k x3 l (l.length : Int) (i : Int)) (1 + max x3 (depL (l.drop i))) := by
    intro n
    induction n with
    | zero =>
      intro i x3 hn hi h2 h3
      have hd : l.drop i = [] := List.drop_eq_nil_of_le (by omega)
      rw [hd, show 1 + max x3 (depL []) = x3 + 1 from by unfold depL; omega]
      exact Ev.step (fun k => by rw [virgationref01_depth.l0, if_neg (by omega), w64 _ (by omega)]) (Ev.now _)
    | succ n ihn =>
      intro i x3 hn hi h2 h3
      have hil : i < l.length := by omega
      have hch := cnt_child l i hil
      have hdb := depL_bd (rd_T41 l (i : Int)).f0
      refine Ev.step (fun k => by rw [virgationref01_depth.l0, if_pos (by omega), if_pos (by omega), if_pos (by omega)]) ?_
      refine Ev.bind (a := 1 + depL (rd_T41 l (i : Int)).f0) ?_ ?_
      · exact ih _ (by have := rd_T41_mem l i hil; omega) (by omega)
      · rw [w64 _ (by omega), mx_max, drop_dep l i hil]
        have := ihn (i + 1) (max x3 (1 + depL (rd_T41 l (i : Int)).f0)) (by omega) (by omega) (by omega) (by omega)
        rw [show ((i + 1 : Nat) : Int) = (i : Int) + 1 from rfl] at this
        rw [show 1 + max x3 (max (1 + depL (rd_T41 l (i : Int)).f0) (depL (l.drop (i + 1)))) = 1 + max (max x3 (1 + depL (rd_T41 l (i : Int)).f0)) (depL (l.drop (i + 1))) from by omega]
        exact this
  refine Ev.step (fun k => by rw [virgationref01_depth.f]) ?_
  have := loop l.length 0 0 (by omega) (by omega) (by omega) (by omega)
  rw [List.drop_zero, show max 0 (depL l) = depL l from by have := depL_bd l; omega] at this
  exact this
theorem depth60 {l : List S41} (h : cntL l ≤ 60) : Ev (fun k => virgationref01_depth.f k l) (1 + depL l) := depth_ev _ l (Nat.lt_succ_self _) (by omega)
theorem few_ev (N : Nat) : ∀ (l : List S41), SizeOf.sizeOf l < N → cntL l ≤ 1000 → Ev (fun k => virgationref01_few.f k l) (fewS ⟨l⟩) := by
  induction N with
  | zero => intro l h; omega
  | succ N ih =>
  intro l hN h1
  have hlen := cntL_ge l
  have loop : ∀ (n i : Nat), l.length - i = n → i ≤ l.length → Ev (fun k => virgationref01_few.l0 k l (l.length : Int) (i : Int) l) (fewL (l.drop i) && decide (l.length ≤ 8)) := by
    intro n
    induction n with
    | zero =>
      intro i hn hi
      have hd : l.drop i = [] := List.drop_eq_nil_of_le (by omega)
      rw [hd, show (fewL [] && decide (l.length ≤ 8)) = decide ((l.length : Int) ≤ 8) from by show (true && _) = _; rw [Bool.true_and]; exact decide_eq_decide.2 (by omega)]
      exact Ev.step (fun k => by rw [virgationref01_few.l0, if_neg (by omega)]) (Ev.now _)
    | succ n ihn =>
      intro i hn hi
      have hil : i < l.length := by omega
      have hch := cnt_child l i hil
      refine Ev.step (fun k => by rw [virgationref01_few.l0, if_pos (by omega), if_pos (by omega), if_pos (by omega)]) ?_
      refine Ev.bind (a := fewS ⟨(rd_T41 l (i : Int)).f0⟩) ?_ ?_
      · exact ih _ (by have := rd_T41_mem l i hil; omega) (by omega)
      · have e : fewS ⟨(rd_T41 l (i : Int)).f0⟩ = (fewL (rd_T41 l (i : Int)).f0 && decide ((rd_T41 l (i : Int)).f0.length ≤ 8)) := rfl
        rw [drop_few l i hil, ← e]
        cases hb : fewS ⟨(rd_T41 l (i : Int)).f0⟩
        · exact Ev.now _
        · have := ihn (i + 1) (by omega) (by omega)
          rw [show ((i + 1 : Nat) : Int) = (i : Int) + 1 from rfl] at this
          rw [w64 _ (by omega)]
          exact this
  refine Ev.step (fun k => by rw [virgationref01_few.f]) ?_
  have := loop l.length 0 (by omega) (by omega)
  rw [List.drop_zero] at this
  exact this
theorem is_ev (l : List S41) : Ev (fun k => virgationref01_Is.f k l) (isok l) := by
  unfold virgationref01_Is.f isok
  refine Ev.bind (nodes60 l) ?_
  by_cases h : 1 + cntL l ≤ 60
  · refine Ev.ifp (by omega) ?_
    refine Ev.bind (depth60 (by omega)) ?_
    by_cases h2 : 1 + depL l ≤ 30
    · refine Ev.ifp h2 ?_
      refine Ev.bind (few_ev _ l (Nat.lt_succ_self _) (by omega)) ?_
      simp only [h, h2, decide_true, Bool.true_and]
      exact Ev.now _
    · refine Ev.ifn h2 ?_
      simp only [h, h2, decide_true, decide_false, Bool.true_and, Bool.false_and]
      exact Ev.now _
  · refine Ev.ifn (by omega) ?_
    simp only [h, decide_false, Bool.false_and]
    exact Ev.now _
theorem isok_cnt {l : List S41} (h : isok l = true) : cntL l ≤ 59 := by
  unfold isok at h
  rw [Bool.and_eq_true, decide_eq_true_eq] at h
  omega
theorem equal_ev (N : Nat) : ∀ (l m : List S41), SizeOf.sizeOf l < N → cntL l ≤ 1000 → Ev (fun k => virgationref01_Equal.f k l m) (eqL l m) := by
  induction N with
  | zero => intro l m h; omega
  | succ N ih =>
  intro l m hN h1
  have hlen := cntL_ge l
  by_cases hlm : l.length = m.length
  · have loop : ∀ (n i : Nat), l.length - i = n → i ≤ l.length → Ev (fun k => virgationref01_Equal.l0 k (l.length : Int) (i : Int) l m) (eqL (l.drop i) (m.drop i)) := by
      intro n
      induction n with
      | zero =>
        intro i hn hi
        have hd : l.drop i = [] := List.drop_eq_nil_of_le (by omega)
        have hd2 : m.drop i = [] := List.drop_eq_nil_of_le (by omega)
        rw [hd, hd2]
        change Ev _ true
        exact Ev.step (fun k => by rw [virgationref01_Equal.l0, if_neg (by omega)]) (Ev.now _)
      | succ n ihn =>
        intro i hn hi
        have hil : i < l.length := by omega
        have hch := cnt_child l i hil
        refine Ev.step (fun k => by rw [virgationref01_Equal.l0, if_pos (by omega), if_pos (by omega), if_pos (by omega), if_pos (by omega)]) ?_
        refine Ev.bind (a := eqL (rd_T41 l (i : Int)).f0 (rd_T41 m (i : Int)).f0) ?_ ?_
        · exact ih _ _ (by have := rd_T41_mem l i hil; omega) (by omega)
        · rw [drop_eq l m i hil (by omega)]
          cases eqL (rd_T41 l (i : Int)).f0 (rd_T41 m (i : Int)).f0
          · exact Ev.now _
          · rw [w64 _ (by omega)]
            exact ihn (i + 1) (by omega) (by omega)
    refine Ev.step (fun k => by rw [virgationref01_Equal.f, if_pos (by omega)]) ?_
    have := loop l.length 0 (by omega) (by omega)
    rw [List.drop_zero, List.drop_zero] at this
    exact this
  · have : eqL l m = false := by
      cases h : eqL l m
      · rfl
      · exact absurd (eqL_len l m h) hlm
    rw [this]
    exact Ev.step (fun k => by rw [virgationref01_Equal.f, if_neg (by omega)]) (Ev.now _)
end Go.Proofs.Ytfhgoebgnilfaaa.I
namespace Go.Proofs.Ytfhgoebgnilfaaa.I
open Go.RowKit Go.Proofs.YtfhgoebgnilfaaaW.PrintWords Go.Proofs.YtfhgoebgnilfaaaW.PrintLast Go.Proofs.YtfhgoebgnilfaaaW.PrintMore
attribute [local go_sem] max2_int min2_int max_two min_two max_three min_three max_four min_four
set_option linter.unusedVariables false
set_option maxRecDepth 100000
set_option linter.unusedSimpArgs false
mutual
def ofT (sy : List S59) (fu pa : List S41) : S44 → Option (List S41)
  | ⟨k, n, l⟩ => match hdF sy fu pa k n with
    | none => none
    | some s => if s.length < l.length then none else if ofL sy fu pa l s = true then some (s.drop l.length) else none
def ofL (sy : List S59) (fu pa : List S41) : List S44 → List S41 → Bool
  | [], _ => true
  | x :: xs, s => (match ofT sy fu pa x with
    | none => false
    | some r => eqL r (s.headD z41).f0) && ofL sy fu pa xs s.tail
end
theorem ofT_eq (sy : List S59) (fu pa : List S41) (x : S44) : ofT sy fu pa x = match hdF sy fu pa x.f0 x.f1 with
    | none => none
    | some s => if s.length < x.f2.length then none else if ofL sy fu pa x.f2 s = true then some (s.drop x.f2.length) else none := by
  cases x; rw [ofT]
theorem ofL_step (sy : List S59) (fu pa : List S41) (l : List S44) (s : List S41) (i : Nat) (h : i < l.length) : ofL sy fu pa (l.drop i) (s.drop i) = ((match ofT sy fu pa (rd_T44 l (i : Int)) with
    | none => false
    | some r => eqL r (rd_T41 s (i : Int)).f0) && ofL sy fu pa (l.drop (i + 1)) (s.drop (i + 1))) := by
  rw [rd_T44_drop l i h, ofL, List.tail_drop]
  have e : (s.drop i).headD z41 = rd_T41 s (i : Int) := by
    unfold rd_T41
    rw [Int.toNat_natCast, List.getD_eq_getElem?_getD, List.headD_eq_head?_getD, List.head?_drop]
  rw [e]
/-- The places' sorts are small. -/
def SmallP (sy : List S59) (fu pa : List S41) : Prop := (∀ x ∈ sy, 0 ≤ x.f1 ∧ x.f1 ≤ 1000) ∧ (∀ x ∈ fu, cntL x.f0 ≤ 1000) ∧ (∀ x ∈ pa, cntL x.f0 ≤ 1000)
theorem cntL_rep : ∀ n : Nat, cntL (List.replicate n z41) = n
  | 0 => rfl
  | n + 1 => by rw [List.replicate_succ, cntL, cntL_rep n]; simp only [z41, cnt, cntL]; omega
theorem rd_mem41 {l : List S41} {n : Int} (h0 : 0 ≤ n) (h : n < (l.length : Int)) : rd_T41 l n ∈ l := by
  unfold rd_T41
  rw [List.getD_eq_getElem?_getD, List.getElem?_eq_getElem (by omega : n.toNat < l.length)]
  exact List.getElem_mem _
theorem hdF_cnt {sy : List S59} {fu pa : List S41} (hs : SmallP sy fu pa) {k n : Int} {r : List S41} (h : hdF sy fu pa k n = some r) : cntL r ≤ 1000 := by
  unfold hdF at h
  split at h
  · cases h
  split at h
  · split at h
    · injection h with h; rw [← h]; exact hs.2.2 _ (rd_mem41 (by omega) (by assumption))
    · cases h
  split at h
  · split at h
    · injection h with h; rw [← h]; exact hs.2.1 _ (rd_mem41 (by omega) (by assumption))
    · cases h
  split at h
  · split at h
    · injection h with h
      rw [← h, cntL_rep]
      have hm : rd_T59 sy n ∈ sy := by
        unfold rd_T59
        rw [List.getD_eq_getElem?_getD, List.getElem?_eq_getElem (by omega : n.toNat < sy.length)]
        exact List.getElem_mem _
      have := hs.1 _ hm
      omega
    · cases h
  · cases h
theorem ofT_cnt {sy : List S59} {fu pa : List S41} (hs : SmallP sy fu pa) {x : S44} {r : List S41} (h : ofT sy fu pa x = some r) : cntL r ≤ 1000 := by
  rw [ofT_eq] at h
  split at h
  · cases h
  · rename_i s hh
    split at h
    · cases h
    split at h
    · injection h with h
      rw [← h]
      have h1 := hdF_cnt hs hh
      have h2 := drop_cnt_le s x.f2.length
      omega
    · cases h
theorem eq_calls {l m : List S41} (hl : cntL l ≤ 1000) {w : World} {A : Option Addr} {c : Nat} {A' : Option Addr} {c' : Nat} (hr : Kd.C k41 w A l.length l) (hc : l.length ≤ c) (hr' : Kd.C k41 w A' m.length m) (hc' : m.length ≤ c') :
    Calls Try.prog 64 #[.agg #[.slice A l.length c], .agg #[.slice A' m.length c']] w fun e w' => e = .returned (.bool (eqL l m)) ∧ Below w.heap.size w w' := by
  obtain ⟨k, hk⟩ := (equal_ev _ l m (Nat.lt_succ_self _) hl).rounds
  exact virgationref01_Equal.calls k A c l A' c' m _ w hr hc hr' hc' hk
set_option maxHeartbeats 16000000 in
theorem of_calls (P : Nat → Prop) (A0 : Option Addr) (c0 : Nat) (l0 : List S59) (A1 : Option Addr) (c1 : Nat) (l1 : List S41) (A2 : Option Addr) (c2 : Nat) (l2 : List S41) (hsm : SmallP l0 l1 l2) (N : Nat) : ∀ (l : List S44), SizeOf.sizeOf l < N → ∀ (k n : Int) (A3 : Option Addr) (c3 : Nat) (w : World),
    Kd.C k59 w A0 l0.length l0 → Kd.V k41 41 w w.heap.size P (.slice A1 l1.length c1) l1 → Kd.V k41 41 w w.heap.size P (.slice A2 l2.length c2) l2 → Kd.C k44 w A3 l.length l → l.length ≤ c3 →
    Calls Try.prog 50 #[.agg #[.slice A0 l0.length c0, .slice A1 l1.length c1, .slice A2 l2.length c2], .agg #[.int .i64 k, .int .i64 n, .slice A3 l.length c3]] w fun e w' => ∃ v, e = .returned (.tuple #[.agg #[v], .bool (ofT l0 l1 l2 ⟨k, n, l⟩).isSome]) ∧ Kd.V k41 41 w' w.heap.size (fun q => P q ∨ w.heap.size ≤ q) v ((ofT l0 l1 l2 ⟨k, n, l⟩).getD []) ∧ Below w.heap.size w w' := by
  induction N with
  | zero => intro l h; omega
  | succ N ih =>
  intro l hN k n A3 c3 w hr0 h1 h2 hr3 hc3
  have hu105 := Try.underlying105
  have hu44 := Try.underlying44
  have hu41 := Try.underlying41
  have hlen : l.length ≤ 9223372036854775807 := hr3.2.1
  have HSM := Aside0.mk hsm
  have HR0 := Aside0.mk hr0
  have H1 := Aside0.mk h1
  have H2 := Aside0.mk h2
  have HR3 := Aside0.mk hr3
  have HC3 := Aside0.mk hc3
  have IH := Aside0.mk ih
  have HN := Aside0.mk hN
  clear hr0 h1 h2 hr3 hc3 ih hN hsm
  obtain ⟨R, hR⟩ : ∃ R, R = hdF l0 l1 l2 k n := ⟨_, rfl⟩
  have HR := Aside0.mk hR
  clear hR
  go_enter Try.func50, Try.ntmps50
  go_wp2_with (first
   | ((with_reducible refine gate_dst (N := 2) rfl ?_)
      refine box_event ?hg (N := 2) ?hd (cs := #[.slice A0 l0.length c0, .slice A1 l1.length c1, .slice A2 l2.length c2]) (t := 105) ?hr ?_
      (case hd => rfl)
      (case hg => rfl)
      (case hr => first | (go_simp; done) | (go_simp; rfl))
      intro g2 hg2 w2 hbox hb2
      have S22 := Aside0.mk hbox
      have HB2 := Aside0.mk hb2
      have hw2 : w.heap.size ≤ g2 := by omega
      clear hbox hb2 hg2)
   | ((with_reducible refine gate_dst (N := 3) rfl ?_)
      refine box_event ?hg (N := 3) ?hd (cs := #[.int .i64 k, .int .i64 n, .slice A3 l.length c3]) (t := 44) ?hr ?_
      (case hd => rfl)
      (case hg => rfl)
      (case hr => first | (go_simp; done) | (go_simp; rfl))
      intro g3 hg3 w3 hbox hb3
      have S23 := Aside0.mk (blk_below S22.out hb3)
      have S33 := Aside0.mk hbox
      have HB3 := Aside0.mk (below_step HB2.out hb3)
      clear hbox hb3 hg3 S22 HB2)
   | ((with_reducible refine gate_dst (N := 4) rfl ?_)
      refine box_event ?hg (N := 4) ?hd (cs := #[.slice none 0 0]) (t := 41) ?hr ?_
      (case hd => rfl)
      (case hg => rfl)
      (case hr => first | (go_simp; done) | (go_simp; rfl))
      intro g4 hg4 w4 hbox hb4
      have hw4 : w.heap.size ≤ g4 := by have := HB3.out.size; omega
      have S24 := Aside0.mk (blk_below S23.out hb4)
      have S34 := Aside0.mk (blk_below S33.out hb4)
      have S44 := Aside0.mk hbox
      have HB4 := Aside0.mk (below_step HB3.out hb4)
      have a0 : w4.cell? ⟨g2, 0, none⟩ = some (.slice A0 l0.length c0) := (blk_cell S24.out 0).trans rfl
      have a1 : w4.cell? ⟨g2, 1, none⟩ = some (.slice A1 l1.length c1) := (blk_cell S24.out 1).trans rfl
      have a2 : w4.cell? ⟨g2, 2, none⟩ = some (.slice A2 l2.length c2) := (blk_cell S24.out 2).trans rfl
      have b0 : w4.cell? ⟨g3, 0, none⟩ = some (.int .i64 k) := (blk_cell S34.out 0).trans rfl
      have b1 : w4.cell? ⟨g3, 1, none⟩ = some (.int .i64 n) := (blk_cell S34.out 1).trans rfl
      have b2 : w4.cell? ⟨g3, 2, none⟩ = some (.slice A3 l.length c3) := (blk_cell S34.out 2).trans rfl
      clear hbox hb4 hg4 S23 S33 HB3))
  have hc := head_calls (fun q => P q ∧ q < w.heap.size) A0 c0 l0 A1 c1 l1 A2 c2 l2 k n (.slice A3 l.length c3) w4 rfl (Kd.C_below HR0.out HB4.out) (Kd.V_below (Kd.V_bound H1.out) HB4.out) (Kd.V_below (Kd.V_bound H2.out) HB4.out) (fun x hx => by have := HSM.out.1 x hx; omega)
  rw [← HR.out] at hc
  (with_reducible refine hc.mono ?_)
  clear hc
  rintro e w5 ⟨v, rfl, hv, hb5⟩
  have hw45 := HB4.out.size
  have hlt4 := blk_lt S44.out
  have HV5 := Aside0.mk (Kd.V_mono (ok' := fun q => (P q ∨ w.heap.size ≤ q) ∧ q ≠ g4) hv (fun q hq => by
    rcases hq with hq | hq
    · exact ⟨.inl hq.1, by omega⟩
    · exact ⟨.inr (by omega), by omega⟩))
  have S25 := Aside0.mk (blk_below S24.out hb5)
  have S35 := Aside0.mk (blk_below S34.out hb5)
  have S45 := Aside0.mk (blk_below S44.out hb5)
  have HB5 := Aside0.mk (below_step HB4.out hb5)
  clear hv hb5 a0 a1 a2 b0 b1 b2 S24 S34 S44 HB4 hlt4 hw45
  have fin : ∀ (v : Value) (l : List S41) (wq : World), Below w.heap.size w wq → Kd.V k41 41 wq w.heap.size (fun q => (P q ∨ w.heap.size ≤ q) ∧ q ≠ g4) v l → Kd.V k41 41 (wq.setCell ⟨g4, 0, none⟩ v) w.heap.size (fun q => P q ∨ w.heap.size ≤ q) v l ∧ Below w.heap.size w (wq.setCell ⟨g4, 0, none⟩ v) := fun v l wq hb hv => ⟨Kd.V_mono (Kd.V_far (p := ⟨g4, 0, none⟩) hv (fun _ hk => hk.2) v) (fun _ hk => hk.1), below_set (g := g4) (j := 0) hb hw4⟩
  have FIN := Aside0.mk fin
  clear fin
  obtain ⟨As, cs, rfl⟩ := Kd.V_slice HV5.out
  obtain ⟨sl, hsl⟩ : ∃ sl, sl = (R.getD []).length := ⟨_, rfl⟩
  rw [← hsl] at HV5 ⊢
  have HSL := Aside0.mk hsl
  clear hsl
  have hcase : R = none ∨ (∃ s, R = some s ∧ s.length < l.length) ∨ (∃ s, R = some s ∧ ¬ s.length < l.length) := by
    cases R with
    | none => exact .inl rfl
    | some s =>
      by_cases h : s.length < l.length
      · exact .inr (.inl ⟨s, rfl, h⟩)
      · exact .inr (.inr ⟨s, rfl, h⟩)
  have NE := Aside0.mk (show R = none → ofT l0 l1 l2 ⟨k, n, l⟩ = none from fun h => by rw [ofT_eq]; show (match hdF l0 l1 l2 k n with | none => none | some s => _) = none; rw [← HR.out, h])
  have SE := Aside0.mk (show ∀ s, R = some s → ofT l0 l1 l2 ⟨k, n, l⟩ = if s.length < l.length then none else if ofL l0 l1 l2 l s = true then some (s.drop l.length) else none from fun s h => by rw [ofT_eq]; show (match hdF l0 l1 l2 k n with | none => none | some s => _) = _; rw [← HR.out, h])
  rcases hcase with h | ⟨s, h, hl⟩ | ⟨s, h, hl⟩
  all_goals subst h
  case' inl => have HE := Aside0.mk (NE.out rfl)
  case' inr.inl =>
    have HE := Aside0.mk ((SE.out s rfl).trans (if_pos hl))
    have b : (sl < l.length) = True := eq_true (by have : sl = s.length := HSL.out; omega)
  case' inr.inr => have b : (sl < l.length) = False := eq_false (by have : sl = s.length := HSL.out; omega)
  all_goals go_wp2_with (
       (with_reducible refine gate_dst (N := 6) rfl ?_)
       refine box_event ?hg (N := 6) ?hd (cs := #[.slice none 0 0]) (t := 41) ?hr ?_
       (case hd => rfl)
       (case hg => rfl)
       (case hr => first | (go_simp; done) | (go_simp; rfl))
       intro g6 hg6 w6 hbox hb6
       have hw6 : w.heap.size ≤ g6 := by have := HB5.out.size; omega
       have S66 := Aside0.mk (blk_put (cs' := #[.slice As sl cs]) hbox 0 (.slice As sl cs) rfl)
       have hne2 : g2 ≠ g6 := by have := blk_lt S25.out; omega
       have hne3 : g3 ≠ g6 := by have := blk_lt S35.out; omega
       have hne4 : g4 ≠ g6 := by have := blk_lt S45.out; omega
       have S26 := Aside0.mk (blk_far (p := ⟨g6, 0, none⟩) (blk_below S25.out hb6) hne2 (.slice As sl cs))
       have S36 := Aside0.mk (blk_far (p := ⟨g6, 0, none⟩) (blk_below S35.out hb6) hne3 (.slice As sl cs))
       have S46 := Aside0.mk (blk_far (p := ⟨g6, 0, none⟩) (blk_below S45.out hb6) hne4 (.slice As sl cs))
       have HB6 := Aside0.mk (below_set (g := g6) (j := 0) (v := .slice As sl cs) (below_step HB5.out hb6) hw6)
       have HV6 := Aside0.mk (Kd.V_below HV5.out (below_set (g := g6) (j := 0) (v := .slice As sl cs) hb6 (by omega)))
       have hcz := (blk_cell hbox 0).trans rfl
       have hfz := blk_frozen hbox 0
       have b2 := (blk_cell S36.out 2).trans rfl
       have d0 := (blk_cell S46.out 0).trans rfl
       have df := blk_frozen S46.out 0
       have e0 := (blk_cell S66.out 0).trans rfl
       clear hbox hb6 hg6 S25 S35 S45 HB5 HV5 hne2 hne3 hne4)
  rotate_left 1
  iterate 2
    refine bodyPost_ret (results_ct rfl _ _ g4 41 #[.slice none 0 0] (0, 0) _ rfl (blk_put (cs' := #[.slice none 0 0]) S46.out 0 _ rfl) Try.underlying41 rfl (by kernel_rfl)) rfl ?_
    rw [HE.out]
    exact ⟨_, rfl, FIN.out _ _ _ HB6.out (Kd.V_nil _ _ _ _ _)⟩
  have hsl : sl = s.length := HSL.out
  subst hsl
  have HV6' := Aside0.mk (show Kd.V k41 41 (w6.setCell ⟨g6, 0, none⟩ (.slice As s.length cs)) w.heap.size (fun q => (P q ∨ w.heap.size ≤ q) ∧ q ≠ g4) (.slice As s.length cs) s from HV6.out)
  clear HV6
  have HV6 := HV6'
  clear HV6'
  obtain ⟨r, hr⟩ : ∃ r, r = ofL l0 l1 l2 l s := ⟨_, rfl⟩
  have HE := Aside0.mk (show ofT l0 l1 l2 ⟨k, n, l⟩ = if r = true then some (s.drop l.length) else none from by rw [hr]; exact (SE.out s rfl).trans (if_neg hl))
  have Hr := Aside0.mk hr
  have Hl := Aside0.mk hl
  clear hr hl NE SE b b2 d0 df e0 hcz hfz HSL
  generalize w6.setCell ⟨g6, 0, none⟩ (.slice As s.length cs) = w7 at *
  have HR7 := Aside0.mk (Kd.C_below HR0.out HB6.out)
  have H17 := Aside0.mk (Kd.V_below (Kd.V_bound H1.out) HB6.out)
  have H27 := Aside0.mk (Kd.V_below (Kd.V_bound H2.out) HB6.out)
  have HR37 := Aside0.mk (Kd.C_below HR3.out HB6.out)
  clear HR0 H1 H2 HR3
  go_loopg [33] l.length (fun kq v33 wr => ∃ i : Nat, v33 = .int .i64 (i : Int) ∧ Aside0 (i + kq = l.length) ∧ Aside0 (r = ofL l0 l1 l2 (l.drop i) (s.drop i)) ∧ Aside0 (Below w7.heap.size w7 wr))
  case atStart => exact ⟨0, rfl, ⟨by omega⟩, Hr, ⟨Below.refl _ _⟩⟩
  case round =>
    obtain ⟨i, rfl, Hi, HL, HB⟩ := hrel
    clear Hr
    have HBw := Aside0.mk (below_step HB6.out HB.out)
    have S2 := Aside0.mk (blk_below S26.out HB.out)
    have S3 := Aside0.mk (blk_below S36.out HB.out)
    have S4 := Aside0.mk (blk_below S46.out HB.out)
    have S6 := Aside0.mk (blk_below S66.out HB.out)
    have HV := Aside0.mk (Kd.V_below HV6.out HB.out)
    by_cases hlt : i < l.length
    rotate_left
    · have hie : i = l.length := by have := Hi.out; omega
      have hr : r = true := by have := HL.out; rw [hie, List.drop_length] at this; exact this.trans (by rw [ofL])
      have he := HE.out
      rw [if_pos hr] at he
      have HE' := Aside0.mk he
      have b2 : wr.cell? ⟨g3, 2, none⟩ = some (.slice A3 l.length c3) := (blk_cell S3.out 2).trans rfl
      have d0 : wr.cell? ⟨g4, 0, none⟩ = some (.slice none 0 0) := (blk_cell S4.out 0).trans rfl
      have df := blk_frozen S4.out 0
      have e0 : wr.cell? ⟨g6, 0, none⟩ = some (.slice As s.length cs) := (blk_cell S6.out 0).trans rfl
      have b : (s.length < l.length) = False := eq_false Hl.out
      have p1 : (l.length ≤ s.length) = True := eq_true (by have := Hl.out; omega)
      clear he hr
      subst hie
      have hcap := (Kd.V_at HV.out).2.1
      have hcut : ∀ A', (if cs = l.length then As else As.map (·.add (l.length * 1))) = A' → Kd.V k41 41 wr w.heap.size (fun q => (P q ∨ w.heap.size ≤ q) ∧ q ≠ g4) (.slice A' (s.length - l.length) (cs - l.length)) (s.drop l.length) := by
        intro A' h
        have h2 := Kd.V_mk (d := k41) (e := 41) (base := w.heap.size) (c := cs - l.length) (by rw [List.length_drop]; omega) (Kd.F_cut (m := l.length) (c := cs) (Kd.V_F HV.out) (by have := Hl.out; omega) hcap)
        rw [List.length_drop] at h2
        rw [← h]
        exact h2
      have HCut := Aside0.mk hcut
      clear hcut hcap
      by_cases hcs : cs = l.length
      · go_wp2_with fail
        have hv := HCut.out As (if_pos hcs)
        rw [hcs, Nat.sub_self] at hv
        refine bodyPost_ret (results_ct rfl _ _ g4 41 #[.slice As (s.length - l.length) 0] (0, 0) _ rfl (blk_put (cs' := #[.slice As (s.length - l.length) 0]) S4.out 0 _ rfl) Try.underlying41 rfl (by kernel_rfl)) rfl ?_
        rw [HE'.out]
        exact ⟨_, rfl, FIN.out _ _ _ HBw.out hv⟩
      · go_wp2_with fail
        have hv := HCut.out _ (if_neg hcs)
        rw [Nat.mul_one] at hv
        refine bodyPost_ret (results_ct rfl _ _ g4 41 #[.slice (As.map (·.add l.length)) (s.length - l.length) (cs - l.length)] (0, 0) _ rfl (blk_put (cs' := #[.slice (As.map (·.add l.length)) (s.length - l.length) (cs - l.length)]) S4.out 0 _ rfl) Try.underlying41 rfl (by kernel_rfl)) rfl ?_
        rw [HE'.out]
        exact ⟨_, rfl, FIN.out _ _ _ HBw.out hv⟩
    obtain ⟨ad, A4, c4, rfl, hx1, hx2, hx3, hc4, hA4⟩ := at_T44 (Kd.C_below HR37.out HB.out) (i : Int) (by omega) (by omega)
    rw [Int.toNat_natCast] at hx1 hx2 hx3
    have HA4 := Aside0.mk hA4
    have Hc4 := Aside0.mk hc4
    have HNx := Aside0.mk (show SizeOf.sizeOf (rd_T44 l (i : Int)).f2 < N from by have := rd_T44_mem l i hlt; have := HN.out; omega)
    have HStep := Aside0.mk (HL.out.trans (ofL_step l0 l1 l2 l s i hlt))
    have p1 : (0 ≤ (i : Int)) = True := eq_true (by omega)
    have p2 : ((i : Int) < (l.length : Int)) = True := eq_true (by omega)
    have p3 : (i < l.length) = True := eq_true (by omega)
    have p4 : (i < s.length) = True := eq_true (by have := Hl.out; omega)
    clear hA4 hc4 HL
    generalize rd_T44 l (i : Int) = x at *
    have HEx := Aside0.mk (show ofT l0 l1 l2 ⟨x.f0, x.f1, x.f2⟩ = ofT l0 l1 l2 x from by cases x; rfl)
    go_wp2_with (
      (with_reducible refine gate_dst (N := 9) rfl ?_)
      refine box_event ?hg (N := 9) ?hd (cs := #[.int .i64 0, .int .i64 0, .slice none 0 0]) (t := 44) ?hr ?_
      (case hd => rfl)
      (case hg => rfl)
      (case hr => first | (go_simp; done) | (go_simp; rfl))
      intro gx hgx w6 hbox hb6
      have hgw : wr.heap.size ≤ gx := by omega
      have Hbw := Aside0.mk (below_set (g := gx) (j := 2) (v := .slice A4 x.f2.length c4) (below_set (g := gx) (j := 1) (v := .int .i64 x.f1) (below_set (g := gx) (j := 0) (v := .int .i64 x.f0) hb6 hgw) hgw) hgw)
      have hcz0 := (blk_cell hbox 0).trans rfl
      have hfz0 := blk_frozen hbox 0
      have hcz1 := (blk_cell hbox 1).trans rfl
      have hfz1 := blk_frozen hbox 1
      have hcz2 := (blk_cell hbox 2).trans rfl
      have hfz2 := blk_frozen hbox 2
      have Sx := Aside0.mk (blk_put (cs' := #[.int .i64 x.f0, .int .i64 x.f1, .slice A4 x.f2.length c4]) (blk_put (cs' := #[.int .i64 x.f0, .int .i64 x.f1, .slice none 0 0]) (blk_put (cs' := #[.int .i64 x.f0, .int .i64 0, .slice none 0 0]) hbox 0 (.int .i64 x.f0) rfl) 1 (.int .i64 x.f1) rfl) 2 (.slice A4 x.f2.length c4) rfl)
      have d0 := (blk_cell (blk_below S2.out Hbw.out) 0).trans rfl
      have d1 := (blk_cell (blk_below S2.out Hbw.out) 1).trans rfl
      have d2 := (blk_cell (blk_below S2.out Hbw.out) 2).trans rfl
      have e0 := (blk_cell Sx.out 0).trans rfl
      have e1 := (blk_cell Sx.out 1).trans rfl
      have e2 := (blk_cell Sx.out 2).trans rfl
      clear hbox hb6 hgx hgw hx1 hx2 hx3 Sx)
    clear hcz0 hcz1 hcz2 hfz0 hfz1 hfz2 d0 d1 d2 e0 e1 e2
    generalize (((w6.setCell ⟨gx, 0, none⟩ (.int .i64 x.f0)).setCell ⟨gx, 1, none⟩ (.int .i64 x.f1)).setCell ⟨gx, 2, none⟩ (.slice A4 x.f2.length c4)) = wq at *
    have HBq := Aside0.mk (below_step HB.out Hbw.out)
    (with_reducible refine (IH.out x.f2 HNx.out x.f0 x.f1 A4 c4 wq (Kd.C_below HR7.out HBq.out) (Kd.V_mono (Kd.V_below H17.out HBq.out) (fun _ h => h.1)) (Kd.V_mono (Kd.V_below H27.out HBq.out) (fun _ h => h.1)) (Kd.C_below HA4.out Hbw.out) Hc4.out).mono ?_)
    rintro e w8 ⟨v, rfl, hv8, hb8⟩
    rw [HEx.out] at hv8 ⊢
    have HB8 := Aside0.mk (below_step HBq.out hb8)
    have HV8 := Aside0.mk (Kd.V_bound hv8)
    clear hv8 hb8 Hbw HBq S2 S3 S4 S6 HV HBw HA4 Hc4 HNx HEx IH
    obtain ⟨Ay, cy, rfl⟩ := Kd.V_slice HV8.out
    obtain ⟨Y, hY⟩ : ∃ Y, Y = ofT l0 l1 l2 x := ⟨_, rfl⟩
    rw [← hY] at HV8 HStep ⊢
    have HY := Aside0.mk hY
    clear hY
    obtain ⟨m, hm⟩ : ∃ m, m = (Y.getD []).length := ⟨_, rfl⟩
    rw [← hm] at HV8 ⊢
    have HMm := Aside0.mk hm
    clear hm
    go_wp2_with (
      (with_reducible refine gate_dst (N := 10) rfl ?_)
      refine box_event ?hg (N := 10) ?hd (cs := #[.slice none 0 0]) (t := 41) ?hr ?_
      (case hd => rfl)
      (case hg => rfl)
      (case hr => first | (go_simp; done) | (go_simp; rfl))
      intro g10 hg10 wA hbox hbA
      have hb9 := below_set (g := g10) (j := 0) (v := .slice Ay m cy) hbA (by omega)
      have S10 := Aside0.mk (blk_put (cs' := #[.slice Ay m cy]) hbox 0 (.slice Ay m cy) rfl)
      have HB9 := Aside0.mk (below_step HB8.out hb9)
      have HV9 := Aside0.mk (Kd.V_below HV8.out hb9)
      have hcz := (blk_cell hbox 0).trans rfl
      have hfz := blk_frozen hbox 0
      clear hbox hbA hg10 hb9 HB8 HV8)
    clear hcz hfz
    generalize wA.setCell ⟨g10, 0, none⟩ (.slice Ay m cy) = w9 at *
    have HBw := Aside0.mk (below_step HB6.out HB9.out)
    have S4 := Aside0.mk (blk_below S46.out HB9.out)
    have S6 := Aside0.mk (blk_below S66.out HB9.out)
    have HV := Aside0.mk (Kd.V_below HV6.out HB9.out)
    have d0 : w9.cell? ⟨g4, 0, none⟩ = some (.slice none 0 0) := (blk_cell S4.out 0).trans rfl
    have df := blk_frozen S4.out 0
    have e0 : w9.cell? ⟨g6, 0, none⟩ = some (.slice As s.length cs) := (blk_cell S6.out 0).trans rfl
    have y0 : w9.cell? ⟨g10, 0, none⟩ = some (.slice Ay m cy) := (blk_cell S10.out 0).trans rfl
    cases Y with
    | none =>
      have hr : r = false := by have := HStep.out; simpa using this
      have HE' := Aside0.mk (show ofT l0 l1 l2 ⟨k, n, l⟩ = none from HE.out.trans (if_neg (by rw [hr]; decide)))
      clear hr
      go_quiet (fail)
      have HBn := Aside0.mk (pw_below_drewN HBw.out nq)
      have S4n := Aside0.mk (blk_drewN S4.out nq)
      clear d0 df e0 y0 S4 S6 HV HBw HB9 S10 HV9
      generalize w9.drewN nq = wn at *
      have d0 : wn.cell? ⟨g4, 0, none⟩ = some (.slice none 0 0) := (blk_cell S4n.out 0).trans rfl
      have df := blk_frozen S4n.out 0
      go_wp2_with fail
      refine bodyPost_ret (results_ct rfl _ _ g4 41 #[.slice none 0 0] (0, 0) _ rfl (blk_put (cs' := #[.slice none 0 0]) S4n.out 0 _ rfl) Try.underlying41 rfl (by kernel_rfl)) rfl ?_
      rw [HE'.out]
      exact ⟨_, rfl, FIN.out _ _ _ HBn.out (Kd.V_nil _ _ _ _ _)⟩
    | some y =>
      have hm : m = y.length := HMm.out
      subst hm
      have hcy := ofT_cnt HSM.out HY.out.symm
      obtain ⟨ads, Ae, ce, rfl, hxe, hve⟩ := V_at41 HV.out (i := (i : Int)) (by omega) (by have := Hl.out; omega)
      rw [Int.toNat_natCast] at hxe
      have p5 : ((i : Int) < (s.length : Int)) = True := eq_true (by have := Hl.out; omega)
      have HY9 := Aside0.mk (show y.length ≤ cy ∧ k41.C w9 Ay y.length y from (Kd.V_reads' HV9.out).2)
      have HVe := Aside0.mk (Kd.V_reads' hve).2
      have HCy := Aside0.mk hcy
      clear hve hcy HV9 HV
      generalize rd_T41 s (i : Int) = ys at *
      go_region_law
        (first
          | (go_simp
             go_at_call 64
             (with_reducible refine (eq_calls (l := y) (m := ys.f0) HCy.out (w := w9.drew) (Kd.C_below HY9.out.2 (below_drew (Below.refl _ _))) HY9.out.1 (Kd.C_below HVe.out.2 (below_drew (Below.refl _ _))) HVe.out.1).mono ?_)
             rintro e9 wB ⟨rfl, hbB⟩
             have HBB := Aside0.mk (below_step (below_drew HB9.out) hbB)
             clear hbB))
      all_goals (
        have HStep2 := Aside0.mk (show r = (eqL y ys.f0 && ofL l0 l1 l2 (l.drop (i + 1)) (s.drop (i + 1))) from HStep.out)
        clear HStep HCy HY9 HVe S4 S6 HB9 HBw S10 hxe y0 e0 d0 df
        generalize eqL y ys.f0 = q at *
        cases q with
        | true =>
          have HN2 := Aside0.mk (show r = ofL l0 l1 l2 (l.drop (i + 1)) (s.drop (i + 1)) from HStep2.out)
          clear HStep2
          go_wp2_with fail
          have hk := Hi.out
          obtain ⟨k1, rfl⟩ : ∃ k1, gk = k1 + 1 := ⟨gk - 1, by omega⟩
          go_roundg k1
          case measure => omega
          case rel => exact ⟨i + 1, by go_num, ⟨by omega⟩, HN2, HBB⟩
        | false =>
          have hr : r = false := HStep2.out
          have HE' := Aside0.mk (show ofT l0 l1 l2 ⟨k, n, l⟩ = none from HE.out.trans (if_neg (by rw [hr]; decide)))
          clear hr HStep2
          have S4B := Aside0.mk (blk_below S46.out HBB.out)
          have d0B : wB.cell? ⟨g4, 0, none⟩ = some (.slice none 0 0) := (blk_cell S4B.out 0).trans rfl
          have dfB := blk_frozen S4B.out 0
          go_wp2_with fail
          refine bodyPost_ret (results_ct rfl _ _ g4 41 #[.slice none 0 0] (0, 0) _ rfl (blk_put (cs' := #[.slice none 0 0]) S4B.out 0 _ rfl) Try.underlying41 rfl (by kernel_rfl)) rfl ?_
          rw [HE'.out]
          exact ⟨_, rfl, FIN.out _ _ _ (below_step HB6.out HBB.out) (Kd.V_nil _ _ _ _ _)⟩)
end Go.Proofs.Ytfhgoebgnilfaaa.I
namespace Go.Proofs.Ytfhgoebgnilfaaa.I
open Go.RowKit Go.Proofs.YtfhgoebgnilfaaaW.PrintWords Go.Proofs.YtfhgoebgnilfaaaW.PrintLast Go.Proofs.YtfhgoebgnilfaaaW.PrintMore
attribute [local go_sem] max2_int min2_int max_two min_two max_three min_three max_four min_four
set_option linter.unusedVariables false
set_option maxRecDepth 100000
set_option linter.unusedSimpArgs false
theorem cel1 {w : World} {p : Addr} {v : Value} (h : w.cell? p = some v) : ∀ o : Obj, (w.alloc o).cell? p = some v := fun o => cell_up (below_alloc (Below.refl _ _) o) h
theorem take46_snoc {l : List S46} {i : Nat} (h : i < l.length) : (l.take i).map (·.f1) ++ [⟨(rd_T46 l (i : Int)).f1.f0⟩] = (l.take (i + 1)).map (·.f1) := by
  have e1 : l.take (i + 1) = l.take i ++ [l[i]] := by rw [List.take_add_one, List.getElem?_eq_getElem h]; rfl
  have e2 : rd_T46 l (i : Int) = l[i] := by unfold rd_T46; rw [Int.toNat_natCast, List.getD_eq_getElem?_getD, List.getElem?_eq_getElem h]; rfl
  rw [e1, e2, List.map_append]
  cases h2 : l[i] with
  | mk a b c =>
    cases b
    rfl
set_option maxHeartbeats 16000000 in
theorem place_calls (A0 : Option Addr) (c0 : Nat) (l0 : List S59) (A1 : Option Addr) (c1 : Nat) (l1 : List S46) (j : Nat) (hj : j < l1.length) (w : World) (hr1 : Kd.C k46 w A1 l1.length l1) (hc1 : l1.length ≤ c1) (h64 : l1.length ≤ 64) :
    Calls Try.prog 51 #[.agg #[.slice A0 l0.length c0, .slice A1 l1.length c1], .int .i64 (j : Int)] w fun e w' => ∃ v A2 c2, e = .returned (.agg #[.slice A0 l0.length c0, v, .slice A2 (rd_T46 l1 (j : Int)).f1.f0.length c2]) ∧ Kd.V k41 41 w' w.heap.size (fun _ => True) v (l1.map (·.f1)) ∧ Kd.V k41 41 w' w.heap.size (fun _ => True) (.slice A2 (rd_T46 l1 (j : Int)).f1.f0.length c2) (rd_T46 l1 (j : Int)).f1.f0 ∧ Below w.heap.size w w' := by
  have hu105 := Try.underlying105
  have hu38 := Try.underlying38
  have hu46 := Try.underlying46
  have hu41 := Try.underlying41
  have hu44 := Try.underlying44
  obtain ⟨ad, A2, c2, A4, c4, rfl, hx0, hx1, hx2, hx3, hx4, hl2, hC2, hl4, hC4⟩ := at_T46 hr1 (j : Int) (by omega) (by omega)
  rw [Int.toNat_natCast] at hx1
  have HR1 := Aside0.mk hr1
  have HV2 := Aside0.mk (show Kd.V k41 41 w w.heap.size (fun _ => True) (.slice A2 (rd_T46 l1 (j : Int)).f1.f0.length c2) (rd_T46 l1 (j : Int)).f1.f0 from Kd.V_mk hl2 (Kd.F_mono (Kd.C_F k41_heap hC2) (fun _ _ => trivial)))
  have H64 := Aside0.mk h64
  have p1 : (0 ≤ (j : Int)) = True := eq_true (by omega)
  have p2 : ((j : Int) < (l1.length : Int)) = True := eq_true (by omega)
  have p3 : (j < l1.length) = True := eq_true (by omega)
  have HX1 := Aside0.mk hx1
  clear hr1 hx0 hx2 hx3 hx4 hl2 hC2 hl4 hC4 h64 hx1 hj
  generalize (rd_T46 l1 (j : Int)).f1.f0 = pa at *
  go_enter Try.func51, Try.ntmps51
  go_upto_region 1 with (first
   | ((with_reducible refine gate_dst (N := 2) rfl ?_)
      refine box_event ?hg (N := 2) ?hd (cs := #[.slice A0 l0.length c0, .slice (some ad) l1.length c1]) (t := 38) ?hr ?_
      (case hd => rfl)
      (case hg => rfl)
      (case hr => first | (go_simp; done) | (go_simp; rfl))
      intro g2 hg2 w2 hbox hb2
      have S22 := Aside0.mk hbox
      have HB2 := Aside0.mk hb2
      clear hbox hb2 hg2)
   | ((with_reducible refine gate_dst (N := 4) rfl ?_)
      refine box_event ?hg (N := 4) ?hd (cs := #[.slice none 0 0, .slice none 0 0, .slice none 0 0]) (t := 105) ?hr ?_
      (case hd => rfl)
      (case hg => rfl)
      (case hr => first | (go_simp; done) | (go_simp; rfl))
      intro g4 hg4 w4 hbox hb4
      have hw4 : w.heap.size ≤ g4 := by have := HB2.out.size; omega
      have S24 := Aside0.mk (blk_below S22.out hb4)
      have S44 := Aside0.mk hbox
      have HB4 := Aside0.mk (below_step HB2.out hb4)
      have a0 : w4.cell? ⟨g2, 0, none⟩ = some (.slice A0 l0.length c0) := (blk_cell S24.out 0).trans rfl
      have a1 : w4.cell? ⟨g2, 1, none⟩ = some (.slice (some ad) l1.length c1) := (blk_cell S24.out 1).trans rfl
      have x1 := cell_up HB4.out HX1.out
      have a0' := cel1 a0
      have a1' := cel1 a1
      have x1' := cel1 x1
      clear hbox hb4 hg4 S22 HB2))
  simp only [Act.put, List.setIfInBounds_toArray, List.set_cons_succ, List.set_cons_zero]
  go_cut [5] from 8 to 17 (fun v5 wc => v5 = .pointer (some ⟨w4.heap.size, 0, none⟩) ∧ wc = (w4.alloc (.cells #[.slice A0 l0.length c0, .slice none 0 0, .slice A2 pa.length c2] 105)).drew)
  case first =>
    go_region
    all_goals (go_wp2_with fail; go_meet; exact ⟨rfl, rfl⟩)
  case rest =>
    obtain ⟨rfl, rfl⟩ := hcut
    clear a0 a1 x1 a0' a1' x1'
    have hb5 : Below w4.heap.size w4 (w4.alloc (.cells #[.slice A0 l0.length c0, .slice none 0 0, .slice A2 pa.length c2] 105)).drew := below_drew (below_alloc (Below.refl _ _) _)
    have S5 := Aside0.mk (show (w4.alloc (.cells #[.slice A0 l0.length c0, .slice none 0 0, .slice A2 pa.length c2] 105)).drew.heap[w4.heap.size]? = some (.cells #[.slice A0 l0.length c0, .slice none 0 0, .slice A2 pa.length c2] 105 (0, 0)) from blk_drew (blk_new _ _))
    have HB5 := Aside0.mk (below_step HB4.out hb5)
    have S25 := Aside0.mk (blk_below S24.out hb5)
    have S45 := Aside0.mk (blk_below S44.out hb5)
    have hw5 : w.heap.size ≤ w4.heap.size := HB4.out.size
    have hn45 : g4 ≠ w4.heap.size := by have := blk_lt S44.out; omega
    clear hb5 S24 S44 HB4
    generalize (w4.alloc (.cells #[.slice A0 l0.length c0, .slice none 0 0, .slice A2 pa.length c2] 105)).drew = w5 at *
    generalize w4.heap.size = g5 at *
    have b1 : w5.cell? ⟨g2, 1, none⟩ = some (.slice (some ad) l1.length c1) := (blk_cell S25.out 1).trans rfl
    go_wp2_with fail
    clear b1
    go_loopg [21] l1.length (fun kq v21 wr => ∃ (i : Nat) (Af : Option Addr) (cf : Nat), v21 = .int .i64 (i : Int) ∧ Aside0 (i + kq = l1.length) ∧ Aside0 (Kd.N k41 41 wr w.heap.size (fun k => k ≠ g4 ∧ k ≠ g5) (.slice Af i cf) ((l1.take i).map (·.f1))) ∧ Aside0 (wr.heap[g5]? = some (.cells #[.slice A0 l0.length c0, .slice Af i cf, .slice A2 pa.length c2] 105 (0, 0))) ∧ Aside0 (wr.heap[g4]? = some (.cells #[.slice none 0 0, .slice none 0 0, .slice none 0 0] 105 (0, 0))) ∧ Aside0 (Below w.heap.size w wr))
    case atStart => exact ⟨0, none, 0, rfl, ⟨by omega⟩, ⟨Kd.N_nil _ _ _ _ _⟩, S5, S45, HB5⟩
    case round =>
      clear S5 S45 HB5 S25
      obtain ⟨i, Af, cf, rfl, Hi, HN, S5, S4, HB⟩ := hrel
      have h64' := H64.out
      by_cases hlt : i < l1.length
      rotate_left
      · have hie : i = l1.length := by have := Hi.out; omega
        subst hie
        have e0 : wr.cell? ⟨g5, 0, none⟩ = some (.slice A0 l0.length c0) := (blk_cell S5.out 0).trans rfl
        have e1 : wr.cell? ⟨g5, 1, none⟩ = some (.slice Af l1.length cf) := (blk_cell S5.out 1).trans rfl
        have e2 : wr.cell? ⟨g5, 2, none⟩ = some (.slice A2 pa.length c2) := (blk_cell S5.out 2).trans rfl
        have d0 : wr.cell? ⟨g4, 0, none⟩ = some (.slice none 0 0) := (blk_cell S4.out 0).trans rfl
        have d1 : wr.cell? ⟨g4, 1, none⟩ = some (.slice none 0 0) := (blk_cell S4.out 1).trans rfl
        have d2 : wr.cell? ⟨g4, 2, none⟩ = some (.slice none 0 0) := (blk_cell S4.out 2).trans rfl
        have f0 := blk_frozen S4.out 0
        have f1 := blk_frozen S4.out 1
        have f2 := blk_frozen S4.out 2
        go_wp2_with fail
        have Sz := blk_put (cs' := #[.slice A0 l0.length c0, .slice Af l1.length cf, .slice A2 pa.length c2]) (blk_put (cs' := #[.slice A0 l0.length c0, .slice Af l1.length cf, .slice none 0 0]) (blk_put (cs' := #[.slice A0 l0.length c0, .slice none 0 0, .slice none 0 0]) S4.out 0 (.slice A0 l0.length c0) rfl) 1 (.slice Af l1.length cf) rfl) 2 (.slice A2 pa.length c2) rfl
        refine bodyPost_ret (results_cell_row rfl _ _ g4 105 #[.slice A0 l0.length c0, .slice Af l1.length cf, .slice A2 pa.length c2] (0, 0) _ rfl Sz Try.underlying105 rfl (by kernel_rfl)) rfl ?_
        have hN := HN.out
        rw [List.take_length] at hN
        have hV := Kd.V_far (p := ⟨g4, 2, none⟩) (Kd.V_far (p := ⟨g4, 1, none⟩) (Kd.V_far (p := ⟨g4, 0, none⟩) (Kd.N_V (base' := w.heap.size) hN) (fun k hk => hk.1) (.slice A0 l0.length c0)) (fun k hk => hk.1) (.slice Af l1.length cf)) (fun k hk => hk.1) (.slice A2 pa.length c2)
        have hbz := below_set (g := g4) (j := 2) (v := .slice A2 pa.length c2) (below_set (g := g4) (j := 1) (v := .slice Af l1.length cf) (below_set (g := g4) (j := 0) (v := .slice A0 l0.length c0) HB.out hw4) hw4) hw4
        exact ⟨_, A2, c2, rfl, Kd.V_mono hV (fun _ _ => trivial), Kd.V_below HV2.out hbz, hbz⟩
      obtain ⟨ad', A3, c3, A4, c4, he, hx0, hx1, hx2, hx3, hx4, hl3, hC3, hl4, hC4⟩ := at_T46 HR1.out (i : Int) (by omega) (by omega)
      cases he
      replace hx0 := (HB.out.cell (World.block_lt_of_cell? w _ hx0)).trans hx0
      replace hx1 := (HB.out.cell (World.block_lt_of_cell? w _ hx1)).trans hx1
      replace hx2 := (HB.out.cell (World.block_lt_of_cell? w _ hx2)).trans hx2
      replace hx3 := (HB.out.cell (World.block_lt_of_cell? w _ hx3)).trans hx3
      replace hx4 := (HB.out.cell (World.block_lt_of_cell? w _ hx4)).trans hx4
      rw [Int.toNat_natCast] at hx0 hx1 hx2 hx3 hx4
      have HSN := Aside0.mk (take46_snoc hlt)
      have HF3 := Aside0.mk (Kd.C_F k41_heap hC3)
      have Hl3 := Aside0.mk hl3
      have q1 : (0 ≤ (i : Int)) = True := eq_true (by omega)
      have q2 : ((i : Int) < (l1.length : Int)) = True := eq_true (by omega)
      have q3 : (i < l1.length) = True := eq_true (by omega)
      clear hC3 hl4 hC4 hl3
      generalize rd_T46 l1 (i : Int) = x at *
      go_wp2_with (first
        | ((with_reducible refine gate_dst (N := 7) rfl ?_)
           refine box_event ?hg (N := 7) ?hd (cs := #[.string (⟨#[]⟩ : ByteArray), .slice none 0 0, .int .i64 0, .int .i64 0, .slice none 0 0]) (t := 46) ?hr ?_
           (case hd => rfl)
           (case hg => rfl)
           (case hr => first | (go_simp; done) | (go_simp; rfl))
           intro gi hgi w6 hbox hb6
           have hgw : wr.heap.size ≤ gi := by omega
           have Hbw := Aside0.mk (below_set (g := gi) (j := 4) (v := .slice A4 x.f2.f2.length c4) (below_set (g := gi) (j := 3) (v := .int .i64 x.f2.f1) (below_set (g := gi) (j := 2) (v := .int .i64 x.f2.f0) (below_set (g := gi) (j := 1) (v := .slice A3 x.f1.f0.length c3) (below_set (g := gi) (j := 0) (v := .string x.f0) hb6 hgw) hgw) hgw) hgw) hgw)
           have Hgi := Aside0.mk (blk_put (cs' := #[.string x.f0, .slice A3 x.f1.f0.length c3, .int .i64 x.f2.f0, .int .i64 x.f2.f1, .slice A4 x.f2.f2.length c4]) (blk_put (cs' := #[.string x.f0, .slice A3 x.f1.f0.length c3, .int .i64 x.f2.f0, .int .i64 x.f2.f1, .slice none 0 0]) (blk_put (cs' := #[.string x.f0, .slice A3 x.f1.f0.length c3, .int .i64 x.f2.f0, .int .i64 0, .slice none 0 0]) (blk_put (cs' := #[.string x.f0, .slice A3 x.f1.f0.length c3, .int .i64 0, .int .i64 0, .slice none 0 0]) (blk_put (cs' := #[.string x.f0, .slice none 0 0, .int .i64 0, .int .i64 0, .slice none 0 0]) hbox 0 (.string x.f0) rfl) 1 (.slice A3 x.f1.f0.length c3) rfl) 2 (.int .i64 x.f2.f0) rfl) 3 (.int .i64 x.f2.f1) rfl) 4 (.slice A4 x.f2.f2.length c4) rfl)
           have hcz0 := (blk_cell hbox 0).trans rfl
           have hfz0 := blk_frozen hbox 0
           have hcz1 := (blk_cell hbox 1).trans rfl
           have hfz1 := blk_frozen hbox 1
           have hcz2 := (blk_cell hbox 2).trans rfl
           have hfz2 := blk_frozen hbox 2
           have hcz3 := (blk_cell hbox 3).trans rfl
           have hfz3 := blk_frozen hbox 3
           have hcz4 := (blk_cell hbox 4).trans rfl
           have hfz4 := blk_frozen hbox 4
           have m1 := (blk_cell Hgi.out 1).trans rfl
           have m5 := (blk_cell (blk_below S5.out Hbw.out) 1).trans rfl
           clear hbox hb6 hgi hgw)
        | (at_builtin; refine holdX ?_))
      unfold HoldX
      clear hcz0 hcz1 hcz2 hcz3 hcz4 hfz0 hfz1 hfz2 hfz3 hfz4 m1 m5 hx0 hx1 hx2 hx3 hx4
      have hs : (((((w6.setCell ⟨gi, 0, none⟩ (.string x.f0)).setCell ⟨gi, 1, none⟩ (.slice A3 x.f1.f0.length c3)).setCell ⟨gi, 2, none⟩ (.int .i64 x.f2.f0)).setCell ⟨gi, 3, none⟩ (.int .i64 x.f2.f1)).setCell ⟨gi, 4, none⟩ (.slice A4 x.f2.f2.length c4)).heap.size = w6.heap.size := by simp only [World.size_setCell]
      rw [← hs]
      clear hs
      generalize (((((w6.setCell ⟨gi, 0, none⟩ (.string x.f0)).setCell ⟨gi, 1, none⟩ (.slice A3 x.f1.f0.length c3)).setCell ⟨gi, 2, none⟩ (.int .i64 x.f2.f0)).setCell ⟨gi, 3, none⟩ (.int .i64 x.f2.f1)).setCell ⟨gi, 4, none⟩ (.slice A4 x.f2.f2.length c4)) = wq at *
      have HBq := Aside0.mk (below_step HB.out Hbw.out)
      have HNq := Aside0.mk (Kd.N_below HN.out Hbw.out)
      have S5q := Aside0.mk (blk_below S5.out Hbw.out)
      have S4q := Aside0.mk (blk_below S4.out Hbw.out)
      clear Hbw HN S5 S4 HB Hgi
      refine Kd.N_append k41 (w0 := w) w.heap.size rfl (.tmp 26) (.tmp 29) 31 41 (.agg #[.slice none 0 0]) 24 rfl Try.underlying31 infoS41 rfl (by decide) (by omega) (.slice Af i cf) ((l1.take i).map (·.f1)) ⟨x.f1.f0⟩ [.slice A3 x.f1.f0.length c3] (fun k => k ≠ g4 ∧ k ≠ g5) (fun k => k < w.heap.size) rfl rfl (k41_mkF _ _ (⟨x.f1.f0⟩ : S41) Hl3.out (Kd.F_below HF3.out HBq.out)) (fun k hk => ⟨⟨by omega, by omega⟩, fun e => by have := Kd.N_base HNq.out k e.symm; omega⟩) (fun k hk => by have := blk_lt S4q.out; have := blk_lt S5q.out; exact ⟨by omega, by omega⟩) HNq.out HBq.out HBq.out.size (by rw [List.length_map, List.length_take]; have := H64.out; omega) ?_
      intro v2 w7 hn7 hb7 hg7 hat
      rw [HSN.out] at hn7
      obtain ⟨A5, c5, e2⟩ := Kd.N_slice hn7
      rw [List.length_map, List.length_take, Nat.min_eq_left (by omega)] at e2
      subst e2
      have HN7 := Aside0.mk hn7
      have HB7 := Aside0.mk hb7
      have S57 := Aside0.mk (blk_grown S5q.out hg7 (Kd.N_away HNq.out (fun k hk => hk.2)))
      have S47 := Aside0.mk (blk_grown S4q.out hg7 (Kd.N_away HNq.out (fun k hk => hk.1)))
      have m5 : w7.cell? ⟨g5, 1, none⟩ = some (.slice Af i cf) := (blk_cell S57.out 1).trans rfl
      have f5 := blk_frozen S57.out 1
      clear hn7 hb7 hg7 hat HNq S5q S4q HBq HSN HF3 Hl3
      go_wp2_with fail
      have HN8 := Aside0.mk (Kd.N_far (p := ⟨g5, 1, none⟩) HN7.out (fun k hk => hk.2) (.slice A5 (i + 1) c5))
      have HB8 := Aside0.mk (below_set (g := g5) (j := 1) (v := .slice A5 (i + 1) c5) HB7.out hw5)
      have S58 := Aside0.mk (blk_put (cs' := #[.slice A0 l0.length c0, .slice A5 (i + 1) c5, .slice A2 pa.length c2]) S57.out 1 (.slice A5 (i + 1) c5) rfl)
      have S48 := Aside0.mk (blk_far (p := ⟨g5, 1, none⟩) S47.out hn45 (.slice A5 (i + 1) c5))
      have hk := Hi.out
      obtain ⟨k1, rfl⟩ : ∃ k1, gk = k1 + 1 := ⟨gk - 1, by omega⟩
      go_roundg k1
      case measure => omega
      case rel => exact ⟨i + 1, A5, c5, by go_num, ⟨by omega⟩, HN8, S58, S48, HB8⟩
end Go.Proofs.Ytfhgoebgnilfaaa.I
namespace Go.Proofs.Ytfhgoebgnilfaaa.I
open Go.RowKit Go.Proofs.YtfhgoebgnilfaaaW.PrintWords Go.Proofs.YtfhgoebgnilfaaaW.PrintLast Go.Proofs.YtfhgoebgnilfaaaW.PrintMore
attribute [local go_sem] max2_int min2_int max_two min_two max_three min_three max_four min_four
set_option linter.unusedVariables false
set_option maxRecDepth 100000
set_option linter.unusedSimpArgs false
/-- A function of a scheme, beside its sort's meaning. -/
def funOk (f : S46) : Bool := nameOk f.f0 && (isok f.f1.f0 && !big f.f2)
def funsL : List S46 → List ByteArray → Bool
  | [], _ => true
  | f :: fs, L => (funOk f && !isIn L f.f0) && funsL fs (L ++ [f.f0])
def bodiesL (sy : List S59) (fu : List S41) : List S46 → Bool
  | [] => true
  | f :: fs => (match ofT sy fu f.f1.f0 f.f2 with
    | none => false
    | some s => decide (s.length = 0)) && bodiesL sy fu fs
def names46 (l : List S46) : List ByteArray := l.map (fun x => x.f0)
def schB (sy : List S59) (fs : List S46) : Bool := (symsL sy [] && decide (sy.length ≤ 24)) && ((decide (1 ≤ fs.length) && decide (fs.length ≤ 64)) && (funsL fs [] && (decide ((rd_T46 fs 0).f1.f0.length = 0) && bodiesL sy (fs.map (·.f1)) fs)))
theorem rd_T46_drop (l : List S46) (i : Nat) (h : i < l.length) : l.drop i = rd_T46 l (i : Int) :: l.drop (i + 1) := by
  unfold rd_T46
  rw [Int.toNat_natCast, List.getD_eq_getElem?_getD, List.getElem?_eq_getElem h, List.drop_eq_getElem_cons h]; rfl
theorem rd_T46_take (l : List S46) (i : Nat) (h : i < l.length) : names46 (l.take i) ++ [(rd_T46 l (i : Int)).f0] = names46 (l.take (i + 1)) := by
  unfold rd_T46 names46
  rw [Int.toNat_natCast, List.getD_eq_getElem?_getD, List.getElem?_eq_getElem h, List.take_add_one, List.getElem?_eq_getElem h, List.map_append]; rfl
theorem syms_calls {l : List S59} {w : World} {A : Option Addr} {c : Nat} (hr : Kd.C k59 w A l.length l) (hc : l.length ≤ c) :
    Calls Try.prog 32 #[.slice A l.length c] w fun e w' => e = .returned (.bool (symsL l [] && decide (l.length ≤ 24))) ∧ Below w.heap.size w w' := by
  obtain ⟨k, hk⟩ := (symbols_ev l).rounds
  exact virgationref02_Symbols.calls k A c l _ w hr hc hk
theorem name_calls (s : ByteArray) (w : World) : Calls Try.prog 33 #[.string s] w fun e w' => e = .returned (.bool (nameOk s)) ∧ Below w.heap.size w w' := by
  obtain ⟨k, hk⟩ := (refname_ev s).rounds
  refine (virgationref02_Name.calls k s _ w hk).mono ?_
  rintro e w' ⟨h1, h2⟩
  exact ⟨h1, drawn_below h2⟩
theorem isok_calls {l : List S41} {w : World} {A : Option Addr} {c : Nat} (hr : Kd.C k41 w A l.length l) (hc : l.length ≤ c) :
    Calls Try.prog 17 #[.agg #[.slice A l.length c]] w fun e w' => e = .returned (.bool (isok l)) ∧ Below w.heap.size w w' := by
  obtain ⟨k, hk⟩ := (is_ev l).rounds
  exact virgationref01_Is.calls k A c l _ w hr hc hk
theorem tnodes_calls (a b : Int) {l : List S44} {w : World} {A : Option Addr} {c : Nat} (hr : Kd.C k44 w A l.length l) (hc : l.length ≤ c) :
    Calls Try.prog 34 #[.agg #[.int .i64 a, .int .i64 b, .slice A l.length c], .int .i64 400] w fun e w' => e = .returned (.int .i64 (min (1 + tcntL l) 401)) ∧ Below w.heap.size w w' := by
  obtain ⟨k, hk⟩ := (tnodes_ev _ a b l 400 (Nat.lt_succ_self _) (by omega) (by omega)).rounds
  exact virgationref02_Nodes.calls k a b A c l 400 _ w hr hc hk
theorem tdepth_calls (a b : Int) {l : List S44} (hl : tcntL l ≤ 1000) {w : World} {A : Option Addr} {c : Nat} (hr : Kd.C k44 w A l.length l) (hc : l.length ≤ c) :
    Calls Try.prog 35 #[.agg #[.int .i64 a, .int .i64 b, .slice A l.length c]] w fun e w' => e = .returned (.int .i64 (1 + tdepL l)) ∧ Below w.heap.size w w' := by
  obtain ⟨k, hk⟩ := (tdepth_ev _ a b l (Nat.lt_succ_self _) hl).rounds
  exact virgationref02_Depth.calls k a b A c l _ w hr hc hk
theorem symsL_ranks : ∀ (l : List S59) (L : List ByteArray), symsL l L = true → ∀ x ∈ l, 0 ≤ x.f1 ∧ x.f1 ≤ 4
  | [], _, _, x, hx => by cases hx
  | y :: ys, L, h, x, hx => by
    unfold symsL at h
    split at h
    · cases h
    · rename_i hb
      rcases List.mem_cons.1 hx with e | hx
      · subst e
        unfold symBad at hb
        simp only [Bool.or_eq_true, Bool.not_eq_true', decide_eq_true_eq, not_or] at hb
        omega
      · exact symsL_ranks ys _ h x hx
theorem funsL_all : ∀ (l : List S46) (L : List ByteArray), funsL l L = true → ∀ x ∈ l, funOk x = true
  | [], _, _, x, hx => by cases hx
  | y :: ys, L, h, x, hx => by
    unfold funsL at h
    simp only [Bool.and_eq_true] at h
    rcases List.mem_cons.1 hx with e | hx
    · subst e; exact h.1.1
    · exact funsL_all ys _ h.2 x hx
theorem drop41_small {l : List S41} (h : cntL l ≤ 1000) : ∀ x ∈ l, cntL x.f0 ≤ 1000 := by
  induction l with
  | nil => intro x hx; cases hx
  | cons y ys ih =>
    intro x hx
    have h1 := cnt_f0 y
    have h2 := cntL_ge ys
    have h3 := cntL_ge y.f0
    simp only [cntL] at h
    rcases List.mem_cons.1 hx with e | hx
    · subst e; omega
    · exact ih (by omega) x hx
theorem small_of {sy : List S59} {fs : List S46} (h1 : symsL sy [] = true) (h2 : funsL fs [] = true) {f : S46} (hf : f ∈ fs) : SmallP sy (fs.map (·.f1)) f.f1.f0 := by
  have hk : ∀ x ∈ fs, cntL x.f1.f0 ≤ 59 := fun x hx => by
    have := funsL_all fs [] h2 x hx
    unfold funOk at this
    simp only [Bool.and_eq_true] at this
    exact isok_cnt this.2.1
  refine ⟨fun x hx => by have := symsL_ranks sy [] h1 x hx; omega, fun x hx => ?_, drop41_small (by have := hk f hf; omega)⟩
  obtain ⟨y, hy, rfl⟩ := List.mem_map.1 hx
  have := hk y hy
  omega
theorem of_calls2 (A0 : Option Addr) (c0 : Nat) (l0 : List S59) (A1 : Option Addr) (c1 nf : Nat) (l1 : List S41) (A2 : Option Addr) (c2 : Nat) (l2 : List S41) (hnf : l1.length = nf) (hsm : SmallP l0 l1 l2) (t : S44) (A3 : Option Addr) (c3 : Nat) (w : World)
    (h0 : Kd.C k59 w A0 l0.length l0) (h1 : Kd.V k41 41 w w.heap.size (fun _ => True) (.slice A1 nf c1) l1) (h2 : Kd.V k41 41 w w.heap.size (fun _ => True) (.slice A2 l2.length c2) l2) (h3 : Kd.C k44 w A3 t.f2.length t.f2) (hc3 : t.f2.length ≤ c3) :
    Calls Try.prog 50 #[.agg #[.slice A0 l0.length c0, .slice A1 nf c1, .slice A2 l2.length c2], .agg #[.int .i64 t.f0, .int .i64 t.f1, .slice A3 t.f2.length c3]] w fun e w' => ∃ Av cv, e = .returned (.tuple #[.agg #[.slice Av ((ofT l0 l1 l2 t).getD []).length cv], .bool (ofT l0 l1 l2 t).isSome]) ∧ Below w.heap.size w w' := by
  subst hnf
  have e : (⟨t.f0, t.f1, t.f2⟩ : S44) = t := by cases t; rfl
  have h := of_calls (fun _ => True) A0 c0 l0 A1 c1 l1 A2 c2 l2 hsm _ t.f2 (Nat.lt_succ_self _) t.f0 t.f1 A3 c3 w h0 h1 h2 h3 hc3
  rw [e] at h
  refine h.mono ?_
  rintro e w' ⟨v, rfl, hv, hb⟩
  obtain ⟨A, c, rfl⟩ := Kd.V_slice hv
  exact ⟨A, c, rfl, hb⟩
theorem bodiesL_drop {sy : List S59} {fu : List S41} {l : List S46} {i : Nat} (h : i < l.length) : bodiesL sy fu (l.drop i) = ((match ofT sy fu (rd_T46 l (i : Int)).f1.f0 (rd_T46 l (i : Int)).f2 with
    | none => false
    | some s => decide (s.length = 0)) && bodiesL sy fu (l.drop (i + 1))) := by rw [rd_T46_drop l i h, bodiesL]
end Go.Proofs.Ytfhgoebgnilfaaa.I
namespace Go.Proofs.Ytfhgoebgnilfaaa.I
open Go.RowKit
set_option linter.unusedVariables false
set_option linter.unusedSimpArgs false
/-- A sort. -/
def sS (t : KT) : S41 := ⟨toS t⟩
theorem toS_ars : ∀ vs : List KT, toS (ars vs .o) = vs.map sS
  | [] => rfl
  | v :: vs => by rw [ars, toS, toS_ars vs]; rfl
theorem toS_rep (n : Nat) : toS (ars (List.replicate n .o) .o) = List.replicate n z41 := by
  rw [toS_ars, List.map_replicate]; rfl
theorem rd_map (l : List KT) (n : Int) (t : KT) (h : l[n.toNat]? = some t) (h0 : 0 ≤ n) : n < ((l.map sS).length : Int) ∧ (rd_T41 (l.map sS) n).f0 = toS t := by
  obtain ⟨hl, he⟩ := List.getElem?_eq_some_iff.1 h
  refine ⟨by rw [List.length_map]; omega, ?_⟩
  unfold rd_T41
  rw [List.getD_eq_getElem?_getD, List.getElem?_map, h]
  rfl
theorem hd_of {sy : List S59} {G vs : List KT} {k n : Int} {t : KT} (h : hdG sy G vs k n = some t) (hk : k ≤ 2) (hk0 : 0 ≤ k) : hdF sy (G.map sS) (vs.map sS) k n = some (toS t) := by
  unfold hdG at h
  unfold hdF
  split at h
  · cases h
  · rename_i hn
    rw [if_neg hn]
    split at h
    · rename_i h0
      obtain ⟨h1, h2⟩ := rd_map vs n t h (by omega)
      rw [if_pos h0, if_pos h1, h2]
    · rename_i h0
      rw [if_neg h0]
      split at h
      · rename_i h1
        obtain ⟨h2, h3⟩ := rd_map G n t h (by omega)
        rw [if_pos h1, if_pos h2, h3]
      · rename_i h1
        obtain ⟨x, hx, rfl⟩ := Option.map_eq_some_iff.1 h
        obtain ⟨hl, he⟩ := List.getElem?_eq_some_iff.1 hx
        rw [if_neg h1, if_pos (by omega), if_pos (by omega), toS_rep]
        have : rd_T59 sy n = x := by unfold rd_T59; rw [List.getD_eq_getElem?_getD, hx]; rfl
        rw [this]
mutual
theorem ofT_ty {sy : List S59} {G vs : List KT} {p f s : Int} : ∀ (x : S44) (t : KT), knownS x p f s = true → Ty (hdG sy G vs) x t → ofT sy (G.map sS) (vs.map sS) x = some (toS t)
  | ⟨k, n, l⟩, t, hk, h => by
    unfold Ty at h
    obtain ⟨t0, h0, h1⟩ := h
    unfold knownS at hk
    simp only [Bool.and_eq_true] at hk
    have hK : 0 ≤ k ∧ k ≤ 2 := by
      have := hk.1.1
      unfold isK at this
      have := of_decide_eq_true this
      omega
    obtain ⟨a, b, c⟩ := ofL_ty l t0 t hk.2 h1
    rw [ofT, hd_of h0 hK.2 hK.1]
    show (if (toS t0).length < l.length then none else if ofL sy (G.map sS) (vs.map sS) l (toS t0) = true then some ((toS t0).drop l.length) else none) = some (toS t)
    rw [if_neg (by omega), if_pos a, c]
theorem ofL_ty {sy : List S59} {G vs : List KT} {p f s : Int} : ∀ (l : List S44) (t0 t : KT), knownL l p f s = true → TyL (hdG sy G vs) t0 l t → ofL sy (G.map sS) (vs.map sS) l (toS t0) = true ∧ l.length ≤ (toS t0).length ∧ (toS t0).drop l.length = toS t
  | [], t0, t, _, h => by
    unfold TyL at h
    subst h
    exact ⟨by rw [ofL], Nat.zero_le _, rfl⟩
  | x :: xs, t0, t, hk, h => by
    unfold TyL at h
    obtain ⟨a, b, rfl, h1, h2⟩ := h
    unfold knownL at hk
    simp only [Bool.and_eq_true] at hk
    have e1 := ofT_ty x a hk.1 h1
    obtain ⟨e2, e3, e4⟩ := ofL_ty xs b t hk.2 h2
    refine ⟨?_, ?_, ?_⟩
    · rw [ofL, e1]
      show (eqL (toS a) (toS a) && ofL sy (G.map sS) (vs.map sS) xs (toS b)) = true
      rw [eqL_refl, e2]
      rfl
    · rw [toS, List.length_cons, List.length_cons]; omega
    · rw [toS, List.length_cons, List.drop_succ_cons]; exact e4
end
/-- The scheme that is found has its functions' sorts. -/
theorem bodies_ty {sy : List S59} {G : List KT} {nf ns : Int} : ∀ (As : List (List KT)) (l : List S48), As.length = l.length → (∀ x ∈ l, knownS x.f2 x.f1 nf ns = true) → AllT sy G As l → bodiesL sy (G.map sS) (mkFuns l ((gam As).map sS)) = true
  | [], [], _, _, _ => rfl
  | [], _ :: _, h, _, _ => by cases h
  | _ :: _, [], h, _, _ => by cases h
  | vs :: As, x :: xs, h, hk, ht => by
    unfold AllT at ht
    have e1 := ofT_ty x.f2 .o (hk x List.mem_cons_self) ht.1
    have e2 := bodies_ty As xs (by simpa using h) (fun y hy => hk y (List.mem_cons_of_mem _ hy)) ht.2
    show bodiesL sy (G.map sS) (⟨x.f0, sS (ars vs .o), x.f2⟩ :: mkFuns xs ((gam As).map sS)) = true
    rw [bodiesL]
    show ((match ofT sy (G.map sS) (toS (ars vs .o)) x.f2 with | none => false | some s => decide (s.length = 0)) && bodiesL sy (G.map sS) (mkFuns xs ((gam As).map sS))) = true
    rw [toS_ars, e1, e2]
    rfl
theorem mkFuns_sorts : ∀ (l : List S48) (out : List S41), l.length = out.length → (mkFuns l out).map (·.f1) = out
  | [], [], _ => rfl
  | [], _ :: _, h => by cases h
  | _ :: _, [], h => by cases h
  | x :: xs, o :: os, h => by
    show o :: (mkFuns xs os).map (·.f1) = o :: os
    rw [mkFuns_sorts xs os (by simpa using h)]
theorem good_ok {t : KT} (h : goodB t = true) : isok (toS t) = true := by
  unfold goodB at h
  simp only [Bool.and_eq_true, decide_eq_true_eq] at h
  have h2 := h.2
  rw [check_eq] at h2
  by_cases hi : isok (toS t) = true
  · exact hi
  · rw [if_neg hi] at h2; cases h2
theorem funs_ok {nf ns : Int} : ∀ (l : List S48) (G : List KT) (L : List ByteArray), l.length = G.length → looseL l nf ns L = true → G.all goodB = true → funsL (mkFuns l (G.map sS)) L = true
  | [], [], _, _, _, _ => rfl
  | [], _ :: _, _, h, _, _ => by cases h
  | _ :: _, [], _, h, _, _ => by cases h
  | x :: xs, t :: ts, L, hl, h, hg => by
    unfold looseL at h
    rw [List.all_cons, Bool.and_eq_true] at hg
    split at h
    · cases h
    · rename_i hb
      have e := funs_ok xs ts (L ++ [x.f0]) (by simpa using hl) h hg.2
      show funsL (⟨x.f0, sS t, x.f2⟩ :: mkFuns xs (ts.map sS)) L = true
      rw [funsL]
      have hb2 : looseBad x nf ns L = false := by simpa using hb
      rw [loose_eq] at hb2
      simp only [Bool.or_eq_false_iff, Bool.not_eq_false'] at hb2
      obtain ⟨⟨n1, n2, n3, n4, n5⟩, n6⟩ := hb2
      show ((funOk ⟨x.f0, sS t, x.f2⟩ && !isIn L x.f0) && funsL (mkFuns xs (ts.map sS)) (L ++ [x.f0])) = true
      rw [e, n6]
      unfold funOk
      show (((nameOk x.f0 && (isok (toS t) && !big x.f2)) && true) && true) = true
      rw [n1, good_ok hg.1, n4]
      rfl
/-- The scheme that is found is valid. -/
theorem found_ok {sy : List S59} {l : List S48} {As : List (List KT)} (hc : chkF sy l = some 0) (ht : Typed sy l As) (hg : (gam As).all goodB = true) : schB sy (mkFuns l ((gam As).map sS)) = true := by
  obtain ⟨h1, h2, h3, h4, h5⟩ := fCheck_ok hc
  have hz : (rd_T48 l 0).f1 = 0 ∧ looseL l (l.length : Int) (sy.length : Int) [] = true := by
    unfold chkF at hc
    injection hc with hc
    split at hc
    · cases hc
    split at hc
    · cases hc
    rename_i h6
    split at hc
    · rename_i h7
      refine ⟨?_, h7⟩
      by_cases h : (rd_T48 l 0).f1 = 0
      · exact h
      · exact absurd (.inr (.inr h)) h6
    · cases hc
  have hl : l.length = As.length := by have := congrArg List.length ht.1; rw [List.length_map, List.length_map] at this; exact this.symm
  have hlg : l.length = (gam As).length := by unfold gam; rw [List.length_map]; exact hl
  have hlm : l.length = ((gam As).map sS).length := by rw [List.length_map]; exact hlg
  have hfl : (mkFuns l ((gam As).map sS)).length = l.length := by unfold mkFuns; rw [List.length_zipWith, ← hlm]; exact Nat.min_self _
  have e1 := funs_ok l (gam As) [] hlg hz.2 hg
  have e2 := bodies_ty (sy := sy) (G := gam As) As l hl.symm (looseL_known l _ _ [] hz.2) ht.2
  have e3 : (rd_T46 (mkFuns l ((gam As).map sS)) 0).f1.f0.length = 0 := by
    cases l with
    | nil => exact absurd h3 (by simp)
    | cons x xs =>
      cases As with
      | nil => cases hl
      | cons vs Bs =>
        show (toS (ars vs .o)).length = 0
        rw [toS_ars, List.length_map]
        have e := ht.1
        rw [List.map_cons, List.map_cons] at e
        injection e with e _
        rw [e]
        have h0 := hz.1
        show x.f1.toNat = 0
        have : x.f1 = 0 := h0
        omega
  unfold schB
  rw [mkFuns_sorts l _ hlm, e2, e1, h1, decide_eq_true h2, hfl, decide_eq_true (by omega : 1 ≤ l.length), decide_eq_true h4, decide_eq_true e3]
  rfl
end Go.Proofs.Ytfhgoebgnilfaaa.I
namespace Go.Proofs.Ytfhgoebgnilfaaa.I
open Go.RowKit Go.Proofs.YtfhgoebgnilfaaaW.PrintWords Go.Proofs.YtfhgoebgnilfaaaW.PrintLast Go.Proofs.YtfhgoebgnilfaaaW.PrintMore
attribute [local go_sem] max2_int min2_int max_two min_two max_three min_three max_four min_four
set_option linter.unusedVariables false
set_option maxRecDepth 100000
set_option linter.unusedSimpArgs false
/-- Numbers of terms in blocks from B on may have turned; all else of the elder memory is as it was. -/
structure IntSt (B : Nat) (w w' : World) : Prop where
  os : w'.os = w.os
  tape : w'.tape = w.tape
  output : w'.output = w.output
  size : w.heap.size ≤ w'.heap.size
  block : ∀ k, k < w.heap.size → w'.heap[k]? = w.heap[k]? ∨ (B ≤ k ∧ ∃ c c' : Array Value, w.heap[k]? = some (.cells c 44 (0, 0)) ∧ w'.heap[k]? = some (.cells c' 44 (0, 0)) ∧ ∀ j : Nat, c'[j]? = c[j]? ∨ ∃ a b : Int, c[j]? = some (.int .i64 a) ∧ c'[j]? = some (.int .i64 b))
theorem IntSt.refl (B : Nat) (w : World) : IntSt B w w := ⟨rfl, rfl, rfl, Nat.le_refl _, fun _ _ => .inl rfl⟩
theorem IntSt.trans {B : Nat} {w w1 w2 : World} (h : IntSt B w w1) (k : IntSt B w1 w2) : IntSt B w w2 := by
  refine ⟨k.os.trans h.os, k.tape.trans h.tape, k.output.trans h.output, Nat.le_trans h.size k.size, fun q hq => ?_⟩
  rcases h.block q hq with h1 | ⟨hb, c, c1, e0, e1, hj⟩
  · rcases k.block q (Nat.lt_of_lt_of_le hq h.size) with h2 | ⟨hb, c, c1, e0, e1, hj⟩
    · exact .inl (h2.trans h1)
    · exact .inr ⟨hb, c, c1, h1.symm.trans e0, e1, hj⟩
  · rcases k.block q (Nat.lt_of_lt_of_le hq h.size) with h2 | ⟨_, c2, c3, e2, e3, hj2⟩
    · exact .inr ⟨hb, c, c1, e0, h2.trans e1, hj⟩
    · have e := e1.symm.trans e2
      injection e with e
      injection e with e _ _
      subst e
      refine .inr ⟨hb, c, c3, e0, e3, fun j => ?_⟩
      rcases hj j with h3 | ⟨a, b, h3, h4⟩
      · rcases hj2 j with h5 | ⟨a, b, h5, h6⟩
        · exact .inl (h5.trans h3)
        · exact .inr ⟨a, b, h3.symm.trans h5, h6⟩
      · rcases hj2 j with h5 | ⟨a', b', h5, h6⟩
        · exact .inr ⟨a, b, h3, h5.trans h4⟩
        · exact .inr ⟨a, b', h3, h6⟩
theorem IntSt.set {B g j : Nat} {w : World} {c : Array Value} {a b : Int} (hg : w.heap[g]? = some (.cells c 44 (0, 0))) (hB : B ≤ g) (hj : c[j]? = some (.int .i64 a)) : IntSt B w (w.setCell ⟨g, j, none⟩ (.int .i64 b)) := by
  refine ⟨rfl, rfl, rfl, by simp [World.setCell], fun k hk => ?_⟩
  by_cases hkg : k = g
  · subst hkg
    refine .inr ⟨hB, c, c.setIfInBounds j (.int .i64 b), hg, blk_set hg j _, fun q => ?_⟩
    rw [Array.getElem?_setIfInBounds]
    by_cases hq : j = q
    · subst hq
      have hjl : j < c.size := (Array.getElem?_eq_some_iff.1 hj).1
      rw [if_pos rfl, if_pos hjl]
      exact .inr ⟨a, b, hj, rfl⟩
    · rw [if_neg hq]
      exact .inl rfl
  · exact .inl (Below.heap_setCell w ⟨g, j, none⟩ _ k hkg)
end Go.Proofs.Ytfhgoebgnilfaaa.I
namespace Go.Proofs.Ytfhgoebgnilfaaa.I
open Go.RowKit Go.Proofs.YtfhgoebgnilfaaaW.PrintWords Go.Proofs.YtfhgoebgnilfaaaW.PrintLast Go.Proofs.YtfhgoebgnilfaaaW.PrintMore
attribute [local go_sem] max2_int min2_int max_two min_two max_three min_three max_four min_four   -- for this text's walks alone
set_option linter.unusedVariables false
set_option linter.unusedSimpArgs false
mutual
def virgationref02_Equal.j0 : Nat → Bool → Int → Int → List (S44) → Int → Int → List (S44) → Option (Bool)
  | 0, _, _, _, _, _, _, _ => none
  | k + 1, x26, x302000, x302001, x302002, x303000, x303001, x303002 => if x26 = true then (some false) else (virgationref02_Equal.l0 k (x302002.length : Int) 0 x302000 x302001 x302002 x303000 x303001 x303002)
def virgationref02_Equal.l0 : Nat → Int → Int → Int → Int → List (S44) → Int → Int → List (S44) → Option (Bool)
  | 0, _, _, _, _, _, _, _, _ => none
  | k + 1, x29, x30, x302000, x302001, x302002, x303000, x303001, x303002 => if x30 < x29 then (if 0 ≤ x30 then (if x30 < (x302002.length : Int) then (if x30 < (x303002.length : Int) then ((virgationref02_Equal.f k ((rd_T44 x302002 x30).f0) ((rd_T44 x302002 x30).f1) ((rd_T44 x302002 x30).f2) ((rd_T44 x303002 x30).f0) ((rd_T44 x303002 x30).f1) ((rd_T44 x303002 x30).f2)).bind fun t305 => (if t305 = true then (virgationref02_Equal.l0 k x29 (wrap64 (x30 + 1)) x302000 x302001 x302002 x303000 x303001 x303002) else (some false))) else (none)) else (none)) else (none)) else (some true)
def virgationref02_Equal.f : Nat → Int → Int → List (S44) → Int → Int → List (S44) → Option (Bool)
  | 0, _, _, _, _, _, _ => none
  | k + 1, a0_0, a0_1, l0_2, a1_0, a1_1, l1_2 => if a0_0 = a1_0 then (if a0_1 = a1_1 then (virgationref02_Equal.j0 k ((l0_2.length : Int) != (l1_2.length : Int)) a0_0 a0_1 l0_2 a1_0 a1_1 l1_2) else (virgationref02_Equal.j0 k true a0_0 a0_1 l0_2 a1_0 a1_1 l1_2)) else (virgationref02_Equal.j0 k true a0_0 a0_1 l0_2 a1_0 a1_1 l1_2)
end
def virgationref02_Equal.T6 : Bool × List (List Nat × List Nat) := (true, [([], []), ([0], [0]), ([], []), ([1, 2], [1, 2]), ([3], [3]), ([], []), ([5], [5]), ([], []), ([6, 7], [6, 7]), ([8], [8]), ([4, 9], [4, 9]), ([10], [10])])
def virgationref02_Equal.B6 : List Nat := [0, 1, 0, 7, 15, 0, 32, 0, 224, 480, 1023, 2047]
theorem virgationref02_Equal.tab6 : rtab .any (opsOf Try.f26 6) = virgationref02_Equal.T6 := by kernel_rfl
theorem virgationref02_Equal.bits6 : waitsOk virgationref02_Equal.T6.2 virgationref02_Equal.B6 = true := by kernel_rfl
set_option maxHeartbeats 8000000 in
set_option maxRecDepth 100000 in
theorem virgationref02_Equal.calls (k : Nat) : ∀ (a0_0 : Int) (a0_1 : Int) (A0_2 : Option Addr) (c0_2 : Nat) (l0_2 : List (S44)) (a1_0 : Int) (a1_1 : Int) (A1_2 : Option Addr) (c1_2 : Nat) (l1_2 : List (S44)) (r : Bool) (w : World) (hr0_2 : Kd.C k44 w A0_2 l0_2.length l0_2) (hc0_2 : l0_2.length ≤ c0_2) (hr1_2 : Kd.C k44 w A1_2 l1_2.length l1_2) (hc1_2 : l1_2.length ≤ c1_2) (h : virgationref02_Equal.f k a0_0 a0_1 l0_2 a1_0 a1_1 l1_2 = some r),
    Calls Try.prog 26 #[.agg #[.int .i64 a0_0, .int .i64 a0_1, .slice A0_2 l0_2.length c0_2], .agg #[.int .i64 a1_0, .int .i64 a1_1, .slice A1_2 l1_2.length c1_2]] w fun e w' => e = .returned (.bool r) ∧ Below w.heap.size w w' := by
  induction k using Nat.strongRecOn with
  | _ k ih =>
  intro a0_0 a0_1 A0_2 c0_2 l0_2 a1_0 a1_1 A1_2 c1_2 l1_2 r w hr0_2 hc0_2 hr1_2 hc1_2 h
  cases k with
  | zero => exact absurd h (by simp [virgationref02_Equal.f])
  | succ k =>
  simp only [virgationref02_Equal.f] at h
  have hu44 := Try.underlying44
  have HR0_2 := Aside0.mk hr0_2
  have HC0_2 := Aside0.mk hc0_2
  clear hr0_2 hc0_2
  have HR1_2 := Aside0.mk hr1_2
  have HC1_2 := Aside0.mk hc1_2
  clear hr1_2 hc1_2
  have HB := Aside0.mk (Below.refl w.heap.size w)
  have H : (if a0_0 = a1_0 then (if a0_1 = a1_1 then (virgationref02_Equal.j0 k ((l0_2.length : Int) != (l1_2.length : Int)) a0_0 a0_1 l0_2 a1_0 a1_1 l1_2) else (virgationref02_Equal.j0 k true a0_0 a0_1 l0_2 a1_0 a1_1 l1_2)) else (virgationref02_Equal.j0 k true a0_0 a0_1 l0_2 a1_0 a1_1 l1_2)) = some r := h
  clear h
  have HC3 := Aside0.mk H
  clear H
  go_enter Try.func26, Try.ntmps26
  go_upto_region 1 with (first | ((with_reducible refine gate_dst (N := 2) rfl ?_); (try (refine gate_guard (by rfl) ?_; dsimp only)); refine box_event ?hg (N := 2) ?hd (cs := #[.int .i64 a0_0, .int .i64 a0_1, .slice A0_2 l0_2.length c0_2]) (t := 44) ?hr ?_; (case hd => rfl); (case hg => rfl); (case hr => first | (go_simp; done) | (go_simp; rfl)); intro gb301 hg w4 hbox hb; have n0_ := Aside0.mk (below_step (by repeat (first | (with_reducible first | exact HB.out | apply below_alloc | apply pw_below_drewN | apply below_drew1) | exact HB.out)) hb); have n1_ := Aside0.mk (hbox); have n2_ := Aside0.mk ((by rw [hg]; exact (below_size (by repeat (first | (with_reducible first | exact HB.out | apply below_alloc | apply pw_below_drewN | apply below_drew1) | exact HB.out))) : w.heap.size ≤ gb301)); have n3_ := Aside0.mk ((by rw [hg]; exact (below_size (by repeat (first | (with_reducible first | exact HB.out | apply below_alloc | apply pw_below_drewN | apply below_drew1) | exact HB.out))) : w.heap.size ≤ gb301)); clear HB; have HB := n0_; have BK301 := n1_; have GW301 := n2_; have GE301 := n3_; clear n0_ n1_ n2_ n3_; clear hb hbox hg) | ((with_reducible refine gate_dst (N := 3) rfl ?_); (try (refine gate_guard (by rfl) ?_; dsimp only)); refine box_event ?hg (N := 3) ?hd (cs := #[.int .i64 a1_0, .int .i64 a1_1, .slice A1_2 l1_2.length c1_2]) (t := 44) ?hr ?_; (case hd => rfl); (case hg => rfl); (case hr => first | (go_simp; done) | (go_simp; rfl)); intro gb302 hg w5 hbox hb; have n0_ := Aside0.mk (blk_below (g := gb301) (o := .cells #[.int .i64 a0_0, .int .i64 a0_1, .slice A0_2 l0_2.length c0_2] 44 (0, 0)) (by (with_reducible repeat (first | refine blk_drewN ?_ _ | refine blk_drew ?_ | refine blk_alloc ?_ _)); exact BK301.out) hb); have n1_ := Aside0.mk (below_step (by repeat (first | (with_reducible first | exact HB.out | apply below_alloc | apply pw_below_drewN | apply below_drew1 | refine below_set ?_ GE301.out) | exact HB.out)) hb); have n2_ := Aside0.mk (hbox); have n3_ := Aside0.mk ((by rw [hg]; exact (below_size (by repeat (first | (with_reducible first | exact HB.out | apply below_alloc | apply pw_below_drewN | apply below_drew1 | refine below_set ?_ GE301.out) | exact HB.out))) : w.heap.size ≤ gb302)); have n4_ := Aside0.mk ((by rw [hg]; exact (below_size (by repeat (first | (with_reducible first | exact HB.out | apply below_alloc | apply pw_below_drewN | apply below_drew1 | refine below_set ?_ GE301.out) | exact HB.out))) : w.heap.size ≤ gb302)); have n5_ := Aside0.mk ((by rw [hg]; exact Nat.ne_of_lt (blk_lt (g := gb301) (o := .cells #[.int .i64 a0_0, .int .i64 a0_1, .slice A0_2 l0_2.length c0_2] 44 (0, 0)) (by (with_reducible repeat (first | refine blk_drewN ?_ _ | refine blk_drew ?_ | refine blk_alloc ?_ _)); exact BK301.out)) : gb301 ≠ gb302)); have n6_ := Aside0.mk ((by rw [hg]; exact Nat.ne_of_gt (blk_lt (g := gb301) (o := .cells #[.int .i64 a0_0, .int .i64 a0_1, .slice A0_2 l0_2.length c0_2] 44 (0, 0)) (by (with_reducible repeat (first | refine blk_drewN ?_ _ | refine blk_drew ?_ | refine blk_alloc ?_ _)); exact BK301.out)) : gb302 ≠ gb301)); clear BK301; clear HB; have BK301 := n0_; have HB := n1_; have BK302 := n2_; have GW302 := n3_; have GE302 := n4_; have NB301_302 := n5_; have NB302_301 := n6_; clear n0_ n1_ n2_ n3_ n4_ n5_ n6_; clear hb hbox hg))
  (try simp only [Act.put, List.setIfInBounds_toArray, List.set_cons_zero, List.set_cons_succ])
  go_cut [26] (fun v26 wc => ∃ (kq : Nat) (x26_2 : Bool), v26 = .bool x26_2 ∧ Aside0 (virgationref02_Equal.j0 kq x26_2 a0_0 a0_1 l0_2 a1_0 a1_1 l1_2 = some r) ∧ Aside0 (kq ≤ k) ∧ Aside0 (wc.heap[gb301]? = some (.cells #[.int .i64 a0_0, .int .i64 a0_1, (.slice A0_2 l0_2.length c0_2)] 44 (0, 0))) ∧ Aside0 (wc.heap[gb302]? = some (.cells #[.int .i64 a1_0, .int .i64 a1_1, (.slice A1_2 l1_2.length c1_2)] 44 (0, 0))) ∧ Aside0 (Below w.heap.size w wc))
  case first =>
    have H := HC3.out
    clear HC3
    by_cases c6 : a0_0 = a1_0
    · rw [if_pos c6] at H
      have c6b0 : (a0_0 == a1_0) = true := beq_iff_eq.mpr c6
      have c6b1 : (a0_0 != a1_0) = false := bne_eq_false_iff_eq.mpr c6
      clear c6
      (first | rw [c6b0] | (simp only [i64_w, i32_w]; rw [c6b0]) | skip)
      by_cases c7 : a0_1 = a1_1
      · rw [if_pos c7] at H
        have c7b0 : (a0_1 == a1_1) = true := beq_iff_eq.mpr c7
        have c7b1 : (a0_1 != a1_1) = false := bne_eq_false_iff_eq.mpr c7
        clear c7
        have H' := Aside0.mk H
        clear H
        have hnb8 := NB301_302.out
        have hnc8 := NB302_301.out
        have hcz9_0 : w5.cell? ⟨gb301, 0, none⟩ = some (.int .i64 a0_0) := (blk_cell BK301.out 0).trans rfl
        have hcz9_1 : w5.cell? ⟨gb301, 1, none⟩ = some (.int .i64 a0_1) := (blk_cell BK301.out 1).trans rfl
        have hcz9_2 : w5.cell? ⟨gb301, 2, none⟩ = some (.slice A0_2 l0_2.length c0_2) := (blk_cell BK301.out 2).trans rfl
        have hfz9_0 := blk_frozen BK301.out 0
        have hfz9_1 := blk_frozen BK301.out 1
        have hfz9_2 := blk_frozen BK301.out 2
        have hcz10_0 : w5.cell? ⟨gb302, 0, none⟩ = some (.int .i64 a1_0) := (blk_cell BK302.out 0).trans rfl
        have hcz10_1 : w5.cell? ⟨gb302, 1, none⟩ = some (.int .i64 a1_1) := (blk_cell BK302.out 1).trans rfl
        have hcz10_2 : w5.cell? ⟨gb302, 2, none⟩ = some (.slice A1_2 l1_2.length c1_2) := (blk_cell BK302.out 2).trans rfl
        have hfz10_0 := blk_frozen BK302.out 0
        have hfz10_1 := blk_frozen BK302.out 1
        have hfz10_2 := blk_frozen BK302.out 2
        go_wp2
        go_meet
        case rel => exact ⟨_, (((l0_2.length : Int) != (l1_2.length : Int))), (by first | rfl | (simp; done) | (simp [*]; done)), H', ⟨by first | omega | exact Nat.le_refl _⟩, ⟨by (with_reducible repeat (first | refine blk_drewN ?_ _ | refine blk_drew ?_ | refine blk_alloc ?_ _)); exact BK301.out⟩, ⟨by (with_reducible repeat (first | refine blk_drewN ?_ _ | refine blk_drew ?_ | refine blk_alloc ?_ _)); exact BK302.out⟩, ⟨by repeat (first | (with_reducible first | exact HB.out | apply below_alloc | apply pw_below_drewN | apply below_drew1 | refine below_set ?_ GE301.out | refine below_set ?_ GE302.out) | exact HB.out)⟩⟩
      · rw [if_neg c7] at H
        have c7b0 : (a0_1 == a1_1) = false := beq_eq_false_iff_ne.mpr c7
        have c7b1 : (a0_1 != a1_1) = true := bne_iff_ne.mpr c7
        have H' := Aside0.mk H
        clear H
        have hnb11 := NB301_302.out
        have hnc11 := NB302_301.out
        have hcz12_0 : w5.cell? ⟨gb301, 0, none⟩ = some (.int .i64 a0_0) := (blk_cell BK301.out 0).trans rfl
        have hcz12_1 : w5.cell? ⟨gb301, 1, none⟩ = some (.int .i64 a0_1) := (blk_cell BK301.out 1).trans rfl
        have hcz12_2 : w5.cell? ⟨gb301, 2, none⟩ = some (.slice A0_2 l0_2.length c0_2) := (blk_cell BK301.out 2).trans rfl
        have hfz12_0 := blk_frozen BK301.out 0
        have hfz12_1 := blk_frozen BK301.out 1
        have hfz12_2 := blk_frozen BK301.out 2
        have hcz13_0 : w5.cell? ⟨gb302, 0, none⟩ = some (.int .i64 a1_0) := (blk_cell BK302.out 0).trans rfl
        have hcz13_1 : w5.cell? ⟨gb302, 1, none⟩ = some (.int .i64 a1_1) := (blk_cell BK302.out 1).trans rfl
        have hcz13_2 : w5.cell? ⟨gb302, 2, none⟩ = some (.slice A1_2 l1_2.length c1_2) := (blk_cell BK302.out 2).trans rfl
        have hfz13_0 := blk_frozen BK302.out 0
        have hfz13_1 := blk_frozen BK302.out 1
        have hfz13_2 := blk_frozen BK302.out 2
        go_wp2
        go_meet
        case rel => exact ⟨_, (true), (by first | rfl | (simp; done) | (simp [*]; done)), H', ⟨by first | omega | exact Nat.le_refl _⟩, ⟨by (with_reducible repeat (first | refine blk_drewN ?_ _ | refine blk_drew ?_ | refine blk_alloc ?_ _)); exact BK301.out⟩, ⟨by (with_reducible repeat (first | refine blk_drewN ?_ _ | refine blk_drew ?_ | refine blk_alloc ?_ _)); exact BK302.out⟩, ⟨by repeat (first | (with_reducible first | exact HB.out | apply below_alloc | apply pw_below_drewN | apply below_drew1 | refine below_set ?_ GE301.out | refine below_set ?_ GE302.out) | exact HB.out)⟩⟩
    · rw [if_neg c6] at H
      have c6b0 : (a0_0 == a1_0) = false := beq_eq_false_iff_ne.mpr c6
      have c6b1 : (a0_0 != a1_0) = true := bne_iff_ne.mpr c6
      (first | rw [c6b0] | (simp only [i64_w, i32_w]; rw [c6b0]) | skip)
      have H' := Aside0.mk H
      clear H
      have hnb14 := NB301_302.out
      have hnc14 := NB302_301.out
      have hcz15_0 : w5.cell? ⟨gb301, 0, none⟩ = some (.int .i64 a0_0) := (blk_cell BK301.out 0).trans rfl
      have hcz15_1 : w5.cell? ⟨gb301, 1, none⟩ = some (.int .i64 a0_1) := (blk_cell BK301.out 1).trans rfl
      have hcz15_2 : w5.cell? ⟨gb301, 2, none⟩ = some (.slice A0_2 l0_2.length c0_2) := (blk_cell BK301.out 2).trans rfl
      have hfz15_0 := blk_frozen BK301.out 0
      have hfz15_1 := blk_frozen BK301.out 1
      have hfz15_2 := blk_frozen BK301.out 2
      have hcz16_0 : w5.cell? ⟨gb302, 0, none⟩ = some (.int .i64 a1_0) := (blk_cell BK302.out 0).trans rfl
      have hcz16_1 : w5.cell? ⟨gb302, 1, none⟩ = some (.int .i64 a1_1) := (blk_cell BK302.out 1).trans rfl
      have hcz16_2 : w5.cell? ⟨gb302, 2, none⟩ = some (.slice A1_2 l1_2.length c1_2) := (blk_cell BK302.out 2).trans rfl
      have hfz16_0 := blk_frozen BK302.out 0
      have hfz16_1 := blk_frozen BK302.out 1
      have hfz16_2 := blk_frozen BK302.out 2
      go_wp2
      go_meet
      case rel => exact ⟨_, (true), (by first | rfl | (simp; done) | (simp [*]; done)), H', ⟨by first | omega | exact Nat.le_refl _⟩, ⟨by (with_reducible repeat (first | refine blk_drewN ?_ _ | refine blk_drew ?_ | refine blk_alloc ?_ _)); exact BK301.out⟩, ⟨by (with_reducible repeat (first | refine blk_drewN ?_ _ | refine blk_drew ?_ | refine blk_alloc ?_ _)); exact BK302.out⟩, ⟨by repeat (first | (with_reducible first | exact HB.out | apply below_alloc | apply pw_below_drewN | apply below_drew1 | refine below_set ?_ GE301.out | refine below_set ?_ GE302.out) | exact HB.out)⟩⟩
  case rest =>
    clear HC3
    try clear c1
    try clear c2
    try clear p2
    try clear c6
    try clear c6b0
    try clear c6b1
    try clear c7
    try clear c7b0
    try clear c7b1
    try clear c8
    try clear c11
    try clear c14
    try clear hcz10_0
    try clear hcz10_1
    try clear hcz10_2
    try clear hcz12_0
    try clear hcz12_1
    try clear hcz12_2
    try clear hcz13_0
    try clear hcz13_1
    try clear hcz13_2
    try clear hcz15_0
    try clear hcz15_1
    try clear hcz15_2
    try clear hcz16_0
    try clear hcz16_1
    try clear hcz16_2
    try clear hcz9_0
    try clear hcz9_1
    try clear hcz9_2
    try clear hfz10_0
    try clear hfz10_1
    try clear hfz10_2
    try clear hfz12_0
    try clear hfz12_1
    try clear hfz12_2
    try clear hfz13_0
    try clear hfz13_1
    try clear hfz13_2
    try clear hfz15_0
    try clear hfz15_1
    try clear hfz15_2
    try clear hfz16_0
    try clear hfz16_1
    try clear hfz16_2
    try clear hfz9_0
    try clear hfz9_1
    try clear hfz9_2
    obtain ⟨kq, x26_2, rfl, HA, HJ2, BK301, BK302, HB⟩ := hcut
    cases kq with
    | zero => exact absurd HA.out (by simp [virgationref02_Equal.j0])
    | succ kj2 =>
      have H := HA.out
      clear HA
      simp only [virgationref02_Equal.j0] at H
      by_cases c17 : x26_2 = true
      · subst c17
        have H1 : (some false) = some r := by rw [if_pos rfl] at H; exact H
        clear H
        have H := H1
        clear H1
        obtain rfl := Option.some.inj H
        go_wp2
        go_ret
        exact ⟨by first | rfl | (simp [errW_none, errW_some] <;> rfl) | (simp [*, errW_none, errW_some] <;> rfl), by repeat (first | (with_reducible first | exact HB.out | apply below_alloc | apply pw_below_drewN | apply below_drew1 | refine below_set ?_ GE301.out | refine below_set ?_ GE302.out) | exact HB.out)⟩
      · replace c17 := Bool.eq_false_iff.mpr c17
        subst c17
        have H1 : (virgationref02_Equal.l0 kj2 (l0_2.length : Int) 0 a0_0 a0_1 l0_2 a1_0 a1_1 l1_2) = some r := by rw [if_neg (show ¬ (false = true) by decide)] at H; exact H
        clear H
        have H := H1
        clear H1
        have H' := Aside0.mk H
        clear H
        have hnb18 := NB301_302.out
        have hnc18 := NB302_301.out
        have hcz19_0 : wc.cell? ⟨gb301, 0, none⟩ = some (.int .i64 a0_0) := (blk_cell BK301.out 0).trans rfl
        have hcz19_1 : wc.cell? ⟨gb301, 1, none⟩ = some (.int .i64 a0_1) := (blk_cell BK301.out 1).trans rfl
        have hcz19_2 : wc.cell? ⟨gb301, 2, none⟩ = some (.slice A0_2 l0_2.length c0_2) := (blk_cell BK301.out 2).trans rfl
        have hfz19_0 := blk_frozen BK301.out 0
        have hfz19_1 := blk_frozen BK301.out 1
        have hfz19_2 := blk_frozen BK301.out 2
        go_wp2
        go_loopg [30] kj2 (fun kq v30 w' => ∃ (x30_2 : Int), v30 = .int .i64 x30_2 ∧ Aside0 (virgationref02_Equal.l0 kq (l0_2.length : Int) x30_2 a0_0 a0_1 l0_2 a1_0 a1_1 l1_2 = some r) ∧ Aside0 (kq ≤ kj2) ∧ Aside0 (w'.heap[gb301]? = some (.cells #[.int .i64 a0_0, .int .i64 a0_1, (.slice A0_2 l0_2.length c0_2)] 44 (0, 0))) ∧ Aside0 (w'.heap[gb302]? = some (.cells #[.int .i64 a1_0, .int .i64 a1_1, (.slice A1_2 l1_2.length c1_2)] 44 (0, 0))) ∧ Aside0 (Below w.heap.size w w'))
        case atStart => exact ⟨(0), (by first | rfl | (simp; done) | (simp [*]; done)), H', ⟨Nat.le_refl _⟩, ⟨by (with_reducible repeat (first | refine blk_drewN ?_ _ | refine blk_drew ?_ | refine blk_alloc ?_ _)); exact BK301.out⟩, ⟨by (with_reducible repeat (first | refine blk_drewN ?_ _ | refine blk_drew ?_ | refine blk_alloc ?_ _)); exact BK302.out⟩, ⟨by repeat (first | (with_reducible first | exact HB.out | apply below_alloc | apply pw_below_drewN | apply below_drew1 | refine below_set ?_ GE301.out | refine below_set ?_ GE302.out) | exact HB.out)⟩⟩
        case round =>
          clear H'
          try clear c1
          try clear c2
          try clear p2
          try clear c6
          try clear c6b0
          try clear c6b1
          try clear c7
          try clear c7b0
          try clear c7b1
          try clear c8
          try clear c11
          try clear c14
          try clear c17
          try clear c18
          try clear hcz10_0
          try clear hcz10_1
          try clear hcz10_2
          try clear hcz12_0
          try clear hcz12_1
          try clear hcz12_2
          try clear hcz13_0
          try clear hcz13_1
          try clear hcz13_2
          try clear hcz15_0
          try clear hcz15_1
          try clear hcz15_2
          try clear hcz16_0
          try clear hcz16_1
          try clear hcz16_2
          try clear hcz19_0
          try clear hcz19_1
          try clear hcz19_2
          try clear hcz9_0
          try clear hcz9_1
          try clear hcz9_2
          try clear hfz10_0
          try clear hfz10_1
          try clear hfz10_2
          try clear hfz12_0
          try clear hfz12_1
          try clear hfz12_2
          try clear hfz13_0
          try clear hfz13_1
          try clear hfz13_2
          try clear hfz15_0
          try clear hfz15_1
          try clear hfz15_2
          try clear hfz16_0
          try clear hfz16_1
          try clear hfz16_2
          try clear hfz19_0
          try clear hfz19_1
          try clear hfz19_2
          try clear hfz9_0
          try clear hfz9_1
          try clear hfz9_2
          try clear p2
          obtain ⟨x30_2, rfl, HA, HK2, BK301, BK302, HB⟩ := hrel
          cases gk with
          | zero => exact absurd HA.out (by simp [virgationref02_Equal.l0])
          | succ k2 =>
            have H := HA.out
            clear HA
            simp only [virgationref02_Equal.l0] at H
            by_cases c20 : x30_2 < (l0_2.length : Int)
            · rw [if_pos c20] at H
              have c20b0 : decide (x30_2 < (l0_2.length : Int)) = true := decide_eq_true c20
              clear c20
              by_cases c21 : 0 ≤ x30_2
              · rw [if_pos c21] at H
                have c21b0 : decide (0 ≤ x30_2) = true := decide_eq_true c21
                clear c21
                by_cases c22 : x30_2 < (l0_2.length : Int)
                · rw [if_pos c22] at H
                  have c22b0 : decide (x30_2 < (l0_2.length : Int)) = true := decide_eq_true c22
                  clear c22
                  by_cases c23 : x30_2 < (l1_2.length : Int)
                  · rw [if_pos c23] at H
                    have c23b0 : decide (x30_2 < (l1_2.length : Int)) = true := decide_eq_true c23
                    clear c23
                    replace H := Option.bind_eq_some_iff.mp H
                    obtain ⟨t305, A240, H⟩ := H
                    replace H : (if t305 = true then (virgationref02_Equal.l0 k2 (l0_2.length : Int) (wrap64 (x30_2 + 1)) a0_0 a0_1 l0_2 a1_0 a1_1 l1_2) else (some false)) = some r := H
                    have A24 := Aside0.mk A240
                    clear A240
                    by_cases c25 : t305 = true
                    · subst c25
                      have H1 : (virgationref02_Equal.l0 k2 (l0_2.length : Int) (wrap64 (x30_2 + 1)) a0_0 a0_1 l0_2 a1_0 a1_1 l1_2) = some r := by rw [if_pos rfl] at H; exact H
                      clear H
                      have H := H1
                      clear H1
                      have H' := Aside0.mk H
                      clear H
                      try go_wp2
                      have n0_ := Aside0.mk (blk_drew BK301.out)
                      have n1_ := Aside0.mk (blk_drew BK302.out)
                      have n2_ := Aside0.mk (below_drew1 HB.out)
                      clear BK301
                      clear BK302
                      clear HB
                      have BK301 := n0_
                      have BK302 := n1_
                      have HB := n2_
                      clear n0_ n1_ n2_
                      have p303 : 0 ≤ (x30_2 : Int) := of_decide_eq_true (by first | (with_reducible assumption) | assumption)
                      have q303 : x30_2 < (l0_2.length : Int) := of_decide_eq_true (by first | (with_reducible assumption) | assumption)
                      obtain ⟨ad303, A303_2, c303_2, e303, hx303_0, hx303_1, hx303_2, hl303_2, hi303_2⟩ := at_T44 HR0_2.out x30_2 p303 q303
                      have hw303_2 := hx303_2
                      have hw303_1 := hx303_1
                      have hw303_0 := hx303_0
                      cases e303
                      replace hx303_0 := (HB.out.cell (World.block_lt_of_cell? w _ hx303_0)).trans hx303_0
                      replace hx303_1 := (HB.out.cell (World.block_lt_of_cell? w _ hx303_1)).trans hx303_1
                      replace hx303_2 := (HB.out.cell (World.block_lt_of_cell? w _ hx303_2)).trans hx303_2
                      have HR303_2 := Aside0.mk hi303_2
                      have HC303_2 := Aside0.mk hl303_2
                      clear hi303_2 hl303_2
                      replace p303 := eq_true p303
                      replace q303 := eq_true q303
                      have p304 : 0 ≤ (x30_2 : Int) := of_decide_eq_true (by first | (with_reducible assumption) | assumption)
                      have q304 : x30_2 < (l1_2.length : Int) := of_decide_eq_true (by first | (with_reducible assumption) | assumption)
                      obtain ⟨ad304, A304_2, c304_2, e304, hx304_0, hx304_1, hx304_2, hl304_2, hi304_2⟩ := at_T44 HR1_2.out x30_2 p304 q304
                      have hw304_2 := hx304_2
                      have hw304_1 := hx304_1
                      have hw304_0 := hx304_0
                      cases e304
                      replace hx304_0 := (HB.out.cell (World.block_lt_of_cell? w _ hx304_0)).trans hx304_0
                      replace hx304_1 := (HB.out.cell (World.block_lt_of_cell? w _ hx304_1)).trans hx304_1
                      replace hx304_2 := (HB.out.cell (World.block_lt_of_cell? w _ hx304_2)).trans hx304_2
                      have HR304_2 := Aside0.mk hi304_2
                      have HC304_2 := Aside0.mk hl304_2
                      clear hi304_2 hl304_2
                      replace p304 := eq_true p304
                      replace q304 := eq_true q304
                      refine start_ (n := 12) (S := fun w' => w'.cell? ⟨gb301, 0, none⟩ = some (.int .i64 a0_0) ∧ w'.cell? ⟨gb301, 1, none⟩ = some (.int .i64 a0_1) ∧ w'.cell? ⟨gb301, 2, none⟩ = some (.slice (some ad303) l0_2.length c0_2) ∧ w'.cell? ⟨gb302, 0, none⟩ = some (.int .i64 a1_0) ∧ w'.cell? ⟨gb302, 1, none⟩ = some (.int .i64 a1_1) ∧ w'.cell? ⟨gb302, 2, none⟩ = some (.slice (some ad304) l1_2.length c1_2) ∧ w'.cell? (ad303.add ((x30_2).toNat * 3)) = some (.int .i64 ((rd_T44 l0_2 x30_2).f0)) ∧ w'.cell? ⟨(ad303.add ((x30_2).toNat * 3)).block, (ad303.add ((x30_2).toNat * 3)).off + 1, none⟩ = some (.int .i64 ((rd_T44 l0_2 x30_2).f1)) ∧ w'.cell? ⟨(ad303.add ((x30_2).toNat * 3)).block, (ad303.add ((x30_2).toNat * 3)).off + 2, none⟩ = some (.slice A303_2 ((rd_T44 l0_2 x30_2).f2).length c303_2) ∧ w'.cell? (ad304.add ((x30_2).toNat * 3)) = some (.int .i64 ((rd_T44 l1_2 x30_2).f0)) ∧ w'.cell? ⟨(ad304.add ((x30_2).toNat * 3)).block, (ad304.add ((x30_2).toNat * 3)).off + 1, none⟩ = some (.int .i64 ((rd_T44 l1_2 x30_2).f1)) ∧ w'.cell? ⟨(ad304.add ((x30_2).toNat * 3)).block, (ad304.add ((x30_2).toNat * 3)).off + 2, none⟩ = some (.slice A304_2 ((rd_T44 l1_2 x30_2).f2).length c304_2)) (ds := []) #[false, false, false, false, false, false, false, false, false, false, false, false] (by kernel_rfl) rfl rfl ⟨(blk_cell BK301.out 0).trans rfl, (blk_cell BK301.out 1).trans rfl, (blk_cell BK301.out 2).trans rfl, (blk_cell BK302.out 0).trans rfl, (blk_cell BK302.out 1).trans rfl, (blk_cell BK302.out 2).trans rfl, ((HB.out.cell (World.block_lt_of_cell? w _ hw303_0)).trans hw303_0), ((HB.out.cell (World.block_lt_of_cell? w _ hw303_1)).trans hw303_1), ((HB.out.cell (World.block_lt_of_cell? w _ hw303_2)).trans hw303_2), ((HB.out.cell (World.block_lt_of_cell? w _ hw304_0)).trans hw304_0), ((HB.out.cell (World.block_lt_of_cell? w _ hw304_1)).trans hw304_1), ((HB.out.cell (World.block_lt_of_cell? w _ hw304_2)).trans hw304_2)⟩ (fun hHeld => ?_); refine with_tabW virgationref02_Equal.tab6 virgationref02_Equal.bits6 (fun HT_ HW_ => ?_)
                      generalize wr.drew = w26 at BK301 BK302 HB HR303_2 HR304_2 hx303_0 hx303_1 hx303_2 hx304_0 hx304_1 hx304_2 hHeld ⊢
                      refine pure_ (i := 0) (N := some 33) (v := ?_) (a' := ?_) #[true, false, false, false, false, false, false, false, false, false, false, false] rfl rfl (any_of HT_.out (by kernel_rfl)) (fun _ _ _ h => h) (Or.inl ⟨by rfl, ?_⟩) ?_ ?_
                      rotate_left
                      · intro w'
                        go_simp
                        with_reducible rfl
                      rotate_left
                      · simp only [Act.put, List.setIfInBounds_toArray, List.set_cons_zero, List.set_cons_succ, i64_w, i32_w]
                        rfl
                      refine pure_ (i := 2) (N := some 35) (v := ?_) (a' := ?_) #[true, false, true, false, false, false, false, false, false, false, false, false] rfl rfl (any_of HT_.out (by kernel_rfl)) (fun _ _ _ h => h) (Or.inl ⟨by rfl, ?_⟩) ?_ ?_
                      rotate_left
                      · intro w'
                        go_simp
                        with_reducible rfl
                      rotate_left
                      · simp only [Act.put, List.setIfInBounds_toArray, List.set_cons_zero, List.set_cons_succ, i64_w, i32_w]
                        rfl
                      refine pure_ (i := 5) (N := some 38) (v := ?_) (a' := ?_) #[true, false, true, false, false, true, false, false, false, false, false, false] rfl rfl (any_of HT_.out (by kernel_rfl)) (fun _ _ _ h => h) (Or.inl ⟨by rfl, ?_⟩) ?_ ?_
                      rotate_left
                      · intro w'
                        go_simp
                        with_reducible rfl
                      rotate_left
                      · simp only [Act.put, List.setIfInBounds_toArray, List.set_cons_zero, List.set_cons_succ, i64_w, i32_w]
                        rfl
                      refine pure_ (i := 7) (N := some 40) (v := ?_) (a' := ?_) #[true, false, true, false, false, true, false, true, false, false, false, false] rfl rfl (any_of HT_.out (by kernel_rfl)) (fun _ _ _ h => h) (Or.inl ⟨by rfl, ?_⟩) ?_ ?_
                      rotate_left
                      · intro w'
                        go_simp
                        with_reducible rfl
                      rotate_left
                      · simp only [Act.put, List.setIfInBounds_toArray, List.set_cons_zero, List.set_cons_succ, i64_w, i32_w]
                        rfl
                      refine take_ (i := 1) (N := some 34) (v := ?_) (a' := ?_) #[true, true, true, false, false, true, false, true, false, false, false, false] rfl rfl (take_ofW HT_.out HW_.out (by kernel_rfl)) (fun _ _ _ h => h) (Or.inl ⟨by rfl, ?_⟩) hHeld ?_ ?_
                      rotate_left
                      · rintro w' ⟨s0, s1, s2, s3, s4, s5, s6, s7, s8, s9, s10, s11⟩
                        go_simp
                        with_reducible rfl
                      rotate_left
                      · simp only [Act.put, List.setIfInBounds_toArray, List.set_cons_zero, List.set_cons_succ, i64_w, i32_w]
                        rfl
                      refine pure_ (i := 3) (N := some 36) (v := ?_) (a' := ?_) #[true, true, true, true, false, true, false, true, false, false, false, false] rfl rfl (any_of HT_.out (by kernel_rfl)) (fun _ _ _ h => h) (Or.inl ⟨by rfl, ?_⟩) ?_ ?_
                      rotate_left
                      · intro w'
                        go_simp
                        with_reducible rfl
                      rotate_left
                      · simp only [Act.put, List.setIfInBounds_toArray, List.set_cons_zero, List.set_cons_succ, i64_w, i32_w]
                        rfl
                      refine take_ (i := 4) (N := some 37) (v := ?_) (a' := ?_) #[true, true, true, true, true, true, false, true, false, false, false, false] rfl rfl (take_ofW HT_.out HW_.out (by kernel_rfl)) (fun _ _ _ h => h) (Or.inl ⟨by rfl, ?_⟩) hHeld ?_ ?_
                      rotate_left
                      · rintro w' ⟨s0, s1, s2, s3, s4, s5, s6, s7, s8, s9, s10, s11⟩
                        go_simp
                        with_reducible rfl
                      rotate_left
                      · simp only [Act.put, List.setIfInBounds_toArray, List.set_cons_zero, List.set_cons_succ, i64_w, i32_w]
                        rfl
                      refine take_ (i := 6) (N := some 39) (v := ?_) (a' := ?_) #[true, true, true, true, true, true, true, true, false, false, false, false] rfl rfl (take_ofW HT_.out HW_.out (by kernel_rfl)) (fun _ _ _ h => h) (Or.inl ⟨by rfl, ?_⟩) hHeld ?_ ?_
                      rotate_left
                      · rintro w' ⟨s0, s1, s2, s3, s4, s5, s6, s7, s8, s9, s10, s11⟩
                        go_simp
                        with_reducible rfl
                      rotate_left
                      · simp only [Act.put, List.setIfInBounds_toArray, List.set_cons_zero, List.set_cons_succ, i64_w, i32_w]
                        rfl
                      refine pure_ (i := 8) (N := some 41) (v := ?_) (a' := ?_) #[true, true, true, true, true, true, true, true, true, false, false, false] rfl rfl (any_of HT_.out (by kernel_rfl)) (fun _ _ _ h => h) (Or.inl ⟨by rfl, ?_⟩) ?_ ?_
                      rotate_left
                      · intro w'
                        go_simp
                        with_reducible rfl
                      rotate_left
                      · simp only [Act.put, List.setIfInBounds_toArray, List.set_cons_zero, List.set_cons_succ, i64_w, i32_w]
                        rfl
                      refine take_ (i := 9) (N := some 42) (v := ?_) (a' := ?_) #[true, true, true, true, true, true, true, true, true, true, false, false] rfl rfl (take_ofW HT_.out HW_.out (by kernel_rfl)) (fun _ _ _ h => h) (Or.inl ⟨by rfl, ?_⟩) hHeld ?_ ?_
                      rotate_left
                      · rintro w' ⟨s0, s1, s2, s3, s4, s5, s6, s7, s8, s9, s10, s11⟩
                        go_simp
                        with_reducible rfl
                      rotate_left
                      · simp only [Act.put, List.setIfInBounds_toArray, List.set_cons_zero, List.set_cons_succ, i64_w, i32_w]
                        rfl
                      refine one_ (i := 10) (N := some 43) #[true, true, true, true, true, true, true, true, true, true, true, false] rfl rfl (one_of HT_.out (by kernel_rfl)) (by decide) (fun K hK => ?_)
                      refine goes_ Try.func26 (by kernel_rfl) rfl #[.agg #[.int .i64 ((rd_T44 l0_2 x30_2).f0), .int .i64 ((rd_T44 l0_2 x30_2).f1), .slice A303_2 ((rd_T44 l0_2 x30_2).f2).length c303_2], .agg #[.int .i64 ((rd_T44 l1_2 x30_2).f0), .int .i64 ((rd_T44 l1_2 x30_2).f1), .slice A304_2 ((rd_T44 l1_2 x30_2).f2).length c304_2]] (by rfl) rfl rfl (by (try simp only [List.map_toArray, List.map_cons, List.map_nil]); first | done | rfl | (simp only [List.length_drop, List.length_take]; rfl)) ?_
                      with_reducible refine (ih k2 (by have := HJ2.out; have := HK2.out; omega) ((rd_T44 l0_2 x30_2).f0) ((rd_T44 l0_2 x30_2).f1) _ _ ((rd_T44 l0_2 x30_2).f2) ((rd_T44 l1_2 x30_2).f0) ((rd_T44 l1_2 x30_2).f1) _ _ ((rd_T44 l1_2 x30_2).f2) true _ ?side1 ?side2 ?side3 ?side4 A24.out).mono ?_
                      (case side1 => repeat (first | exact (Kd.C_below HR303_2.out HB.out) | (with_reducible refine Kd.C_alloc ?_ _) | (with_reducible refine Kd.C_drewN ?_ _) | (with_reducible refine Kd.C_drew ?_)))
                      (case side2 => exact HC303_2.out)
                      (case side3 => repeat (first | exact (Kd.C_below HR304_2.out HB.out) | (with_reducible refine Kd.C_alloc ?_ _) | (with_reducible refine Kd.C_drewN ?_ _) | (with_reducible refine Kd.C_drew ?_)))
                      (case side4 => exact HC304_2.out)
                      rintro e w27 ⟨rfl, hb⟩
                      refine ⟨_, rfl, ?_⟩
                      have n0_ := Aside0.mk (blk_below (g := gb301) (o := .cells #[.int .i64 a0_0, .int .i64 a0_1, .slice (some ad303) l0_2.length c0_2] 44 (0, 0)) (by (with_reducible repeat (first | refine blk_drewN ?_ _ | refine blk_drew ?_ | refine blk_alloc ?_ _)); exact BK301.out) hb)
                      have n1_ := Aside0.mk (blk_below (g := gb302) (o := .cells #[.int .i64 a1_0, .int .i64 a1_1, .slice (some ad304) l1_2.length c1_2] 44 (0, 0)) (by (with_reducible repeat (first | refine blk_drewN ?_ _ | refine blk_drew ?_ | refine blk_alloc ?_ _)); exact BK302.out) hb)
                      have n2_ := Aside0.mk (below_step (by repeat (first | (with_reducible first | exact HB.out | apply below_alloc | apply pw_below_drewN | apply below_drew1 | refine below_set ?_ GE301.out | refine below_set ?_ GE302.out) | exact HB.out)) hb)
                      clear BK301
                      clear BK302
                      clear HB
                      have BK301 := n0_
                      have BK302 := n1_
                      have HB := n2_
                      clear n0_ n1_ n2_
                      (try clear hb)
                      (try clear hb2)
                      (try clear hk)
                      (try clear hi)
                      refine hK.out _ _ ⟨(blk_cell BK301.out 0).trans rfl, (blk_cell BK301.out 1).trans rfl, (blk_cell BK301.out 2).trans rfl, (blk_cell BK302.out 0).trans rfl, (blk_cell BK302.out 1).trans rfl, (blk_cell BK302.out 2).trans rfl, ((HB.out.cell (World.block_lt_of_cell? w _ hw303_0)).trans hw303_0), ((HB.out.cell (World.block_lt_of_cell? w _ hw303_1)).trans hw303_1), ((HB.out.cell (World.block_lt_of_cell? w _ hw303_2)).trans hw303_2), ((HB.out.cell (World.block_lt_of_cell? w _ hw304_0)).trans hw304_0), ((HB.out.cell (World.block_lt_of_cell? w _ hw304_1)).trans hw304_1), ((HB.out.cell (World.block_lt_of_cell? w _ hw304_2)).trans hw304_2)⟩ (fun hHeld => ?_)
                      clear hK K
                      refine norm_ (a' := ?_) ?_ ?_
                      rotate_left
                      · show Act.put _ (some 43) _ = _
                        simp only [Act.put, List.setIfInBounds_toArray, List.set_cons_zero, List.set_cons_succ, i64_w, i32_w]
                        rfl
                      refine pure_ (i := 11) (N := some 44) (v := ?_) (a' := ?_) #[true, true, true, true, true, true, true, true, true, true, true, true] rfl rfl (any_of HT_.out (by kernel_rfl)) (fun _ _ _ h => h) (Or.inl ⟨by rfl, ?_⟩) ?_ ?_
                      rotate_left
                      · intro w'
                        go_simp
                        with_reducible rfl
                      rotate_left
                      · simp only [Act.put, List.setIfInBounds_toArray, List.set_cons_zero, List.set_cons_succ, i64_w, i32_w]
                        rfl
                      refine done_ (done_of HT_.out (by kernel_rfl)) ?_
                      try go_wp2
                      go_roundg k2
                      case measure => have := HJ2.out; have := HK2.out; omega
                      case rel => exact ⟨(wrap64 (x30_2 + 1)), (by first | rfl | (simp; done) | (simp [*]; done)), H', ⟨by have := HJ2.out; have := HK2.out; omega⟩, ⟨by (with_reducible repeat (first | refine blk_drewN ?_ _ | refine blk_drew ?_ | refine blk_alloc ?_ _)); exact BK301.out⟩, ⟨by (with_reducible repeat (first | refine blk_drewN ?_ _ | refine blk_drew ?_ | refine blk_alloc ?_ _)); exact BK302.out⟩, ⟨by repeat (first | (with_reducible first | exact HB.out | apply below_alloc | apply pw_below_drewN | apply below_drew1 | refine below_set ?_ GE301.out | refine below_set ?_ GE302.out) | exact HB.out)⟩⟩
                    · replace c25 := Bool.eq_false_iff.mpr c25
                      subst c25
                      have H1 : (some false) = some r := by rw [if_neg (show ¬ (false = true) by decide)] at H; exact H
                      clear H
                      have H := H1
                      clear H1
                      obtain rfl := Option.some.inj H
                      try go_wp2
                      have n0_ := Aside0.mk (blk_drew BK301.out)
                      have n1_ := Aside0.mk (blk_drew BK302.out)
                      have n2_ := Aside0.mk (below_drew1 HB.out)
                      clear BK301
                      clear BK302
                      clear HB
                      have BK301 := n0_
                      have BK302 := n1_
                      have HB := n2_
                      clear n0_ n1_ n2_
                      have p303 : 0 ≤ (x30_2 : Int) := of_decide_eq_true (by first | (with_reducible assumption) | assumption)
                      have q303 : x30_2 < (l0_2.length : Int) := of_decide_eq_true (by first | (with_reducible assumption) | assumption)
                      obtain ⟨ad303, A303_2, c303_2, e303, hx303_0, hx303_1, hx303_2, hl303_2, hi303_2⟩ := at_T44 HR0_2.out x30_2 p303 q303
                      have hw303_2 := hx303_2
                      have hw303_1 := hx303_1
                      have hw303_0 := hx303_0
                      cases e303
                      replace hx303_0 := (HB.out.cell (World.block_lt_of_cell? w _ hx303_0)).trans hx303_0
                      replace hx303_1 := (HB.out.cell (World.block_lt_of_cell? w _ hx303_1)).trans hx303_1
                      replace hx303_2 := (HB.out.cell (World.block_lt_of_cell? w _ hx303_2)).trans hx303_2
                      have HR303_2 := Aside0.mk hi303_2
                      have HC303_2 := Aside0.mk hl303_2
                      clear hi303_2 hl303_2
                      replace p303 := eq_true p303
                      replace q303 := eq_true q303
                      have p304 : 0 ≤ (x30_2 : Int) := of_decide_eq_true (by first | (with_reducible assumption) | assumption)
                      have q304 : x30_2 < (l1_2.length : Int) := of_decide_eq_true (by first | (with_reducible assumption) | assumption)
                      obtain ⟨ad304, A304_2, c304_2, e304, hx304_0, hx304_1, hx304_2, hl304_2, hi304_2⟩ := at_T44 HR1_2.out x30_2 p304 q304
                      have hw304_2 := hx304_2
                      have hw304_1 := hx304_1
                      have hw304_0 := hx304_0
                      cases e304
                      replace hx304_0 := (HB.out.cell (World.block_lt_of_cell? w _ hx304_0)).trans hx304_0
                      replace hx304_1 := (HB.out.cell (World.block_lt_of_cell? w _ hx304_1)).trans hx304_1
                      replace hx304_2 := (HB.out.cell (World.block_lt_of_cell? w _ hx304_2)).trans hx304_2
                      have HR304_2 := Aside0.mk hi304_2
                      have HC304_2 := Aside0.mk hl304_2
                      clear hi304_2 hl304_2
                      replace p304 := eq_true p304
                      replace q304 := eq_true q304
                      refine start_ (n := 12) (S := fun w' => w'.cell? ⟨gb301, 0, none⟩ = some (.int .i64 a0_0) ∧ w'.cell? ⟨gb301, 1, none⟩ = some (.int .i64 a0_1) ∧ w'.cell? ⟨gb301, 2, none⟩ = some (.slice (some ad303) l0_2.length c0_2) ∧ w'.cell? ⟨gb302, 0, none⟩ = some (.int .i64 a1_0) ∧ w'.cell? ⟨gb302, 1, none⟩ = some (.int .i64 a1_1) ∧ w'.cell? ⟨gb302, 2, none⟩ = some (.slice (some ad304) l1_2.length c1_2) ∧ w'.cell? (ad303.add ((x30_2).toNat * 3)) = some (.int .i64 ((rd_T44 l0_2 x30_2).f0)) ∧ w'.cell? ⟨(ad303.add ((x30_2).toNat * 3)).block, (ad303.add ((x30_2).toNat * 3)).off + 1, none⟩ = some (.int .i64 ((rd_T44 l0_2 x30_2).f1)) ∧ w'.cell? ⟨(ad303.add ((x30_2).toNat * 3)).block, (ad303.add ((x30_2).toNat * 3)).off + 2, none⟩ = some (.slice A303_2 ((rd_T44 l0_2 x30_2).f2).length c303_2) ∧ w'.cell? (ad304.add ((x30_2).toNat * 3)) = some (.int .i64 ((rd_T44 l1_2 x30_2).f0)) ∧ w'.cell? ⟨(ad304.add ((x30_2).toNat * 3)).block, (ad304.add ((x30_2).toNat * 3)).off + 1, none⟩ = some (.int .i64 ((rd_T44 l1_2 x30_2).f1)) ∧ w'.cell? ⟨(ad304.add ((x30_2).toNat * 3)).block, (ad304.add ((x30_2).toNat * 3)).off + 2, none⟩ = some (.slice A304_2 ((rd_T44 l1_2 x30_2).f2).length c304_2)) (ds := []) #[false, false, false, false, false, false, false, false, false, false, false, false] (by kernel_rfl) rfl rfl ⟨(blk_cell BK301.out 0).trans rfl, (blk_cell BK301.out 1).trans rfl, (blk_cell BK301.out 2).trans rfl, (blk_cell BK302.out 0).trans rfl, (blk_cell BK302.out 1).trans rfl, (blk_cell BK302.out 2).trans rfl, ((HB.out.cell (World.block_lt_of_cell? w _ hw303_0)).trans hw303_0), ((HB.out.cell (World.block_lt_of_cell? w _ hw303_1)).trans hw303_1), ((HB.out.cell (World.block_lt_of_cell? w _ hw303_2)).trans hw303_2), ((HB.out.cell (World.block_lt_of_cell? w _ hw304_0)).trans hw304_0), ((HB.out.cell (World.block_lt_of_cell? w _ hw304_1)).trans hw304_1), ((HB.out.cell (World.block_lt_of_cell? w _ hw304_2)).trans hw304_2)⟩ (fun hHeld => ?_); refine with_tabW virgationref02_Equal.tab6 virgationref02_Equal.bits6 (fun HT_ HW_ => ?_)
                      generalize wr.drew = w28 at BK301 BK302 HB HR303_2 HR304_2 hx303_0 hx303_1 hx303_2 hx304_0 hx304_1 hx304_2 hHeld ⊢
                      refine pure_ (i := 0) (N := some 33) (v := ?_) (a' := ?_) #[true, false, false, false, false, false, false, false, false, false, false, false] rfl rfl (any_of HT_.out (by kernel_rfl)) (fun _ _ _ h => h) (Or.inl ⟨by rfl, ?_⟩) ?_ ?_
                      rotate_left
                      · intro w'
                        go_simp
                        with_reducible rfl
                      rotate_left
                      · simp only [Act.put, List.setIfInBounds_toArray, List.set_cons_zero, List.set_cons_succ, i64_w, i32_w]
                        rfl
                      refine pure_ (i := 2) (N := some 35) (v := ?_) (a' := ?_) #[true, false, true, false, false, false, false, false, false, false, false, false] rfl rfl (any_of HT_.out (by kernel_rfl)) (fun _ _ _ h => h) (Or.inl ⟨by rfl, ?_⟩) ?_ ?_
                      rotate_left
                      · intro w'
                        go_simp
                        with_reducible rfl
                      rotate_left
                      · simp only [Act.put, List.setIfInBounds_toArray, List.set_cons_zero, List.set_cons_succ, i64_w, i32_w]
                        rfl
                      refine pure_ (i := 5) (N := some 38) (v := ?_) (a' := ?_) #[true, false, true, false, false, true, false, false, false, false, false, false] rfl rfl (any_of HT_.out (by kernel_rfl)) (fun _ _ _ h => h) (Or.inl ⟨by rfl, ?_⟩) ?_ ?_
                      rotate_left
                      · intro w'
                        go_simp
                        with_reducible rfl
                      rotate_left
                      · simp only [Act.put, List.setIfInBounds_toArray, List.set_cons_zero, List.set_cons_succ, i64_w, i32_w]
                        rfl
                      refine pure_ (i := 7) (N := some 40) (v := ?_) (a' := ?_) #[true, false, true, false, false, true, false, true, false, false, false, false] rfl rfl (any_of HT_.out (by kernel_rfl)) (fun _ _ _ h => h) (Or.inl ⟨by rfl, ?_⟩) ?_ ?_
                      rotate_left
                      · intro w'
                        go_simp
                        with_reducible rfl
                      rotate_left
                      · simp only [Act.put, List.setIfInBounds_toArray, List.set_cons_zero, List.set_cons_succ, i64_w, i32_w]
                        rfl
                      refine take_ (i := 1) (N := some 34) (v := ?_) (a' := ?_) #[true, true, true, false, false, true, false, true, false, false, false, false] rfl rfl (take_ofW HT_.out HW_.out (by kernel_rfl)) (fun _ _ _ h => h) (Or.inl ⟨by rfl, ?_⟩) hHeld ?_ ?_
                      rotate_left
                      · rintro w' ⟨s0, s1, s2, s3, s4, s5, s6, s7, s8, s9, s10, s11⟩
                        go_simp
                        with_reducible rfl
                      rotate_left
                      · simp only [Act.put, List.setIfInBounds_toArray, List.set_cons_zero, List.set_cons_succ, i64_w, i32_w]
                        rfl
                      refine pure_ (i := 3) (N := some 36) (v := ?_) (a' := ?_) #[true, true, true, true, false, true, false, true, false, false, false, false] rfl rfl (any_of HT_.out (by kernel_rfl)) (fun _ _ _ h => h) (Or.inl ⟨by rfl, ?_⟩) ?_ ?_
                      rotate_left
                      · intro w'
                        go_simp
                        with_reducible rfl
                      rotate_left
                      · simp only [Act.put, List.setIfInBounds_toArray, List.set_cons_zero, List.set_cons_succ, i64_w, i32_w]
                        rfl
                      refine take_ (i := 4) (N := some 37) (v := ?_) (a' := ?_) #[true, true, true, true, true, true, false, true, false, false, false, false] rfl rfl (take_ofW HT_.out HW_.out (by kernel_rfl)) (fun _ _ _ h => h) (Or.inl ⟨by rfl, ?_⟩) hHeld ?_ ?_
                      rotate_left
                      · rintro w' ⟨s0, s1, s2, s3, s4, s5, s6, s7, s8, s9, s10, s11⟩
                        go_simp
                        with_reducible rfl
                      rotate_left
                      · simp only [Act.put, List.setIfInBounds_toArray, List.set_cons_zero, List.set_cons_succ, i64_w, i32_w]
                        rfl
                      refine take_ (i := 6) (N := some 39) (v := ?_) (a' := ?_) #[true, true, true, true, true, true, true, true, false, false, false, false] rfl rfl (take_ofW HT_.out HW_.out (by kernel_rfl)) (fun _ _ _ h => h) (Or.inl ⟨by rfl, ?_⟩) hHeld ?_ ?_
                      rotate_left
                      · rintro w' ⟨s0, s1, s2, s3, s4, s5, s6, s7, s8, s9, s10, s11⟩
                        go_simp
                        with_reducible rfl
                      rotate_left
                      · simp only [Act.put, List.setIfInBounds_toArray, List.set_cons_zero, List.set_cons_succ, i64_w, i32_w]
                        rfl
                      refine pure_ (i := 8) (N := some 41) (v := ?_) (a' := ?_) #[true, true, true, true, true, true, true, true, true, false, false, false] rfl rfl (any_of HT_.out (by kernel_rfl)) (fun _ _ _ h => h) (Or.inl ⟨by rfl, ?_⟩) ?_ ?_
                      rotate_left
                      · intro w'
                        go_simp
                        with_reducible rfl
                      rotate_left
                      · simp only [Act.put, List.setIfInBounds_toArray, List.set_cons_zero, List.set_cons_succ, i64_w, i32_w]
                        rfl
                      refine take_ (i := 9) (N := some 42) (v := ?_) (a' := ?_) #[true, true, true, true, true, true, true, true, true, true, false, false] rfl rfl (take_ofW HT_.out HW_.out (by kernel_rfl)) (fun _ _ _ h => h) (Or.inl ⟨by rfl, ?_⟩) hHeld ?_ ?_
                      rotate_left
                      · rintro w' ⟨s0, s1, s2, s3, s4, s5, s6, s7, s8, s9, s10, s11⟩
                        go_simp
                        with_reducible rfl
                      rotate_left
                      · simp only [Act.put, List.setIfInBounds_toArray, List.set_cons_zero, List.set_cons_succ, i64_w, i32_w]
                        rfl
                      refine one_ (i := 10) (N := some 43) #[true, true, true, true, true, true, true, true, true, true, true, false] rfl rfl (one_of HT_.out (by kernel_rfl)) (by decide) (fun K hK => ?_)
                      refine goes_ Try.func26 (by kernel_rfl) rfl #[.agg #[.int .i64 ((rd_T44 l0_2 x30_2).f0), .int .i64 ((rd_T44 l0_2 x30_2).f1), .slice A303_2 ((rd_T44 l0_2 x30_2).f2).length c303_2], .agg #[.int .i64 ((rd_T44 l1_2 x30_2).f0), .int .i64 ((rd_T44 l1_2 x30_2).f1), .slice A304_2 ((rd_T44 l1_2 x30_2).f2).length c304_2]] (by rfl) rfl rfl (by (try simp only [List.map_toArray, List.map_cons, List.map_nil]); first | done | rfl | (simp only [List.length_drop, List.length_take]; rfl)) ?_
                      with_reducible refine (ih k2 (by have := HJ2.out; have := HK2.out; omega) ((rd_T44 l0_2 x30_2).f0) ((rd_T44 l0_2 x30_2).f1) _ _ ((rd_T44 l0_2 x30_2).f2) ((rd_T44 l1_2 x30_2).f0) ((rd_T44 l1_2 x30_2).f1) _ _ ((rd_T44 l1_2 x30_2).f2) false _ ?side1 ?side2 ?side3 ?side4 A24.out).mono ?_
                      (case side1 => repeat (first | exact (Kd.C_below HR303_2.out HB.out) | (with_reducible refine Kd.C_alloc ?_ _) | (with_reducible refine Kd.C_drewN ?_ _) | (with_reducible refine Kd.C_drew ?_)))
                      (case side2 => exact HC303_2.out)
                      (case side3 => repeat (first | exact (Kd.C_below HR304_2.out HB.out) | (with_reducible refine Kd.C_alloc ?_ _) | (with_reducible refine Kd.C_drewN ?_ _) | (with_reducible refine Kd.C_drew ?_)))
                      (case side4 => exact HC304_2.out)
                      rintro e w29 ⟨rfl, hb⟩
                      refine ⟨_, rfl, ?_⟩
                      have n0_ := Aside0.mk (blk_below (g := gb301) (o := .cells #[.int .i64 a0_0, .int .i64 a0_1, .slice (some ad303) l0_2.length c0_2] 44 (0, 0)) (by (with_reducible repeat (first | refine blk_drewN ?_ _ | refine blk_drew ?_ | refine blk_alloc ?_ _)); exact BK301.out) hb)
                      have n1_ := Aside0.mk (blk_below (g := gb302) (o := .cells #[.int .i64 a1_0, .int .i64 a1_1, .slice (some ad304) l1_2.length c1_2] 44 (0, 0)) (by (with_reducible repeat (first | refine blk_drewN ?_ _ | refine blk_drew ?_ | refine blk_alloc ?_ _)); exact BK302.out) hb)
                      have n2_ := Aside0.mk (below_step (by repeat (first | (with_reducible first | exact HB.out | apply below_alloc | apply pw_below_drewN | apply below_drew1 | refine below_set ?_ GE301.out | refine below_set ?_ GE302.out) | exact HB.out)) hb)
                      clear BK301
                      clear BK302
                      clear HB
                      have BK301 := n0_
                      have BK302 := n1_
                      have HB := n2_
                      clear n0_ n1_ n2_
                      (try clear hb)
                      (try clear hb2)
                      (try clear hk)
                      (try clear hi)
                      refine hK.out _ _ ⟨(blk_cell BK301.out 0).trans rfl, (blk_cell BK301.out 1).trans rfl, (blk_cell BK301.out 2).trans rfl, (blk_cell BK302.out 0).trans rfl, (blk_cell BK302.out 1).trans rfl, (blk_cell BK302.out 2).trans rfl, ((HB.out.cell (World.block_lt_of_cell? w _ hw303_0)).trans hw303_0), ((HB.out.cell (World.block_lt_of_cell? w _ hw303_1)).trans hw303_1), ((HB.out.cell (World.block_lt_of_cell? w _ hw303_2)).trans hw303_2), ((HB.out.cell (World.block_lt_of_cell? w _ hw304_0)).trans hw304_0), ((HB.out.cell (World.block_lt_of_cell? w _ hw304_1)).trans hw304_1), ((HB.out.cell (World.block_lt_of_cell? w _ hw304_2)).trans hw304_2)⟩ (fun hHeld => ?_)
                      clear hK K
                      refine norm_ (a' := ?_) ?_ ?_
                      rotate_left
                      · show Act.put _ (some 43) _ = _
                        simp only [Act.put, List.setIfInBounds_toArray, List.set_cons_zero, List.set_cons_succ, i64_w, i32_w]
                        rfl
                      refine pure_ (i := 11) (N := some 44) (v := ?_) (a' := ?_) #[true, true, true, true, true, true, true, true, true, true, true, true] rfl rfl (any_of HT_.out (by kernel_rfl)) (fun _ _ _ h => h) (Or.inl ⟨by rfl, ?_⟩) ?_ ?_
                      rotate_left
                      · intro w'
                        go_simp
                        with_reducible rfl
                      rotate_left
                      · simp only [Act.put, List.setIfInBounds_toArray, List.set_cons_zero, List.set_cons_succ, i64_w, i32_w]
                        rfl
                      refine done_ (done_of HT_.out (by kernel_rfl)) ?_
                      try go_wp2
                      go_ret
                      exact ⟨by first | rfl | (simp [errW_none, errW_some] <;> rfl) | (simp [*, errW_none, errW_some] <;> rfl), by repeat (first | (with_reducible first | exact HB.out | apply below_alloc | apply pw_below_drewN | apply below_drew1 | refine below_set ?_ GE301.out | refine below_set ?_ GE302.out) | exact HB.out)⟩
                  · rw [if_neg c23] at H
                    exact absurd H (by simp)
                · rw [if_neg c22] at H
                  exact absurd H (by simp)
              · rw [if_neg c21] at H
                exact absurd H (by simp)
            · rw [if_neg c20] at H
              have c20b0 : decide (x30_2 < (l0_2.length : Int)) = false := decide_eq_false c20
              clear c20
              obtain rfl := Option.some.inj H
              go_wp2
              go_ret
              exact ⟨by first | rfl | (simp [errW_none, errW_some] <;> rfl) | (simp [*, errW_none, errW_some] <;> rfl), by repeat (first | (with_reducible first | exact HB.out | apply below_alloc | apply pw_below_drewN | apply below_drew1 | refine below_set ?_ GE301.out | refine below_set ?_ GE302.out) | exact HB.out)⟩
def virgationref02_Large.f (k : Nat) (a0_0 : Int) (a0_1 : Int) (l0_2 : List (S44)) : Option (Bool) := (virgationref02_Nodes.f k a0_0 a0_1 l0_2 100000).bind fun t325 => (some (decide (t325 > 100000)))
set_option maxHeartbeats 8000000 in
set_option maxRecDepth 100000 in
theorem virgationref02_Large.calls (k : Nat) (a0_0 : Int) (a0_1 : Int) (A0_2 : Option Addr) (c0_2 : Nat) (l0_2 : List (S44)) (r : Bool) (w : World) (hr0_2 : Kd.C k44 w A0_2 l0_2.length l0_2) (hc0_2 : l0_2.length ≤ c0_2) (h : virgationref02_Large.f k a0_0 a0_1 l0_2 = some r) :
    Calls Try.prog 56 #[.agg #[.int .i64 a0_0, .int .i64 a0_1, .slice A0_2 l0_2.length c0_2]] w fun e w' => e = .returned (.bool r) ∧ Below w.heap.size w w' := by
  have hu44 := Try.underlying44
  have HR0_2 := Aside0.mk hr0_2
  have HC0_2 := Aside0.mk hc0_2
  clear hr0_2 hc0_2
  have HB := Aside0.mk (Below.refl w.heap.size w)
  have H : ((virgationref02_Nodes.f k a0_0 a0_1 l0_2 100000).bind fun t325 => (some (decide (t325 > 100000)))) = some r := h
  clear h
  replace H := Option.bind_eq_some_iff.mp H
  obtain ⟨t325, A20, H⟩ := H
  replace H : (some (decide (t325 > 100000))) = some r := H
  have A2 := Aside0.mk A20
  clear A20
  obtain rfl := Option.some.inj H
  go_enter Try.func56, Try.ntmps56
  go_wp2_with (first | ((with_reducible refine gate_dst (N := 1) rfl ?_); refine box_event ?hg (N := 1) ?hd (cs := #[.int .i64 a0_0, .int .i64 a0_1, .slice A0_2 l0_2.length c0_2]) (t := 44) ?hr ?_; (case hd => rfl); (case hg => rfl); (case hr => first | (go_simp; done) | (go_simp; rfl)); intro gb324 hg w3 hbox hb; have n0_ := Aside0.mk (below_step (by repeat (first | (with_reducible first | exact HB.out | apply below_alloc | apply pw_below_drewN | apply below_drew1) | exact HB.out)) hb); have n1_ := Aside0.mk (hbox); have n2_ := Aside0.mk ((by rw [hg]; exact (below_size (by repeat (first | (with_reducible first | exact HB.out | apply below_alloc | apply pw_below_drewN | apply below_drew1) | exact HB.out))) : w.heap.size ≤ gb324)); have n3_ := Aside0.mk ((by rw [hg]; exact (below_size (by repeat (first | (with_reducible first | exact HB.out | apply below_alloc | apply pw_below_drewN | apply below_drew1) | exact HB.out))) : w.heap.size ≤ gb324)); clear HB; have HB := n0_; have BK324 := n1_; have GW324 := n2_; have GE324 := n3_; clear n0_ n1_ n2_ n3_; clear hb hbox hg; have hcz4_0 : w3.cell? ⟨gb324, 0, none⟩ = some (.int .i64 a0_0) := (blk_cell BK324.out 0).trans rfl; have hcz4_1 : w3.cell? ⟨gb324, 1, none⟩ = some (.int .i64 a0_1) := (blk_cell BK324.out 1).trans rfl; have hcz4_2 : w3.cell? ⟨gb324, 2, none⟩ = some (.slice A0_2 l0_2.length c0_2) := (blk_cell BK324.out 2).trans rfl; have hfz4_0 := blk_frozen BK324.out 0; have hfz4_1 := blk_frozen BK324.out 1; have hfz4_2 := blk_frozen BK324.out 2) | ((with_reducible refine gate_callee (f := 34) rfl ?_); refine goesL_ (some 4) rfl rfl Try.func34 (by kernel_rfl) rfl #[.agg #[.int .i64 a0_0, .int .i64 a0_1, .slice A0_2 l0_2.length c0_2], .int .i64 100000] rfl (by (try simp only [List.map_toArray, List.map_cons, List.map_nil]); first | done | rfl | (simp only [List.length_drop, List.length_take]; rfl)) ?_; (with_reducible refine (virgationref02_Nodes.calls k a0_0 a0_1 _ _ l0_2 100000 t325 _ ?side1 ?side2 A2.out).mono ?_); (case side1 => repeat (first | exact (Kd.C_below HR0_2.out HB.out) | (with_reducible refine Kd.C_alloc ?_ _) | (with_reducible refine Kd.C_drewN ?_ _) | (with_reducible refine Kd.C_drew ?_))); (case side2 => exact HC0_2.out); rintro e w5 ⟨rfl, hb⟩; refine ⟨_, rfl, ?_⟩; have n0_ := Aside0.mk (blk_below (g := gb324) (o := .cells #[.int .i64 a0_0, .int .i64 a0_1, .slice A0_2 l0_2.length c0_2] 44 (0, 0)) (by (with_reducible repeat (first | refine blk_drewN ?_ _ | refine blk_drew ?_ | refine blk_alloc ?_ _)); exact BK324.out) hb); have n1_ := Aside0.mk (below_step (by repeat (first | (with_reducible first | exact HB.out | apply below_alloc | apply pw_below_drewN | apply below_drew1 | refine below_set ?_ GE324.out) | exact HB.out)) hb); clear BK324; clear HB; have BK324 := n0_; have HB := n1_; clear n0_ n1_; (try clear hb); (try clear hb2); (try clear hk); (try clear hi)))
  go_ret
  exact ⟨by first | rfl | (simp [errW_none, errW_some] <;> rfl) | (simp [*, errW_none, errW_some] <;> rfl), by repeat (first | (with_reducible first | exact HB.out | apply below_alloc | apply pw_below_drewN | apply below_drew1 | refine below_set ?_ GE324.out) | exact HB.out)⟩
def virgationref02_Same.f (k : Nat) (a0_0 : Int) (a0_1 : Int) (l0_2 : List (S44)) (a1_0 : Int) (a1_1 : Int) (l1_2 : List (S44)) : Option (Bool) := (virgationref02_Large.f k a0_0 a0_1 l0_2).bind fun t328 => (if t328 = true then (some false) else ((virgationref02_Large.f k a1_0 a1_1 l1_2).bind fun t329 => (if t329 = true then (some false) else ((virgationref02_Equal.f k a0_0 a0_1 l0_2 a1_0 a1_1 l1_2).bind fun t330 => (some t330)))))
set_option maxHeartbeats 8000000 in
set_option maxRecDepth 100000 in
theorem virgationref02_Same.calls (k : Nat) (a0_0 : Int) (a0_1 : Int) (A0_2 : Option Addr) (c0_2 : Nat) (l0_2 : List (S44)) (a1_0 : Int) (a1_1 : Int) (A1_2 : Option Addr) (c1_2 : Nat) (l1_2 : List (S44)) (r : Bool) (w : World) (hr0_2 : Kd.C k44 w A0_2 l0_2.length l0_2) (hc0_2 : l0_2.length ≤ c0_2) (hr1_2 : Kd.C k44 w A1_2 l1_2.length l1_2) (hc1_2 : l1_2.length ≤ c1_2) (h : virgationref02_Same.f k a0_0 a0_1 l0_2 a1_0 a1_1 l1_2 = some r) :
    Calls Try.prog 23 #[.agg #[.int .i64 a0_0, .int .i64 a0_1, .slice A0_2 l0_2.length c0_2], .agg #[.int .i64 a1_0, .int .i64 a1_1, .slice A1_2 l1_2.length c1_2]] w fun e w' => e = .returned (.bool r) ∧ Below w.heap.size w w' := by
  have hu44 := Try.underlying44
  have HR0_2 := Aside0.mk hr0_2
  have HC0_2 := Aside0.mk hc0_2
  clear hr0_2 hc0_2
  have HR1_2 := Aside0.mk hr1_2
  have HC1_2 := Aside0.mk hc1_2
  clear hr1_2 hc1_2
  have HB := Aside0.mk (Below.refl w.heap.size w)
  have H : ((virgationref02_Large.f k a0_0 a0_1 l0_2).bind fun t328 => (if t328 = true then (some false) else ((virgationref02_Large.f k a1_0 a1_1 l1_2).bind fun t329 => (if t329 = true then (some false) else ((virgationref02_Equal.f k a0_0 a0_1 l0_2 a1_0 a1_1 l1_2).bind fun t330 => (some t330)))))) = some r := h
  clear h
  replace H := Option.bind_eq_some_iff.mp H
  obtain ⟨t328, A30, H⟩ := H
  replace H : (if t328 = true then (some false) else ((virgationref02_Large.f k a1_0 a1_1 l1_2).bind fun t329 => (if t329 = true then (some false) else ((virgationref02_Equal.f k a0_0 a0_1 l0_2 a1_0 a1_1 l1_2).bind fun t330 => (some t330))))) = some r := H
  have A3 := Aside0.mk A30
  clear A30
  by_cases c4 : t328 = true
  · subst c4
    have H1 : (some false) = some r := by rw [if_pos rfl] at H; exact H
    clear H
    have H := H1
    clear H1
    obtain rfl := Option.some.inj H
    go_enter Try.func23, Try.ntmps23
    go_wp2_with (first | ((with_reducible refine gate_dst (N := 2) rfl ?_); refine box_event ?hg (N := 2) ?hd (cs := #[.int .i64 a0_0, .int .i64 a0_1, .slice A0_2 l0_2.length c0_2]) (t := 44) ?hr ?_; (case hd => rfl); (case hg => rfl); (case hr => first | (go_simp; done) | (go_simp; rfl)); intro gb326 hg w5 hbox hb; have n0_ := Aside0.mk (below_step (by repeat (first | (with_reducible first | exact HB.out | apply below_alloc | apply pw_below_drewN | apply below_drew1) | exact HB.out)) hb); have n1_ := Aside0.mk (hbox); have n2_ := Aside0.mk ((by rw [hg]; exact (below_size (by repeat (first | (with_reducible first | exact HB.out | apply below_alloc | apply pw_below_drewN | apply below_drew1) | exact HB.out))) : w.heap.size ≤ gb326)); have n3_ := Aside0.mk ((by rw [hg]; exact (below_size (by repeat (first | (with_reducible first | exact HB.out | apply below_alloc | apply pw_below_drewN | apply below_drew1) | exact HB.out))) : w.heap.size ≤ gb326)); clear HB; have HB := n0_; have BK326 := n1_; have GW326 := n2_; have GE326 := n3_; clear n0_ n1_ n2_ n3_; clear hb hbox hg) | ((with_reducible refine gate_dst (N := 3) rfl ?_); refine box_event ?hg (N := 3) ?hd (cs := #[.int .i64 a1_0, .int .i64 a1_1, .slice A1_2 l1_2.length c1_2]) (t := 44) ?hr ?_; (case hd => rfl); (case hg => rfl); (case hr => first | (go_simp; done) | (go_simp; rfl)); intro gb327 hg w6 hbox hb; have n0_ := Aside0.mk (blk_below (g := gb326) (o := .cells #[.int .i64 a0_0, .int .i64 a0_1, .slice A0_2 l0_2.length c0_2] 44 (0, 0)) (by (with_reducible repeat (first | refine blk_drewN ?_ _ | refine blk_drew ?_ | refine blk_alloc ?_ _)); exact BK326.out) hb); have n1_ := Aside0.mk (below_step (by repeat (first | (with_reducible first | exact HB.out | apply below_alloc | apply pw_below_drewN | apply below_drew1 | refine below_set ?_ GE326.out) | exact HB.out)) hb); have n2_ := Aside0.mk (hbox); have n3_ := Aside0.mk ((by rw [hg]; exact (below_size (by repeat (first | (with_reducible first | exact HB.out | apply below_alloc | apply pw_below_drewN | apply below_drew1 | refine below_set ?_ GE326.out) | exact HB.out))) : w.heap.size ≤ gb327)); have n4_ := Aside0.mk ((by rw [hg]; exact (below_size (by repeat (first | (with_reducible first | exact HB.out | apply below_alloc | apply pw_below_drewN | apply below_drew1 | refine below_set ?_ GE326.out) | exact HB.out))) : w.heap.size ≤ gb327)); have n5_ := Aside0.mk ((by rw [hg]; exact Nat.ne_of_lt (blk_lt (g := gb326) (o := .cells #[.int .i64 a0_0, .int .i64 a0_1, .slice A0_2 l0_2.length c0_2] 44 (0, 0)) (by (with_reducible repeat (first | refine blk_drewN ?_ _ | refine blk_drew ?_ | refine blk_alloc ?_ _)); exact BK326.out)) : gb326 ≠ gb327)); have n6_ := Aside0.mk ((by rw [hg]; exact Nat.ne_of_gt (blk_lt (g := gb326) (o := .cells #[.int .i64 a0_0, .int .i64 a0_1, .slice A0_2 l0_2.length c0_2] 44 (0, 0)) (by (with_reducible repeat (first | refine blk_drewN ?_ _ | refine blk_drew ?_ | refine blk_alloc ?_ _)); exact BK326.out)) : gb327 ≠ gb326)); clear BK326; clear HB; have BK326 := n0_; have HB := n1_; have BK327 := n2_; have GW327 := n3_; have GE327 := n4_; have NB326_327 := n5_; have NB327_326 := n6_; clear n0_ n1_ n2_ n3_ n4_ n5_ n6_; clear hb hbox hg; have hnb7 := NB326_327.out; have hnc7 := NB327_326.out; have hcz8_0 : w6.cell? ⟨gb326, 0, none⟩ = some (.int .i64 a0_0) := (blk_cell BK326.out 0).trans rfl; have hcz8_1 : w6.cell? ⟨gb326, 1, none⟩ = some (.int .i64 a0_1) := (blk_cell BK326.out 1).trans rfl; have hcz8_2 : w6.cell? ⟨gb326, 2, none⟩ = some (.slice A0_2 l0_2.length c0_2) := (blk_cell BK326.out 2).trans rfl; have hfz8_0 := blk_frozen BK326.out 0; have hfz8_1 := blk_frozen BK326.out 1; have hfz8_2 := blk_frozen BK326.out 2) | ((with_reducible refine gate_callee (f := 56) rfl ?_); refine goesL_ (some 6) rfl rfl Try.func56 (by kernel_rfl) rfl #[.agg #[.int .i64 a0_0, .int .i64 a0_1, .slice A0_2 l0_2.length c0_2]] rfl (by (try simp only [List.map_toArray, List.map_cons, List.map_nil]); first | done | rfl | (simp only [List.length_drop, List.length_take]; rfl)) ?_; (with_reducible refine (virgationref02_Large.calls k a0_0 a0_1 _ _ l0_2 true _ ?side1 ?side2 A3.out).mono ?_); (case side1 => repeat (first | exact (Kd.C_below HR0_2.out HB.out) | (with_reducible refine Kd.C_alloc ?_ _) | (with_reducible refine Kd.C_drewN ?_ _) | (with_reducible refine Kd.C_drew ?_))); (case side2 => exact HC0_2.out); rintro e w9 ⟨rfl, hb⟩; refine ⟨_, rfl, ?_⟩; have n0_ := Aside0.mk (blk_below (g := gb326) (o := .cells #[.int .i64 a0_0, .int .i64 a0_1, .slice A0_2 l0_2.length c0_2] 44 (0, 0)) (by (with_reducible repeat (first | refine blk_drewN ?_ _ | refine blk_drew ?_ | refine blk_alloc ?_ _)); exact BK326.out) hb); have n1_ := Aside0.mk (blk_below (g := gb327) (o := .cells #[.int .i64 a1_0, .int .i64 a1_1, .slice A1_2 l1_2.length c1_2] 44 (0, 0)) (by (with_reducible repeat (first | refine blk_drewN ?_ _ | refine blk_drew ?_ | refine blk_alloc ?_ _)); exact BK327.out) hb); have n2_ := Aside0.mk (below_step (by repeat (first | (with_reducible first | exact HB.out | apply below_alloc | apply pw_below_drewN | apply below_drew1 | refine below_set ?_ GE326.out | refine below_set ?_ GE327.out) | exact HB.out)) hb); clear BK326; clear BK327; clear HB; have BK326 := n0_; have BK327 := n1_; have HB := n2_; clear n0_ n1_ n2_; (try clear hb); (try clear hb2); (try clear hk); (try clear hi)))
    go_ret
    exact ⟨by first | rfl | (simp [errW_none, errW_some] <;> rfl) | (simp [*, errW_none, errW_some] <;> rfl), by repeat (first | (with_reducible first | exact HB.out | apply below_alloc | apply pw_below_drewN | apply below_drew1 | refine below_set ?_ GE326.out | refine below_set ?_ GE327.out) | exact HB.out)⟩
  · replace c4 := Bool.eq_false_iff.mpr c4
    subst c4
    have H1 : ((virgationref02_Large.f k a1_0 a1_1 l1_2).bind fun t329 => (if t329 = true then (some false) else ((virgationref02_Equal.f k a0_0 a0_1 l0_2 a1_0 a1_1 l1_2).bind fun t330 => (some t330)))) = some r := by rw [if_neg (show ¬ (false = true) by decide)] at H; exact H
    clear H
    have H := H1
    clear H1
    replace H := Option.bind_eq_some_iff.mp H
    obtain ⟨t329, A100, H⟩ := H
    replace H : (if t329 = true then (some false) else ((virgationref02_Equal.f k a0_0 a0_1 l0_2 a1_0 a1_1 l1_2).bind fun t330 => (some t330))) = some r := H
    have A10 := Aside0.mk A100
    clear A100
    by_cases c11 : t329 = true
    · subst c11
      have H1 : (some false) = some r := by rw [if_pos rfl] at H; exact H
      clear H
      have H := H1
      clear H1
      obtain rfl := Option.some.inj H
      go_enter Try.func23, Try.ntmps23
      go_wp2_with (first | ((with_reducible refine gate_dst (N := 2) rfl ?_); refine box_event ?hg (N := 2) ?hd (cs := #[.int .i64 a0_0, .int .i64 a0_1, .slice A0_2 l0_2.length c0_2]) (t := 44) ?hr ?_; (case hd => rfl); (case hg => rfl); (case hr => first | (go_simp; done) | (go_simp; rfl)); intro gb326 hg w12 hbox hb; have n0_ := Aside0.mk (below_step (by repeat (first | (with_reducible first | exact HB.out | apply below_alloc | apply pw_below_drewN | apply below_drew1) | exact HB.out)) hb); have n1_ := Aside0.mk (hbox); have n2_ := Aside0.mk ((by rw [hg]; exact (below_size (by repeat (first | (with_reducible first | exact HB.out | apply below_alloc | apply pw_below_drewN | apply below_drew1) | exact HB.out))) : w.heap.size ≤ gb326)); have n3_ := Aside0.mk ((by rw [hg]; exact (below_size (by repeat (first | (with_reducible first | exact HB.out | apply below_alloc | apply pw_below_drewN | apply below_drew1) | exact HB.out))) : w.heap.size ≤ gb326)); clear HB; have HB := n0_; have BK326 := n1_; have GW326 := n2_; have GE326 := n3_; clear n0_ n1_ n2_ n3_; clear hb hbox hg) | ((with_reducible refine gate_dst (N := 3) rfl ?_); refine box_event ?hg (N := 3) ?hd (cs := #[.int .i64 a1_0, .int .i64 a1_1, .slice A1_2 l1_2.length c1_2]) (t := 44) ?hr ?_; (case hd => rfl); (case hg => rfl); (case hr => first | (go_simp; done) | (go_simp; rfl)); intro gb327 hg w13 hbox hb; have n0_ := Aside0.mk (blk_below (g := gb326) (o := .cells #[.int .i64 a0_0, .int .i64 a0_1, .slice A0_2 l0_2.length c0_2] 44 (0, 0)) (by (with_reducible repeat (first | refine blk_drewN ?_ _ | refine blk_drew ?_ | refine blk_alloc ?_ _)); exact BK326.out) hb); have n1_ := Aside0.mk (below_step (by repeat (first | (with_reducible first | exact HB.out | apply below_alloc | apply pw_below_drewN | apply below_drew1 | refine below_set ?_ GE326.out) | exact HB.out)) hb); have n2_ := Aside0.mk (hbox); have n3_ := Aside0.mk ((by rw [hg]; exact (below_size (by repeat (first | (with_reducible first | exact HB.out | apply below_alloc | apply pw_below_drewN | apply below_drew1 | refine below_set ?_ GE326.out) | exact HB.out))) : w.heap.size ≤ gb327)); have n4_ := Aside0.mk ((by rw [hg]; exact (below_size (by repeat (first | (with_reducible first | exact HB.out | apply below_alloc | apply pw_below_drewN | apply below_drew1 | refine below_set ?_ GE326.out) | exact HB.out))) : w.heap.size ≤ gb327)); have n5_ := Aside0.mk ((by rw [hg]; exact Nat.ne_of_lt (blk_lt (g := gb326) (o := .cells #[.int .i64 a0_0, .int .i64 a0_1, .slice A0_2 l0_2.length c0_2] 44 (0, 0)) (by (with_reducible repeat (first | refine blk_drewN ?_ _ | refine blk_drew ?_ | refine blk_alloc ?_ _)); exact BK326.out)) : gb326 ≠ gb327)); have n6_ := Aside0.mk ((by rw [hg]; exact Nat.ne_of_gt (blk_lt (g := gb326) (o := .cells #[.int .i64 a0_0, .int .i64 a0_1, .slice A0_2 l0_2.length c0_2] 44 (0, 0)) (by (with_reducible repeat (first | refine blk_drewN ?_ _ | refine blk_drew ?_ | refine blk_alloc ?_ _)); exact BK326.out)) : gb327 ≠ gb326)); clear BK326; clear HB; have BK326 := n0_; have HB := n1_; have BK327 := n2_; have GW327 := n3_; have GE327 := n4_; have NB326_327 := n5_; have NB327_326 := n6_; clear n0_ n1_ n2_ n3_ n4_ n5_ n6_; clear hb hbox hg; have hnb14 := NB326_327.out; have hnc14 := NB327_326.out; have hcz15_0 : w13.cell? ⟨gb326, 0, none⟩ = some (.int .i64 a0_0) := (blk_cell BK326.out 0).trans rfl; have hcz15_1 : w13.cell? ⟨gb326, 1, none⟩ = some (.int .i64 a0_1) := (blk_cell BK326.out 1).trans rfl; have hcz15_2 : w13.cell? ⟨gb326, 2, none⟩ = some (.slice A0_2 l0_2.length c0_2) := (blk_cell BK326.out 2).trans rfl; have hfz15_0 := blk_frozen BK326.out 0; have hfz15_1 := blk_frozen BK326.out 1; have hfz15_2 := blk_frozen BK326.out 2) | ((with_reducible refine gate_callee (f := 56) rfl ?_); refine goesL_ (some 6) rfl rfl Try.func56 (by kernel_rfl) rfl #[.agg #[.int .i64 a0_0, .int .i64 a0_1, .slice A0_2 l0_2.length c0_2]] rfl (by (try simp only [List.map_toArray, List.map_cons, List.map_nil]); first | done | rfl | (simp only [List.length_drop, List.length_take]; rfl)) ?_; (with_reducible refine (virgationref02_Large.calls k a0_0 a0_1 _ _ l0_2 false _ ?side1 ?side2 A3.out).mono ?_); (case side1 => repeat (first | exact (Kd.C_below HR0_2.out HB.out) | (with_reducible refine Kd.C_alloc ?_ _) | (with_reducible refine Kd.C_drewN ?_ _) | (with_reducible refine Kd.C_drew ?_))); (case side2 => exact HC0_2.out); rintro e w16 ⟨rfl, hb⟩; refine ⟨_, rfl, ?_⟩; have n0_ := Aside0.mk (blk_below (g := gb326) (o := .cells #[.int .i64 a0_0, .int .i64 a0_1, .slice A0_2 l0_2.length c0_2] 44 (0, 0)) (by (with_reducible repeat (first | refine blk_drewN ?_ _ | refine blk_drew ?_ | refine blk_alloc ?_ _)); exact BK326.out) hb); have n1_ := Aside0.mk (blk_below (g := gb327) (o := .cells #[.int .i64 a1_0, .int .i64 a1_1, .slice A1_2 l1_2.length c1_2] 44 (0, 0)) (by (with_reducible repeat (first | refine blk_drewN ?_ _ | refine blk_drew ?_ | refine blk_alloc ?_ _)); exact BK327.out) hb); have n2_ := Aside0.mk (below_step (by repeat (first | (with_reducible first | exact HB.out | apply below_alloc | apply pw_below_drewN | apply below_drew1 | refine below_set ?_ GE326.out | refine below_set ?_ GE327.out) | exact HB.out)) hb); clear BK326; clear BK327; clear HB; have BK326 := n0_; have BK327 := n1_; have HB := n2_; clear n0_ n1_ n2_; (try clear hb); (try clear hb2); (try clear hk); (try clear hi); have hcz17_0 : w16.cell? ⟨gb327, 0, none⟩ = some (.int .i64 a1_0) := (blk_cell BK327.out 0).trans rfl; have hcz17_1 : w16.cell? ⟨gb327, 1, none⟩ = some (.int .i64 a1_1) := (blk_cell BK327.out 1).trans rfl; have hcz17_2 : w16.cell? ⟨gb327, 2, none⟩ = some (.slice A1_2 l1_2.length c1_2) := (blk_cell BK327.out 2).trans rfl; have hfz17_0 := blk_frozen BK327.out 0; have hfz17_1 := blk_frozen BK327.out 1; have hfz17_2 := blk_frozen BK327.out 2) | (go_at_call 56; (with_reducible refine (virgationref02_Large.calls k a1_0 a1_1 _ _ l1_2 true _ ?side1 ?side2 A10.out).mono ?_); (case side1 => repeat (first | exact (Kd.C_below HR1_2.out HB.out) | (with_reducible refine Kd.C_alloc ?_ _) | (with_reducible refine Kd.C_drewN ?_ _) | (with_reducible refine Kd.C_drew ?_))); (case side2 => exact HC1_2.out); rintro e w18 ⟨rfl, hb⟩; have n0_ := Aside0.mk (blk_below (g := gb326) (o := .cells #[.int .i64 a0_0, .int .i64 a0_1, .slice A0_2 l0_2.length c0_2] 44 (0, 0)) (by (with_reducible repeat (first | refine blk_drewN ?_ _ | refine blk_drew ?_ | refine blk_alloc ?_ _)); exact BK326.out) hb); have n1_ := Aside0.mk (blk_below (g := gb327) (o := .cells #[.int .i64 a1_0, .int .i64 a1_1, .slice A1_2 l1_2.length c1_2] 44 (0, 0)) (by (with_reducible repeat (first | refine blk_drewN ?_ _ | refine blk_drew ?_ | refine blk_alloc ?_ _)); exact BK327.out) hb); have n2_ := Aside0.mk (below_step (by repeat (first | (with_reducible first | exact HB.out | apply below_alloc | apply pw_below_drewN | apply below_drew1 | refine below_set ?_ GE326.out | refine below_set ?_ GE327.out) | exact HB.out)) hb); clear BK326; clear BK327; clear HB; have BK326 := n0_; have BK327 := n1_; have HB := n2_; clear n0_ n1_ n2_; (try clear hb); (try clear hb2); (try clear hk); (try clear hi)))
      go_ret
      exact ⟨by first | rfl | (simp [errW_none, errW_some] <;> rfl) | (simp [*, errW_none, errW_some] <;> rfl), by repeat (first | (with_reducible first | exact HB.out | apply below_alloc | apply pw_below_drewN | apply below_drew1 | refine below_set ?_ GE326.out | refine below_set ?_ GE327.out) | exact HB.out)⟩
    · replace c11 := Bool.eq_false_iff.mpr c11
      subst c11
      have H1 : ((virgationref02_Equal.f k a0_0 a0_1 l0_2 a1_0 a1_1 l1_2).bind fun t330 => (some t330)) = some r := by rw [if_neg (show ¬ (false = true) by decide)] at H; exact H
      clear H
      have H := H1
      clear H1
      replace H := Option.bind_eq_some_iff.mp H
      obtain ⟨t330, A190, H⟩ := H
      replace H : (some t330) = some r := H
      have A19 := Aside0.mk A190
      clear A190
      obtain rfl := Option.some.inj H
      go_enter Try.func23, Try.ntmps23
      go_wp2_with (first | ((with_reducible refine gate_dst (N := 2) rfl ?_); refine box_event ?hg (N := 2) ?hd (cs := #[.int .i64 a0_0, .int .i64 a0_1, .slice A0_2 l0_2.length c0_2]) (t := 44) ?hr ?_; (case hd => rfl); (case hg => rfl); (case hr => first | (go_simp; done) | (go_simp; rfl)); intro gb326 hg w20 hbox hb; have n0_ := Aside0.mk (below_step (by repeat (first | (with_reducible first | exact HB.out | apply below_alloc | apply pw_below_drewN | apply below_drew1) | exact HB.out)) hb); have n1_ := Aside0.mk (hbox); have n2_ := Aside0.mk ((by rw [hg]; exact (below_size (by repeat (first | (with_reducible first | exact HB.out | apply below_alloc | apply pw_below_drewN | apply below_drew1) | exact HB.out))) : w.heap.size ≤ gb326)); have n3_ := Aside0.mk ((by rw [hg]; exact (below_size (by repeat (first | (with_reducible first | exact HB.out | apply below_alloc | apply pw_below_drewN | apply below_drew1) | exact HB.out))) : w.heap.size ≤ gb326)); clear HB; have HB := n0_; have BK326 := n1_; have GW326 := n2_; have GE326 := n3_; clear n0_ n1_ n2_ n3_; clear hb hbox hg) | ((with_reducible refine gate_dst (N := 3) rfl ?_); refine box_event ?hg (N := 3) ?hd (cs := #[.int .i64 a1_0, .int .i64 a1_1, .slice A1_2 l1_2.length c1_2]) (t := 44) ?hr ?_; (case hd => rfl); (case hg => rfl); (case hr => first | (go_simp; done) | (go_simp; rfl)); intro gb327 hg w21 hbox hb; have n0_ := Aside0.mk (blk_below (g := gb326) (o := .cells #[.int .i64 a0_0, .int .i64 a0_1, .slice A0_2 l0_2.length c0_2] 44 (0, 0)) (by (with_reducible repeat (first | refine blk_drewN ?_ _ | refine blk_drew ?_ | refine blk_alloc ?_ _)); exact BK326.out) hb); have n1_ := Aside0.mk (below_step (by repeat (first | (with_reducible first | exact HB.out | apply below_alloc | apply pw_below_drewN | apply below_drew1 | refine below_set ?_ GE326.out) | exact HB.out)) hb); have n2_ := Aside0.mk (hbox); have n3_ := Aside0.mk ((by rw [hg]; exact (below_size (by repeat (first | (with_reducible first | exact HB.out | apply below_alloc | apply pw_below_drewN | apply below_drew1 | refine below_set ?_ GE326.out) | exact HB.out))) : w.heap.size ≤ gb327)); have n4_ := Aside0.mk ((by rw [hg]; exact (below_size (by repeat (first | (with_reducible first | exact HB.out | apply below_alloc | apply pw_below_drewN | apply below_drew1 | refine below_set ?_ GE326.out) | exact HB.out))) : w.heap.size ≤ gb327)); have n5_ := Aside0.mk ((by rw [hg]; exact Nat.ne_of_lt (blk_lt (g := gb326) (o := .cells #[.int .i64 a0_0, .int .i64 a0_1, .slice A0_2 l0_2.length c0_2] 44 (0, 0)) (by (with_reducible repeat (first | refine blk_drewN ?_ _ | refine blk_drew ?_ | refine blk_alloc ?_ _)); exact BK326.out)) : gb326 ≠ gb327)); have n6_ := Aside0.mk ((by rw [hg]; exact Nat.ne_of_gt (blk_lt (g := gb326) (o := .cells #[.int .i64 a0_0, .int .i64 a0_1, .slice A0_2 l0_2.length c0_2] 44 (0, 0)) (by (with_reducible repeat (first | refine blk_drewN ?_ _ | refine blk_drew ?_ | refine blk_alloc ?_ _)); exact BK326.out)) : gb327 ≠ gb326)); clear BK326; clear HB; have BK326 := n0_; have HB := n1_; have BK327 := n2_; have GW327 := n3_; have GE327 := n4_; have NB326_327 := n5_; have NB327_326 := n6_; clear n0_ n1_ n2_ n3_ n4_ n5_ n6_; clear hb hbox hg; have hnb22 := NB326_327.out; have hnc22 := NB327_326.out; have hcz23_0 : w21.cell? ⟨gb326, 0, none⟩ = some (.int .i64 a0_0) := (blk_cell BK326.out 0).trans rfl; have hcz23_1 : w21.cell? ⟨gb326, 1, none⟩ = some (.int .i64 a0_1) := (blk_cell BK326.out 1).trans rfl; have hcz23_2 : w21.cell? ⟨gb326, 2, none⟩ = some (.slice A0_2 l0_2.length c0_2) := (blk_cell BK326.out 2).trans rfl; have hfz23_0 := blk_frozen BK326.out 0; have hfz23_1 := blk_frozen BK326.out 1; have hfz23_2 := blk_frozen BK326.out 2) | ((with_reducible refine gate_callee (f := 56) rfl ?_); refine goesL_ (some 6) rfl rfl Try.func56 (by kernel_rfl) rfl #[.agg #[.int .i64 a0_0, .int .i64 a0_1, .slice A0_2 l0_2.length c0_2]] rfl (by (try simp only [List.map_toArray, List.map_cons, List.map_nil]); first | done | rfl | (simp only [List.length_drop, List.length_take]; rfl)) ?_; (with_reducible refine (virgationref02_Large.calls k a0_0 a0_1 _ _ l0_2 false _ ?side1 ?side2 A3.out).mono ?_); (case side1 => repeat (first | exact (Kd.C_below HR0_2.out HB.out) | (with_reducible refine Kd.C_alloc ?_ _) | (with_reducible refine Kd.C_drewN ?_ _) | (with_reducible refine Kd.C_drew ?_))); (case side2 => exact HC0_2.out); rintro e w24 ⟨rfl, hb⟩; refine ⟨_, rfl, ?_⟩; have n0_ := Aside0.mk (blk_below (g := gb326) (o := .cells #[.int .i64 a0_0, .int .i64 a0_1, .slice A0_2 l0_2.length c0_2] 44 (0, 0)) (by (with_reducible repeat (first | refine blk_drewN ?_ _ | refine blk_drew ?_ | refine blk_alloc ?_ _)); exact BK326.out) hb); have n1_ := Aside0.mk (blk_below (g := gb327) (o := .cells #[.int .i64 a1_0, .int .i64 a1_1, .slice A1_2 l1_2.length c1_2] 44 (0, 0)) (by (with_reducible repeat (first | refine blk_drewN ?_ _ | refine blk_drew ?_ | refine blk_alloc ?_ _)); exact BK327.out) hb); have n2_ := Aside0.mk (below_step (by repeat (first | (with_reducible first | exact HB.out | apply below_alloc | apply pw_below_drewN | apply below_drew1 | refine below_set ?_ GE326.out | refine below_set ?_ GE327.out) | exact HB.out)) hb); clear BK326; clear BK327; clear HB; have BK326 := n0_; have BK327 := n1_; have HB := n2_; clear n0_ n1_ n2_; (try clear hb); (try clear hb2); (try clear hk); (try clear hi); have hcz25_0 : w24.cell? ⟨gb327, 0, none⟩ = some (.int .i64 a1_0) := (blk_cell BK327.out 0).trans rfl; have hcz25_1 : w24.cell? ⟨gb327, 1, none⟩ = some (.int .i64 a1_1) := (blk_cell BK327.out 1).trans rfl; have hcz25_2 : w24.cell? ⟨gb327, 2, none⟩ = some (.slice A1_2 l1_2.length c1_2) := (blk_cell BK327.out 2).trans rfl; have hfz25_0 := blk_frozen BK327.out 0; have hfz25_1 := blk_frozen BK327.out 1; have hfz25_2 := blk_frozen BK327.out 2) | (go_at_call 56; (with_reducible refine (virgationref02_Large.calls k a1_0 a1_1 _ _ l1_2 false _ ?side1 ?side2 A10.out).mono ?_); (case side1 => repeat (first | exact (Kd.C_below HR1_2.out HB.out) | (with_reducible refine Kd.C_alloc ?_ _) | (with_reducible refine Kd.C_drewN ?_ _) | (with_reducible refine Kd.C_drew ?_))); (case side2 => exact HC1_2.out); rintro e w26 ⟨rfl, hb⟩; have n0_ := Aside0.mk (blk_below (g := gb326) (o := .cells #[.int .i64 a0_0, .int .i64 a0_1, .slice A0_2 l0_2.length c0_2] 44 (0, 0)) (by (with_reducible repeat (first | refine blk_drewN ?_ _ | refine blk_drew ?_ | refine blk_alloc ?_ _)); exact BK326.out) hb); have n1_ := Aside0.mk (blk_below (g := gb327) (o := .cells #[.int .i64 a1_0, .int .i64 a1_1, .slice A1_2 l1_2.length c1_2] 44 (0, 0)) (by (with_reducible repeat (first | refine blk_drewN ?_ _ | refine blk_drew ?_ | refine blk_alloc ?_ _)); exact BK327.out) hb); have n2_ := Aside0.mk (below_step (by repeat (first | (with_reducible first | exact HB.out | apply below_alloc | apply pw_below_drewN | apply below_drew1 | refine below_set ?_ GE326.out | refine below_set ?_ GE327.out) | exact HB.out)) hb); clear BK326; clear BK327; clear HB; have BK326 := n0_; have BK327 := n1_; have HB := n2_; clear n0_ n1_ n2_; (try clear hb); (try clear hb2); (try clear hk); (try clear hi); have hcz27_0 : w26.cell? ⟨gb326, 0, none⟩ = some (.int .i64 a0_0) := (blk_cell BK326.out 0).trans rfl; have hcz27_1 : w26.cell? ⟨gb326, 1, none⟩ = some (.int .i64 a0_1) := (blk_cell BK326.out 1).trans rfl; have hcz27_2 : w26.cell? ⟨gb326, 2, none⟩ = some (.slice A0_2 l0_2.length c0_2) := (blk_cell BK326.out 2).trans rfl; have hfz27_0 := blk_frozen BK326.out 0; have hfz27_1 := blk_frozen BK326.out 1; have hfz27_2 := blk_frozen BK326.out 2; have hcz28_0 : w26.cell? ⟨gb327, 0, none⟩ = some (.int .i64 a1_0) := (blk_cell BK327.out 0).trans rfl; have hcz28_1 : w26.cell? ⟨gb327, 1, none⟩ = some (.int .i64 a1_1) := (blk_cell BK327.out 1).trans rfl; have hcz28_2 : w26.cell? ⟨gb327, 2, none⟩ = some (.slice A1_2 l1_2.length c1_2) := (blk_cell BK327.out 2).trans rfl; have hfz28_0 := blk_frozen BK327.out 0; have hfz28_1 := blk_frozen BK327.out 1; have hfz28_2 := blk_frozen BK327.out 2) | (go_at_call 26; (with_reducible refine (virgationref02_Equal.calls k a0_0 a0_1 _ _ l0_2 a1_0 a1_1 _ _ l1_2 t330 _ ?side1 ?side2 ?side3 ?side4 A19.out).mono ?_); (case side1 => repeat (first | exact (Kd.C_below HR0_2.out HB.out) | (with_reducible refine Kd.C_alloc ?_ _) | (with_reducible refine Kd.C_drewN ?_ _) | (with_reducible refine Kd.C_drew ?_))); (case side2 => exact HC0_2.out); (case side3 => repeat (first | exact (Kd.C_below HR1_2.out HB.out) | (with_reducible refine Kd.C_alloc ?_ _) | (with_reducible refine Kd.C_drewN ?_ _) | (with_reducible refine Kd.C_drew ?_))); (case side4 => exact HC1_2.out); rintro e w29 ⟨rfl, hb⟩; have n0_ := Aside0.mk (blk_below (g := gb326) (o := .cells #[.int .i64 a0_0, .int .i64 a0_1, .slice A0_2 l0_2.length c0_2] 44 (0, 0)) (by (with_reducible repeat (first | refine blk_drewN ?_ _ | refine blk_drew ?_ | refine blk_alloc ?_ _)); exact BK326.out) hb); have n1_ := Aside0.mk (blk_below (g := gb327) (o := .cells #[.int .i64 a1_0, .int .i64 a1_1, .slice A1_2 l1_2.length c1_2] 44 (0, 0)) (by (with_reducible repeat (first | refine blk_drewN ?_ _ | refine blk_drew ?_ | refine blk_alloc ?_ _)); exact BK327.out) hb); have n2_ := Aside0.mk (below_step (by repeat (first | (with_reducible first | exact HB.out | apply below_alloc | apply pw_below_drewN | apply below_drew1 | refine below_set ?_ GE326.out | refine below_set ?_ GE327.out) | exact HB.out)) hb); clear BK326; clear BK327; clear HB; have BK326 := n0_; have BK327 := n1_; have HB := n2_; clear n0_ n1_ n2_; (try clear hb); (try clear hb2); (try clear hk); (try clear hi)))
      go_ret
      exact ⟨by first | rfl | (simp [errW_none, errW_some] <;> rfl) | (simp [*, errW_none, errW_some] <;> rfl), by repeat (first | (with_reducible first | exact HB.out | apply below_alloc | apply pw_below_drewN | apply below_drew1 | refine below_set ?_ GE326.out | refine below_set ?_ GE327.out) | exact HB.out)⟩
end Go.Proofs.Ytfhgoebgnilfaaa.I
namespace Go.Proofs.Ytfhgoebgnilfaaa.I
open Go.RowKit Go.Proofs.YtfhgoebgnilfaaaW.PrintWords
set_option linter.unusedVariables false
theorem infer_copied_ev (N : Nat) : ∀ (a b : Int) (l : List S44), SizeOf.sizeOf l < N → tcntL l ≤ 1000 → Ev (fun k => infer_copied.f k a b l) (a, b, l) := by
  induction N with
  | zero => intro a b l h; omega
  | succ N ih =>
  intro a b l hN h1
  have hlen := tcntL_ge l
  have loop : ∀ (n i : Nat) (x3 : List S44), l.length - i = n → i ≤ l.length → x3.length = i → Ev (fun k => infer_copied.l0 k l (l.length : Int) (i : Int) a b x3) (a, b, x3 ++ l.drop i) := by
    intro n
    induction n with
    | zero =>
      intro i x3 hn hi h2
      have hd : l.drop i = [] := List.drop_eq_nil_of_le (by omega)
      rw [hd, List.append_nil]
      exact Ev.step (fun k => by rw [infer_copied.l0, if_neg (by omega)]) (Ev.now _)
    | succ n ihn =>
      intro i x3 hn hi h2
      have hil : i < l.length := by omega
      have hch := tcnt_child l i hil
      refine Ev.step (fun k => by rw [infer_copied.l0, if_pos (by omega), if_pos (by omega), if_pos (by omega)]) ?_
      refine Ev.bind (a := ((rd_T44 l (i : Int)).f0, (rd_T44 l (i : Int)).f1, (rd_T44 l (i : Int)).f2)) ?_ ?_
      · exact ih _ _ _ (by have := rd_T44_mem l i hil; omega) (by omega)
      · refine Ev.ifp (by omega) ?_
        have ew : wrap64 ((i : Int) + 1) = ((i + 1 : Nat) : Int) := by unfold wrap64; omega
        rw [ew, rd_T44_drop l i hil, show (⟨(rd_T44 l (i : Int)).f0, (rd_T44 l (i : Int)).f1, (rd_T44 l (i : Int)).f2⟩ : S44) = rd_T44 l (i : Int) from by cases rd_T44 l (i : Int); rfl]
        have := ihn (i + 1) (x3 ++ [rd_T44 l (i : Int)]) (by omega) (by omega) (by rw [List.length_append, h2]; rfl)
        rw [List.append_assoc] at this
        exact this
  refine Ev.step (fun k => by rw [infer_copied.f]) ?_
  have := loop l.length 0 [] (by omega) (by omega) rfl
  rw [List.drop_zero] at this
  exact this
theorem equal_refl_ev (N : Nat) : ∀ (a b : Int) (l : List S44), SizeOf.sizeOf l < N → tcntL l ≤ 1000 → Ev (fun k => virgationref02_Equal.f k a b l a b l) true := by
  induction N with
  | zero => intro a b l h; omega
  | succ N ih =>
  intro a b l hN h1
  have hlen := tcntL_ge l
  have loop : ∀ (n i : Nat), l.length - i = n → i ≤ l.length → Ev (fun k => virgationref02_Equal.l0 k (l.length : Int) (i : Int) a b l a b l) true := by
    intro n
    induction n with
    | zero =>
      intro i hn hi
      exact Ev.step (fun k => by rw [virgationref02_Equal.l0, if_neg (by omega)]) (Ev.now _)
    | succ n ihn =>
      intro i hn hi
      have hil : i < l.length := by omega
      have hch := tcnt_child l i hil
      refine Ev.step (fun k => by rw [virgationref02_Equal.l0, if_pos (by omega), if_pos (by omega), if_pos (by omega), if_pos (by omega)]) ?_
      refine Ev.bind (a := true) ?_ ?_
      · exact ih _ _ _ (by have := rd_T44_mem l i hil; omega) (by omega)
      · refine Ev.ifp rfl ?_
        have ew : wrap64 ((i : Int) + 1) = ((i + 1 : Nat) : Int) := by unfold wrap64; omega
        rw [ew]
        exact ihn (i + 1) (by omega) (by omega)
  refine Ev.step (fun k => by rw [virgationref02_Equal.f, if_pos rfl, if_pos rfl]) ?_
  refine Ev.step (fun k => by rw [virgationref02_Equal.j0, if_neg (by simp)]) ?_
  exact loop l.length 0 (by omega) (by omega)
end Go.Proofs.Ytfhgoebgnilfaaa.I
