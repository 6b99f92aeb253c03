/- Texts of this session's proof, laid together: IT9, IS2, IS3, IU6, IU7, IU8, IV1, IV3. -/
import Derived.Deep.RegionLaw
import Derived.Deep.RegionHeld3
import Derived.Test.YtfhgoebgnilfaaaY6
namespace Go.Proofs.Ytfhgoebgnilfaaa.I
open Go.RowKit
set_option linter.unusedVariables false
/-- The sorts that are shown; none: one has too many nodes, or is not valid. -/
inductive GOuts (s : List GN) : List S41 → List Nat → Option (List S41) → Prop
  | nil {acc : List S41} : GOuts s acc [] (some acc)
  | many {acc : List S41} {k c p m : Nat} {ks : List Nat} : GEnd s c k p → GNodesL s p 60 1 m → 60 < m → GOuts s acc (k :: ks) none
  | bad {acc l : List S41} {k c p m : Nat} {ks : List Nat} : GEnd s c k p → GNodesL s p 60 1 m → m ≤ 60 → GOutL s p [] l → isok l = false → GOuts s acc (k :: ks) none
  | step {acc l : List S41} {k c p m : Nat} {ks : List Nat} {r : Option (List S41)} : GEnd s c k p → GNodesL s p 60 1 m → m ≤ 60 → GOutL s p [] l → isok l = true → GOuts s (acc ++ [⟨l⟩]) ks r → GOuts s acc (k :: ks) r
theorem open_rho {s : List GN} {h : Nat → Nat} : ∀ (i : Nat) (n : GN), s[i]? = some n → n.k = 0 → rho (s.map toK) h i = .o := by
  intro i n hn hk
  unfold rho rdF
  rw [List.getElem?_map, hn, Option.map_some, toK0 (by omega) (by omega) (by omega)]
theorem goodB_eq (t : KT) : goodB t = (decide (nS t ≤ 60) && isok (toS t)) := by
  unfold goodB
  rw [check_eq]
  congr 1
  cases isok (toS t) <;> rfl
theorem end3 {s : List GN} {c k p : Nat} (h : GEnd s c k p) : ∀ x, s[p]? = some x → x.k ≠ 3 := by
  obtain ⟨_, _, y, hy, hy3⟩ := h.lt
  intro x hx
  rw [hy] at hx
  injection hx with hx
  rw [← hx]
  exact hy3
theorem nodes_fit {s : List GN} (w : GWF s) {h : Nat → Nat} (wf : WF (s.map toK) h) {c k p m : Nat} (he : GEnd s c k p) (hn : GNodesL s p 60 1 m) : (m ≤ 60 ↔ nS (rho (s.map toK) h k) ≤ 60) ∧ (m ≤ 60 → nS (rho (s.map toK) h p) ≤ 60) := by
  have hs := GSol_toK.2 (rho_sol wf)
  obtain ⟨h1, h2⟩ := hn.ok w hs open_rho (end3 he)
  rw [he.sol hs]
  constructor
  · constructor
    · intro hm
      by_cases g : nS (rho (s.map toK) h p) ≤ 60
      · exact g
      · have := h2 (by omega); omega
    · intro hm
      have := h1 (by omega)
      omega
  · intro hm
    by_cases g : nS (rho (s.map toK) h p) ≤ 60
    · exact g
    · have := h2 (by omega); omega
theorem GOuts.ok {s : List GN} (w : GWF s) {h : Nat → Nat} (wf : WF (s.map toK) h) {acc : List S41} {ks : List Nat} {r : Option (List S41)} (ho : GOuts s acc ks r) : r = if (ks.map (rho (s.map toK) h)).all goodB = true then some (acc ++ (ks.map (rho (s.map toK) h)).map (fun t => (⟨toS t⟩ : S41))) else none := by
  have hs := GSol_toK.2 (rho_sol wf)
  induction ho with
  | nil => simp
  | @many acc k c p m ks he hn hm =>
    have := (nodes_fit w wf he hn).1
    rw [List.map_cons, List.all_cons, goodB_eq, decide_eq_false (by omega), Bool.false_and, Bool.false_and, if_neg (by decide)]
  | @bad acc l k c p m ks he hn hm ho hi =>
    have e := ho.ok w hs open_rho (end3 he)
    rw [List.nil_append, ← he.sol hs] at e
    rw [List.map_cons, List.all_cons, goodB_eq, ← e, hi, Bool.and_false, Bool.false_and, if_neg (by decide)]
  | @step acc l k c p m ks r he hn hm ho hi _ ih =>
    have e := ho.ok w hs open_rho (end3 he)
    rw [List.nil_append, ← he.sol hs] at e
    have := (nodes_fit w wf he hn).1
    rw [ih, List.map_cons, List.all_cons, goodB_eq, ← e, hi, decide_eq_true (by omega), Bool.true_and, Bool.true_and, List.map_cons, ← e, List.append_assoc]
    rfl
theorem GOuts.tot {s : List GN} (w : GWF s) {h : Nat → Nat} (wf : WF (s.map toK) h) : ∀ (ks : List Nat) (acc : List S41), (∀ k, k ∈ ks → k < s.length) → ∃ r, GOuts s acc ks r
  | [], acc, _ => ⟨_, .nil⟩
  | k :: ks, acc, hk => by
    obtain ⟨c, p, he⟩ := w.fin k (hk k List.mem_cons_self)
    have hp := he.lt.2.1
    obtain ⟨m, hm⟩ := GNodesL.tot w wf _ p 60 1 (Nat.lt_succ_self _) hp (end3 he)
    by_cases hm60 : 60 < m
    · exact ⟨_, .many he hm hm60⟩
    obtain ⟨l, hl⟩ := GOutL.tot w wf _ p [] (Nat.lt_succ_self _) hp (end3 he)
    cases hi : isok l with
    | false => exact ⟨_, .bad he hm (by omega) hl hi⟩
    | true =>
      obtain ⟨r, hr⟩ := GOuts.tot w wf ks (acc ++ [⟨l⟩]) (fun q hq => hk q (List.mem_cons_of_mem _ hq))
      exact ⟨r, .step he hm (by omega) hl hi hr⟩
def g0 : List GN := [⟨1, 0, 0⟩]
def gS (syms : List S59) : List Nat × List GN := gsyms g0 syms
def gH (syms : List S59) (l : List S48) : (List (List Nat) × List Nat) × List GN := gheads (gS syms).2 l
/-- The reference's Sorts behind its Check. -/
inductive GSorts (syms : List S59) (l : List S48) : List S41 → Int → Prop
  | bad {s : List GN} : GBodies (gS syms).1 (gH syms l).1.2 (gH syms l).2 (gH syms l).1.1 l false s → GSorts syms l [] 6
  | ring {s : List GN} : GBodies (gS syms).1 (gH syms l).1.2 (gH syms l).2 (gH syms l).1.1 l true s → GRounds s (List.replicate s.length 0) 0 true → GSorts syms l [] 6
  | many {s : List GN} : GBodies (gS syms).1 (gH syms l).1.2 (gH syms l).2 (gH syms l).1.1 l true s → GRounds s (List.replicate s.length 0) 0 false → GOuts s [] (gH syms l).1.2 none → GSorts syms l [] 3
  | good {s : List GN} {out : List S41} : GBodies (gS syms).1 (gH syms l).1.2 (gH syms l).2 (gH syms l).1.1 l true s → GRounds s (List.replicate s.length 0) 0 false → GOuts s [] (gH syms l).1.2 (some out) → GSorts syms l out 0
theorem g0_wf : GWF g0 := by
  refine ⟨fun i n hn => ?_, fun i hi => ?_⟩
  · cases i with
    | zero => injection hn with hn; subst hn; exact ⟨by decide, (fun h => by cases h), (fun h => by cases h)⟩
    | succ i => cases hn
  · have : i = 0 := by simp [g0] at hi; exact hi
    subst this
    exact ⟨0, 0, .stop (n := ⟨1, 0, 0⟩) rfl (by decide)⟩
theorem g0_zero : ∀ ρ, GSol g0 ρ → ρ 0 = .o := fun ρ hs => (hs 0 ⟨1, 0, 0⟩ rfl).1 rfl
theorem gS_ok (syms : List S59) : GSymed g0 syms (gS syms).1 (gS syms).2 := gsyms_ok syms g0_wf (by decide) g0_zero
theorem gH_ok (syms : List S59) (l : List S48) : GHeaded (gS syms).2 l (gH syms l).1.1 (gH syms l).1.2 (gH syms l).2 :=
  gheads_ok l (gS_ok syms).ext.wf (Nat.lt_of_lt_of_le (by decide) (gS_ok syms).ext.len) (fun ρ hs => g0_zero ρ ((gS_ok syms).ext.down ρ hs))
mutual
theorem Ty_congr {hd hd' : Int → Int → Option KT} (h : ∀ k n, isK k = true → hd k n = hd' k n) : ∀ (x : S44) (P F S : Int), knownS x P F S = true → ∀ t, Ty hd x t ↔ Ty hd' x t
  | ⟨k, n, l⟩, P, F, S, hk, t => by
    unfold knownS at hk
    simp only [Bool.and_eq_true] at hk
    unfold Ty
    rw [h k n hk.1.1]
    constructor
    · rintro ⟨t0, h0, h1⟩; exact ⟨t0, h0, (TyL_congr h l P F S hk.2 t0 t).1 h1⟩
    · rintro ⟨t0, h0, h1⟩; exact ⟨t0, h0, (TyL_congr h l P F S hk.2 t0 t).2 h1⟩
theorem TyL_congr {hd hd' : Int → Int → Option KT} (h : ∀ k n, isK k = true → hd k n = hd' k n) : ∀ (l : List S44) (P F S : Int), knownL l P F S = true → ∀ t0 t, TyL hd t0 l t ↔ TyL hd' t0 l t
  | [], P, F, S, hk, t0, t => by unfold TyL; exact Iff.rfl
  | x :: xs, P, F, S, hk, t0, t => by
    unfold knownL at hk
    rw [Bool.and_eq_true] at hk
    unfold TyL
    constructor
    · rintro ⟨a, b, e, h1, h2⟩; exact ⟨a, b, e, (Ty_congr h x P F S hk.1 a).1 h1, (TyL_congr h xs P F S hk.2 b t).1 h2⟩
    · rintro ⟨a, b, e, h1, h2⟩; exact ⟨a, b, e, (Ty_congr h x P F S hk.1 a).2 h1, (TyL_congr h xs P F S hk.2 b t).2 h2⟩
end
theorem hdN_hdG {syms : List S59} {ps hf hs : List Nat} {ρ : Nat → KT} (h : hs.map ρ = syms.map symT) : ∀ k n, isK k = true → hdN (hdR ps hf hs) ρ k n = hdG syms (hf.map ρ) (ps.map ρ) k n := by
  intro k n hk
  unfold hdN hdR hdG
  by_cases hn : n < 0
  · rw [if_pos hn, if_pos hn]; rfl
  rw [if_neg hn, if_neg hn]
  by_cases k0 : k = 0
  · rw [if_pos k0, if_pos k0, List.getElem?_map]
  rw [if_neg k0, if_neg k0]
  by_cases k1 : k = 1
  · rw [if_pos k1, if_pos k1, List.getElem?_map]
  rw [if_neg k1, if_neg k1]
  by_cases k2 : k = 2
  · rw [if_pos k2, ← List.getElem?_map, h, List.getElem?_map]; rfl
  · unfold isK at hk; simp [k0, k1, k2] at hk
theorem GAlls_AllT {syms : List S59} {hf hs : List Nat} {ρ : Nat → KT} (h : hs.map ρ = syms.map symT) : ∀ (pss : List (List Nat)) (l : List S48), (∀ x, x ∈ l → ∃ P F S, knownS x.f2 P F S = true) → (GAlls hs hf ρ pss l ↔ AllT syms (hf.map ρ) (pss.map (fun ps => ps.map ρ)) l)
  | pss, [], _ => by cases pss <;> (unfold GAlls AllT; exact Iff.rfl)
  | [], x :: xs, _ => by unfold GAlls; rw [List.map_nil]; unfold AllT; exact Iff.rfl
  | ps :: pss, x :: xs, hk => by
    rw [List.map_cons]
    unfold GAlls AllT
    obtain ⟨P, F, S, hx⟩ := hk x List.mem_cons_self
    rw [Ty_congr (hdN_hdG h) x.f2 P F S hx, GAlls_AllT h pss xs (fun y hy => hk y (List.mem_cons_of_mem _ hy))]
theorem lesL_antisymm : ∀ {a b : List KT}, lesL a b → lesL b a → a = b
  | [], [], _, _ => rfl
  | [], _ :: _, h, _ => h.elim
  | _ :: _, [], h, _ => h.elim
  | a :: xs, b :: ys, h1, h2 => by rw [KT.le_antisymm h1.1 h2.1, lesL_antisymm h1.2 h2.2]
theorem rounds_start {s : List GN} (w : GWF s) {r : Bool} (h : GRounds s (List.replicate s.length 0) 0 r) : (r = true → ∀ ρ, ¬ GSol s ρ) ∧ (r = false → ∀ j, j < s.length → Fin_ s j) := by
  have hr : ∀ (p v : Nat), (List.replicate s.length 0)[p]? = some v → v = 0 := fun p v hv => (List.mem_replicate.1 (List.mem_of_getElem? hv)).2
  exact h.ok w (fun p hp => by have := hr p 1 hp; omega) (fun p hp => by have := hr p 2 hp; omega) (fun j hj => by omega)
/-- The reference's Sorts returns the least typing, or that there is none. -/
theorem gsorts_main (syms : List S59) (l : List S48) (hc : chkF syms l = some 0) :
    (∃ out er, GSorts syms l out er) ∧
    ((∃ As0, Typed syms l As0 ∧ (∀ As, Typed syms l As → lesL (gam As0) (gam As)) ∧ ∀ out er, GSorts syms l out er → (out, er) = if (gam As0).all goodB = true then ((gam As0).map (fun t => (⟨toS t⟩ : S41)), 0) else ([], 3)) ∨
    ((∀ As, ¬ Typed syms l As) ∧ ∀ out er, GSorts syms l out er → out = [] ∧ er = 6)) := by
  have Sy := gS_ok syms
  have H := gH_ok syms l
  have hpos : 0 < (gH syms l).2.length := Nat.lt_of_lt_of_le (Nat.lt_of_lt_of_le (by decide) Sy.ext.len) H.ext.len
  have hz : ∀ ρ, GSol (gH syms l).2 ρ → ρ 0 = .o := fun ρ hs => g0_zero ρ (Sy.ext.down ρ (H.ext.down ρ hs))
  have hsl : ∀ p, p ∈ (gS syms).1 → p < (gH syms l).2.length := fun p hp => Nat.lt_of_lt_of_le (Sy.lk p hp) H.ext.len
  have hok := fCheck_ok hc
  have upr : ∀ As : List (List KT), As.map List.length = l.map (fun x => x.f1.toNat) → ∃ ρ, GSol (gH syms l).2 ρ ∧ (gH syms l).1.1.map (fun ps => ps.map ρ) = As := by
    intro As hA
    obtain ⟨ρ1, _, hs1⟩ := Sy.up (fun _ => .o) (by
      intro i n hn
      cases i with
      | zero => injection hn with hn; subst hn; exact ⟨fun _ => rfl, (fun h => by cases h), (fun h => by cases h)⟩
      | succ i => cases hn)
    obtain ⟨ρ2, _, hs2, hm⟩ := H.up ρ1 As hA hs1
    exact ⟨ρ2, hs2, hm⟩
  have hks : (gH syms l).1.2.length = l.length := by
    obtain ⟨ρ, hs, _⟩ := upr (l.map (fun x => List.replicate x.f1.toNat .o)) (by rw [List.map_map]; exact List.map_congr_left (fun x _ => by simp))
    have e2 := congrArg List.length H.many
    have e3 := congrArg List.length (H.down ρ hs)
    simp only [List.length_map] at e2 e3
    omega
  have hkn : ∀ x, x ∈ l → knownS x.f2 x.f1.toNat (gH syms l).1.2.length syms.length = true := fun x hx => by
    have h2 := chkF_known hc x hx
    have h3 := (hok.2.2.2.2 x hx).1
    rw [hks, Int.toNat_of_nonneg h3]
    exact h2
  have gmap : ∀ ρ, GSol (gH syms l).2 ρ → gam ((gH syms l).1.1.map (fun ps => ps.map ρ)) = (gH syms l).1.2.map ρ := by
    intro ρ hs
    rw [H.down ρ hs]
    unfold gam
    rw [List.map_map]
    rfl
  have hsy : ∀ ρ, GSol (gH syms l).2 ρ → (gS syms).1.map ρ = syms.map symT := fun ρ hs => Sy.down ρ (H.ext.down ρ hs)
  have up : ∀ As, Typed syms l As → ∃ ρ, GSol (gH syms l).2 ρ ∧ GAlls (gS syms).1 (gH syms l).1.2 ρ (gH syms l).1.1 l ∧ (gH syms l).1.2.map ρ = gam As := by
    intro As hT
    obtain ⟨ρ, hs, hm⟩ := upr As hT.1
    have hg := gmap ρ hs
    rw [hm] at hg
    refine ⟨ρ, hs, ?_, hg.symm⟩
    rw [GAlls_AllT (hsy ρ hs) _ _ (fun x hx => ⟨_, _, _, hkn x hx⟩), ← hg, hm]
    exact hT.2
  have down : ∀ ρ, GSol (gH syms l).2 ρ → GAlls (gS syms).1 (gH syms l).1.2 ρ (gH syms l).1.1 l → Typed syms l ((gH syms l).1.1.map (fun ps => ps.map ρ)) := by
    intro ρ hs ha
    refine ⟨?_, ?_⟩
    · rw [← H.many, List.map_map]
      exact List.map_congr_left (fun ps _ => by simp)
    · rw [gmap ρ hs, ← GAlls_AllT (hsy ρ hs) _ _ (fun x hx => ⟨_, _, _, hkn x hx⟩)]
      exact ha
  obtain ⟨b, s, hB⟩ := GBodies.tot (hs := (gS syms).1) (hf := (gH syms l).1.2) (S := syms.length) (by rw [Sy.many]) l (gH syms l).1.1 H.ext.wf hpos H.lk hsl H.lp H.many hkn
  have okB : ∀ {b s}, GBodies (gS syms).1 (gH syms l).1.2 (gH syms l).2 (gH syms l).1.1 l b s → GBodied (gH syms l).2 (fun ρ => GAlls (gS syms).1 (gH syms l).1.2 ρ (gH syms l).1.1 l) b s := fun h => h.ok H.ext.wf hpos hz H.lk hsl H.lp
  have wfB : ∀ {s}, GBodies (gS syms).1 (gH syms l).1.2 (gH syms l).2 (gH syms l).1.1 l true s → GWF s := fun h => ((okB h).yes rfl).1.wf
  have finB : ∀ {s}, GBodies (gS syms).1 (gH syms l).1.2 (gH syms l).2 (gH syms l).1.1 l true s → GRounds s (List.replicate s.length 0) 0 false → ∃ h, WF (s.map toK) h := fun hb hr => WF_of_fin (wfB hb) ((rounds_start (wfB hb) hr).2 rfl)
  -- what a derivation says
  have none_of : ∀ {s}, GBodies (gS syms).1 (gH syms l).1.2 (gH syms l).2 (gH syms l).1.1 l false s → ∀ As, ¬ Typed syms l As := by
    intro s hb As hT
    obtain ⟨ρ, hs, ha, _⟩ := up As hT
    exact (okB hb).no rfl ρ hs ha
  have ring_of : ∀ {s}, GBodies (gS syms).1 (gH syms l).1.2 (gH syms l).2 (gH syms l).1.1 l true s → GRounds s (List.replicate s.length 0) 0 true → ∀ As, ¬ Typed syms l As := by
    intro s hb hr As hT
    obtain ⟨ρ, hs, ha, _⟩ := up As hT
    obtain ⟨ρ', _, hs'⟩ := ((okB hb).yes rfl).2.2 ρ hs ha
    exact (rounds_start (wfB hb) hr).1 rfl ρ' hs'
  have good_of : ∀ {s}, GBodies (gS syms).1 (gH syms l).1.2 (gH syms l).2 (gH syms l).1.1 l true s → ∀ {h}, WF (s.map toK) h → Typed syms l ((gH syms l).1.1.map (fun ps => ps.map (rho (s.map toK) h))) ∧ (∀ As, Typed syms l As → lesL (gam ((gH syms l).1.1.map (fun ps => ps.map (rho (s.map toK) h)))) (gam As)) ∧ gam ((gH syms l).1.1.map (fun ps => ps.map (rho (s.map toK) h))) = (gH syms l).1.2.map (rho (s.map toK) h) := by
    intro s hb h wf
    obtain ⟨x2, d2, u2⟩ := (okB hb).yes rfl
    have hs2 := GSol_toK.2 (rho_sol wf)
    have hg := gmap _ (x2.down _ hs2)
    refine ⟨down _ (x2.down _ hs2) (d2 _ hs2), fun As hT => ?_, hg⟩
    obtain ⟨ρ, hs, ha, hga⟩ := up As hT
    obtain ⟨ρ', ag, hs'⟩ := u2 ρ hs ha
    have e : (gH syms l).1.2.map ρ' = (gH syms l).1.2.map ρ := List.map_congr_left (fun k hk => ag k (H.lk k hk))
    rw [hg, ← hga, ← e]
    exact lesL_map (fun i => rho_least (GSol_toK.1 hs') i) _
  have lk2 : ∀ {s}, GBodies (gS syms).1 (gH syms l).1.2 (gH syms l).2 (gH syms l).1.1 l true s → ∀ k, k ∈ (gH syms l).1.2 → k < s.length := fun hb k hk => Nat.lt_of_lt_of_le (H.lk k hk) ((okB hb).yes rfl).1.len
  have answer : ∀ out er, GSorts syms l out er → ((∀ As, ¬ Typed syms l As) ∧ out = [] ∧ er = 6) ∨ ∃ As0, Typed syms l As0 ∧ (∀ As, Typed syms l As → lesL (gam As0) (gam As)) ∧ (out, er) = if (gam As0).all goodB = true then ((gam As0).map (fun t => (⟨toS t⟩ : S41)), 0) else ([], 3) := by
    intro out er h
    cases h with
    | bad hb => exact .inl ⟨none_of hb, rfl, rfl⟩
    | ring hb hr => exact .inl ⟨ring_of hb hr, rfl, rfl⟩
    | @many s hb hr ho =>
      obtain ⟨h, wf⟩ := finB hb hr
      obtain ⟨g1, g2, g3⟩ := good_of hb wf
      refine .inr ⟨_, g1, g2, ?_⟩
      have e := ho.ok (wfB hb) wf
      rw [g3]
      by_cases hg : ((gH syms l).1.2.map (rho (s.map toK) h)).all goodB = true
      · rw [if_pos hg] at e; cases e
      · rw [if_neg hg]
    | @good s _ hb hr ho =>
      obtain ⟨h, wf⟩ := finB hb hr
      obtain ⟨g1, g2, g3⟩ := good_of hb wf
      refine .inr ⟨_, g1, g2, ?_⟩
      have e := ho.ok (wfB hb) wf
      rw [g3]
      by_cases hg : ((gH syms l).1.2.map (rho (s.map toK) h)).all goodB = true
      · rw [if_pos hg] at e; injection e with e; rw [if_pos hg, e, List.nil_append]
      · rw [if_neg hg] at e; cases e
  have ex : ∃ out er, GSorts syms l out er := by
    cases b with
    | false => exact ⟨_, _, .bad hB⟩
    | true =>
      obtain ⟨r, hr⟩ := GRounds.tot (wfB hB) _ 0 (List.replicate s.length 0) rfl (by rw [List.length_replicate]) (fun p v hv => by have := (List.mem_replicate.1 (List.mem_of_getElem? hv)).2; omega)
      cases r with
      | true => exact ⟨_, _, .ring hB hr⟩
      | false =>
        obtain ⟨h, wf⟩ := finB hB hr
        obtain ⟨r, ho⟩ := GOuts.tot (wfB hB) wf (gH syms l).1.2 [] (lk2 hB)
        cases r with
        | none => exact ⟨_, _, .many hB hr ho⟩
        | some out => exact ⟨_, _, .good hB hr ho⟩
  refine ⟨ex, ?_⟩
  obtain ⟨out0, er0, h0⟩ := ex
  rcases answer out0 er0 h0 with ⟨hn, _, _⟩ | ⟨As0, hT0, hl0, _⟩
  · refine .inr ⟨hn, fun out er h => ?_⟩
    rcases answer out er h with ⟨_, e1, e2⟩ | ⟨As1, hT1, _, _⟩
    · exact ⟨e1, e2⟩
    · exact absurd hT1 (hn As1)
  · refine .inl ⟨As0, hT0, hl0, fun out er h => ?_⟩
    rcases answer out er h with ⟨hn, _, _⟩ | ⟨As1, hT1, hl1, e⟩
    · exact absurd hT0 (hn As0)
    · rw [lesL_antisymm (hl0 As1 hT1) (hl1 As0 hT0)]
      exact e
/-- Both Sorts are one. -/
theorem sorts_same (syms : List S59) (l : List S48) (hc : chkF syms l = some 0) : ∃ f out er, fsorts f syms l = some (out, er) ∧ ∀ out' er', GSorts syms l out' er' → out' = out ∧ er' = er := by
  obtain ⟨_, hg⟩ := gsorts_main syms l hc
  rcases sorts_main syms l hc with ⟨As0, hT, hl, f, hf⟩ | ⟨hn, f, hf⟩
  · rcases hg with ⟨As1, hT1, hl1, ha⟩ | ⟨hn, _⟩
    · have e := lesL_antisymm (hl As1 hT1) (hl1 As0 hT)
      by_cases hgood : (gam As0).all goodB = true
      · rw [if_pos hgood] at hf
        refine ⟨f, _, _, hf, fun out er h => ?_⟩
        have := ha out er h
        rw [← e, if_pos hgood] at this
        injection this with a b
        exact ⟨a, b⟩
      · rw [if_neg hgood] at hf
        refine ⟨f, _, _, hf, fun out er h => ?_⟩
        have := ha out er h
        rw [← e, if_neg hgood] at this
        injection this with a b
        exact ⟨a, b⟩
    · exact absurd hT (hn As0)
  · rcases hg with ⟨As1, hT1, _, _⟩ | ⟨_, ha⟩
    · exact absurd hT1 (hn As1)
    · exact ⟨f, [], 6, hf, fun out er h => ha out er h⟩
end Go.Proofs.Ytfhgoebgnilfaaa.I
namespace Go.Proofs.Ytfhgoebgnilfaaa.I
open Go.RowKit Go.Proofs.YtfhgoebgnilfaaaW.PrintWords Go.Proofs.YtfhgoebgnilfaaaW.PrintLast Go.Proofs.YtfhgoebgnilfaaaW.PrintMore
attribute [local go_sem] max2_int min2_int max_two min_two max_three min_three max_four min_four
set_option linter.unusedVariables false
set_option maxRecDepth 100000
set_option linter.unusedSimpArgs false
/-- Numbers of terms in blocks from B on may have turned; all else of the elder memory is as it was. -/
structure IntSt (B : Nat) (w w' : World) : Prop where
  os : w'.os = w.os
  tape : w'.tape = w.tape
  output : w'.output = w.output
  size : w.heap.size ≤ w'.heap.size
  block : ∀ k, k < w.heap.size → w'.heap[k]? = w.heap[k]? ∨ (B ≤ k ∧ ∃ c c' : Array Value, w.heap[k]? = some (.cells c 44 (0, 0)) ∧ w'.heap[k]? = some (.cells c' 44 (0, 0)) ∧ ∀ j : Nat, c'[j]? = c[j]? ∨ ∃ a b : Int, c[j]? = some (.int .i64 a) ∧ c'[j]? = some (.int .i64 b))
theorem IntSt.refl (B : Nat) (w : World) : IntSt B w w := ⟨rfl, rfl, rfl, Nat.le_refl _, fun _ _ => .inl rfl⟩
theorem IntSt.trans {B : Nat} {w w1 w2 : World} (h : IntSt B w w1) (k : IntSt B w1 w2) : IntSt B w w2 := by
  refine ⟨k.os.trans h.os, k.tape.trans h.tape, k.output.trans h.output, Nat.le_trans h.size k.size, fun q hq => ?_⟩
  rcases h.block q hq with h1 | ⟨hb, c, c1, e0, e1, hj⟩
  · rcases k.block q (Nat.lt_of_lt_of_le hq h.size) with h2 | ⟨hb, c, c1, e0, e1, hj⟩
    · exact .inl (h2.trans h1)
    · exact .inr ⟨hb, c, c1, h1.symm.trans e0, e1, hj⟩
  · rcases k.block q (Nat.lt_of_lt_of_le hq h.size) with h2 | ⟨_, c2, c3, e2, e3, hj2⟩
    · exact .inr ⟨hb, c, c1, e0, h2.trans e1, hj⟩
    · have e := e1.symm.trans e2
      injection e with e
      injection e with e _ _
      subst e
      refine .inr ⟨hb, c, c3, e0, e3, fun j => ?_⟩
      rcases hj j with h3 | ⟨a, b, h3, h4⟩
      · rcases hj2 j with h5 | ⟨a, b, h5, h6⟩
        · exact .inl (h5.trans h3)
        · exact .inr ⟨a, b, h3.symm.trans h5, h6⟩
      · rcases hj2 j with h5 | ⟨a', b', h5, h6⟩
        · exact .inr ⟨a, b, h3, h5.trans h4⟩
        · exact .inr ⟨a, b', h3, h6⟩
theorem IntSt.set {B g j : Nat} {w : World} {c : Array Value} {a b : Int} (hg : w.heap[g]? = some (.cells c 44 (0, 0))) (hB : B ≤ g) (hj : c[j]? = some (.int .i64 a)) : IntSt B w (w.setCell ⟨g, j, none⟩ (.int .i64 b)) := by
  refine ⟨rfl, rfl, rfl, by simp [World.setCell], fun k hk => ?_⟩
  by_cases hkg : k = g
  · subst hkg
    refine .inr ⟨hB, c, c.setIfInBounds j (.int .i64 b), hg, blk_set hg j _, fun q => ?_⟩
    rw [Array.getElem?_setIfInBounds]
    by_cases hq : j = q
    · subst hq
      have hjl : j < c.size := (Array.getElem?_eq_some_iff.1 hj).1
      rw [if_pos rfl, if_pos hjl]
      exact .inr ⟨a, b, hj, rfl⟩
    · rw [if_neg hq]
      exact .inl rfl
  · exact .inl (Below.heap_setCell w ⟨g, j, none⟩ _ k hkg)
theorem IntSt.elder {B B' : Nat} {w0 w w' : World} (h : IntSt B w w') (hB : Below B' w0 w) (hb : B' ≤ B) (hs : B' ≤ w.heap.size) : Below B' w0 w' :=
  ⟨h.os.trans hB.os, h.tape.trans hB.tape, h.output.trans hB.output, Nat.le_trans hB.size h.size, fun k hk => by
    rcases h.block k (Nat.lt_of_lt_of_le hk hs) with h1 | ⟨h2, _⟩
    · exact h1.trans (hB.block k hk)
    · omega⟩
end Go.Proofs.Ytfhgoebgnilfaaa.I
namespace Go.Proofs.Ytfhgoebgnilfaaa.I
open Go.RowKit Go.Proofs.YtfhgoebgnilfaaaW.PrintWords Go.Proofs.YtfhgoebgnilfaaaW.PrintLast Go.Proofs.YtfhgoebgnilfaaaW.PrintMore
set_option linter.unusedVariables false
set_option maxRecDepth 100000
set_option linter.unusedSimpArgs false
theorem looseL_big : ∀ (l : List S48) (nf ns : Int) (L : List ByteArray), looseL l nf ns L = true → ∀ x ∈ l, big x.f2 = false
  | [], _, _, _, _, x, hx => by cases hx
  | y :: ys, nf, ns, L, h, x, hx => by
    unfold looseL at h
    by_cases hb : looseBad y nf ns L = true
    · rw [if_pos hb] at h; cases h
    · rw [if_neg hb] at h
      rcases List.mem_cons.1 hx with e | hx
      · rw [e]
        rw [loose_eq] at hb
        cases hg : big y.f2
        · rfl
        · rw [hg] at hb; simp at hb
      · exact looseL_big ys nf ns _ h x hx
theorem chk_big {syms : List S59} {l : List S48} (h : chkF syms l = some 0) : ∀ x ∈ l, tcntL x.f2.f2 ≤ 1000 := by
  have hb : ∀ x ∈ l, big x.f2 = false := by
    unfold chkF at h
    injection h with h
    split at h
    · cases h
    · split at h
      · cases h
      · split at h
        · rename_i h1 h2 h3
          exact looseL_big _ _ _ _ h3
        · cases h
  intro x hx
  have h1 := hb x hx
  unfold big at h1
  rw [Bool.or_eq_false_iff] at h1
  have h2 := of_decide_eq_false h1.1
  have h3 := tcnt_f2 x.f2
  omega
end Go.Proofs.Ytfhgoebgnilfaaa.I
namespace Go.Proofs.Ytfhgoebgnilfaaa.I
open Go.RowKit Go.Proofs.YtfhgoebgnilfaaaW.PrintWords Go.Proofs.YtfhgoebgnilfaaaW.PrintLast Go.Proofs.YtfhgoebgnilfaaaW.PrintMore
set_option linter.unusedVariables false
set_option linter.unusedSimpArgs false
theorem GSorts.inv {syms : List S59} {l : List S48} {out : List S41} {er : Int} (h : GSorts syms l out er) : ∃ b s, GBodies (gS syms).1 (gH syms l).1.2 (gH syms l).2 (gH syms l).1.1 l b s ∧
    ((b = false ∧ out = [] ∧ er = 6) ∨ (b = true ∧ ∃ r, GRounds s (List.replicate s.length 0) 0 r ∧ ((r = true ∧ out = [] ∧ er = 6) ∨ (r = false ∧ ∃ o, GOuts s [] (gH syms l).1.2 o ∧ ((o = none ∧ out = [] ∧ er = 3) ∨ (o = some out ∧ er = 0)))))) := by
  cases h with
  | bad hb => exact ⟨_, _, hb, .inl ⟨rfl, rfl, rfl⟩⟩
  | ring hb hr => exact ⟨_, _, hb, .inr ⟨rfl, _, hr, .inl ⟨rfl, rfl, rfl⟩⟩⟩
  | many hb hr ho => exact ⟨_, _, hb, .inr ⟨rfl, _, hr, .inr ⟨rfl, _, ho, .inl ⟨rfl, rfl, rfl⟩⟩⟩⟩
  | good hb hr ho => exact ⟨_, _, hb, .inr ⟨rfl, _, hr, .inr ⟨rfl, _, ho, .inr ⟨rfl, rfl⟩⟩⟩⟩
theorem gchain_len (s : List GN) (ps : List Nat) (d0 : Nat) : (gchain s ps d0).2.length = s.length + ps.length := by
  unfold gchain
  rw [gchainR_len, List.length_reverse]
theorem GSort.bound {hd : Int → Int → Option Nat} {s s' : List GN} {n : Nat} {l : List S44} {r : Option Nat} (h : GSort hd s n l r s') : (s'.length : Int) ≤ s.length + 2 * tcntL l := by
  induction h with
  | nil => simp [tcntL]
  | @bad s s1 n m x xs _ _ ih =>
    have h1 := tcnt_f2 x
    have h2 := tcntL_ge xs
    simp only [tcntL]
    omega
  | @clash s s1 s2 n m a x xs _ _ hu ih =>
    have h0 := hu.len
    rw [gtwo_len] at h0
    have h1 := tcnt_f2 x
    have h2 := tcntL_ge xs
    simp only [tcntL]
    omega
  | @step s s1 s2 s3 n m a x xs r _ _ hu _ ih1 ih2 =>
    have h0 := hu.len
    rw [gtwo_len] at h0
    have h1 := tcnt_f2 x
    simp only [tcntL]
    omega
/-- A row stays as it is while another one grows, and lies apart from what that has become. -/
theorem R_beside {α : Type} {d : Kd α} {e b : Nat} {Q : Nat → Prop} {w w1 : World} {u u1 v : Value} {xs : List α} (h : d.R e w b (fun k => Q k ∧ some k ≠ u.ownBlock) v xs) (hg : w.grownBy w1 u.ownBlock) (hat : u1.ownBlock = u.ownBlock ∨ ∃ q, u1.ownBlock = some q ∧ w.heap.size ≤ q) : d.R e w1 b (fun k => Q k ∧ some k ≠ u1.ownBlock) v xs := by
  refine Kd.R_mono (Kd.R_grown (Kd.R_bound h) hg (fun k hk => hk.1.2)) (fun k hk => ⟨hk.1.1, fun e => ?_⟩)
  rcases hat with h1 | ⟨q, h1, hq⟩
  · exact hk.1.2 (e.trans h1)
  · rw [h1] at e
    injection e with e
    have := hk.2.2.1
    omega
theorem R_beside1 {α : Type} {d : Kd α} {e b : Nat} {w w1 : World} {u u1 v : Value} {xs : List α} (h : d.R e w b (fun k => some k ≠ u.ownBlock) v xs) (hg : w.grownBy w1 u.ownBlock) (hat : u1.ownBlock = u.ownBlock ∨ ∃ q, u1.ownBlock = some q ∧ w.heap.size ≤ q) : d.R e w1 b (fun k => some k ≠ u1.ownBlock) v xs :=
  Kd.R_mono (R_beside (Q := fun _ => True) (Kd.R_mono h (fun k hk => ⟨trivial, hk⟩)) hg hat) (fun k hk => hk.2)
theorem gsyms_step {s : List GN} {x : S59} {xs : List S59} {pre : List Nat} {g : List Nat × List GN} (h : g = (pre ++ (gsyms s (x :: xs)).1, (gsyms s (x :: xs)).2)) : g = ((pre ++ [(gchain s (List.replicate x.f1.toNat 0) 0).1]) ++ (gsyms (gchain s (List.replicate x.f1.toNat 0) 0).2 xs).1, (gsyms (gchain s (List.replicate x.f1.toNat 0) 0).2 xs).2) := by
  rw [h, List.append_assoc]
  rfl
theorem GM.grown {gg B : Nat} {row r : Option Nat} {w w' : World} {s : List GN} (h : GM gg B row w s) (hw : w.grownBy w' r) (hr : ∀ k, r = some k → ∃ cells t, w.heap[k]? = some (.cells cells t (0, 0)) ∧ t ≠ 90 ∧ t ≠ 114) : GM gg B row w' s := by
  obtain ⟨h0, A, c, h1, h2, h3⟩ := h
  refine ⟨h0, A, c, blk_grown h1 hw (fun e => ?_), ?_, h3⟩
  · obtain ⟨cells, t, hc, ht, _⟩ := hr gg e.symm
    exact ht (blk_type hc h1)
  · refine Kd.R_mono (Kd.R_move (Kd.R_bound h2) (fun k hk => ?_)) (fun _ hk => hk.1)
    obtain ⟨_, _, hl, q, hq, c1, hc⟩ := hk
    refine hw.block k hl (fun e => ?_)
    obtain ⟨cells, t, hc2, _, ht⟩ := hr k e.symm
    have := blk_type hc2 hc
    rcases List.mem_cons.1 hq with e | hq
    · exact ht (this.trans e)
    · cases hq
theorem chain_calls' {gg B : Nat} {row : Option Nat} {w : World} {s : List GN} {c d0 n : Nat} {di : Int} {A : Option Addr} {ps : List Nat} (hn : ps.length = n) (hd : di = (d0 : Int)) (hM : GM gg B row w s) (hBw : B ≤ w.heap.size) (hl : s.length + n ≤ 1000000) {b : Nat} {ok : Nat → Prop} (hR : KI.R 3 w b ok (.slice A n c) (ints ps)) :
    Calls Try.prog 43 #[.pointer (some ⟨gg, 0, none⟩), .slice A n c, .int .i64 di] w fun e w' => ∃ row', e = .returned (.int .i64 ((gchain s ps d0).1 : Int)) ∧ GM gg B row' w' (gchain s ps d0).2 ∧ GKeep gg row row' w w' := by
  subst hn hd
  refine chain_calls hM hBw hl (fun w' row' hK => ?_)
  have := (Kd.R_reads' (hK.R hM hR (by decide))).2.2
  rwa [ints_len] at this
theorem ints_app (a : List Nat) (b : Nat) : ints (a ++ [b]) = ints a ++ [(b : Int)] := by unfold ints; rw [List.map_append]; rfl
theorem ints_rep (n : Nat) : List.replicate n (0 : Int) = ints (List.replicate n 0) := by unfold ints; rw [List.map_replicate]; rfl
theorem info3 : (Try.prog.info? 3).map (fun i => (i.zero, i.size, i.bytes)) = some (some (.int .i64 0), 1, 8) := by kernel_rfl
theorem make_row (n : Nat) (hn : n ≤ 1000000) : ∃ ob : Obj, (∀ w : World, (Instr.makeSlice 92 (.int .i64 (n : Int)) (.int .i64 (n : Int))).run Try.prog w = .ok (.slice (some ⟨w.heap.size, 0, none⟩) n n) (w.alloc ob)) ∧
    (∀ (w : World) (b : Nat), b ≤ w.heap.size → KI.R 3 (w.alloc ob) b (fun _ => True) (.slice (some ⟨w.heap.size, 0, none⟩) n n) (ints (List.replicate n 0))) := by
  obtain ⟨i0, hi, hzz⟩ := Option.map_eq_some_iff.1 info3
  simp only [Prod.mk.injEq] at hzz
  obtain ⟨hz0, hz1, hz2⟩ := hzz
  refine ⟨.cells (madeCells #[.int .i64 0] (n * 1)) 3, fun w => ?_, fun w b hb => ?_⟩
  · have h := run_make (P := Try.prog) (w := w) 92 3 i0 (.int .i64 0) Try.underlying92 hi hz0 .i64 .i64 (n : Int) (n : Int) (by omega) (by omega) (by rw [hz2]; omega) (by omega)
    rw [hz1, Int.toNat_natCast] at h
    exact h
  · have hr : Reps (KI.M w b (fun _ => False)) KI.sz (List.replicate n (0 : Int)) (madeCells #[.int .i64 0] (n * 1)).toList := Kd.reps_made (R := KI.M w b (fun _ => False)) (z := .int .i64 0) (size := 1) (z0 := (0 : Int)) rfl (by decide) rfl n
    have h := OwnRow.lit (e := 3) w b (hr.imp_ (R' := KI.M (w.alloc (.cells (madeCells #[.int .i64 0] (n * 1)) 3)) b (fun k => True ∧ some k ≠ (Value.slice (some ⟨w.heap.size, 0, none⟩) n n).ownBlock)) (fun p c hp => hp)) hb (by rw [List.length_replicate]; omega)
    rw [List.length_replicate] at h
    rw [← ints_rep]
    refine ⟨fun _ _ => trivial, ?_⟩
    simpa using h
theorem gheads_step {s : List GN} {x : S48} {xs : List S48} {pre : List (List Nat)} {pf : List Nat} {g : (List (List Nat) × List Nat) × List GN} (h : g = ((pre ++ (gheads s (x :: xs)).1.1, pf ++ (gheads s (x :: xs)).1.2), (gheads s (x :: xs)).2)) {n : Nat} (hn : x.f1.toNat = n) :
    g = (((pre ++ [List.range' s.length n]) ++ (gheads (gchain (s ++ List.replicate n gbare) (List.range' s.length n) 0).2 xs).1.1, (pf ++ [(gchain (s ++ List.replicate n gbare) (List.range' s.length n) 0).1]) ++ (gheads (gchain (s ++ List.replicate n gbare) (List.range' s.length n) 0).2 xs).1.2), (gheads (gchain (s ++ List.replicate n gbare) (List.range' s.length n) 0).2 xs).2) := by
  subst hn
  rw [h, List.append_assoc, List.append_assoc]
  rfl
theorem range_snoc (a j : Nat) : List.range' a (j + 1) = List.range' a j ++ [a + j] := by rw [List.range'_concat, Nat.one_mul]
theorem bares_snoc (s : List GN) (j : Nat) : s ++ List.replicate (j + 1) gbare = s ++ List.replicate j gbare ++ [⟨0, 0, 0⟩] := by rw [List.replicate_succ', List.append_assoc]; rfl
theorem to48_drop {l : List S56} {i : Nat} (h : i < l.length) : (l.map to48).drop i = to48 l[i] :: (l.map to48).drop (i + 1) := by
  rw [List.drop_eq_getElem_cons (by rw [List.length_map]; exact h), List.getElem_map]
theorem GBodies.inv {hs hf : List Nat} {s s' : List GN} {ps : List Nat} {pss : List (List Nat)} {x : S48} {xs : List S48} {b : Bool} (h : GBodies hs hf s (ps :: pss) (x :: xs) b s') : ∃ m, hdR ps hf hs x.f2.f0 x.f2.f1 = some m ∧
    ((b = false ∧ GSort (hdR ps hf hs) s m x.f2.f2 none s') ∨ (∃ k s1, GSort (hdR ps hf hs) s m x.f2.f2 (some k) s1 ∧ GUni s1 k 0 false s' ∧ b = false) ∨ (∃ k s1 s2, GSort (hdR ps hf hs) s m x.f2.f2 (some k) s1 ∧ GUni s1 k 0 true s2 ∧ GBodies hs hf s2 pss xs b s')) := by
  cases h with
  | bad hm h1 => exact ⟨_, hm, .inl ⟨rfl, h1⟩⟩
  | clash hm h1 hu => exact ⟨_, hm, .inr (.inl ⟨_, _, h1, hu, rfl⟩)⟩
  | step hm h1 hu h2 => exact ⟨_, hm, .inr (.inr ⟨_, _, _, h1, hu, h2⟩)⟩
theorem GBodies.inv_nil {hs hf : List Nat} {s s' : List GN} {pss : List (List Nat)} {b : Bool} (h : GBodies hs hf s pss [] b s') : b = true ∧ s' = s := by
  cases h; exact ⟨rfl, rfl⟩
theorem unify_calls' {gg B : Nat} {row : Option Nat} {w : World} {s s' : List GN} {a b : Nat} {bi : Int} {r : Bool} (hb : bi = (b : Int)) (h : GUni s a b r s') (hw : GWF s) (hM : GM gg B row w s) (hB : B ≤ w.heap.size) (hl : s.length ≤ 1000000) :
    Calls Try.prog 45 #[.pointer (some ⟨gg, 0, none⟩), .int .i64 (a : Int), .int .i64 bi] w (UniOk gg B row r s' w) := by
  subst hb
  exact unify_calls h hw row w hM hB hl
theorem GRounds.inv {s : List GN} {st : List Nat} {i : Nat} {r : Bool} (h : GRounds s st i r) (hi : i < s.length) : (∃ st', GRound s st i true st' ∧ r = true) ∨ (∃ st', GRound s st i false st' ∧ GRounds s st' (i + 1) r) := by
  cases h with
  | done h1 => omega
  | ring _ h1 => exact .inl ⟨_, h1, rfl⟩
  | next _ h1 h2 => exact .inr ⟨_, h1, h2⟩
theorem GRounds.end_ {s : List GN} {st : List Nat} {r : Bool} (h : GRounds s st s.length r) : r = false := by
  cases h with
  | done h1 => rfl
  | ring h1 _ => omega
  | next h1 _ _ => omega
theorem GOuts.inv {s : List GN} {acc : List S41} {k : Nat} {ks : List Nat} {r : Option (List S41)} (h : GOuts s acc (k :: ks) r) : ∃ c p m, GEnd s c k p ∧ GNodesL s p 60 1 m ∧ ((60 < m ∧ r = none) ∨ (m ≤ 60 ∧ ∃ l, GOutL s p [] l ∧ ((isok l = false ∧ r = none) ∨ (isok l = true ∧ GOuts s (acc ++ [⟨l⟩]) ks r)))) := by
  cases h with
  | many he hn hm => exact ⟨_, _, _, he, hn, .inl ⟨hm, rfl⟩⟩
  | bad he hn hm ho hi => exact ⟨_, _, _, he, hn, .inr ⟨hm, _, ho, .inl ⟨hi, rfl⟩⟩⟩
  | step he hn hm ho hi h2 => exact ⟨_, _, _, he, hn, .inr ⟨hm, _, ho, .inr ⟨hi, h2⟩⟩⟩
theorem GOuts.inv_nil {s : List GN} {acc : List S41} {r : Option (List S41)} (h : GOuts s acc [] r) : r = some acc := by cases h; rfl
/-- An element of a row of rows. -/
theorem rows_at {w : World} {B n c i : Nat} {ok : Nat → Prop} {A : Option Addr} {pss : List (List Nat)} (h : (Kd.slice 3 KI).R 92 w B ok (.slice A n c) (pss.map ints)) (hn : n = pss.length) (hi : i < pss.length) : ∃ (g : Nat) (A' : Option Addr) (c' : Nat), A = some ⟨g, 0, none⟩ ∧ w.cell? ⟨g, i, none⟩ = some (.slice A' (pss[i]).length c') ∧ KI.R 3 w B (fun _ => True) (.slice A' (pss[i]).length c') (ints pss[i]) := by
  subst hn
  have hl : (pss.map ints).length = pss.length := List.length_map ..
  have h' : (Kd.slice 3 KI).R 92 w B ok (.slice A (pss.map ints).length c) (pss.map ints) := by rw [hl]; exact h
  obtain ⟨g, cap, e, hB, _, cells, hg⟩ := Kd.R_form h' (by omega)
  injection e with e1 _ e2
  subst e1 e2
  obtain ⟨co, _, hM, hcc, _⟩ := Kd.R_elem h' [] (i : Int) (by omega) (by rw [hl]; omega)
  obtain ⟨v, rfl, hV⟩ := hM
  have he : (pss.map ints).getD (i : Int).toNat [] = ints pss[i] := by rw [Int.toNat_natCast, List.getD_eq_getElem?_getD, List.getElem?_map, List.getElem?_eq_getElem hi]; rfl
  rw [he] at hV
  obtain ⟨A', c', e⟩ := Kd.R_slice hV
  rw [ints_len] at e
  subst e
  have y := hcc 0 _ rfl
  rw [Int.toNat_natCast] at y
  refine ⟨g, A', c', rfl, ?_, Kd.R_mono hV (fun _ _ => trivial)⟩
  exact (congrArg (fun j => w.cell? ⟨g, j, none⟩) (show i = i * (Kd.slice 3 KI).sz + 0 from by show i = i * 1 + 0; omega)).trans y
theorem nodes_calls' {gg B : Nat} {row : Option Nat} {w : World} {s : List GN} {h : Nat → Nat} (wf : WF (s.map toK) h) (hM : GM gg B row w s) (hl : s.length ≤ 1000000) {n c p r : Nat} (he : GEnd s c n p) (hn : GNodesL s p 60 1 r) :
    Calls Try.prog 47 #[.pointer (some ⟨gg, 0, none⟩), .int .i64 (n : Int), .int .i64 60] w fun e w' => e = .returned (.int .i64 (r : Int)) ∧ w' = w :=
  nodes_calls wf hM hl _ n c p 60 r he (Nat.lt_succ_self _) (by omega) hn
end Go.Proofs.Ytfhgoebgnilfaaa.I
namespace Go.Proofs.Ytfhgoebgnilfaaa.I
open Go.RowKit Go.Proofs.YtfhgoebgnilfaaaW.PrintWords Go.Proofs.YtfhgoebgnilfaaaW.PrintLast Go.Proofs.YtfhgoebgnilfaaaW.PrintMore
attribute [local go_sem] max2_int min2_int max_two min_two max_three min_three max_four min_four
set_option linter.unusedVariables false
set_option maxRecDepth 100000
set_option linter.unusedSimpArgs false
theorem refsorts_err (kC : Nat) (A0 : Option Addr) (c0 : Nat) (l0 : List S59) (A1 : Option Addr) (c1 : Nat) (l1 : List S56) (r : Int) (w : World) (hr0 : Kd.C k59 w A0 l0.length l0) (hc0 : l0.length ≤ c0) (hr1 : Kd.C k56 w A1 l1.length l1) (hc1 : l1.length ≤ c1) (h : virgationref04_Check.f kC l0 l1 = some r) (hr : r ≠ 0) :
    Calls Try.prog 14 #[.slice A0 l0.length c0, .slice A1 l1.length c1] w fun e w' => e = .returned (.tuple #[.slice none 0 0, .int .i64 r]) ∧ Below w.heap.size w w' := by
  have HR0 := Aside0.mk hr0
  have HC0 := Aside0.mk hc0
  have HR1 := Aside0.mk hr1
  have HC1 := Aside0.mk hc1
  have H := Aside0.mk h
  have hne : (r != 0) = true := bne_iff_ne.2 hr
  clear hr0 hc0 hr1 hc1 h hr
  go_enter Try.func14, Try.ntmps14
  go_wp2_with fail
  (with_reducible refine (virgationref04_Check.calls kC A0 c0 l0 A1 c1 l1 r _ HR0.out HC0.out HR1.out HC1.out H.out).mono ?_)
  rintro e w1 ⟨rfl, hb1⟩
  have HB1 := Aside0.mk hb1
  clear hb1
  go_wp2_with fail
  go_ret2
  exact ⟨rfl, HB1.out⟩
set_option maxHeartbeats 8000000 in
theorem refsorts_ok (kC : Nat) (A0 : Option Addr) (c0 : Nat) (l0 : List S59) (A1 : Option Addr) (c1 : Nat) (l1 : List S56) (out : List S41) (er : Int) (w : World) (hr0 : Kd.C k59 w A0 l0.length l0) (hc0 : l0.length ≤ c0) (hr1 : Kd.C k56 w A1 l1.length l1) (hc1 : l1.length ≤ c1) (h : virgationref04_Check.f kC l0 l1 = some 0) (hk : chkF l0 (l1.map to48) = some 0) (hG : GSorts l0 (l1.map to48) out er) :
    Calls Try.prog 14 #[.slice A0 l0.length c0, .slice A1 l1.length c1] w fun e w' => ∃ v, e = .returned (.tuple #[v, .int .i64 er]) ∧ Kd.R k41 41 w' w.heap.size (fun _ => True) v out ∧ Below w.heap.size w w' := by
  have hu56 := Try.underlying56
  have hu44 := Try.underlying44
  have hu59 := Try.underlying59
  have hu90 := Try.underlying90
  have hu41 := Try.underlying41
  have HR0 := Aside0.mk hr0
  have HC0 := Aside0.mk hc0
  have HR1 := Aside0.mk hr1
  have HC1 := Aside0.mk hc1
  have HK := Aside0.mk hk
  have HCk := Aside0.mk h
  have HG := Aside0.mk hG
  have hok := fCheck_ok hk
  rw [List.length_map] at hok
  have h24 : l0.length ≤ 24 := hok.2.1
  have h64 : l1.length ≤ 64 := hok.2.2.2.1
  have HSY := Aside0.mk (symsL_le _ _ hok.1)
  have HLE := Aside0.mk hok.2.2.2.2
  clear hr0 hc0 hr1 hc1 hk h hG hok
  go_enter Try.func14, Try.ntmps14
  go_wp2_with fail
  (with_reducible refine (virgationref04_Check.calls kC A0 c0 l0 A1 c1 l1 0 _ HR0.out HC0.out HR1.out HC1.out HCk.out).mono ?_)
  rintro e w1 ⟨rfl, hb1⟩
  have HB1 := Aside0.mk hb1
  clear hb1 HCk
  go_wp2_with (
    (with_reducible refine gate_dst (N := 33) rfl ?_)
    refine box_event ?hg (N := 33) ?hd (cs := #[.slice none 0 0]) (t := 90) ?hr ?_
    (case hd => rfl)
    (case hg => rfl)
    (case hr => first | (go_simp; done) | (go_simp; rfl))
    intro gg hgg w2 hbox hb2
    have HGM := Aside0.mk (show GM gg w.heap.size none w2 [] from ⟨by have := HB1.out.size; omega, none, 0, hbox, Kd.R_nil _ _ _ _ _, rfl⟩)
    have HB2 := Aside0.mk (below_step HB1.out hb2)
    clear hbox hb2 hgg HB1)
  (with_reducible refine (add_calls (k := 1) (ki := 1) (a := 0) (ai := 0) (b := 0) (bi := 0) rfl rfl rfl HGM.out HB2.out.size (by simp)).mono ?_)
  rintro e w3 ⟨row, rfl, hM3, hK3⟩
  have HM3 := Aside0.mk (show GM gg w.heap.size row w3 g0 from hM3)
  have HB3 := Aside0.mk (hK3.elder HGM.out HB2.out HB2.out.size)
  clear hM3 hK3 HGM HB2
  go_wp2_with (
    (with_reducible refine gate_dst (N := 9) rfl ?_)
    refine box_event ?hg (N := 9) ?hd (cs := #[.slice none 0 0, .slice none 0 0, .slice none 0 0]) (t := 93) ?hr ?_
    (case hd => rfl)
    (case hg => rfl)
    (case hr => first | (go_simp; done) | (go_simp; rfl))
    intro gh hgh w4 hbox hb4
    have HM4 := Aside0.mk (HM3.out.keep hb4)
    have HB4 := Aside0.mk (below_step HB3.out hb4)
    have HH4 := Aside0.mk hbox
    have hwh : w.heap.size ≤ gh := by have := HB3.out.size; omega
    clear hbox hb4 hgh HM3 HB3)
  go_loopg [38] l0.length (fun kq v38 wr => ∃ (i : Nat) (s : List GN) (row : Option Nat) (hs : List Nat) (AS : Option Addr) (cS : Nat), v38 = .int .i64 (i : Int) ∧ Aside0 (i + kq = l0.length) ∧ Aside0 (gS l0 = (hs ++ (gsyms s (l0.drop i)).1, (gsyms s (l0.drop i)).2)) ∧ Aside0 (s.length ≤ 1 + 4 * i) ∧ Aside0 (hs.length = i) ∧ Aside0 (GM gg w.heap.size row wr s) ∧ Aside0 (wr.heap[gh]? = some (.cells #[.slice none 0 0, .slice none 0 0, .slice AS hs.length cS] 93 (0, 0))) ∧ Aside0 (KI.R 3 wr w.heap.size (fun _ => True) (.slice AS hs.length cS) (ints hs)) ∧ Aside0 (Below w.heap.size w wr))
  case atStart => exact ⟨0, g0, row, [], none, 0, rfl, ⟨by omega⟩, ⟨rfl⟩, ⟨by decide⟩, ⟨rfl⟩, HM4, HH4, ⟨Kd.R_nil _ _ _ _ _⟩, HB4⟩
  case round =>
    clear HM4 HH4 HB4
    obtain ⟨i, s, row, hs, AS, cS, rfl, Hi, HGS, Hsl, Hhl, HM, HH, HRS, HB⟩ := hrel
    by_cases hlt : i < l0.length
    · obtain ⟨ad0, he, hx1, hx2⟩ := at_T59 HR0.out (i : Int) (by omega) (by omega)
      cases he
      replace hx1 := (HB.out.cell (World.block_lt_of_cell? w _ hx1)).trans hx1
      replace hx2 := (HB.out.cell (World.block_lt_of_cell? w _ hx2)).trans hx2
      rw [Int.toNat_natCast] at hx1 hx2
      have hxe : rd_T59 l0 (i : Int) = l0[i] := by unfold rd_T59; rw [Int.toNat_natCast, List.getD_eq_getElem?_getD, List.getElem?_eq_getElem hlt]; rfl
      have hrk := HSY.out l0[i] (List.getElem_mem hlt)
      have hgs := HGS.out
      rw [List.drop_eq_getElem_cons hlt] at hgs
      have HGS2 := Aside0.mk (gsyms_step hgs)
      rw [hxe] at hx1 hx2
      have p1 : (0 ≤ (i : Int)) = True := eq_true (by omega)
      have p2 : ((i : Int) < (l0.length : Int)) = True := eq_true (by omega)
      have p3 : (i < l0.length) = True := eq_true (by omega)
      clear hxe hgs HGS
      generalize l0[i] = x at *
      obtain ⟨nm, rk⟩ := x
      obtain ⟨n, rfl⟩ : ∃ n : Nat, rk = (n : Int) := ⟨rk.toNat, by have := hrk.1; simp at this; omega⟩
      have hn4 : n ≤ 4 := by have := hrk.2; simp at this; omega
      have HGS3 := HGS2.out
      simp only [Int.toNat_natCast] at HGS3
      have HGS4 := Aside0.mk HGS3
      clear HGS2 HGS3 hrk
      go_upto_region 10 with (
        (with_reducible refine gate_dst (N := 11) rfl ?_)
        refine box_event ?hg (N := 11) ?hd (cs := #[.string (⟨#[]⟩ : ByteArray), .int .i64 0]) (t := 59) ?hr ?_
        (case hd => rfl)
        (case hg => rfl)
        (case hr => first | (go_simp; done) | (go_simp; rfl))
        intro gi hgi w6 hbox hb6
        have hgw : wr.heap.size ≤ gi := by omega
        have Hbw := Aside0.mk (below_set (g := gi) (j := 1) (v := .int .i64 (n : Int)) (below_set (g := gi) (j := 0) (v := .string nm) hb6 hgw) hgw)
        have Hgi := Aside0.mk (blk_put (cs' := #[.string nm, .int .i64 (n : Int)]) (blk_put (cs' := #[.string nm, .int .i64 0]) hbox 0 (.string nm) rfl) 1 (.int .i64 (n : Int)) rfl)
        have hcz0 := (blk_cell hbox 0).trans rfl
        have hfz0 := blk_frozen hbox 0
        have hcz1 := (blk_cell hbox 1).trans rfl
        have hfz1 := blk_frozen hbox 1
        clear hbox hb6 hgi hgw)
      clear hcz0 hfz0 hcz1 hfz1 hx1 hx2
      generalize ((w6.setCell ⟨gi, 0, none⟩ (.string nm)).setCell ⟨gi, 1, none⟩ (.int .i64 (n : Int))) = wq at *
      have HMq := Aside0.mk (HM.out.keep Hbw.out)
      have HHq := Aside0.mk (blk_below HH.out Hbw.out)
      have HRSq := Aside0.mk (Kd.R_below HRS.out Hbw.out)
      have HBq := Aside0.mk (below_step HB.out Hbw.out)
      have n1 : wq.cell? ⟨gi, 1, none⟩ = some (.int .i64 (n : Int)) := (blk_cell Hgi.out 1).trans rfl
      have n2 : wq.cell? ⟨gh, 2, none⟩ = some (.slice AS hs.length cS) := (blk_cell HHq.out 2).trans rfl
      clear HM HH HRS HB Hbw Hgi
      obtain ⟨ob, hmk, hobR⟩ := make_row n (by omega)
      have n3 := cellA n2
      have HW8 := Aside0.mk (show Below wq.heap.size wq (wq.alloc ob).drew from below_drew (below_alloc (Below.refl _ _) ob))
      have HOB := Aside0.mk (Kd.R_drew (hobR wq w.heap.size HBq.out.size))
      have HM8 := Aside0.mk (HMq.out.keep HW8.out)
      have HH8 := Aside0.mk (blk_below HHq.out HW8.out)
      have HRS8 := Aside0.mk (Kd.R_below HRSq.out HW8.out)
      have HB8 := Aside0.mk (below_step HBq.out HW8.out)
      clear hobR
      go_region_law
        (first
          | (go_simp
             go_at_call 43
             (with_reducible refine (chain_calls' (ps := List.replicate n 0) (d0 := 0) (di := 0) (List.length_replicate ..) rfl HM8.out HB8.out.size (by have := Hsl.out; omega) HOB.out).mono ?_)
             rintro e9 w9 ⟨row9, rfl, hM9, hK9⟩
             have HM9 := Aside0.mk hM9
             have HH9 := Aside0.mk (hK9.blk HM8.out HH8.out (by decide))
             have HRS9 := Aside0.mk (hK9.R HM8.out HRS8.out (by decide))
             have HB9 := Aside0.mk (hK9.elder HM8.out HB8.out HB8.out.size)
             have m2 : w9.cell? ⟨gh, 2, none⟩ = some (.slice AS hs.length cS) := (blk_cell HH9.out 2).trans rfl
             have m3 := cellA m2
             clear hM9 hK9)
          | (have tk := HM9.out
             refine Kd.R_append_step KI (w0 := w) w.heap.size rfl (.tmp 43) (.tmp 50) 92 3 (.int .i64 0) 8 rfl Try.underlying92 info3 rfl (by decide) (by omega) (.slice AS hs.length cS) (ints hs) (((gchain s (List.replicate n 0) 0).1 : Nat) : Int) [.int .i64 (((gchain s (List.replicate n 0) 0).1 : Nat) : Int)] (fun _ => True) (fun _ => False) rfl rfl rfl (fun _ hk => hk.elim) (fun _ _ => trivial) HRS9.out HB9.out HB9.out.size (by rw [ints_len, Hhl.out]; omega) ?_
             intro v2 w10 hr10 hb10 hg10 _
             rw [← ints_app] at hr10
             obtain ⟨A2, c2, e2⟩ := Kd.R_slice hr10
             rw [ints_len] at e2
             subst e2
             have tf := Kd.R_typed HRS9.out
             have HRS10 := Aside0.mk hr10
             have HB10 := Aside0.mk hb10
             have HM10 := Aside0.mk (HM9.out.grown hg10 (fun k hk => by obtain ⟨c, hc⟩ := tf k hk; exact ⟨c, 3, hc, by decide, by decide⟩))
             have HH10 := Aside0.mk (blk_grownT HH9.out hg10 (fun k hk => by obtain ⟨c, hc⟩ := tf k hk; exact ⟨3, c, by decide, hc⟩))
             have k0 : w10.cell? ⟨gh, 2, none⟩ = some (.slice AS hs.length cS) := (blk_cell HH10.out 2).trans rfl
             have k1 := blk_frozen HH10.out 2
             clear hr10 hb10 hg10 tf HM9 HH9 HRS9 HB9 m2 m3 tk))
      all_goals (
        have hll : (hs ++ [(gchain s (List.replicate n 0) 0).1]).length = hs.length + 1 := by rw [List.length_append]; rfl
        have HH11 := Aside0.mk (show (w10.setCell ⟨gh, 2, none⟩ (.slice A2 (hs.length + 1) c2)).heap[gh]? = some (.cells #[.slice none 0 0, .slice none 0 0, .slice A2 (hs ++ [(gchain s (List.replicate n 0) 0).1]).length c2] 93 (0, 0)) from by rw [hll]; exact blk_put HH10.out 2 _ rfl)
        have HM11 := Aside0.mk (HM10.out.over (w' := w10.setCell ⟨gh, 2, none⟩ (.slice A2 (hs.length + 1) c2)) HH10.out (by decide) ⟨rfl, rfl, rfl, by simp [World.setCell], fun k hk he => Below.heap_setCell w10 _ _ k (fun e => he (by rw [e]))⟩)
        have HRS11 := Aside0.mk (Kd.R_set HRS10.out HH10.out (by decide) 2 (.slice A2 (hs.length + 1) c2))
        have HB11 := Aside0.mk (below_set (g := gh) (j := 2) (v := .slice A2 (hs.length + 1) c2) HB10.out hwh)
        clear HH10 HM10 HRS10 HB10 k0 k1 HMq HHq HRSq HBq n1 n2 n3 HW8 HOB HM8 HH8 HRS8 HB8 hmk
        generalize w10.setCell ⟨gh, 2, none⟩ (.slice A2 (hs.length + 1) c2) = w11 at *
        have HLL := Aside0.mk hll
        clear hll
        go_wp2_with fail
        have hk := Hi.out
        obtain ⟨k1, rfl⟩ : ∃ k1, gk = k1 + 1 := ⟨gk - 1, by omega⟩
        go_roundg k1
        case measure => omega
        case rel => exact ⟨i + 1, _, _, hs ++ [(gchain s (List.replicate n 0) 0).1], A2, c2, by go_num, ⟨by omega⟩, HGS4, ⟨by rw [gchain_len, List.length_replicate]; have := Hsl.out; omega⟩, ⟨by rw [HLL.out, Hhl.out]⟩, HM11, HH11, HRS11, HB11⟩)
    · have hie : i = l0.length := by have := Hi.out; omega
      subst hie
      have hgs := HGS.out
      rw [List.drop_length] at hgs
      have e1 : (gS l0).1 = hs := by rw [hgs]; exact List.append_nil hs
      have e2 : (gS l0).2 = s := by rw [hgs]; rfl
      subst e1 e2
      clear hgs HGS
      have HSL := Aside0.mk (show (gS l0).2.length ≤ 97 from by have := Hsl.out; omega)
      clear Hsl
      go_wp2_with fail
      go_loopg [12, 56] l1.length (fun kq v12 v56 wr => ∃ (i : Nat) (s : List GN) (row : Option Nat) (pss : List (List Nat)) (hf : List Nat) (AF AP : Option Addr) (cF cP : Nat), v12 = .slice AP i cP ∧ v56 = .int .i64 (i : Int) ∧ Aside0 (i + kq = l1.length) ∧ Aside0 (gH l0 (l1.map to48) = ((pss ++ (gheads s ((l1.map to48).drop i)).1.1, hf ++ (gheads s ((l1.map to48).drop i)).1.2), (gheads s ((l1.map to48).drop i)).2)) ∧ Aside0 (s.length ≤ 97 + 16 * i) ∧ Aside0 (hf.length = i ∧ pss.length = i) ∧ Aside0 (GM gg w.heap.size row wr s) ∧ Aside0 (wr.heap[gh]? = some (.cells #[.slice none 0 0, .slice AF hf.length cF, .slice AS (gS l0).1.length cS] 93 (0, 0))) ∧ Aside0 (KI.R 3 wr w.heap.size (fun k => some k ≠ (Value.slice AF hf.length cF).ownBlock) (.slice AS (gS l0).1.length cS) (ints (gS l0).1)) ∧ Aside0 (KI.R 3 wr w.heap.size (fun _ => True) (.slice AF hf.length cF) (ints hf)) ∧ Aside0 ((Kd.slice 3 KI).R 92 wr w.heap.size (fun k => some k ≠ (Value.slice AF hf.length cF).ownBlock) (.slice AP i cP) (pss.map ints)) ∧ Aside0 (Below w.heap.size w wr))
      case atStart => exact ⟨0, (gS l0).2, row, [], [], none, none, 0, 0, rfl, rfl, ⟨by omega⟩, ⟨rfl⟩, HSL, ⟨rfl, rfl⟩, HM, HH, ⟨Kd.R_mono HRS.out (fun k _ => by simp [Value.ownBlock])⟩, ⟨Kd.R_nil _ _ _ _ _⟩, ⟨Kd.R_nil _ _ _ _ _⟩, HB⟩
      case round =>
        clear HSL HM HH HRS HB
        obtain ⟨i, s, row, pss, hf, AF, AP, cF, cP, rfl, rfl, Hi, HGH, Hsl, Hlen, HM, HH, HRS, HRF, HRP, HB⟩ := hrel
        by_cases hlt : i < l1.length
        · have hki := Hi.out
          obtain ⟨ko, rfl⟩ : ∃ ko, gk = ko + 1 := ⟨gk - 1, by omega⟩
          clear hki
          obtain ⟨ad0, A4, c4, he, hx1, hx2, hx3, hx4, hx5, hl4, hC4⟩ := at_T56 HR1.out (i : Int) (by omega) (by omega)
          cases he
          replace hx1 := (HB.out.cell (World.block_lt_of_cell? w _ hx1)).trans hx1
          replace hx2 := (HB.out.cell (World.block_lt_of_cell? w _ hx2)).trans hx2
          replace hx3 := (HB.out.cell (World.block_lt_of_cell? w _ hx3)).trans hx3
          replace hx4 := (HB.out.cell (World.block_lt_of_cell? w _ hx4)).trans hx4
          replace hx5 := (HB.out.cell (World.block_lt_of_cell? w _ hx5)).trans hx5
          rw [Int.toNat_natCast] at hx1 hx2 hx3 hx4 hx5
          have hxe : rd_T56 l1 (i : Int) = l1[i] := by unfold rd_T56; rw [Int.toNat_natCast, List.getD_eq_getElem?_getD, List.getElem?_eq_getElem hlt]; rfl
          rw [hxe] at hx1 hx2 hx3 hx4 hx5
          have hrk := HLE.out (to48 l1[i]) (List.mem_map_of_mem (List.getElem_mem hlt))
          have hgs := HGH.out
          rw [to48_drop hlt] at hgs
          have p1 : (0 ≤ (i : Int)) = True := eq_true (by omega)
          have p2 : ((i : Int) < (l1.length : Int)) = True := eq_true (by omega)
          have p3 : (i < l1.length) = True := eq_true (by omega)
          clear hxe HGH hl4 hC4
          generalize l1[i] = x at *
          obtain ⟨nm, rk, tb⟩ := x
          obtain ⟨n, rfl⟩ : ∃ n : Nat, rk = (n : Int) := ⟨rk.toNat, by have := hrk.1; simp [to48] at this; omega⟩
          have hn8 : n ≤ 8 := by have := hrk.2; simp [to48] at this; omega
          have HGH4 := Aside0.mk (gheads_step hgs (n := n) (by simp [to48]))
          clear hgs hrk
          simp only at hx1 hx2 hx3 hx4 hx5
          go_wp2_with (
              (with_reducible refine gate_dst (N := 14) rfl ?_)
              refine box_event ?hg (N := 14) ?hd (cs := #[.string (⟨#[]⟩ : ByteArray), .int .i64 0, .int .i64 0, .int .i64 0, .slice none 0 0]) (t := 56) ?hr ?_
              (case hd => rfl)
              (case hg => rfl)
              (case hr => first | (go_simp; done) | (go_simp; rfl))
              intro gi hgi w6 hbox hb3
              have hgw : wr.heap.size ≤ gi := by omega
              have Hbw := Aside0.mk (below_set (g := gi) (j := 4) (v := .slice A4 tb.f2.length c4) (below_set (g := gi) (j := 3) (v := .int .i64 tb.f1) (below_set (g := gi) (j := 2) (v := .int .i64 tb.f0) (below_set (g := gi) (j := 1) (v := .int .i64 (n : Int)) (below_set (g := gi) (j := 0) (v := .string nm) hb3 hgw) hgw) hgw) hgw) hgw)
              have Hgi := Aside0.mk (blk_put (cs' := #[.string nm, .int .i64 (n : Int), .int .i64 tb.f0, .int .i64 tb.f1, .slice A4 tb.f2.length c4]) (blk_put (cs' := #[.string nm, .int .i64 (n : Int), .int .i64 tb.f0, .int .i64 tb.f1, .slice none 0 0]) (blk_put (cs' := #[.string nm, .int .i64 (n : Int), .int .i64 tb.f0, .int .i64 0, .slice none 0 0]) (blk_put (cs' := #[.string nm, .int .i64 (n : Int), .int .i64 0, .int .i64 0, .slice none 0 0]) (blk_put (cs' := #[.string nm, .int .i64 0, .int .i64 0, .int .i64 0, .slice none 0 0]) (hbox) 0 (.string nm) rfl) 1 (.int .i64 (n : Int)) rfl) 2 (.int .i64 tb.f0) rfl) 3 (.int .i64 tb.f1) rfl) 4 (.slice A4 tb.f2.length c4) rfl)
              have n1 := (blk_cell Hgi.out 1).trans rfl
              have hcz0 := (blk_cell hbox 0).trans rfl
              have hfz0 := blk_frozen hbox 0
              have hcz1 := (blk_cell hbox 1).trans rfl
              have hfz1 := blk_frozen hbox 1
              have hcz2 := (blk_cell hbox 2).trans rfl
              have hfz2 := blk_frozen hbox 2
              have hcz3 := (blk_cell hbox 3).trans rfl
              have hfz3 := blk_frozen hbox 3
              have hcz4 := (blk_cell hbox 4).trans rfl
              have hfz4 := blk_frozen hbox 4
              clear hbox hb3 hgi hgw)
          clear n1 hcz0 hcz1 hcz2 hcz3 hcz4 hfz0 hfz1 hfz2 hfz3 hfz4 hx1 hx2 hx3 hx4 hx5
          generalize (((((w6.setCell ⟨gi, 0, none⟩ (.string nm)).setCell ⟨gi, 1, none⟩ (.int .i64 (n : Int))).setCell ⟨gi, 2, none⟩ (.int .i64 tb.f0)).setCell ⟨gi, 3, none⟩ (.int .i64 tb.f1)).setCell ⟨gi, 4, none⟩ (.slice A4 tb.f2.length c4)) = wq at *
          have HMq := Aside0.mk (HM.out.keep Hbw.out)
          have HHq := Aside0.mk (blk_below HH.out Hbw.out)
          have HRSq := Aside0.mk (Kd.R_below HRS.out Hbw.out)
          have HRFq := Aside0.mk (Kd.R_below HRF.out Hbw.out)
          have HRPq := Aside0.mk (Kd.R_below HRP.out Hbw.out)
          have HBq := Aside0.mk (below_step HB.out Hbw.out)
          clear HM HH HRS HRF HRP HB Hbw Hgi
          go_loopg [15, 62] n (fun kq v15 v62 wr => ∃ (j : Nat) (row : Option Nat) (Af : Option Addr) (cf : Nat), v15 = .slice Af j cf ∧ v62 = .int .i64 (j : Int) ∧ Aside0 (j + kq = n) ∧ Aside0 (GM gg w.heap.size row wr (s ++ List.replicate j gbare)) ∧ Aside0 (wr.heap[gh]? = some (.cells #[.slice none 0 0, .slice AF hf.length cF, .slice AS (gS l0).1.length cS] 93 (0, 0))) ∧ Aside0 (KI.R 3 wr w.heap.size (fun k => some k ≠ (Value.slice AF hf.length cF).ownBlock ∧ some k ≠ (Value.slice Af j cf).ownBlock) (.slice AS (gS l0).1.length cS) (ints (gS l0).1)) ∧ Aside0 (KI.R 3 wr w.heap.size (fun k => some k ≠ (Value.slice Af j cf).ownBlock) (.slice AF hf.length cF) (ints hf)) ∧ Aside0 ((Kd.slice 3 KI).R 92 wr w.heap.size (fun k => some k ≠ (Value.slice AF hf.length cF).ownBlock ∧ some k ≠ (Value.slice Af j cf).ownBlock) (.slice AP i cP) (pss.map ints)) ∧ Aside0 (KI.R 3 wr w.heap.size (fun k => some k ≠ (Value.slice AF hf.length cF).ownBlock) (.slice Af j cf) (ints (List.range' s.length j))) ∧ Aside0 (Below w.heap.size w wr))
          case atStart => exact ⟨0, row, none, 0, rfl, rfl, ⟨by omega⟩, ⟨by rw [List.replicate_zero, List.append_nil]; exact HMq.out⟩, HHq, ⟨Kd.R_mono HRSq.out (fun k hk => ⟨hk, by simp [Value.ownBlock]⟩)⟩, ⟨Kd.R_mono HRFq.out (fun k hk => by simp [Value.ownBlock])⟩, ⟨Kd.R_mono HRPq.out (fun k hk => ⟨hk, by simp [Value.ownBlock]⟩)⟩, ⟨Kd.R_nil _ _ _ _ _⟩, HBq⟩
          case round =>
            clear HMq HHq HRSq HRFq HRPq HBq
            obtain ⟨j, row, Af, cf, rfl, rfl, Hj, HM, HH, HRS, HRF, HRP, HRf, HB⟩ := hrel
            by_cases hjn : j < n
            · go_wp2_with fail
              (with_reducible refine (add_calls (k := 0) (ki := 0) (a := 0) (ai := 0) (b := 0) (bi := 0) rfl rfl rfl HM.out HB.out.size (by rw [List.length_append, List.length_replicate]; have := Hsl.out; omega)).mono ?_)
              rintro e w7 ⟨row7, he, hM7, hK7⟩
              obtain ⟨a7, ha7⟩ : ∃ a7, a7 = s.length + j := ⟨_, rfl⟩
              rw [show (s ++ List.replicate j gbare).length = a7 from by rw [ha7, List.length_append, List.length_replicate]] at he
              subst he
              have HA7 := Aside0.mk ha7
              rw [← bares_snoc] at hM7
              have HM7 := Aside0.mk hM7
              have HH7 := Aside0.mk (hK7.blk HM.out HH.out (by decide))
              have HRS7 := Aside0.mk (hK7.R HM.out HRS.out (by decide))
              have HRF7 := Aside0.mk (hK7.R HM.out HRF.out (by decide))
              have HRP7 := Aside0.mk (hK7.R HM.out HRP.out (by decide))
              have HRf7 := Aside0.mk (hK7.R HM.out HRf.out (by decide))
              have HB7 := Aside0.mk (hK7.elder HM.out HB.out HB.out.size)
              clear ha7 hM7 hK7 HM HH HRS HRF HRP HRf HB
              go_wp2_with (at_builtin; refine holdI5 ?_)
              unfold HoldI5
              refine Kd.R_append KI (w0 := w) w.heap.size rfl (.tmp 64) (.tmp 67) 92 3 (.int .i64 0) 8 rfl Try.underlying92 info3 rfl (by decide) (by omega) (.slice Af j cf) (ints (List.range' s.length j)) (a7 : Int) [.int .i64 (a7 : Int)] (fun k => some k ≠ (Value.slice AF hf.length cF).ownBlock) (fun _ => False) rfl rfl rfl (fun _ hk => hk.elim) (fun k hk e => by have := Kd.R_lt HRF7.out k e.symm; omega) HRf7.out HB7.out HB7.out.size (by rw [ints_len, List.length_range']; omega) ?_
              intro v8 w8 hr8 hb8 hg8 hat8
              rw [← ints_app, show List.range' s.length j ++ [a7] = List.range' s.length (j + 1) from by rw [HA7.out, range_snoc]] at hr8
              have tf := Kd.R_typed HRf7.out
              have HRS8 := Aside0.mk (R_beside HRS7.out hg8 hat8)
              have HRF8 := Aside0.mk (R_beside1 HRF7.out hg8 hat8)
              have HRP8 := Aside0.mk (R_beside HRP7.out hg8 hat8)
              have HM8 := Aside0.mk (HM7.out.grown hg8 (fun k hk => by obtain ⟨c, hc⟩ := tf k hk; exact ⟨c, 3, hc, by decide, by decide⟩))
              have HH8 := Aside0.mk (blk_grownT HH7.out hg8 (fun k hk => by obtain ⟨c, hc⟩ := tf k hk; exact ⟨3, c, by decide, hc⟩))
              have HB8 := Aside0.mk hb8
              obtain ⟨A2, c2, e2⟩ := Kd.R_slice hr8
              rw [ints_len, List.length_range'] at e2
              subst e2
              have HRf8 := Aside0.mk hr8
              clear hr8 hb8 hg8 hat8 tf HRS7 HRF7 HRP7 HM7 HH7 HB7 HRf7
              go_wp2_with fail
              have hk := Hj.out
              obtain ⟨k1, rfl⟩ : ∃ k1, gk = k1 + 1 := ⟨gk - 1, by omega⟩
              go_roundg k1
              case measure => omega
              case rel => exact ⟨j + 1, row7, A2, c2, by rfl, by go_num, ⟨by omega⟩, HM8, HH8, HRS8, HRF8, HRP8, HRf8, HB8⟩
            · have hje : j = n := by have := Hj.out; omega
              subst hje
              go_wp2_with (at_builtin; refine holdI5 ?_)
              unfold HoldI5
              have info92 : (Try.prog.info? 92).map (fun i => (i.zero, i.size, i.bytes)) = some (some (.slice none 0 0), 1, 24) := by kernel_rfl
              refine Kd.R_append (Kd.slice 3 KI) (w0 := w) w.heap.size rfl (.tmp 70) (.tmp 72) 95 92 (.slice none 0 0) 24 rfl Try.underlying95 info92 rfl (Nat.lt_succ_self 0) (by omega) (.slice AP i cP) (pss.map ints) (ints (List.range' s.length j)) [.slice Af j cf] (fun k => some k ≠ (Value.slice AF hf.length cF).ownBlock) (fun k => some k ≠ (Value.slice AF hf.length cF).ownBlock ∧ ∃ cells, wr.heap[k]? = some (.cells cells 3 (0, 0))) rfl rfl ?xM (fun k hk => ⟨hk.1, fun e => ?xN⟩) (fun k hk e => by have := Kd.R_lt HRF.out k e.symm; omega) (Kd.R_mono HRP.out (fun k hk => hk.1)) HB.out HB.out.size (by rw [List.length_map, Hlen.out.2]; omega) ?_
              (case xM => exact ⟨_, rfl, Kd.R_mono (Kd.R_bound HRf.out) (fun k hk => by
                obtain ⟨h1, _, _, q, hq, cells, hc⟩ := hk
                rcases List.mem_cons.1 hq with e | hq
                · subst e; exact ⟨h1, cells, hc⟩
                · cases hq)⟩)
              (case xN => obtain ⟨cells, hc⟩ := hk.2; obtain ⟨c2, hc2⟩ := Kd.R_typed HRP.out k e.symm; exact absurd (blk_type hc hc2) (by decide))
              intro v8 w8 hr8 hb8 hg8 hat8
              rw [show pss.map ints ++ [ints (List.range' s.length j)] = (pss ++ [List.range' s.length j]).map ints from by rw [List.map_append]; rfl] at hr8
              have tf := Kd.R_typed HRP.out
              have HRS8 := Aside0.mk (Kd.R_over' HRS.out tf (by decide) hg8)
              have HRF8 := Aside0.mk (Kd.R_over' HRF.out tf (by decide) hg8)
              have HRf8 := Aside0.mk (Kd.R_over' HRf.out tf (by decide) hg8)
              have HM8 := Aside0.mk (HM.out.grown hg8 (fun k hk => by obtain ⟨c, hc⟩ := tf k hk; exact ⟨c, 92, hc, by decide, by decide⟩))
              have HH8 := Aside0.mk (blk_grownT HH.out hg8 (fun k hk => by obtain ⟨c, hc⟩ := tf k hk; exact ⟨92, c, by decide, hc⟩))
              have HB8 := Aside0.mk hb8
              have HRS8' := Aside0.mk (Kd.R_mono HRS8.out (fun k hk => hk.1))
              have HRF8' := Aside0.mk (Kd.R_mono HRF8.out (fun k hk => trivial) (ok' := fun _ => True))
              obtain ⟨A2, c2, e2⟩ := Kd.R_slice hr8
              rw [List.length_map, List.length_append, Hlen.out.2, show ([List.range' s.length j] : List (List Nat)).length = 1 from rfl] at e2
              subst e2
              have HRP8 := Aside0.mk hr8
              clear hr8 hb8 hg8 hat8 tf HRS HRF HRP HM HH HB HRf HRS8 HRF8 info92
              have n2 : w8.cell? ⟨gh, 1, none⟩ = some (.slice AF hf.length cF) := (blk_cell HH8.out 1).trans rfl
              go_upto_region 22 with (fail)
              go_region_law
                (first
                  | (go_simp
                     go_at_call 43
                     (with_reducible refine (chain_calls' (ps := List.range' s.length j) (d0 := 0) (di := 0) (List.length_range' ..) rfl (GM.keep HM8.out (below_drew (Below.refl _ _))) (below_drew HB8.out).size (by rw [List.length_append, List.length_replicate]; have := Hsl.out; omega) (Kd.R_drew HRf8.out)).mono ?_)
                     rintro e9 w9 ⟨row9, rfl, hM9, hK9⟩
                     have HM9 := Aside0.mk hM9
                     have hMd := GM.keep HM8.out (below_drew (Below.refl w8.heap.size w8))
                     have HH9 := Aside0.mk (hK9.blk hMd (blk_drew HH8.out) (by decide))
                     have HRS9 := Aside0.mk (hK9.R hMd (Kd.R_drew HRS8'.out) (by decide))
                     have HRF9 := Aside0.mk (hK9.R hMd (Kd.R_drew HRF8'.out) (by decide))
                     have HRP9 := Aside0.mk (hK9.R hMd (Kd.R_drew HRP8.out) (by decide))
                     have HB9 := Aside0.mk (hK9.elder hMd (below_drew HB8.out) (below_drew HB8.out).size)
                     have m2 : w9.cell? ⟨gh, 1, none⟩ = some (.slice AF hf.length cF) := (blk_cell HH9.out 1).trans rfl
                     have m3 := cellA m2
                     clear hM9 hK9 hMd)
                  | (have tk := HM9.out
                     refine Kd.R_append_step KI (w0 := w) w.heap.size rfl (.tmp 75) (.tmp 80) 92 3 (.int .i64 0) 8 rfl Try.underlying92 info3 rfl (by decide) (by omega) (.slice AF hf.length cF) (ints hf) (((gchain (s ++ List.replicate j gbare) (List.range' s.length j) 0).1 : Nat) : Int) [.int .i64 (((gchain (s ++ List.replicate j gbare) (List.range' s.length j) 0).1 : Nat) : Int)] (fun _ => True) (fun _ => False) rfl rfl rfl (fun _ hk => hk.elim) (fun _ _ => trivial) HRF9.out HB9.out HB9.out.size (by rw [ints_len, Hlen.out.1]; omega) ?_
                     intro v2 w10 hr10 hb10 hg10 hat10
                     rw [← ints_app] at hr10
                     have HRS10 := Aside0.mk (R_beside1 HRS9.out hg10 hat10)
                     have HRP10 := Aside0.mk (R_beside1 HRP9.out hg10 hat10)
                     obtain ⟨A3, c3, e3⟩ := Kd.R_slice hr10
                     rw [ints_len] at e3
                     subst e3
                     have tf := Kd.R_typed HRF9.out
                     have HRF10 := Aside0.mk hr10
                     have HB10 := Aside0.mk hb10
                     have HM10 := Aside0.mk (HM9.out.grown hg10 (fun k hk => by obtain ⟨c, hc⟩ := tf k hk; exact ⟨c, 3, hc, by decide, by decide⟩))
                     have HH10 := Aside0.mk (blk_grownT HH9.out hg10 (fun k hk => by obtain ⟨c, hc⟩ := tf k hk; exact ⟨3, c, by decide, hc⟩))
                     have k0 : w10.cell? ⟨gh, 1, none⟩ = some (.slice AF hf.length cF) := (blk_cell HH10.out 1).trans rfl
                     have k1 := blk_frozen HH10.out 1
                     clear hr10 hb10 hg10 hat10 tf HM9 HH9 HRS9 HRF9 HRP9 HB9 m2 m3 tk))
              all_goals (
                obtain ⟨ch, hch⟩ : ∃ ch, ch = gchain (s ++ List.replicate j gbare) (List.range' s.length j) 0 := ⟨_, rfl⟩
                rw [← hch] at HM10 HRS10 HRF10 HRP10 HGH4
                have hll : (hf ++ [ch.1]).length = hf.length + 1 := by rw [List.length_append]; rfl
                have HH11 := Aside0.mk (show (w10.setCell ⟨gh, 1, none⟩ (.slice A3 (hf.length + 1) c3)).heap[gh]? = some (.cells #[.slice none 0 0, .slice A3 (hf ++ [ch.1]).length c3, .slice AS (gS l0).1.length cS] 93 (0, 0)) from by rw [hll]; exact blk_put HH10.out 1 _ rfl)
                have HM11 := Aside0.mk (HM10.out.over (w' := w10.setCell ⟨gh, 1, none⟩ (.slice A3 (hf.length + 1) c3)) HH10.out (by decide) ⟨rfl, rfl, rfl, by simp [World.setCell], fun k hk he => Below.heap_setCell w10 _ _ k (fun e => he (by rw [e]))⟩)
                have HRS11 := Aside0.mk (Kd.R_set HRS10.out HH10.out (by decide) 1 (.slice A3 (hf.length + 1) c3))
                have HRF11 := Aside0.mk (Kd.R_set HRF10.out HH10.out (by decide) 1 (.slice A3 (hf.length + 1) c3))
                have HRP11 := Aside0.mk (Kd.R_set HRP10.out HH10.out (by decide) 1 (.slice A3 (hf.length + 1) c3))
                have HB11 := Aside0.mk (below_set (g := gh) (j := 1) (v := .slice A3 (hf.length + 1) c3) HB10.out hwh)
                have HLL := Aside0.mk hll
                have HCH := Aside0.mk (show ch.2.length = s.length + j + j from by rw [hch, gchain_len, List.length_append, List.length_replicate, List.length_range'])
                clear HH10 HM10 HRS10 HRF10 HRP10 HB10 k0 k1 HH8 HRS8' HRF8' HRP8 HRf8 HM8 HB8 n2 hch hll
                generalize w10.setCell ⟨gh, 1, none⟩ (.slice A3 (hf.length + 1) c3) = w11 at *
                go_wp2_with fail
                have hk := Hi.out
                go_roundg ko
                case measure => omega
                case rel => exact ⟨i + 1, ch.2, _, pss ++ [List.range' s.length j], hf ++ [ch.1], A3, A2, c3, c2, rfl, by go_num, ⟨by omega⟩, HGH4, ⟨by rw [HCH.out]; have := Hsl.out; omega⟩, ⟨by rw [HLL.out, Hlen.out.1], by rw [List.length_append, Hlen.out.2]; rfl⟩, HM11, HH11, HRS11, HRF11, HRP11, HB11⟩)
        · have hie : i = l1.length := by have := Hi.out; omega
          subst hie
          have hgs := HGH.out
          rw [List.drop_eq_nil_of_le (by rw [List.length_map]; exact Nat.le_refl _)] at hgs
          have e1 : (gH l0 (l1.map to48)).1.1 = pss := by rw [hgs]; exact List.append_nil pss
          have e2 : (gH l0 (l1.map to48)).1.2 = hf := by rw [hgs]; exact List.append_nil hf
          have e3 : (gH l0 (l1.map to48)).2 = s := by rw [hgs]; rfl
          subst e1 e2 e3
          have HHL := Aside0.mk (show (gH l0 (l1.map to48)).2.length ≤ 1121 from by have := Hsl.out; omega)
          clear hgs HGH Hsl
          go_wp2_with fail
          have HRS2 := Aside0.mk (Kd.R_mono HRS.out (fun k _ => trivial) (ok' := fun _ => True))
          have HRP2 := Aside0.mk (Kd.R_mono HRP.out (fun k _ => trivial) (ok' := fun _ => True))
          obtain ⟨b, s', hGB, hInv⟩ := HG.out.inv
          have HGB := Aside0.mk hGB
          have HInv := Aside0.mk hInv
          have Hh := Aside0.mk (gH_ok l0 (l1.map to48))
          have Hs := Aside0.mk (gS_ok l0)
          have Hbg := Aside0.mk (chk_big HK.out)
          clear HRS HRP hGB hInv HG
          go_loopg [86] l1.length (fun kq v86 wr => ∃ (i : Nat) (s : List GN) (row : Option Nat) (AV : Option Addr) (nV cV : Nat), v86 = .int .i64 (i : Int) ∧ Aside0 (i + kq = l1.length) ∧ Aside0 (GBodies (gS l0).1 (gH l0 (l1.map to48)).1.2 s ((gH l0 (l1.map to48)).1.1.drop i) ((l1.map to48).drop i) b s') ∧ Aside0 (GWF s) ∧ Aside0 ((gH l0 (l1.map to48)).2.length ≤ s.length ∧ s.length ≤ 1121 + 2000 * i) ∧ Aside0 (GM gg w.heap.size row wr s) ∧ Aside0 (wr.heap[gh]? = some (.cells #[.slice AV nV cV, .slice AF (gH l0 (l1.map to48)).1.2.length cF, .slice AS (gS l0).1.length cS] 93 (0, 0))) ∧ Aside0 (KI.R 3 wr w.heap.size (fun _ => True) (.slice AS (gS l0).1.length cS) (ints (gS l0).1)) ∧ Aside0 (KI.R 3 wr w.heap.size (fun _ => True) (.slice AF (gH l0 (l1.map to48)).1.2.length cF) (ints (gH l0 (l1.map to48)).1.2)) ∧ Aside0 ((Kd.slice 3 KI).R 92 wr w.heap.size (fun _ => True) (.slice AP l1.length cP) ((gH l0 (l1.map to48)).1.1.map ints)) ∧ Aside0 (Below w.heap.size w wr))
          case atStart => exact ⟨0, (gH l0 (l1.map to48)).2, row, none, 0, 0, rfl, ⟨by omega⟩, HGB, ⟨Hh.out.ext.wf⟩, ⟨Nat.le_refl _, HHL.out⟩, HM, HH, HRS2, HRF, HRP2, HB⟩
          case round =>
            clear HGB HM HH HRS2 HRF HRP2 HB HHL
            obtain ⟨i, s, row, AV, nV, cV, rfl, Hi, HGB, HW, Hsl, HM, HH, HRS, HRF, HRP, HB⟩ := hrel
            by_cases hlt : i < l1.length
            · have hpl : (gH l0 (l1.map to48)).1.1.length = l1.length := Hlen.out.2
              obtain ⟨gP, AVi, cVi, rfl, hv0, hRV⟩ := rows_at HRP.out hpl.symm (i := i) (by omega)
              obtain ⟨ad0, A4, c4, he, hx1, hx2, hx3, hx4, hx5, hl4, hC4⟩ := at_T56 HR1.out (i : Int) (by omega) (by omega)
              cases he
              replace hx1 := (HB.out.cell (World.block_lt_of_cell? w _ hx1)).trans hx1
              replace hx2 := (HB.out.cell (World.block_lt_of_cell? w _ hx2)).trans hx2
              replace hx3 := (HB.out.cell (World.block_lt_of_cell? w _ hx3)).trans hx3
              replace hx4 := (HB.out.cell (World.block_lt_of_cell? w _ hx4)).trans hx4
              replace hx5 := (HB.out.cell (World.block_lt_of_cell? w _ hx5)).trans hx5
              rw [Int.toNat_natCast] at hx1 hx2 hx3 hx4 hx5
              have hxe : rd_T56 l1 (i : Int) = l1[i] := by unfold rd_T56; rw [Int.toNat_natCast, List.getD_eq_getElem?_getD, List.getElem?_eq_getElem hlt]; rfl
              rw [hxe] at hx1 hx2 hx3 hx4 hx5 hl4 hC4
              have hbg := Hbg.out (to48 l1[i]) (List.mem_map_of_mem (List.getElem_mem hlt))
              have hgb := HGB.out
              rw [to48_drop hlt, List.drop_eq_getElem_cons (by omega : i < (gH l0 (l1.map to48)).1.1.length)] at hgb
              obtain ⟨m, hm, hcase⟩ := hgb.inv
              have hps : ∀ p, p ∈ (gH l0 (l1.map to48)).1.1[i] → p < s.length := fun p hp => Nat.lt_of_lt_of_le (Hh.out.lp _ (List.getElem_mem _) p hp) Hsl.out.1
              have hhd := hdR_lt hps (fun p hp => Nat.lt_of_lt_of_le (Hh.out.lk p hp) Hsl.out.1) (fun p hp => Nat.lt_of_lt_of_le (Nat.lt_of_lt_of_le (Hs.out.lk p hp) Hh.out.ext.len) Hsl.out.1)
              have hF4 : Kd.F k44 wr (fun k => k < w.heap.size) A4 l1[i].f2.f2.length l1[i].f2.f2 := Kd.F_step (Kd.C_F k44_heap hC4) (fun k hk _ => HB.out.block k hk)
              have p1 : (0 ≤ (i : Int)) = True := eq_true (by omega)
              have p2 : ((i : Int) < (l1.length : Int)) = True := eq_true (by omega)
              have p3 : (i < l1.length) = True := eq_true (by omega)
              have Hm := Aside0.mk hm
              have Hcase := Aside0.mk hcase
              have Hhd := Aside0.mk hhd
              have HF4 := Aside0.mk hF4
              have Hl4 := Aside0.mk hl4
              have HRV := Aside0.mk hRV
              have Hbgi := Aside0.mk hbg
              clear hxe HGB hl4 hC4 hgb hm hcase hps hhd hF4 hbg hRV
              obtain ⟨psi, hpsi⟩ : ∃ psi, psi = (gH l0 (l1.map to48)).1.1[i]'(by have := Hlen.out.2; omega) := ⟨_, rfl⟩
              rw [← hpsi] at Hm Hcase Hhd HRV hv0
              clear hpsi hpl
              generalize l1[i] = x at *
              obtain ⟨nm, rk, tb⟩ := x
              simp only at hx1 hx2 hx3 hx4 hx5
              replace Hm := Aside0.mk (show hdR psi (gH l0 (l1.map to48)).1.2 (gS l0).1 tb.f0 tb.f1 = some m from Hm.out)
              replace Hbgi := Aside0.mk (show tcntL tb.f2 ≤ 1000 from Hbgi.out)
              have hcs := Hcase.out
              simp only [to48] at hcs
              replace Hcase := Aside0.mk hcs
              clear hcs
              go_upto_region 27 with (
                  (with_reducible refine gate_dst (N := 17) rfl ?_)
                  refine box_event ?hg (N := 17) ?hd (cs := #[.string (⟨#[]⟩ : ByteArray), .int .i64 0, .int .i64 0, .int .i64 0, .slice none 0 0]) (t := 56) ?hr ?_
                  (case hd => rfl)
                  (case hg => rfl)
                  (case hr => first | (go_simp; done) | (go_simp; rfl))
                  intro gi hgi w6 hbox hb3
                  have hgw : wr.heap.size ≤ gi := by omega
                  have Hbw := Aside0.mk (below_set (g := gi) (j := 4) (v := .slice A4 tb.f2.length c4) (below_set (g := gi) (j := 3) (v := .int .i64 tb.f1) (below_set (g := gi) (j := 2) (v := .int .i64 tb.f0) (below_set (g := gi) (j := 1) (v := .int .i64 rk) (below_set (g := gi) (j := 0) (v := .string nm) hb3 hgw) hgw) hgw) hgw) hgw)
                  have Hgi := Aside0.mk (blk_put (cs' := #[.string nm, .int .i64 rk, .int .i64 tb.f0, .int .i64 tb.f1, .slice A4 tb.f2.length c4]) (blk_put (cs' := #[.string nm, .int .i64 rk, .int .i64 tb.f0, .int .i64 tb.f1, .slice none 0 0]) (blk_put (cs' := #[.string nm, .int .i64 rk, .int .i64 tb.f0, .int .i64 0, .slice none 0 0]) (blk_put (cs' := #[.string nm, .int .i64 rk, .int .i64 0, .int .i64 0, .slice none 0 0]) (blk_put (cs' := #[.string nm, .int .i64 0, .int .i64 0, .int .i64 0, .slice none 0 0]) (hbox) 0 (.string nm) rfl) 1 (.int .i64 rk) rfl) 2 (.int .i64 tb.f0) rfl) 3 (.int .i64 tb.f1) rfl) 4 (.slice A4 tb.f2.length c4) rfl)
                  have hcz0 := (blk_cell hbox 0).trans rfl
                  have hfz0 := blk_frozen hbox 0
                  have hcz1 := (blk_cell hbox 1).trans rfl
                  have hfz1 := blk_frozen hbox 1
                  have hcz2 := (blk_cell hbox 2).trans rfl
                  have hfz2 := blk_frozen hbox 2
                  have hcz3 := (blk_cell hbox 3).trans rfl
                  have hfz3 := blk_frozen hbox 3
                  have hcz4 := (blk_cell hbox 4).trans rfl
                  have hfz4 := blk_frozen hbox 4
                  clear hbox hb3 hgi hgw)
              clear hcz0 hcz1 hcz2 hcz3 hcz4 hfz0 hfz1 hfz2 hfz3 hfz4 hx1 hx2 hx3 hx4 hx5
              generalize (((((w6.setCell ⟨gi, 0, none⟩ (.string nm)).setCell ⟨gi, 1, none⟩ (.int .i64 rk)).setCell ⟨gi, 2, none⟩ (.int .i64 tb.f0)).setCell ⟨gi, 3, none⟩ (.int .i64 tb.f1)).setCell ⟨gi, 4, none⟩ (.slice A4 tb.f2.length c4)) = wq at *
              have HHq := Aside0.mk (blk_below HH.out Hbw.out)
              have n5 : wq.cell? ⟨gP, i, none⟩ = _ := cell_up Hbw.out hv0
              have n6 := (blk_cell HHq.out 0).trans rfl
              have n7 := blk_frozen HHq.out 0
              have HH8 := Aside0.mk (blk_put (cs' := #[.slice AVi psi.length cVi, .slice AF (gH l0 (l1.map to48)).1.2.length cF, .slice AS (gS l0).1.length cS]) HHq.out 0 (.slice AVi psi.length cVi) rfl)
              have HG8 := Aside0.mk (blk_far (p := ⟨gh, 0, none⟩) Hgi.out (blk_ne Hgi.out HHq.out (by decide)) (.slice AVi psi.length cVi))
              have HM8 := Aside0.mk ((HM.out.keep Hbw.out).over (w' := wq.setCell ⟨gh, 0, none⟩ (.slice AVi psi.length cVi)) HHq.out (by decide) ⟨rfl, rfl, rfl, by simp [World.setCell], fun k hk he => Below.heap_setCell wq _ _ k (fun e => he (by rw [e]))⟩)
              have HRS8 := Aside0.mk (Kd.R_set (Kd.R_below HRS.out Hbw.out) HHq.out (by decide) 0 (.slice AVi psi.length cVi))
              have HRF8 := Aside0.mk (Kd.R_set (Kd.R_below HRF.out Hbw.out) HHq.out (by decide) 0 (.slice AVi psi.length cVi))
              have HRP8 := Aside0.mk (Kd.R_set (Kd.R_below HRP.out Hbw.out) HHq.out (by decide) 0 (.slice AVi psi.length cVi))
              have HRV8 := Aside0.mk (Kd.R_set (Kd.R_below HRV.out Hbw.out) HHq.out (by decide) 0 (.slice AVi psi.length cVi))
              have HB8 := Aside0.mk (below_set (g := gh) (j := 0) (v := .slice AVi psi.length cVi) (below_step HB.out Hbw.out) hwh)
              have HF8 := Aside0.mk (Kd.F_step HF4.out (W1 := wq.setCell ⟨gh, 0, none⟩ (.slice AVi psi.length cVi)) (fun k hk hkl => ((Below.heap_setCell wq _ _ k (fun e => by have e' : k = gh := e; have h1 : k < w.heap.size := hk; omega)).trans (Hbw.out.block k hkl))))
              have m2 := (blk_cell HG8.out 2).trans rfl
              have m3 := (blk_cell HG8.out 3).trans rfl
              have m4 := (blk_cell HG8.out 4).trans rfl
              have k0 := (blk_cell HH8.out 0).trans rfl
              have k1 := (blk_cell HH8.out 1).trans rfl
              have k2 := (blk_cell HH8.out 2).trans rfl
              clear HM HH HRS HRF HRP HRV HB HF4 Hbw Hgi HHq HG8 hv0
              go_wp2_with fail
              clear n5 n6 n7
              generalize wq.setCell ⟨gh, 0, none⟩ (.slice AVi psi.length cVi) = w8 at *
              rcases Hcase.out with ⟨hb, hG1⟩ | ⟨k, s1, hG1, hu, hb⟩ | ⟨k, s1, s2, hG1, hu, hG2⟩
              · have HG1 := Aside0.mk hG1
                clear hG1 Hcase
                (with_reducible refine (sort_calls psi (gH l0 (l1.map to48)).1.2 (gS l0).1 _ tb.f2 (Nat.lt_succ_self _) tb.f0 tb.f1 A4 c4 m s s' none row w8 AVi AF AS cVi cF cS Hm.out HG1.out HW.out (Hhd.out _ _ _ Hm.out) Hhd.out (by have := HG1.out.bound; have := Hbgi.out; have := Hsl.out.2; have := HB8.out;  omega) HM8.out HB8.out.size HF8.out Hl4.out HRV8.out HRF8.out HRS8.out).mono ?_)
                rintro e w9 ⟨row9, rfl, hM9, hK9⟩
                have HM9 := Aside0.mk hM9
                have HH9 := Aside0.mk (hK9.blk HM8.out HH8.out (by decide))
                have HRS9 := Aside0.mk (hK9.R HM8.out HRS8.out (by decide))
                have HRF9 := Aside0.mk (hK9.R HM8.out HRF8.out (by decide))
                have HRP9 := Aside0.mk (hK9.R HM8.out HRP8.out (by decide))
                have HB9 := Aside0.mk (hK9.elder HM8.out HB8.out HB8.out.size)
                clear hM9 hK9 HM8 HH8 HRS8 HRF8 HRP8 HRV8 HF8 HB8 m2 m3 m4 k0 k1 k2
                have hI := HInv.out
                subst hb
                rcases hI with ⟨_, e1, e2⟩ | ⟨e0, _⟩
                rotate_left
                · cases e0
                subst e1 e2
                go_wp2_with fail
                go_ret2
                exact ⟨_, rfl, Kd.R_nil _ _ _ _ _, HB9.out⟩
              · have HG1 := Aside0.mk hG1
                have HU := Aside0.mk hu
                have Hs1 := Aside0.mk (show s1.length ≤ 1000000 from by have := hG1.bound; have := Hbgi.out; have := Hsl.out.2; omega)
                obtain ⟨_, hX1, _⟩ := (hG1.ok HW.out (Hhd.out _ _ _ Hm.out) Hhd.out).yes k rfl
                have HX1 := Aside0.mk hX1
                clear hG1 hu hX1 Hcase
                (with_reducible refine (sort_calls psi (gH l0 (l1.map to48)).1.2 (gS l0).1 _ tb.f2 (Nat.lt_succ_self _) tb.f0 tb.f1 A4 c4 m s s1 (some k) row w8 AVi AF AS cVi cF cS Hm.out HG1.out HW.out (Hhd.out _ _ _ Hm.out) Hhd.out (by have := HG1.out.bound; have := Hbgi.out; have := Hsl.out.2; have := HB8.out;  omega) HM8.out HB8.out.size HF8.out Hl4.out HRV8.out HRF8.out HRS8.out).mono ?_)
                rintro e w9 ⟨row9, rfl, hM9, hK9⟩
                have HM9 := Aside0.mk hM9
                have HH9 := Aside0.mk (hK9.blk HM8.out HH8.out (by decide))
                have HRS9 := Aside0.mk (hK9.R HM8.out HRS8.out (by decide))
                have HRF9 := Aside0.mk (hK9.R HM8.out HRF8.out (by decide))
                have HRP9 := Aside0.mk (hK9.R HM8.out HRP8.out (by decide))
                have HB9 := Aside0.mk (hK9.elder HM8.out HB8.out HB8.out.size)
                clear hM9 hK9 HM8 HH8 HRS8 HRF8 HRP8 HRV8 HF8 HB8 m2 m3 m4 k0 k1 k2
                go_wp2_with fail
                (with_reducible refine (unify_calls' (b := 0) (bi := 0) rfl HU.out (HX1.out.wf) HM9.out HB9.out.size (by have := Hs1.out; omega)).mono ?_)
                rintro e w10 ⟨rfl, hM10, hK10⟩
                have HM10 := Aside0.mk hM10
                have HB10 := Aside0.mk (hK10.elder HM9.out HB9.out HB9.out.size)
                clear hM10 hK10
                have hI := HInv.out
                subst hb
                rcases hI with ⟨_, e1, e2⟩ | ⟨e0, _⟩
                rotate_left
                · cases e0
                subst e1 e2
                go_wp2_with fail
                go_ret2
                exact ⟨_, rfl, Kd.R_nil _ _ _ _ _, HB10.out⟩
              · have HG1 := Aside0.mk hG1
                have HU := Aside0.mk hu
                have HG2 := Aside0.mk hG2
                have Hs1 := Aside0.mk (show s1.length ≤ s.length + 2000 from by have := hG1.bound; have := Hbgi.out; omega)
                obtain ⟨_, hX1, _⟩ := (hG1.ok HW.out (Hhd.out _ _ _ Hm.out) Hhd.out).yes k rfl
                have HX1 := Aside0.mk hX1
                have HUW := Aside0.mk (hu.ok hX1.wf)
                clear hG1 hu hX1 hG2 Hcase
                (with_reducible refine (sort_calls psi (gH l0 (l1.map to48)).1.2 (gS l0).1 _ tb.f2 (Nat.lt_succ_self _) tb.f0 tb.f1 A4 c4 m s s1 (some k) row w8 AVi AF AS cVi cF cS Hm.out HG1.out HW.out (Hhd.out _ _ _ Hm.out) Hhd.out (by have := HG1.out.bound; have := Hbgi.out; have := Hsl.out.2; have := HB8.out;  omega) HM8.out HB8.out.size HF8.out Hl4.out HRV8.out HRF8.out HRS8.out).mono ?_)
                rintro e w9 ⟨row9, rfl, hM9, hK9⟩
                have HM9 := Aside0.mk hM9
                have HH9 := Aside0.mk (hK9.blk HM8.out HH8.out (by decide))
                have HRS9 := Aside0.mk (hK9.R HM8.out HRS8.out (by decide))
                have HRF9 := Aside0.mk (hK9.R HM8.out HRF8.out (by decide))
                have HRP9 := Aside0.mk (hK9.R HM8.out HRP8.out (by decide))
                have HB9 := Aside0.mk (hK9.elder HM8.out HB8.out HB8.out.size)
                clear hM9 hK9 HM8 HH8 HRS8 HRF8 HRP8 HRV8 HF8 HB8 m2 m3 m4 k0 k1 k2
                go_wp2_with fail
                (with_reducible refine (unify_calls' (b := 0) (bi := 0) rfl HU.out (HX1.out.wf) HM9.out HB9.out.size (by have := Hs1.out; have := Hsl.out.2; omega)).mono ?_)
                rintro e w10 ⟨rfl, hM10, hK10⟩
                have HM10 := Aside0.mk hM10
                have HB10 := Aside0.mk (hK10.elder HM9.out HB9.out HB9.out.size)
                have HH10 := Aside0.mk (hK10.blk HM9.out HH9.out (by decide))
                have HRS10 := Aside0.mk (hK10.R HM9.out HRS9.out (by decide))
                have HRF10 := Aside0.mk (hK10.R HM9.out HRF9.out (by decide))
                have HRP10 := Aside0.mk (hK10.R HM9.out HRP9.out (by decide))
                clear hM10 hK10 HM9 HH9 HRS9 HRF9 HRP9 HB9
                go_wp2_with fail
                have hk := Hi.out
                obtain ⟨k1, rfl⟩ : ∃ k1, gk = k1 + 1 := ⟨gk - 1, by omega⟩
                go_roundg k1
                case measure => omega
                case rel => exact ⟨i + 1, s2, row9, AVi, psi.length, cVi, by go_num, ⟨by omega⟩, HG2, ⟨HUW.out.wf⟩, ⟨by rw [HUW.out.len]; have := Hsl.out.1; have := HX1.out.len; omega, by rw [HUW.out.len]; have := Hsl.out.2; have := Hs1.out; omega⟩, HM10, HH10, HRS10, HRF10, HRP10, HB10⟩
            · have hie : i = l1.length := by have := Hi.out; omega
              subst hie
              have hgb := HGB.out
              rw [show (l1.map to48).drop l1.length = [] from List.drop_eq_nil_of_le (by rw [List.length_map]; exact Nat.le_refl _)] at hgb
              obtain ⟨hb, hs'⟩ := hgb.inv_nil
              subst hb hs'
              have hI := HInv.out
              rcases hI with ⟨e0, _⟩ | ⟨_, r, hGR, hI⟩
              · cases e0
              obtain ⟨ob, hmk, hobR⟩ := make_row s'.length (by have := Hsl.out.2; omega)
              have HOB := Aside0.mk hobR
              have HGR := Aside0.mk hGR
              have HGR0 := Aside0.mk hGR
              have HEX := Aside0.mk (show (gH l0 (l1.map to48)).2.length ≤ s'.length from Hsl.out.1)
              have HI := Aside0.mk hI
              obtain ⟨A0', c0', hgg0⟩ : ∃ A0' c0', wr.heap[gg]? = some (.cells #[.slice A0' s'.length c0'] 90 (0, 0)) := by obtain ⟨_, A, c, h, _⟩ := HM.out; exact ⟨A, c, h⟩
              have n0 : wr.cell? ⟨gg, 0, none⟩ = some (.slice A0' s'.length c0') := (blk_cell hgg0 0).trans rfl
              have n1 := cellA n0
              have HSM := Aside0.mk (show s'.length ≤ 1000000 from by have := Hsl.out.2; omega)
              clear hgb HGB hI hGR hobR HRS HRP HInv hgg0 Hbg Hsl
              go_wp2_with fail
              clear hmk
              have hW5 : Below wr.heap.size wr (wr.alloc ob) := below_alloc (Below.refl _ _) ob
              have HM5 := Aside0.mk (HM.out.keep hW5)
              have HH5 := Aside0.mk (blk_below HH.out hW5)
              have HRF5 := Aside0.mk (Kd.R_mono (Kd.R_below (Kd.R_bound HRF.out) hW5) (ok' := fun k => k ≠ wr.heap.size) (fun k hk => by have := hk.2.2.1; omega))
              have HB5 := Aside0.mk (below_step HB.out hW5)
              have HST := Aside0.mk (show StR w.heap.size wr.heap.size s'.length (wr.alloc ob) (List.replicate s'.length 0) from by
                have := HOB.out wr w.heap.size HB.out.size
                unfold StR
                rw [List.length_replicate]
                exact this)
              clear hW5 HM HH HRF HB n0 n1
              obtain ⟨gst, hgst⟩ : ∃ gst, gst = wr.heap.size := ⟨_, rfl⟩
              rw [← hgst] at HST HRF5 ⊢
              clear hgst HOB
              generalize wr.alloc ob = w5 at *
              go_loopg [125] s'.length (fun kq v125 wr => ∃ (i : Nat) (st : List Nat), v125 = .int .i64 (i : Int) ∧ Aside0 (i + kq = s'.length) ∧ Aside0 (GRounds s' st i r) ∧ Aside0 (st.length = s'.length) ∧ Aside0 (StR w.heap.size gst s'.length wr st) ∧ Aside0 (GM gg w.heap.size row wr s') ∧ Aside0 (wr.heap[gh]? = some (.cells #[.slice AV nV cV, .slice AF (gH l0 (l1.map to48)).1.2.length cF, .slice AS (gS l0).1.length cS] 93 (0, 0))) ∧ Aside0 (KI.R 3 wr w.heap.size (fun k => k ≠ gst) (.slice AF (gH l0 (l1.map to48)).1.2.length cF) (ints (gH l0 (l1.map to48)).1.2)) ∧ Aside0 (Below w.heap.size w wr))
              case atStart => exact ⟨0, _, rfl, ⟨by omega⟩, HGR, ⟨List.length_replicate ..⟩, HST, HM5, HH5, HRF5, HB5⟩
              case round =>
                clear HGR HST HM5 HH5 HRF5 HB5
                obtain ⟨i, st, rfl, Hi, HGR, Hst, HST, HM, HH, HRF, HB⟩ := hrel
                have hsm := HSM.out
                by_cases hlt : i < s'.length
                · have p1 : (0 ≤ (i : Int)) = True := eq_true (by omega)
                  rcases HGR.out.inv hlt with ⟨st', h1, hr⟩ | ⟨st', h1, h2⟩
                  · have H1 := Aside0.mk h1
                    subst hr
                    clear h1
                    go_wp2_with fail
                    (with_reducible refine (round_calls H1.out _ HM.out HST.out HSM.out Hst.out).mono ?_)
                    rintro e w6 ⟨rfl, hS6, hg6⟩
                    have hcs := HST.out.typed
                    have HB6 := Aside0.mk (show Below w.heap.size w w6 from HB.out.grown hg6 HB.out.size (fun k hk => by
                      injection hk with hk
                      subst hk
                      obtain ⟨inner, ho⟩ := Kd.R_own HST.out
                      exact own_base ho gst (by simp [Value.ownBlock])))
                    clear hS6 hg6 hcs
                    have hI := HI.out
                    rcases hI with ⟨_, e1, e2⟩ | ⟨e0, _⟩
                    rotate_left
                    · cases e0
                    subst e1 e2
                    go_wp2_with fail
                    go_ret2
                    exact ⟨_, rfl, Kd.R_nil _ _ _ _ _, HB6.out⟩
                  · have H1 := Aside0.mk h1
                    have H2 := Aside0.mk h2
                    have HL2 := Aside0.mk (show st'.length = s'.length from by rw [h1.len]; exact Hst.out)
                    clear h1 h2
                    go_wp2_with fail
                    (with_reducible refine (round_calls H1.out _ HM.out HST.out HSM.out Hst.out).mono ?_)
                    rintro e w6 ⟨rfl, hS6, hg6⟩
                    obtain ⟨cs, hcs⟩ := HST.out.typed
                    have HS6 := Aside0.mk hS6
                    have HM6 := Aside0.mk (HM.out.over hcs (by decide) hg6)
                    have HH6 := Aside0.mk (blk_grownT HH.out hg6 (fun k hk => by injection hk with hk; subst hk; exact ⟨3, cs, by decide, hcs⟩))
                    have HRF6 := Aside0.mk (Kd.R_grown HRF.out hg6 (fun k hk e => hk (by injection e)))
                    have HB6 := Aside0.mk (show Below w.heap.size w w6 from HB.out.grown hg6 HB.out.size (fun k hk => by
                      injection hk with hk
                      subst hk
                      obtain ⟨inner, ho⟩ := Kd.R_own HST.out
                      exact own_base ho gst (by simp [Value.ownBlock])))
                    clear hS6 hg6 hcs HST HM HH HRF HB
                    go_wp2_with fail
                    have hk := Hi.out
                    obtain ⟨k1, rfl⟩ : ∃ k1, gk = k1 + 1 := ⟨gk - 1, by omega⟩
                    go_roundg k1
                    case measure => omega
                    case rel => exact ⟨i + 1, st', by go_num, ⟨by omega⟩, H2, HL2, HS6, HM6, HH6, HRF6, HB6⟩
                · have hie : i = s'.length := by have := Hi.out; omega
                  subst hie
                  have hr := HGR.out.end_
                  have hgr := HGR.out
                  subst hr
                  have hI := HI.out
                  rcases hI with ⟨e0, _⟩ | ⟨_, o, hGO, hI⟩
                  · cases e0
                  have HGO := Aside0.mk hGO
                  have HI2 := Aside0.mk hI
                  have hWF : GWF s' := HW.out
                  have hrr : (List.replicate s'.length 0).length = s'.length := List.length_replicate ..
                  obtain ⟨hh, wf⟩ := WF_of_fin hWF ((rounds_start hWF HGR0.out).2 rfl)
                  have HWF := Aside0.mk wf
                  have hlF : (gH l0 (l1.map to48)).1.2.length ≤ 64 := by have := Hlen.out.1; omega
                  have k0 := (blk_cell HH.out 1).trans rfl
                  have HRF2 := Aside0.mk (Kd.R_mono HRF.out (fun k _ => trivial) (ok' := fun _ => True))
                  have HBz := Aside0.mk (show ∀ k, k ∈ (gH l0 (l1.map to48)).1.2 → k < s'.length from fun k hk => Nat.lt_of_lt_of_le (Hh.out.lk k hk) HEX.out)
                  clear hgr hGO hI HI HST HRF wf hWF hrr HGR hsm
                  go_wp2_with fail
                  clear k0
                  generalize hpf : (gH l0 (l1.map to48)).1.2 = hf at *
                  go_loopg [22, 136] hf.length (fun kq v22 v136 wr => ∃ (i : Nat) (acc : List S41) (Ao : Option Addr) (co : Nat), v22 = .slice Ao acc.length co ∧ v136 = .int .i64 (i : Int) ∧ Aside0 (i + kq = hf.length) ∧ Aside0 (acc.length = i) ∧ Aside0 (GOuts s' acc (hf.drop i) o) ∧ Aside0 (GM gg w.heap.size row wr s') ∧ Aside0 (KI.R 3 wr w.heap.size (fun _ => True) (.slice AF hf.length cF) (ints hf)) ∧ Aside0 (Kd.R k41 41 wr w.heap.size (fun _ => True) (.slice Ao acc.length co) acc) ∧ Aside0 (Below w.heap.size w wr))
                  case atStart => exact ⟨0, [], none, 0, rfl, rfl, ⟨by omega⟩, ⟨rfl⟩, HGO, HM, HRF2, ⟨Kd.R_nil _ _ _ _ _⟩, HB⟩
                  case round =>
                    clear HGO HM HRF2 HB
                    obtain ⟨i, acc, Ao, co, rfl, rfl, Hi, Hal, HGO, HM, HRF, HRo, HB⟩ := hrel
                    by_cases hlt : i < hf.length
                    rotate_left
                    · have hie : i = hf.length := by have := Hi.out; omega
                      have hgo := HGO.out
                      rw [hie, List.drop_length] at hgo
                      have ho := hgo.inv_nil
                      subst ho
                      have hI := HI2.out
                      rcases hI with ⟨e0, _⟩ | ⟨e0, e1⟩
                      · cases e0
                      injection e0 with e0
                      subst e0 e1
                      clear hgo hie
                      go_wp2_with fail
                      go_ret2
                      exact ⟨_, rfl, HRo.out, HB.out⟩
                    · have hRFc := (Kd.R_reads' HRF.out).2.2
                      rw [ints_len] at hRFc
                      obtain ⟨adF, rfl, hxF⟩ := ints_at hRFc hlt
                      have hgo := HGO.out
                      rw [List.drop_eq_getElem_cons hlt] at hgo
                      obtain ⟨c, p, m, he, hn, hcase⟩ := hgo.inv
                      have He := Aside0.mk he
                      have Hn := Aside0.mk hn
                      have Hcase := Aside0.mk hcase
                      have p1 : (0 ≤ (i : Int)) = True := eq_true (by omega)
                      have p2 : ((i : Int) < (hf.length : Int)) = True := eq_true (by omega)
                      have p3 : (i < hf.length) = True := eq_true (by omega)
                      clear hRFc hgo HGO he hn hcase
                      generalize hf[i] = kf at *
                      rcases Hcase.out with ⟨hm, hr⟩ | ⟨hm, l, hol, hcase2⟩
                      · have b1 : decide (60 < (m : Int)) = true := decide_eq_true (by omega)
                        have b2 : decide (60 < m) = true := decide_eq_true hm
                        clear Hcase
                        go_wp2_with fail
                        (with_reducible refine (nodes_calls' HWF.out HM.out HSM.out He.out Hn.out).mono ?_)
                        rintro e w6 ⟨rfl, rfl⟩
                        · have hI := HI2.out
                          subst hr
                          rcases hI with ⟨_, e1, e2⟩ | ⟨e0, _⟩
                          rotate_left
                          · cases e0
                          subst e1 e2
                          go_wp2_with fail
                          go_ret2
                          exact ⟨_, rfl, Kd.R_nil _ _ _ _ _, HB.out⟩
                      · have b1 : decide (60 < (m : Int)) = false := decide_eq_false (by omega)
                        have b2 : decide (60 < m) = false := decide_eq_false (by omega)
                        have Hol := Aside0.mk hol
                        have Hc2 := Aside0.mk hcase2
                        have HnS := Aside0.mk ((nodes_fit HW.out HWF.out He.out Hn.out).2 hm)
                        obtain ⟨kI, hIs⟩ := (is_ev l).rounds
                        have HIs := Aside0.mk hIs
                        clear hol hcase2 Hcase hIs
                        go_wp2_with fail
                        (with_reducible refine (nodes_calls' HWF.out HM.out HSM.out He.out Hn.out).mono ?_)
                        rintro e w6 ⟨rfl, rfl⟩
                        go_wp2_with fail
                        (with_reducible refine (out_calls HWF.out (GSol_toK.2 (rho_sol HWF.out)) HSM.out _ kf c p l _ He.out (Nat.lt_succ_self _) (by have := HnS.out; omega) Hol.out HM.out).mono ?_)
                        rintro e w7 ⟨v7, rfl, hR7, hb7⟩
                        obtain ⟨A7, c7, rfl⟩ := Kd.R_slice hR7
                        have HM7 := Aside0.mk (HM.out.keep hb7)
                        have HRF7 := Aside0.mk (Kd.R_below HRF.out hb7)
                        have HRo7 := Aside0.mk (Kd.R_below HRo.out hb7)
                        have HN7 := Aside0.mk (Kd.R_mono (Kd.R_lower (Kd.R_new' (Kd.R_bound hR7) (Kd.R_lt HRo.out)) HB.out.size) (ok' := fun k => some k ≠ (Value.slice Ao acc.length co).ownBlock) (fun k hk => hk.2))
                        have HB7 := Aside0.mk (below_step HB.out hb7)
                        clear hR7 hb7 HM HRF HRo HB
                        go_wp2_with (
                          (with_reducible refine gate_dst (N := 25) rfl ?_)
                          refine box_event ?hg (N := 25) ?hd (cs := #[.slice none 0 0]) (t := 41) ?hr ?_
                          (case hd => rfl)
                          (case hg => rfl)
                          (case hr => first | (go_simp; done) | (go_simp; rfl))
                          intro gx hgx w8 hbox hb8
                          have Hbw := Aside0.mk (below_set (g := gx) (j := 0) (v := .slice A7 l.length c7) hb8 (by omega))
                          have HX := Aside0.mk (blk_put (cs' := #[.slice A7 l.length c7]) hbox 0 (.slice A7 l.length c7) rfl)
                          have hcz := (blk_cell hbox 0).trans rfl
                          have hfz := blk_frozen hbox 0
                          have hcx := (blk_cell HX.out 0).trans rfl
                          clear hbox hb8 hgx)
                        clear hcz hfz hcx
                        generalize w8.setCell ⟨gx, 0, none⟩ (.slice A7 l.length c7) = w9 at *
                        have HM9 := Aside0.mk (HM7.out.keep Hbw.out)
                        have HRF9 := Aside0.mk (Kd.R_below HRF7.out Hbw.out)
                        have HRo9 := Aside0.mk (Kd.R_below HRo7.out Hbw.out)
                        have HN9 := Aside0.mk (Kd.R_below HN7.out Hbw.out)
                        have HB9 := Aside0.mk (below_step HB7.out Hbw.out)
                        clear HM7 HRF7 HRo7 HN7 HB7 Hbw
                        (with_reducible refine (virgationref01_Is.calls kI A7 c7 l (isok l) w9 (Kd.R_reads' HN9.out).2.2 (Kd.R_reads' HN9.out).2.1 HIs.out).mono ?_)
                        rintro e w10 ⟨rfl, hb10⟩
                        have HX10 := Aside0.mk (blk_below HX.out hb10)
                        have HM10 := Aside0.mk (HM9.out.keep hb10)
                        have HRF10 := Aside0.mk (Kd.R_below HRF9.out hb10)
                        have HRo10 := Aside0.mk (Kd.R_below HRo9.out hb10)
                        have HN10 := Aside0.mk (Kd.R_below HN9.out hb10)
                        have HB10 := Aside0.mk (below_step HB9.out hb10)
                        clear hb10 HX HM9 HRF9 HRo9 HN9 HB9
                        rcases Hc2.out with ⟨hi, hr⟩ | ⟨hi, h2⟩
                        · rw [hi]
                          clear hi
                          have hI := HI2.out
                          subst hr
                          rcases hI with ⟨_, e1, e2⟩ | ⟨e0, _⟩
                          rotate_left
                          · cases e0
                          subst e1 e2
                          go_wp2_with fail
                          go_ret2
                          exact ⟨_, rfl, Kd.R_nil _ _ _ _ _, HB10.out⟩
                        · rw [hi]
                          have H2 := Aside0.mk h2
                          have hcx := (blk_cell HX10.out 0).trans rfl
                          clear hi h2
                          go_wp2_with (at_builtin; refine holdI5 ?_)
                          unfold HoldI5
                          refine Kd.R_append k41 (w0 := w) w.heap.size rfl (.tmp 150) (.tmp 152) 31 41 (.agg #[(.slice none 0 0)]) 24 rfl Try.underlying31 info41 rfl (by decide) (by omega) (.slice Ao acc.length co) acc (⟨l⟩ : S41) [.slice A7 l.length c7] (fun _ => True) (fun k => some k ≠ (Value.slice Ao acc.length co).ownBlock) rfl rfl (k41_mkM _ _ _ (⟨l⟩ : S41) HN10.out) (fun k hk => ⟨trivial, hk⟩) (fun _ _ => trivial) HRo10.out HB10.out HB10.out.size (by rw [Hal.out]; omega) ?_
                          intro v11 w11 hr11 hb11 hg11 _
                          obtain ⟨A11, c11, e11⟩ := Kd.R_slice hr11
                          obtain ⟨n11, hn11⟩ : ∃ n, n = (acc ++ [(⟨l⟩ : S41)]).length := ⟨_, rfl⟩
                          have tf := Kd.R_typed HRo10.out
                          have HM11 := Aside0.mk (HM10.out.grown hg11 (fun k hk => by obtain ⟨c, hc⟩ := tf k hk; exact ⟨c, 41, hc, by decide, by decide⟩))
                          have HRF11 := Aside0.mk (Kd.R_over' HRF10.out tf (by decide) hg11)
                          have HB11 := Aside0.mk hb11
                          subst e11
                          have HRo11 := Aside0.mk hr11
                          have HL11 := Aside0.mk (show (acc ++ [(⟨l⟩ : S41)]).length = acc.length + 1 from by rw [List.length_append]; rfl)
                          clear hr11 hb11 hg11 tf hcx hn11
                          go_wp2_with fail
                          have hk := Hi.out
                          obtain ⟨k1, rfl⟩ : ∃ k1, gk = k1 + 1 := ⟨gk - 1, by omega⟩
                          go_roundg k1
                          case measure => omega
                          case rel => exact ⟨i + 1, acc ++ [⟨l⟩], A11, c11, (by rw [HL11.out]), by go_num, ⟨by omega⟩, ⟨by rw [HL11.out, Hal.out]⟩, H2, HM11, HRF11, HRo11, HB11⟩
end Go.Proofs.Ytfhgoebgnilfaaa.I
namespace Go.Proofs.Ytfhgoebgnilfaaa.I
open Go.RowKit Go.Proofs.YtfhgoebgnilfaaaW.PrintWords Go.Proofs.YtfhgoebgnilfaaaW.PrintLast Go.Proofs.YtfhgoebgnilfaaaW.PrintMore
set_option linter.unusedVariables false
/-- What the reference's Sorts returns (it is told by the other Sorts: both are one). -/
def virgationref04_Sorts.f (k : Nat) (l0 : List S59) (l1 : List S56) : Option (List S41 × Int) := (virgationref04_Check.f k l0 l1).bind fun r => if r = 0 then fsorts k l0 (l1.map to48) else some ([], r)
theorem chk_of {k : Nat} {l0 : List S59} {l1 : List S56} {r : Int} (h : virgationref04_Check.f k l0 l1 = some r) : chkF l0 (l1.map to48) = some r := by
  obtain ⟨r0, hr0, he⟩ := check_ev l0 l1
  obtain ⟨k0, hk0⟩ := he.rounds
  have h1 := at_rounds (virgationref04_Check.mono l0 l1) (Nat.le_max_left k k0) h
  have h2 := at_rounds (virgationref04_Check.mono l0 l1) (Nat.le_max_right k k0) hk0
  rw [h1] at h2
  injection h2 with h2
  rw [h2]
  exact hr0
theorem fsorts_gsorts {k : Nat} {l0 : List S59} {l1 : List S56} {out : List S41} {er : Int} (hc : chkF l0 (l1.map to48) = some 0) (h : fsorts k l0 (l1.map to48) = some (out, er)) : GSorts l0 (l1.map to48) out er := by
  obtain ⟨f, out', er', hf, hu⟩ := sorts_same l0 (l1.map to48) hc
  have h1 := at_rounds (g := fun k => fsorts k l0 (l1.map to48)) (fun k => fsorts_s k l0 _) (Nat.le_max_left k f) h
  have h2 := at_rounds (g := fun k => fsorts k l0 (l1.map to48)) (fun k => fsorts_s k l0 _) (Nat.le_max_right k f) hf
  rw [h1] at h2
  injection h2 with h2
  injection h2 with e1 e2
  obtain ⟨o, e, hG⟩ := (gsorts_main l0 (l1.map to48) hc).1
  obtain ⟨a, b⟩ := hu o e hG
  rw [e1, e2, ← a, ← b]
  exact hG
theorem virgationref04_Sorts.calls (k : Nat) (A0 : Option Addr) (c0 : Nat) (l0 : List S59) (A1 : Option Addr) (c1 : Nat) (l1 : List S56) (r1 : List S41) (r2 : Int) (w : World) (hr0 : Kd.C k59 w A0 l0.length l0) (hc0 : l0.length ≤ c0) (hr1 : Kd.C k56 w A1 l1.length l1) (hc1 : l1.length ≤ c1) (h : virgationref04_Sorts.f k l0 l1 = some (r1, r2)) :
    Calls Try.prog 14 #[.slice A0 l0.length c0, .slice A1 l1.length c1] w fun e w' => ∃ v0_ : Value, e = .returned (.tuple #[v0_, .int .i64 r2]) ∧ Kd.R k41 41 w' w.heap.size (fun _ => True) v0_ r1 ∧ Below w.heap.size w w' := by
  unfold virgationref04_Sorts.f at h
  obtain ⟨r, hr, h⟩ := Option.bind_eq_some_iff.1 h
  by_cases hz : r = 0
  · subst hz
    rw [if_pos rfl] at h
    exact refsorts_ok k A0 c0 l0 A1 c1 l1 r1 r2 w hr0 hc0 hr1 hc1 hr (chk_of hr) (fsorts_gsorts (chk_of hr) h)
  · rw [if_neg hz] at h
    injection h with h
    injection h with h1 h2
    subst h1 h2
    refine (refsorts_err k A0 c0 l0 A1 c1 l1 r w hr0 hc0 hr1 hc1 hr hz).mono ?_
    rintro e w' ⟨rfl, hb⟩
    exact ⟨_, rfl, Kd.R_nil _ _ _ _ _, hb⟩
end Go.Proofs.Ytfhgoebgnilfaaa.I
namespace Go.Proofs.Ytfhgoebgnilfaaa.I
open Go.RowKit Go.Proofs.YtfhgoebgnilfaaaW.PrintWords Go.Proofs.YtfhgoebgnilfaaaW.PrintLast Go.Proofs.YtfhgoebgnilfaaaW.PrintMore
attribute [local go_sem] max2_int min2_int max_two min_two max_three min_three max_four min_four   -- for this text's walks alone
set_option linter.unusedVariables false
set_option linter.unusedSimpArgs false
def virgationlaw04_same.l0 : Nat → List (S41) → List (S41) → Int → Int → Option (Bool)
  | 0, _, _, _, _ => none
  | k + 1, x0, x1, x12, x13 => if x13 < x12 then (if 0 ≤ x13 then (if x13 < (x0.length : Int) then (if x13 < (x1.length : Int) then ((virgationref01_Same.f k ((rd_T41 x0 x13).f0) ((rd_T41 x1 x13).f0)).bind fun t196 => (if t196 = true then (virgationlaw04_same.l0 k x0 x1 x12 (wrap64 (x13 + 1))) else (some false))) else (none)) else (none)) else (none)) else (some true)
def virgationlaw04_same.f (k : Nat) (l0 : List (S41)) (l1 : List (S41)) : Option (Bool) := if (l0.length : Int) = (l1.length : Int) then (virgationlaw04_same.l0 k l0 l1 (l0.length : Int) 0) else (some false)
def virgationlaw04_same.T6 : Bool × List (List Nat × List Nat) := (true, [([], []), ([], []), ([0, 1], [0, 1]), ([2], [2]), ([], []), ([], []), ([4, 5], [4, 5]), ([6], [6]), ([3, 7], [3, 7]), ([8], [8])])
def virgationlaw04_same.B6 : List Nat := [0, 0, 3, 7, 0, 0, 48, 112, 255, 511]
theorem virgationlaw04_same.tab6 : rtab .any (opsOf Try.f15 6) = virgationlaw04_same.T6 := by kernel_rfl
theorem virgationlaw04_same.bits6 : waitsOk virgationlaw04_same.T6.2 virgationlaw04_same.B6 = true := by kernel_rfl
set_option maxHeartbeats 8000000 in
set_option maxRecDepth 100000 in
theorem virgationlaw04_same.calls (k : Nat) (A0 : Option Addr) (c0 : Nat) (l0 : List (S41)) (A1 : Option Addr) (c1 : Nat) (l1 : List (S41)) (r : Bool) (w : World) (hr0 : Kd.C k41 w A0 l0.length l0) (hc0 : l0.length ≤ c0) (hr1 : Kd.C k41 w A1 l1.length l1) (hc1 : l1.length ≤ c1) (h : virgationlaw04_same.f k l0 l1 = some r) :
    Calls Try.prog 15 #[.slice A0 l0.length c0, .slice A1 l1.length c1] w fun e w' => e = .returned (.bool r) ∧ Below w.heap.size w w' := by
  have hu41 := Try.underlying41
  have HR0 := Aside0.mk hr0
  have HC0 := Aside0.mk hc0
  clear hr0 hc0
  have HR1 := Aside0.mk hr1
  have HC1 := Aside0.mk hc1
  clear hr1 hc1
  have HB := Aside0.mk (Below.refl w.heap.size w)
  have H : (if (l0.length : Int) = (l1.length : Int) then (virgationlaw04_same.l0 k l0 l1 (l0.length : Int) 0) else (some false)) = some r := h
  clear h
  by_cases c3 : (l0.length : Int) = (l1.length : Int)
  · rw [if_pos c3] at H
    have c3b0 : ((l0.length : Int) == (l1.length : Int)) = true := beq_iff_eq.mpr c3
    have c3b1 : ((l0.length : Int) != (l1.length : Int)) = false := bne_eq_false_iff_eq.mpr c3
    have c3b2 : (l0.length == l1.length) = true := by first | simpa using c3 | (simp at c3 ⊢; omega)
    clear c3
    have H' := Aside0.mk H
    clear H
    go_enter Try.func15, Try.ntmps15
    go_wp2
    go_loopg [13] k (fun kq v13 w' => ∃ (x13_1 : Int), v13 = .int .i64 x13_1 ∧ Aside0 (virgationlaw04_same.l0 kq l0 l1 (l0.length : Int) x13_1 = some r) ∧ Aside0 (kq ≤ k) ∧ Aside0 (Below w.heap.size w w'))
    case atStart => exact ⟨(0), (by first | rfl | (simp; done) | (simp [*]; done)), H', ⟨Nat.le_refl _⟩, ⟨by repeat (first | (with_reducible first | exact HB.out | apply below_alloc | apply pw_below_drewN | apply below_drew1) | exact HB.out)⟩⟩
    case round =>
      clear H'
      try clear c1
      try clear p2
      try clear c3
      try clear c3b0
      try clear c3b1
      try clear c3b2
      obtain ⟨x13_1, rfl, HA, HK1, HB⟩ := hrel
      cases gk with
      | zero => exact absurd HA.out (by simp [virgationlaw04_same.l0])
      | succ k1 =>
        have H := HA.out
        clear HA
        simp only [virgationlaw04_same.l0] at H
        by_cases c4 : x13_1 < (l0.length : Int)
        · rw [if_pos c4] at H
          have c4b0 : decide (x13_1 < (l0.length : Int)) = true := decide_eq_true c4
          clear c4
          by_cases c5 : 0 ≤ x13_1
          · rw [if_pos c5] at H
            have c5b0 : decide (0 ≤ x13_1) = true := decide_eq_true c5
            clear c5
            by_cases c6 : x13_1 < (l0.length : Int)
            · rw [if_pos c6] at H
              have c6b0 : decide (x13_1 < (l0.length : Int)) = true := decide_eq_true c6
              clear c6
              by_cases c7 : x13_1 < (l1.length : Int)
              · rw [if_pos c7] at H
                have c7b0 : decide (x13_1 < (l1.length : Int)) = true := decide_eq_true c7
                clear c7
                replace H := Option.bind_eq_some_iff.mp H
                obtain ⟨t196, A80, H⟩ := H
                replace H : (if t196 = true then (virgationlaw04_same.l0 k1 l0 l1 (l0.length : Int) (wrap64 (x13_1 + 1))) else (some false)) = some r := H
                have A8 := Aside0.mk A80
                clear A80
                by_cases c9 : t196 = true
                · subst c9
                  have H1 : (virgationlaw04_same.l0 k1 l0 l1 (l0.length : Int) (wrap64 (x13_1 + 1))) = some r := by rw [if_pos rfl] at H; exact H
                  clear H
                  have H := H1
                  clear H1
                  have H' := Aside0.mk H
                  clear H
                  try go_wp2
                  have n0_ := Aside0.mk (below_drew1 HB.out)
                  clear HB
                  have HB := n0_
                  clear n0_
                  have p194 : 0 ≤ (x13_1 : Int) := of_decide_eq_true (by first | (with_reducible assumption) | assumption)
                  have q194 : x13_1 < (l0.length : Int) := of_decide_eq_true (by first | (with_reducible assumption) | assumption)
                  obtain ⟨ad194, A194_0, c194_0, e194, hx194_0, hl194_0, hi194_0⟩ := at_T41 HR0.out x13_1 p194 q194
                  have hw194_0 := hx194_0
                  cases e194
                  replace hx194_0 := (HB.out.cell (World.block_lt_of_cell? w _ hx194_0)).trans hx194_0
                  have HR194_0 := Aside0.mk hi194_0
                  have HC194_0 := Aside0.mk hl194_0
                  clear hi194_0 hl194_0
                  replace p194 := eq_true p194
                  replace q194 := eq_true q194
                  have p195 : 0 ≤ (x13_1 : Int) := of_decide_eq_true (by first | (with_reducible assumption) | assumption)
                  have q195 : x13_1 < (l1.length : Int) := of_decide_eq_true (by first | (with_reducible assumption) | assumption)
                  obtain ⟨ad195, A195_0, c195_0, e195, hx195_0, hl195_0, hi195_0⟩ := at_T41 HR1.out x13_1 p195 q195
                  have hw195_0 := hx195_0
                  cases e195
                  replace hx195_0 := (HB.out.cell (World.block_lt_of_cell? w _ hx195_0)).trans hx195_0
                  have HR195_0 := Aside0.mk hi195_0
                  have HC195_0 := Aside0.mk hl195_0
                  clear hi195_0 hl195_0
                  replace p195 := eq_true p195
                  replace q195 := eq_true q195
                  refine start_ (n := 10) (S := fun w' => w'.cell? (ad194.add (x13_1).toNat) = some (.slice A194_0 ((rd_T41 l0 x13_1).f0).length c194_0) ∧ w'.cell? (ad195.add (x13_1).toNat) = some (.slice A195_0 ((rd_T41 l1 x13_1).f0).length c195_0)) (ds := []) #[false, false, false, false, false, false, false, false, false, false] (by kernel_rfl) rfl rfl ⟨((HB.out.cell (World.block_lt_of_cell? w _ hw194_0)).trans hw194_0), ((HB.out.cell (World.block_lt_of_cell? w _ hw195_0)).trans hw195_0)⟩ (fun hHeld => ?_); refine with_tabW virgationlaw04_same.tab6 virgationlaw04_same.bits6 (fun HT_ HW_ => ?_)
                  generalize wr.drew = w10 at HB HR194_0 HR195_0 hx194_0 hx195_0 hHeld ⊢
                  refine pure_ (i := 0) (N := some 16) (v := ?_) (a' := ?_) #[true, false, false, false, false, false, false, false, false, false] rfl rfl (any_of HT_.out (by kernel_rfl)) (fun _ _ _ h => h) (Or.inl ⟨by rfl, ?_⟩) ?_ ?_
                  rotate_left
                  · intro w'
                    go_simp
                    with_reducible rfl
                  rotate_left
                  · simp only [Act.put, List.setIfInBounds_toArray, List.set_cons_zero, List.set_cons_succ, i64_w, i32_w]
                    rfl
                  refine pure_ (i := 1) (N := some 17) (v := ?_) (a' := ?_) #[true, true, false, false, false, false, false, false, false, false] rfl rfl (any_of HT_.out (by kernel_rfl)) (fun _ _ _ h => h) (Or.inl ⟨by rfl, ?_⟩) ?_ ?_
                  rotate_left
                  · intro w'
                    go_simp
                    with_reducible rfl
                  rotate_left
                  · simp only [Act.put, List.setIfInBounds_toArray, List.set_cons_zero, List.set_cons_succ, i64_w, i32_w]
                    rfl
                  refine pure_ (i := 2) (N := some 18) (v := ?_) (a' := ?_) #[true, true, true, false, false, false, false, false, false, false] rfl rfl (any_of HT_.out (by kernel_rfl)) (fun _ _ _ h => h) (Or.inl ⟨by rfl, ?_⟩) ?_ ?_
                  rotate_left
                  · intro w'
                    go_simp
                    with_reducible rfl
                  rotate_left
                  · simp only [Act.put, List.setIfInBounds_toArray, List.set_cons_zero, List.set_cons_succ, i64_w, i32_w]
                    rfl
                  refine pure_ (i := 4) (N := some 20) (v := ?_) (a' := ?_) #[true, true, true, false, true, false, false, false, false, false] rfl rfl (any_of HT_.out (by kernel_rfl)) (fun _ _ _ h => h) (Or.inl ⟨by rfl, ?_⟩) ?_ ?_
                  rotate_left
                  · intro w'
                    go_simp
                    with_reducible rfl
                  rotate_left
                  · simp only [Act.put, List.setIfInBounds_toArray, List.set_cons_zero, List.set_cons_succ, i64_w, i32_w]
                    rfl
                  refine pure_ (i := 5) (N := some 21) (v := ?_) (a' := ?_) #[true, true, true, false, true, true, false, false, false, false] rfl rfl (any_of HT_.out (by kernel_rfl)) (fun _ _ _ h => h) (Or.inl ⟨by rfl, ?_⟩) ?_ ?_
                  rotate_left
                  · intro w'
                    go_simp
                    with_reducible rfl
                  rotate_left
                  · simp only [Act.put, List.setIfInBounds_toArray, List.set_cons_zero, List.set_cons_succ, i64_w, i32_w]
                    rfl
                  refine pure_ (i := 6) (N := some 22) (v := ?_) (a' := ?_) #[true, true, true, false, true, true, true, false, false, false] rfl rfl (any_of HT_.out (by kernel_rfl)) (fun _ _ _ h => h) (Or.inl ⟨by rfl, ?_⟩) ?_ ?_
                  rotate_left
                  · intro w'
                    go_simp
                    with_reducible rfl
                  rotate_left
                  · simp only [Act.put, List.setIfInBounds_toArray, List.set_cons_zero, List.set_cons_succ, i64_w, i32_w]
                    rfl
                  refine take_ (i := 3) (N := some 19) (v := ?_) (a' := ?_) #[true, true, true, true, true, true, true, false, false, false] rfl rfl (take_ofW HT_.out HW_.out (by kernel_rfl)) (fun _ _ _ h => h) (Or.inl ⟨by rfl, ?_⟩) hHeld ?_ ?_
                  rotate_left
                  · rintro w' ⟨s0, s1⟩
                    go_simp
                    with_reducible rfl
                  rotate_left
                  · simp only [Act.put, List.setIfInBounds_toArray, List.set_cons_zero, List.set_cons_succ, i64_w, i32_w]
                    rfl
                  refine take_ (i := 7) (N := some 23) (v := ?_) (a' := ?_) #[true, true, true, true, true, true, true, true, false, false] rfl rfl (take_ofW HT_.out HW_.out (by kernel_rfl)) (fun _ _ _ h => h) (Or.inl ⟨by rfl, ?_⟩) hHeld ?_ ?_
                  rotate_left
                  · rintro w' ⟨s0, s1⟩
                    go_simp
                    with_reducible rfl
                  rotate_left
                  · simp only [Act.put, List.setIfInBounds_toArray, List.set_cons_zero, List.set_cons_succ, i64_w, i32_w]
                    rfl
                  refine one_ (i := 8) (N := some 24) #[true, true, true, true, true, true, true, true, true, false] rfl rfl (one_of HT_.out (by kernel_rfl)) (by decide) (fun K hK => ?_)
                  refine goes_ Try.func49 (by kernel_rfl) rfl #[.agg #[.slice A194_0 ((rd_T41 l0 x13_1).f0).length c194_0], .agg #[.slice A195_0 ((rd_T41 l1 x13_1).f0).length c195_0]] (by rfl) rfl rfl (by (try simp only [List.map_toArray, List.map_cons, List.map_nil]); first | done | rfl | (simp only [List.length_drop, List.length_take]; rfl)) ?_
                  with_reducible refine (virgationref01_Same.calls k1 _ _ ((rd_T41 l0 x13_1).f0) _ _ ((rd_T41 l1 x13_1).f0) true _ ?side1 ?side2 ?side3 ?side4 A8.out).mono ?_
                  (case side1 => repeat (first | exact (Kd.C_below HR194_0.out HB.out) | (with_reducible refine Kd.C_alloc ?_ _) | (with_reducible refine Kd.C_drewN ?_ _) | (with_reducible refine Kd.C_drew ?_)))
                  (case side2 => exact HC194_0.out)
                  (case side3 => repeat (first | exact (Kd.C_below HR195_0.out HB.out) | (with_reducible refine Kd.C_alloc ?_ _) | (with_reducible refine Kd.C_drewN ?_ _) | (with_reducible refine Kd.C_drew ?_)))
                  (case side4 => exact HC195_0.out)
                  rintro e w11 ⟨rfl, hb⟩
                  refine ⟨_, rfl, ?_⟩
                  have n0_ := Aside0.mk (below_step (by repeat (first | (with_reducible first | exact HB.out | apply below_alloc | apply pw_below_drewN | apply below_drew1) | exact HB.out)) hb)
                  clear HB
                  have HB := n0_
                  clear n0_
                  (try clear hb)
                  (try clear hb2)
                  (try clear hk)
                  (try clear hi)
                  refine hK.out _ _ ⟨((HB.out.cell (World.block_lt_of_cell? w _ hw194_0)).trans hw194_0), ((HB.out.cell (World.block_lt_of_cell? w _ hw195_0)).trans hw195_0)⟩ (fun hHeld => ?_)
                  clear hK K
                  refine norm_ (a' := ?_) ?_ ?_
                  rotate_left
                  · show Act.put _ (some 24) _ = _
                    simp only [Act.put, List.setIfInBounds_toArray, List.set_cons_zero, List.set_cons_succ, i64_w, i32_w]
                    rfl
                  refine pure_ (i := 9) (N := some 25) (v := ?_) (a' := ?_) #[true, true, true, true, true, true, true, true, true, true] rfl rfl (any_of HT_.out (by kernel_rfl)) (fun _ _ _ h => h) (Or.inl ⟨by rfl, ?_⟩) ?_ ?_
                  rotate_left
                  · intro w'
                    go_simp
                    with_reducible rfl
                  rotate_left
                  · simp only [Act.put, List.setIfInBounds_toArray, List.set_cons_zero, List.set_cons_succ, i64_w, i32_w]
                    rfl
                  refine done_ (done_of HT_.out (by kernel_rfl)) ?_
                  try go_wp2
                  go_roundg k1
                  case measure => have := HK1.out; omega
                  case rel => exact ⟨(wrap64 (x13_1 + 1)), (by first | rfl | (simp; done) | (simp [*]; done)), H', ⟨by have := HK1.out; omega⟩, ⟨by repeat (first | (with_reducible first | exact HB.out | apply below_alloc | apply pw_below_drewN | apply below_drew1) | exact HB.out)⟩⟩
                · replace c9 := Bool.eq_false_iff.mpr c9
                  subst c9
                  have H1 : (some false) = some r := by rw [if_neg (show ¬ (false = true) by decide)] at H; exact H
                  clear H
                  have H := H1
                  clear H1
                  obtain rfl := Option.some.inj H
                  try go_wp2
                  have n0_ := Aside0.mk (below_drew1 HB.out)
                  clear HB
                  have HB := n0_
                  clear n0_
                  have p194 : 0 ≤ (x13_1 : Int) := of_decide_eq_true (by first | (with_reducible assumption) | assumption)
                  have q194 : x13_1 < (l0.length : Int) := of_decide_eq_true (by first | (with_reducible assumption) | assumption)
                  obtain ⟨ad194, A194_0, c194_0, e194, hx194_0, hl194_0, hi194_0⟩ := at_T41 HR0.out x13_1 p194 q194
                  have hw194_0 := hx194_0
                  cases e194
                  replace hx194_0 := (HB.out.cell (World.block_lt_of_cell? w _ hx194_0)).trans hx194_0
                  have HR194_0 := Aside0.mk hi194_0
                  have HC194_0 := Aside0.mk hl194_0
                  clear hi194_0 hl194_0
                  replace p194 := eq_true p194
                  replace q194 := eq_true q194
                  have p195 : 0 ≤ (x13_1 : Int) := of_decide_eq_true (by first | (with_reducible assumption) | assumption)
                  have q195 : x13_1 < (l1.length : Int) := of_decide_eq_true (by first | (with_reducible assumption) | assumption)
                  obtain ⟨ad195, A195_0, c195_0, e195, hx195_0, hl195_0, hi195_0⟩ := at_T41 HR1.out x13_1 p195 q195
                  have hw195_0 := hx195_0
                  cases e195
                  replace hx195_0 := (HB.out.cell (World.block_lt_of_cell? w _ hx195_0)).trans hx195_0
                  have HR195_0 := Aside0.mk hi195_0
                  have HC195_0 := Aside0.mk hl195_0
                  clear hi195_0 hl195_0
                  replace p195 := eq_true p195
                  replace q195 := eq_true q195
                  refine start_ (n := 10) (S := fun w' => w'.cell? (ad194.add (x13_1).toNat) = some (.slice A194_0 ((rd_T41 l0 x13_1).f0).length c194_0) ∧ w'.cell? (ad195.add (x13_1).toNat) = some (.slice A195_0 ((rd_T41 l1 x13_1).f0).length c195_0)) (ds := []) #[false, false, false, false, false, false, false, false, false, false] (by kernel_rfl) rfl rfl ⟨((HB.out.cell (World.block_lt_of_cell? w _ hw194_0)).trans hw194_0), ((HB.out.cell (World.block_lt_of_cell? w _ hw195_0)).trans hw195_0)⟩ (fun hHeld => ?_); refine with_tabW virgationlaw04_same.tab6 virgationlaw04_same.bits6 (fun HT_ HW_ => ?_)
                  generalize wr.drew = w12 at HB HR194_0 HR195_0 hx194_0 hx195_0 hHeld ⊢
                  refine pure_ (i := 0) (N := some 16) (v := ?_) (a' := ?_) #[true, false, false, false, false, false, false, false, false, false] rfl rfl (any_of HT_.out (by kernel_rfl)) (fun _ _ _ h => h) (Or.inl ⟨by rfl, ?_⟩) ?_ ?_
                  rotate_left
                  · intro w'
                    go_simp
                    with_reducible rfl
                  rotate_left
                  · simp only [Act.put, List.setIfInBounds_toArray, List.set_cons_zero, List.set_cons_succ, i64_w, i32_w]
                    rfl
                  refine pure_ (i := 1) (N := some 17) (v := ?_) (a' := ?_) #[true, true, false, false, false, false, false, false, false, false] rfl rfl (any_of HT_.out (by kernel_rfl)) (fun _ _ _ h => h) (Or.inl ⟨by rfl, ?_⟩) ?_ ?_
                  rotate_left
                  · intro w'
                    go_simp
                    with_reducible rfl
                  rotate_left
                  · simp only [Act.put, List.setIfInBounds_toArray, List.set_cons_zero, List.set_cons_succ, i64_w, i32_w]
                    rfl
                  refine pure_ (i := 2) (N := some 18) (v := ?_) (a' := ?_) #[true, true, true, false, false, false, false, false, false, false] rfl rfl (any_of HT_.out (by kernel_rfl)) (fun _ _ _ h => h) (Or.inl ⟨by rfl, ?_⟩) ?_ ?_
                  rotate_left
                  · intro w'
                    go_simp
                    with_reducible rfl
                  rotate_left
                  · simp only [Act.put, List.setIfInBounds_toArray, List.set_cons_zero, List.set_cons_succ, i64_w, i32_w]
                    rfl
                  refine pure_ (i := 4) (N := some 20) (v := ?_) (a' := ?_) #[true, true, true, false, true, false, false, false, false, false] rfl rfl (any_of HT_.out (by kernel_rfl)) (fun _ _ _ h => h) (Or.inl ⟨by rfl, ?_⟩) ?_ ?_
                  rotate_left
                  · intro w'
                    go_simp
                    with_reducible rfl
                  rotate_left
                  · simp only [Act.put, List.setIfInBounds_toArray, List.set_cons_zero, List.set_cons_succ, i64_w, i32_w]
                    rfl
                  refine pure_ (i := 5) (N := some 21) (v := ?_) (a' := ?_) #[true, true, true, false, true, true, false, false, false, false] rfl rfl (any_of HT_.out (by kernel_rfl)) (fun _ _ _ h => h) (Or.inl ⟨by rfl, ?_⟩) ?_ ?_
                  rotate_left
                  · intro w'
                    go_simp
                    with_reducible rfl
                  rotate_left
                  · simp only [Act.put, List.setIfInBounds_toArray, List.set_cons_zero, List.set_cons_succ, i64_w, i32_w]
                    rfl
                  refine pure_ (i := 6) (N := some 22) (v := ?_) (a' := ?_) #[true, true, true, false, true, true, true, false, false, false] rfl rfl (any_of HT_.out (by kernel_rfl)) (fun _ _ _ h => h) (Or.inl ⟨by rfl, ?_⟩) ?_ ?_
                  rotate_left
                  · intro w'
                    go_simp
                    with_reducible rfl
                  rotate_left
                  · simp only [Act.put, List.setIfInBounds_toArray, List.set_cons_zero, List.set_cons_succ, i64_w, i32_w]
                    rfl
                  refine take_ (i := 3) (N := some 19) (v := ?_) (a' := ?_) #[true, true, true, true, true, true, true, false, false, false] rfl rfl (take_ofW HT_.out HW_.out (by kernel_rfl)) (fun _ _ _ h => h) (Or.inl ⟨by rfl, ?_⟩) hHeld ?_ ?_
                  rotate_left
                  · rintro w' ⟨s0, s1⟩
                    go_simp
                    with_reducible rfl
                  rotate_left
                  · simp only [Act.put, List.setIfInBounds_toArray, List.set_cons_zero, List.set_cons_succ, i64_w, i32_w]
                    rfl
                  refine take_ (i := 7) (N := some 23) (v := ?_) (a' := ?_) #[true, true, true, true, true, true, true, true, false, false] rfl rfl (take_ofW HT_.out HW_.out (by kernel_rfl)) (fun _ _ _ h => h) (Or.inl ⟨by rfl, ?_⟩) hHeld ?_ ?_
                  rotate_left
                  · rintro w' ⟨s0, s1⟩
                    go_simp
                    with_reducible rfl
                  rotate_left
                  · simp only [Act.put, List.setIfInBounds_toArray, List.set_cons_zero, List.set_cons_succ, i64_w, i32_w]
                    rfl
                  refine one_ (i := 8) (N := some 24) #[true, true, true, true, true, true, true, true, true, false] rfl rfl (one_of HT_.out (by kernel_rfl)) (by decide) (fun K hK => ?_)
                  refine goes_ Try.func49 (by kernel_rfl) rfl #[.agg #[.slice A194_0 ((rd_T41 l0 x13_1).f0).length c194_0], .agg #[.slice A195_0 ((rd_T41 l1 x13_1).f0).length c195_0]] (by rfl) rfl rfl (by (try simp only [List.map_toArray, List.map_cons, List.map_nil]); first | done | rfl | (simp only [List.length_drop, List.length_take]; rfl)) ?_
                  with_reducible refine (virgationref01_Same.calls k1 _ _ ((rd_T41 l0 x13_1).f0) _ _ ((rd_T41 l1 x13_1).f0) false _ ?side1 ?side2 ?side3 ?side4 A8.out).mono ?_
                  (case side1 => repeat (first | exact (Kd.C_below HR194_0.out HB.out) | (with_reducible refine Kd.C_alloc ?_ _) | (with_reducible refine Kd.C_drewN ?_ _) | (with_reducible refine Kd.C_drew ?_)))
                  (case side2 => exact HC194_0.out)
                  (case side3 => repeat (first | exact (Kd.C_below HR195_0.out HB.out) | (with_reducible refine Kd.C_alloc ?_ _) | (with_reducible refine Kd.C_drewN ?_ _) | (with_reducible refine Kd.C_drew ?_)))
                  (case side4 => exact HC195_0.out)
                  rintro e w13 ⟨rfl, hb⟩
                  refine ⟨_, rfl, ?_⟩
                  have n0_ := Aside0.mk (below_step (by repeat (first | (with_reducible first | exact HB.out | apply below_alloc | apply pw_below_drewN | apply below_drew1) | exact HB.out)) hb)
                  clear HB
                  have HB := n0_
                  clear n0_
                  (try clear hb)
                  (try clear hb2)
                  (try clear hk)
                  (try clear hi)
                  refine hK.out _ _ ⟨((HB.out.cell (World.block_lt_of_cell? w _ hw194_0)).trans hw194_0), ((HB.out.cell (World.block_lt_of_cell? w _ hw195_0)).trans hw195_0)⟩ (fun hHeld => ?_)
                  clear hK K
                  refine norm_ (a' := ?_) ?_ ?_
                  rotate_left
                  · show Act.put _ (some 24) _ = _
                    simp only [Act.put, List.setIfInBounds_toArray, List.set_cons_zero, List.set_cons_succ, i64_w, i32_w]
                    rfl
                  refine pure_ (i := 9) (N := some 25) (v := ?_) (a' := ?_) #[true, true, true, true, true, true, true, true, true, true] rfl rfl (any_of HT_.out (by kernel_rfl)) (fun _ _ _ h => h) (Or.inl ⟨by rfl, ?_⟩) ?_ ?_
                  rotate_left
                  · intro w'
                    go_simp
                    with_reducible rfl
                  rotate_left
                  · simp only [Act.put, List.setIfInBounds_toArray, List.set_cons_zero, List.set_cons_succ, i64_w, i32_w]
                    rfl
                  refine done_ (done_of HT_.out (by kernel_rfl)) ?_
                  try go_wp2
                  go_ret
                  exact ⟨by first | rfl | (simp [errW_none, errW_some] <;> rfl) | (simp [*, errW_none, errW_some] <;> rfl), by repeat (first | (with_reducible first | exact HB.out | apply below_alloc | apply pw_below_drewN | apply below_drew1) | exact HB.out)⟩
              · rw [if_neg c7] at H
                exact absurd H (by simp)
            · rw [if_neg c6] at H
              exact absurd H (by simp)
          · rw [if_neg c5] at H
            exact absurd H (by simp)
        · rw [if_neg c4] at H
          have c4b0 : decide (x13_1 < (l0.length : Int)) = false := decide_eq_false c4
          clear c4
          obtain rfl := Option.some.inj H
          go_wp2
          go_ret
          exact ⟨by first | rfl | (simp [errW_none, errW_some] <;> rfl) | (simp [*, errW_none, errW_some] <;> rfl), by repeat (first | (with_reducible first | exact HB.out | apply below_alloc | apply pw_below_drewN | apply below_drew1) | exact HB.out)⟩
  · rw [if_neg c3] at H
    have c3b0 : ((l0.length : Int) == (l1.length : Int)) = false := beq_eq_false_iff_ne.mpr c3
    have c3b1 : ((l0.length : Int) != (l1.length : Int)) = true := bne_iff_ne.mpr c3
    have c3b2 : (l0.length == l1.length) = false := by first | simpa using c3 | (simp at c3 ⊢; omega)
    obtain rfl := Option.some.inj H
    go_enter Try.func15, Try.ntmps15
    go_wp2
    go_ret
    exact ⟨by first | rfl | (simp [errW_none, errW_some] <;> rfl) | (simp [*, errW_none, errW_some] <;> rfl), by repeat (first | (with_reducible first | exact HB.out | apply below_alloc | apply pw_below_drewN | apply below_drew1) | exact HB.out)⟩
def virgationlaw04_InferSorts.f (k : Nat) (l0 : List (S59)) (l1 : List (S56)) : Option (Bool) := if (l1.length : Int) > 1000 then ((virgationlaw04_alive.f).bind fun t197 => (some t197)) else ((virgationlaw04_given.f k l1).bind fun t198 => ((infer_Sorts.f k l0 t198).bind fun bt201 => ((virgationref04_Sorts.f k l0 l1).bind fun bt205 => (if bt201.2 = bt205.2 then ((virgationlaw04_same.f k bt201.1 bt205.1).bind fun t209 => (if t209 = true then ((virgationlaw04_alive.f).bind fun t210 => (some t210)) else (some false))) else (some false)))))
set_option maxHeartbeats 8000000 in
set_option maxRecDepth 100000 in
theorem virgationlaw04_InferSorts.calls (k : Nat) (A0 : Option Addr) (c0 : Nat) (l0 : List (S59)) (A1 : Option Addr) (c1 : Nat) (l1 : List (S56)) (r : Bool) (w : World) (hr0 : Kd.C k59 w A0 l0.length l0) (hc0 : l0.length ≤ c0) (hr1 : Kd.C k56 w A1 l1.length l1) (hc1 : l1.length ≤ c1) (h : virgationlaw04_InferSorts.f k l0 l1 = some r) :
    Calls Try.prog 4 #[.slice A0 l0.length c0, .slice A1 l1.length c1] w fun e w' => e = .returned (.bool r) ∧ Below w.heap.size w w' := by
  have HR0 := Aside0.mk hr0
  have HC0 := Aside0.mk hc0
  clear hr0 hc0
  have HR1 := Aside0.mk hr1
  have HC1 := Aside0.mk hc1
  clear hr1 hc1
  have HB := Aside0.mk (Below.refl w.heap.size w)
  have H : (if (l1.length : Int) > 1000 then ((virgationlaw04_alive.f).bind fun t197 => (some t197)) else ((virgationlaw04_given.f k l1).bind fun t198 => ((infer_Sorts.f k l0 t198).bind fun bt201 => ((virgationref04_Sorts.f k l0 l1).bind fun bt205 => (if bt201.2 = bt205.2 then ((virgationlaw04_same.f k bt201.1 bt205.1).bind fun t209 => (if t209 = true then ((virgationlaw04_alive.f).bind fun t210 => (some t210)) else (some false))) else (some false)))))) = some r := h
  clear h
  by_cases c3 : (l1.length : Int) > 1000
  · rw [if_pos c3] at H
    have c3b0 : decide (1000 < (l1.length : Int)) = true := decide_eq_true c3
    have c3b1 : decide (1000 < l1.length) = true := decide_eq_true (by omega)
    clear c3
    replace H := Option.bind_eq_some_iff.mp H
    obtain ⟨t197, A40, H⟩ := H
    replace H : (some t197) = some r := H
    have A4 := Aside0.mk A40
    clear A40
    obtain rfl := Option.some.inj H
    go_enter Try.func4, Try.ntmps4
    go_wp2_with (first | ((with_reducible refine gate_callee (f := 9) rfl ?_); refine goesL_ (some 12) rfl rfl Try.func9 (by kernel_rfl) rfl #[] rfl (by (try simp only [List.map_toArray, List.map_cons, List.map_nil]); first | done | rfl | (simp only [List.length_drop, List.length_take]; rfl)) ?_; (with_reducible refine (virgationlaw04_alive.calls  t197 _ A4.out).mono ?_); rintro e w5 ⟨rfl, hb⟩; refine ⟨_, rfl, ?_⟩; have n0_ := Aside0.mk (below_step (by repeat (first | (with_reducible first | exact HB.out | apply below_alloc | apply pw_below_drewN | apply below_drew1) | exact HB.out)) hb); clear HB; have HB := n0_; clear n0_; (try clear hb); (try clear hb2); (try clear hk); (try clear hi)))
    go_ret
    exact ⟨by first | rfl | (simp [errW_none, errW_some] <;> rfl) | (simp [*, errW_none, errW_some] <;> rfl), by repeat (first | (with_reducible first | exact HB.out | apply below_alloc | apply pw_below_drewN | apply below_drew1) | exact HB.out)⟩
  · rw [if_neg c3] at H
    have c3b0 : decide (1000 < (l1.length : Int)) = false := decide_eq_false c3
    have c3b1 : decide (1000 < l1.length) = false := decide_eq_false (by omega)
    clear c3
    replace H := Option.bind_eq_some_iff.mp H
    obtain ⟨t198, A60, H⟩ := H
    replace H : ((infer_Sorts.f k l0 t198).bind fun bt201 => ((virgationref04_Sorts.f k l0 l1).bind fun bt205 => (if bt201.2 = bt205.2 then ((virgationlaw04_same.f k bt201.1 bt205.1).bind fun t209 => (if t209 = true then ((virgationlaw04_alive.f).bind fun t210 => (some t210)) else (some false))) else (some false)))) = some r := H
    have A6 := Aside0.mk A60
    clear A60
    replace H := Option.bind_eq_some_iff.mp H
    obtain ⟨⟨t201, t202⟩, A70, H⟩ := H
    replace H : ((virgationref04_Sorts.f k l0 l1).bind fun bt205 => (if t202 = bt205.2 then ((virgationlaw04_same.f k t201 bt205.1).bind fun t209 => (if t209 = true then ((virgationlaw04_alive.f).bind fun t210 => (some t210)) else (some false))) else (some false))) = some r := H
    have A7 := Aside0.mk A70
    clear A70
    replace H := Option.bind_eq_some_iff.mp H
    obtain ⟨⟨t205, t206⟩, A80, H⟩ := H
    replace H : (if t202 = t206 then ((virgationlaw04_same.f k t201 t205).bind fun t209 => (if t209 = true then ((virgationlaw04_alive.f).bind fun t210 => (some t210)) else (some false))) else (some false)) = some r := H
    have A8 := Aside0.mk A80
    clear A80
    by_cases c9 : t202 = t206
    · rw [if_pos c9] at H
      have c9b0 : (t202 == t206) = true := beq_iff_eq.mpr c9
      have c9b1 : (t202 != t206) = false := bne_eq_false_iff_eq.mpr c9
      clear c9
      replace H := Option.bind_eq_some_iff.mp H
      obtain ⟨t209, A100, H⟩ := H
      replace H : (if t209 = true then ((virgationlaw04_alive.f).bind fun t210 => (some t210)) else (some false)) = some r := H
      have A10 := Aside0.mk A100
      clear A100
      by_cases c11 : t209 = true
      · subst c11
        have H1 : ((virgationlaw04_alive.f).bind fun t210 => (some t210)) = some r := by rw [if_pos rfl] at H; exact H
        clear H
        have H := H1
        clear H1
        replace H := Option.bind_eq_some_iff.mp H
        obtain ⟨t210, A120, H⟩ := H
        replace H : (some t210) = some r := H
        have A12 := Aside0.mk A120
        clear A120
        obtain rfl := Option.some.inj H
        go_enter Try.func4, Try.ntmps4
        go_wp2_with (first | ((with_reducible refine gate_callee (f := 11) rfl ?_); refine goesL_ (some 16) rfl rfl Try.func11 (by kernel_rfl) rfl #[.slice A1 l1.length c1] rfl (by (try simp only [List.map_toArray, List.map_cons, List.map_nil]); first | done | rfl | (simp only [List.length_drop, List.length_take]; rfl)) ?_; (with_reducible refine (virgationlaw04_given.calls k (fun k_ => k_ < w.heap.size) _ _ l1 t198 _ ?side1 A6.out).mono ?_); (case side1 => exact Kd.V_mk HC1.out (Kd.F_below (Kd.C_F k56_heap HR1.out) (by repeat (first | (with_reducible first | exact HB.out | apply below_alloc | apply pw_below_drewN | apply below_drew1) | exact HB.out)))); rintro e w13 ⟨v199, rfl, ho0, hb⟩; refine ⟨_, rfl, ?_⟩; have n0_ := Aside0.mk (Kd.N_lower (Kd.N_mono (ok' := fun k_ => True) ho0 (fun k_ hk_ => trivial)) (below_size (by repeat (first | (with_reducible first | exact HB.out | apply below_alloc | apply pw_below_drewN | apply below_drew1) | exact HB.out)))); have n1_ := Aside0.mk (below_step (by repeat (first | (with_reducible first | exact HB.out | apply below_alloc | apply pw_below_drewN | apply below_drew1) | exact HB.out)) hb); clear HB; have HO200 := n0_; have HB := n1_; clear n0_ n1_; (try clear hb); (try clear hb2); (try clear hk); (try clear hi); (try clear ho0); obtain ⟨Ao14, co14, eo14⟩ := Kd.N_slice HO200.out; subst eo14) | ((with_reducible refine gate_callee (f := 13) rfl ?_); refine goesL_ (some 17) rfl rfl Try.func13 (by kernel_rfl) rfl #[.slice A0 l0.length c0, .slice Ao14 t198.length co14] rfl (by (try simp only [List.map_toArray, List.map_cons, List.map_nil]); first | done | rfl | (simp only [List.length_drop, List.length_take]; rfl)) ?_; (with_reducible refine (infer_Sorts.calls k _ _ l0 _ _ t198 t201 t202 _ ?side1 ?side2 ?side3 ?side4 A7.out).mono ?_); (case side1 => repeat (first | exact (Kd.C_below HR0.out HB.out) | (with_reducible refine Kd.C_alloc ?_ _) | (with_reducible refine Kd.C_drewN ?_ _) | (with_reducible refine Kd.C_drew ?_))); (case side2 => exact HC0.out); (case side3 => repeat (first | exact (Kd.N_reads' HO200.out).2.2 | (with_reducible refine Kd.C_alloc ?_ _) | (with_reducible refine Kd.C_drewN ?_ _) | (with_reducible refine Kd.C_drew ?_))); (case side4 => exact (Kd.N_reads' HO200.out).2.1); rintro e w15 ⟨v203, rfl, ho0, hb⟩; refine ⟨_, rfl, ?_⟩; have n0_ := Aside0.mk (Kd.N_elder' (by (with_reducible repeat (first | apply Kd.N_alloc | apply Kd.N_drewN | apply Kd.N_drew)); exact HO200.out) (by first | exact Kd.R_base ho0 | exact Kd.N_base ho0) hb); have n1_ := Aside0.mk (Kd.N_lower (Kd.N_mono (ok' := fun k_ => some k_ ≠ (.slice Ao14 t198.length co14 : Value).ownBlock) (Kd.R_N (Kd.R_bound ho0)) (fun k_ hk_ => (Kd.fresh' (Kd.N_lt (by (with_reducible repeat (first | apply Kd.N_alloc | apply Kd.N_drewN | apply Kd.N_drew)); exact HO200.out)) k_ hk_.2.1))) (below_size (by repeat (first | (with_reducible first | exact HB.out | apply below_alloc | apply pw_below_drewN | apply below_drew1) | exact HB.out)))); have n2_ := Aside0.mk (below_step (by repeat (first | (with_reducible first | exact HB.out | apply below_alloc | apply pw_below_drewN | apply below_drew1) | exact HB.out)) hb); clear HO200; clear HB; have HO200 := n0_; have HO204 := n1_; have HB := n2_; clear n0_ n1_ n2_; (try clear hb); (try clear hb2); (try clear hk); (try clear hi); (try clear ho0)) | ((with_reducible refine gate_callee (f := 14) rfl ?_); refine goesL_ (some 23) rfl rfl Try.func14 (by kernel_rfl) rfl #[.slice A0 l0.length c0, .slice A1 l1.length c1] rfl (by (try simp only [List.map_toArray, List.map_cons, List.map_nil]); first | done | rfl | (simp only [List.length_drop, List.length_take]; rfl)) ?_; (with_reducible refine (virgationref04_Sorts.calls k _ _ l0 _ _ l1 t205 t206 _ ?side1 ?side2 ?side3 ?side4 A8.out).mono ?_); (case side1 => repeat (first | exact (Kd.C_below HR0.out HB.out) | (with_reducible refine Kd.C_alloc ?_ _) | (with_reducible refine Kd.C_drewN ?_ _) | (with_reducible refine Kd.C_drew ?_))); (case side2 => exact HC0.out); (case side3 => repeat (first | exact (Kd.C_below HR1.out HB.out) | (with_reducible refine Kd.C_alloc ?_ _) | (with_reducible refine Kd.C_drewN ?_ _) | (with_reducible refine Kd.C_drew ?_))); (case side4 => exact HC1.out); rintro e w16 ⟨v207, rfl, ho0, hb⟩; refine ⟨_, rfl, ?_⟩; have n0_ := Aside0.mk (Kd.N_elder' (by (with_reducible repeat (first | apply Kd.N_alloc | apply Kd.N_drewN | apply Kd.N_drew)); exact HO200.out) (by first | exact Kd.R_base ho0 | exact Kd.N_base ho0) hb); have n1_ := Aside0.mk (Kd.N_elder' (by (with_reducible repeat (first | apply Kd.N_alloc | apply Kd.N_drewN | apply Kd.N_drew)); exact HO204.out) (by first | exact Kd.R_base ho0 | exact Kd.N_base ho0) hb); have n2_ := Aside0.mk (Kd.N_lower (Kd.N_mono (ok' := fun k_ => some k_ ≠ (.slice Ao14 t198.length co14 : Value).ownBlock ∧ some k_ ≠ (v203 : Value).ownBlock) (Kd.R_N (Kd.R_bound ho0)) (fun k_ hk_ => ⟨(Kd.fresh' (Kd.N_lt (by (with_reducible repeat (first | apply Kd.N_alloc | apply Kd.N_drewN | apply Kd.N_drew)); exact HO200.out)) k_ hk_.2.1), (Kd.fresh' (Kd.N_lt (by (with_reducible repeat (first | apply Kd.N_alloc | apply Kd.N_drewN | apply Kd.N_drew)); exact HO204.out)) k_ hk_.2.1)⟩)) (below_size (by repeat (first | (with_reducible first | exact HB.out | apply below_alloc | apply pw_below_drewN | apply below_drew1) | exact HB.out)))); have n3_ := Aside0.mk (below_step (by repeat (first | (with_reducible first | exact HB.out | apply below_alloc | apply pw_below_drewN | apply below_drew1) | exact HB.out)) hb); clear HO200; clear HO204; clear HB; have HO200 := n0_; have HO204 := n1_; have HO208 := n2_; have HB := n3_; clear n0_ n1_ n2_ n3_; (try clear hb); (try clear hb2); (try clear hk); (try clear hi); (try clear ho0); obtain ⟨Ao17, co17, eo17⟩ := Kd.N_slice HO204.out; subst eo17; obtain ⟨Ao18, co18, eo18⟩ := Kd.N_slice HO208.out; subst eo18) | (go_at_call 15; (with_reducible refine (virgationlaw04_same.calls k _ _ t201 _ _ t205 true _ ?side1 ?side2 ?side3 ?side4 A10.out).mono ?_); (case side1 => repeat (first | exact (Kd.N_reads' HO204.out).2.2 | (with_reducible refine Kd.C_alloc ?_ _) | (with_reducible refine Kd.C_drewN ?_ _) | (with_reducible refine Kd.C_drew ?_))); (case side2 => exact (Kd.N_reads' HO204.out).2.1); (case side3 => repeat (first | exact (Kd.N_reads' HO208.out).2.2 | (with_reducible refine Kd.C_alloc ?_ _) | (with_reducible refine Kd.C_drewN ?_ _) | (with_reducible refine Kd.C_drew ?_))); (case side4 => exact (Kd.N_reads' HO208.out).2.1); rintro e w19 ⟨rfl, hb⟩; have n0_ := Aside0.mk (Kd.N_below (by (with_reducible repeat (first | apply Kd.N_alloc | apply Kd.N_drewN | apply Kd.N_drew)); exact HO200.out) hb); have n1_ := Aside0.mk (Kd.N_below (by (with_reducible repeat (first | apply Kd.N_alloc | apply Kd.N_drewN | apply Kd.N_drew)); exact HO204.out) hb); have n2_ := Aside0.mk (Kd.N_below (by (with_reducible repeat (first | apply Kd.N_alloc | apply Kd.N_drewN | apply Kd.N_drew)); exact HO208.out) hb); have n3_ := Aside0.mk (below_step (by repeat (first | (with_reducible first | exact HB.out | apply below_alloc | apply pw_below_drewN | apply below_drew1) | exact HB.out)) hb); clear HO200; clear HO204; clear HO208; clear HB; have HO200 := n0_; have HO204 := n1_; have HO208 := n2_; have HB := n3_; clear n0_ n1_ n2_ n3_; (try clear hb); (try clear hb2); (try clear hk); (try clear hi)) | (go_at_call 9; (with_reducible refine (virgationlaw04_alive.calls  t210 _ A12.out).mono ?_); rintro e w20 ⟨rfl, hb⟩; have n0_ := Aside0.mk (Kd.N_below (by (with_reducible repeat (first | apply Kd.N_alloc | apply Kd.N_drewN | apply Kd.N_drew)); exact HO200.out) hb); have n1_ := Aside0.mk (Kd.N_below (by (with_reducible repeat (first | apply Kd.N_alloc | apply Kd.N_drewN | apply Kd.N_drew)); exact HO204.out) hb); have n2_ := Aside0.mk (Kd.N_below (by (with_reducible repeat (first | apply Kd.N_alloc | apply Kd.N_drewN | apply Kd.N_drew)); exact HO208.out) hb); have n3_ := Aside0.mk (below_step (by repeat (first | (with_reducible first | exact HB.out | apply below_alloc | apply pw_below_drewN | apply below_drew1) | exact HB.out)) hb); clear HO200; clear HO204; clear HO208; clear HB; have HO200 := n0_; have HO204 := n1_; have HO208 := n2_; have HB := n3_; clear n0_ n1_ n2_ n3_; (try clear hb); (try clear hb2); (try clear hk); (try clear hi)))
        go_ret
        exact ⟨by first | rfl | (simp [errW_none, errW_some] <;> rfl) | (simp [*, errW_none, errW_some] <;> rfl), by repeat (first | (with_reducible first | exact HB.out | apply below_alloc | apply pw_below_drewN | apply below_drew1) | exact HB.out)⟩
      · replace c11 := Bool.eq_false_iff.mpr c11
        subst c11
        have H1 : (some false) = some r := by rw [if_neg (show ¬ (false = true) by decide)] at H; exact H
        clear H
        have H := H1
        clear H1
        obtain rfl := Option.some.inj H
        go_enter Try.func4, Try.ntmps4
        go_wp2_with (first | ((with_reducible refine gate_callee (f := 11) rfl ?_); refine goesL_ (some 16) rfl rfl Try.func11 (by kernel_rfl) rfl #[.slice A1 l1.length c1] rfl (by (try simp only [List.map_toArray, List.map_cons, List.map_nil]); first | done | rfl | (simp only [List.length_drop, List.length_take]; rfl)) ?_; (with_reducible refine (virgationlaw04_given.calls k (fun k_ => k_ < w.heap.size) _ _ l1 t198 _ ?side1 A6.out).mono ?_); (case side1 => exact Kd.V_mk HC1.out (Kd.F_below (Kd.C_F k56_heap HR1.out) (by repeat (first | (with_reducible first | exact HB.out | apply below_alloc | apply pw_below_drewN | apply below_drew1) | exact HB.out)))); rintro e w21 ⟨v199, rfl, ho0, hb⟩; refine ⟨_, rfl, ?_⟩; have n0_ := Aside0.mk (Kd.N_lower (Kd.N_mono (ok' := fun k_ => True) ho0 (fun k_ hk_ => trivial)) (below_size (by repeat (first | (with_reducible first | exact HB.out | apply below_alloc | apply pw_below_drewN | apply below_drew1) | exact HB.out)))); have n1_ := Aside0.mk (below_step (by repeat (first | (with_reducible first | exact HB.out | apply below_alloc | apply pw_below_drewN | apply below_drew1) | exact HB.out)) hb); clear HB; have HO200 := n0_; have HB := n1_; clear n0_ n1_; (try clear hb); (try clear hb2); (try clear hk); (try clear hi); (try clear ho0); obtain ⟨Ao22, co22, eo22⟩ := Kd.N_slice HO200.out; subst eo22) | ((with_reducible refine gate_callee (f := 13) rfl ?_); refine goesL_ (some 17) rfl rfl Try.func13 (by kernel_rfl) rfl #[.slice A0 l0.length c0, .slice Ao22 t198.length co22] rfl (by (try simp only [List.map_toArray, List.map_cons, List.map_nil]); first | done | rfl | (simp only [List.length_drop, List.length_take]; rfl)) ?_; (with_reducible refine (infer_Sorts.calls k _ _ l0 _ _ t198 t201 t202 _ ?side1 ?side2 ?side3 ?side4 A7.out).mono ?_); (case side1 => repeat (first | exact (Kd.C_below HR0.out HB.out) | (with_reducible refine Kd.C_alloc ?_ _) | (with_reducible refine Kd.C_drewN ?_ _) | (with_reducible refine Kd.C_drew ?_))); (case side2 => exact HC0.out); (case side3 => repeat (first | exact (Kd.N_reads' HO200.out).2.2 | (with_reducible refine Kd.C_alloc ?_ _) | (with_reducible refine Kd.C_drewN ?_ _) | (with_reducible refine Kd.C_drew ?_))); (case side4 => exact (Kd.N_reads' HO200.out).2.1); rintro e w23 ⟨v203, rfl, ho0, hb⟩; refine ⟨_, rfl, ?_⟩; have n0_ := Aside0.mk (Kd.N_elder' (by (with_reducible repeat (first | apply Kd.N_alloc | apply Kd.N_drewN | apply Kd.N_drew)); exact HO200.out) (by first | exact Kd.R_base ho0 | exact Kd.N_base ho0) hb); have n1_ := Aside0.mk (Kd.N_lower (Kd.N_mono (ok' := fun k_ => some k_ ≠ (.slice Ao22 t198.length co22 : Value).ownBlock) (Kd.R_N (Kd.R_bound ho0)) (fun k_ hk_ => (Kd.fresh' (Kd.N_lt (by (with_reducible repeat (first | apply Kd.N_alloc | apply Kd.N_drewN | apply Kd.N_drew)); exact HO200.out)) k_ hk_.2.1))) (below_size (by repeat (first | (with_reducible first | exact HB.out | apply below_alloc | apply pw_below_drewN | apply below_drew1) | exact HB.out)))); have n2_ := Aside0.mk (below_step (by repeat (first | (with_reducible first | exact HB.out | apply below_alloc | apply pw_below_drewN | apply below_drew1) | exact HB.out)) hb); clear HO200; clear HB; have HO200 := n0_; have HO204 := n1_; have HB := n2_; clear n0_ n1_ n2_; (try clear hb); (try clear hb2); (try clear hk); (try clear hi); (try clear ho0)) | ((with_reducible refine gate_callee (f := 14) rfl ?_); refine goesL_ (some 23) rfl rfl Try.func14 (by kernel_rfl) rfl #[.slice A0 l0.length c0, .slice A1 l1.length c1] rfl (by (try simp only [List.map_toArray, List.map_cons, List.map_nil]); first | done | rfl | (simp only [List.length_drop, List.length_take]; rfl)) ?_; (with_reducible refine (virgationref04_Sorts.calls k _ _ l0 _ _ l1 t205 t206 _ ?side1 ?side2 ?side3 ?side4 A8.out).mono ?_); (case side1 => repeat (first | exact (Kd.C_below HR0.out HB.out) | (with_reducible refine Kd.C_alloc ?_ _) | (with_reducible refine Kd.C_drewN ?_ _) | (with_reducible refine Kd.C_drew ?_))); (case side2 => exact HC0.out); (case side3 => repeat (first | exact (Kd.C_below HR1.out HB.out) | (with_reducible refine Kd.C_alloc ?_ _) | (with_reducible refine Kd.C_drewN ?_ _) | (with_reducible refine Kd.C_drew ?_))); (case side4 => exact HC1.out); rintro e w24 ⟨v207, rfl, ho0, hb⟩; refine ⟨_, rfl, ?_⟩; have n0_ := Aside0.mk (Kd.N_elder' (by (with_reducible repeat (first | apply Kd.N_alloc | apply Kd.N_drewN | apply Kd.N_drew)); exact HO200.out) (by first | exact Kd.R_base ho0 | exact Kd.N_base ho0) hb); have n1_ := Aside0.mk (Kd.N_elder' (by (with_reducible repeat (first | apply Kd.N_alloc | apply Kd.N_drewN | apply Kd.N_drew)); exact HO204.out) (by first | exact Kd.R_base ho0 | exact Kd.N_base ho0) hb); have n2_ := Aside0.mk (Kd.N_lower (Kd.N_mono (ok' := fun k_ => some k_ ≠ (.slice Ao22 t198.length co22 : Value).ownBlock ∧ some k_ ≠ (v203 : Value).ownBlock) (Kd.R_N (Kd.R_bound ho0)) (fun k_ hk_ => ⟨(Kd.fresh' (Kd.N_lt (by (with_reducible repeat (first | apply Kd.N_alloc | apply Kd.N_drewN | apply Kd.N_drew)); exact HO200.out)) k_ hk_.2.1), (Kd.fresh' (Kd.N_lt (by (with_reducible repeat (first | apply Kd.N_alloc | apply Kd.N_drewN | apply Kd.N_drew)); exact HO204.out)) k_ hk_.2.1)⟩)) (below_size (by repeat (first | (with_reducible first | exact HB.out | apply below_alloc | apply pw_below_drewN | apply below_drew1) | exact HB.out)))); have n3_ := Aside0.mk (below_step (by repeat (first | (with_reducible first | exact HB.out | apply below_alloc | apply pw_below_drewN | apply below_drew1) | exact HB.out)) hb); clear HO200; clear HO204; clear HB; have HO200 := n0_; have HO204 := n1_; have HO208 := n2_; have HB := n3_; clear n0_ n1_ n2_ n3_; (try clear hb); (try clear hb2); (try clear hk); (try clear hi); (try clear ho0); obtain ⟨Ao25, co25, eo25⟩ := Kd.N_slice HO204.out; subst eo25; obtain ⟨Ao26, co26, eo26⟩ := Kd.N_slice HO208.out; subst eo26) | (go_at_call 15; (with_reducible refine (virgationlaw04_same.calls k _ _ t201 _ _ t205 false _ ?side1 ?side2 ?side3 ?side4 A10.out).mono ?_); (case side1 => repeat (first | exact (Kd.N_reads' HO204.out).2.2 | (with_reducible refine Kd.C_alloc ?_ _) | (with_reducible refine Kd.C_drewN ?_ _) | (with_reducible refine Kd.C_drew ?_))); (case side2 => exact (Kd.N_reads' HO204.out).2.1); (case side3 => repeat (first | exact (Kd.N_reads' HO208.out).2.2 | (with_reducible refine Kd.C_alloc ?_ _) | (with_reducible refine Kd.C_drewN ?_ _) | (with_reducible refine Kd.C_drew ?_))); (case side4 => exact (Kd.N_reads' HO208.out).2.1); rintro e w27 ⟨rfl, hb⟩; have n0_ := Aside0.mk (Kd.N_below (by (with_reducible repeat (first | apply Kd.N_alloc | apply Kd.N_drewN | apply Kd.N_drew)); exact HO200.out) hb); have n1_ := Aside0.mk (Kd.N_below (by (with_reducible repeat (first | apply Kd.N_alloc | apply Kd.N_drewN | apply Kd.N_drew)); exact HO204.out) hb); have n2_ := Aside0.mk (Kd.N_below (by (with_reducible repeat (first | apply Kd.N_alloc | apply Kd.N_drewN | apply Kd.N_drew)); exact HO208.out) hb); have n3_ := Aside0.mk (below_step (by repeat (first | (with_reducible first | exact HB.out | apply below_alloc | apply pw_below_drewN | apply below_drew1) | exact HB.out)) hb); clear HO200; clear HO204; clear HO208; clear HB; have HO200 := n0_; have HO204 := n1_; have HO208 := n2_; have HB := n3_; clear n0_ n1_ n2_ n3_; (try clear hb); (try clear hb2); (try clear hk); (try clear hi)))
        go_ret
        exact ⟨by first | rfl | (simp [errW_none, errW_some] <;> rfl) | (simp [*, errW_none, errW_some] <;> rfl), by repeat (first | (with_reducible first | exact HB.out | apply below_alloc | apply pw_below_drewN | apply below_drew1) | exact HB.out)⟩
    · rw [if_neg c9] at H
      have c9b0 : (t202 == t206) = false := beq_eq_false_iff_ne.mpr c9
      have c9b1 : (t202 != t206) = true := bne_iff_ne.mpr c9
      obtain rfl := Option.some.inj H
      go_enter Try.func4, Try.ntmps4
      go_wp2_with (first | ((with_reducible refine gate_callee (f := 11) rfl ?_); refine goesL_ (some 16) rfl rfl Try.func11 (by kernel_rfl) rfl #[.slice A1 l1.length c1] rfl (by (try simp only [List.map_toArray, List.map_cons, List.map_nil]); first | done | rfl | (simp only [List.length_drop, List.length_take]; rfl)) ?_; (with_reducible refine (virgationlaw04_given.calls k (fun k_ => k_ < w.heap.size) _ _ l1 t198 _ ?side1 A6.out).mono ?_); (case side1 => exact Kd.V_mk HC1.out (Kd.F_below (Kd.C_F k56_heap HR1.out) (by repeat (first | (with_reducible first | exact HB.out | apply below_alloc | apply pw_below_drewN | apply below_drew1) | exact HB.out)))); rintro e w28 ⟨v199, rfl, ho0, hb⟩; refine ⟨_, rfl, ?_⟩; have n0_ := Aside0.mk (Kd.N_lower (Kd.N_mono (ok' := fun k_ => True) ho0 (fun k_ hk_ => trivial)) (below_size (by repeat (first | (with_reducible first | exact HB.out | apply below_alloc | apply pw_below_drewN | apply below_drew1) | exact HB.out)))); have n1_ := Aside0.mk (below_step (by repeat (first | (with_reducible first | exact HB.out | apply below_alloc | apply pw_below_drewN | apply below_drew1) | exact HB.out)) hb); clear HB; have HO200 := n0_; have HB := n1_; clear n0_ n1_; (try clear hb); (try clear hb2); (try clear hk); (try clear hi); (try clear ho0); obtain ⟨Ao29, co29, eo29⟩ := Kd.N_slice HO200.out; subst eo29) | ((with_reducible refine gate_callee (f := 13) rfl ?_); refine goesL_ (some 17) rfl rfl Try.func13 (by kernel_rfl) rfl #[.slice A0 l0.length c0, .slice Ao29 t198.length co29] rfl (by (try simp only [List.map_toArray, List.map_cons, List.map_nil]); first | done | rfl | (simp only [List.length_drop, List.length_take]; rfl)) ?_; (with_reducible refine (infer_Sorts.calls k _ _ l0 _ _ t198 t201 t202 _ ?side1 ?side2 ?side3 ?side4 A7.out).mono ?_); (case side1 => repeat (first | exact (Kd.C_below HR0.out HB.out) | (with_reducible refine Kd.C_alloc ?_ _) | (with_reducible refine Kd.C_drewN ?_ _) | (with_reducible refine Kd.C_drew ?_))); (case side2 => exact HC0.out); (case side3 => repeat (first | exact (Kd.N_reads' HO200.out).2.2 | (with_reducible refine Kd.C_alloc ?_ _) | (with_reducible refine Kd.C_drewN ?_ _) | (with_reducible refine Kd.C_drew ?_))); (case side4 => exact (Kd.N_reads' HO200.out).2.1); rintro e w30 ⟨v203, rfl, ho0, hb⟩; refine ⟨_, rfl, ?_⟩; have n0_ := Aside0.mk (Kd.N_elder' (by (with_reducible repeat (first | apply Kd.N_alloc | apply Kd.N_drewN | apply Kd.N_drew)); exact HO200.out) (by first | exact Kd.R_base ho0 | exact Kd.N_base ho0) hb); have n1_ := Aside0.mk (Kd.N_lower (Kd.N_mono (ok' := fun k_ => some k_ ≠ (.slice Ao29 t198.length co29 : Value).ownBlock) (Kd.R_N (Kd.R_bound ho0)) (fun k_ hk_ => (Kd.fresh' (Kd.N_lt (by (with_reducible repeat (first | apply Kd.N_alloc | apply Kd.N_drewN | apply Kd.N_drew)); exact HO200.out)) k_ hk_.2.1))) (below_size (by repeat (first | (with_reducible first | exact HB.out | apply below_alloc | apply pw_below_drewN | apply below_drew1) | exact HB.out)))); have n2_ := Aside0.mk (below_step (by repeat (first | (with_reducible first | exact HB.out | apply below_alloc | apply pw_below_drewN | apply below_drew1) | exact HB.out)) hb); clear HO200; clear HB; have HO200 := n0_; have HO204 := n1_; have HB := n2_; clear n0_ n1_ n2_; (try clear hb); (try clear hb2); (try clear hk); (try clear hi); (try clear ho0)) | ((with_reducible refine gate_callee (f := 14) rfl ?_); refine goesL_ (some 23) rfl rfl Try.func14 (by kernel_rfl) rfl #[.slice A0 l0.length c0, .slice A1 l1.length c1] rfl (by (try simp only [List.map_toArray, List.map_cons, List.map_nil]); first | done | rfl | (simp only [List.length_drop, List.length_take]; rfl)) ?_; (with_reducible refine (virgationref04_Sorts.calls k _ _ l0 _ _ l1 t205 t206 _ ?side1 ?side2 ?side3 ?side4 A8.out).mono ?_); (case side1 => repeat (first | exact (Kd.C_below HR0.out HB.out) | (with_reducible refine Kd.C_alloc ?_ _) | (with_reducible refine Kd.C_drewN ?_ _) | (with_reducible refine Kd.C_drew ?_))); (case side2 => exact HC0.out); (case side3 => repeat (first | exact (Kd.C_below HR1.out HB.out) | (with_reducible refine Kd.C_alloc ?_ _) | (with_reducible refine Kd.C_drewN ?_ _) | (with_reducible refine Kd.C_drew ?_))); (case side4 => exact HC1.out); rintro e w31 ⟨v207, rfl, ho0, hb⟩; refine ⟨_, rfl, ?_⟩; have n0_ := Aside0.mk (Kd.N_elder' (by (with_reducible repeat (first | apply Kd.N_alloc | apply Kd.N_drewN | apply Kd.N_drew)); exact HO200.out) (by first | exact Kd.R_base ho0 | exact Kd.N_base ho0) hb); have n1_ := Aside0.mk (Kd.N_elder' (by (with_reducible repeat (first | apply Kd.N_alloc | apply Kd.N_drewN | apply Kd.N_drew)); exact HO204.out) (by first | exact Kd.R_base ho0 | exact Kd.N_base ho0) hb); have n2_ := Aside0.mk (Kd.N_lower (Kd.N_mono (ok' := fun k_ => some k_ ≠ (.slice Ao29 t198.length co29 : Value).ownBlock ∧ some k_ ≠ (v203 : Value).ownBlock) (Kd.R_N (Kd.R_bound ho0)) (fun k_ hk_ => ⟨(Kd.fresh' (Kd.N_lt (by (with_reducible repeat (first | apply Kd.N_alloc | apply Kd.N_drewN | apply Kd.N_drew)); exact HO200.out)) k_ hk_.2.1), (Kd.fresh' (Kd.N_lt (by (with_reducible repeat (first | apply Kd.N_alloc | apply Kd.N_drewN | apply Kd.N_drew)); exact HO204.out)) k_ hk_.2.1)⟩)) (below_size (by repeat (first | (with_reducible first | exact HB.out | apply below_alloc | apply pw_below_drewN | apply below_drew1) | exact HB.out)))); have n3_ := Aside0.mk (below_step (by repeat (first | (with_reducible first | exact HB.out | apply below_alloc | apply pw_below_drewN | apply below_drew1) | exact HB.out)) hb); clear HO200; clear HO204; clear HB; have HO200 := n0_; have HO204 := n1_; have HO208 := n2_; have HB := n3_; clear n0_ n1_ n2_ n3_; (try clear hb); (try clear hb2); (try clear hk); (try clear hi); (try clear ho0)))
      go_ret
      exact ⟨by first | rfl | (simp [errW_none, errW_some] <;> rfl) | (simp [*, errW_none, errW_some] <;> rfl), by repeat (first | (with_reducible first | exact HB.out | apply below_alloc | apply pw_below_drewN | apply below_drew1) | exact HB.out)⟩
end Go.Proofs.Ytfhgoebgnilfaaa.I
namespace Go.Proofs.Ytfhgoebgnilfaaa.I
open Go.RowKit Go.Proofs.YtfhgoebgnilfaaaW.PrintWords Go.Proofs.YtfhgoebgnilfaaaW.PrintLast Go.Proofs.YtfhgoebgnilfaaaW.PrintMore
set_option linter.unusedVariables false
theorem sorts_out (syms : List S59) (l : List S48) (hc : chkF syms l = some 0) : ∃ f out er, fsorts f syms l = some (out, er) ∧ (out.length ≤ l.length) ∧ ∀ x, x ∈ out → isok x.f0 = true := by
  rcases sorts_main syms l hc with ⟨As0, hT, _, f, hf⟩ | ⟨_, f, hf⟩
  · by_cases hg : (gam As0).all goodB = true
    · rw [if_pos hg] at hf
      refine ⟨f, _, _, hf, ?_, fun x hx => ?_⟩
      · have := congrArg List.length hT.1
        rw [List.length_map, List.length_map] at this
        rw [List.length_map]
        unfold gam
        rw [List.length_map]
        omega
      · obtain ⟨t, ht, rfl⟩ := List.mem_map.1 hx
        have := List.all_eq_true.1 hg t ht
        rw [goodB_eq, Bool.and_eq_true] at this
        exact this.2
    · rw [if_neg hg] at hf
      exact ⟨f, _, _, hf, by simp, fun x hx => (by cases hx)⟩
  · exact ⟨f, _, _, hf, by simp, fun x hx => (by cases hx)⟩
theorem same_loop (l : List S41) (hl : l.length ≤ 1000) (hg : ∀ x, x ∈ l → isok x.f0 = true) : ∀ (n i : Nat), l.length - i = n → Ev (fun k => virgationlaw04_same.l0 k l l (l.length : Int) (i : Int)) true := by
  intro n
  induction n with
  | zero =>
    intro i hn
    exact Ev.step (fun k => by rw [virgationlaw04_same.l0, if_neg (by omega)]) (Ev.now _)
  | succ n ih =>
    intro i hn
    have hil : i < l.length := by omega
    refine Ev.step (fun k => by rw [virgationlaw04_same.l0, if_pos (by omega), if_pos (by omega), if_pos (by omega), if_pos (by omega)]) ?_
    have hm : rd_T41 l (i : Int) ∈ l := by
      unfold rd_T41
      rw [Int.toNat_natCast, List.getD_eq_getElem?_getD, List.getElem?_eq_getElem hil]
      exact List.getElem_mem hil
    have hc := isok_cnt (hg _ hm)
    refine Ev.bind (refsame_ev _ _) ?_
    have hs : sameB (rd_T41 l (i : Int)).f0 (rd_T41 l (i : Int)).f0 = true := by
      unfold sameB
      rw [eqL_refl, decide_eq_true (by omega)]
      rfl
    rw [hs]
    refine Ev.ifp rfl ?_
    have ew : wrap64 ((i : Int) + 1) = ((i + 1 : Nat) : Int) := by unfold wrap64; omega
    rw [ew]
    exact ih (i + 1) (by omega)
theorem same_ev4 (l : List S41) (hl : l.length ≤ 1000) (hg : ∀ x, x ∈ l → isok x.f0 = true) : Ev (fun k => virgationlaw04_same.f k l l) true := by
  unfold virgationlaw04_same.f
  exact Ev.ifp rfl (same_loop l hl hg l.length 0 (by omega))
theorem fsorts_err {syms : List S59} {l : List S48} {r : Int} (hc : chkF syms l = some r) (hr : r ≠ 0) (k : Nat) : fsorts k syms l = some ([], r) := by
  unfold fsorts
  rw [hc]
  simp only
  rw [if_neg hr]
/-- Both Sorts, with enough rounds. -/
theorem both_ev (s : List S59) (l : List S56) (hw : looseWf (l.map to48) = true) (hl : l.length ≤ 1000) : ∃ out er, Ev (fun k => infer_Sorts.f k s (l.map to48)) (out, er) ∧ Ev (fun k => virgationref04_Sorts.f k s l) (out, er) ∧ out.length ≤ l.length ∧ (∀ x, x ∈ out → isok x.f0 = true) := by
  obtain ⟨r, hr, he⟩ := check_ev s l
  by_cases hz : r = 0
  · subst hz
    obtain ⟨f, out, er, hf, hlen, hg⟩ := sorts_out s (l.map to48) hr
    rw [List.length_map] at hlen
    refine ⟨out, er, ?_, ?_, hlen, hg⟩
    · unfold infer_Sorts.f
      exact Ev.ifp hw (Ev.of (fun k => fsorts_s k s _) hf)
    · unfold virgationref04_Sorts.f
      refine Ev.bind he ?_
      exact Ev.ifp rfl (Ev.of (fun k => fsorts_s k s _) hf)
  · refine ⟨[], r, ?_, ?_, by simp, fun x hx => (by cases hx)⟩
    · unfold infer_Sorts.f
      exact Ev.ifp hw (Ev.of (fun k => fsorts_s k s _) (fsorts_err hr hz 0))
    · unfold virgationref04_Sorts.f
      refine Ev.bind he ?_
      exact Ev.ifn hz (Ev.now _)
theorem pure_InferSorts : ∀ (x0 : (List S59)) (x1 : (List S56)), (x0.length ≤ 9223372036854775807 ∧ (∀ y_, y_ ∈ x0 → wf59 y_)) → (x1.length ≤ 9223372036854775807 ∧ (∀ y_, y_ ∈ x1 → wf56 y_)) → ∃ k, virgationlaw04_InferSorts.f k x0 x1 = some true := by
  intro s l hs hl
  refine Ev.rounds ?_
  unfold virgationlaw04_InferSorts.f
  by_cases h1 : (l.length : Int) > 1000
  · exact Ev.ifp h1 (Ev.bind (Ev.now true) (Ev.now _))
  · refine Ev.ifn h1 ?_
    refine Ev.bind (given_ev l (by omega)) ?_
    obtain ⟨out, er, e1, e2, h3, h4⟩ := both_ev s l (looseWf_to48 hl.2) (by omega)
    refine Ev.bind e1 ?_
    refine Ev.bind e2 ?_
    refine Ev.ifp rfl ?_
    refine Ev.bind (same_ev4 out (by omega) h4) ?_
    exact Ev.ifp rfl (Ev.bind (Ev.now true) (Ev.now _))
end Go.Proofs.Ytfhgoebgnilfaaa.I
