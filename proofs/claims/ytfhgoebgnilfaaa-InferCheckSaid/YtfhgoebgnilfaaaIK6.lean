/- Contract of finder.term, by hand. -/
import Derived.Test.YtfhgoebgnilfaaaIK5
import Derived.Test.YtfhgoebgnilfaaaIH3
namespace Go.Proofs.Ytfhgoebgnilfaaa.I
open Go.RowKit Go.Proofs.YtfhgoebgnilfaaaW.PrintWords Go.Proofs.YtfhgoebgnilfaaaW.PrintLast Go.Proofs.YtfhgoebgnilfaaaW.PrintMore
attribute [local go_sem] max2_int min2_int max_two min_two max_three min_three max_four min_four
set_option linter.unusedVariables false
set_option maxRecDepth 100000
set_option linter.unusedSimpArgs false
/-- What a finder knows: the places of o, of the functions and of the parameters; the symbols. -/
structure FE where
  o : Nat
  syms : List S59
  funs : List Nat
  params : List Nat
/-- The kind of a head. -/
def fhead (E : FE) (s : List KN) (kd n : Int) : Option (Nat × List KN) :=
  if n < 0 then none
  else if kd = 0 then (E.params[n.toNat]?).map (fun k => (k, s))
  else if kd = 1 then (E.funs[n.toNat]?).map (fun k => (k, s))
  else (E.syms[n.toNat]?).map (fun x => farrow s E.o (List.replicate x.f1.toNat E.o))
mutual
/-- The kind of a term; none inside: it has none. -/
def fterm (E : FE) : Nat → List KN → Int → Int → List S44 → Option (Option Nat × List KN)
  | 0, _, _, _, _ => none
  | f + 1, s, kd, n, l => match fhead E s kd n with
    | none => none
    | some (k, s1) => ftermL E f s1 k l
def ftermL (E : FE) : Nat → List KN → Nat → List S44 → Option (Option Nat × List KN)
  | 0, _, _, _ => none
  | f + 1, s, k, [] => some (some k, s)
  | f + 1, s, k, x :: xs => match fterm E f s x.f0 x.f1 x.f2 with
    | none => none
    | some (none, s1) => some (none, s1)
    | some (some xk, s1) => match fjoin f (s1 ++ [⟨none, false, none, none⟩] ++ [⟨none, false, some xk, some s1.length⟩]) k (s1.length + 1) with
      | none => none
      | some (false, s2) => some (none, s2)
      | some (true, s2) => ftermL E f s2 s1.length xs
end
/-- A finder lies in memory, away from the kinds. -/
structure Find (E : FE) (s : List KN) (ad : List Nat) (gf : Nat) (As : Option Addr) (cs : Nat) (w : World) : Prop where
  ex : ∃ Af cf Ap cp, w.heap[gf]? = some (.cells #[pk ad E.o, .slice As E.syms.length cs, .slice Af E.funs.length cf, .slice Ap E.params.length cp] 77 (0, 0)) ∧ Ptrs ad w Af E.funs ∧ Ptrs ad w Ap E.params ∧
    (∀ a, Af = some a → a.block ∉ ad ∧ a.block < w.heap.size) ∧ (∀ a, Ap = some a → a.block ∉ ad ∧ a.block < w.heap.size)
  away : gf ∉ ad
  o : E.o < s.length
theorem pk_app {ad e : List Nat} {i : Nat} (h : i < ad.length) : pk (ad ++ e) i = pk ad i := by unfold pk; rw [bk_app h]
theorem Ptrs.app {ad e : List Nat} {w : World} {A : Option Addr} {ps : List Nat} (h : Ptrs ad w A ps) : Ptrs (ad ++ e) w A ps := by
  refine ⟨h.1, fun p hp => by rw [List.length_append]; have := h.2.1 p hp; omega, fun h0 => ?_⟩
  obtain ⟨adr, ha, hc⟩ := h.2.2 h0
  exact ⟨adr, ha, fun j p hp => by rw [pk_app (h.2.1 p (List.mem_of_getElem? hp))]; exact hc j p hp⟩
theorem Ptrs.move {ad : List Nat} {w w1 : World} {A : Option Addr} {ps : List Nat} (h : Ptrs ad w A ps) (hm : ∀ a, A = some a → w1.heap[a.block]? = w.heap[a.block]?) : Ptrs ad w1 A ps := by
  refine ⟨h.1, h.2.1, fun h0 => ?_⟩
  obtain ⟨adr, ha, hc⟩ := h.2.2 h0
  refine ⟨adr, ha, fun j p hp => ?_⟩
  have := hc j p hp
  exact (World.cell?_of_block (by rw [show (adr.add j).block = adr.block from by unfold Addr.add; split <;> rfl]; exact hm adr ha)).trans this
theorem Find.move {E : FE} {s s1 : List KN} {ad e : List Nat} {gf : Nat} {As : Option Addr} {cs : Nat} {w w1 : World} (h : Find E s ad gf As cs w) (ht : Turned (fun k => k ∈ ad) w w1) (he : ∀ b, b ∈ e → w.heap.size ≤ b) (hs : s.length ≤ s1.length) (hl : ad.length = s.length) : Find E s1 (ad ++ e) gf As cs w1 := by
  obtain ⟨Af, cf, Ap, cp, h1, h2, h3, h4, h5⟩ := h.ex
  have hgf := blk_lt h1
  have no : ∀ b, b ∉ ad → b < w.heap.size → b ∉ ad ++ e := fun b hb hlt hm => by
    rcases List.mem_append.1 hm with hm | hm
    · exact hb hm
    · have := he b hm; omega
  refine ⟨⟨Af, cf, Ap, cp, ?_, Ptrs.app (Ptrs.move h2 (fun a ha => ht.block _ (h4 a ha).2 (h4 a ha).1)), Ptrs.app (Ptrs.move h3 (fun a ha => ht.block _ (h5 a ha).2 (h5 a ha).1)), fun a ha => ⟨no _ (h4 a ha).1 (h4 a ha).2, Nat.lt_of_lt_of_le (h4 a ha).2 ht.size⟩, fun a ha => ⟨no _ (h5 a ha).1 (h5 a ha).2, Nat.lt_of_lt_of_le (h5 a ha).2 ht.size⟩⟩, no _ h.away hgf, Nat.lt_of_lt_of_le h.o hs⟩
  rw [pk_app (by rw [hl]; exact h.o)]
  exact (ht.block gf hgf h.away).trans h1
set_option maxHeartbeats 8000000 in
/-- The head alone: a variable. -/
theorem term_calls (B : Nat) (E : FE) (gf : Nat) (hrk : ∀ x, x ∈ E.syms → x.f1 ≤ 1000000) (f : Nat) : ∀ (s : List KN) (ad : List Nat) (kd n : Int) (l : List S44) (A : Option Addr) (c : Nat) (r : Option Nat) (s' : List KN) (w0 w : World)
    (hH : Held B s ad w) (As : Option Addr) (cs : Nat) (hF : Find E s ad gf As cs w) (hS : Kd.C k59 w0 As E.syms.length E.syms) (hB : B ≤ w.heap.size) (hw0 : w0.heap.size ≤ B) (hr : Kd.C k44 w0 A l.length l) (hc : l.length ≤ c) (hb : Below w0.heap.size w0 w) (h : fterm E f s kd n l = some (r, s')),
    Calls Try.prog 38 #[.pointer (some ⟨gf, 0, none⟩), .agg #[.int .i64 kd, .int .i64 n, .slice A l.length c]] w fun e w' => ∃ e1 v, e = .returned (.tuple #[v, .bool r.isSome]) ∧ (∀ k, r = some k → v = pk (ad ++ e1) k ∧ k < s'.length) ∧ (r = none → v = .pointer none) ∧ Held B s' (ad ++ e1) w' ∧ Turned (fun k => k ∈ ad) w w' ∧ (∀ b, b ∈ e1 → w.heap.size ≤ b) := by
  induction f using Nat.strongRecOn with
  | _ f ih =>
  intro s ad kd n l A c r s' w0 w hH As cs hF hS hB hw0 hr hc hb h
  have hu44 := Try.underlying44
  have hu77 := Try.underlying77
  have hu74 := Try.underlying74
  have hu59 := Try.underlying59
  cases f with
  | zero => exact absurd h (by simp [fterm])
  | succ f =>
  unfold fterm at h
  cases hh : fhead E s kd n with
  | none => rw [hh] at h; cases h
  | some q =>
  obtain ⟨k, s1⟩ := q
  rw [hh] at h
  simp only at h
  unfold fhead at hh
  by_cases hn0 : n < 0
  · rw [if_pos hn0] at hh; cases hh
  rw [if_neg hn0] at hh
  obtain ⟨Af, cf, Ap, cp, hfin, hPf, hPp, haF, haP⟩ := hF.ex
  have HH := Aside0.mk hH
  have HFi := Aside0.mk hF
  have HR := Aside0.mk hr
  have HC := Aside0.mk hc
  have HB := Aside0.mk hb
  have IH := Aside0.mk ih
  have HT := Aside0.mk h
  have Hfin := Aside0.mk hfin
  have HPp := Aside0.mk hPp
  have HPf := Aside0.mk hPf
  have HCs := Aside0.mk hS
  clear hr hc hb ih h hH hF hPf hS haF haP hPp
  by_cases hk0 : kd = 0
  · rw [if_pos hk0] at hh
    obtain ⟨p, hp, hpe⟩ := Option.map_eq_some_iff.1 hh
    injection hpe with e1 e2
    subst e1 e2
    have hkb : (kd == 0) = true := beq_iff_eq.2 hk0
    have hpl : n.toNat < E.params.length := (List.getElem?_eq_some_iff.1 hp).1
    obtain ⟨adr, hadr, hcel⟩ := HPp.out.2.2 (by omega)
    subst hadr
    have hx := hcel n.toNat p hp
    have p1 : (0 ≤ n) = True := eq_true (by omega)
    have p2 : (n < (E.params.length : Int)) = True := eq_true (by omega)
    have Hp := Aside0.mk hp
    clear hh hcel hp hfin
    go_enter Try.func38, Try.ntmps38
    go_wp2_with (
      (with_reducible refine gate_dst (N := 3) rfl ?_)
      refine box_event ?hg (N := 3) ?hd (cs := #[.int .i64 kd, .int .i64 n, .slice A l.length c]) (t := 44) ?hr ?_
      (case hd => rfl)
      (case hg => rfl)
      (case hr => first | (go_simp; done) | (go_simp; rfl))
      intro g3 hg3 w2 hbox hb2
      have S3 := Aside0.mk hbox
      have Hb2 := Aside0.mk hb2
      have hc0 : w2.cell? ⟨g3, 0, none⟩ = some (.int .i64 kd) := (blk_cell hbox 0).trans rfl
      clear hbox hb2 hg3)
    have c1 : w2.cell? ⟨g3, 1, none⟩ = some (.int .i64 n) := (blk_cell S3.out 1).trans rfl
    have c2 : w2.cell? ⟨gf, 3, none⟩ = some (.slice (some adr) E.params.length cp) := (blk_cell (blk_below Hfin.out Hb2.out) 3).trans rfl
    have c3 : w2.cell? (adr.add n.toNat) = some (pk ad p) := (Hb2.out.cell (World.block_lt_of_cell? w _ hx)).trans hx
    go_region_held3 (fun w' => w'.cell? ⟨g3, 1, none⟩ = some (.int .i64 n) ∧ w'.cell? ⟨gf, 3, none⟩ = some (.slice (some adr) E.params.length cp) ∧ w'.cell? (adr.add n.toNat) = some (pk ad p)) (go_keep) (fail)
    have HHq := Aside0.mk (Held.heap (Held.below HH.out Hb2.out) (w1 := w2.drew) rfl)
    have HTq := Aside0.mk (Turned.trans (Turned.of_below (ok := fun k => k ∈ ad) Hb2.out) (Turned.of_below (ok := fun k => k ∈ ad) (below_drew (Below.refl w2.heap.size w2))) (fun k hk _ => hk))
    have HBq := Aside0.mk (below_drew (below_step HB.out Hb2.out))
    have c5 : w2.drew.cell? ⟨g3, 2, none⟩ = some (.slice A l.length c) := (blk_cell (blk_drew S3.out) 2).trans rfl
    have hsl := HH.out
    have hpp := HPp.out.2.1 p (List.mem_of_getElem? Hp.out)
    have hplen : p < s.length := by have := HH.out.len; omega
    clear c1 c2 c3 hx hc0 hsl
    generalize w2.drew = wq at *
    go_wp2_with fail
    go_loopg [6, 60] f (fun kq v6 v60 wr => ∃ (i k : Nat) (s1 : List KN) (e1 : List Nat), v6 = pk (ad ++ e1) k ∧ v60 = .int .i64 (i : Int) ∧ Aside0 (kq ≤ f ∧ i ≤ l.length) ∧ Aside0 (ftermL E kq s1 k (l.drop i) = some (r, s')) ∧ Aside0 (Held B s1 (ad ++ e1) wr) ∧ Aside0 (k < s1.length ∧ s.length ≤ s1.length) ∧ Aside0 (Turned (fun k => k ∈ ad) w wr) ∧ Aside0 (∀ b, b ∈ e1 → w.heap.size ≤ b) ∧ Aside0 (Below w0.heap.size w0 wr))
    case atStart => exact ⟨0, p, s, [], by rw [List.append_nil], rfl, ⟨Nat.le_refl _, Nat.zero_le _⟩, HT, ⟨by rw [List.append_nil]; exact HHq.out⟩, ⟨hplen, Nat.le_refl _⟩, HTq, ⟨by intro b hb; cases hb⟩, HBq⟩
    case round =>
      clear HHq HTq HBq c5
      obtain ⟨i, k, s1, e1, rfl, rfl, Hi, HM, H1, Hk, HT1, HE1, HB1⟩ := hrel
      have hm := HM.out
      have hi := Hi.out.2
      by_cases hlt : i < l.length
      · have Hlt := Aside0.mk hlt
        have hdrop := rd_T44_drop l i hlt
        obtain ⟨ad0, A1, c1, he, hx1, hx2, hx3, hl1, hi1⟩ := at_T44 HR.out (i : Int) (by omega) (by omega)
        cases he
        replace hx1 := (HB1.out.cell (World.block_lt_of_cell? w0 _ hx1)).trans hx1
        replace hx2 := (HB1.out.cell (World.block_lt_of_cell? w0 _ hx2)).trans hx2
        replace hx3 := (HB1.out.cell (World.block_lt_of_cell? w0 _ hx3)).trans hx3
        rw [Int.toNat_natCast] at hx1 hx2 hx3
        have Hl1 := Aside0.mk hl1
        have Hi1 := Aside0.mk hi1
        clear hl1 hi1
        have p1 : (0 ≤ (i : Int)) = True := eq_true (by omega)
        have p2 : ((i : Int) < (l.length : Int)) = True := eq_true (by omega)
        have p3 : (i < l.length) = True := eq_true (by omega)
        rw [hdrop] at hm
        generalize hx : rd_T44 l (i : Int) = x at *
        cases gk with
        | zero => exact absurd hm (by simp [ftermL])
        | succ k1 =>
        unfold ftermL at hm
        cases hft : fterm E k1 s1 x.f0 x.f1 x.f2 with
        | none => rw [hft] at hm; cases hm
        | some q =>
        obtain ⟨r2, s2⟩ := q
        rw [hft] at hm
        have HFT := Aside0.mk hft
        have HMM := Aside0.mk hm
        clear hx hdrop hft hm HM
        go_wp2_with (
          (with_reducible refine gate_dst (N := 9) rfl ?_)
          refine box_event ?hg (N := 9) ?hd (cs := #[.int .i64 0, .int .i64 0, .slice none 0 0]) (t := 44) ?hr ?_
          (case hd => rfl)
          (case hg => rfl)
          (case hr => first | (go_simp; done) | (go_simp; rfl))
          intro gi hgi w3 hbox3 hb3
          have hsz := below_size HB1.out
          have hgiw : w0.heap.size ≤ gi := by omega
          have hgr : wr.heap.size ≤ gi := by omega
          have hbw := below_set (g := gi) (j := 2) (v := .slice A1 x.f2.length c1) (below_set (g := gi) (j := 1) (v := .int .i64 x.f1) (below_set (g := gi) (j := 0) (v := .int .i64 x.f0) hb3 hgr) hgr) hgr
          have HB3 := Aside0.mk (below_step HB1.out hbw)
          have H3 := Aside0.mk (Held.below H1.out hbw)
          have HT3 := Aside0.mk (Turned.trans HT1.out (Turned.of_below (ok := fun k => k ∈ ad) hbw) (fun k hk _ => hk))
          have Hgi := Aside0.mk (blk_put (cs' := #[.int .i64 x.f0, .int .i64 x.f1, .slice A1 x.f2.length c1]) (blk_put (cs' := #[.int .i64 x.f0, .int .i64 x.f1, .slice none 0 0]) (blk_put (cs' := #[.int .i64 x.f0, .int .i64 0, .slice none 0 0]) hbox3 0 (.int .i64 x.f0) rfl) 1 (.int .i64 x.f1) rfl) 2 (.slice A1 x.f2.length c1) rfl)
          have hci0 : (((w3.setCell ⟨gi, 0, none⟩ (.int .i64 x.f0)).setCell ⟨gi, 1, none⟩ (.int .i64 x.f1)).setCell ⟨gi, 2, none⟩ (.slice A1 x.f2.length c1)).cell? ⟨gi, 0, none⟩ = some (.int .i64 x.f0) := (blk_cell Hgi.out 0).trans rfl
          have hci1 : (((w3.setCell ⟨gi, 0, none⟩ (.int .i64 x.f0)).setCell ⟨gi, 1, none⟩ (.int .i64 x.f1)).setCell ⟨gi, 2, none⟩ (.slice A1 x.f2.length c1)).cell? ⟨gi, 1, none⟩ = some (.int .i64 x.f1) := (blk_cell Hgi.out 1).trans rfl
          have hci2 : (((w3.setCell ⟨gi, 0, none⟩ (.int .i64 x.f0)).setCell ⟨gi, 1, none⟩ (.int .i64 x.f1)).setCell ⟨gi, 2, none⟩ (.slice A1 x.f2.length c1)).cell? ⟨gi, 2, none⟩ = some (.slice A1 x.f2.length c1) := (blk_cell Hgi.out 2).trans rfl
          have hcz0 := (blk_cell hbox3 0).trans rfl
          have hcz1 := (blk_cell hbox3 1).trans rfl
          have hcz2 := (blk_cell hbox3 2).trans rfl
          have hfz0 := blk_frozen hbox3 0
          have hfz1 := blk_frozen hbox3 1
          have hfz2 := blk_frozen hbox3 2
          clear hbox3 hb3 hsz hgi hgr hbw HB1 H1 HT1)
        have hF3 := Find.move HFi.out HT3.out HE1.out Hk.out.2 HH.out.len
        (with_reducible refine (IH.out k1 (by have := Hi.out.1; omega) s1 (ad ++ e1) x.f0 x.f1 x.f2 A1 c1 r2 s2 w0 _ H3.out _ cs hF3 HCs.out (Nat.le_trans hB HT3.out.size) hw0 Hi1.out Hl1.out HB3.out HFT.out).mono ?_)
        rintro e w4 ⟨e2, v, rfl, hv1, hv2, h4, t4, he2⟩
        have hszW := HT3.out.size
        have HT4 := Aside0.mk (Turned.trans HT3.out t4 (fun k hk hlt => by rcases List.mem_append.1 hk with hk | hk; exact hk; have := HE1.out k hk; omega))
        have HE4 := Aside0.mk (show ∀ b, b ∈ e1 ++ e2 → w.heap.size ≤ b from fun b hb => by rcases List.mem_append.1 hb with hb | hb; exact HE1.out b hb; have := he2 b hb; omega)
        have HB4 := Aside0.mk (Turned.below t4 HB3.out HB3.out.size (fun k hk => Nat.le_trans hw0 (H3.out.ge k hk)))
        have h4' : Held B s2 (ad ++ (e1 ++ e2)) w4 := by rw [← List.append_assoc]; exact h4
        have H4 := Aside0.mk h4'
        have hl1 := H3.out.len
        have hl2 := h4.len
        have hlen2 : s1.length ≤ s2.length := by rw [← hl1, ← hl2, show (ad ++ e1 ++ e2).length = (ad ++ e1).length + e2.length from List.length_append]; omega
        have Hlen := Aside0.mk hlen2
        have HKK := Aside0.mk (show pk (ad ++ e1) k = pk (ad ++ (e1 ++ e2)) k from by rw [← List.append_assoc]; exact (pk_app (ad := ad ++ e1) (e := e2) (by rw [hl1]; exact Hk.out.1)).symm)
        have hmm2 := HMM.out
        clear hci0 hci1 hci2 hcz0 hcz1 hcz2 hfz0 hfz1 hfz2 t4 he2 h4 h4' hl1 hl2 hF3 HT3 HB3 H3 Hgi hlen2 HMM hszW
        cases r2 with
        | none =>
          injection hmm2 with e
          injection e with ea eb
          subst ea eb
          have hv := hv2 rfl
          subst hv
          clear hv1 hv2
          go_wp2_with fail
          go_ret2
          first | exact ⟨e1 ++ e2, _, rfl, rfl, H4.out, HT4.out, HE4.out⟩ | exact ⟨e1 ++ e2, _, rfl, (fun k hk => by cases hk), fun _ => rfl, H4.out, HT4.out, HE4.out⟩
        | some xk =>
          simp only at hmm2
          obtain ⟨hve, hxl⟩ := hv1 xk rfl
          rw [List.append_assoc] at hve
          subst hve
          cases hj : fjoin k1 (s2 ++ [⟨none, false, none, none⟩] ++ [⟨none, false, some xk, some s2.length⟩]) k (s2.length + 1) with
          | none => rw [hj] at hmm2; cases hmm2
          | some q =>
          obtain ⟨rj, s3⟩ := q
          rw [hj] at hmm2
          have HJ := Aside0.mk hj
          have HM3 := Aside0.mk hmm2
          have Hxl := Aside0.mk hxl
          clear hj hmm2 hv1 hv2 hxl
          go_wp2_with (first
           | ((with_reducible refine gate_dst (N := 73) rfl ?_)
              refine box_event ?hg (N := 73) ?hd (cs := #[.pointer none, .bool false, .pointer none, .pointer none]) (t := 74) ?hr ?_
              (case hd => rfl)
              (case hg => rfl)
              (case hr => first | (go_simp; done) | (go_simp; rfl))
              intro g5 hg5 w5 hbox hb5
              have H5 := Aside0.mk (Held.push (n := ⟨none, false, none, none⟩) H4.out hb5 (Nat.le_of_eq hg5.symm) (Nat.le_trans hB HT4.out.size) ⟨(by intro j hj; cases hj), (by intro j hj; cases hj), (by intro j hj; cases hj)⟩ hbox)
              have HT5 := Aside0.mk (Turned.trans HT4.out (Turned.of_below (ok := fun k => k ∈ ad) hb5) (fun k hk _ => hk))
              have HB5 := Aside0.mk (below_step HB4.out hb5)
              have hge5 : w.heap.size ≤ g5 := by have := HT4.out.size; omega
              have Hb5 := Aside0.mk (bk_new (g := g5) H4.out.len)
              clear hbox hb5 hg5)
           | fail)
          have hb6 := below_alloc (Below.refl w5.heap.size w5) (.cells #[.pointer none, .bool false, pk (ad ++ (e1 ++ e2)) xk, .pointer (some ⟨g5, 0, none⟩)] 74 (0, 0))
          have hbox6 := blk_new w5 (.cells #[.pointer none, .bool false, pk (ad ++ (e1 ++ e2)) xk, .pointer (some ⟨g5, 0, none⟩)] 74 (0, 0))
          have H6 := Aside0.mk (Held.push (n := ⟨none, false, some xk, some s2.length⟩) H5.out hb6 (Nat.le_refl _) (Nat.le_trans hB HT5.out.size) ⟨(by intro j hj; cases hj), (by intro j hj; injection hj with hj; rw [List.length_append]; have := Hxl.out; omega), (by intro j hj; injection hj with hj; rw [List.length_append]; simp only [List.length_cons, List.length_nil]; omega)⟩ (by rw [hbox6]; unfold kcells; show _ = some (Obj.cells #[.pointer none, .bool false, pk (ad ++ (e1 ++ e2) ++ [g5]) xk, pk (ad ++ (e1 ++ e2) ++ [g5]) s2.length] 74 (0, 0)); rw [pk_app (ad := ad ++ (e1 ++ e2)) (e := [g5]) (by rw [H4.out.len]; exact Hxl.out)]; unfold pk; rw [Hb5.out]))
          have HT6 := Aside0.mk (Turned.trans HT5.out (Turned.of_below (ok := fun k => k ∈ ad) hb6) (fun k hk _ => hk))
          have HB6 := Aside0.mk (below_step HB5.out hb6)
          have hge6 : w.heap.size ≤ w5.heap.size := HT5.out.size
          have Hb6 := Aside0.mk (bk_new (g := w5.heap.size) H5.out.len)
          have hargs : #[pk (ad ++ e1) k, Value.pointer (some ⟨w5.heap.size, 0, none⟩)] = #[pk (ad ++ (e1 ++ e2) ++ [g5] ++ [w5.heap.size]) k, pk (ad ++ (e1 ++ e2) ++ [g5] ++ [w5.heap.size]) (s2.length + 1)] := by
            have hkl : k < s2.length := by have := Hk.out.1; have := Hlen.out; omega
            have e1' : pk (ad ++ (e1 ++ e2) ++ [g5] ++ [w5.heap.size]) k = pk (ad ++ e1) k := by
              rw [pk_app (ad := ad ++ (e1 ++ e2) ++ [g5]) (e := [w5.heap.size]) (by rw [H5.out.len, List.length_append]; omega), pk_app (ad := ad ++ (e1 ++ e2)) (e := [g5]) (by rw [H4.out.len]; exact hkl), HKK.out]
            have e2' : pk (ad ++ (e1 ++ e2) ++ [g5] ++ [w5.heap.size]) (s2.length + 1) = .pointer (some ⟨w5.heap.size, 0, none⟩) := by
              have := Hb6.out
              rw [List.length_append] at this
              unfold pk
              rw [show s2.length + 1 = s2.length + [(⟨none, false, none, none⟩ : KN)].length from rfl, this]
            rw [e1', e2']
          refine Calls.mono (calls_of_args hargs (join_calls B (ad ++ (e1 ++ e2) ++ [g5] ++ [w5.heap.size]) k1 _ k (s2.length + 1) rj s3 _ H6.out HJ.out)) ?_
          rintro e w7 ⟨rfl, h7, t7⟩
          have hszX := HB6.out.size
          have happ : ad ++ (e1 ++ e2) ++ [g5] ++ [w5.heap.size] = ad ++ (e1 ++ e2 ++ [g5] ++ [w5.heap.size]) := by simp [List.append_assoc]
          have HE7 := Aside0.mk (show ∀ b, b ∈ e1 ++ e2 ++ [g5] ++ [w5.heap.size] → w.heap.size ≤ b from fun b hb => by
            rcases List.mem_append.1 hb with hb | hb
            · rcases List.mem_append.1 hb with hb | hb
              · exact HE4.out b hb
              · rw [List.mem_singleton] at hb; omega
            · rw [List.mem_singleton] at hb; omega)
          have HT7 := Aside0.mk (Turned.trans HT6.out t7 (fun k hk hlt => by
            rw [happ] at hk
            rcases List.mem_append.1 hk with hk | hk
            · exact hk
            · have := HE7.out k hk; omega))
          have HB7 := Aside0.mk (Turned.below t7 HB6.out HB6.out.size (fun k hk => Nat.le_trans hw0 (H6.out.ge k hk)))
          have hl7 := h7.len
          have hl6 := H6.out.len
          have hg5l : pk (ad ++ (e1 ++ e2) ++ [g5] ++ [w5.heap.size]) s2.length = .pointer (some ⟨g5, 0, none⟩) := by
            rw [pk_app (ad := ad ++ (e1 ++ e2) ++ [g5]) (e := [w5.heap.size]) (by rw [H5.out.len, List.length_append]; simp)]
            unfold pk
            rw [Hb5.out]
          rw [happ] at h7 hl7 hg5l
          have H7 := Aside0.mk h7
          have HG7 := Aside0.mk hg5l
          have Hl7 := Aside0.mk (show s2.length < s3.length ∧ s.length ≤ s3.length from by
            have e := hl6.symm.trans (by rw [happ] : _)
            rw [happ] at hl6
            rw [← hl7, hl6, List.length_append, List.length_append]
            have := Hlen.out; have := Hk.out.2
            simp only [List.length_cons, List.length_nil]
            omega)
          have hm3 := HM3.out
          clear h7 t7 hl7 hl6 hg5l hargs happ hb6 hbox6 hge5 hge6 hszX H4 H5 H6 HT4 HT5 HT6 HB4 HB5 HB6 HE4 HM3
          cases rj with
          | false =>
            injection hm3 with e
            injection e with ea eb
            subst ea eb
            go_wp2_with fail
            go_ret2
            first | exact ⟨_, _, rfl, rfl, H7.out, HT7.out, HE7.out⟩ | exact ⟨_, _, rfl, (fun k hk => by cases hk), fun _ => rfl, H7.out, HT7.out, HE7.out⟩
          | true =>
            simp only at hm3
            have HM4 := Aside0.mk hm3
            clear hm3
            go_wp2_with fail
            go_roundg k1
            case measure => omega
            case rel => exact ⟨i + 1, s2.length, s3, _, HG7.out.symm, (by
              have h1 := Hlt.out
              have h2 := HR.out.2.1
              exact congrArg (Value.int .i64) (by unfold wrap64; omega)), ⟨by have := Hi.out.1; omega, Hlt.out⟩, HM4, H7, ⟨Hl7.out.1, Hl7.out.2⟩, HT7, HE7, HB7⟩
      · have hie : i = l.length := by omega
        rw [hie, List.drop_length] at hm
        cases gk with
        | zero => exact absurd hm (by simp [ftermL])
        | succ k1 =>
        unfold ftermL at hm
        injection hm with e
        injection e with ea eb
        subst ea eb
        clear hie
        go_wp2_with fail
        go_ret2
        first | exact ⟨e1, _, rfl, ⟨rfl, Hk.out.1⟩, H1.out, HT1.out, HE1.out⟩ | exact ⟨e1, _, rfl, (fun k hk => by injection hk with hk; subst hk; exact ⟨rfl, Hk.out.1⟩), (fun hk => by cases hk), H1.out, HT1.out, HE1.out⟩
  rw [if_neg hk0] at hh
  by_cases hk1 : kd = 1
  · rw [if_pos hk1] at hh
    obtain ⟨p, hp, hpe⟩ := Option.map_eq_some_iff.1 hh
    injection hpe with e1 e2
    subst e1 e2
    have hkb0 : (kd == 0) = false := beq_eq_false_iff_ne.2 hk0
    have hkb : (kd == 1) = true := beq_iff_eq.2 hk1
    have hpl : n.toNat < E.funs.length := (List.getElem?_eq_some_iff.1 hp).1
    obtain ⟨adr, hadr, hcel⟩ := HPf.out.2.2 (by omega)
    subst hadr
    have hx := hcel n.toNat p hp
    have p1 : (0 ≤ n) = True := eq_true (by omega)
    have p2 : (n < (E.funs.length : Int)) = True := eq_true (by omega)
    have Hp := Aside0.mk hp
    clear hh hcel hp hfin
    go_enter Try.func38, Try.ntmps38
    go_wp2_with (
      (with_reducible refine gate_dst (N := 3) rfl ?_)
      refine box_event ?hg (N := 3) ?hd (cs := #[.int .i64 kd, .int .i64 n, .slice A l.length c]) (t := 44) ?hr ?_
      (case hd => rfl)
      (case hg => rfl)
      (case hr => first | (go_simp; done) | (go_simp; rfl))
      intro g3 hg3 w2 hbox hb2
      have S3 := Aside0.mk hbox
      have Hb2 := Aside0.mk hb2
      have hc0 : w2.cell? ⟨g3, 0, none⟩ = some (.int .i64 kd) := (blk_cell hbox 0).trans rfl
      clear hbox hb2 hg3)
    have c1 : w2.cell? ⟨g3, 1, none⟩ = some (.int .i64 n) := (blk_cell S3.out 1).trans rfl
    have c2 : w2.cell? ⟨gf, 2, none⟩ = some (.slice (some adr) E.funs.length cf) := (blk_cell (blk_below Hfin.out Hb2.out) 2).trans rfl
    have c3 : w2.cell? (adr.add n.toNat) = some (pk ad p) := (Hb2.out.cell (World.block_lt_of_cell? w _ hx)).trans hx
    go_region_held3 (fun w' => w'.cell? ⟨g3, 1, none⟩ = some (.int .i64 n) ∧ w'.cell? ⟨gf, 2, none⟩ = some (.slice (some adr) E.funs.length cf) ∧ w'.cell? (adr.add n.toNat) = some (pk ad p)) (go_keep) (fail)
    have HHq := Aside0.mk (Held.heap (Held.below HH.out Hb2.out) (w1 := w2.drew) rfl)
    have HTq := Aside0.mk (Turned.trans (Turned.of_below (ok := fun k => k ∈ ad) Hb2.out) (Turned.of_below (ok := fun k => k ∈ ad) (below_drew (Below.refl w2.heap.size w2))) (fun k hk _ => hk))
    have HBq := Aside0.mk (below_drew (below_step HB.out Hb2.out))
    have c5 : w2.drew.cell? ⟨g3, 2, none⟩ = some (.slice A l.length c) := (blk_cell (blk_drew S3.out) 2).trans rfl
    have hsl := HH.out
    have hpp := HPf.out.2.1 p (List.mem_of_getElem? Hp.out)
    have hplen : p < s.length := by have := HH.out.len; omega
    clear c1 c2 c3 hx hc0 hsl
    generalize w2.drew = wq at *
    go_wp2_with fail
    go_loopg [6, 60] f (fun kq v6 v60 wr => ∃ (i k : Nat) (s1 : List KN) (e1 : List Nat), v6 = pk (ad ++ e1) k ∧ v60 = .int .i64 (i : Int) ∧ Aside0 (kq ≤ f ∧ i ≤ l.length) ∧ Aside0 (ftermL E kq s1 k (l.drop i) = some (r, s')) ∧ Aside0 (Held B s1 (ad ++ e1) wr) ∧ Aside0 (k < s1.length ∧ s.length ≤ s1.length) ∧ Aside0 (Turned (fun k => k ∈ ad) w wr) ∧ Aside0 (∀ b, b ∈ e1 → w.heap.size ≤ b) ∧ Aside0 (Below w0.heap.size w0 wr))
    case atStart => exact ⟨0, p, s, [], by rw [List.append_nil], rfl, ⟨Nat.le_refl _, Nat.zero_le _⟩, HT, ⟨by rw [List.append_nil]; exact HHq.out⟩, ⟨hplen, Nat.le_refl _⟩, HTq, ⟨by intro b hb; cases hb⟩, HBq⟩
    case round =>
      clear HHq HTq HBq c5
      obtain ⟨i, k, s1, e1, rfl, rfl, Hi, HM, H1, Hk, HT1, HE1, HB1⟩ := hrel
      have hm := HM.out
      have hi := Hi.out.2
      by_cases hlt : i < l.length
      · have Hlt := Aside0.mk hlt
        have hdrop := rd_T44_drop l i hlt
        obtain ⟨ad0, A1, c1, he, hx1, hx2, hx3, hl1, hi1⟩ := at_T44 HR.out (i : Int) (by omega) (by omega)
        cases he
        replace hx1 := (HB1.out.cell (World.block_lt_of_cell? w0 _ hx1)).trans hx1
        replace hx2 := (HB1.out.cell (World.block_lt_of_cell? w0 _ hx2)).trans hx2
        replace hx3 := (HB1.out.cell (World.block_lt_of_cell? w0 _ hx3)).trans hx3
        rw [Int.toNat_natCast] at hx1 hx2 hx3
        have Hl1 := Aside0.mk hl1
        have Hi1 := Aside0.mk hi1
        clear hl1 hi1
        have p1 : (0 ≤ (i : Int)) = True := eq_true (by omega)
        have p2 : ((i : Int) < (l.length : Int)) = True := eq_true (by omega)
        have p3 : (i < l.length) = True := eq_true (by omega)
        rw [hdrop] at hm
        generalize hx : rd_T44 l (i : Int) = x at *
        cases gk with
        | zero => exact absurd hm (by simp [ftermL])
        | succ k1 =>
        unfold ftermL at hm
        cases hft : fterm E k1 s1 x.f0 x.f1 x.f2 with
        | none => rw [hft] at hm; cases hm
        | some q =>
        obtain ⟨r2, s2⟩ := q
        rw [hft] at hm
        have HFT := Aside0.mk hft
        have HMM := Aside0.mk hm
        clear hx hdrop hft hm HM
        go_wp2_with (
          (with_reducible refine gate_dst (N := 9) rfl ?_)
          refine box_event ?hg (N := 9) ?hd (cs := #[.int .i64 0, .int .i64 0, .slice none 0 0]) (t := 44) ?hr ?_
          (case hd => rfl)
          (case hg => rfl)
          (case hr => first | (go_simp; done) | (go_simp; rfl))
          intro gi hgi w3 hbox3 hb3
          have hsz := below_size HB1.out
          have hgiw : w0.heap.size ≤ gi := by omega
          have hgr : wr.heap.size ≤ gi := by omega
          have hbw := below_set (g := gi) (j := 2) (v := .slice A1 x.f2.length c1) (below_set (g := gi) (j := 1) (v := .int .i64 x.f1) (below_set (g := gi) (j := 0) (v := .int .i64 x.f0) hb3 hgr) hgr) hgr
          have HB3 := Aside0.mk (below_step HB1.out hbw)
          have H3 := Aside0.mk (Held.below H1.out hbw)
          have HT3 := Aside0.mk (Turned.trans HT1.out (Turned.of_below (ok := fun k => k ∈ ad) hbw) (fun k hk _ => hk))
          have Hgi := Aside0.mk (blk_put (cs' := #[.int .i64 x.f0, .int .i64 x.f1, .slice A1 x.f2.length c1]) (blk_put (cs' := #[.int .i64 x.f0, .int .i64 x.f1, .slice none 0 0]) (blk_put (cs' := #[.int .i64 x.f0, .int .i64 0, .slice none 0 0]) hbox3 0 (.int .i64 x.f0) rfl) 1 (.int .i64 x.f1) rfl) 2 (.slice A1 x.f2.length c1) rfl)
          have hci0 : (((w3.setCell ⟨gi, 0, none⟩ (.int .i64 x.f0)).setCell ⟨gi, 1, none⟩ (.int .i64 x.f1)).setCell ⟨gi, 2, none⟩ (.slice A1 x.f2.length c1)).cell? ⟨gi, 0, none⟩ = some (.int .i64 x.f0) := (blk_cell Hgi.out 0).trans rfl
          have hci1 : (((w3.setCell ⟨gi, 0, none⟩ (.int .i64 x.f0)).setCell ⟨gi, 1, none⟩ (.int .i64 x.f1)).setCell ⟨gi, 2, none⟩ (.slice A1 x.f2.length c1)).cell? ⟨gi, 1, none⟩ = some (.int .i64 x.f1) := (blk_cell Hgi.out 1).trans rfl
          have hci2 : (((w3.setCell ⟨gi, 0, none⟩ (.int .i64 x.f0)).setCell ⟨gi, 1, none⟩ (.int .i64 x.f1)).setCell ⟨gi, 2, none⟩ (.slice A1 x.f2.length c1)).cell? ⟨gi, 2, none⟩ = some (.slice A1 x.f2.length c1) := (blk_cell Hgi.out 2).trans rfl
          have hcz0 := (blk_cell hbox3 0).trans rfl
          have hcz1 := (blk_cell hbox3 1).trans rfl
          have hcz2 := (blk_cell hbox3 2).trans rfl
          have hfz0 := blk_frozen hbox3 0
          have hfz1 := blk_frozen hbox3 1
          have hfz2 := blk_frozen hbox3 2
          clear hbox3 hb3 hsz hgi hgr hbw HB1 H1 HT1)
        have hF3 := Find.move HFi.out HT3.out HE1.out Hk.out.2 HH.out.len
        (with_reducible refine (IH.out k1 (by have := Hi.out.1; omega) s1 (ad ++ e1) x.f0 x.f1 x.f2 A1 c1 r2 s2 w0 _ H3.out _ cs hF3 HCs.out (Nat.le_trans hB HT3.out.size) hw0 Hi1.out Hl1.out HB3.out HFT.out).mono ?_)
        rintro e w4 ⟨e2, v, rfl, hv1, hv2, h4, t4, he2⟩
        have hszW := HT3.out.size
        have HT4 := Aside0.mk (Turned.trans HT3.out t4 (fun k hk hlt => by rcases List.mem_append.1 hk with hk | hk; exact hk; have := HE1.out k hk; omega))
        have HE4 := Aside0.mk (show ∀ b, b ∈ e1 ++ e2 → w.heap.size ≤ b from fun b hb => by rcases List.mem_append.1 hb with hb | hb; exact HE1.out b hb; have := he2 b hb; omega)
        have HB4 := Aside0.mk (Turned.below t4 HB3.out HB3.out.size (fun k hk => Nat.le_trans hw0 (H3.out.ge k hk)))
        have h4' : Held B s2 (ad ++ (e1 ++ e2)) w4 := by rw [← List.append_assoc]; exact h4
        have H4 := Aside0.mk h4'
        have hl1 := H3.out.len
        have hl2 := h4.len
        have hlen2 : s1.length ≤ s2.length := by rw [← hl1, ← hl2, show (ad ++ e1 ++ e2).length = (ad ++ e1).length + e2.length from List.length_append]; omega
        have Hlen := Aside0.mk hlen2
        have HKK := Aside0.mk (show pk (ad ++ e1) k = pk (ad ++ (e1 ++ e2)) k from by rw [← List.append_assoc]; exact (pk_app (ad := ad ++ e1) (e := e2) (by rw [hl1]; exact Hk.out.1)).symm)
        have hmm2 := HMM.out
        clear hci0 hci1 hci2 hcz0 hcz1 hcz2 hfz0 hfz1 hfz2 t4 he2 h4 h4' hl1 hl2 hF3 HT3 HB3 H3 Hgi hlen2 HMM hszW
        cases r2 with
        | none =>
          injection hmm2 with e
          injection e with ea eb
          subst ea eb
          have hv := hv2 rfl
          subst hv
          clear hv1 hv2
          go_wp2_with fail
          go_ret2
          first | exact ⟨e1 ++ e2, _, rfl, rfl, H4.out, HT4.out, HE4.out⟩ | exact ⟨e1 ++ e2, _, rfl, (fun k hk => by cases hk), fun _ => rfl, H4.out, HT4.out, HE4.out⟩
        | some xk =>
          simp only at hmm2
          obtain ⟨hve, hxl⟩ := hv1 xk rfl
          rw [List.append_assoc] at hve
          subst hve
          cases hj : fjoin k1 (s2 ++ [⟨none, false, none, none⟩] ++ [⟨none, false, some xk, some s2.length⟩]) k (s2.length + 1) with
          | none => rw [hj] at hmm2; cases hmm2
          | some q =>
          obtain ⟨rj, s3⟩ := q
          rw [hj] at hmm2
          have HJ := Aside0.mk hj
          have HM3 := Aside0.mk hmm2
          have Hxl := Aside0.mk hxl
          clear hj hmm2 hv1 hv2 hxl
          go_wp2_with (first
           | ((with_reducible refine gate_dst (N := 73) rfl ?_)
              refine box_event ?hg (N := 73) ?hd (cs := #[.pointer none, .bool false, .pointer none, .pointer none]) (t := 74) ?hr ?_
              (case hd => rfl)
              (case hg => rfl)
              (case hr => first | (go_simp; done) | (go_simp; rfl))
              intro g5 hg5 w5 hbox hb5
              have H5 := Aside0.mk (Held.push (n := ⟨none, false, none, none⟩) H4.out hb5 (Nat.le_of_eq hg5.symm) (Nat.le_trans hB HT4.out.size) ⟨(by intro j hj; cases hj), (by intro j hj; cases hj), (by intro j hj; cases hj)⟩ hbox)
              have HT5 := Aside0.mk (Turned.trans HT4.out (Turned.of_below (ok := fun k => k ∈ ad) hb5) (fun k hk _ => hk))
              have HB5 := Aside0.mk (below_step HB4.out hb5)
              have hge5 : w.heap.size ≤ g5 := by have := HT4.out.size; omega
              have Hb5 := Aside0.mk (bk_new (g := g5) H4.out.len)
              clear hbox hb5 hg5)
           | fail)
          have hb6 := below_alloc (Below.refl w5.heap.size w5) (.cells #[.pointer none, .bool false, pk (ad ++ (e1 ++ e2)) xk, .pointer (some ⟨g5, 0, none⟩)] 74 (0, 0))
          have hbox6 := blk_new w5 (.cells #[.pointer none, .bool false, pk (ad ++ (e1 ++ e2)) xk, .pointer (some ⟨g5, 0, none⟩)] 74 (0, 0))
          have H6 := Aside0.mk (Held.push (n := ⟨none, false, some xk, some s2.length⟩) H5.out hb6 (Nat.le_refl _) (Nat.le_trans hB HT5.out.size) ⟨(by intro j hj; cases hj), (by intro j hj; injection hj with hj; rw [List.length_append]; have := Hxl.out; omega), (by intro j hj; injection hj with hj; rw [List.length_append]; simp only [List.length_cons, List.length_nil]; omega)⟩ (by rw [hbox6]; unfold kcells; show _ = some (Obj.cells #[.pointer none, .bool false, pk (ad ++ (e1 ++ e2) ++ [g5]) xk, pk (ad ++ (e1 ++ e2) ++ [g5]) s2.length] 74 (0, 0)); rw [pk_app (ad := ad ++ (e1 ++ e2)) (e := [g5]) (by rw [H4.out.len]; exact Hxl.out)]; unfold pk; rw [Hb5.out]))
          have HT6 := Aside0.mk (Turned.trans HT5.out (Turned.of_below (ok := fun k => k ∈ ad) hb6) (fun k hk _ => hk))
          have HB6 := Aside0.mk (below_step HB5.out hb6)
          have hge6 : w.heap.size ≤ w5.heap.size := HT5.out.size
          have Hb6 := Aside0.mk (bk_new (g := w5.heap.size) H5.out.len)
          have hargs : #[pk (ad ++ e1) k, Value.pointer (some ⟨w5.heap.size, 0, none⟩)] = #[pk (ad ++ (e1 ++ e2) ++ [g5] ++ [w5.heap.size]) k, pk (ad ++ (e1 ++ e2) ++ [g5] ++ [w5.heap.size]) (s2.length + 1)] := by
            have hkl : k < s2.length := by have := Hk.out.1; have := Hlen.out; omega
            have e1' : pk (ad ++ (e1 ++ e2) ++ [g5] ++ [w5.heap.size]) k = pk (ad ++ e1) k := by
              rw [pk_app (ad := ad ++ (e1 ++ e2) ++ [g5]) (e := [w5.heap.size]) (by rw [H5.out.len, List.length_append]; omega), pk_app (ad := ad ++ (e1 ++ e2)) (e := [g5]) (by rw [H4.out.len]; exact hkl), HKK.out]
            have e2' : pk (ad ++ (e1 ++ e2) ++ [g5] ++ [w5.heap.size]) (s2.length + 1) = .pointer (some ⟨w5.heap.size, 0, none⟩) := by
              have := Hb6.out
              rw [List.length_append] at this
              unfold pk
              rw [show s2.length + 1 = s2.length + [(⟨none, false, none, none⟩ : KN)].length from rfl, this]
            rw [e1', e2']
          refine Calls.mono (calls_of_args hargs (join_calls B (ad ++ (e1 ++ e2) ++ [g5] ++ [w5.heap.size]) k1 _ k (s2.length + 1) rj s3 _ H6.out HJ.out)) ?_
          rintro e w7 ⟨rfl, h7, t7⟩
          have hszX := HB6.out.size
          have happ : ad ++ (e1 ++ e2) ++ [g5] ++ [w5.heap.size] = ad ++ (e1 ++ e2 ++ [g5] ++ [w5.heap.size]) := by simp [List.append_assoc]
          have HE7 := Aside0.mk (show ∀ b, b ∈ e1 ++ e2 ++ [g5] ++ [w5.heap.size] → w.heap.size ≤ b from fun b hb => by
            rcases List.mem_append.1 hb with hb | hb
            · rcases List.mem_append.1 hb with hb | hb
              · exact HE4.out b hb
              · rw [List.mem_singleton] at hb; omega
            · rw [List.mem_singleton] at hb; omega)
          have HT7 := Aside0.mk (Turned.trans HT6.out t7 (fun k hk hlt => by
            rw [happ] at hk
            rcases List.mem_append.1 hk with hk | hk
            · exact hk
            · have := HE7.out k hk; omega))
          have HB7 := Aside0.mk (Turned.below t7 HB6.out HB6.out.size (fun k hk => Nat.le_trans hw0 (H6.out.ge k hk)))
          have hl7 := h7.len
          have hl6 := H6.out.len
          have hg5l : pk (ad ++ (e1 ++ e2) ++ [g5] ++ [w5.heap.size]) s2.length = .pointer (some ⟨g5, 0, none⟩) := by
            rw [pk_app (ad := ad ++ (e1 ++ e2) ++ [g5]) (e := [w5.heap.size]) (by rw [H5.out.len, List.length_append]; simp)]
            unfold pk
            rw [Hb5.out]
          rw [happ] at h7 hl7 hg5l
          have H7 := Aside0.mk h7
          have HG7 := Aside0.mk hg5l
          have Hl7 := Aside0.mk (show s2.length < s3.length ∧ s.length ≤ s3.length from by
            have e := hl6.symm.trans (by rw [happ] : _)
            rw [happ] at hl6
            rw [← hl7, hl6, List.length_append, List.length_append]
            have := Hlen.out; have := Hk.out.2
            simp only [List.length_cons, List.length_nil]
            omega)
          have hm3 := HM3.out
          clear h7 t7 hl7 hl6 hg5l hargs happ hb6 hbox6 hge5 hge6 hszX H4 H5 H6 HT4 HT5 HT6 HB4 HB5 HB6 HE4 HM3
          cases rj with
          | false =>
            injection hm3 with e
            injection e with ea eb
            subst ea eb
            go_wp2_with fail
            go_ret2
            first | exact ⟨_, _, rfl, rfl, H7.out, HT7.out, HE7.out⟩ | exact ⟨_, _, rfl, (fun k hk => by cases hk), fun _ => rfl, H7.out, HT7.out, HE7.out⟩
          | true =>
            simp only at hm3
            have HM4 := Aside0.mk hm3
            clear hm3
            go_wp2_with fail
            go_roundg k1
            case measure => omega
            case rel => exact ⟨i + 1, s2.length, s3, _, HG7.out.symm, (by
              have h1 := Hlt.out
              have h2 := HR.out.2.1
              exact congrArg (Value.int .i64) (by unfold wrap64; omega)), ⟨by have := Hi.out.1; omega, Hlt.out⟩, HM4, H7, ⟨Hl7.out.1, Hl7.out.2⟩, HT7, HE7, HB7⟩
      · have hie : i = l.length := by omega
        rw [hie, List.drop_length] at hm
        cases gk with
        | zero => exact absurd hm (by simp [ftermL])
        | succ k1 =>
        unfold ftermL at hm
        injection hm with e
        injection e with ea eb
        subst ea eb
        clear hie
        go_wp2_with fail
        go_ret2
        first | exact ⟨e1, _, rfl, ⟨rfl, Hk.out.1⟩, H1.out, HT1.out, HE1.out⟩ | exact ⟨e1, _, rfl, (fun k hk => by injection hk with hk; subst hk; exact ⟨rfl, Hk.out.1⟩), (fun hk => by cases hk), H1.out, HT1.out, HE1.out⟩
  rw [if_neg hk1] at hh
  obtain ⟨x, hp, hpe⟩ := Option.map_eq_some_iff.1 hh
  have hkb0 : (kd == 0) = false := beq_eq_false_iff_ne.2 hk0
  have hkb1 : (kd == 1) = false := beq_eq_false_iff_ne.2 hk1
  have hpl : n.toNat < E.syms.length := (List.getElem?_eq_some_iff.1 hp).1
  obtain ⟨adr, he, hx1, hx2⟩ := at_T59 HCs.out n (by omega) (by omega)
  cases he
  replace hx1 := (HB.out.cell (World.block_lt_of_cell? w0 _ hx1)).trans hx1
  replace hx2 := (HB.out.cell (World.block_lt_of_cell? w0 _ hx2)).trans hx2
  have p1 : (0 ≤ n) = True := eq_true (by omega)
  have p2 : (n < (E.syms.length : Int)) = True := eq_true (by omega)
  have Hp := Aside0.mk hp
  have HE := Aside0.mk hpe
  clear hh hp hfin hpe
  go_enter Try.func38, Try.ntmps38
  go_wp2_with (
    (with_reducible refine gate_dst (N := 3) rfl ?_)
    refine box_event ?hg (N := 3) ?hd (cs := #[.int .i64 kd, .int .i64 n, .slice A l.length c]) (t := 44) ?hr ?_
    (case hd => rfl)
    (case hg => rfl)
    (case hr => first | (go_simp; done) | (go_simp; rfl))
    intro g3 hg3 w2 hbox hb2
    have S3 := Aside0.mk hbox
    have Hb2 := Aside0.mk hb2
    have hc0 : w2.cell? ⟨g3, 0, none⟩ = some (.int .i64 kd) := (blk_cell hbox 0).trans rfl
    have hge3 : w.heap.size ≤ g3 := by omega
    clear hbox hb2 hg3)
  have hxe : rd_T59 E.syms n = x := by
    have := Hp.out
    unfold rd_T59
    rw [List.getD_eq_getElem?_getD, this]
    rfl
  rw [hxe] at hx2
  have c1 : w2.cell? ⟨g3, 1, none⟩ = some (.int .i64 n) := (blk_cell S3.out 1).trans rfl
  have c2 : w2.cell? ⟨gf, 1, none⟩ = some (.slice (some adr) E.syms.length cs) := (blk_cell (blk_below Hfin.out Hb2.out) 1).trans rfl
  have c3 : w2.cell? { block := (adr.add (n.toNat * 2)).block, off := (adr.add (n.toNat * 2)).off + 1 } = some (.int .i64 x.f1) := (Hb2.out.cell (World.block_lt_of_cell? w _ hx2)).trans hx2
  have hrx := hrk x (List.mem_of_getElem? Hp.out)
  clear hx1 hx2 hxe
  go_region_held3 (fun w' => w'.cell? ⟨g3, 1, none⟩ = some (.int .i64 n) ∧ w'.cell? ⟨gf, 1, none⟩ = some (.slice (some adr) E.syms.length cs) ∧ w'.cell? { block := (adr.add (n.toNat * 2)).block, off := (adr.add (n.toNat * 2)).off + 1 } = some (.int .i64 x.f1)) (go_keep) (fail)
  have HBw := Aside0.mk (below_drew Hb2.out)
  have S3q := Aside0.mk (blk_drew S3.out)
  clear c1 c2 c3 hc0 Hb2 S3
  generalize w2.drew = wq at *
  go_wp2_with fail
  go_loopg [7, 24] x.f1.toNat (fun kq v7 v24 wr => ∃ (i : Nat) (A7 : Option Addr) (c7 : Nat), v7 = .slice A7 i c7 ∧ v24 = .int .i64 (i : Int) ∧ Aside0 (i + kq = x.f1.toNat) ∧ Aside0 ((Kd.raw 1).R 72 wr w.heap.size (fun k => k ≠ g3) (.slice A7 i c7) (List.replicate i [pk ad E.o])) ∧ Aside0 (Below w.heap.size w wr) ∧ Aside0 (wr.heap[g3]? = some (.cells #[.int .i64 kd, .int .i64 n, .slice A l.length c] 44 (0, 0))))
  case atStart => exact ⟨0, none, 0, rfl, rfl, ⟨by omega⟩, ⟨Kd.R_nil _ _ _ _ _⟩, HBw, S3q⟩
  case round =>
    clear HBw S3q
    obtain ⟨i, A7, c7, rfl, rfl, Hi, HRo, HBr, S3r⟩ := hrel
    have hcf : wr.cell? ⟨gf, 0, none⟩ = some (pk ad E.o) := (blk_cell (blk_below Hfin.out HBr.out) 0).trans rfl
    by_cases hlt : (i : Int) < x.f1
    · cases gk with
      | zero => exact absurd Hi.out (by omega)
      | succ k1 =>
      have hszr := below_size HBr.out
      go_wp2_with (at_builtin; refine holdI5 ?_)
      unfold HoldI5
      refine Kd.R_append (Kd.raw 1) (w0 := w) w.heap.size rfl (.tmp 26) (.tmp 31) 75 72 (.pointer none) 8 rfl Try.underlying75 (by kernel_rfl) rfl (by decide) (by omega) (.slice A7 i c7) (List.replicate i [pk ad E.o]) [pk ad E.o] [pk ad E.o] (fun k => k ≠ g3) (fun k => k ≠ g3 ∧ some k ≠ (Value.slice A7 i c7).ownBlock) rfl rfl ?aP (fun _ hk => hk) ?aF ?aO ?aB ?aS ?aL ?_
      (case aP => exact ⟨rfl, rfl, by intro u hu; rw [List.mem_singleton] at hu; subst hu; rfl⟩)
      (case aB => exact HBr.out)
      (case aF => intro k hk; have h1 := blk_lt S3r.out; omega)
      (case aO => exact HRo.out)
      (case aS => exact hszr)
      (case aL => rw [List.length_replicate]; have := Hi.out; omega)
      intro v2 w5 ho hb hg2 hat
      rw [show List.replicate i [pk ad E.o] ++ [[pk ad E.o]] = List.replicate (i + 1) [pk ad E.o] from List.replicate_succ'.symm] at ho
      obtain ⟨A2, c2, e2⟩ := Kd.R_slice ho
      rw [List.length_replicate] at e2
      subst e2
      have S3n := Aside0.mk (blk_grown S3r.out hg2 (Kd.R_away HRo.out (fun k hk => hk)))
      have HOn := Aside0.mk ho
      have HBn := Aside0.mk hb
      clear ho hb hg2 hat S3r HRo HBr hszr hcf
      go_wp2_with fail
      go_roundg k1
      case measure => omega
      case rel => exact ⟨i + 1, A2, c2, rfl, congrArg (Value.int .i64) (by have := Hi.out; first | rfl | (unfold wrap64; omega)), ⟨by have := Hi.out; omega⟩, HOn, HBn, S3n⟩
    · have hie : i = x.f1.toNat := by have := Hi.out; omega
      have hlp : (List.replicate x.f1.toNat E.o).length = i := by rw [List.length_replicate, hie]
      have HP := Aside0.mk (show Ptrs ad wr A7 (List.replicate x.f1.toNat E.o) from by
        refine ⟨by rw [List.length_replicate]; omega, fun p hp => by rw [(List.mem_replicate.1 hp).2, HH.out.len]; exact HFi.out.o, fun h0 => ?_⟩
        obtain ⟨_, _, hC⟩ := Kd.R_reads' HRo.out
        have hi0 : 0 < i := Nat.lt_of_lt_of_eq h0 hlp
        obtain ⟨ad0, c0, he0, _⟩ := Kd.C_get hC [] 0 (by omega) (by rw [List.length_replicate]; omega)
        refine ⟨ad0, he0, fun j p hj => ?_⟩
        have hjl : j < i := by have := (List.getElem?_eq_some_iff.1 hj).1; rw [hlp] at this; exact this
        have hpo : p = E.o := (List.mem_replicate.1 (List.mem_of_getElem? hj)).2
        obtain ⟨ad1, c1, he1, hcl, hK, hcc⟩ := Kd.C_get hC [] (j : Int) (by omega) (by rw [List.length_replicate]; omega)
        rw [he0] at he1
        injection he1 with he1
        subst he1
        have hc1 : c1 = [pk ad E.o] := by
          have h1 := hK.1
          rw [Int.toNat_natCast, List.getD_eq_getElem?_getD, List.getElem?_replicate, if_pos hjl] at h1
          exact h1
        have := hcc 0 (pk ad E.o) (by rw [hc1]; rfl)
        rw [Int.toNat_natCast] at this
        rw [hpo]
        exact (congrArg wr.cell? (congrArg ad0.add (show j = j * (Kd.raw 1).sz + 0 from by show j = j * 1 + 0; omega))).trans this)
      go_wp2_with fail
      have hszr := below_size HBr.out
      refine Calls.mono (calls_of_args (by rw [List.length_replicate]) (arrow_calls B s ad E.o A7 c7 (List.replicate x.f1.toNat E.o) gf _ _ _ wr (Held.below HH.out HBr.out) HFi.out.o (Nat.le_trans hB hszr) HP.out (blk_below Hfin.out HBr.out))) ?_
      rintro e wq2 ⟨ad', rfl, hh5, hb5, hk5⟩
      have HHq0 := Aside0.mk hh5
      have hkq0 := hk5
      rw [HE.out] at HHq0 hkq0
      have HHq := Aside0.mk (show Held B s1 (ad ++ ad') wq2 from HHq0.out)
      have hkq : k < s1.length := hkq0.1
      rw [HE.out]
      have HEq := Aside0.mk (show ∀ b, b ∈ ad' → w.heap.size ≤ b from fun b hb => Nat.le_trans hszr (hk5.2 b hb))
      have HTq := Aside0.mk (Turned.trans (Turned.of_below (ok := fun k => k ∈ ad) HBr.out) (Turned.of_below (ok := fun k => k ∈ ad) hb5) (fun k hk _ => hk))
      have HBq := Aside0.mk (below_step HB.out (below_step HBr.out hb5))
      have c5 : wq2.cell? ⟨g3, 2, none⟩ = some (.slice A l.length c) := (blk_cell (blk_below S3r.out hb5) 2).trans rfl
      have hlq : s.length ≤ s1.length := by have h1 := HHq.out.len; have h2 := HH.out.len; rw [List.length_append] at h1; omega
      clear hh5 hk5 hb5 HHq0 hkq0 hlp hie HP HRo HBr S3r hcf hszr hlt Hi
      try dsimp only
      go_wp2_with fail
      go_loopg [6, 60] f (fun kq v6 v60 wr => ∃ (i k : Nat) (s1 : List KN) (e1 : List Nat), v6 = pk (ad ++ e1) k ∧ v60 = .int .i64 (i : Int) ∧ Aside0 (kq ≤ f ∧ i ≤ l.length) ∧ Aside0 (ftermL E kq s1 k (l.drop i) = some (r, s')) ∧ Aside0 (Held B s1 (ad ++ e1) wr) ∧ Aside0 (k < s1.length ∧ s.length ≤ s1.length) ∧ Aside0 (Turned (fun k => k ∈ ad) w wr) ∧ Aside0 (∀ b, b ∈ e1 → w.heap.size ≤ b) ∧ Aside0 (Below w0.heap.size w0 wr))
      case atStart => exact ⟨0, k, s1, ad', rfl, rfl, ⟨Nat.le_refl _, Nat.zero_le _⟩, HT, HHq, ⟨hkq, hlq⟩, HTq, HEq, HBq⟩
      case round =>
        clear HHq HTq HBq HEq c5
        obtain ⟨i, k, s1, e1, rfl, rfl, Hi, HM, H1, Hk, HT1, HE1, HB1⟩ := hrel
        have hm := HM.out
        have hi := Hi.out.2
        by_cases hlt : i < l.length
        · have Hlt := Aside0.mk hlt
          have hdrop := rd_T44_drop l i hlt
          obtain ⟨ad0, A1, c1, he, hx1, hx2, hx3, hl1, hi1⟩ := at_T44 HR.out (i : Int) (by omega) (by omega)
          cases he
          replace hx1 := (HB1.out.cell (World.block_lt_of_cell? w0 _ hx1)).trans hx1
          replace hx2 := (HB1.out.cell (World.block_lt_of_cell? w0 _ hx2)).trans hx2
          replace hx3 := (HB1.out.cell (World.block_lt_of_cell? w0 _ hx3)).trans hx3
          rw [Int.toNat_natCast] at hx1 hx2 hx3
          have Hl1 := Aside0.mk hl1
          have Hi1 := Aside0.mk hi1
          clear hl1 hi1
          have p1 : (0 ≤ (i : Int)) = True := eq_true (by omega)
          have p2 : ((i : Int) < (l.length : Int)) = True := eq_true (by omega)
          have p3 : (i < l.length) = True := eq_true (by omega)
          rw [hdrop] at hm
          generalize hx : rd_T44 l (i : Int) = x at *
          cases gk with
          | zero => exact absurd hm (by simp [ftermL])
          | succ k1 =>
          unfold ftermL at hm
          cases hft : fterm E k1 s1 x.f0 x.f1 x.f2 with
          | none => rw [hft] at hm; cases hm
          | some q =>
          obtain ⟨r2, s2⟩ := q
          rw [hft] at hm
          have HFT := Aside0.mk hft
          have HMM := Aside0.mk hm
          clear hx hdrop hft hm HM
          go_wp2_with (
            (with_reducible refine gate_dst (N := 9) rfl ?_)
            refine box_event ?hg (N := 9) ?hd (cs := #[.int .i64 0, .int .i64 0, .slice none 0 0]) (t := 44) ?hr ?_
            (case hd => rfl)
            (case hg => rfl)
            (case hr => first | (go_simp; done) | (go_simp; rfl))
            intro gi hgi w3 hbox3 hb3
            have hsz := below_size HB1.out
            have hgiw : w0.heap.size ≤ gi := by omega
            have hgr : wr.heap.size ≤ gi := by omega
            have hbw := below_set (g := gi) (j := 2) (v := .slice A1 x.f2.length c1) (below_set (g := gi) (j := 1) (v := .int .i64 x.f1) (below_set (g := gi) (j := 0) (v := .int .i64 x.f0) hb3 hgr) hgr) hgr
            have HB3 := Aside0.mk (below_step HB1.out hbw)
            have H3 := Aside0.mk (Held.below H1.out hbw)
            have HT3 := Aside0.mk (Turned.trans HT1.out (Turned.of_below (ok := fun k => k ∈ ad) hbw) (fun k hk _ => hk))
            have Hgi := Aside0.mk (blk_put (cs' := #[.int .i64 x.f0, .int .i64 x.f1, .slice A1 x.f2.length c1]) (blk_put (cs' := #[.int .i64 x.f0, .int .i64 x.f1, .slice none 0 0]) (blk_put (cs' := #[.int .i64 x.f0, .int .i64 0, .slice none 0 0]) hbox3 0 (.int .i64 x.f0) rfl) 1 (.int .i64 x.f1) rfl) 2 (.slice A1 x.f2.length c1) rfl)
            have hci0 : (((w3.setCell ⟨gi, 0, none⟩ (.int .i64 x.f0)).setCell ⟨gi, 1, none⟩ (.int .i64 x.f1)).setCell ⟨gi, 2, none⟩ (.slice A1 x.f2.length c1)).cell? ⟨gi, 0, none⟩ = some (.int .i64 x.f0) := (blk_cell Hgi.out 0).trans rfl
            have hci1 : (((w3.setCell ⟨gi, 0, none⟩ (.int .i64 x.f0)).setCell ⟨gi, 1, none⟩ (.int .i64 x.f1)).setCell ⟨gi, 2, none⟩ (.slice A1 x.f2.length c1)).cell? ⟨gi, 1, none⟩ = some (.int .i64 x.f1) := (blk_cell Hgi.out 1).trans rfl
            have hci2 : (((w3.setCell ⟨gi, 0, none⟩ (.int .i64 x.f0)).setCell ⟨gi, 1, none⟩ (.int .i64 x.f1)).setCell ⟨gi, 2, none⟩ (.slice A1 x.f2.length c1)).cell? ⟨gi, 2, none⟩ = some (.slice A1 x.f2.length c1) := (blk_cell Hgi.out 2).trans rfl
            have hcz0 := (blk_cell hbox3 0).trans rfl
            have hcz1 := (blk_cell hbox3 1).trans rfl
            have hcz2 := (blk_cell hbox3 2).trans rfl
            have hfz0 := blk_frozen hbox3 0
            have hfz1 := blk_frozen hbox3 1
            have hfz2 := blk_frozen hbox3 2
            clear hbox3 hb3 hsz hgi hgr hbw HB1 H1 HT1)
          have hF3 := Find.move HFi.out HT3.out HE1.out Hk.out.2 HH.out.len
          (with_reducible refine (IH.out k1 (by have := Hi.out.1; omega) s1 (ad ++ e1) x.f0 x.f1 x.f2 A1 c1 r2 s2 w0 _ H3.out _ cs hF3 HCs.out (Nat.le_trans hB HT3.out.size) hw0 Hi1.out Hl1.out HB3.out HFT.out).mono ?_)
          rintro e w4 ⟨e2, v, rfl, hv1, hv2, h4, t4, he2⟩
          have hszW := HT3.out.size
          have HT4 := Aside0.mk (Turned.trans HT3.out t4 (fun k hk hlt => by rcases List.mem_append.1 hk with hk | hk; exact hk; have := HE1.out k hk; omega))
          have HE4 := Aside0.mk (show ∀ b, b ∈ e1 ++ e2 → w.heap.size ≤ b from fun b hb => by rcases List.mem_append.1 hb with hb | hb; exact HE1.out b hb; have := he2 b hb; omega)
          have HB4 := Aside0.mk (Turned.below t4 HB3.out HB3.out.size (fun k hk => Nat.le_trans hw0 (H3.out.ge k hk)))
          have h4' : Held B s2 (ad ++ (e1 ++ e2)) w4 := by rw [← List.append_assoc]; exact h4
          have H4 := Aside0.mk h4'
          have hl1 := H3.out.len
          have hl2 := h4.len
          have hlen2 : s1.length ≤ s2.length := by rw [← hl1, ← hl2, show (ad ++ e1 ++ e2).length = (ad ++ e1).length + e2.length from List.length_append]; omega
          have Hlen := Aside0.mk hlen2
          have HKK := Aside0.mk (show pk (ad ++ e1) k = pk (ad ++ (e1 ++ e2)) k from by rw [← List.append_assoc]; exact (pk_app (ad := ad ++ e1) (e := e2) (by rw [hl1]; exact Hk.out.1)).symm)
          have hmm2 := HMM.out
          clear hci0 hci1 hci2 hcz0 hcz1 hcz2 hfz0 hfz1 hfz2 t4 he2 h4 h4' hl1 hl2 hF3 HT3 HB3 H3 Hgi hlen2 HMM hszW
          cases r2 with
          | none =>
            injection hmm2 with e
            injection e with ea eb
            subst ea eb
            have hv := hv2 rfl
            subst hv
            clear hv1 hv2
            go_wp2_with fail
            go_ret2
            first | exact ⟨e1 ++ e2, _, rfl, rfl, H4.out, HT4.out, HE4.out⟩ | exact ⟨e1 ++ e2, _, rfl, (fun k hk => by cases hk), fun _ => rfl, H4.out, HT4.out, HE4.out⟩
          | some xk =>
            simp only at hmm2
            obtain ⟨hve, hxl⟩ := hv1 xk rfl
            rw [List.append_assoc] at hve
            subst hve
            cases hj : fjoin k1 (s2 ++ [⟨none, false, none, none⟩] ++ [⟨none, false, some xk, some s2.length⟩]) k (s2.length + 1) with
            | none => rw [hj] at hmm2; cases hmm2
            | some q =>
            obtain ⟨rj, s3⟩ := q
            rw [hj] at hmm2
            have HJ := Aside0.mk hj
            have HM3 := Aside0.mk hmm2
            have Hxl := Aside0.mk hxl
            clear hj hmm2 hv1 hv2 hxl
            go_wp2_with (first
             | ((with_reducible refine gate_dst (N := 73) rfl ?_)
                refine box_event ?hg (N := 73) ?hd (cs := #[.pointer none, .bool false, .pointer none, .pointer none]) (t := 74) ?hr ?_
                (case hd => rfl)
                (case hg => rfl)
                (case hr => first | (go_simp; done) | (go_simp; rfl))
                intro g5 hg5 w5 hbox hb5
                have H5 := Aside0.mk (Held.push (n := ⟨none, false, none, none⟩) H4.out hb5 (Nat.le_of_eq hg5.symm) (Nat.le_trans hB HT4.out.size) ⟨(by intro j hj; cases hj), (by intro j hj; cases hj), (by intro j hj; cases hj)⟩ hbox)
                have HT5 := Aside0.mk (Turned.trans HT4.out (Turned.of_below (ok := fun k => k ∈ ad) hb5) (fun k hk _ => hk))
                have HB5 := Aside0.mk (below_step HB4.out hb5)
                have hge5 : w.heap.size ≤ g5 := by have := HT4.out.size; omega
                have Hb5 := Aside0.mk (bk_new (g := g5) H4.out.len)
                clear hbox hb5 hg5)
             | fail)
            have hb6 := below_alloc (Below.refl w5.heap.size w5) (.cells #[.pointer none, .bool false, pk (ad ++ (e1 ++ e2)) xk, .pointer (some ⟨g5, 0, none⟩)] 74 (0, 0))
            have hbox6 := blk_new w5 (.cells #[.pointer none, .bool false, pk (ad ++ (e1 ++ e2)) xk, .pointer (some ⟨g5, 0, none⟩)] 74 (0, 0))
            have H6 := Aside0.mk (Held.push (n := ⟨none, false, some xk, some s2.length⟩) H5.out hb6 (Nat.le_refl _) (Nat.le_trans hB HT5.out.size) ⟨(by intro j hj; cases hj), (by intro j hj; injection hj with hj; rw [List.length_append]; have := Hxl.out; omega), (by intro j hj; injection hj with hj; rw [List.length_append]; simp only [List.length_cons, List.length_nil]; omega)⟩ (by rw [hbox6]; unfold kcells; show _ = some (Obj.cells #[.pointer none, .bool false, pk (ad ++ (e1 ++ e2) ++ [g5]) xk, pk (ad ++ (e1 ++ e2) ++ [g5]) s2.length] 74 (0, 0)); rw [pk_app (ad := ad ++ (e1 ++ e2)) (e := [g5]) (by rw [H4.out.len]; exact Hxl.out)]; unfold pk; rw [Hb5.out]))
            have HT6 := Aside0.mk (Turned.trans HT5.out (Turned.of_below (ok := fun k => k ∈ ad) hb6) (fun k hk _ => hk))
            have HB6 := Aside0.mk (below_step HB5.out hb6)
            have hge6 : w.heap.size ≤ w5.heap.size := HT5.out.size
            have Hb6 := Aside0.mk (bk_new (g := w5.heap.size) H5.out.len)
            have hargs : #[pk (ad ++ e1) k, Value.pointer (some ⟨w5.heap.size, 0, none⟩)] = #[pk (ad ++ (e1 ++ e2) ++ [g5] ++ [w5.heap.size]) k, pk (ad ++ (e1 ++ e2) ++ [g5] ++ [w5.heap.size]) (s2.length + 1)] := by
              have hkl : k < s2.length := by have := Hk.out.1; have := Hlen.out; omega
              have e1' : pk (ad ++ (e1 ++ e2) ++ [g5] ++ [w5.heap.size]) k = pk (ad ++ e1) k := by
                rw [pk_app (ad := ad ++ (e1 ++ e2) ++ [g5]) (e := [w5.heap.size]) (by rw [H5.out.len, List.length_append]; omega), pk_app (ad := ad ++ (e1 ++ e2)) (e := [g5]) (by rw [H4.out.len]; exact hkl), HKK.out]
              have e2' : pk (ad ++ (e1 ++ e2) ++ [g5] ++ [w5.heap.size]) (s2.length + 1) = .pointer (some ⟨w5.heap.size, 0, none⟩) := by
                have := Hb6.out
                rw [List.length_append] at this
                unfold pk
                rw [show s2.length + 1 = s2.length + [(⟨none, false, none, none⟩ : KN)].length from rfl, this]
              rw [e1', e2']
            refine Calls.mono (calls_of_args hargs (join_calls B (ad ++ (e1 ++ e2) ++ [g5] ++ [w5.heap.size]) k1 _ k (s2.length + 1) rj s3 _ H6.out HJ.out)) ?_
            rintro e w7 ⟨rfl, h7, t7⟩
            have hszX := HB6.out.size
            have happ : ad ++ (e1 ++ e2) ++ [g5] ++ [w5.heap.size] = ad ++ (e1 ++ e2 ++ [g5] ++ [w5.heap.size]) := by simp [List.append_assoc]
            have HE7 := Aside0.mk (show ∀ b, b ∈ e1 ++ e2 ++ [g5] ++ [w5.heap.size] → w.heap.size ≤ b from fun b hb => by
              rcases List.mem_append.1 hb with hb | hb
              · rcases List.mem_append.1 hb with hb | hb
                · exact HE4.out b hb
                · rw [List.mem_singleton] at hb; omega
              · rw [List.mem_singleton] at hb; omega)
            have HT7 := Aside0.mk (Turned.trans HT6.out t7 (fun k hk hlt => by
              rw [happ] at hk
              rcases List.mem_append.1 hk with hk | hk
              · exact hk
              · have := HE7.out k hk; omega))
            have HB7 := Aside0.mk (Turned.below t7 HB6.out HB6.out.size (fun k hk => Nat.le_trans hw0 (H6.out.ge k hk)))
            have hl7 := h7.len
            have hl6 := H6.out.len
            have hg5l : pk (ad ++ (e1 ++ e2) ++ [g5] ++ [w5.heap.size]) s2.length = .pointer (some ⟨g5, 0, none⟩) := by
              rw [pk_app (ad := ad ++ (e1 ++ e2) ++ [g5]) (e := [w5.heap.size]) (by rw [H5.out.len, List.length_append]; simp)]
              unfold pk
              rw [Hb5.out]
            rw [happ] at h7 hl7 hg5l
            have H7 := Aside0.mk h7
            have HG7 := Aside0.mk hg5l
            have Hl7 := Aside0.mk (show s2.length < s3.length ∧ s.length ≤ s3.length from by
              have e := hl6.symm.trans (by rw [happ] : _)
              rw [happ] at hl6
              rw [← hl7, hl6, List.length_append, List.length_append]
              have := Hlen.out; have := Hk.out.2
              simp only [List.length_cons, List.length_nil]
              omega)
            have hm3 := HM3.out
            clear h7 t7 hl7 hl6 hg5l hargs happ hb6 hbox6 hge5 hge6 hszX H4 H5 H6 HT4 HT5 HT6 HB4 HB5 HB6 HE4 HM3
            cases rj with
            | false =>
              injection hm3 with e
              injection e with ea eb
              subst ea eb
              go_wp2_with fail
              go_ret2
              first | exact ⟨_, _, rfl, rfl, H7.out, HT7.out, HE7.out⟩ | exact ⟨_, _, rfl, (fun k hk => by cases hk), fun _ => rfl, H7.out, HT7.out, HE7.out⟩
            | true =>
              simp only at hm3
              have HM4 := Aside0.mk hm3
              clear hm3
              go_wp2_with fail
              go_roundg k1
              case measure => omega
              case rel => exact ⟨i + 1, s2.length, s3, _, HG7.out.symm, (by
                have h1 := Hlt.out
                have h2 := HR.out.2.1
                exact congrArg (Value.int .i64) (by unfold wrap64; omega)), ⟨by have := Hi.out.1; omega, Hlt.out⟩, HM4, H7, ⟨Hl7.out.1, Hl7.out.2⟩, HT7, HE7, HB7⟩
        · have hie : i = l.length := by omega
          rw [hie, List.drop_length] at hm
          cases gk with
          | zero => exact absurd hm (by simp [ftermL])
          | succ k1 =>
          unfold ftermL at hm
          injection hm with e
          injection e with ea eb
          subst ea eb
          clear hie
          go_wp2_with fail
          go_ret2
          first | exact ⟨e1, _, rfl, ⟨rfl, Hk.out.1⟩, H1.out, HT1.out, HE1.out⟩ | exact ⟨e1, _, rfl, (fun k hk => by injection hk with hk; subst hk; exact ⟨rfl, Hk.out.1⟩), (fun hk => by cases hk), H1.out, HT1.out, HE1.out⟩
end Go.Proofs.Ytfhgoebgnilfaaa.I
