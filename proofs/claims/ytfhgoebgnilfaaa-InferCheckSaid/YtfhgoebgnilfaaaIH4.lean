/- Contract of term.Symbols, by hand: its set of names is a map. -/
import Derived.Test.YtfhgoebgnilfaaaIM
import Derived.Test.YtfhgoebgnilfaaaIN
import Derived.Carry
namespace Go.Proofs.Ytfhgoebgnilfaaa.I
open Go.RowKit Go.Proofs.YtfhgoebgnilfaaaW.PrintWords Go.Proofs.YtfhgoebgnilfaaaW.PrintLast Go.Proofs.YtfhgoebgnilfaaaW.PrintMore
open Go.WideShapes Go.Maps Go.ChangeMaps Go.WideMaps
attribute [local go_sem] max2_int min2_int max_two min_two max_three min_three max_four min_four
set_option linter.unusedVariables false
set_option maxRecDepth 100000
set_option linter.unusedSimpArgs false
/-- Is a symbol wrong behind others with these names? -/
def symBad (x : S59) (L : List ByteArray) : Bool := !nameOk x.f0 || (isIn L x.f0 || (decide (x.f1 < 0) || decide (4 < x.f1)))
def symsL : List S59 → List ByteArray → Bool
  | [], _ => true
  | x :: xs, L => if symBad x L = true then false else symsL xs (L ++ [x.f0])
def names59 (l : List S59) : List ByteArray := l.map (fun x => x.f0)
def term_Symbols.f (l0 : List S59) : Option Bool := some (symsL l0 [] && decide (l0.length ≤ 24))
theorem rd_T59_drop (l : List S59) (i : Nat) (h : i < l.length) : l.drop i = rd_T59 l (i : Int) :: l.drop (i + 1) := by
  rw [List.drop_eq_getElem_cons h]
  simp [rd_T59, List.getD_eq_getElem?_getD, List.getElem?_eq_getElem h]
theorem rd_T59_take (l : List S59) (i : Nat) (h : i < l.length) : names59 (l.take i) ++ [(rd_T59 l (i : Int)).f0] = names59 (l.take (i + 1)) := by
  have e : l.take (i + 1) = l.take i ++ [l[i]] := by rw [List.take_add_one, List.getElem?_eq_getElem h]; rfl
  have e2 : rd_T59 l (i : Int) = l[i] := by unfold rd_T59; rw [Int.toNat_natCast, List.getD_eq_getElem?_getD, List.getElem?_eq_getElem h]; rfl
  rw [e, e2]
  unfold names59
  rw [List.map_append]
  rfl
theorem nameOk_size {s : ByteArray} (h : nameOk s = true) : s.size ≤ maxLen := by
  unfold nameOk at h
  rw [Bool.and_eq_true, decide_eq_true_eq] at h
  have := h.1.2.1
  unfold maxLen
  omega
/-- A goal at which the walk stands still. -/
def HoldI (p : Prop) : Prop := p
theorem holdI {p : Prop} (h : HoldI p) : p := h
theorem drawn_below {w w1 : World} (h : Drawn0 w w1) : Below w.heap.size w w1 := by
  obtain ⟨nd, rfl⟩ := h
  exact pw_below_drewN (Below.refl _ _) nd
set_option maxHeartbeats 4000000 in
theorem term_Symbols.calls (A0 : Option Addr) (c0 : Nat) (l0 : List S59) (r : Bool) (w : World) (hr0 : Kd.C k59 w A0 l0.length l0) (hc0 : l0.length ≤ c0) (h : term_Symbols.f l0 = some r) :
    Calls Try.prog 28 #[.slice A0 l0.length c0] w fun e w' => e = .returned (.bool r) ∧ Below w.heap.size w w' := by
  have hu59 := Try.underlying59
  have hmm := @run_makeMap Try.prog
  have hlen : l0.length ≤ 9223372036854775807 := hr0.2.1
  have HR := Aside0.mk hr0
  have HC := Aside0.mk hc0
  have H := Aside0.mk h
  clear hr0 hc0 h
  go_enter Try.func28, Try.ntmps28
  go_wp2_with fail
  go_loopg [9] l0.length (fun kq v9 wr => ∃ (i : Nat), v9 = .int .i64 (i : Int) ∧ Aside0 (kq + i = l0.length) ∧ Aside0 (Seen wr w.heap.size i (names59 (l0.take i))) ∧ Aside0 (symsL (l0.drop i) (names59 (l0.take i)) = symsL l0 []) ∧ Aside0 (Below w.heap.size w wr))
  case atStart => exact ⟨0, rfl, ⟨by omega⟩, ⟨seen_made w⟩, ⟨rfl⟩, ⟨below_alloc (Below.refl _ _) _⟩⟩
  case round =>
    obtain ⟨i, rfl, Hi, HS, HM, HB⟩ := hrel
    have hi : i ≤ l0.length := by have := Hi.out; omega
    by_cases hlt : i < l0.length
    · have hdrop := Aside0.mk (rd_T59_drop l0 i hlt)
      have htake := Aside0.mk (rd_T59_take l0 i hlt)
      obtain ⟨ad, he, hx1, hx2⟩ := at_T59 HR.out (i : Int) (by omega) (by omega)
      cases he
      replace hx1 := (HB.out.cell (World.block_lt_of_cell? w _ hx1)).trans hx1
      replace hx2 := (HB.out.cell (World.block_lt_of_cell? w _ hx2)).trans hx2
      rw [Int.toNat_natCast] at hx1 hx2
      have p1 : (0 ≤ (i : Int)) = True := eq_true (by omega)
      have p2 : ((i : Int) < (l0.length : Int)) = True := eq_true (by omega)
      have p3 : (i < l0.length) = True := eq_true (by omega)
      generalize hx : rd_T59 l0 (i : Int) = x at *
      clear hx
      obtain ⟨kN, hN⟩ := (name_ev x.f0).rounds
      have HN := Aside0.mk hN
      clear hN
      go_wp2_with (
        (with_reducible refine gate_dst (N := 5) rfl ?_)
        refine box_event ?hg (N := 5) ?hd (cs := #[.string (⟨#[]⟩ : ByteArray), .int .i64 0]) (t := 59) ?hr ?_
        (case hd => rfl)
        (case hg => rfl)
        (case hr => first | (go_simp; done) | (go_simp; rfl))
        intro gi hgi w3 hbox hb3
        have hsz := below_size HB.out
        have hgw : w.heap.size ≤ gi := by omega
        have hnb : w.heap.size ≠ gi := by have := HS.out.lt; omega
        have HB3 := Aside0.mk (below_set (g := gi) (j := 1) (v := .int .i64 x.f1) (below_set (g := gi) (j := 0) (v := .string x.f0) (below_step HB.out hb3) hgw) hgw)
        have HS3 := Aside0.mk (Seen.set (Seen.set (Seen.grown HS.out hb3) (p := ⟨gi, 0, none⟩) hnb (.string x.f0)) (p := ⟨gi, 1, none⟩) hnb (.int .i64 x.f1))
        have Hgi := Aside0.mk (blk_put (cs' := #[.string x.f0, .int .i64 x.f1]) (blk_put (cs' := #[.string x.f0, .int .i64 0]) hbox 0 (.string x.f0) rfl) 1 (.int .i64 x.f1) rfl)
        have hci0 : ((w3.setCell ⟨gi, 0, none⟩ (.string x.f0)).setCell ⟨gi, 1, none⟩ (.int .i64 x.f1)).cell? ⟨gi, 0, none⟩ = some (.string x.f0) := (blk_cell Hgi.out 0).trans rfl
        have hcz0 := (blk_cell hbox 0).trans rfl
        have hcz1 := (blk_cell hbox 1).trans rfl
        have hfz0 := blk_frozen hbox 0
        have hfz1 := blk_frozen hbox 1
        clear hbox hb3 hgi hsz)
      (with_reducible refine (term_Name.calls kN x.f0 (nameOk x.f0) _ HN.out).mono ?_)
      rintro e w4 ⟨rfl, hD⟩
      have hB4 := drawn_below hD
      have HB4 := Aside0.mk (below_step HB3.out hB4)
      have HS4 := Aside0.mk (Seen.grown HS3.out hB4)
      have Hg4 := Aside0.mk (blk_below Hgi.out hB4)
      have hc0 : w4.cell? ⟨gi, 0, none⟩ = some (.string x.f0) := (blk_cell Hg4.out 0).trans rfl
      have hc1 : w4.cell? ⟨gi, 1, none⟩ = some (.int .i64 x.f1) := (blk_cell Hg4.out 1).trans rfl
      clear hD hB4 HB HS HB3 HS3 Hgi hci0 hcz0 hcz1 hfz0 hfz1
      cases hn : nameOk x.f0 with
      | false =>
        have hr : r = false := by
          have e := H.out
          unfold term_Symbols.f at e
          rw [← HM.out, hdrop.out, symsL, if_pos (by simp [symBad, hn]), Bool.false_and] at e
          injection e with e
          exact e.symm
        subst hr
        go_wp2_with fail
        go_ret
        exact ⟨rfl, HB4.out⟩
      | true =>
        have hlk := seen_look HS4.out x.f0 (nameOk_size hn)
        cases hin : isIn (names59 (l0.take i)) x.f0 with
        | true =>
          have hr : r = false := by
            have e := H.out
            unfold term_Symbols.f at e
            rw [← HM.out, hdrop.out, symsL, if_pos (by simp [symBad, hn, hin]), Bool.false_and] at e
            injection e with e
            exact e.symm
          rw [hin] at hlk
          subst hr
          go_wp2_with fail
          go_ret
          exact ⟨rfl, HB4.out⟩
        | false =>
          rw [hin] at hlk
          by_cases h1 : x.f1 < 0
          · have h1b : decide (x.f1 < 0) = true := decide_eq_true h1
            have hr : r = false := by
              have e := H.out
              unfold term_Symbols.f at e
              rw [← HM.out, hdrop.out, symsL, if_pos (by simp [symBad, hn, hin, h1]), Bool.false_and] at e
              injection e with e
              exact e.symm
            clear h1
            subst hr
            go_wp2_with fail
            go_ret
            exact ⟨rfl, HB4.out⟩
          · have h1b : decide (x.f1 < 0) = false := decide_eq_false h1
            by_cases h2 : 4 < x.f1
            · have h2b : decide (4 < x.f1) = true := decide_eq_true h2
              have hr : r = false := by
                have e := H.out
                unfold term_Symbols.f at e
                rw [← HM.out, hdrop.out, symsL, if_pos (by simp [symBad, hn, hin, h1, h2]), Bool.false_and] at e
                injection e with e
                exact e.symm
              clear h1 h2
              subst hr
              go_wp2_with fail
              go_ret
              exact ⟨rfl, HB4.out⟩
            · have h2b : decide (4 < x.f1) = false := decide_eq_false h2
              have HM2 : Aside0 (symsL (l0.drop (i + 1)) (names59 (l0.take (i + 1))) = symsL l0 []) := ⟨by rw [← HM.out, hdrop.out, symsL, if_neg (by simp [symBad, hn, hin, h1, h2]), htake.out]⟩
              have hkey := keyOf_string_mk Try.underlying9 (nameOk_size hn)
              have Hkey := Aside0.mk hkey
              clear h1 h2 hn hin hkey
              go_wp2_with (at_mapUpdate; refine holdI ?_)
              unfold HoldI
              refine wpList_mapUpdate_own (H := Unit) _ rfl (.tmp 33) (.tmp 35) (.const (.bool true)) 64 rfl 9 4 law9 Try.underlying64 (plainElem Try.prog 4) w.heap.size i _ rfl HS4.out (by unfold maxLen; omega) (.string x.f0) (.bool true) (.string x.f0.data.toList) rfl rfl Hkey.out _ [] (plainElem_bool Try.underlying4 true) ?_
              intro w5 hown5 hgrow5
              have HS5 := Aside0.mk (seen_put hown5)
              have HB5 := Aside0.mk (HB4.out.grown hgrow5 HB4.out.size (fun k hk => by injection hk with hk; omega))
              rw [htake.out] at HS5
              clear hown5 hgrow5 hc0 hc1 hlk HS4 HB4 HM
              go_wp2_with fail
              have hk := Hi.out
              obtain ⟨k1, rfl⟩ : ∃ k1, gk = k1 + 1 := ⟨gk - 1, by omega⟩
              go_roundg k1
              case measure => omega
              case rel => exact ⟨i + 1, by go_num, ⟨by omega⟩, HS5, HM2, HB5⟩
    · have hie : i = l0.length := by omega
      have hr : r = decide ((l0.length : Int) ≤ 24) := by
        have e := H.out
        unfold term_Symbols.f at e
        rw [← HM.out, hie, List.drop_length, symsL, Bool.true_and] at e
        injection e with e
        rw [← e]
        exact decide_eq_decide.2 (by omega)
      clear hie
      subst hr
      go_wp2_with fail
      go_ret
      exact ⟨rfl, HB.out⟩
end Go.Proofs.Ytfhgoebgnilfaaa.I
