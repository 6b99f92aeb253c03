/- Contract of infer.Sorts, by hand. -/
import Derived.Test.YtfhgoebgnilfaaaIKM
import Derived.Deep.RegionLaw
namespace Go.Proofs.Ytfhgoebgnilfaaa.I
open Go.RowKit Go.Proofs.YtfhgoebgnilfaaaW.PrintWords Go.Proofs.YtfhgoebgnilfaaaW.PrintLast Go.Proofs.YtfhgoebgnilfaaaW.PrintMore
attribute [local go_sem] max2_int min2_int max_two min_two max_three min_three max_four min_four
set_option linter.unusedVariables false
set_option maxRecDepth 100000
set_option linter.unusedSimpArgs false
set_option maxHeartbeats 8000000 in
theorem infer_Sorts_calls (f : Nat) (A0 : Option Addr) (c0 : Nat) (l0 : List S59) (A1 : Option Addr) (c1 : Nat) (l1 : List S48) (out : List S41) (er : Int) (w : World) (hr0 : Kd.C k59 w A0 l0.length l0) (hc0 : l0.length ≤ c0) (hr1 : Kd.C k48 w A1 l1.length l1) (hc1 : l1.length ≤ c1) (hwf : ∀ x ∈ l1, twf x.f2) (h : fsorts f l0 l1 = some (out, er)) :
    Calls Try.prog 13 #[.slice A0 l0.length c0, .slice A1 l1.length c1] w fun e w' => ∃ v, e = .returned (.tuple #[v, .int .i64 er]) ∧ Kd.R k41 41 w' w.heap.size (fun _ => True) v out ∧ Below w.heap.size w w' := by
  have hu48 := Try.underlying48
  have hu44 := Try.underlying44
  have hu41 := Try.underlying41
  have hu74 := Try.underlying74
  have hu77 := Try.underlying77
  have HR0 := Aside0.mk hr0
  have HC0 := Aside0.mk hc0
  have HR1 := Aside0.mk hr1
  have HC1 := Aside0.mk hc1
  have HW := Aside0.mk hwf
  have hlen1 : l1.length ≤ 9223372036854775807 := hr1.2.1
  unfold fsorts at h
  cases hch : chkF l0 l1 with
  | none => rw [hch] at h; cases h
  | some e0 =>
  rw [hch] at h
  simp only at h
  have HCH := Aside0.mk hch
  clear hr0 hc0 hr1 hc1 hwf hch
  go_enter Try.func13, Try.ntmps13
  go_wp2_with fail
  (with_reducible refine (chkF_calls A0 c0 l0 A1 c1 l1 e0 w HR0.out HC0.out HR1.out HC1.out HW.out HCH.out).mono ?_)
  rintro e w1 ⟨rfl, hb1⟩
  have HB1 := Aside0.mk hb1
  clear hb1
  by_cases he0 : e0 = 0
  · subst he0
    rw [if_pos rfl] at h
    have HH := Aside0.mk h
    clear h
    have hok := fCheck_ok HCH.out
    go_wp2_with (first
     | ((with_reducible refine gate_dst (N := 28) rfl ?_)
        refine box_event ?hg (N := 28) ?hd (cs := #[.pointer none, .bool true, .pointer none, .pointer none]) (t := 74) ?hr ?_
        (case hd => rfl)
        (case hg => rfl)
        (case hr => first | (go_simp; done) | (go_simp; rfl))
        intro go hgo w2 hboxo hbo
        have HBo := Aside0.mk hbo
        have So := Aside0.mk hboxo
        have Hgo := Aside0.mk hgo
        clear hboxo hbo hgo)
     | ((with_reducible refine gate_dst (N := 31) rfl ?_)
        refine box_event ?hg (N := 31) ?hd (cs := #[.pointer (some ⟨go, 0, none⟩), .slice A0 l0.length c0, .slice none 0 0, .slice none 0 0]) (t := 77) ?hr ?_
        (case hd => rfl)
        (case hg => rfl)
        (case hr => first | (go_simp; done) | (go_simp; rfl))
        intro gf hgf w3 hboxf hbf
        have HBf := Aside0.mk hbf
        have Sf := Aside0.mk hboxf
        have Hgf := Aside0.mk hgf
        clear hboxf hbf hgf)
     | ((with_reducible refine gate_dst (N := 34) rfl ?_)
        refine Kd.S_make (Kd.slice 72 (Kd.raw 1)) w.heap.size 75 rfl (N := 34) rfl 78 _ _ rfl (l1.length : Int) rfl rfl Try.underlying78 (.slice none 0 0) 24 (by kernel_rfl) rfl (by decide) (by omega) [] (ok := fun _ => True) (okp := fun _ => True) ⟨_, rfl, Kd.R_nil _ _ _ _ _⟩ (fun _ hk => hk) trivial (by omega) (by omega) (below_step (below_step HB1.out HBo.out) HBf.out) (below_size (below_step (below_step HB1.out HBo.out) HBf.out)) ?_
        intro vp w4 HS hb4 hg4 hat4
        obtain ⟨gp, cp, evp, hgp0, hgp1, _⟩ := Kd.S_form HS (by rw [List.length_replicate]; omega)
        rw [List.length_replicate, Int.toNat_natCast] at evp
        subst evp
        have Hgp := Aside0.mk (And.intro hgp0 hgp1)
        rw [Int.toNat_natCast] at HS
        have HS4 := Aside0.mk HS
        have HB4 := Aside0.mk hb4
        have HG4 := Aside0.mk hg4
        clear HS hb4 hg4 hat4 hgp0 hgp1))
    have hso4 : w4.heap[go]? = some (.cells #[.pointer none, .bool true, .pointer none, .pointer none] 74 (0, 0)) := by
      have h3 := blk_below So.out HBf.out
      exact (HG4.out.block go (blk_lt h3) (by simp)).trans h3
    have hsf4 : w4.heap[gf]? = some (.cells #[.pointer (some ⟨go, 0, none⟩), .slice A0 l0.length c0, .slice none 0 0, .slice none 0 0] 77 (0, 0)) := (HG4.out.block gf (blk_lt Sf.out) (by simp)).trans Sf.out
    have hgo0 : w.heap.size ≤ go := by have := Hgo.out; have := below_size HB1.out; omega
    have H4 : Held w.heap.size [⟨none, true, none, none⟩] [go] w4 := by
      refine ⟨rfl, by simp, fun b hb => by rw [List.mem_singleton] at hb; omega, fun i n hn => ?_, fun i n hn => ?_⟩
      · cases i with
        | zero => injection hn with hn; subst hn; exact hso4
        | succ i => cases hn
      · cases i with
        | zero => injection hn with hn; subst hn; exact ⟨(by intro j hj; cases hj), (by intro j hj; cases hj), (by intro j hj; cases hj)⟩
        | succ i => cases hn
    have hgf0 : w.heap.size ≤ gf := by have := Hgf.out; have := below_size HB1.out; have := below_size HBo.out; omega
    have HM0 := Aside0.mk (show Mem gf gp cp l1.length A0 l0.length c0 w [⟨none, true, none, none⟩] [go] (List.replicate l1.length []) [] none 0 (.slice none 0 0) w4 from
      ⟨H4, by decide, by rw [List.map_replicate]; exact Kd.S_mono HS4.out (fun k _ => by simp [Value.ownBlock]), Kd.R_nil _ _ _ _ _, hsf4, (fun ps hp p hq => by rw [(List.mem_replicate.1 hp).2] at hq; cases hq), (fun p hp => by cases hp), hgf0, HB4.out⟩)
    generalize hHd : fheads [⟨none, true, none, none⟩] l1 = hd at *
    have HHd := Aside0.mk hHd
    clear So Sf HBo HBf HG4 H4 HS4 hso4 hsf4 HB4 hgo0 hgf0 hHd Hgo Hgf Hgp
    go_loopg [37] l1.length (fun kq v37 wr => ∃ (i : Nat) (s1 : List KN) (ad1 : List Nat) (psd : List (List Nat)) (funs : List Nat) (Af : Option Addr) (cf : Nat), v37 = .int .i64 (i : Int) ∧ Aside0 (i + kq = l1.length ∧ psd.length = i ∧ funs.length = i) ∧ Aside0 (((psd ++ (fheads s1 (l1.drop i)).1.1, funs ++ (fheads s1 (l1.drop i)).1.2), (fheads s1 (l1.drop i)).2) = hd) ∧ Aside0 (Mem gf gp cp l1.length A0 l0.length c0 w s1 ad1 (psd ++ List.replicate (l1.length - i) []) funs Af cf (.slice none 0 0) wr))
    case atStart =>
      exact ⟨0, _, [go], [], [], none, 0, rfl, ⟨by omega, rfl, rfl⟩, ⟨by rw [← HHd.out]; rfl⟩, HM0⟩
    case round =>
      clear HM0
      obtain ⟨i, s1, ad1, psd, funs, Af, cf, rfl, Hi, HF, HM⟩ := hrel
      by_cases hlt : i < l1.length
      · cases gk with
        | zero => exact absurd Hi.out.1 (by omega)
        | succ k1 =>
        have Hlt := Aside0.mk hlt
        have HX := Aside0.mk (rd_T48_drop l1 i hlt)
        obtain ⟨ad0, A4, c4, he, hx1, hx2, hx3, hx4, hx5, hl4, hC4⟩ := at_T48 HR1.out (i : Int) (by omega) (by omega)
        cases he
        replace hx1 := (HM.out.below.cell (World.block_lt_of_cell? w _ hx1)).trans hx1
        replace hx2 := (HM.out.below.cell (World.block_lt_of_cell? w _ hx2)).trans hx2
        replace hx3 := (HM.out.below.cell (World.block_lt_of_cell? w _ hx3)).trans hx3
        replace hx4 := (HM.out.below.cell (World.block_lt_of_cell? w _ hx4)).trans hx4
        replace hx5 := (HM.out.below.cell (World.block_lt_of_cell? w _ hx5)).trans hx5
        rw [Int.toNat_natCast] at hx1 hx2 hx3 hx4 hx5
        have Hl4 := Aside0.mk hl4
        have HC4 := Aside0.mk hC4
        clear hl4 hC4
        have p1 : (0 ≤ (i : Int)) = True := eq_true (by omega)
        have p2 : ((i : Int) < (l1.length : Int)) = True := eq_true (by omega)
        have p3 : (i < l1.length) = True := eq_true (by omega)
        generalize hx : rd_T48 l1 (i : Int) = x at *
        clear hx
        go_wp2_with (
          (with_reducible refine gate_dst (N := 10) rfl ?_)
          refine box_event ?hg (N := 10) ?hd (cs := #[.string (⟨#[]⟩ : ByteArray), .int .i64 0, .int .i64 0, .int .i64 0, .slice none 0 0]) (t := 48) ?hr ?_
          (case hd => rfl)
          (case hg => rfl)
          (case hr => first | (go_simp; done) | (go_simp; rfl))
          intro gi hgi w3 hbox hb3
          have hgw : wr.heap.size ≤ gi := by omega
          have HM3 := Aside0.mk (HM.out.sub (below_set (g := gi) (j := 4) (v := .slice A4 x.f2.f2.length c4) (below_set (g := gi) (j := 3) (v := .int .i64 x.f2.f1) (below_set (g := gi) (j := 2) (v := .int .i64 x.f2.f0) (below_set (g := gi) (j := 1) (v := .int .i64 x.f1) (below_set (g := gi) (j := 0) (v := .string x.f0) hb3 hgw) hgw) hgw) hgw) hgw))
          have Hgi := Aside0.mk (blk_put (cs' := #[.string x.f0, .int .i64 x.f1, .int .i64 x.f2.f0, .int .i64 x.f2.f1, .slice A4 x.f2.f2.length c4]) (blk_put (cs' := #[.string x.f0, .int .i64 x.f1, .int .i64 x.f2.f0, .int .i64 x.f2.f1, .slice none 0 0]) (blk_put (cs' := #[.string x.f0, .int .i64 x.f1, .int .i64 x.f2.f0, .int .i64 0, .slice none 0 0]) (blk_put (cs' := #[.string x.f0, .int .i64 x.f1, .int .i64 0, .int .i64 0, .slice none 0 0]) (blk_put (cs' := #[.string x.f0, .int .i64 0, .int .i64 0, .int .i64 0, .slice none 0 0]) (hbox) 0 (.string x.f0) rfl) 1 (.int .i64 x.f1) rfl) 2 (.int .i64 x.f2.f0) rfl) 3 (.int .i64 x.f2.f1) rfl) 4 (.slice A4 x.f2.f2.length c4) rfl)
          have hci1 : (((((w3.setCell ⟨gi, 0, none⟩ (.string x.f0)).setCell ⟨gi, 1, none⟩ (.int .i64 x.f1)).setCell ⟨gi, 2, none⟩ (.int .i64 x.f2.f0)).setCell ⟨gi, 3, none⟩ (.int .i64 x.f2.f1)).setCell ⟨gi, 4, none⟩ (.slice A4 x.f2.f2.length c4)).cell? ⟨gi, 1, none⟩ = some (.int .i64 x.f1) := (blk_cell Hgi.out 1).trans rfl
          have hcz0 := (blk_cell hbox 0).trans rfl
          have hfz0 := blk_frozen hbox 0
          have hcz1 := (blk_cell hbox 1).trans rfl
          have hfz1 := blk_frozen hbox 1
          have hcz2 := (blk_cell hbox 2).trans rfl
          have hfz2 := blk_frozen hbox 2
          have hcz3 := (blk_cell hbox 3).trans rfl
          have hfz3 := blk_frozen hbox 3
          have hcz4 := (blk_cell hbox 4).trans rfl
          have hfz4 := blk_frozen hbox 4
          clear hbox hb3 hgi hgw)
        clear hci1 hcz0 hcz1 hcz2 hcz3 hcz4 hfz0 hfz1 hfz2 hfz3 hfz4 hx1 hx2 hx3 hx4 hx5 HM
        generalize (((((w3.setCell ⟨gi, 0, none⟩ (.string x.f0)).setCell ⟨gi, 1, none⟩ (.int .i64 x.f1)).setCell ⟨gi, 2, none⟩ (.int .i64 x.f2.f0)).setCell ⟨gi, 3, none⟩ (.int .i64 x.f2.f1)).setCell ⟨gi, 4, none⟩ (.slice A4 x.f2.f2.length c4)) = wq at *
        have hprm := (hok.2.2.2.2 x (by have := HX.out; have h2 : x ∈ l1.drop i := (by rw [this]; exact List.mem_cons_self); exact List.mem_of_mem_drop h2))
        go_loopg [44] x.f1.toNat (fun kq v44 wr => ∃ (j : Nat) (e2 : List Nat), v44 = .int .i64 (j : Int) ∧ Aside0 (j + kq = x.f1.toNat ∧ e2.length = j) ∧ Aside0 (Mem gf gp cp l1.length A0 l0.length c0 w (s1 ++ List.replicate j kbare) (ad1 ++ e2) (psd ++ List.range' s1.length j :: List.replicate (l1.length - i - 1) []) funs Af cf (.slice none 0 0) wr) ∧ Aside0 (wr.heap[gi]? = some (.cells #[.string x.f0, .int .i64 x.f1, .int .i64 x.f2.f0, .int .i64 x.f2.f1, .slice A4 x.f2.f2.length c4] 48 (0, 0))))
        case atStart =>
          exact ⟨0, [], rfl, ⟨by omega, rfl⟩, ⟨by
            have h := HM3.out
            rw [show l1.length - i = (l1.length - i - 1) + 1 from by omega, List.replicate_succ] at h
            rw [List.replicate_zero, List.append_nil, List.append_nil]
            exact h⟩, Hgi⟩
        case round =>
          clear HM3 Hgi
          obtain ⟨j, e2, rfl, Hj, HM, Hgi⟩ := hrel
          have hget : (psd ++ List.range' s1.length j :: List.replicate (l1.length - i - 1) []).getD i [] = List.range' s1.length j := by
            have hp := Hi.out.2.1
            rw [List.getD_eq_getElem?_getD, List.getElem?_append_right (by omega), hp, Nat.sub_self]
            rfl
          by_cases hjl : (j : Int) < x.f1
          · cases gk with
            | zero => exact absurd Hj.out.1 (by omega)
            | succ k2 =>
            obtain ⟨oki, A7, c7, hcell, hR, hoki, hH⟩ := HM.out.lend hlt
            rw [hget, List.length_range'] at hcell hR hH
            have HG := Aside0.mk hget
            have HRr := Aside0.mk hR
            have HHo := Aside0.mk hH
            have Hoki := Aside0.mk hoki
            have Hcell := Aside0.mk hcell
            clear hget hR hH hoki
            go_wp2_with (first
             | ((with_reducible refine gate_dst (N := 53) rfl ?_)
                refine box_event ?hg (N := 53) ?hd (cs := #[.pointer none, .bool false, .pointer none, .pointer none]) (t := 74) ?hr ?_
                (case hd => rfl)
                (case hg => rfl)
                (case hr => first | (go_simp; done) | (go_simp; rfl))
                intro g5 hg5 w5 hbox hb5
                have H5 := Aside0.mk (Held.push (n := kbare) HM.out.held hb5 (Nat.le_of_eq hg5.symm) HM.out.below.size ⟨(by intro j hj; cases hj), (by intro j hj; cases hj), (by intro j hj; cases hj)⟩ hbox)
                have HB5 := Aside0.mk hb5
                have Hg5 := Aside0.mk hg5
                clear hbox hb5 hg5)
             | (at_builtin; refine holdI5 ?_))
            unfold HoldI5
            refine Kd.R_append (Kd.raw 1) (w0 := w) w.heap.size rfl (.tmp 51) (.tmp 54) 75 72 (.pointer none) 8 rfl Try.underlying75 (by kernel_rfl) rfl (by decide) (by omega) (.slice A7 j c7) (kds (ad1 ++ e2) (List.range' s1.length j)) [.pointer (some ⟨g5, 0, none⟩)] [.pointer (some ⟨g5, 0, none⟩)] (fun k => oki k ∨ some k ≠ (Value.slice Af funs.length cf).ownBlock ∧ wr.heap.size ≤ k) (fun k => (oki k ∨ some k ≠ (Value.slice Af funs.length cf).ownBlock ∧ wr.heap.size ≤ k) ∧ some k ≠ (Value.slice A7 j c7).ownBlock) rfl rfl ?aP (fun _ hk => hk) ?aF ?aO ?aB ?aS ?aL ?_
            (case aP => exact ⟨rfl, rfl, by intro u hu; rw [List.mem_singleton] at hu; subst hu; rfl⟩)
            (case aB => exact below_step HM.out.below HB5.out)
            (case aF => intro k hk; right; have := below_size HB5.out; exact ⟨fun he => by have := Kd.R_lt HM.out.funs k he.symm; omega, by omega⟩)
            (case aO => exact Kd.R_mono (Kd.R_below HRr.out HB5.out) (fun k hk => .inl hk))
            (case aS => exact (below_step HM.out.below HB5.out).size)
            (case aL => rw [kds_len, List.length_range']; omega)
            intro v2 w6 ho hb hg2 hat
            obtain ⟨A2, c2, e2'⟩ := Kd.R_slice ho
            rw [List.length_append, kds_len, List.length_range'] at e2'
            subst e2'
            have HOn := Aside0.mk ho
            have HBn := Aside0.mk hb
            have HG2 := Aside0.mk hg2
            clear ho hb hg2 hat
            go_wp2_with ((with_reducible refine gate_store (p := 56) rfl ?_); refine holdI5 ?_)
            unfold HoldI5
            refine Kd.H_store KR (w0 := w) w.heap.size rfl rfl 75 (.tmp 56) (.tmp 55) rfl 75 (g := gp) (n := l1.length) (cap := cp) (o' := i) (i : Int) 0 ((psd ++ List.range' s1.length j :: List.replicate (l1.length - i - 1) []).map (kds (ad1 ++ e2))) (kds (ad1 ++ e2) (List.range' s1.length j) ++ [[.pointer (some ⟨g5, 0, none⟩)]]) (.slice A2 (j + 1) c2) [.slice A2 (j + 1) c2] [.slice A7 j c7] (fun k => some k ≠ (Value.slice Af funs.length cf).ownBlock) (fun k => oki k ∨ some k ≠ (Value.slice Af funs.length cf).ownBlock ∧ wr.heap.size ≤ k) (fun k => oki k ∨ some k ≠ (Value.slice Af funs.length cf).ownBlock ∧ wr.heap.size ≤ k) rfl (by show i = i * 1 + 0; omega) rfl rfl (by kernel_rfl) (by intro q hq; rw [List.mem_singleton] at hq; subst hq; rfl) ?sO (by omega) (by omega) (by show 0 + 1 ≤ 1; omega) ?sM (fun _ hk => hk) HBn.out ?_
            (case sO => exact Kd.H_grown (Kd.H_below (Kd.H_widen HHo.out) HB5.out) HG2.out (fun k hk => .inl (HRr.out.1 k hk)))
            (case sM => exact ⟨_, rfl, HOn.out⟩)
            intro w7 hs7 hb7 hg7
            have hg5e : pk (ad1 ++ e2 ++ [g5]) (s1 ++ List.replicate j kbare).length = .pointer (some ⟨g5, 0, none⟩) := by unfold pk; rw [bk_new HM.out.held.len]
            have HM7 := HM.out.put hlt Hoki.out (by rw [HG.out]; exact HRr.out) HB5.out H5.out HG2.out hg7 hb7 (by rw [HG.out, hg5e]; exact hs7)
            rw [HG.out] at HM7
            have tg : ∃ cells, w5.heap[gp]? = some (.cells cells 75 (0, 0)) := by
              obtain ⟨cells, hc⟩ := Kd.S_typed HM.out.rows gp (by simp [Value.ownBlock])
              exact ⟨cells, blk_below hc HB5.out⟩
            have Hgi7 := Aside0.mk (blk_grownT (blk_grownT (blk_below Hgi.out HB5.out) HG2.out (fun k hk => by obtain ⟨c, hk'⟩ := Kd.R_typed (Kd.R_below HRr.out HB5.out) k hk; exact ⟨72, c, by decide, hk'⟩)) hg7 (fun k hk => by
              injection hk with hk
              subst hk
              obtain ⟨c, hc⟩ := tg
              exact ⟨75, c, by decide, blk_grownT hc HG2.out (fun k hk => by obtain ⟨c, hk'⟩ := Kd.R_typed (Kd.R_below HRr.out HB5.out) k hk; exact ⟨72, c, by decide, hk'⟩)⟩))
            have HM8 := Aside0.mk (show Mem gf gp cp l1.length A0 l0.length c0 w (s1 ++ List.replicate (j + 1) kbare) (ad1 ++ (e2 ++ [g5])) (psd ++ List.range' s1.length (j + 1) :: List.replicate (l1.length - i - 1) []) funs Af cf (.slice none 0 0) w7 from by
              have e1 : s1 ++ List.replicate (j + 1) kbare = s1 ++ List.replicate j kbare ++ [kbare] := by rw [List.replicate_succ', List.append_assoc]
              have e3 : List.range' s1.length (j + 1) = List.range' s1.length j ++ [(s1 ++ List.replicate j kbare).length] := by
                rw [List.range'_concat, List.length_append, List.length_replicate]; simp
              have e4 : (psd ++ List.range' s1.length j :: List.replicate (l1.length - i - 1) []).set i (List.range' s1.length j ++ [(s1 ++ List.replicate j kbare).length]) = psd ++ List.range' s1.length (j + 1) :: List.replicate (l1.length - i - 1) [] := by
                rw [List.set_append_right _ _ (by have := Hi.out.2.1; omega), Hi.out.2.1, Nat.sub_self, List.set_cons_zero, e3]
              rw [e1, ← e4, ← List.append_assoc]
              exact HM7)
            have HL := Aside0.mk (show (j + 1) + k2 = x.f1.toNat ∧ (e2 ++ [g5]).length = j + 1 from ⟨by have := Hj.out.1; omega, by rw [List.length_append, Hj.out.2]; rfl⟩)
            clear hs7 hb7 hg7 hg5e HM7 tg HM Hgi H5 HB5 HG HRr HHo Hoki Hcell HOn HBn HG2 hcell
            go_wp2_with fail
            go_roundg k2
            case measure => omega
            case rel => exact ⟨j + 1, _, by go_num, HL, HM8, Hgi7⟩
          · have hje : j = x.f1.toNat := by have := Hj.out.1; omega
            obtain ⟨oki, A7, c7, hcell, hR, hoki, hH⟩ := HM.out.lend hlt
            have hmem : ∀ p, p ∈ List.range' s1.length j → p < (ad1 ++ e2).length := fun p hp => by
              have h1 := HM.out.brows _ (List.mem_append_right _ List.mem_cons_self) p hp
              rw [HM.out.held.len]
              exact h1
            have HP := Aside0.mk (Ptrs_of_R (ps := List.range' s1.length j) (by rw [hget] at hR; exact hR) hmem (by rw [List.length_range']; omega))
            rw [hget, List.length_range'] at hcell
            have HG := Aside0.mk hget
            have hfin := blk_cell HM.out.fin 2
            have hc2 : wr.cell? ⟨gf, 2, none⟩ = some (.slice Af funs.length cf) := hfin.trans rfl
            have HMq := Aside0.mk (HM.out.sub (below_drew (Below.refl _ _)))
            have Hgiq := Aside0.mk (blk_drew Hgi.out)
            have Hje := Aside0.mk hje
            have hfl : funs.length ≤ 64 := by have := Hi.out.2.2; have := hok.2.2.2.1; omega
            generalize hAD : ad1 ++ e2 = ad2 at *
            generalize hSS : s1 ++ List.replicate j kbare = s2 at *
            have HAD := Aside0.mk hAD
            have HSS := Aside0.mk hSS
            have HFN := Aside0.mk (show (((psd ++ [List.range' s1.length j] ++ (fheads (farrow s2 0 (List.range' s1.length j)).2 (l1.drop (i + 1))).1.1, funs ++ [(farrow s2 0 (List.range' s1.length j)).1] ++ (fheads (farrow s2 0 (List.range' s1.length j)).2 (l1.drop (i + 1))).1.2), (fheads (farrow s2 0 (List.range' s1.length j)).2 (l1.drop (i + 1))).2) = hd) from by
              have e := HF.out
              rw [HX.out] at e
              unfold fheads at e
              simp only at e
              rw [← Hje.out, HSS.out] at e
              rw [List.append_assoc, List.append_assoc]
              exact e)
            have HRN := Aside0.mk (show psd ++ List.range' s1.length j :: List.replicate (l1.length - i - 1) [] = psd ++ [List.range' s1.length j] ++ List.replicate (l1.length - (i + 1)) [] from by rw [List.append_assoc]; rfl)
            clear hAD hSS
            clear hget hR hoki hH hmem hfin hje
            go_wp2_with fail
            go_region_law (first
              | (refine Kd.R_append_step (Kd.raw 1) (w0 := w) w.heap.size rfl (.tmp 62) (.tmp 69) 75 72 (.pointer none) 8 rfl Try.underlying75 (by kernel_rfl) rfl (by decide) (by omega) (.slice Af funs.length cf) (kds (ad2 ++ e3) funs) [pk (ad2 ++ e3) (farrow s2 0 (List.range' s1.length j)).1] [pk (ad2 ++ e3) (farrow s2 0 (List.range' s1.length j)).1] (fun _ => True) (fun k => True ∧ some k ≠ (Value.slice Af funs.length cf).ownBlock) rfl rfl (by exact ⟨rfl, rfl, by intro u hu; rw [List.mem_singleton] at hu; subst hu; rfl⟩) (fun _ hk => hk) (fun _ _ => trivial) HMA.out.funs HMA.out.below HMA.out.below.size (by rw [kds_len]; omega) ?_
                 intro v2 w6 ho hb hg2 hat
                 obtain ⟨A2, c2, e2'⟩ := Kd.R_slice ho
                 rw [List.length_append, kds_len] at e2'
                 simp only [List.length_cons, List.length_nil, Nat.zero_add] at e2'
                 subst e2'
                 have HM9 := Aside0.mk (HMA.out.putFun HkA.out hg2 ho hb hat)
                 have HF6 := Aside0.mk (blk_grownT HMA.out.fin hg2 (fun k hk => by obtain ⟨c, hc⟩ := Kd.R_typed HMA.out.funs k hk; exact ⟨72, c, by decide, hc⟩))
                 have Hgi9 := Aside0.mk (blk_far (p := ⟨gf, 2, none⟩) (blk_grownT HgiA.out hg2 (fun k hk => by obtain ⟨c, hc⟩ := Kd.R_typed HMA.out.funs k hk; exact ⟨72, c, by decide, hc⟩)) (blk_ne HgiA.out HMA.out.fin (by decide)) (.slice A2 (funs.length + 1) c2))
                 have hc6 : w6.cell? ⟨gf, 2, none⟩ = some (.slice Af funs.length cf) := (blk_cell HF6.out 2).trans rfl
                 have hz6 : w6.frozen? ⟨gf, 2, none⟩ = false := blk_frozen HF6.out 2
                 clear ho hb hg2 hat HMA HgiA HF6)
              | (go_simp
                 go_at_call 37
                 refine Calls.mono (calls_of_args (by rw [List.length_range']) (arrow_calls w.heap.size s2 ad2 0 A7 c7 (List.range' s1.length j) gf _ _ _ _ HMq.out.held HMq.out.pos HMq.out.below.size (Ptrs.move HP.out (fun a _ => rfl)) HMq.out.fin)) ?_
                 rintro e wA ⟨e3, rfl, hA, hbA, hkA, hnA⟩
                 have HMA := Aside0.mk (HMq.out.grow hA hbA)
                 have HgiA := Aside0.mk (blk_below Hgiq.out hbA)
                 have hcA : wA.cell? ⟨gf, 2, none⟩ = some (.slice Af funs.length cf) := (blk_cell HMA.out.fin 2).trans rfl
                 have hcA2 : ∀ o : Obj, (wA.alloc o).cell? ⟨gf, 2, none⟩ = some (.slice Af funs.length cf) := fun o => (blk_cell (blk_alloc HMA.out.fin o) 2).trans rfl
                 have HkA := Aside0.mk hkA
                 clear hA hbA hkA hnA))
            all_goals rw [HRN.out] at HM9
            all_goals generalize (w6.setCell { block := gf, off := 2 } (Value.slice A2 (funs.length + 1) c2)) = w9 at *
            all_goals clear hc6 hz6 hcA hcA2 HMq Hgiq HP hc2 hcell
            all_goals go_wp2_with fail
            all_goals go_roundg k1
            all_goals try (case measure => omega)
            all_goals (case rel => exact ⟨i + 1, _, _, psd ++ [List.range' s1.length j], funs ++ [(farrow s2 0 (List.range' s1.length j)).1], A2, c2, by go_num, ⟨by have := Hi.out.1; omega, by rw [List.length_append, Hi.out.2.1]; rfl, by rw [List.length_append, Hi.out.2.2]; rfl⟩, HFN, HM9⟩)
      · have hie : i = l1.length := by have := Hi.out.1; omega
        subst hie
        have hhd : hd = ((psd, funs), s1) := by
          have e := HF.out
          rw [List.drop_length] at e
          rw [← e]
          simp [fheads]
        subst hhd
        have HM' := Aside0.mk (show Mem gf gp cp l1.length A0 l0.length c0 w s1 ad1 psd funs Af cf (.slice none 0 0) wr from by
          have h := HM.out
          rw [Nat.sub_self, List.replicate_zero, List.append_nil] at h
          exact h)
        have HPL := Aside0.mk Hi.out.2
        have h := HH.out
        simp only at h
        cases hfb : fbodies l0 funs f s1 psd l1 with
        | none => rw [hfb] at h; cases h
        | some q =>
        obtain ⟨bF, sF⟩ := q
        rw [hfb] at h
        have HFB := Aside0.mk hfb
        have HH2 := Aside0.mk h
        clear hfb h HF HM HHd Hi HH
        go_wp2_with fail
        go_loopg [76] l1.length (fun kq v76 wr => ∃ (i : Nat) (s2 : List KN) (ad2 : List Nat) (pr : Value), v76 = .int .i64 (i : Int) ∧ Aside0 (i + kq = l1.length) ∧ Aside0 (fbodies l0 funs f s2 (psd.drop i) (l1.drop i) = some (bF, sF)) ∧ Aside0 (Mem gf gp cp l1.length A0 l0.length c0 w s2 ad2 psd funs Af cf pr wr))
        case atStart => exact ⟨0, s1, ad1, _, rfl, ⟨by omega⟩, HFB, HM'⟩
        case round =>
          clear HFB HM' 
          obtain ⟨i, s2, ad2, pr, rfl, Hi, HFB, HM⟩ := hrel
          by_cases hlt : i < l1.length
          · cases gk with
            | zero => exact absurd Hi.out (by omega)
            | succ k1 =>
            have Hlt := Aside0.mk hlt
            have HX := Aside0.mk (rd_T48_drop l1 i hlt)
            obtain ⟨ad0, A4, c4, he, hx1, hx2, hx3, hx4, hx5, hl4, hC4⟩ := at_T48 HR1.out (i : Int) (by omega) (by omega)
            cases he
            replace hx1 := (HM.out.below.cell (World.block_lt_of_cell? w _ hx1)).trans hx1
            replace hx2 := (HM.out.below.cell (World.block_lt_of_cell? w _ hx2)).trans hx2
            replace hx3 := (HM.out.below.cell (World.block_lt_of_cell? w _ hx3)).trans hx3
            replace hx4 := (HM.out.below.cell (World.block_lt_of_cell? w _ hx4)).trans hx4
            replace hx5 := (HM.out.below.cell (World.block_lt_of_cell? w _ hx5)).trans hx5
            rw [Int.toNat_natCast] at hx1 hx2 hx3 hx4 hx5
            have Hl4 := Aside0.mk hl4
            have HC4 := Aside0.mk hC4
            clear hl4 hC4
            have p1 : (0 ≤ (i : Int)) = True := eq_true (by omega)
            have p2 : ((i : Int) < (l1.length : Int)) = True := eq_true (by omega)
            have p3 : (i < l1.length) = True := eq_true (by omega)
            generalize hx : rd_T48 l1 (i : Int) = x at *
            clear hx
            go_upto_region 18 with (
              (with_reducible refine gate_dst (N := 12) rfl ?_)
              refine box_event ?hg (N := 12) ?hd (cs := #[.string (⟨#[]⟩ : ByteArray), .int .i64 0, .int .i64 0, .int .i64 0, .slice none 0 0]) (t := 48) ?hr ?_
              (case hd => rfl)
              (case hg => rfl)
              (case hr => first | (go_simp; done) | (go_simp; rfl))
              intro gi hgi w3 hbox hb3
              have hgw : wr.heap.size ≤ gi := by omega
              have HM3 := Aside0.mk (HM.out.sub (below_set (g := gi) (j := 4) (v := .slice A4 x.f2.f2.length c4) (below_set (g := gi) (j := 3) (v := .int .i64 x.f2.f1) (below_set (g := gi) (j := 2) (v := .int .i64 x.f2.f0) (below_set (g := gi) (j := 1) (v := .int .i64 x.f1) (below_set (g := gi) (j := 0) (v := .string x.f0) hb3 hgw) hgw) hgw) hgw) hgw))
              have Hgi := Aside0.mk (blk_put (cs' := #[.string x.f0, .int .i64 x.f1, .int .i64 x.f2.f0, .int .i64 x.f2.f1, .slice A4 x.f2.f2.length c4]) (blk_put (cs' := #[.string x.f0, .int .i64 x.f1, .int .i64 x.f2.f0, .int .i64 x.f2.f1, .slice none 0 0]) (blk_put (cs' := #[.string x.f0, .int .i64 x.f1, .int .i64 x.f2.f0, .int .i64 0, .slice none 0 0]) (blk_put (cs' := #[.string x.f0, .int .i64 x.f1, .int .i64 0, .int .i64 0, .slice none 0 0]) (blk_put (cs' := #[.string x.f0, .int .i64 0, .int .i64 0, .int .i64 0, .slice none 0 0]) (hbox) 0 (.string x.f0) rfl) 1 (.int .i64 x.f1) rfl) 2 (.int .i64 x.f2.f0) rfl) 3 (.int .i64 x.f2.f1) rfl) 4 (.slice A4 x.f2.f2.length c4) rfl)
              have hci1 : (((((w3.setCell ⟨gi, 0, none⟩ (.string x.f0)).setCell ⟨gi, 1, none⟩ (.int .i64 x.f1)).setCell ⟨gi, 2, none⟩ (.int .i64 x.f2.f0)).setCell ⟨gi, 3, none⟩ (.int .i64 x.f2.f1)).setCell ⟨gi, 4, none⟩ (.slice A4 x.f2.f2.length c4)).cell? ⟨gi, 1, none⟩ = some (.int .i64 x.f1) := (blk_cell Hgi.out 1).trans rfl
              have hcz0 := (blk_cell hbox 0).trans rfl
              have hfz0 := blk_frozen hbox 0
              have hcz1 := (blk_cell hbox 1).trans rfl
              have hfz1 := blk_frozen hbox 1
              have hcz2 := (blk_cell hbox 2).trans rfl
              have hfz2 := blk_frozen hbox 2
              have hcz3 := (blk_cell hbox 3).trans rfl
              have hfz3 := blk_frozen hbox 3
              have hcz4 := (blk_cell hbox 4).trans rfl
              have hfz4 := blk_frozen hbox 4
              clear hbox hb3 hgi hgw)
            clear hci1 hcz0 hcz1 hcz2 hcz3 hcz4 hfz0 hfz1 hfz2 hfz3 hfz4 hx1 hx2 hx3 hx4 hx5 HM
            generalize (((((w3.setCell ⟨gi, 0, none⟩ (.string x.f0)).setCell ⟨gi, 1, none⟩ (.int .i64 x.f1)).setCell ⟨gi, 2, none⟩ (.int .i64 x.f2.f0)).setCell ⟨gi, 3, none⟩ (.int .i64 x.f2.f1)).setCell ⟨gi, 4, none⟩ (.slice A4 x.f2.f2.length c4)) = wq at *
            have hpi : i < psd.length := by rw [HPL.out.1]; exact hlt
            have hrow : psd.getD i [] = psd[i] := by rw [List.getD_eq_getElem?_getD, List.getElem?_eq_getElem hpi]; rfl
            have hdp : psd.drop i = psd[i] :: psd.drop (i + 1) := List.drop_eq_getElem_cons hpi
            obtain ⟨oki, A7, c7, hcell, hR, hoki, hH⟩ := HM3.out.lend hlt
            rw [hrow] at hcell hR
            have hpsl : ∀ p, p ∈ psd[i] → p < s2.length := HM3.out.brows _ (List.getElem_mem hpi)
            generalize psd[i] = ps at *
            have hc3 : wq.cell? ⟨gf, 3, none⟩ = some pr := (blk_cell HM3.out.fin 3).trans rfl
            have hz3 : wq.frozen? ⟨gf, 3, none⟩ = false := blk_frozen HM3.out.fin 3
            have HM4 := Aside0.mk (HM3.out.setPr (.slice A7 ps.length c7))
            have HRp := Aside0.mk (Kd.R_set (Kd.R_mono hR (fun _ _ => trivial)) HM3.out.fin (by decide) 3 (.slice A7 ps.length c7))
            have Hgi4 := Aside0.mk (blk_far (p := ⟨gf, 3, none⟩) Hgi.out (blk_ne Hgi.out HM3.out.fin (by decide)) (.slice A7 ps.length c7))
            have HDP := Aside0.mk hdp
            have HPSL := Aside0.mk hpsl
            clear hrow hdp hR hoki hH hpsl HM3 Hgi
            go_upto_region 19 with (fail)
            clear hc3 hz3 hcell
            generalize (wq.setCell { block := gf, off := 3 } (.slice A7 ps.length c7)) = wp at *
            have hb2 : wp.cell? ⟨gi, 2, none⟩ = some (.int .i64 x.f2.f0) := (blk_cell Hgi4.out 2).trans rfl
            have hb3 : wp.cell? ⟨gi, 3, none⟩ = some (.int .i64 x.f2.f1) := (blk_cell Hgi4.out 3).trans rfl
            have hb4 : wp.cell? ⟨gi, 4, none⟩ = some (.slice A4 x.f2.f2.length c4) := (blk_cell Hgi4.out 4).trans rfl
            have hfb := HFB.out
            rw [HDP.out, HX.out] at hfb
            unfold fbodies at hfb
            cases hft : fterm ⟨0, l0, funs, ps⟩ f s2 x.f2.f0 x.f2.f1 x.f2.f2 with
            | none => rw [hft] at hfb; cases hfb
            | some q =>
            obtain ⟨r, s3⟩ := q
            rw [hft] at hfb
            have HFT := Aside0.mk hft
            have HFN := Aside0.mk hfb
            clear hft hfb HFB
            go_wp2_with fail
            have hpl : ps.length ≤ 9223372036854775807 := by
              have h := (Kd.R_reads' HRp.out).2.2.2.1
              rw [kds_len] at h
              exact h
            have hfl : funs.length ≤ 9223372036854775807 := by rw [HPL.out.2]; exact hlen1
            (with_reducible refine (term_calls w.heap.size ⟨0, l0, funs, ps⟩ gf (fun x hx => by have := symsL_le l0 [] hok.1 x hx; omega) f s2 ad2 x.f2.f0 x.f2.f1 x.f2.f2 A4 c4 r s3 w wp HM4.out.held A0 c0 (HM4.out.find HRp.out HPSL.out hpl hfl) HR0.out HM4.out.below.size (Nat.le_refl _) HC4.out Hl4.out HM4.out.below HFT.out).mono ?_)
            rintro e w5 ⟨e1, v, rfl, hv1, hv2, hH5, hT5, hn5⟩
            have HM5 := Aside0.mk (HM4.out.turn hH5 hT5)
            have hfn := HFN.out
            clear hH5 hT5 hn5 HM4 HRp Hgi4 hb2 hb3 hb4 hpl hfl HFN HPSL
            cases r with
            | none =>
              injection hfn with e
              injection e with ea eb
              subst ea eb
              have hh := HH2.out
              injection hh with hh
              injection hh with ha hb
              subst ha hb
              have hv := hv2 rfl
              subst hv
              clear hv1 hv2
              go_wp2_with fail
              go_ret2
              exact ⟨_, rfl, Kd.R_nil _ _ _ _ _, HM5.out.below⟩
            | some k =>
              obtain ⟨hv, hkl⟩ := hv1 k rfl
              subst hv
              simp only at hfn
              clear hv1 hv2
              cases hj : fjoin f s3 k 0 with
              | none => rw [hj] at hfn; cases hfn
              | some q =>
              obtain ⟨rj, s4⟩ := q
              rw [hj] at hfn
              have HJ := Aside0.mk hj
              have HFN := Aside0.mk hfn
              have hc0 : w5.cell? ⟨gf, 0, none⟩ = some (pk (ad2 ++ e1) 0) := (blk_cell HM5.out.fin 0).trans rfl
              clear hj hfn
              go_wp2_with fail
              (with_reducible refine (join_calls w.heap.size (ad2 ++ e1) f s3 k 0 rj s4 w5 HM5.out.held HJ.out).mono ?_)
              rintro e w6 ⟨rfl, hH6, hT6⟩
              have HM6 := Aside0.mk (show Mem gf gp cp l1.length A0 l0.length c0 w s4 (ad2 ++ e1) psd funs Af cf (.slice A7 ps.length c7) w6 from by
                have h := HM5.out.turn (e' := []) (by rw [List.append_nil]; exact hH6) hT6
                rw [List.append_nil] at h
                exact h)
              have hfn := HFN.out
              clear hH6 hT6 HM5 hc0 HFN
              cases rj with
              | false =>
                injection hfn with e
                injection e with ea eb
                subst ea eb
                have hh := HH2.out
                injection hh with hh
                injection hh with ha hb
                subst ha hb
                go_wp2_with fail
                go_ret2
                exact ⟨_, rfl, Kd.R_nil _ _ _ _ _, HM6.out.below⟩
              | true =>
                simp only at hfn
                have HFN := Aside0.mk hfn
                clear hfn
                go_wp2_with fail
                go_roundg k1
                case measure => omega
                case rel => exact ⟨i + 1, s4, ad2 ++ e1, _, by go_num, ⟨by have := Hi.out; omega⟩, HFN, HM6⟩
          · have hie : i = l1.length := by have := Hi.out; omega
            subst hie
            have hfb := HFB.out
            rw [List.drop_length] at hfb
            have hq : (true, s2) = (bF, sF) := by
              cases hd2 : psd.drop l1.length with
              | nil => rw [hd2] at hfb; unfold fbodies at hfb; injection hfb
              | cons _ _ => rw [hd2] at hfb; unfold fbodies at hfb; injection hfb
            injection hq with ea eb
            subst ea eb
            have h := HH2.out
            simp only at h
            cases hfo : fouts s2 f [] funs with
            | none => rw [hfo] at h; cases h
            | some fo =>
            rw [hfo] at h
            have HFO := Aside0.mk hfo
            have HH3 := Aside0.mk h
            have hc2 : wr.cell? ⟨gf, 2, none⟩ = some (.slice Af funs.length cf) := (blk_cell HM.out.fin 2).trans rfl
            have Hh := Aside0.mk HM.out.held
            have HRf := Aside0.mk HM.out.funs
            have Hbf := Aside0.mk HM.out.bfuns
            have HB := Aside0.mk HM.out.below
            have hfl : funs.length ≤ 64 := by rw [HPL.out.2]; have := hok.2.2.2.1; omega
            clear hfb hfo h HFB HH2 HM
            go_wp2_with fail
            go_loopg [15, 112] funs.length (fun kq v15 v112 wr => ∃ (i : Nat) (acc : List S41) (Ao : Option Addr) (co : Nat), v15 = .slice Ao acc.length co ∧ v112 = .int .i64 (i : Int) ∧ Aside0 (i + kq = funs.length ∧ acc.length = i) ∧ Aside0 (fouts s2 f acc (funs.drop i) = some fo) ∧ Aside0 (Held w.heap.size s2 ad2 wr) ∧ Aside0 ((Kd.raw 1).R 72 wr w.heap.size (fun _ => True) (.slice Af funs.length cf) (kds ad2 funs)) ∧ Aside0 (k41.R 41 wr w.heap.size (fun _ => True) (.slice Ao acc.length co) acc) ∧ Aside0 (Below w.heap.size w wr))
            case atStart => exact ⟨0, [], none, 0, rfl, rfl, ⟨by omega, rfl⟩, HFO, Hh, HRf, ⟨Kd.R_nil _ _ _ _ _⟩, HB⟩
            case round =>
              clear HFO Hh HRf HB hc2
              obtain ⟨i, acc, Ao, co, rfl, rfl, Hi, HFO, Hh, HRf, HRo, HB⟩ := hrel
              by_cases hlt : i < funs.length
              · cases gk with
                | zero => exact absurd Hi.out.1 (by omega)
                | succ k1 =>
                have HP := Ptrs_of_R HRf.out (fun p hp => by rw [Hh.out.len]; exact Hbf.out p hp) (by omega)
                obtain ⟨adr, hadr, hcel⟩ := HP.2.2 (by omega)
                subst hadr
                have hx := hcel i funs[i] (List.getElem?_eq_getElem hlt)
                have HD := Aside0.mk (List.drop_eq_getElem_cons hlt)
                have hkl := Hbf.out funs[i] (List.getElem_mem hlt)
                generalize funs[i] = k at *
                have p1 : (0 ≤ (i : Int)) = True := eq_true (by omega)
                have p2 : ((i : Int) < (funs.length : Int)) = True := eq_true (by omega)
                have p3 : (i < funs.length) = True := eq_true (by omega)
                have hfo := HFO.out
                rw [HD.out] at hfo
                unfold fouts at hfo
                cases hsh : fshown s2 f k 60 with
                | none => rw [hsh] at hfo; cases hfo
                | some q =>
                obtain ⟨o, lft⟩ := q
                rw [hsh] at hfo
                have HSH := Aside0.mk hsh
                have HFN := Aside0.mk hfo
                clear HP hcel hsh hfo HFO
                go_upto_region 28 with (
                  (with_reducible refine gate_dst (N := 18) rfl ?_)
                  refine box_event ?hg (N := 18) ?hd (cs := #[.int .i64 0]) (t := 3) ?hr ?_
                  (case hd => rfl)
                  (case hg => rfl)
                  (case hr => first | (go_simp; done) | (go_simp; rfl))
                  intro gl hgl w3 hbox hb3
                  have hcz := (blk_cell hbox 0).trans rfl
                  have hfz := blk_frozen hbox 0
                  have hgw : wr.heap.size ≤ gl := by omega
                  have Hbl := Aside0.mk (blk_put (cs' := #[.int .i64 60]) hbox 0 (.int .i64 60) rfl)
                  have hbw := below_set (g := gl) (j := 0) (v := .int .i64 60) hb3 hgw
                  have Hh3 := Aside0.mk (Held.below Hh.out hbw)
                  have HRf3 := Aside0.mk (Kd.R_below HRf.out hbw)
                  have HRo3 := Aside0.mk (Kd.R_below HRo.out hbw)
                  have HB3 := Aside0.mk (below_step HB.out hbw)
                  have Hgl := Aside0.mk (Nat.le_trans HB.out.size hgw)
                  clear hbox hb3 hbw hgw hgl)
                generalize (w3.setCell { block := gl, off := 0 } (Value.int IntKind.i64 60)) = wc at *
                have hgn : gl ∉ ad2 := Hh3.out.notin Hbl.out (by decide)
                clear hx hcz hfz p1 p2 p3 Hh HRf HRo HB
                go_wp2_with fail
                (with_reducible refine (shown_calls w.heap.size s2 ad2 f k gl 60 lft o w wc Hh3.out hgn HSH.out Hgl.out HB3.out Hbl.out (by decide) (by decide)).mono ?_)
                rintro e w5 ⟨v, rfl, ⟨Av, nv, cv, rfl⟩, hR5, hB5, hK5, hb5⟩
                have Hh5 := Aside0.mk (Held.keep Hh3.out hK5 hgn)
                have HRf5 := Aside0.mk (Kd.R_mono (Kd.R_keep (Kd.R_types HRf3.out Hbl.out (by decide)) hK5 (fun k hk => hk.2)) (fun _ _ => trivial))
                have HRo5 := Aside0.mk (Kd.R_mono (Kd.R_keep (Kd.R_types HRo3.out Hbl.out (by decide)) hK5 (fun k hk => hk.2)) (fun _ _ => trivial))
                have HB5 := Aside0.mk hB5
                have HR5 := Aside0.mk hR5
                have Hlt := Aside0.mk (Kd.R_lt HRo3.out)
                have hsz5 : wc.heap.size ≤ w5.heap.size := hK5.1
                have hszw : w.heap.size ≤ wc.heap.size := HB3.out.size
                have hfn := HFN.out
                clear hR5 hB5 hK5 hb5 Hh3 HRf3 HRo3 HB3 hgn Hbl HFN
                cases o with
                | none =>
                  injection hfn with e
                  subst e
                  have hh := HH3.out
                  injection hh with hh
                  injection hh with ha hb
                  subst ha hb
                  clear HR5
                  go_wp2_with ((with_reducible refine gate_dst (N := 19) rfl ?_); refine holdI5 ?_)
                  unfold HoldI5
                  (
                    refine box_event ?hg (N := 19) ?hd (cs := #[.slice none 0 0]) (t := 41) ?hr ?_
                    (case hd => rfl)
                    (case hg => rfl)
                    (case hr => first | (go_simp; done) | (go_simp; rfl))
                    intro g7 hg7 w6 hbox hb6
                    have hg6 : w.heap.size ≤ g7 := by omega
                    have HB6 := Aside0.mk (below_set (g := g7) (j := 0) (v := .slice Av nv cv) (below_step HB5.out hb6) hg6)
                    have hcz := (blk_cell hbox 0).trans rfl
                    have hfz := blk_frozen hbox 0
                    clear hbox hb6 hg6 hg7)
                  go_wp2_with fail
                  go_ret2
                  exact ⟨_, rfl, Kd.R_nil _ _ _ _ _, HB6.out⟩
                | some x =>
                  simp only at hfn
                  cases hck : sorts_Check.f x with
                  | none => rw [hck] at hfn; cases hfn
                  | some ec =>
                  rw [hck] at hfn
                  simp only at hfn
                  have HCK := Aside0.mk hck
                  have hr5 := HR5.out x rfl
                  obtain ⟨Ax, cx, ex⟩ := Kd.R_slice hr5
                  injection ex with e1 e2 e3
                  subst e1 e2 e3
                  have HX := Aside0.mk hr5
                  clear hck hr5 HR5
                  go_wp2_with ((with_reducible refine gate_dst (N := 19) rfl ?_); refine holdI5 ?_)
                  unfold HoldI5
                  (
                    refine box_event ?hg (N := 19) ?hd (cs := #[.slice none 0 0]) (t := 41) ?hr ?_
                    (case hd => rfl)
                    (case hg => rfl)
                    (case hr => first | (go_simp; done) | (go_simp; rfl))
                    intro g7 hg7 w6 hbox hb6
                    have hg6 : w.heap.size ≤ g7 := by omega
                    have hbw := below_set (g := g7) (j := 0) (v := .slice Av x.length cv) hb6 (Nat.le_of_eq hg7.symm)
                    have HB6 := Aside0.mk (below_step HB5.out hbw)
                    have Hh6 := Aside0.mk (Held.below Hh5.out hbw)
                    have HRf6 := Aside0.mk (Kd.R_below HRf5.out hbw)
                    have HRo6 := Aside0.mk (Kd.R_below (Kd.R_mono (Kd.R_bound HRo5.out) (fun k hk => (show k ≠ g7 by have := hk.2.2.1; omega))) hbw)
                    have HX6 := Aside0.mk (Kd.R_below (Kd.R_mono (Kd.R_bound HX.out) (fun k hk => (show k ≠ g7 ∧ wc.heap.size ≤ k from ⟨by have := hk.2.2.1; omega, hk.2.1⟩))) hbw)
                    have Hb7 := Aside0.mk (blk_put (cs' := #[.slice Av x.length cv]) hbox 0 (.slice Av x.length cv) rfl)
                    have hcz := (blk_cell hbox 0).trans rfl
                    have hfz := blk_frozen hbox 0
                    have hc7 : (w6.setCell ⟨g7, 0, none⟩ (.slice Av x.length cv)).cell? ⟨g7, 0, none⟩ = some (.slice Av x.length cv) := (blk_cell Hb7.out 0).trans rfl
                    clear hbox hb6 hbw hg6
                    have Hg7 := Aside0.mk hg7
                    clear hg7)
                  go_wp2_with fail
                  obtain ⟨_, hxc, hxr⟩ := Kd.R_reads' HX6.out
                  (with_reducible refine (sorts_Check.calls Av cv x ec _ hxr hxc HCK.out).mono ?_)
                  rintro e w7 ⟨rfl, hb7⟩
                  have HB7 := Aside0.mk (below_step HB6.out hb7)
                  have Hh7 := Aside0.mk (Held.below Hh6.out hb7)
                  have HRf7 := Aside0.mk (Kd.R_below HRf6.out hb7)
                  have HRo7 := Aside0.mk (Kd.R_below HRo6.out hb7)
                  have HX7 := Aside0.mk (Kd.R_below HX6.out hb7)
                  have Hb77 := Aside0.mk (blk_below Hb7.out hb7)
                  have hc77 : w7.cell? ⟨g7, 0, none⟩ = some (.slice Av x.length cv) := (blk_cell Hb77.out 0).trans rfl
                  clear hcz hfz hc7 hxc hxr hb7 HB6 Hh6 HRf6 HRo6 HX6 Hb7 HX HB5 Hh5 HRf5 HRo5
                  by_cases hec : ec = 0
                  · rw [if_pos hec] at hfn
                    subst hec
                    have HFN := Aside0.mk hfn
                    clear hfn
                    go_wp2_with (at_builtin; refine holdI5 ?_)
                    unfold HoldI5
                    refine Kd.R_append k41 (w0 := w) w.heap.size rfl (.tmp 128) (.tmp 130) 31 41 (.agg #[(.slice none 0 0)]) 24 rfl Try.underlying31 info41 rfl (by decide) (by omega) (.slice Ao acc.length co) acc (⟨x⟩ : S41) [.slice Av x.length cv] (fun k => k ≠ g7) (fun k => k ≠ g7 ∧ wc.heap.size ≤ k) rfl rfl ?aP ?aK ?aF ?aO ?aB ?aS ?aL ?_
                    (case aP => exact k41_mkM _ _ _ (⟨x⟩ : S41) (Kd.R_lower HX7.out hszw))
                    (case aK => exact fun k hk => ⟨hk.1, fun he => by have := Hlt.out k he.symm; have := hk.2; omega⟩)
                    (case aF => intro k hk; have := blk_lt Hb77.out; omega)
                    (case aO => exact HRo7.out)
                    (case aB => exact HB7.out)
                    (case aS => exact HB7.out.size)
                    (case aL => have := Hi.out.2; omega)
                    intro v2 w8 ho hb hg2 hat
                    obtain ⟨A2, c2, e2⟩ := Kd.R_slice ho
                    have tg : ∀ k, (Value.slice Ao acc.length co).ownBlock = some k → ∃ cells, w7.heap[k]? = some (.cells cells 41 (0, 0)) := Kd.R_typed HRo7.out
                    have Hh8 := Aside0.mk (Held.grownT Hh7.out hg2 (fun k hk => by obtain ⟨c, hc⟩ := tg k hk; exact ⟨41, c, by decide, hc⟩))
                    have HRf8 := Aside0.mk (Kd.R_over' HRf7.out tg (by decide) hg2)
                    have HRo8 := Aside0.mk (Kd.R_mono ho (fun _ _ => trivial))
                    have HB8 := Aside0.mk hb
                    have HL8 := Aside0.mk (show (acc ++ [(⟨x⟩ : S41)]).length = i + 1 from by rw [List.length_append, Hi.out.2]; rfl)
                    obtain ⟨n2, hn2⟩ : ∃ n, n = (acc ++ [(⟨x⟩ : S41)]).length := ⟨_, rfl⟩
                    rw [← hn2] at e2
                    subst e2
                    have HN2 := Aside0.mk hn2
                    clear ho hb hg2 hat tg hn2 HB7 Hh7 HRf7 HRo7 HX7 Hb77 hc77 Hlt
                    go_wp2_with fail
                    go_roundg k1
                    case measure => omega
                    case rel => exact ⟨i + 1, acc ++ [⟨x⟩], A2, c2, by rw [HN2.out], by go_num, ⟨by have := Hi.out.1; omega, HL8.out⟩, HFN, Hh8, HRf8, ⟨by rw [← HN2.out]; exact HRo8.out⟩, HB8⟩
                  · rw [if_neg hec] at hfn
                    injection hfn with e
                    subst e
                    have hh := HH3.out
                    injection hh with hh
                    injection hh with ha hb
                    subst ha hb
                    have hne : (ec != 0) = true := by rw [bne_iff_ne]; exact hec
                    clear hec
                    go_wp2_with fail
                    go_ret2
                    exact ⟨_, rfl, Kd.R_nil _ _ _ _ _, HB7.out⟩
              · have hie : i = funs.length := by have := Hi.out.1; omega
                subst hie
                have hfn := HFO.out
                rw [List.drop_length] at hfn
                unfold fouts at hfn
                injection hfn with e
                subst e
                have hh := HH3.out
                injection hh with hh
                injection hh with ha hb
                subst ha hb
                go_wp2_with fail
                go_ret2
                exact ⟨_, rfl, HRo.out, HB.out⟩
  · rw [if_neg he0] at h
    injection h with h
    injection h with ea eb
    subst ea eb
    have hne : (e0 != 0) = true := by rw [bne_iff_ne]; exact he0
    go_wp2_with fail
    go_ret2
    exact ⟨_, rfl, Kd.R_nil _ _ _ _ _, HB1.out⟩
end Go.Proofs.Ytfhgoebgnilfaaa.I
