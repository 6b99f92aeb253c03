/- Texts of this session's proof, laid together: IK8, IG, I10, IS1, IS2. -/
import Derived.Deep.RegionLaw
import Derived.Test.YtfhgoebgnilfaaaZ2
namespace Go.Proofs.Ytfhgoebgnilfaaa.I
open Go.RowKit Go.Proofs.YtfhgoebgnilfaaaW.PrintWords Go.Proofs.YtfhgoebgnilfaaaW.PrintLast Go.Proofs.YtfhgoebgnilfaaaW.PrintMore
attribute [local go_sem] max2_int min2_int max_two min_two max_three min_three max_four min_four
set_option linter.unusedVariables false
set_option maxRecDepth 100000
set_option linter.unusedSimpArgs false
set_option maxHeartbeats 8000000 in
theorem infer_Sorts_calls (f : Nat) (A0 : Option Addr) (c0 : Nat) (l0 : List S59) (A1 : Option Addr) (c1 : Nat) (l1 : List S48) (out : List S41) (er : Int) (w : World) (hr0 : Kd.C k59 w A0 l0.length l0) (hc0 : l0.length ≤ c0) (hr1 : Kd.C k48 w A1 l1.length l1) (hc1 : l1.length ≤ c1) (hwf : ∀ x ∈ l1, twf x.f2) (h : fsorts f l0 l1 = some (out, er)) :
    Calls Try.prog 13 #[.slice A0 l0.length c0, .slice A1 l1.length c1] w fun e w' => ∃ v, e = .returned (.tuple #[v, .int .i64 er]) ∧ Kd.R k41 41 w' w.heap.size (fun _ => True) v out ∧ Below w.heap.size w w' := by
  have hu48 := Try.underlying48
  have hu44 := Try.underlying44
  have hu41 := Try.underlying41
  have hu74 := Try.underlying74
  have hu77 := Try.underlying77
  have HR0 := Aside0.mk hr0
  have HC0 := Aside0.mk hc0
  have HR1 := Aside0.mk hr1
  have HC1 := Aside0.mk hc1
  have HW := Aside0.mk hwf
  have hlen1 : l1.length ≤ 9223372036854775807 := hr1.2.1
  unfold fsorts at h
  cases hch : chkF l0 l1 with
  | none => rw [hch] at h; cases h
  | some e0 =>
  rw [hch] at h
  simp only at h
  have HCH := Aside0.mk hch
  clear hr0 hc0 hr1 hc1 hwf hch
  go_enter Try.func13, Try.ntmps13
  go_wp2_with fail
  (with_reducible refine (chkF_calls A0 c0 l0 A1 c1 l1 e0 w HR0.out HC0.out HR1.out HC1.out HW.out HCH.out).mono ?_)
  rintro e w1 ⟨rfl, hb1⟩
  have HB1 := Aside0.mk hb1
  clear hb1
  by_cases he0 : e0 = 0
  · subst he0
    rw [if_pos rfl] at h
    have HH := Aside0.mk h
    clear h
    have hok := fCheck_ok HCH.out
    go_wp2_with (first
     | ((with_reducible refine gate_dst (N := 28) rfl ?_)
        refine box_event ?hg (N := 28) ?hd (cs := #[.pointer none, .bool true, .pointer none, .pointer none]) (t := 74) ?hr ?_
        (case hd => rfl)
        (case hg => rfl)
        (case hr => first | (go_simp; done) | (go_simp; rfl))
        intro go hgo w2 hboxo hbo
        have HBo := Aside0.mk hbo
        have So := Aside0.mk hboxo
        have Hgo := Aside0.mk hgo
        clear hboxo hbo hgo)
     | ((with_reducible refine gate_dst (N := 31) rfl ?_)
        refine box_event ?hg (N := 31) ?hd (cs := #[.pointer (some ⟨go, 0, none⟩), .slice A0 l0.length c0, .slice none 0 0, .slice none 0 0]) (t := 77) ?hr ?_
        (case hd => rfl)
        (case hg => rfl)
        (case hr => first | (go_simp; done) | (go_simp; rfl))
        intro gf hgf w3 hboxf hbf
        have HBf := Aside0.mk hbf
        have Sf := Aside0.mk hboxf
        have Hgf := Aside0.mk hgf
        clear hboxf hbf hgf)
     | ((with_reducible refine gate_dst (N := 34) rfl ?_)
        refine Kd.S_make (Kd.slice 72 (Kd.raw 1)) w.heap.size 75 rfl (N := 34) rfl 78 _ _ rfl (l1.length : Int) rfl rfl Try.underlying78 (.slice none 0 0) 24 (by kernel_rfl) rfl (by decide) (by omega) [] (ok := fun _ => True) (okp := fun _ => True) ⟨_, rfl, Kd.R_nil _ _ _ _ _⟩ (fun _ hk => hk) trivial (by omega) (by omega) (below_step (below_step HB1.out HBo.out) HBf.out) (below_size (below_step (below_step HB1.out HBo.out) HBf.out)) ?_
        intro vp w4 HS hb4 hg4 hat4
        obtain ⟨gp, cp, evp, hgp0, hgp1, _⟩ := Kd.S_form HS (by rw [List.length_replicate]; omega)
        rw [List.length_replicate, Int.toNat_natCast] at evp
        subst evp
        have Hgp := Aside0.mk (And.intro hgp0 hgp1)
        rw [Int.toNat_natCast] at HS
        have HS4 := Aside0.mk HS
        have HB4 := Aside0.mk hb4
        have HG4 := Aside0.mk hg4
        clear HS hb4 hg4 hat4 hgp0 hgp1))
    have hso4 : w4.heap[go]? = some (.cells #[.pointer none, .bool true, .pointer none, .pointer none] 74 (0, 0)) := by
      have h3 := blk_below So.out HBf.out
      exact (HG4.out.block go (blk_lt h3) (by simp)).trans h3
    have hsf4 : w4.heap[gf]? = some (.cells #[.pointer (some ⟨go, 0, none⟩), .slice A0 l0.length c0, .slice none 0 0, .slice none 0 0] 77 (0, 0)) := (HG4.out.block gf (blk_lt Sf.out) (by simp)).trans Sf.out
    have hgo0 : w.heap.size ≤ go := by have := Hgo.out; have := below_size HB1.out; omega
    have H4 : Held w.heap.size [⟨none, true, none, none⟩] [go] w4 := by
      refine ⟨rfl, by simp, fun b hb => by rw [List.mem_singleton] at hb; omega, fun i n hn => ?_, fun i n hn => ?_⟩
      · cases i with
        | zero => injection hn with hn; subst hn; exact hso4
        | succ i => cases hn
      · cases i with
        | zero => injection hn with hn; subst hn; exact ⟨(by intro j hj; cases hj), (by intro j hj; cases hj), (by intro j hj; cases hj)⟩
        | succ i => cases hn
    have hgf0 : w.heap.size ≤ gf := by have := Hgf.out; have := below_size HB1.out; have := below_size HBo.out; omega
    have HM0 := Aside0.mk (show Mem gf gp cp l1.length A0 l0.length c0 w [⟨none, true, none, none⟩] [go] (List.replicate l1.length []) [] none 0 (.slice none 0 0) w4 from
      ⟨H4, by decide, by rw [List.map_replicate]; exact Kd.S_mono HS4.out (fun k _ => by simp [Value.ownBlock]), Kd.R_nil _ _ _ _ _, hsf4, (fun ps hp p hq => by rw [(List.mem_replicate.1 hp).2] at hq; cases hq), (fun p hp => by cases hp), hgf0, HB4.out⟩)
    generalize hHd : fheads [⟨none, true, none, none⟩] l1 = hd at *
    have HHd := Aside0.mk hHd
    clear So Sf HBo HBf HG4 H4 HS4 hso4 hsf4 HB4 hgo0 hgf0 hHd Hgo Hgf Hgp
    go_loopg [37] l1.length (fun kq v37 wr => ∃ (i : Nat) (s1 : List KN) (ad1 : List Nat) (psd : List (List Nat)) (funs : List Nat) (Af : Option Addr) (cf : Nat), v37 = .int .i64 (i : Int) ∧ Aside0 (i + kq = l1.length ∧ psd.length = i ∧ funs.length = i) ∧ Aside0 (((psd ++ (fheads s1 (l1.drop i)).1.1, funs ++ (fheads s1 (l1.drop i)).1.2), (fheads s1 (l1.drop i)).2) = hd) ∧ Aside0 (Mem gf gp cp l1.length A0 l0.length c0 w s1 ad1 (psd ++ List.replicate (l1.length - i) []) funs Af cf (.slice none 0 0) wr))
    case atStart =>
      exact ⟨0, _, [go], [], [], none, 0, rfl, ⟨by omega, rfl, rfl⟩, ⟨by rw [← HHd.out]; rfl⟩, HM0⟩
    case round =>
      clear HM0
      obtain ⟨i, s1, ad1, psd, funs, Af, cf, rfl, Hi, HF, HM⟩ := hrel
      by_cases hlt : i < l1.length
      · cases gk with
        | zero => exact absurd Hi.out.1 (by omega)
        | succ k1 =>
        have Hlt := Aside0.mk hlt
        have HX := Aside0.mk (rd_T48_drop l1 i hlt)
        obtain ⟨ad0, A4, c4, he, hx1, hx2, hx3, hx4, hx5, hl4, hC4⟩ := at_T48 HR1.out (i : Int) (by omega) (by omega)
        cases he
        replace hx1 := (HM.out.below.cell (World.block_lt_of_cell? w _ hx1)).trans hx1
        replace hx2 := (HM.out.below.cell (World.block_lt_of_cell? w _ hx2)).trans hx2
        replace hx3 := (HM.out.below.cell (World.block_lt_of_cell? w _ hx3)).trans hx3
        replace hx4 := (HM.out.below.cell (World.block_lt_of_cell? w _ hx4)).trans hx4
        replace hx5 := (HM.out.below.cell (World.block_lt_of_cell? w _ hx5)).trans hx5
        rw [Int.toNat_natCast] at hx1 hx2 hx3 hx4 hx5
        have Hl4 := Aside0.mk hl4
        have HC4 := Aside0.mk hC4
        clear hl4 hC4
        have p1 : (0 ≤ (i : Int)) = True := eq_true (by omega)
        have p2 : ((i : Int) < (l1.length : Int)) = True := eq_true (by omega)
        have p3 : (i < l1.length) = True := eq_true (by omega)
        generalize hx : rd_T48 l1 (i : Int) = x at *
        clear hx
        go_wp2_with (
          (with_reducible refine gate_dst (N := 10) rfl ?_)
          refine box_event ?hg (N := 10) ?hd (cs := #[.string (⟨#[]⟩ : ByteArray), .int .i64 0, .int .i64 0, .int .i64 0, .slice none 0 0]) (t := 48) ?hr ?_
          (case hd => rfl)
          (case hg => rfl)
          (case hr => first | (go_simp; done) | (go_simp; rfl))
          intro gi hgi w3 hbox hb3
          have hgw : wr.heap.size ≤ gi := by omega
          have HM3 := Aside0.mk (HM.out.sub (below_set (g := gi) (j := 4) (v := .slice A4 x.f2.f2.length c4) (below_set (g := gi) (j := 3) (v := .int .i64 x.f2.f1) (below_set (g := gi) (j := 2) (v := .int .i64 x.f2.f0) (below_set (g := gi) (j := 1) (v := .int .i64 x.f1) (below_set (g := gi) (j := 0) (v := .string x.f0) hb3 hgw) hgw) hgw) hgw) hgw))
          have Hgi := Aside0.mk (blk_put (cs' := #[.string x.f0, .int .i64 x.f1, .int .i64 x.f2.f0, .int .i64 x.f2.f1, .slice A4 x.f2.f2.length c4]) (blk_put (cs' := #[.string x.f0, .int .i64 x.f1, .int .i64 x.f2.f0, .int .i64 x.f2.f1, .slice none 0 0]) (blk_put (cs' := #[.string x.f0, .int .i64 x.f1, .int .i64 x.f2.f0, .int .i64 0, .slice none 0 0]) (blk_put (cs' := #[.string x.f0, .int .i64 x.f1, .int .i64 0, .int .i64 0, .slice none 0 0]) (blk_put (cs' := #[.string x.f0, .int .i64 0, .int .i64 0, .int .i64 0, .slice none 0 0]) (hbox) 0 (.string x.f0) rfl) 1 (.int .i64 x.f1) rfl) 2 (.int .i64 x.f2.f0) rfl) 3 (.int .i64 x.f2.f1) rfl) 4 (.slice A4 x.f2.f2.length c4) rfl)
          have hci1 : (((((w3.setCell ⟨gi, 0, none⟩ (.string x.f0)).setCell ⟨gi, 1, none⟩ (.int .i64 x.f1)).setCell ⟨gi, 2, none⟩ (.int .i64 x.f2.f0)).setCell ⟨gi, 3, none⟩ (.int .i64 x.f2.f1)).setCell ⟨gi, 4, none⟩ (.slice A4 x.f2.f2.length c4)).cell? ⟨gi, 1, none⟩ = some (.int .i64 x.f1) := (blk_cell Hgi.out 1).trans rfl
          have hcz0 := (blk_cell hbox 0).trans rfl
          have hfz0 := blk_frozen hbox 0
          have hcz1 := (blk_cell hbox 1).trans rfl
          have hfz1 := blk_frozen hbox 1
          have hcz2 := (blk_cell hbox 2).trans rfl
          have hfz2 := blk_frozen hbox 2
          have hcz3 := (blk_cell hbox 3).trans rfl
          have hfz3 := blk_frozen hbox 3
          have hcz4 := (blk_cell hbox 4).trans rfl
          have hfz4 := blk_frozen hbox 4
          clear hbox hb3 hgi hgw)
        clear hci1 hcz0 hcz1 hcz2 hcz3 hcz4 hfz0 hfz1 hfz2 hfz3 hfz4 hx1 hx2 hx3 hx4 hx5 HM
        generalize (((((w3.setCell ⟨gi, 0, none⟩ (.string x.f0)).setCell ⟨gi, 1, none⟩ (.int .i64 x.f1)).setCell ⟨gi, 2, none⟩ (.int .i64 x.f2.f0)).setCell ⟨gi, 3, none⟩ (.int .i64 x.f2.f1)).setCell ⟨gi, 4, none⟩ (.slice A4 x.f2.f2.length c4)) = wq at *
        have hprm := (hok.2.2.2.2 x (by have := HX.out; have h2 : x ∈ l1.drop i := (by rw [this]; exact List.mem_cons_self); exact List.mem_of_mem_drop h2))
        go_loopg [44] x.f1.toNat (fun kq v44 wr => ∃ (j : Nat) (e2 : List Nat), v44 = .int .i64 (j : Int) ∧ Aside0 (j + kq = x.f1.toNat ∧ e2.length = j) ∧ Aside0 (Mem gf gp cp l1.length A0 l0.length c0 w (s1 ++ List.replicate j kbare) (ad1 ++ e2) (psd ++ List.range' s1.length j :: List.replicate (l1.length - i - 1) []) funs Af cf (.slice none 0 0) wr) ∧ Aside0 (wr.heap[gi]? = some (.cells #[.string x.f0, .int .i64 x.f1, .int .i64 x.f2.f0, .int .i64 x.f2.f1, .slice A4 x.f2.f2.length c4] 48 (0, 0))))
        case atStart =>
          exact ⟨0, [], rfl, ⟨by omega, rfl⟩, ⟨by
            have h := HM3.out
            rw [show l1.length - i = (l1.length - i - 1) + 1 from by omega, List.replicate_succ] at h
            rw [List.replicate_zero, List.append_nil, List.append_nil]
            exact h⟩, Hgi⟩
        case round =>
          clear HM3 Hgi
          obtain ⟨j, e2, rfl, Hj, HM, Hgi⟩ := hrel
          have hget : (psd ++ List.range' s1.length j :: List.replicate (l1.length - i - 1) []).getD i [] = List.range' s1.length j := by
            have hp := Hi.out.2.1
            rw [List.getD_eq_getElem?_getD, List.getElem?_append_right (by omega), hp, Nat.sub_self]
            rfl
          by_cases hjl : (j : Int) < x.f1
          · cases gk with
            | zero => exact absurd Hj.out.1 (by omega)
            | succ k2 =>
            obtain ⟨oki, A7, c7, hcell, hR, hoki, hH⟩ := HM.out.lend hlt
            rw [hget, List.length_range'] at hcell hR hH
            have HG := Aside0.mk hget
            have HRr := Aside0.mk hR
            have HHo := Aside0.mk hH
            have Hoki := Aside0.mk hoki
            have Hcell := Aside0.mk hcell
            clear hget hR hH hoki
            go_wp2_with (first
             | ((with_reducible refine gate_dst (N := 53) rfl ?_)
                refine box_event ?hg (N := 53) ?hd (cs := #[.pointer none, .bool false, .pointer none, .pointer none]) (t := 74) ?hr ?_
                (case hd => rfl)
                (case hg => rfl)
                (case hr => first | (go_simp; done) | (go_simp; rfl))
                intro g5 hg5 w5 hbox hb5
                have H5 := Aside0.mk (Held.push (n := kbare) HM.out.held hb5 (Nat.le_of_eq hg5.symm) HM.out.below.size ⟨(by intro j hj; cases hj), (by intro j hj; cases hj), (by intro j hj; cases hj)⟩ hbox)
                have HB5 := Aside0.mk hb5
                have Hg5 := Aside0.mk hg5
                clear hbox hb5 hg5)
             | (at_builtin; refine holdI5 ?_))
            unfold HoldI5
            refine Kd.R_append (Kd.raw 1) (w0 := w) w.heap.size rfl (.tmp 51) (.tmp 54) 75 72 (.pointer none) 8 rfl Try.underlying75 (by kernel_rfl) rfl (by decide) (by omega) (.slice A7 j c7) (kds (ad1 ++ e2) (List.range' s1.length j)) [.pointer (some ⟨g5, 0, none⟩)] [.pointer (some ⟨g5, 0, none⟩)] (fun k => oki k ∨ some k ≠ (Value.slice Af funs.length cf).ownBlock ∧ wr.heap.size ≤ k) (fun k => (oki k ∨ some k ≠ (Value.slice Af funs.length cf).ownBlock ∧ wr.heap.size ≤ k) ∧ some k ≠ (Value.slice A7 j c7).ownBlock) rfl rfl ?aP (fun _ hk => hk) ?aF ?aO ?aB ?aS ?aL ?_
            (case aP => exact ⟨rfl, rfl, by intro u hu; rw [List.mem_singleton] at hu; subst hu; rfl⟩)
            (case aB => exact below_step HM.out.below HB5.out)
            (case aF => intro k hk; right; have := below_size HB5.out; exact ⟨fun he => by have := Kd.R_lt HM.out.funs k he.symm; omega, by omega⟩)
            (case aO => exact Kd.R_mono (Kd.R_below HRr.out HB5.out) (fun k hk => .inl hk))
            (case aS => exact (below_step HM.out.below HB5.out).size)
            (case aL => rw [kds_len, List.length_range']; omega)
            intro v2 w6 ho hb hg2 hat
            obtain ⟨A2, c2, e2'⟩ := Kd.R_slice ho
            rw [List.length_append, kds_len, List.length_range'] at e2'
            subst e2'
            have HOn := Aside0.mk ho
            have HBn := Aside0.mk hb
            have HG2 := Aside0.mk hg2
            clear ho hb hg2 hat
            go_wp2_with ((with_reducible refine gate_store (p := 56) rfl ?_); refine holdI5 ?_)
            unfold HoldI5
            refine Kd.H_store KR (w0 := w) w.heap.size rfl rfl 75 (.tmp 56) (.tmp 55) rfl 75 (g := gp) (n := l1.length) (cap := cp) (o' := i) (i : Int) 0 ((psd ++ List.range' s1.length j :: List.replicate (l1.length - i - 1) []).map (kds (ad1 ++ e2))) (kds (ad1 ++ e2) (List.range' s1.length j) ++ [[.pointer (some ⟨g5, 0, none⟩)]]) (.slice A2 (j + 1) c2) [.slice A2 (j + 1) c2] [.slice A7 j c7] (fun k => some k ≠ (Value.slice Af funs.length cf).ownBlock) (fun k => oki k ∨ some k ≠ (Value.slice Af funs.length cf).ownBlock ∧ wr.heap.size ≤ k) (fun k => oki k ∨ some k ≠ (Value.slice Af funs.length cf).ownBlock ∧ wr.heap.size ≤ k) rfl (by show i = i * 1 + 0; omega) rfl rfl (by kernel_rfl) (by intro q hq; rw [List.mem_singleton] at hq; subst hq; rfl) ?sO (by omega) (by omega) (by show 0 + 1 ≤ 1; omega) ?sM (fun _ hk => hk) HBn.out ?_
            (case sO => exact Kd.H_grown (Kd.H_below (Kd.H_widen HHo.out) HB5.out) HG2.out (fun k hk => .inl (HRr.out.1 k hk)))
            (case sM => exact ⟨_, rfl, HOn.out⟩)
            intro w7 hs7 hb7 hg7
            have hg5e : pk (ad1 ++ e2 ++ [g5]) (s1 ++ List.replicate j kbare).length = .pointer (some ⟨g5, 0, none⟩) := by unfold pk; rw [bk_new HM.out.held.len]
            have HM7 := HM.out.put hlt Hoki.out (by rw [HG.out]; exact HRr.out) HB5.out H5.out HG2.out hg7 hb7 (by rw [HG.out, hg5e]; exact hs7)
            rw [HG.out] at HM7
            have tg : ∃ cells, w5.heap[gp]? = some (.cells cells 75 (0, 0)) := by
              obtain ⟨cells, hc⟩ := Kd.S_typed HM.out.rows gp (by simp [Value.ownBlock])
              exact ⟨cells, blk_below hc HB5.out⟩
            have Hgi7 := Aside0.mk (blk_grownT (blk_grownT (blk_below Hgi.out HB5.out) HG2.out (fun k hk => by obtain ⟨c, hk'⟩ := Kd.R_typed (Kd.R_below HRr.out HB5.out) k hk; exact ⟨72, c, by decide, hk'⟩)) hg7 (fun k hk => by
              injection hk with hk
              subst hk
              obtain ⟨c, hc⟩ := tg
              exact ⟨75, c, by decide, blk_grownT hc HG2.out (fun k hk => by obtain ⟨c, hk'⟩ := Kd.R_typed (Kd.R_below HRr.out HB5.out) k hk; exact ⟨72, c, by decide, hk'⟩)⟩))
            have HM8 := Aside0.mk (show Mem gf gp cp l1.length A0 l0.length c0 w (s1 ++ List.replicate (j + 1) kbare) (ad1 ++ (e2 ++ [g5])) (psd ++ List.range' s1.length (j + 1) :: List.replicate (l1.length - i - 1) []) funs Af cf (.slice none 0 0) w7 from by
              have e1 : s1 ++ List.replicate (j + 1) kbare = s1 ++ List.replicate j kbare ++ [kbare] := by rw [List.replicate_succ', List.append_assoc]
              have e3 : List.range' s1.length (j + 1) = List.range' s1.length j ++ [(s1 ++ List.replicate j kbare).length] := by
                rw [List.range'_concat, List.length_append, List.length_replicate]; simp
              have e4 : (psd ++ List.range' s1.length j :: List.replicate (l1.length - i - 1) []).set i (List.range' s1.length j ++ [(s1 ++ List.replicate j kbare).length]) = psd ++ List.range' s1.length (j + 1) :: List.replicate (l1.length - i - 1) [] := by
                rw [List.set_append_right _ _ (by have := Hi.out.2.1; omega), Hi.out.2.1, Nat.sub_self, List.set_cons_zero, e3]
              rw [e1, ← e4, ← List.append_assoc]
              exact HM7)
            have HL := Aside0.mk (show (j + 1) + k2 = x.f1.toNat ∧ (e2 ++ [g5]).length = j + 1 from ⟨by have := Hj.out.1; omega, by rw [List.length_append, Hj.out.2]; rfl⟩)
            clear hs7 hb7 hg7 hg5e HM7 tg HM Hgi H5 HB5 HG HRr HHo Hoki Hcell HOn HBn HG2 hcell
            go_wp2_with fail
            go_roundg k2
            case measure => omega
            case rel => exact ⟨j + 1, _, by go_num, HL, HM8, Hgi7⟩
          · have hje : j = x.f1.toNat := by have := Hj.out.1; omega
            obtain ⟨oki, A7, c7, hcell, hR, hoki, hH⟩ := HM.out.lend hlt
            have hmem : ∀ p, p ∈ List.range' s1.length j → p < (ad1 ++ e2).length := fun p hp => by
              have h1 := HM.out.brows _ (List.mem_append_right _ List.mem_cons_self) p hp
              rw [HM.out.held.len]
              exact h1
            have HP := Aside0.mk (Ptrs_of_R (ps := List.range' s1.length j) (by rw [hget] at hR; exact hR) hmem (by rw [List.length_range']; omega))
            rw [hget, List.length_range'] at hcell
            have HG := Aside0.mk hget
            have hfin := blk_cell HM.out.fin 2
            have hc2 : wr.cell? ⟨gf, 2, none⟩ = some (.slice Af funs.length cf) := hfin.trans rfl
            have HMq := Aside0.mk (HM.out.sub (below_drew (Below.refl _ _)))
            have Hgiq := Aside0.mk (blk_drew Hgi.out)
            have Hje := Aside0.mk hje
            have hfl : funs.length ≤ 64 := by have := Hi.out.2.2; have := hok.2.2.2.1; omega
            generalize hAD : ad1 ++ e2 = ad2 at *
            generalize hSS : s1 ++ List.replicate j kbare = s2 at *
            have HAD := Aside0.mk hAD
            have HSS := Aside0.mk hSS
            have HFN := Aside0.mk (show (((psd ++ [List.range' s1.length j] ++ (fheads (farrow s2 0 (List.range' s1.length j)).2 (l1.drop (i + 1))).1.1, funs ++ [(farrow s2 0 (List.range' s1.length j)).1] ++ (fheads (farrow s2 0 (List.range' s1.length j)).2 (l1.drop (i + 1))).1.2), (fheads (farrow s2 0 (List.range' s1.length j)).2 (l1.drop (i + 1))).2) = hd) from by
              have e := HF.out
              rw [HX.out] at e
              unfold fheads at e
              simp only at e
              rw [← Hje.out, HSS.out] at e
              rw [List.append_assoc, List.append_assoc]
              exact e)
            have HRN := Aside0.mk (show psd ++ List.range' s1.length j :: List.replicate (l1.length - i - 1) [] = psd ++ [List.range' s1.length j] ++ List.replicate (l1.length - (i + 1)) [] from by rw [List.append_assoc]; rfl)
            clear hAD hSS
            clear hget hR hoki hH hmem hfin hje
            go_wp2_with fail
            go_region_law (first
              | (refine Kd.R_append_step (Kd.raw 1) (w0 := w) w.heap.size rfl (.tmp 62) (.tmp 69) 75 72 (.pointer none) 8 rfl Try.underlying75 (by kernel_rfl) rfl (by decide) (by omega) (.slice Af funs.length cf) (kds (ad2 ++ e3) funs) [pk (ad2 ++ e3) (farrow s2 0 (List.range' s1.length j)).1] [pk (ad2 ++ e3) (farrow s2 0 (List.range' s1.length j)).1] (fun _ => True) (fun k => True ∧ some k ≠ (Value.slice Af funs.length cf).ownBlock) rfl rfl (by exact ⟨rfl, rfl, by intro u hu; rw [List.mem_singleton] at hu; subst hu; rfl⟩) (fun _ hk => hk) (fun _ _ => trivial) HMA.out.funs HMA.out.below HMA.out.below.size (by rw [kds_len]; omega) ?_
                 intro v2 w6 ho hb hg2 hat
                 obtain ⟨A2, c2, e2'⟩ := Kd.R_slice ho
                 rw [List.length_append, kds_len] at e2'
                 simp only [List.length_cons, List.length_nil, Nat.zero_add] at e2'
                 subst e2'
                 have HM9 := Aside0.mk (HMA.out.putFun HkA.out hg2 ho hb hat)
                 have HF6 := Aside0.mk (blk_grownT HMA.out.fin hg2 (fun k hk => by obtain ⟨c, hc⟩ := Kd.R_typed HMA.out.funs k hk; exact ⟨72, c, by decide, hc⟩))
                 have Hgi9 := Aside0.mk (blk_far (p := ⟨gf, 2, none⟩) (blk_grownT HgiA.out hg2 (fun k hk => by obtain ⟨c, hc⟩ := Kd.R_typed HMA.out.funs k hk; exact ⟨72, c, by decide, hc⟩)) (blk_ne HgiA.out HMA.out.fin (by decide)) (.slice A2 (funs.length + 1) c2))
                 have hc6 : w6.cell? ⟨gf, 2, none⟩ = some (.slice Af funs.length cf) := (blk_cell HF6.out 2).trans rfl
                 have hz6 : w6.frozen? ⟨gf, 2, none⟩ = false := blk_frozen HF6.out 2
                 clear ho hb hg2 hat HMA HgiA HF6)
              | (go_simp
                 go_at_call 37
                 refine Calls.mono (calls_of_args (by rw [List.length_range']) (arrow_calls w.heap.size s2 ad2 0 A7 c7 (List.range' s1.length j) gf _ _ _ _ HMq.out.held HMq.out.pos HMq.out.below.size (Ptrs.move HP.out (fun a _ => rfl)) HMq.out.fin)) ?_
                 rintro e wA ⟨e3, rfl, hA, hbA, hkA, hnA⟩
                 have HMA := Aside0.mk (HMq.out.grow hA hbA)
                 have HgiA := Aside0.mk (blk_below Hgiq.out hbA)
                 have hcA : wA.cell? ⟨gf, 2, none⟩ = some (.slice Af funs.length cf) := (blk_cell HMA.out.fin 2).trans rfl
                 have hcA2 : ∀ o : Obj, (wA.alloc o).cell? ⟨gf, 2, none⟩ = some (.slice Af funs.length cf) := fun o => (blk_cell (blk_alloc HMA.out.fin o) 2).trans rfl
                 have HkA := Aside0.mk hkA
                 clear hA hbA hkA hnA))
            all_goals rw [HRN.out] at HM9
            all_goals generalize (w6.setCell { block := gf, off := 2 } (Value.slice A2 (funs.length + 1) c2)) = w9 at *
            all_goals clear hc6 hz6 hcA hcA2 HMq Hgiq HP hc2 hcell
            all_goals go_wp2_with fail
            all_goals go_roundg k1
            all_goals try (case measure => omega)
            all_goals (case rel => exact ⟨i + 1, _, _, psd ++ [List.range' s1.length j], funs ++ [(farrow s2 0 (List.range' s1.length j)).1], A2, c2, by go_num, ⟨by have := Hi.out.1; omega, by rw [List.length_append, Hi.out.2.1]; rfl, by rw [List.length_append, Hi.out.2.2]; rfl⟩, HFN, HM9⟩)
      · have hie : i = l1.length := by have := Hi.out.1; omega
        subst hie
        have hhd : hd = ((psd, funs), s1) := by
          have e := HF.out
          rw [List.drop_length] at e
          rw [← e]
          simp [fheads]
        subst hhd
        have HM' := Aside0.mk (show Mem gf gp cp l1.length A0 l0.length c0 w s1 ad1 psd funs Af cf (.slice none 0 0) wr from by
          have h := HM.out
          rw [Nat.sub_self, List.replicate_zero, List.append_nil] at h
          exact h)
        have HPL := Aside0.mk Hi.out.2
        have h := HH.out
        simp only at h
        cases hfb : fbodies l0 funs f s1 psd l1 with
        | none => rw [hfb] at h; cases h
        | some q =>
        obtain ⟨bF, sF⟩ := q
        rw [hfb] at h
        have HFB := Aside0.mk hfb
        have HH2 := Aside0.mk h
        clear hfb h HF HM HHd Hi HH
        go_wp2_with fail
        go_loopg [76] l1.length (fun kq v76 wr => ∃ (i : Nat) (s2 : List KN) (ad2 : List Nat) (pr : Value), v76 = .int .i64 (i : Int) ∧ Aside0 (i + kq = l1.length) ∧ Aside0 (fbodies l0 funs f s2 (psd.drop i) (l1.drop i) = some (bF, sF)) ∧ Aside0 (Mem gf gp cp l1.length A0 l0.length c0 w s2 ad2 psd funs Af cf pr wr))
        case atStart => exact ⟨0, s1, ad1, _, rfl, ⟨by omega⟩, HFB, HM'⟩
        case round =>
          clear HFB HM' 
          obtain ⟨i, s2, ad2, pr, rfl, Hi, HFB, HM⟩ := hrel
          by_cases hlt : i < l1.length
          · cases gk with
            | zero => exact absurd Hi.out (by omega)
            | succ k1 =>
            have Hlt := Aside0.mk hlt
            have HX := Aside0.mk (rd_T48_drop l1 i hlt)
            obtain ⟨ad0, A4, c4, he, hx1, hx2, hx3, hx4, hx5, hl4, hC4⟩ := at_T48 HR1.out (i : Int) (by omega) (by omega)
            cases he
            replace hx1 := (HM.out.below.cell (World.block_lt_of_cell? w _ hx1)).trans hx1
            replace hx2 := (HM.out.below.cell (World.block_lt_of_cell? w _ hx2)).trans hx2
            replace hx3 := (HM.out.below.cell (World.block_lt_of_cell? w _ hx3)).trans hx3
            replace hx4 := (HM.out.below.cell (World.block_lt_of_cell? w _ hx4)).trans hx4
            replace hx5 := (HM.out.below.cell (World.block_lt_of_cell? w _ hx5)).trans hx5
            rw [Int.toNat_natCast] at hx1 hx2 hx3 hx4 hx5
            have Hl4 := Aside0.mk hl4
            have HC4 := Aside0.mk hC4
            clear hl4 hC4
            have p1 : (0 ≤ (i : Int)) = True := eq_true (by omega)
            have p2 : ((i : Int) < (l1.length : Int)) = True := eq_true (by omega)
            have p3 : (i < l1.length) = True := eq_true (by omega)
            generalize hx : rd_T48 l1 (i : Int) = x at *
            clear hx
            go_upto_region 18 with (
              (with_reducible refine gate_dst (N := 12) rfl ?_)
              refine box_event ?hg (N := 12) ?hd (cs := #[.string (⟨#[]⟩ : ByteArray), .int .i64 0, .int .i64 0, .int .i64 0, .slice none 0 0]) (t := 48) ?hr ?_
              (case hd => rfl)
              (case hg => rfl)
              (case hr => first | (go_simp; done) | (go_simp; rfl))
              intro gi hgi w3 hbox hb3
              have hgw : wr.heap.size ≤ gi := by omega
              have HM3 := Aside0.mk (HM.out.sub (below_set (g := gi) (j := 4) (v := .slice A4 x.f2.f2.length c4) (below_set (g := gi) (j := 3) (v := .int .i64 x.f2.f1) (below_set (g := gi) (j := 2) (v := .int .i64 x.f2.f0) (below_set (g := gi) (j := 1) (v := .int .i64 x.f1) (below_set (g := gi) (j := 0) (v := .string x.f0) hb3 hgw) hgw) hgw) hgw) hgw))
              have Hgi := Aside0.mk (blk_put (cs' := #[.string x.f0, .int .i64 x.f1, .int .i64 x.f2.f0, .int .i64 x.f2.f1, .slice A4 x.f2.f2.length c4]) (blk_put (cs' := #[.string x.f0, .int .i64 x.f1, .int .i64 x.f2.f0, .int .i64 x.f2.f1, .slice none 0 0]) (blk_put (cs' := #[.string x.f0, .int .i64 x.f1, .int .i64 x.f2.f0, .int .i64 0, .slice none 0 0]) (blk_put (cs' := #[.string x.f0, .int .i64 x.f1, .int .i64 0, .int .i64 0, .slice none 0 0]) (blk_put (cs' := #[.string x.f0, .int .i64 0, .int .i64 0, .int .i64 0, .slice none 0 0]) (hbox) 0 (.string x.f0) rfl) 1 (.int .i64 x.f1) rfl) 2 (.int .i64 x.f2.f0) rfl) 3 (.int .i64 x.f2.f1) rfl) 4 (.slice A4 x.f2.f2.length c4) rfl)
              have hci1 : (((((w3.setCell ⟨gi, 0, none⟩ (.string x.f0)).setCell ⟨gi, 1, none⟩ (.int .i64 x.f1)).setCell ⟨gi, 2, none⟩ (.int .i64 x.f2.f0)).setCell ⟨gi, 3, none⟩ (.int .i64 x.f2.f1)).setCell ⟨gi, 4, none⟩ (.slice A4 x.f2.f2.length c4)).cell? ⟨gi, 1, none⟩ = some (.int .i64 x.f1) := (blk_cell Hgi.out 1).trans rfl
              have hcz0 := (blk_cell hbox 0).trans rfl
              have hfz0 := blk_frozen hbox 0
              have hcz1 := (blk_cell hbox 1).trans rfl
              have hfz1 := blk_frozen hbox 1
              have hcz2 := (blk_cell hbox 2).trans rfl
              have hfz2 := blk_frozen hbox 2
              have hcz3 := (blk_cell hbox 3).trans rfl
              have hfz3 := blk_frozen hbox 3
              have hcz4 := (blk_cell hbox 4).trans rfl
              have hfz4 := blk_frozen hbox 4
              clear hbox hb3 hgi hgw)
            clear hci1 hcz0 hcz1 hcz2 hcz3 hcz4 hfz0 hfz1 hfz2 hfz3 hfz4 hx1 hx2 hx3 hx4 hx5 HM
            generalize (((((w3.setCell ⟨gi, 0, none⟩ (.string x.f0)).setCell ⟨gi, 1, none⟩ (.int .i64 x.f1)).setCell ⟨gi, 2, none⟩ (.int .i64 x.f2.f0)).setCell ⟨gi, 3, none⟩ (.int .i64 x.f2.f1)).setCell ⟨gi, 4, none⟩ (.slice A4 x.f2.f2.length c4)) = wq at *
            have hpi : i < psd.length := by rw [HPL.out.1]; exact hlt
            have hrow : psd.getD i [] = psd[i] := by rw [List.getD_eq_getElem?_getD, List.getElem?_eq_getElem hpi]; rfl
            have hdp : psd.drop i = psd[i] :: psd.drop (i + 1) := List.drop_eq_getElem_cons hpi
            obtain ⟨oki, A7, c7, hcell, hR, hoki, hH⟩ := HM3.out.lend hlt
            rw [hrow] at hcell hR
            have hpsl : ∀ p, p ∈ psd[i] → p < s2.length := HM3.out.brows _ (List.getElem_mem hpi)
            generalize psd[i] = ps at *
            have hc3 : wq.cell? ⟨gf, 3, none⟩ = some pr := (blk_cell HM3.out.fin 3).trans rfl
            have hz3 : wq.frozen? ⟨gf, 3, none⟩ = false := blk_frozen HM3.out.fin 3
            have HM4 := Aside0.mk (HM3.out.setPr (.slice A7 ps.length c7))
            have HRp := Aside0.mk (Kd.R_set (Kd.R_mono hR (fun _ _ => trivial)) HM3.out.fin (by decide) 3 (.slice A7 ps.length c7))
            have Hgi4 := Aside0.mk (blk_far (p := ⟨gf, 3, none⟩) Hgi.out (blk_ne Hgi.out HM3.out.fin (by decide)) (.slice A7 ps.length c7))
            have HDP := Aside0.mk hdp
            have HPSL := Aside0.mk hpsl
            clear hrow hdp hR hoki hH hpsl HM3 Hgi
            go_upto_region 19 with (fail)
            clear hc3 hz3 hcell
            generalize (wq.setCell { block := gf, off := 3 } (.slice A7 ps.length c7)) = wp at *
            have hb2 : wp.cell? ⟨gi, 2, none⟩ = some (.int .i64 x.f2.f0) := (blk_cell Hgi4.out 2).trans rfl
            have hb3 : wp.cell? ⟨gi, 3, none⟩ = some (.int .i64 x.f2.f1) := (blk_cell Hgi4.out 3).trans rfl
            have hb4 : wp.cell? ⟨gi, 4, none⟩ = some (.slice A4 x.f2.f2.length c4) := (blk_cell Hgi4.out 4).trans rfl
            have hfb := HFB.out
            rw [HDP.out, HX.out] at hfb
            unfold fbodies at hfb
            cases hft : fterm ⟨0, l0, funs, ps⟩ f s2 x.f2.f0 x.f2.f1 x.f2.f2 with
            | none => rw [hft] at hfb; cases hfb
            | some q =>
            obtain ⟨r, s3⟩ := q
            rw [hft] at hfb
            have HFT := Aside0.mk hft
            have HFN := Aside0.mk hfb
            clear hft hfb HFB
            go_wp2_with fail
            have hpl : ps.length ≤ 9223372036854775807 := by
              have h := (Kd.R_reads' HRp.out).2.2.2.1
              rw [kds_len] at h
              exact h
            have hfl : funs.length ≤ 9223372036854775807 := by rw [HPL.out.2]; exact hlen1
            (with_reducible refine (term_calls w.heap.size ⟨0, l0, funs, ps⟩ gf (fun x hx => by have := symsL_le l0 [] hok.1 x hx; omega) f s2 ad2 x.f2.f0 x.f2.f1 x.f2.f2 A4 c4 r s3 w wp HM4.out.held A0 c0 (HM4.out.find HRp.out HPSL.out hpl hfl) HR0.out HM4.out.below.size (Nat.le_refl _) HC4.out Hl4.out HM4.out.below HFT.out).mono ?_)
            rintro e w5 ⟨e1, v, rfl, hv1, hv2, hH5, hT5, hn5⟩
            have HM5 := Aside0.mk (HM4.out.turn hH5 hT5)
            have hfn := HFN.out
            clear hH5 hT5 hn5 HM4 HRp Hgi4 hb2 hb3 hb4 hpl hfl HFN HPSL
            cases r with
            | none =>
              injection hfn with e
              injection e with ea eb
              subst ea eb
              have hh := HH2.out
              injection hh with hh
              injection hh with ha hb
              subst ha hb
              have hv := hv2 rfl
              subst hv
              clear hv1 hv2
              go_wp2_with fail
              go_ret2
              exact ⟨_, rfl, Kd.R_nil _ _ _ _ _, HM5.out.below⟩
            | some k =>
              obtain ⟨hv, hkl⟩ := hv1 k rfl
              subst hv
              simp only at hfn
              clear hv1 hv2
              cases hj : fjoin f s3 k 0 with
              | none => rw [hj] at hfn; cases hfn
              | some q =>
              obtain ⟨rj, s4⟩ := q
              rw [hj] at hfn
              have HJ := Aside0.mk hj
              have HFN := Aside0.mk hfn
              have hc0 : w5.cell? ⟨gf, 0, none⟩ = some (pk (ad2 ++ e1) 0) := (blk_cell HM5.out.fin 0).trans rfl
              clear hj hfn
              go_wp2_with fail
              (with_reducible refine (join_calls w.heap.size (ad2 ++ e1) f s3 k 0 rj s4 w5 HM5.out.held HJ.out).mono ?_)
              rintro e w6 ⟨rfl, hH6, hT6⟩
              have HM6 := Aside0.mk (show Mem gf gp cp l1.length A0 l0.length c0 w s4 (ad2 ++ e1) psd funs Af cf (.slice A7 ps.length c7) w6 from by
                have h := HM5.out.turn (e' := []) (by rw [List.append_nil]; exact hH6) hT6
                rw [List.append_nil] at h
                exact h)
              have hfn := HFN.out
              clear hH6 hT6 HM5 hc0 HFN
              cases rj with
              | false =>
                injection hfn with e
                injection e with ea eb
                subst ea eb
                have hh := HH2.out
                injection hh with hh
                injection hh with ha hb
                subst ha hb
                go_wp2_with fail
                go_ret2
                exact ⟨_, rfl, Kd.R_nil _ _ _ _ _, HM6.out.below⟩
              | true =>
                simp only at hfn
                have HFN := Aside0.mk hfn
                clear hfn
                go_wp2_with fail
                go_roundg k1
                case measure => omega
                case rel => exact ⟨i + 1, s4, ad2 ++ e1, _, by go_num, ⟨by have := Hi.out; omega⟩, HFN, HM6⟩
          · have hie : i = l1.length := by have := Hi.out; omega
            subst hie
            have hfb := HFB.out
            rw [List.drop_length] at hfb
            have hq : (true, s2) = (bF, sF) := by
              cases hd2 : psd.drop l1.length with
              | nil => rw [hd2] at hfb; unfold fbodies at hfb; injection hfb
              | cons _ _ => rw [hd2] at hfb; unfold fbodies at hfb; injection hfb
            injection hq with ea eb
            subst ea eb
            have h := HH2.out
            simp only at h
            cases hfo : fouts s2 f [] funs with
            | none => rw [hfo] at h; cases h
            | some fo =>
            rw [hfo] at h
            have HFO := Aside0.mk hfo
            have HH3 := Aside0.mk h
            have hc2 : wr.cell? ⟨gf, 2, none⟩ = some (.slice Af funs.length cf) := (blk_cell HM.out.fin 2).trans rfl
            have Hh := Aside0.mk HM.out.held
            have HRf := Aside0.mk HM.out.funs
            have Hbf := Aside0.mk HM.out.bfuns
            have HB := Aside0.mk HM.out.below
            have hfl : funs.length ≤ 64 := by rw [HPL.out.2]; have := hok.2.2.2.1; omega
            clear hfb hfo h HFB HH2 HM
            go_wp2_with fail
            go_loopg [15, 112] funs.length (fun kq v15 v112 wr => ∃ (i : Nat) (acc : List S41) (Ao : Option Addr) (co : Nat), v15 = .slice Ao acc.length co ∧ v112 = .int .i64 (i : Int) ∧ Aside0 (i + kq = funs.length ∧ acc.length = i) ∧ Aside0 (fouts s2 f acc (funs.drop i) = some fo) ∧ Aside0 (Held w.heap.size s2 ad2 wr) ∧ Aside0 ((Kd.raw 1).R 72 wr w.heap.size (fun _ => True) (.slice Af funs.length cf) (kds ad2 funs)) ∧ Aside0 (k41.R 41 wr w.heap.size (fun _ => True) (.slice Ao acc.length co) acc) ∧ Aside0 (Below w.heap.size w wr))
            case atStart => exact ⟨0, [], none, 0, rfl, rfl, ⟨by omega, rfl⟩, HFO, Hh, HRf, ⟨Kd.R_nil _ _ _ _ _⟩, HB⟩
            case round =>
              clear HFO Hh HRf HB hc2
              obtain ⟨i, acc, Ao, co, rfl, rfl, Hi, HFO, Hh, HRf, HRo, HB⟩ := hrel
              by_cases hlt : i < funs.length
              · cases gk with
                | zero => exact absurd Hi.out.1 (by omega)
                | succ k1 =>
                have HP := Ptrs_of_R HRf.out (fun p hp => by rw [Hh.out.len]; exact Hbf.out p hp) (by omega)
                obtain ⟨adr, hadr, hcel⟩ := HP.2.2 (by omega)
                subst hadr
                have hx := hcel i funs[i] (List.getElem?_eq_getElem hlt)
                have HD := Aside0.mk (List.drop_eq_getElem_cons hlt)
                have hkl := Hbf.out funs[i] (List.getElem_mem hlt)
                generalize funs[i] = k at *
                have p1 : (0 ≤ (i : Int)) = True := eq_true (by omega)
                have p2 : ((i : Int) < (funs.length : Int)) = True := eq_true (by omega)
                have p3 : (i < funs.length) = True := eq_true (by omega)
                have hfo := HFO.out
                rw [HD.out] at hfo
                unfold fouts at hfo
                cases hsh : fshown s2 f k 60 with
                | none => rw [hsh] at hfo; cases hfo
                | some q =>
                obtain ⟨o, lft⟩ := q
                rw [hsh] at hfo
                have HSH := Aside0.mk hsh
                have HFN := Aside0.mk hfo
                clear HP hcel hsh hfo HFO
                go_upto_region 28 with (
                  (with_reducible refine gate_dst (N := 18) rfl ?_)
                  refine box_event ?hg (N := 18) ?hd (cs := #[.int .i64 0]) (t := 3) ?hr ?_
                  (case hd => rfl)
                  (case hg => rfl)
                  (case hr => first | (go_simp; done) | (go_simp; rfl))
                  intro gl hgl w3 hbox hb3
                  have hcz := (blk_cell hbox 0).trans rfl
                  have hfz := blk_frozen hbox 0
                  have hgw : wr.heap.size ≤ gl := by omega
                  have Hbl := Aside0.mk (blk_put (cs' := #[.int .i64 60]) hbox 0 (.int .i64 60) rfl)
                  have hbw := below_set (g := gl) (j := 0) (v := .int .i64 60) hb3 hgw
                  have Hh3 := Aside0.mk (Held.below Hh.out hbw)
                  have HRf3 := Aside0.mk (Kd.R_below HRf.out hbw)
                  have HRo3 := Aside0.mk (Kd.R_below HRo.out hbw)
                  have HB3 := Aside0.mk (below_step HB.out hbw)
                  have Hgl := Aside0.mk (Nat.le_trans HB.out.size hgw)
                  clear hbox hb3 hbw hgw hgl)
                generalize (w3.setCell { block := gl, off := 0 } (Value.int IntKind.i64 60)) = wc at *
                have hgn : gl ∉ ad2 := Hh3.out.notin Hbl.out (by decide)
                clear hx hcz hfz p1 p2 p3 Hh HRf HRo HB
                go_wp2_with fail
                (with_reducible refine (shown_calls w.heap.size s2 ad2 f k gl 60 lft o w wc Hh3.out hgn HSH.out Hgl.out HB3.out Hbl.out (by decide) (by decide)).mono ?_)
                rintro e w5 ⟨v, rfl, ⟨Av, nv, cv, rfl⟩, hR5, hB5, hK5, hb5⟩
                have Hh5 := Aside0.mk (Held.keep Hh3.out hK5 hgn)
                have HRf5 := Aside0.mk (Kd.R_mono (Kd.R_keep (Kd.R_types HRf3.out Hbl.out (by decide)) hK5 (fun k hk => hk.2)) (fun _ _ => trivial))
                have HRo5 := Aside0.mk (Kd.R_mono (Kd.R_keep (Kd.R_types HRo3.out Hbl.out (by decide)) hK5 (fun k hk => hk.2)) (fun _ _ => trivial))
                have HB5 := Aside0.mk hB5
                have HR5 := Aside0.mk hR5
                have Hlt := Aside0.mk (Kd.R_lt HRo3.out)
                have hsz5 : wc.heap.size ≤ w5.heap.size := hK5.1
                have hszw : w.heap.size ≤ wc.heap.size := HB3.out.size
                have hfn := HFN.out
                clear hR5 hB5 hK5 hb5 Hh3 HRf3 HRo3 HB3 hgn Hbl HFN
                cases o with
                | none =>
                  injection hfn with e
                  subst e
                  have hh := HH3.out
                  injection hh with hh
                  injection hh with ha hb
                  subst ha hb
                  clear HR5
                  go_wp2_with ((with_reducible refine gate_dst (N := 19) rfl ?_); refine holdI5 ?_)
                  unfold HoldI5
                  (
                    refine box_event ?hg (N := 19) ?hd (cs := #[.slice none 0 0]) (t := 41) ?hr ?_
                    (case hd => rfl)
                    (case hg => rfl)
                    (case hr => first | (go_simp; done) | (go_simp; rfl))
                    intro g7 hg7 w6 hbox hb6
                    have hg6 : w.heap.size ≤ g7 := by omega
                    have HB6 := Aside0.mk (below_set (g := g7) (j := 0) (v := .slice Av nv cv) (below_step HB5.out hb6) hg6)
                    have hcz := (blk_cell hbox 0).trans rfl
                    have hfz := blk_frozen hbox 0
                    clear hbox hb6 hg6 hg7)
                  go_wp2_with fail
                  go_ret2
                  exact ⟨_, rfl, Kd.R_nil _ _ _ _ _, HB6.out⟩
                | some x =>
                  simp only at hfn
                  cases hck : sorts_Check.f x with
                  | none => rw [hck] at hfn; cases hfn
                  | some ec =>
                  rw [hck] at hfn
                  simp only at hfn
                  have HCK := Aside0.mk hck
                  have hr5 := HR5.out x rfl
                  obtain ⟨Ax, cx, ex⟩ := Kd.R_slice hr5
                  injection ex with e1 e2 e3
                  subst e1 e2 e3
                  have HX := Aside0.mk hr5
                  clear hck hr5 HR5
                  go_wp2_with ((with_reducible refine gate_dst (N := 19) rfl ?_); refine holdI5 ?_)
                  unfold HoldI5
                  (
                    refine box_event ?hg (N := 19) ?hd (cs := #[.slice none 0 0]) (t := 41) ?hr ?_
                    (case hd => rfl)
                    (case hg => rfl)
                    (case hr => first | (go_simp; done) | (go_simp; rfl))
                    intro g7 hg7 w6 hbox hb6
                    have hg6 : w.heap.size ≤ g7 := by omega
                    have hbw := below_set (g := g7) (j := 0) (v := .slice Av x.length cv) hb6 (Nat.le_of_eq hg7.symm)
                    have HB6 := Aside0.mk (below_step HB5.out hbw)
                    have Hh6 := Aside0.mk (Held.below Hh5.out hbw)
                    have HRf6 := Aside0.mk (Kd.R_below HRf5.out hbw)
                    have HRo6 := Aside0.mk (Kd.R_below (Kd.R_mono (Kd.R_bound HRo5.out) (fun k hk => (show k ≠ g7 by have := hk.2.2.1; omega))) hbw)
                    have HX6 := Aside0.mk (Kd.R_below (Kd.R_mono (Kd.R_bound HX.out) (fun k hk => (show k ≠ g7 ∧ wc.heap.size ≤ k from ⟨by have := hk.2.2.1; omega, hk.2.1⟩))) hbw)
                    have Hb7 := Aside0.mk (blk_put (cs' := #[.slice Av x.length cv]) hbox 0 (.slice Av x.length cv) rfl)
                    have hcz := (blk_cell hbox 0).trans rfl
                    have hfz := blk_frozen hbox 0
                    have hc7 : (w6.setCell ⟨g7, 0, none⟩ (.slice Av x.length cv)).cell? ⟨g7, 0, none⟩ = some (.slice Av x.length cv) := (blk_cell Hb7.out 0).trans rfl
                    clear hbox hb6 hbw hg6
                    have Hg7 := Aside0.mk hg7
                    clear hg7)
                  go_wp2_with fail
                  obtain ⟨_, hxc, hxr⟩ := Kd.R_reads' HX6.out
                  (with_reducible refine (sorts_Check.calls Av cv x ec _ hxr hxc HCK.out).mono ?_)
                  rintro e w7 ⟨rfl, hb7⟩
                  have HB7 := Aside0.mk (below_step HB6.out hb7)
                  have Hh7 := Aside0.mk (Held.below Hh6.out hb7)
                  have HRf7 := Aside0.mk (Kd.R_below HRf6.out hb7)
                  have HRo7 := Aside0.mk (Kd.R_below HRo6.out hb7)
                  have HX7 := Aside0.mk (Kd.R_below HX6.out hb7)
                  have Hb77 := Aside0.mk (blk_below Hb7.out hb7)
                  have hc77 : w7.cell? ⟨g7, 0, none⟩ = some (.slice Av x.length cv) := (blk_cell Hb77.out 0).trans rfl
                  clear hcz hfz hc7 hxc hxr hb7 HB6 Hh6 HRf6 HRo6 HX6 Hb7 HX HB5 Hh5 HRf5 HRo5
                  by_cases hec : ec = 0
                  · rw [if_pos hec] at hfn
                    subst hec
                    have HFN := Aside0.mk hfn
                    clear hfn
                    go_wp2_with (at_builtin; refine holdI5 ?_)
                    unfold HoldI5
                    refine Kd.R_append k41 (w0 := w) w.heap.size rfl (.tmp 128) (.tmp 130) 31 41 (.agg #[(.slice none 0 0)]) 24 rfl Try.underlying31 info41 rfl (by decide) (by omega) (.slice Ao acc.length co) acc (⟨x⟩ : S41) [.slice Av x.length cv] (fun k => k ≠ g7) (fun k => k ≠ g7 ∧ wc.heap.size ≤ k) rfl rfl ?aP ?aK ?aF ?aO ?aB ?aS ?aL ?_
                    (case aP => exact k41_mkM _ _ _ (⟨x⟩ : S41) (Kd.R_lower HX7.out hszw))
                    (case aK => exact fun k hk => ⟨hk.1, fun he => by have := Hlt.out k he.symm; have := hk.2; omega⟩)
                    (case aF => intro k hk; have := blk_lt Hb77.out; omega)
                    (case aO => exact HRo7.out)
                    (case aB => exact HB7.out)
                    (case aS => exact HB7.out.size)
                    (case aL => have := Hi.out.2; omega)
                    intro v2 w8 ho hb hg2 hat
                    obtain ⟨A2, c2, e2⟩ := Kd.R_slice ho
                    have tg : ∀ k, (Value.slice Ao acc.length co).ownBlock = some k → ∃ cells, w7.heap[k]? = some (.cells cells 41 (0, 0)) := Kd.R_typed HRo7.out
                    have Hh8 := Aside0.mk (Held.grownT Hh7.out hg2 (fun k hk => by obtain ⟨c, hc⟩ := tg k hk; exact ⟨41, c, by decide, hc⟩))
                    have HRf8 := Aside0.mk (Kd.R_over' HRf7.out tg (by decide) hg2)
                    have HRo8 := Aside0.mk (Kd.R_mono ho (fun _ _ => trivial))
                    have HB8 := Aside0.mk hb
                    have HL8 := Aside0.mk (show (acc ++ [(⟨x⟩ : S41)]).length = i + 1 from by rw [List.length_append, Hi.out.2]; rfl)
                    obtain ⟨n2, hn2⟩ : ∃ n, n = (acc ++ [(⟨x⟩ : S41)]).length := ⟨_, rfl⟩
                    rw [← hn2] at e2
                    subst e2
                    have HN2 := Aside0.mk hn2
                    clear ho hb hg2 hat tg hn2 HB7 Hh7 HRf7 HRo7 HX7 Hb77 hc77 Hlt
                    go_wp2_with fail
                    go_roundg k1
                    case measure => omega
                    case rel => exact ⟨i + 1, acc ++ [⟨x⟩], A2, c2, by rw [HN2.out], by go_num, ⟨by have := Hi.out.1; omega, HL8.out⟩, HFN, Hh8, HRf8, ⟨by rw [← HN2.out]; exact HRo8.out⟩, HB8⟩
                  · rw [if_neg hec] at hfn
                    injection hfn with e
                    subst e
                    have hh := HH3.out
                    injection hh with hh
                    injection hh with ha hb
                    subst ha hb
                    have hne : (ec != 0) = true := by rw [bne_iff_ne]; exact hec
                    clear hec
                    go_wp2_with fail
                    go_ret2
                    exact ⟨_, rfl, Kd.R_nil _ _ _ _ _, HB7.out⟩
              · have hie : i = funs.length := by have := Hi.out.1; omega
                subst hie
                have hfn := HFO.out
                rw [List.drop_length] at hfn
                unfold fouts at hfn
                injection hfn with e
                subst e
                have hh := HH3.out
                injection hh with hh
                injection hh with ha hb
                subst ha hb
                go_wp2_with fail
                go_ret2
                exact ⟨_, rfl, HRo.out, HB.out⟩
  · rw [if_neg he0] at h
    injection h with h
    injection h with ea eb
    subst ea eb
    have hne : (e0 != 0) = true := by rw [bne_iff_ne]; exact he0
    go_wp2_with fail
    go_ret2
    exact ⟨_, rfl, Kd.R_nil _ _ _ _ _, HB1.out⟩
end Go.Proofs.Ytfhgoebgnilfaaa.I
namespace Go.Proofs.Ytfhgoebgnilfaaa.I
open Go.RowKit Go.Proofs.YtfhgoebgnilfaaaW.PrintWords Go.Proofs.YtfhgoebgnilfaaaW.PrintLast Go.Proofs.YtfhgoebgnilfaaaW.PrintMore
set_option linter.unusedVariables false
mutual
/-- Are all heads' kinds ints? -/
def twfB : S44 → Bool
  | ⟨k, _, l⟩ => (Lit.int .i64 k).wf && twfBL l
def twfBL : List S44 → Bool
  | [] => true
  | x :: xs => twfB x && twfBL xs
end
mutual
theorem twf_of : ∀ {x : S44}, twfB x = true → twf x
  | ⟨k, n, l⟩, h => by
    unfold twfB at h
    rw [Bool.and_eq_true] at h
    exact ⟨h.1, twfL_of h.2⟩
theorem twfL_of : ∀ {l : List S44}, twfBL l = true → twfL l
  | [], _ => trivial
  | x :: xs, h => by
    unfold twfBL at h
    rw [Bool.and_eq_true] at h
    exact ⟨twf_of h.1, twfL_of h.2⟩
end
def looseWf (l : List S48) : Bool := l.all (fun x => twfB x.f2)
theorem looseWf_of {l : List S48} (h : looseWf l = true) : ∀ x ∈ l, twf x.f2 := fun x hx => twf_of (List.all_eq_true.1 h x hx)
def infer_Check.f (l0 : List S59) (l1 : List S48) : Option Int := if looseWf l1 = true then chkF l0 l1 else none
def infer_Sorts.f (k : Nat) (l0 : List S59) (l1 : List S48) : Option (List S41 × Int) := if looseWf l1 = true then fsorts k l0 l1 else none
theorem infer_Sorts.mono : ∀ l0 l1 k, LeO (infer_Sorts.f k l0 l1) (infer_Sorts.f (k + 1) l0 l1) := by
  intro l0 l1 k r h
  unfold infer_Sorts.f at h ⊢
  by_cases hw : looseWf l1 = true
  · rw [if_pos hw] at h ⊢
    exact fsorts_s k l0 l1 r h
  · rw [if_neg hw] at h; cases h
theorem infer_Sorts.calls (k : Nat) (A0 : Option Addr) (c0 : Nat) (l0 : List S59) (A1 : Option Addr) (c1 : Nat) (l1 : List S48) (r1 : List S41) (r2 : Int) (w : World) (hr0 : Kd.C k59 w A0 l0.length l0) (hc0 : l0.length ≤ c0) (hr1 : Kd.C k48 w A1 l1.length l1) (hc1 : l1.length ≤ c1) (h : infer_Sorts.f k l0 l1 = some (r1, r2)) :
    Calls Try.prog 13 #[.slice A0 l0.length c0, .slice A1 l1.length c1] w fun e w' => ∃ v0_ : Value, e = .returned (.tuple #[v0_, .int .i64 r2]) ∧ Kd.R k41 41 w' w.heap.size (fun _ => True) v0_ r1 ∧ Below w.heap.size w w' := by
  unfold infer_Sorts.f at h
  by_cases hw : looseWf l1 = true
  · rw [if_pos hw] at h
    exact infer_Sorts_calls k A0 c0 l0 A1 c1 l1 r1 r2 w hr0 hc0 hr1 hc1 (looseWf_of hw) h
  · rw [if_neg hw] at h; cases h
end Go.Proofs.Ytfhgoebgnilfaaa.I
namespace Go.Proofs.Ytfhgoebgnilfaaa.I
open Go.RowKit Go.Proofs.YtfhgoebgnilfaaaW.PrintWords Go.Proofs.YtfhgoebgnilfaaaW.PrintLast Go.Proofs.YtfhgoebgnilfaaaW.PrintMore
attribute [local go_sem] max2_int min2_int max_two min_two max_three min_three max_four min_four   -- for this text's walks alone
set_option linter.unusedVariables false
set_option linter.unusedSimpArgs false
mutual
def virgationref01_Rank.l0 : Nat → Int → List (S41) → Int → Int → Option (Int)
  | 0, _, _, _, _ => none
  | k + 1, x3, x7, x8, x9 => if x9 < x8 then (if 0 ≤ x9 then (if x9 < (x7.length : Int) then ((virgationref01_Rank.f k ((rd_T41 x7 x9).f0)).bind fun t267 => (virgationref01_Rank.l0 k (mx x3 (wrap64 (1 + t267))) x7 x8 (wrap64 (x9 + 1)))) else (none)) else (none)) else (some x3)
def virgationref01_Rank.f : Nat → List (S41) → Option (Int)
  | 0, _ => none
  | k + 1, l0_0 => virgationref01_Rank.l0 k 0 l0_0 (l0_0.length : Int) 0
end
theorem virgationref01_Rank.mono_l : ∀ k, (∀ y0, LeO (virgationref01_Rank.f k y0) (virgationref01_Rank.f (k + 1) y0)) ∧ (∀ y0 y1 y2 y3, LeO (virgationref01_Rank.l0 k y0 y1 y2 y3) (virgationref01_Rank.l0 (k + 1) y0 y1 y2 y3))
  | 0 => ⟨fun _ r h => by simp [virgationref01_Rank.f] at h, fun _ _ _ _ r h => by simp [virgationref01_Rank.l0] at h⟩
  | k + 1 => by
    obtain ⟨ih0, ih1⟩ := virgationref01_Rank.mono_l k
    refine ⟨?_, ?_⟩
    · intro y0
      unfold virgationref01_Rank.f
      repeat' first
      | (with_reducible exact ih0 _)
      | (with_reducible exact ih1 _ _ _ _)
      | (with_reducible exact LeO.refl _)
      | (with_reducible exact LeO.none _)
      | (with_reducible refine LeO.ite ?_ ?_)
      | (with_reducible refine LeO.bind ?_ (fun _ => ?_))
      | exact ih0 _
      | exact ih1 _ _ _ _
      | exact LeO.none _
      | refine LeO.ite ?_ ?_
      | refine LeO.bind ?_ (fun _ => ?_)
    · intro y0 y1 y2 y3
      unfold virgationref01_Rank.l0
      repeat' first
      | (with_reducible exact ih0 _)
      | (with_reducible exact ih1 _ _ _ _)
      | (with_reducible exact LeO.refl _)
      | (with_reducible exact LeO.none _)
      | (with_reducible refine LeO.ite ?_ ?_)
      | (with_reducible refine LeO.bind ?_ (fun _ => ?_))
      | exact ih0 _
      | exact ih1 _ _ _ _
      | exact LeO.none _
      | refine LeO.ite ?_ ?_
      | refine LeO.bind ?_ (fun _ => ?_)
theorem virgationref01_Rank.mono : ∀ a0 k, LeO (virgationref01_Rank.f k a0) (virgationref01_Rank.f (k + 1) a0) := by
  intro a0 k
  obtain ⟨ih0, ih1⟩ := virgationref01_Rank.mono_l k
  exact ih0 a0
mutual
def infer_copied.l0 : Nat → List (S44) → Int → Int → Int → Int → List (S44) → Option (Int × Int × (List (S44)))
  | 0, _, _, _, _, _, _ => none
  | k + 1, x12, x13, x14, x272000, x272001, x272002 => if x14 < x13 then (if 0 ≤ x14 then (if x14 < (x12.length : Int) then ((infer_copied.f k ((rd_T44 x12 x14).f0) ((rd_T44 x12 x14).f1) ((rd_T44 x12 x14).f2)).bind fun bt274 => (if x272002.length < 3518437208883 then (infer_copied.l0 k x12 x13 (wrap64 (x14 + 1)) x272000 x272001 (x272002 ++ [(⟨bt274.1, bt274.2.1, bt274.2.2⟩ : S44)])) else (none))) else (none)) else (none)) else (some (x272000, x272001, x272002))
def infer_copied.f : Nat → Int → Int → List (S44) → Option (Int × Int × (List (S44)))
  | 0, _, _, _ => none
  | k + 1, a0_0, a0_1, l0_2 => infer_copied.l0 k l0_2 (l0_2.length : Int) 0 a0_0 a0_1 ([] : List (S44))
end
theorem infer_copied.mono_l : ∀ k, (∀ y0 y1 y2, LeO (infer_copied.f k y0 y1 y2) (infer_copied.f (k + 1) y0 y1 y2)) ∧ (∀ y0 y1 y2 y3 y4 y5, LeO (infer_copied.l0 k y0 y1 y2 y3 y4 y5) (infer_copied.l0 (k + 1) y0 y1 y2 y3 y4 y5))
  | 0 => ⟨fun _ _ _ r h => by simp [infer_copied.f] at h, fun _ _ _ _ _ _ r h => by simp [infer_copied.l0] at h⟩
  | k + 1 => by
    obtain ⟨ih0, ih1⟩ := infer_copied.mono_l k
    refine ⟨?_, ?_⟩
    · intro y0 y1 y2
      unfold infer_copied.f
      repeat' first
      | (with_reducible exact ih0 _ _ _)
      | (with_reducible exact ih1 _ _ _ _ _ _)
      | (with_reducible exact LeO.refl _)
      | (with_reducible exact LeO.none _)
      | (with_reducible refine LeO.ite ?_ ?_)
      | (with_reducible refine LeO.bind ?_ (fun _ => ?_))
      | exact ih0 _ _ _
      | exact ih1 _ _ _ _ _ _
      | exact LeO.none _
      | refine LeO.ite ?_ ?_
      | refine LeO.bind ?_ (fun _ => ?_)
    · intro y0 y1 y2 y3 y4 y5
      unfold infer_copied.l0
      repeat' first
      | (with_reducible exact ih0 _ _ _)
      | (with_reducible exact ih1 _ _ _ _ _ _)
      | (with_reducible exact LeO.refl _)
      | (with_reducible exact LeO.none _)
      | (with_reducible refine LeO.ite ?_ ?_)
      | (with_reducible refine LeO.bind ?_ (fun _ => ?_))
      | exact ih0 _ _ _
      | exact ih1 _ _ _ _ _ _
      | exact LeO.none _
      | refine LeO.ite ?_ ?_
      | refine LeO.bind ?_ (fun _ => ?_)
theorem infer_copied.mono : ∀ a0 a1 a2 k, LeO (infer_copied.f k a0 a1 a2) (infer_copied.f (k + 1) a0 a1 a2) := by
  intro a0 a1 a2 k
  obtain ⟨ih0, ih1⟩ := infer_copied.mono_l k
  exact ih0 a0 a1 a2
def infer_copied.T5 : Bool × List (List Nat × List Nat) := (true, [([], []), ([0], [0]), ([], []), ([2], [2]), ([3], [3]), ([1, 4, 3], [1, 4]), ([0, 1, 2, 3, 4, 5], []), ([6, 5, 5, 0, 1, 2, 3, 4, 5], [5, 6])])
def infer_copied.B5 : List Nat := [0, 1, 0, 4, 12, 31, 63, 127]
theorem infer_copied.tab5 : rtab .any (opsOf Try.f54 5) = infer_copied.T5 := by kernel_rfl
theorem infer_copied.bits5 : waitsOk infer_copied.T5.2 infer_copied.B5 = true := by kernel_rfl
set_option maxHeartbeats 8000000 in
set_option maxRecDepth 100000 in
theorem infer_copied.calls (k : Nat) : ∀ (a0_0 : Int) (a0_1 : Int) (A0_2 : Option Addr) (c0_2 : Nat) (l0_2 : List (S44)) (r1 : Int) (r2 : Int) (r3 : List (S44)) (w : World) (hr0_2 : Kd.C k44 w A0_2 l0_2.length l0_2) (hc0_2 : l0_2.length ≤ c0_2) (h : infer_copied.f k a0_0 a0_1 l0_2 = some (r1, r2, r3)),
    Calls Try.prog 54 #[.agg #[.int .i64 a0_0, .int .i64 a0_1, .slice A0_2 l0_2.length c0_2]] w fun e w' => ∃ v2_ : Value, e = .returned (.agg #[.int .i64 r1, .int .i64 r2, v2_]) ∧ Kd.R k44 44 w' w.heap.size (fun _ => True) v2_ r3 ∧ Below w.heap.size w w' := by
  induction k using Nat.strongRecOn with
  | _ k ih =>
  intro a0_0 a0_1 A0_2 c0_2 l0_2 r1 r2 r3 w hr0_2 hc0_2 h
  cases k with
  | zero => exact absurd h (by simp [infer_copied.f])
  | succ k =>
  simp only [infer_copied.f] at h
  have hu44 := Try.underlying44
  have HR0_2 := Aside0.mk hr0_2
  have HC0_2 := Aside0.mk hc0_2
  clear hr0_2 hc0_2
  have HB := Aside0.mk (Below.refl w.heap.size w)
  have H : (infer_copied.l0 k l0_2 (l0_2.length : Int) 0 a0_0 a0_1 ([] : List (S44))) = some (r1, r2, r3) := h
  clear h
  have H' := Aside0.mk H
  clear H
  go_enter Try.func54, Try.ntmps54
  go_wp2_with (first | ((with_reducible refine gate_dst (N := 1) rfl ?_); refine box_event ?hg (N := 1) ?hd (cs := #[.int .i64 a0_0, .int .i64 a0_1, .slice A0_2 l0_2.length c0_2]) (t := 44) ?hr ?_; (case hd => rfl); (case hg => rfl); (case hr => first | (go_simp; done) | (go_simp; rfl)); intro gb269 hg w2 hbox hb; have n0_ := Aside0.mk (below_step (by repeat (first | (with_reducible first | exact HB.out | apply below_alloc | apply pw_below_drewN | apply below_drew1) | exact HB.out)) hb); have n1_ := Aside0.mk (hbox); have n2_ := Aside0.mk ((by rw [hg]; exact (below_size (by repeat (first | (with_reducible first | exact HB.out | apply below_alloc | apply pw_below_drewN | apply below_drew1) | exact HB.out))) : w.heap.size ≤ gb269)); have n3_ := Aside0.mk ((by rw [hg]; exact (below_size (by repeat (first | (with_reducible first | exact HB.out | apply below_alloc | apply pw_below_drewN | apply below_drew1) | exact HB.out))) : w.heap.size ≤ gb269)); clear HB; have HB := n0_; have BK269 := n1_; have GW269 := n2_; have GE269 := n3_; clear n0_ n1_ n2_ n3_; clear hb hbox hg) | ((with_reducible refine gate_dst (N := 2) rfl ?_); refine box_event ?hg (N := 2) ?hd (cs := #[.int .i64 0, .int .i64 0, .slice none 0 0]) (t := 44) ?hr ?_; (case hd => rfl); (case hg => rfl); (case hr => first | (go_simp; done) | (go_simp; rfl)); intro gb270 hg w3 hbox hb; have n0_ := Aside0.mk (blk_below (g := gb269) (o := .cells #[.int .i64 a0_0, .int .i64 a0_1, .slice A0_2 l0_2.length c0_2] 44 (0, 0)) (by (with_reducible repeat (first | refine blk_drewN ?_ _ | refine blk_drew ?_ | refine blk_alloc ?_ _)); exact BK269.out) hb); have n1_ := Aside0.mk (below_step (by repeat (first | (with_reducible first | exact HB.out | apply below_alloc | apply pw_below_drewN | apply below_drew1 | refine below_set ?_ GE269.out) | exact HB.out)) hb); have n2_ := Aside0.mk (hbox); have n3_ := Aside0.mk ((by rw [hg]; exact (below_size (by repeat (first | (with_reducible first | exact HB.out | apply below_alloc | apply pw_below_drewN | apply below_drew1 | refine below_set ?_ GE269.out) | exact HB.out))) : w.heap.size ≤ gb270)); have n4_ := Aside0.mk ((by rw [hg]; exact (below_size (by repeat (first | (with_reducible first | exact HB.out | apply below_alloc | apply pw_below_drewN | apply below_drew1 | refine below_set ?_ GE269.out) | exact HB.out))) : w.heap.size ≤ gb270)); have n5_ := Aside0.mk ((by rw [hg]; exact Nat.ne_of_lt (blk_lt (g := gb269) (o := .cells #[.int .i64 a0_0, .int .i64 a0_1, .slice A0_2 l0_2.length c0_2] 44 (0, 0)) (by (with_reducible repeat (first | refine blk_drewN ?_ _ | refine blk_drew ?_ | refine blk_alloc ?_ _)); exact BK269.out)) : gb269 ≠ gb270)); have n6_ := Aside0.mk ((by rw [hg]; exact Nat.ne_of_gt (blk_lt (g := gb269) (o := .cells #[.int .i64 a0_0, .int .i64 a0_1, .slice A0_2 l0_2.length c0_2] 44 (0, 0)) (by (with_reducible repeat (first | refine blk_drewN ?_ _ | refine blk_drew ?_ | refine blk_alloc ?_ _)); exact BK269.out)) : gb270 ≠ gb269)); clear BK269; clear HB; have BK269 := n0_; have HB := n1_; have BK270 := n2_; have GW270 := n3_; have GE270 := n4_; have NB269_270 := n5_; have NB270_269 := n6_; clear n0_ n1_ n2_ n3_ n4_ n5_ n6_; clear hb hbox hg; have hnb4 := NB269_270.out; have hnc4 := NB270_269.out; have hcz5_0 : w3.cell? ⟨gb269, 0, none⟩ = some (.int .i64 a0_0) := (blk_cell BK269.out 0).trans rfl; have hcz5_1 : w3.cell? ⟨gb269, 1, none⟩ = some (.int .i64 a0_1) := (blk_cell BK269.out 1).trans rfl; have hcz5_2 : w3.cell? ⟨gb269, 2, none⟩ = some (.slice A0_2 l0_2.length c0_2) := (blk_cell BK269.out 2).trans rfl; have hfz5_0 := blk_frozen BK269.out 0; have hfz5_1 := blk_frozen BK269.out 1; have hfz5_2 := blk_frozen BK269.out 2) | ((with_reducible refine gate_dst (N := 3) rfl ?_); refine box_event ?hg (N := 3) ?hd (cs := #[.int .i64 0, .int .i64 0, .slice none 0 0]) (t := 44) ?hr ?_; (case hd => rfl); (case hg => rfl); (case hr => first | (go_simp; done) | (go_simp; rfl)); intro gb271 hg w6 hbox hb; have n0_ := Aside0.mk (blk_below (g := gb269) (o := .cells #[.int .i64 a0_0, .int .i64 a0_1, .slice A0_2 l0_2.length c0_2] 44 (0, 0)) (by (with_reducible repeat (first | refine blk_drewN ?_ _ | refine blk_drew ?_ | refine blk_alloc ?_ _)); exact BK269.out) hb); have n1_ := Aside0.mk (blk_below (g := gb270) (o := .cells #[.int .i64 0, .int .i64 0, .slice none 0 0] 44 (0, 0)) (by (with_reducible repeat (first | refine blk_drewN ?_ _ | refine blk_drew ?_ | refine blk_alloc ?_ _)); exact BK270.out) hb); have n2_ := Aside0.mk (below_step (by repeat (first | (with_reducible first | exact HB.out | apply below_alloc | apply pw_below_drewN | apply below_drew1 | refine below_set ?_ GE269.out | refine below_set ?_ GE270.out) | exact HB.out)) hb); have n3_ := Aside0.mk (hbox); have n4_ := Aside0.mk ((by rw [hg]; exact (below_size (by repeat (first | (with_reducible first | exact HB.out | apply below_alloc | apply pw_below_drewN | apply below_drew1 | refine below_set ?_ GE269.out | refine below_set ?_ GE270.out) | exact HB.out))) : w.heap.size ≤ gb271)); have n5_ := Aside0.mk ((by rw [hg]; exact (below_size (by repeat (first | (with_reducible first | exact HB.out | apply below_alloc | apply pw_below_drewN | apply below_drew1 | refine below_set ?_ GE269.out | refine below_set ?_ GE270.out) | exact HB.out))) : w.heap.size ≤ gb271)); have n6_ := Aside0.mk ((by rw [hg]; exact Nat.ne_of_lt (blk_lt (g := gb269) (o := .cells #[.int .i64 a0_0, .int .i64 a0_1, .slice A0_2 l0_2.length c0_2] 44 (0, 0)) (by (with_reducible repeat (first | refine blk_drewN ?_ _ | refine blk_drew ?_ | refine blk_alloc ?_ _)); exact BK269.out)) : gb269 ≠ gb271)); have n7_ := Aside0.mk ((by rw [hg]; exact Nat.ne_of_gt (blk_lt (g := gb269) (o := .cells #[.int .i64 a0_0, .int .i64 a0_1, .slice A0_2 l0_2.length c0_2] 44 (0, 0)) (by (with_reducible repeat (first | refine blk_drewN ?_ _ | refine blk_drew ?_ | refine blk_alloc ?_ _)); exact BK269.out)) : gb271 ≠ gb269)); have n8_ := Aside0.mk ((by rw [hg]; exact Nat.ne_of_lt (blk_lt (g := gb270) (o := .cells #[.int .i64 0, .int .i64 0, .slice none 0 0] 44 (0, 0)) (by (with_reducible repeat (first | refine blk_drewN ?_ _ | refine blk_drew ?_ | refine blk_alloc ?_ _)); exact BK270.out)) : gb270 ≠ gb271)); have n9_ := Aside0.mk ((by rw [hg]; exact Nat.ne_of_gt (blk_lt (g := gb270) (o := .cells #[.int .i64 0, .int .i64 0, .slice none 0 0] 44 (0, 0)) (by (with_reducible repeat (first | refine blk_drewN ?_ _ | refine blk_drew ?_ | refine blk_alloc ?_ _)); exact BK270.out)) : gb271 ≠ gb270)); clear BK269; clear BK270; clear HB; have BK269 := n0_; have BK270 := n1_; have HB := n2_; have BK271 := n3_; have GW271 := n4_; have GE271 := n5_; have NB269_271 := n6_; have NB271_269 := n7_; have NB270_271 := n8_; have NB271_270 := n9_; clear n0_ n1_ n2_ n3_ n4_ n5_ n6_ n7_ n8_ n9_; clear hb hbox hg; have hnb7 := NB271_269.out; have hnc7 := NB269_271.out; have hnb8 := NB271_270.out; have hnc8 := NB270_271.out; have hcz9_0 : w6.cell? ⟨gb271, 0, none⟩ = some (.int .i64 0) := (blk_cell BK271.out 0).trans rfl; have hcz9_1 : w6.cell? ⟨gb271, 1, none⟩ = some (.int .i64 0) := (blk_cell BK271.out 1).trans rfl; have hcz9_2 : w6.cell? ⟨gb271, 2, none⟩ = some (.slice none 0 0) := (blk_cell BK271.out 2).trans rfl; have hfz9_0 := blk_frozen BK271.out 0; have hfz9_1 := blk_frozen BK271.out 1; have hfz9_2 := blk_frozen BK271.out 2; have hcz10_0 : w6.cell? ⟨gb269, 0, none⟩ = some (.int .i64 a0_0) := (blk_cell BK269.out 0).trans rfl; have hcz10_1 : w6.cell? ⟨gb269, 1, none⟩ = some (.int .i64 a0_1) := (blk_cell BK269.out 1).trans rfl; have hcz10_2 : w6.cell? ⟨gb269, 2, none⟩ = some (.slice A0_2 l0_2.length c0_2) := (blk_cell BK269.out 2).trans rfl; have hfz10_0 := blk_frozen BK269.out 0; have hfz10_1 := blk_frozen BK269.out 1; have hfz10_2 := blk_frozen BK269.out 2))
  go_loopg [14] k (fun kq v14 w' => ∃ (x14_1 : Int) (x272002_1 : List (S44)) (u272002 : Value), v14 = .int .i64 x14_1 ∧ Aside0 (infer_copied.l0 kq l0_2 (l0_2.length : Int) x14_1 a0_0 a0_1 x272002_1 = some (r1, r2, r3)) ∧ Aside0 (kq ≤ k) ∧ Aside0 (Kd.R k44 44 w' w.heap.size (fun k_ => k_ ≠ gb269 ∧ k_ ≠ gb270 ∧ k_ ≠ gb271) u272002 x272002_1) ∧ Aside0 (w'.heap[gb269]? = some (.cells #[.int .i64 a0_0, .int .i64 a0_1, (.slice A0_2 l0_2.length c0_2)] 44 (0, 0))) ∧ Aside0 (w'.heap[gb270]? = some (.cells #[.int .i64 0, .int .i64 0, (.slice none 0 0)] 44 (0, 0))) ∧ Aside0 (w'.heap[gb271]? = some (.cells #[.int .i64 a0_0, .int .i64 a0_1, u272002] 44 (0, 0))) ∧ Aside0 (Below w.heap.size w w'))
  case atStart => exact ⟨(0), (([] : List (S44))), (.slice none 0 0), (by first | rfl | (simp; done) | (simp [*]; done)), H', ⟨Nat.le_refl _⟩, ⟨by first | exact Kd.R_nil _ _ _ _ _ | exact Kd.N_nil _ _ _ _ _ | exact Kd.V_nil _ _ _ _ _ | exact Kd.Q_nil _ _ _ _ _ | exact Kd.S_nil _ _ _ _ _⟩, ⟨by (with_reducible repeat (first | refine blk_drewN ?_ _ | refine blk_drew ?_ | refine blk_alloc ?_ _)); refine blk_far ?_ NB269_271.out _; (with_reducible repeat (first | refine blk_drewN ?_ _ | refine blk_drew ?_ | refine blk_alloc ?_ _)); refine blk_far ?_ NB269_271.out _; (with_reducible repeat (first | refine blk_drewN ?_ _ | refine blk_drew ?_ | refine blk_alloc ?_ _)); refine blk_far ?_ NB269_271.out _; (with_reducible repeat (first | refine blk_drewN ?_ _ | refine blk_drew ?_ | refine blk_alloc ?_ _)); exact BK269.out⟩, ⟨by (with_reducible repeat (first | refine blk_drewN ?_ _ | refine blk_drew ?_ | refine blk_alloc ?_ _)); refine blk_far ?_ NB270_271.out _; (with_reducible repeat (first | refine blk_drewN ?_ _ | refine blk_drew ?_ | refine blk_alloc ?_ _)); refine blk_far ?_ NB270_271.out _; (with_reducible repeat (first | refine blk_drewN ?_ _ | refine blk_drew ?_ | refine blk_alloc ?_ _)); refine blk_far ?_ NB270_271.out _; (with_reducible repeat (first | refine blk_drewN ?_ _ | refine blk_drew ?_ | refine blk_alloc ?_ _)); exact BK270.out⟩, ⟨by (with_reducible repeat (first | refine blk_drewN ?_ _ | refine blk_drew ?_ | refine blk_alloc ?_ _)); refine blk_put (cs := #[.int .i64 a0_0, .int .i64 a0_1, .slice none 0 0]) ?_ 2 _ rfl; (with_reducible repeat (first | refine blk_drewN ?_ _ | refine blk_drew ?_ | refine blk_alloc ?_ _)); refine blk_put (cs := #[.int .i64 a0_0, .int .i64 0, .slice none 0 0]) ?_ 1 _ rfl; (with_reducible repeat (first | refine blk_drewN ?_ _ | refine blk_drew ?_ | refine blk_alloc ?_ _)); refine blk_put (cs := #[.int .i64 0, .int .i64 0, .slice none 0 0]) ?_ 0 _ rfl; (with_reducible repeat (first | refine blk_drewN ?_ _ | refine blk_drew ?_ | refine blk_alloc ?_ _)); exact BK271.out⟩, ⟨by repeat (first | (with_reducible first | exact HB.out | apply below_alloc | apply pw_below_drewN | apply below_drew1 | refine below_set ?_ GE269.out | refine below_set ?_ GE270.out | refine below_set ?_ GE271.out) | exact HB.out)⟩⟩
  case round =>
    clear H'
    try clear p2
    try clear c4
    try clear c5
    try clear c7
    try clear c8
    try clear hcz10_0
    try clear hcz10_1
    try clear hcz10_2
    try clear hcz5_0
    try clear hcz5_1
    try clear hcz5_2
    try clear hcz9_0
    try clear hcz9_1
    try clear hcz9_2
    try clear hfz10_0
    try clear hfz10_1
    try clear hfz10_2
    try clear hfz5_0
    try clear hfz5_1
    try clear hfz5_2
    try clear hfz9_0
    try clear hfz9_1
    try clear hfz9_2
    obtain ⟨x14_1, x272002_1, u272002, rfl, HA, HK1, HO_272002, BK269, BK270, BK271, HB⟩ := hrel
    cases gk with
    | zero => exact absurd HA.out (by simp [infer_copied.l0])
    | succ k1 =>
      have H := HA.out
      clear HA
      simp only [infer_copied.l0] at H
      by_cases c11 : x14_1 < (l0_2.length : Int)
      · rw [if_pos c11] at H
        have c11b0 : decide (x14_1 < (l0_2.length : Int)) = true := decide_eq_true c11
        clear c11
        by_cases c12 : 0 ≤ x14_1
        · rw [if_pos c12] at H
          have c12b0 : decide (0 ≤ x14_1) = true := decide_eq_true c12
          clear c12
          by_cases c13 : x14_1 < (l0_2.length : Int)
          · rw [if_pos c13] at H
            have c13b0 : decide (x14_1 < (l0_2.length : Int)) = true := decide_eq_true c13
            clear c13
            replace H := Option.bind_eq_some_iff.mp H
            obtain ⟨⟨t274, t275, t276⟩, A140, H⟩ := H
            replace H : (if x272002_1.length < 3518437208883 then (infer_copied.l0 k1 l0_2 (l0_2.length : Int) (wrap64 (x14_1 + 1)) a0_0 a0_1 (x272002_1 ++ [(⟨t274, t275, t276⟩ : S44)])) else (none)) = some (r1, r2, r3) := H
            have A14 := Aside0.mk A140
            clear A140
            by_cases c15 : x272002_1.length < 3518437208883
            · rw [if_pos c15] at H
              have LMc15 := Aside0.mk c15
              clear c15
              obtain ⟨y279, hy279⟩ : ∃ y_ : List (S44), y_ = (x272002_1 ++ [(⟨t274, t275, t276⟩ : S44)]) := ⟨_, rfl⟩
              replace H : (infer_copied.l0 k1 l0_2 (l0_2.length : Int) (wrap64 (x14_1 + 1)) a0_0 a0_1 y279) = some (r1, r2, r3) := by first | (rw [hy279]; with_reducible exact H) | (have H2_ := (Option.bind_some _ _).symm.trans H; rw [hy279]; with_reducible exact H2_) | (have H2_ := (Option.bind_some _ _).symm.trans H; with_reducible exact H2_) | with_reducible exact H | (rw [hy279]; exact H) | exact H
              have Ny279 := Aside0.mk hy279
              clear hy279
              have H' := Aside0.mk H
              clear H
              have p272 : 0 ≤ (x14_1 : Int) := of_decide_eq_true (by first | (with_reducible assumption) | assumption)
              have q272 : x14_1 < (l0_2.length : Int) := of_decide_eq_true (by first | (with_reducible assumption) | assumption)
              obtain ⟨ad272, A272_2, c272_2, e272, hx272_0, hx272_1, hx272_2, hl272_2, hi272_2⟩ := at_T44 HR0_2.out x14_1 p272 q272
              cases e272
              replace hx272_0 := (HB.out.cell (World.block_lt_of_cell? w _ hx272_0)).trans hx272_0
              replace hx272_1 := (HB.out.cell (World.block_lt_of_cell? w _ hx272_1)).trans hx272_1
              replace hx272_2 := (HB.out.cell (World.block_lt_of_cell? w _ hx272_2)).trans hx272_2
              have HR272_2 := Aside0.mk hi272_2
              have HC272_2 := Aside0.mk hl272_2
              clear hi272_2 hl272_2
              replace p272 := eq_true p272
              replace q272 := eq_true q272
              try go_wp2_with (first | ((with_reducible refine gate_dst (N := 5) rfl ?_); refine box_event ?hg (N := 5) ?hd (cs := #[.int .i64 0, .int .i64 0, .slice none 0 0]) (t := 44) ?hr ?_; (case hd => rfl); (case hg => rfl); (case hr => first | (go_simp; done) | (go_simp; rfl)); intro gb273 hg w16 hbox hb; have n0_ := Aside0.mk (Kd.R_below (Kd.R_elderB (by (with_reducible repeat (first | apply Kd.R_alloc | apply Kd.R_drewN | apply Kd.R_drew)); exact HO_272002.out) gb273 (Nat.le_of_eq hg.symm)) hb); have n1_ := Aside0.mk (blk_below (g := gb269) (o := .cells #[.int .i64 a0_0, .int .i64 a0_1, .slice (some ad272) l0_2.length c0_2] 44 (0, 0)) (by (with_reducible repeat (first | refine blk_drewN ?_ _ | refine blk_drew ?_ | refine blk_alloc ?_ _)); exact BK269.out) hb); have n2_ := Aside0.mk (blk_below (g := gb270) (o := .cells #[.int .i64 0, .int .i64 0, .slice none 0 0] 44 (0, 0)) (by (with_reducible repeat (first | refine blk_drewN ?_ _ | refine blk_drew ?_ | refine blk_alloc ?_ _)); exact BK270.out) hb); have n3_ := Aside0.mk (blk_below (g := gb271) (o := .cells #[.int .i64 a0_0, .int .i64 a0_1, u272002] 44 (0, 0)) (by (with_reducible repeat (first | refine blk_drewN ?_ _ | refine blk_drew ?_ | refine blk_alloc ?_ _)); exact BK271.out) hb); have n4_ := Aside0.mk (below_step (by repeat (first | (with_reducible first | exact HB.out | apply below_alloc | apply pw_below_drewN | apply below_drew1 | refine below_set ?_ GE269.out | refine below_set ?_ GE270.out | refine below_set ?_ GE271.out) | exact HB.out)) hb); have n5_ := Aside0.mk (hbox); have n6_ := Aside0.mk ((by rw [hg]; exact (below_size (by repeat (first | (with_reducible first | exact HB.out | apply below_alloc | apply pw_below_drewN | apply below_drew1 | refine below_set ?_ GE269.out | refine below_set ?_ GE270.out | refine below_set ?_ GE271.out) | exact HB.out))) : w.heap.size ≤ gb273)); have n7_ := Aside0.mk ((by rw [hg]; exact (below_size (by repeat (first | (with_reducible first | exact HB.out | apply below_alloc | apply pw_below_drewN | apply below_drew1 | refine below_set ?_ GE269.out | refine below_set ?_ GE270.out | refine below_set ?_ GE271.out) | exact HB.out))) : w.heap.size ≤ gb273)); have n8_ := Aside0.mk ((by rw [hg]; exact Nat.ne_of_lt (blk_lt (g := gb269) (o := .cells #[.int .i64 a0_0, .int .i64 a0_1, .slice (some ad272) l0_2.length c0_2] 44 (0, 0)) (by (with_reducible repeat (first | refine blk_drewN ?_ _ | refine blk_drew ?_ | refine blk_alloc ?_ _)); exact BK269.out)) : gb269 ≠ gb273)); have n9_ := Aside0.mk ((by rw [hg]; exact Nat.ne_of_gt (blk_lt (g := gb269) (o := .cells #[.int .i64 a0_0, .int .i64 a0_1, .slice (some ad272) l0_2.length c0_2] 44 (0, 0)) (by (with_reducible repeat (first | refine blk_drewN ?_ _ | refine blk_drew ?_ | refine blk_alloc ?_ _)); exact BK269.out)) : gb273 ≠ gb269)); have n10_ := Aside0.mk ((by rw [hg]; exact Nat.ne_of_lt (blk_lt (g := gb270) (o := .cells #[.int .i64 0, .int .i64 0, .slice none 0 0] 44 (0, 0)) (by (with_reducible repeat (first | refine blk_drewN ?_ _ | refine blk_drew ?_ | refine blk_alloc ?_ _)); exact BK270.out)) : gb270 ≠ gb273)); have n11_ := Aside0.mk ((by rw [hg]; exact Nat.ne_of_gt (blk_lt (g := gb270) (o := .cells #[.int .i64 0, .int .i64 0, .slice none 0 0] 44 (0, 0)) (by (with_reducible repeat (first | refine blk_drewN ?_ _ | refine blk_drew ?_ | refine blk_alloc ?_ _)); exact BK270.out)) : gb273 ≠ gb270)); have n12_ := Aside0.mk ((by rw [hg]; exact Nat.ne_of_lt (blk_lt (g := gb271) (o := .cells #[.int .i64 a0_0, .int .i64 a0_1, u272002] 44 (0, 0)) (by (with_reducible repeat (first | refine blk_drewN ?_ _ | refine blk_drew ?_ | refine blk_alloc ?_ _)); exact BK271.out)) : gb271 ≠ gb273)); have n13_ := Aside0.mk ((by rw [hg]; exact Nat.ne_of_gt (blk_lt (g := gb271) (o := .cells #[.int .i64 a0_0, .int .i64 a0_1, u272002] 44 (0, 0)) (by (with_reducible repeat (first | refine blk_drewN ?_ _ | refine blk_drew ?_ | refine blk_alloc ?_ _)); exact BK271.out)) : gb273 ≠ gb271)); clear HO_272002; clear BK269; clear BK270; clear BK271; clear HB; have HO_272002 := n0_; have BK269 := n1_; have BK270 := n2_; have BK271 := n3_; have HB := n4_; have BK273 := n5_; have GW273 := n6_; have GE273 := n7_; have NB269_273 := n8_; have NB273_269 := n9_; have NB270_273 := n10_; have NB273_270 := n11_; have NB271_273 := n12_; have NB273_271 := n13_; clear n0_ n1_ n2_ n3_ n4_ n5_ n6_ n7_ n8_ n9_ n10_ n11_ n12_ n13_; clear hb hbox hg; have hnb17 := NB273_269.out; have hnc17 := NB269_273.out; have hnb18 := NB273_270.out; have hnc18 := NB270_273.out; have hnb19 := NB273_271.out; have hnc19 := NB271_273.out; have hcz20_0 : w16.cell? ⟨gb273, 0, none⟩ = some (.int .i64 0) := (blk_cell BK273.out 0).trans rfl; have hcz20_1 : w16.cell? ⟨gb273, 1, none⟩ = some (.int .i64 0) := (blk_cell BK273.out 1).trans rfl; have hcz20_2 : w16.cell? ⟨gb273, 2, none⟩ = some (.slice none 0 0) := (blk_cell BK273.out 2).trans rfl; have hfz20_0 := blk_frozen BK273.out 0; have hfz20_1 := blk_frozen BK273.out 1; have hfz20_2 := blk_frozen BK273.out 2))
              have n0_ : Aside0 (Kd.R k44 44 (((w16.setCell ⟨gb273, 0, none⟩ (.int .i64 ((rd_T44 l0_2 x14_1).f0))).setCell ⟨gb273, 1, none⟩ (.int .i64 ((rd_T44 l0_2 x14_1).f1))).setCell ⟨gb273, 2, none⟩ (.slice A272_2 ((rd_T44 l0_2 x14_1).f2).length c272_2)) w.heap.size (fun k_ => k_ ≠ gb269 ∧ k_ ≠ gb270 ∧ k_ ≠ gb271 ∧ k_ ≠ gb273) u272002 x272002_1) := ⟨by (with_reducible repeat (first | apply Kd.R_alloc | apply Kd.R_drewN | apply Kd.R_drew)); exact Kd.R_mono (Kd.R_far (p := ⟨gb273, 2, none⟩) (Kd.R_far (p := ⟨gb273, 1, none⟩) (Kd.R_far (p := ⟨gb273, 0, none⟩) (Kd.R_mono HO_272002.out (fun k_ hk => (⟨hk, hk.2⟩ : _ ∧ k_ ≠ gb273))) (fun _ hk => hk.2) (.int .i64 ((rd_T44 l0_2 x14_1).f0))) (fun _ hk => hk.2) (.int .i64 ((rd_T44 l0_2 x14_1).f1))) (fun _ hk => hk.2) (.slice A272_2 ((rd_T44 l0_2 x14_1).f2).length c272_2)) (fun _ hk => ⟨hk.1.1.1, ⟨hk.1.1.2.1, ⟨hk.1.1.2.2, hk.1.2⟩⟩⟩)⟩
              have n1_ : Aside0 ((((w16.setCell ⟨gb273, 0, none⟩ (.int .i64 ((rd_T44 l0_2 x14_1).f0))).setCell ⟨gb273, 1, none⟩ (.int .i64 ((rd_T44 l0_2 x14_1).f1))).setCell ⟨gb273, 2, none⟩ (.slice A272_2 ((rd_T44 l0_2 x14_1).f2).length c272_2)).heap[gb269]? = some (.cells #[.int .i64 a0_0, .int .i64 a0_1, .slice (some ad272) l0_2.length c0_2] 44 (0, 0))) := ⟨by (with_reducible repeat (first | refine blk_drewN ?_ _ | refine blk_drew ?_ | refine blk_alloc ?_ _)); refine blk_far ?_ NB269_273.out _; (with_reducible repeat (first | refine blk_drewN ?_ _ | refine blk_drew ?_ | refine blk_alloc ?_ _)); refine blk_far ?_ NB269_273.out _; (with_reducible repeat (first | refine blk_drewN ?_ _ | refine blk_drew ?_ | refine blk_alloc ?_ _)); refine blk_far ?_ NB269_273.out _; (with_reducible repeat (first | refine blk_drewN ?_ _ | refine blk_drew ?_ | refine blk_alloc ?_ _)); exact BK269.out⟩
              have n2_ : Aside0 ((((w16.setCell ⟨gb273, 0, none⟩ (.int .i64 ((rd_T44 l0_2 x14_1).f0))).setCell ⟨gb273, 1, none⟩ (.int .i64 ((rd_T44 l0_2 x14_1).f1))).setCell ⟨gb273, 2, none⟩ (.slice A272_2 ((rd_T44 l0_2 x14_1).f2).length c272_2)).heap[gb270]? = some (.cells #[.int .i64 0, .int .i64 0, .slice none 0 0] 44 (0, 0))) := ⟨by (with_reducible repeat (first | refine blk_drewN ?_ _ | refine blk_drew ?_ | refine blk_alloc ?_ _)); refine blk_far ?_ NB270_273.out _; (with_reducible repeat (first | refine blk_drewN ?_ _ | refine blk_drew ?_ | refine blk_alloc ?_ _)); refine blk_far ?_ NB270_273.out _; (with_reducible repeat (first | refine blk_drewN ?_ _ | refine blk_drew ?_ | refine blk_alloc ?_ _)); refine blk_far ?_ NB270_273.out _; (with_reducible repeat (first | refine blk_drewN ?_ _ | refine blk_drew ?_ | refine blk_alloc ?_ _)); exact BK270.out⟩
              have n3_ : Aside0 ((((w16.setCell ⟨gb273, 0, none⟩ (.int .i64 ((rd_T44 l0_2 x14_1).f0))).setCell ⟨gb273, 1, none⟩ (.int .i64 ((rd_T44 l0_2 x14_1).f1))).setCell ⟨gb273, 2, none⟩ (.slice A272_2 ((rd_T44 l0_2 x14_1).f2).length c272_2)).heap[gb271]? = some (.cells #[.int .i64 a0_0, .int .i64 a0_1, u272002] 44 (0, 0))) := ⟨by (with_reducible repeat (first | refine blk_drewN ?_ _ | refine blk_drew ?_ | refine blk_alloc ?_ _)); refine blk_far ?_ NB271_273.out _; (with_reducible repeat (first | refine blk_drewN ?_ _ | refine blk_drew ?_ | refine blk_alloc ?_ _)); refine blk_far ?_ NB271_273.out _; (with_reducible repeat (first | refine blk_drewN ?_ _ | refine blk_drew ?_ | refine blk_alloc ?_ _)); refine blk_far ?_ NB271_273.out _; (with_reducible repeat (first | refine blk_drewN ?_ _ | refine blk_drew ?_ | refine blk_alloc ?_ _)); exact BK271.out⟩
              have n4_ : Aside0 ((((w16.setCell ⟨gb273, 0, none⟩ (.int .i64 ((rd_T44 l0_2 x14_1).f0))).setCell ⟨gb273, 1, none⟩ (.int .i64 ((rd_T44 l0_2 x14_1).f1))).setCell ⟨gb273, 2, none⟩ (.slice A272_2 ((rd_T44 l0_2 x14_1).f2).length c272_2)).heap[gb273]? = some (.cells #[.int .i64 ((rd_T44 l0_2 x14_1).f0), .int .i64 ((rd_T44 l0_2 x14_1).f1), .slice A272_2 ((rd_T44 l0_2 x14_1).f2).length c272_2] 44 (0, 0))) := ⟨by (with_reducible repeat (first | refine blk_drewN ?_ _ | refine blk_drew ?_ | refine blk_alloc ?_ _)); refine blk_put (cs := #[.int .i64 ((rd_T44 l0_2 x14_1).f0), .int .i64 ((rd_T44 l0_2 x14_1).f1), .slice none 0 0]) ?_ 2 _ rfl; (with_reducible repeat (first | refine blk_drewN ?_ _ | refine blk_drew ?_ | refine blk_alloc ?_ _)); refine blk_put (cs := #[.int .i64 ((rd_T44 l0_2 x14_1).f0), .int .i64 0, .slice none 0 0]) ?_ 1 _ rfl; (with_reducible repeat (first | refine blk_drewN ?_ _ | refine blk_drew ?_ | refine blk_alloc ?_ _)); refine blk_put (cs := #[.int .i64 0, .int .i64 0, .slice none 0 0]) ?_ 0 _ rfl; (with_reducible repeat (first | refine blk_drewN ?_ _ | refine blk_drew ?_ | refine blk_alloc ?_ _)); exact BK273.out⟩
              have n5_ : Aside0 (Below w.heap.size w (((w16.setCell ⟨gb273, 0, none⟩ (.int .i64 ((rd_T44 l0_2 x14_1).f0))).setCell ⟨gb273, 1, none⟩ (.int .i64 ((rd_T44 l0_2 x14_1).f1))).setCell ⟨gb273, 2, none⟩ (.slice A272_2 ((rd_T44 l0_2 x14_1).f2).length c272_2))) := ⟨by repeat (first | (with_reducible first | exact HB.out | apply below_alloc | apply pw_below_drewN | apply below_drew1 | refine below_set ?_ GE269.out | refine below_set ?_ GE270.out | refine below_set ?_ GE271.out | refine below_set ?_ GE273.out) | exact HB.out)⟩
              (try clear HO_272002)
              (try clear BK269)
              (try clear BK270)
              (try clear BK271)
              (try clear BK273)
              (try clear HB)
              generalize (((w16.setCell ⟨gb273, 0, none⟩ (.int .i64 ((rd_T44 l0_2 x14_1).f0))).setCell ⟨gb273, 1, none⟩ (.int .i64 ((rd_T44 l0_2 x14_1).f1))).setCell ⟨gb273, 2, none⟩ (.slice A272_2 ((rd_T44 l0_2 x14_1).f2).length c272_2)) = w21 at n0_ n1_ n2_ n3_ n4_ n5_ ⊢
              have HO_272002 := n0_
              have BK269 := n1_
              have BK270 := n2_
              have BK271 := n3_
              have BK273 := n4_
              have HB := n5_
              clear n0_ n1_ n2_ n3_ n4_ n5_
              have n0_ := Aside0.mk (Kd.R_drew HO_272002.out)
              have n1_ := Aside0.mk (blk_drew BK269.out)
              have n2_ := Aside0.mk (blk_drew BK270.out)
              have n3_ := Aside0.mk (blk_drew BK271.out)
              have n4_ := Aside0.mk (blk_drew BK273.out)
              have n5_ := Aside0.mk (below_drew1 HB.out)
              clear HO_272002
              clear BK269
              clear BK270
              clear BK271
              clear BK273
              clear HB
              have HO_272002 := n0_
              have BK269 := n1_
              have BK270 := n2_
              have BK271 := n3_
              have BK273 := n4_
              have HB := n5_
              clear n0_ n1_ n2_ n3_ n4_ n5_
              refine start_ (n := 8) (S := fun w' => w'.cell? ⟨gb271, 0, none⟩ = some (.int .i64 a0_0) ∧ w'.cell? ⟨gb271, 1, none⟩ = some (.int .i64 a0_1) ∧ w'.cell? ⟨gb271, 2, none⟩ = some (u272002) ∧ w'.cell? ⟨gb273, 0, none⟩ = some (.int .i64 ((rd_T44 l0_2 x14_1).f0)) ∧ w'.cell? ⟨gb273, 1, none⟩ = some (.int .i64 ((rd_T44 l0_2 x14_1).f1)) ∧ w'.cell? ⟨gb273, 2, none⟩ = some (.slice A272_2 ((rd_T44 l0_2 x14_1).f2).length c272_2)) (ds := [7]) #[false, false, false, false, false, false, false, false] (by kernel_rfl) rfl rfl ⟨(blk_cell BK271.out 0).trans rfl, (blk_cell BK271.out 1).trans rfl, (blk_cell BK271.out 2).trans rfl, (blk_cell BK273.out 0).trans rfl, (blk_cell BK273.out 1).trans rfl, (blk_cell BK273.out 2).trans rfl⟩ (fun hHeld => ?_); refine with_tabW infer_copied.tab5 infer_copied.bits5 (fun HT_ HW_ => ?_)
              generalize w21.drew = w22 at HO_272002 BK269 BK270 BK271 BK273 HB hHeld ⊢
              refine pure_ (i := 0) (N := some 18) (v := ?_) (a' := ?_) #[true, false, false, false, false, false, false, false] rfl rfl (any_of HT_.out (by kernel_rfl)) (fun _ _ _ h => h) (Or.inl ⟨by rfl, ?_⟩) ?_ ?_
              rotate_left
              · intro w'
                go_simp
                with_reducible rfl
              rotate_left
              · simp only [Act.put, List.setIfInBounds_toArray, List.set_cons_zero, List.set_cons_succ, i64_w, i32_w]
                rfl
              refine take_ (i := 1) (N := some 19) (v := ?_) (a' := ?_) #[true, true, false, false, false, false, false, false] rfl rfl (take_ofW HT_.out HW_.out (by kernel_rfl)) (fun _ _ _ h => h) (Or.inl ⟨by rfl, ?_⟩) hHeld ?_ ?_
              rotate_left
              · rintro w' ⟨s0, s1, s2, s3, s4, s5⟩
                go_simp
                with_reducible rfl
              rotate_left
              · simp only [Act.put, List.setIfInBounds_toArray, List.set_cons_zero, List.set_cons_succ, i64_w, i32_w]
                rfl
              refine take_ (i := 2) (N := some 20) (v := ?_) (a' := ?_) #[true, true, true, false, false, false, false, false] rfl rfl (take_ofW HT_.out HW_.out (by kernel_rfl)) (fun _ _ _ h => h) (Or.inl ⟨by rfl, ?_⟩) hHeld ?_ ?_
              rotate_left
              · rintro w' ⟨s0, s1, s2, s3, s4, s5⟩
                go_simp
                with_reducible rfl
              rotate_left
              · simp only [Act.put, List.setIfInBounds_toArray, List.set_cons_zero, List.set_cons_succ, i64_w, i32_w]
                rfl
              refine one_ (i := 3) (N := some 21) #[true, true, true, true, false, false, false, false] rfl rfl (one_of HT_.out (by kernel_rfl)) (by decide) (fun K hK => ?_)
              refine goes_ Try.func54 (by kernel_rfl) rfl #[.agg #[.int .i64 ((rd_T44 l0_2 x14_1).f0), .int .i64 ((rd_T44 l0_2 x14_1).f1), .slice A272_2 ((rd_T44 l0_2 x14_1).f2).length c272_2]] (by rfl) rfl rfl (by (try simp only [List.map_toArray, List.map_cons, List.map_nil]); first | done | rfl | (simp only [List.length_drop, List.length_take]; rfl)) ?_
              with_reducible refine (ih k1 (by have := HK1.out; omega) ((rd_T44 l0_2 x14_1).f0) ((rd_T44 l0_2 x14_1).f1) _ _ ((rd_T44 l0_2 x14_1).f2) t274 t275 t276 _ ?side1 ?side2 A14.out).mono ?_
              (case side1 => repeat (first | exact (Kd.C_below HR272_2.out HB.out) | (with_reducible refine Kd.C_alloc ?_ _) | (with_reducible refine Kd.C_drewN ?_ _) | (with_reducible refine Kd.C_drew ?_)))
              (case side2 => exact HC272_2.out)
              rintro e w23 ⟨v277, rfl, ho0, hb⟩
              refine ⟨_, rfl, ?_⟩
              have n0_ := Aside0.mk (Kd.R_elder' (by (with_reducible repeat (first | apply Kd.R_alloc | apply Kd.R_drewN | apply Kd.R_drew)); exact HO_272002.out) (Kd.R_base ho0) hb)
              have n1_ := Aside0.mk (Kd.R_lower (Kd.R_newB (Kd.R_newB (Kd.R_newB (Kd.R_newB (Kd.R_new' ho0 (Kd.R_lt (by (with_reducible repeat (first | apply Kd.R_alloc | apply Kd.R_drewN | apply Kd.R_drew)); exact HO_272002.out))) (g := gb269) (o := .cells #[.int .i64 a0_0, .int .i64 a0_1, .slice (some ad272) l0_2.length c0_2] 44 (0, 0)) (by (with_reducible repeat (first | refine blk_drewN ?_ _ | refine blk_drew ?_ | refine blk_alloc ?_ _)); exact BK269.out)) (g := gb270) (o := .cells #[.int .i64 0, .int .i64 0, .slice none 0 0] 44 (0, 0)) (by (with_reducible repeat (first | refine blk_drewN ?_ _ | refine blk_drew ?_ | refine blk_alloc ?_ _)); exact BK270.out)) (g := gb271) (o := .cells #[.int .i64 a0_0, .int .i64 a0_1, u272002] 44 (0, 0)) (by (with_reducible repeat (first | refine blk_drewN ?_ _ | refine blk_drew ?_ | refine blk_alloc ?_ _)); exact BK271.out)) (g := gb273) (o := .cells #[.int .i64 ((rd_T44 l0_2 x14_1).f0), .int .i64 ((rd_T44 l0_2 x14_1).f1), .slice A272_2 ((rd_T44 l0_2 x14_1).f2).length c272_2] 44 (0, 0)) (by (with_reducible repeat (first | refine blk_drewN ?_ _ | refine blk_drew ?_ | refine blk_alloc ?_ _)); exact BK273.out)) (below_size (by repeat (first | (with_reducible first | exact HB.out | apply below_alloc | apply pw_below_drewN | apply below_drew1 | refine below_set ?_ GE269.out | refine below_set ?_ GE270.out | refine below_set ?_ GE271.out | refine below_set ?_ GE273.out) | exact HB.out))))
              have n2_ := Aside0.mk (blk_below (g := gb269) (o := .cells #[.int .i64 a0_0, .int .i64 a0_1, .slice (some ad272) l0_2.length c0_2] 44 (0, 0)) (by (with_reducible repeat (first | refine blk_drewN ?_ _ | refine blk_drew ?_ | refine blk_alloc ?_ _)); exact BK269.out) hb)
              have n3_ := Aside0.mk (blk_below (g := gb270) (o := .cells #[.int .i64 0, .int .i64 0, .slice none 0 0] 44 (0, 0)) (by (with_reducible repeat (first | refine blk_drewN ?_ _ | refine blk_drew ?_ | refine blk_alloc ?_ _)); exact BK270.out) hb)
              have n4_ := Aside0.mk (blk_below (g := gb271) (o := .cells #[.int .i64 a0_0, .int .i64 a0_1, u272002] 44 (0, 0)) (by (with_reducible repeat (first | refine blk_drewN ?_ _ | refine blk_drew ?_ | refine blk_alloc ?_ _)); exact BK271.out) hb)
              have n5_ := Aside0.mk (blk_below (g := gb273) (o := .cells #[.int .i64 ((rd_T44 l0_2 x14_1).f0), .int .i64 ((rd_T44 l0_2 x14_1).f1), .slice A272_2 ((rd_T44 l0_2 x14_1).f2).length c272_2] 44 (0, 0)) (by (with_reducible repeat (first | refine blk_drewN ?_ _ | refine blk_drew ?_ | refine blk_alloc ?_ _)); exact BK273.out) hb)
              have n6_ := Aside0.mk (below_step (by repeat (first | (with_reducible first | exact HB.out | apply below_alloc | apply pw_below_drewN | apply below_drew1 | refine below_set ?_ GE269.out | refine below_set ?_ GE270.out | refine below_set ?_ GE271.out | refine below_set ?_ GE273.out) | exact HB.out)) hb)
              clear HO_272002
              clear BK269
              clear BK270
              clear BK271
              clear BK273
              clear HB
              have HO_272002 := n0_
              have HO278 := n1_
              have BK269 := n2_
              have BK270 := n3_
              have BK271 := n4_
              have BK273 := n5_
              have HB := n6_
              clear n0_ n1_ n2_ n3_ n4_ n5_ n6_
              (try clear hb)
              (try clear hb2)
              (try clear hk)
              (try clear hi)
              (try clear ho0)
              obtain ⟨Ao25, co25, eo25⟩ := Kd.R_slice HO278.out
              (first | subst eo25 | (injection eo25 with f1_ f2_ f3_; have f4_ := f1_.symm; have f5_ := f3_.symm; clear f1_ f2_ f3_; subst f4_; subst f5_))
              refine hK.out _ _ ⟨(blk_cell BK271.out 0).trans rfl, (blk_cell BK271.out 1).trans rfl, (blk_cell BK271.out 2).trans rfl, (blk_cell BK273.out 0).trans rfl, (blk_cell BK273.out 1).trans rfl, (blk_cell BK273.out 2).trans rfl⟩ (fun hHeld => ?_)
              clear hK K
              refine norm_ (a' := ?_) ?_ ?_
              rotate_left
              · show Act.put _ (some 21) _ = _
                simp only [Act.put, List.setIfInBounds_toArray, List.set_cons_zero, List.set_cons_succ, i64_w, i32_w]
                rfl
              refine one_ (i := 4) (N := some 22) #[true, true, true, true, true, false, false, false] rfl rfl (one_of HT_.out (by kernel_rfl)) (by decide) (fun K hK => ?_)
              refine value_ (w1 := ?_) (v := ?_) (by rfl) rfl ?_ ?_
              rotate_left 2
              · go_simp
                constructor
                · rfl
                · rfl
              refine hK.out _ _ ⟨(blk_cell (blk_alloc BK271.out _) 0).trans rfl, (blk_cell (blk_alloc BK271.out _) 1).trans rfl, (blk_cell (blk_alloc BK271.out _) 2).trans rfl, (blk_cell (blk_alloc BK273.out _) 0).trans rfl, (blk_cell (blk_alloc BK273.out _) 1).trans rfl, (blk_cell (blk_alloc BK273.out _) 2).trans rfl⟩ (fun hHeld => ?_)
              clear hK K
              refine norm_ (a' := ?_) ?_ ?_
              rotate_left
              · show Act.put _ (some 22) _ = _
                simp only [Act.put, List.setIfInBounds_toArray, List.set_cons_zero, List.set_cons_succ, i64_w, i32_w]
                rfl
              refine one_ (i := 5) (N := some 23) #[true, true, true, true, true, true, false, false] rfl rfl (one_of HT_.out (by kernel_rfl)) (by decide) (fun K hK => ?_)
              refine Kd.R_append_step k44 (w0 := w) w.heap.size (by rfl) (.tmp 19) (.tmp 22) 42 44 (.agg #[(.int .i64 0), (.int .i64 0), (.slice none 0 0)]) 40 rfl Try.underlying42 info44 rfl (by decide) (by omega) u272002 x272002_1 (⟨t274, t275, t276⟩ : S44) [.int .i64 t274, .int .i64 t275, .slice Ao25 t276.length co25] (fun k_ => k_ ≠ gb269 ∧ k_ ≠ gb270 ∧ k_ ≠ gb271 ∧ k_ ≠ gb273) (fun k_ => ((fun k_ => k_ ≠ gb269 ∧ k_ ≠ gb270 ∧ k_ ≠ gb271 ∧ k_ ≠ gb273)) k_ ∧ some k_ ≠ (u272002 : Value).ownBlock) rfl rfl ?aP (fun _ hk => hk) ?aF ?aO ?aB ?aS ?aL ?_
              (case aP => exact k44_mkM _ _ _ (⟨t274, t275, t276⟩ : S44) (Kd.R_mono (HO278.out) (fun k_ hk => ⟨⟨hk.1.1.1.2, ⟨hk.1.1.2, ⟨hk.1.2, hk.2⟩⟩⟩, hk.1.1.1.1.2⟩)))
              (case aB => exact (by repeat (first | (with_reducible first | exact HB.out | apply below_alloc | apply pw_below_drewN | apply below_drew1 | refine below_set ?_ GE269.out | refine below_set ?_ GE270.out | refine below_set ?_ GE271.out | refine below_set ?_ GE273.out) | exact HB.out)))
              (case aF => exact (fun k_ hk => ⟨Kd.freshB (g := gb269) (o := .cells #[.int .i64 a0_0, .int .i64 a0_1, .slice (some ad272) l0_2.length c0_2] 44 (0, 0)) (by (with_reducible repeat (first | refine blk_drewN ?_ _ | refine blk_drew ?_ | refine blk_alloc ?_ _)); exact BK269.out) k_ hk, Kd.freshB (g := gb270) (o := .cells #[.int .i64 0, .int .i64 0, .slice none 0 0] 44 (0, 0)) (by (with_reducible repeat (first | refine blk_drewN ?_ _ | refine blk_drew ?_ | refine blk_alloc ?_ _)); exact BK270.out) k_ hk, Kd.freshB (g := gb271) (o := .cells #[.int .i64 a0_0, .int .i64 a0_1, u272002] 44 (0, 0)) (by (with_reducible repeat (first | refine blk_drewN ?_ _ | refine blk_drew ?_ | refine blk_alloc ?_ _)); exact BK271.out) k_ hk, Kd.freshB (g := gb273) (o := .cells #[.int .i64 ((rd_T44 l0_2 x14_1).f0), .int .i64 ((rd_T44 l0_2 x14_1).f1), .slice A272_2 ((rd_T44 l0_2 x14_1).f2).length c272_2] 44 (0, 0)) (by (with_reducible repeat (first | refine blk_drewN ?_ _ | refine blk_drew ?_ | refine blk_alloc ?_ _)); exact BK273.out) k_ hk⟩))
              (case aO => exact (by (with_reducible repeat (first | apply Kd.R_alloc | apply Kd.R_drewN | apply Kd.R_drew)); exact Kd.R_mono HO_272002.out (fun _ hk => ⟨hk.1.1, ⟨hk.1.2.1, ⟨hk.1.2.2.1, hk.1.2.2.2⟩⟩⟩)))
              (case aS => exact (below_size (by repeat (first | (with_reducible first | exact HB.out | apply below_alloc | apply pw_below_drewN | apply below_drew1 | refine below_set ?_ GE269.out | refine below_set ?_ GE270.out | refine below_set ?_ GE271.out | refine below_set ?_ GE273.out) | exact HB.out))))
              (case aL => have := LMc15.out; omega)
              intro v280 w24 ho hb hg hat
              rw [← Ny279.out] at ho
              have n0_ := Aside0.mk (blk_grown (g := gb269) (o := .cells #[.int .i64 a0_0, .int .i64 a0_1, .slice (some ad272) l0_2.length c0_2] 44 (0, 0)) (by (with_reducible repeat (first | refine blk_drewN ?_ _ | refine blk_drew ?_ | refine blk_alloc ?_ _)); exact BK269.out) hg (Kd.R_away HO_272002.out (fun _ hk => hk.1.1)))
              have n1_ := Aside0.mk (blk_grown (g := gb270) (o := .cells #[.int .i64 0, .int .i64 0, .slice none 0 0] 44 (0, 0)) (by (with_reducible repeat (first | refine blk_drewN ?_ _ | refine blk_drew ?_ | refine blk_alloc ?_ _)); exact BK270.out) hg (Kd.R_away HO_272002.out (fun _ hk => hk.1.2.1)))
              have n2_ := Aside0.mk (blk_grown (g := gb271) (o := .cells #[.int .i64 a0_0, .int .i64 a0_1, u272002] 44 (0, 0)) (by (with_reducible repeat (first | refine blk_drewN ?_ _ | refine blk_drew ?_ | refine blk_alloc ?_ _)); exact BK271.out) hg (Kd.R_away HO_272002.out (fun _ hk => hk.1.2.2.1)))
              have n3_ := Aside0.mk (blk_grown (g := gb273) (o := .cells #[.int .i64 ((rd_T44 l0_2 x14_1).f0), .int .i64 ((rd_T44 l0_2 x14_1).f1), .slice A272_2 ((rd_T44 l0_2 x14_1).f2).length c272_2] 44 (0, 0)) (by (with_reducible repeat (first | refine blk_drewN ?_ _ | refine blk_drew ?_ | refine blk_alloc ?_ _)); exact BK273.out) hg (Kd.R_away HO_272002.out (fun _ hk => hk.1.2.2.2)))
              have n4_ := Aside0.mk (hb)
              have n5_ := Aside0.mk (ho)
              clear BK269
              clear BK270
              clear BK271
              clear BK273
              clear HB
              clear HO_272002
              clear HO278
              have BK269 := n0_
              have BK270 := n1_
              have BK271 := n2_
              have BK273 := n3_
              have HB := n4_
              have HO281 := n5_
              clear n0_ n1_ n2_ n3_ n4_ n5_
              clear ho hb hg hat
              obtain ⟨Ao26, co26, eo26⟩ := Kd.R_slice HO281.out
              (first | subst eo26 | (injection eo26 with f1_ f2_ f3_; have f4_ := f1_.symm; have f5_ := f3_.symm; clear f1_ f2_ f3_; subst f4_; subst f5_))
              refine hK.out _ _ ⟨(blk_cell BK271.out 0).trans rfl, (blk_cell BK271.out 1).trans rfl, (blk_cell BK271.out 2).trans rfl, (blk_cell BK273.out 0).trans rfl, (blk_cell BK273.out 1).trans rfl, (blk_cell BK273.out 2).trans rfl⟩ (fun hHeld => ?_)
              clear hK K
              refine norm_ (a' := ?_) ?_ ?_
              rotate_left
              · show Act.put _ (some 23) _ = _
                simp only [Act.put, List.setIfInBounds_toArray, List.set_cons_zero, List.set_cons_succ, i64_w, i32_w]
                rfl
              refine pure_ (i := 6) (N := some 24) (v := ?_) (a' := ?_) #[true, true, true, true, true, true, true, false] rfl rfl (any_of HT_.out (by kernel_rfl)) (fun _ _ _ h => h) (Or.inl ⟨by rfl, ?_⟩) ?_ ?_
              rotate_left
              · intro w'
                go_simp
                with_reducible rfl
              rotate_left
              · simp only [Act.put, List.setIfInBounds_toArray, List.set_cons_zero, List.set_cons_succ, i64_w, i32_w]
                rfl
              refine last_ (i := 7) (N := none) #[true, true, true, true, true, true, true, true] rfl rfl (one_of HT_.out (by kernel_rfl)) (by decide) (fun K hK => ?_)
              have hs27 : w24.cell? ⟨gb271, 2, none⟩ = some (u272002) := (blk_cell BK271.out 2).trans rfl
              have hfs27 := blk_frozen BK271.out 2
              have hns27_0 := NB269_271.out
              have hns27_1 := NB270_271.out
              have hns27_3 := NB273_271.out
              have hms27_0 := NB271_269.out
              have hms27_1 := NB271_270.out
              have hms27_3 := NB271_273.out
              refine skip_ (w1 := ?_) (by rfl) rfl ?_ ?_
              rotate_left
              · go_simp
                rfl
              refine hK.out _ _ ?_
              clear hK K
              refine done_ (done_of HT_.out (by kernel_rfl)) ?_
              try go_wp2
              go_roundg k1
              case measure => have := HK1.out; omega
              case rel => exact ⟨(wrap64 (x14_1 + 1)), (y279), (.slice Ao26 y279.length co26), (by first | rfl | (simp; done) | (simp [*]; done)), H', ⟨by have := HK1.out; omega⟩, ⟨by (with_reducible repeat (first | apply Kd.R_alloc | apply Kd.R_drewN | apply Kd.R_drew)); exact Kd.R_mono (Kd.R_far (p := ⟨gb271, 2, none⟩) (Kd.R_mono HO281.out (fun k_ hk => (⟨hk, hk.2.2.1⟩ : _ ∧ k_ ≠ gb271))) (fun _ hk => hk.2) (.slice Ao26 y279.length co26)) (fun _ hk => ⟨hk.1.1, ⟨hk.1.2.1, hk.1.2.2.1⟩⟩)⟩, ⟨by (with_reducible repeat (first | refine blk_drewN ?_ _ | refine blk_drew ?_ | refine blk_alloc ?_ _)); refine blk_far ?_ NB269_271.out _; (with_reducible repeat (first | refine blk_drewN ?_ _ | refine blk_drew ?_ | refine blk_alloc ?_ _)); exact BK269.out⟩, ⟨by (with_reducible repeat (first | refine blk_drewN ?_ _ | refine blk_drew ?_ | refine blk_alloc ?_ _)); refine blk_far ?_ NB270_271.out _; (with_reducible repeat (first | refine blk_drewN ?_ _ | refine blk_drew ?_ | refine blk_alloc ?_ _)); exact BK270.out⟩, ⟨by (with_reducible repeat (first | refine blk_drewN ?_ _ | refine blk_drew ?_ | refine blk_alloc ?_ _)); refine blk_put (cs := #[.int .i64 a0_0, .int .i64 a0_1, u272002]) ?_ 2 _ rfl; (with_reducible repeat (first | refine blk_drewN ?_ _ | refine blk_drew ?_ | refine blk_alloc ?_ _)); exact BK271.out⟩, ⟨by repeat (first | (with_reducible first | exact HB.out | apply below_alloc | apply pw_below_drewN | apply below_drew1 | refine below_set ?_ GE269.out | refine below_set ?_ GE270.out | refine below_set ?_ GE271.out | refine below_set ?_ GE273.out) | exact HB.out)⟩⟩
            · rw [if_neg c15] at H
              exact absurd H (by simp)
          · rw [if_neg c13] at H
            exact absurd H (by simp)
        · rw [if_neg c12] at H
          exact absurd H (by simp)
      · rw [if_neg c11] at H
        have c11b0 : decide (x14_1 < (l0_2.length : Int)) = false := decide_eq_false c11
        clear c11
        simp only [Option.some.injEq, Prod.mk.injEq] at H
        obtain ⟨rfl, rfl, rfl⟩ := H
        have hnb28 := NB271_269.out
        have hnc28 := NB269_271.out
        have hnb29 := NB271_270.out
        have hnc29 := NB270_271.out
        have hcz30_0 : wr.cell? ⟨gb271, 0, none⟩ = some (.int .i64 a0_0) := (blk_cell BK271.out 0).trans rfl
        have hcz30_1 : wr.cell? ⟨gb271, 1, none⟩ = some (.int .i64 a0_1) := (blk_cell BK271.out 1).trans rfl
        have hcz30_2 : wr.cell? ⟨gb271, 2, none⟩ = some (u272002) := (blk_cell BK271.out 2).trans rfl
        have hfz30_0 := blk_frozen BK271.out 0
        have hfz30_1 := blk_frozen BK271.out 1
        have hfz30_2 := blk_frozen BK271.out 2
        have hnb31 := NB270_269.out
        have hnc31 := NB269_270.out
        have hcz32_0 : wr.cell? ⟨gb270, 0, none⟩ = some (.int .i64 0) := (blk_cell BK270.out 0).trans rfl
        have hcz32_1 : wr.cell? ⟨gb270, 1, none⟩ = some (.int .i64 0) := (blk_cell BK270.out 1).trans rfl
        have hcz32_2 : wr.cell? ⟨gb270, 2, none⟩ = some (.slice none 0 0) := (blk_cell BK270.out 2).trans rfl
        have hfz32_0 := blk_frozen BK270.out 0
        have hfz32_1 := blk_frozen BK270.out 1
        have hfz32_2 := blk_frozen BK270.out 2
        obtain ⟨Ao33, co33, eo33⟩ := Kd.R_slice HO_272002.out
        subst eo33
        go_wp2
        refine bodyPost_ret (results_cell_row rfl _ _ gb270 44 #[.int .i64 a0_0, .int .i64 a0_1, .slice Ao33 x272002_1.length co33] (0, 0) _ rfl (by (with_reducible repeat (first | refine blk_drewN ?_ _ | refine blk_drew ?_ | refine blk_alloc ?_ _)); refine blk_put (cs := #[.int .i64 a0_0, .int .i64 a0_1, .slice none 0 0]) ?_ 2 _ rfl; (with_reducible repeat (first | refine blk_drewN ?_ _ | refine blk_drew ?_ | refine blk_alloc ?_ _)); refine blk_put (cs := #[.int .i64 a0_0, .int .i64 0, .slice none 0 0]) ?_ 1 _ rfl; (with_reducible repeat (first | refine blk_drewN ?_ _ | refine blk_drew ?_ | refine blk_alloc ?_ _)); refine blk_put (cs := #[.int .i64 0, .int .i64 0, .slice none 0 0]) ?_ 0 _ rfl; (with_reducible repeat (first | refine blk_drewN ?_ _ | refine blk_drew ?_ | refine blk_alloc ?_ _)); exact BK270.out) Try.underlying44 rfl (by kernel_rfl)) rfl ?_
        exact ⟨_, by first | rfl | (simp [errW_none, errW_some] <;> rfl) | (simp [*, errW_none, errW_some] <;> rfl), by (with_reducible repeat (first | apply Kd.R_alloc | apply Kd.R_drewN | apply Kd.R_drew)); exact Kd.R_mono (Kd.R_far (p := ⟨gb270, 2, none⟩) (Kd.R_far (p := ⟨gb270, 1, none⟩) (Kd.R_far (p := ⟨gb270, 0, none⟩) (Kd.R_mono HO_272002.out (fun k_ hk => (⟨hk, hk.2.1⟩ : _ ∧ k_ ≠ gb270))) (fun _ hk => hk.2) (.int .i64 a0_0)) (fun _ hk => hk.2) (.int .i64 a0_1)) (fun _ hk => hk.2) (.slice Ao33 x272002_1.length co33)) (fun _ hk => trivial), by repeat (first | (with_reducible first | exact HB.out | apply below_alloc | apply pw_below_drewN | apply below_drew1 | refine below_set ?_ GE269.out | refine below_set ?_ GE270.out | refine below_set ?_ GE271.out) | exact HB.out)⟩
mutual
def virgationref02_Copy.l0 : Nat → List (S44) → Int → Int → Int → Int → List (S44) → Option (Int × Int × (List (S44)))
  | 0, _, _, _, _, _, _ => none
  | k + 1, x12, x13, x14, x290000, x290001, x290002 => if x14 < x13 then (if 0 ≤ x14 then (if x14 < (x12.length : Int) then ((virgationref02_Copy.f k ((rd_T44 x12 x14).f0) ((rd_T44 x12 x14).f1) ((rd_T44 x12 x14).f2)).bind fun bt292 => (if x290002.length < 3518437208883 then (virgationref02_Copy.l0 k x12 x13 (wrap64 (x14 + 1)) x290000 x290001 (x290002 ++ [(⟨bt292.1, bt292.2.1, bt292.2.2⟩ : S44)])) else (none))) else (none)) else (none)) else (some (x290000, x290001, x290002))
def virgationref02_Copy.f : Nat → Int → Int → List (S44) → Option (Int × Int × (List (S44)))
  | 0, _, _, _ => none
  | k + 1, a0_0, a0_1, l0_2 => virgationref02_Copy.l0 k l0_2 (l0_2.length : Int) 0 a0_0 a0_1 ([] : List (S44))
end
theorem virgationref02_Copy.mono_l : ∀ k, (∀ y0 y1 y2, LeO (virgationref02_Copy.f k y0 y1 y2) (virgationref02_Copy.f (k + 1) y0 y1 y2)) ∧ (∀ y0 y1 y2 y3 y4 y5, LeO (virgationref02_Copy.l0 k y0 y1 y2 y3 y4 y5) (virgationref02_Copy.l0 (k + 1) y0 y1 y2 y3 y4 y5))
  | 0 => ⟨fun _ _ _ r h => by simp [virgationref02_Copy.f] at h, fun _ _ _ _ _ _ r h => by simp [virgationref02_Copy.l0] at h⟩
  | k + 1 => by
    obtain ⟨ih0, ih1⟩ := virgationref02_Copy.mono_l k
    refine ⟨?_, ?_⟩
    · intro y0 y1 y2
      unfold virgationref02_Copy.f
      repeat' first
      | (with_reducible exact ih0 _ _ _)
      | (with_reducible exact ih1 _ _ _ _ _ _)
      | (with_reducible exact LeO.refl _)
      | (with_reducible exact LeO.none _)
      | (with_reducible refine LeO.ite ?_ ?_)
      | (with_reducible refine LeO.bind ?_ (fun _ => ?_))
      | exact ih0 _ _ _
      | exact ih1 _ _ _ _ _ _
      | exact LeO.none _
      | refine LeO.ite ?_ ?_
      | refine LeO.bind ?_ (fun _ => ?_)
    · intro y0 y1 y2 y3 y4 y5
      unfold virgationref02_Copy.l0
      repeat' first
      | (with_reducible exact ih0 _ _ _)
      | (with_reducible exact ih1 _ _ _ _ _ _)
      | (with_reducible exact LeO.refl _)
      | (with_reducible exact LeO.none _)
      | (with_reducible refine LeO.ite ?_ ?_)
      | (with_reducible refine LeO.bind ?_ (fun _ => ?_))
      | exact ih0 _ _ _
      | exact ih1 _ _ _ _ _ _
      | exact LeO.none _
      | refine LeO.ite ?_ ?_
      | refine LeO.bind ?_ (fun _ => ?_)
theorem virgationref02_Copy.mono : ∀ a0 a1 a2 k, LeO (virgationref02_Copy.f k a0 a1 a2) (virgationref02_Copy.f (k + 1) a0 a1 a2) := by
  intro a0 a1 a2 k
  obtain ⟨ih0, ih1⟩ := virgationref02_Copy.mono_l k
  exact ih0 a0 a1 a2
def virgationref02_Copy.T5 : Bool × List (List Nat × List Nat) := (true, [([], []), ([0], [0]), ([], []), ([2], [2]), ([3], [3]), ([1, 4, 3], [1, 4]), ([0, 1, 2, 3, 4, 5], []), ([6, 5, 5, 0, 1, 2, 3, 4, 5], [5, 6])])
def virgationref02_Copy.B5 : List Nat := [0, 1, 0, 4, 12, 31, 63, 127]
theorem virgationref02_Copy.tab5 : rtab .any (opsOf Try.f24 5) = virgationref02_Copy.T5 := by kernel_rfl
theorem virgationref02_Copy.bits5 : waitsOk virgationref02_Copy.T5.2 virgationref02_Copy.B5 = true := by kernel_rfl
set_option maxHeartbeats 8000000 in
set_option maxRecDepth 100000 in
theorem virgationref02_Copy.calls (k : Nat) : ∀ (a0_0 : Int) (a0_1 : Int) (A0_2 : Option Addr) (c0_2 : Nat) (l0_2 : List (S44)) (r1 : Int) (r2 : Int) (r3 : List (S44)) (w : World) (hr0_2 : Kd.C k44 w A0_2 l0_2.length l0_2) (hc0_2 : l0_2.length ≤ c0_2) (h : virgationref02_Copy.f k a0_0 a0_1 l0_2 = some (r1, r2, r3)),
    Calls Try.prog 24 #[.agg #[.int .i64 a0_0, .int .i64 a0_1, .slice A0_2 l0_2.length c0_2]] w fun e w' => ∃ v2_ : Value, e = .returned (.agg #[.int .i64 r1, .int .i64 r2, v2_]) ∧ Kd.R k44 44 w' w.heap.size (fun _ => True) v2_ r3 ∧ Below w.heap.size w w' := by
  induction k using Nat.strongRecOn with
  | _ k ih =>
  intro a0_0 a0_1 A0_2 c0_2 l0_2 r1 r2 r3 w hr0_2 hc0_2 h
  cases k with
  | zero => exact absurd h (by simp [virgationref02_Copy.f])
  | succ k =>
  simp only [virgationref02_Copy.f] at h
  have hu44 := Try.underlying44
  have HR0_2 := Aside0.mk hr0_2
  have HC0_2 := Aside0.mk hc0_2
  clear hr0_2 hc0_2
  have HB := Aside0.mk (Below.refl w.heap.size w)
  have H : (virgationref02_Copy.l0 k l0_2 (l0_2.length : Int) 0 a0_0 a0_1 ([] : List (S44))) = some (r1, r2, r3) := h
  clear h
  have H' := Aside0.mk H
  clear H
  go_enter Try.func24, Try.ntmps24
  go_wp2_with (first | ((with_reducible refine gate_dst (N := 1) rfl ?_); refine box_event ?hg (N := 1) ?hd (cs := #[.int .i64 a0_0, .int .i64 a0_1, .slice A0_2 l0_2.length c0_2]) (t := 44) ?hr ?_; (case hd => rfl); (case hg => rfl); (case hr => first | (go_simp; done) | (go_simp; rfl)); intro gb287 hg w2 hbox hb; have n0_ := Aside0.mk (below_step (by repeat (first | (with_reducible first | exact HB.out | apply below_alloc | apply pw_below_drewN | apply below_drew1) | exact HB.out)) hb); have n1_ := Aside0.mk (hbox); have n2_ := Aside0.mk ((by rw [hg]; exact (below_size (by repeat (first | (with_reducible first | exact HB.out | apply below_alloc | apply pw_below_drewN | apply below_drew1) | exact HB.out))) : w.heap.size ≤ gb287)); have n3_ := Aside0.mk ((by rw [hg]; exact (below_size (by repeat (first | (with_reducible first | exact HB.out | apply below_alloc | apply pw_below_drewN | apply below_drew1) | exact HB.out))) : w.heap.size ≤ gb287)); clear HB; have HB := n0_; have BK287 := n1_; have GW287 := n2_; have GE287 := n3_; clear n0_ n1_ n2_ n3_; clear hb hbox hg) | ((with_reducible refine gate_dst (N := 2) rfl ?_); refine box_event ?hg (N := 2) ?hd (cs := #[.int .i64 0, .int .i64 0, .slice none 0 0]) (t := 44) ?hr ?_; (case hd => rfl); (case hg => rfl); (case hr => first | (go_simp; done) | (go_simp; rfl)); intro gb288 hg w3 hbox hb; have n0_ := Aside0.mk (blk_below (g := gb287) (o := .cells #[.int .i64 a0_0, .int .i64 a0_1, .slice A0_2 l0_2.length c0_2] 44 (0, 0)) (by (with_reducible repeat (first | refine blk_drewN ?_ _ | refine blk_drew ?_ | refine blk_alloc ?_ _)); exact BK287.out) hb); have n1_ := Aside0.mk (below_step (by repeat (first | (with_reducible first | exact HB.out | apply below_alloc | apply pw_below_drewN | apply below_drew1 | refine below_set ?_ GE287.out) | exact HB.out)) hb); have n2_ := Aside0.mk (hbox); have n3_ := Aside0.mk ((by rw [hg]; exact (below_size (by repeat (first | (with_reducible first | exact HB.out | apply below_alloc | apply pw_below_drewN | apply below_drew1 | refine below_set ?_ GE287.out) | exact HB.out))) : w.heap.size ≤ gb288)); have n4_ := Aside0.mk ((by rw [hg]; exact (below_size (by repeat (first | (with_reducible first | exact HB.out | apply below_alloc | apply pw_below_drewN | apply below_drew1 | refine below_set ?_ GE287.out) | exact HB.out))) : w.heap.size ≤ gb288)); have n5_ := Aside0.mk ((by rw [hg]; exact Nat.ne_of_lt (blk_lt (g := gb287) (o := .cells #[.int .i64 a0_0, .int .i64 a0_1, .slice A0_2 l0_2.length c0_2] 44 (0, 0)) (by (with_reducible repeat (first | refine blk_drewN ?_ _ | refine blk_drew ?_ | refine blk_alloc ?_ _)); exact BK287.out)) : gb287 ≠ gb288)); have n6_ := Aside0.mk ((by rw [hg]; exact Nat.ne_of_gt (blk_lt (g := gb287) (o := .cells #[.int .i64 a0_0, .int .i64 a0_1, .slice A0_2 l0_2.length c0_2] 44 (0, 0)) (by (with_reducible repeat (first | refine blk_drewN ?_ _ | refine blk_drew ?_ | refine blk_alloc ?_ _)); exact BK287.out)) : gb288 ≠ gb287)); clear BK287; clear HB; have BK287 := n0_; have HB := n1_; have BK288 := n2_; have GW288 := n3_; have GE288 := n4_; have NB287_288 := n5_; have NB288_287 := n6_; clear n0_ n1_ n2_ n3_ n4_ n5_ n6_; clear hb hbox hg; have hnb4 := NB287_288.out; have hnc4 := NB288_287.out; have hcz5_0 : w3.cell? ⟨gb287, 0, none⟩ = some (.int .i64 a0_0) := (blk_cell BK287.out 0).trans rfl; have hcz5_1 : w3.cell? ⟨gb287, 1, none⟩ = some (.int .i64 a0_1) := (blk_cell BK287.out 1).trans rfl; have hcz5_2 : w3.cell? ⟨gb287, 2, none⟩ = some (.slice A0_2 l0_2.length c0_2) := (blk_cell BK287.out 2).trans rfl; have hfz5_0 := blk_frozen BK287.out 0; have hfz5_1 := blk_frozen BK287.out 1; have hfz5_2 := blk_frozen BK287.out 2) | ((with_reducible refine gate_dst (N := 3) rfl ?_); refine box_event ?hg (N := 3) ?hd (cs := #[.int .i64 0, .int .i64 0, .slice none 0 0]) (t := 44) ?hr ?_; (case hd => rfl); (case hg => rfl); (case hr => first | (go_simp; done) | (go_simp; rfl)); intro gb289 hg w6 hbox hb; have n0_ := Aside0.mk (blk_below (g := gb287) (o := .cells #[.int .i64 a0_0, .int .i64 a0_1, .slice A0_2 l0_2.length c0_2] 44 (0, 0)) (by (with_reducible repeat (first | refine blk_drewN ?_ _ | refine blk_drew ?_ | refine blk_alloc ?_ _)); exact BK287.out) hb); have n1_ := Aside0.mk (blk_below (g := gb288) (o := .cells #[.int .i64 0, .int .i64 0, .slice none 0 0] 44 (0, 0)) (by (with_reducible repeat (first | refine blk_drewN ?_ _ | refine blk_drew ?_ | refine blk_alloc ?_ _)); exact BK288.out) hb); have n2_ := Aside0.mk (below_step (by repeat (first | (with_reducible first | exact HB.out | apply below_alloc | apply pw_below_drewN | apply below_drew1 | refine below_set ?_ GE287.out | refine below_set ?_ GE288.out) | exact HB.out)) hb); have n3_ := Aside0.mk (hbox); have n4_ := Aside0.mk ((by rw [hg]; exact (below_size (by repeat (first | (with_reducible first | exact HB.out | apply below_alloc | apply pw_below_drewN | apply below_drew1 | refine below_set ?_ GE287.out | refine below_set ?_ GE288.out) | exact HB.out))) : w.heap.size ≤ gb289)); have n5_ := Aside0.mk ((by rw [hg]; exact (below_size (by repeat (first | (with_reducible first | exact HB.out | apply below_alloc | apply pw_below_drewN | apply below_drew1 | refine below_set ?_ GE287.out | refine below_set ?_ GE288.out) | exact HB.out))) : w.heap.size ≤ gb289)); have n6_ := Aside0.mk ((by rw [hg]; exact Nat.ne_of_lt (blk_lt (g := gb287) (o := .cells #[.int .i64 a0_0, .int .i64 a0_1, .slice A0_2 l0_2.length c0_2] 44 (0, 0)) (by (with_reducible repeat (first | refine blk_drewN ?_ _ | refine blk_drew ?_ | refine blk_alloc ?_ _)); exact BK287.out)) : gb287 ≠ gb289)); have n7_ := Aside0.mk ((by rw [hg]; exact Nat.ne_of_gt (blk_lt (g := gb287) (o := .cells #[.int .i64 a0_0, .int .i64 a0_1, .slice A0_2 l0_2.length c0_2] 44 (0, 0)) (by (with_reducible repeat (first | refine blk_drewN ?_ _ | refine blk_drew ?_ | refine blk_alloc ?_ _)); exact BK287.out)) : gb289 ≠ gb287)); have n8_ := Aside0.mk ((by rw [hg]; exact Nat.ne_of_lt (blk_lt (g := gb288) (o := .cells #[.int .i64 0, .int .i64 0, .slice none 0 0] 44 (0, 0)) (by (with_reducible repeat (first | refine blk_drewN ?_ _ | refine blk_drew ?_ | refine blk_alloc ?_ _)); exact BK288.out)) : gb288 ≠ gb289)); have n9_ := Aside0.mk ((by rw [hg]; exact Nat.ne_of_gt (blk_lt (g := gb288) (o := .cells #[.int .i64 0, .int .i64 0, .slice none 0 0] 44 (0, 0)) (by (with_reducible repeat (first | refine blk_drewN ?_ _ | refine blk_drew ?_ | refine blk_alloc ?_ _)); exact BK288.out)) : gb289 ≠ gb288)); clear BK287; clear BK288; clear HB; have BK287 := n0_; have BK288 := n1_; have HB := n2_; have BK289 := n3_; have GW289 := n4_; have GE289 := n5_; have NB287_289 := n6_; have NB289_287 := n7_; have NB288_289 := n8_; have NB289_288 := n9_; clear n0_ n1_ n2_ n3_ n4_ n5_ n6_ n7_ n8_ n9_; clear hb hbox hg; have hnb7 := NB289_287.out; have hnc7 := NB287_289.out; have hnb8 := NB289_288.out; have hnc8 := NB288_289.out; have hcz9_0 : w6.cell? ⟨gb289, 0, none⟩ = some (.int .i64 0) := (blk_cell BK289.out 0).trans rfl; have hcz9_1 : w6.cell? ⟨gb289, 1, none⟩ = some (.int .i64 0) := (blk_cell BK289.out 1).trans rfl; have hcz9_2 : w6.cell? ⟨gb289, 2, none⟩ = some (.slice none 0 0) := (blk_cell BK289.out 2).trans rfl; have hfz9_0 := blk_frozen BK289.out 0; have hfz9_1 := blk_frozen BK289.out 1; have hfz9_2 := blk_frozen BK289.out 2; have hcz10_0 : w6.cell? ⟨gb287, 0, none⟩ = some (.int .i64 a0_0) := (blk_cell BK287.out 0).trans rfl; have hcz10_1 : w6.cell? ⟨gb287, 1, none⟩ = some (.int .i64 a0_1) := (blk_cell BK287.out 1).trans rfl; have hcz10_2 : w6.cell? ⟨gb287, 2, none⟩ = some (.slice A0_2 l0_2.length c0_2) := (blk_cell BK287.out 2).trans rfl; have hfz10_0 := blk_frozen BK287.out 0; have hfz10_1 := blk_frozen BK287.out 1; have hfz10_2 := blk_frozen BK287.out 2))
  go_loopg [14] k (fun kq v14 w' => ∃ (x14_1 : Int) (x290002_1 : List (S44)) (u290002 : Value), v14 = .int .i64 x14_1 ∧ Aside0 (virgationref02_Copy.l0 kq l0_2 (l0_2.length : Int) x14_1 a0_0 a0_1 x290002_1 = some (r1, r2, r3)) ∧ Aside0 (kq ≤ k) ∧ Aside0 (Kd.R k44 44 w' w.heap.size (fun k_ => k_ ≠ gb287 ∧ k_ ≠ gb288 ∧ k_ ≠ gb289) u290002 x290002_1) ∧ Aside0 (w'.heap[gb287]? = some (.cells #[.int .i64 a0_0, .int .i64 a0_1, (.slice A0_2 l0_2.length c0_2)] 44 (0, 0))) ∧ Aside0 (w'.heap[gb288]? = some (.cells #[.int .i64 0, .int .i64 0, (.slice none 0 0)] 44 (0, 0))) ∧ Aside0 (w'.heap[gb289]? = some (.cells #[.int .i64 a0_0, .int .i64 a0_1, u290002] 44 (0, 0))) ∧ Aside0 (Below w.heap.size w w'))
  case atStart => exact ⟨(0), (([] : List (S44))), (.slice none 0 0), (by first | rfl | (simp; done) | (simp [*]; done)), H', ⟨Nat.le_refl _⟩, ⟨by first | exact Kd.R_nil _ _ _ _ _ | exact Kd.N_nil _ _ _ _ _ | exact Kd.V_nil _ _ _ _ _ | exact Kd.Q_nil _ _ _ _ _ | exact Kd.S_nil _ _ _ _ _⟩, ⟨by (with_reducible repeat (first | refine blk_drewN ?_ _ | refine blk_drew ?_ | refine blk_alloc ?_ _)); refine blk_far ?_ NB287_289.out _; (with_reducible repeat (first | refine blk_drewN ?_ _ | refine blk_drew ?_ | refine blk_alloc ?_ _)); refine blk_far ?_ NB287_289.out _; (with_reducible repeat (first | refine blk_drewN ?_ _ | refine blk_drew ?_ | refine blk_alloc ?_ _)); refine blk_far ?_ NB287_289.out _; (with_reducible repeat (first | refine blk_drewN ?_ _ | refine blk_drew ?_ | refine blk_alloc ?_ _)); exact BK287.out⟩, ⟨by (with_reducible repeat (first | refine blk_drewN ?_ _ | refine blk_drew ?_ | refine blk_alloc ?_ _)); refine blk_far ?_ NB288_289.out _; (with_reducible repeat (first | refine blk_drewN ?_ _ | refine blk_drew ?_ | refine blk_alloc ?_ _)); refine blk_far ?_ NB288_289.out _; (with_reducible repeat (first | refine blk_drewN ?_ _ | refine blk_drew ?_ | refine blk_alloc ?_ _)); refine blk_far ?_ NB288_289.out _; (with_reducible repeat (first | refine blk_drewN ?_ _ | refine blk_drew ?_ | refine blk_alloc ?_ _)); exact BK288.out⟩, ⟨by (with_reducible repeat (first | refine blk_drewN ?_ _ | refine blk_drew ?_ | refine blk_alloc ?_ _)); refine blk_put (cs := #[.int .i64 a0_0, .int .i64 a0_1, .slice none 0 0]) ?_ 2 _ rfl; (with_reducible repeat (first | refine blk_drewN ?_ _ | refine blk_drew ?_ | refine blk_alloc ?_ _)); refine blk_put (cs := #[.int .i64 a0_0, .int .i64 0, .slice none 0 0]) ?_ 1 _ rfl; (with_reducible repeat (first | refine blk_drewN ?_ _ | refine blk_drew ?_ | refine blk_alloc ?_ _)); refine blk_put (cs := #[.int .i64 0, .int .i64 0, .slice none 0 0]) ?_ 0 _ rfl; (with_reducible repeat (first | refine blk_drewN ?_ _ | refine blk_drew ?_ | refine blk_alloc ?_ _)); exact BK289.out⟩, ⟨by repeat (first | (with_reducible first | exact HB.out | apply below_alloc | apply pw_below_drewN | apply below_drew1 | refine below_set ?_ GE287.out | refine below_set ?_ GE288.out | refine below_set ?_ GE289.out) | exact HB.out)⟩⟩
  case round =>
    clear H'
    try clear c2
    try clear p2
    try clear c4
    try clear c7
    try clear c8
    try clear hcz10_0
    try clear hcz10_1
    try clear hcz10_2
    try clear hcz5_0
    try clear hcz5_1
    try clear hcz5_2
    try clear hcz9_0
    try clear hcz9_1
    try clear hcz9_2
    try clear hfz10_0
    try clear hfz10_1
    try clear hfz10_2
    try clear hfz5_0
    try clear hfz5_1
    try clear hfz5_2
    try clear hfz9_0
    try clear hfz9_1
    try clear hfz9_2
    obtain ⟨x14_1, x290002_1, u290002, rfl, HA, HK1, HO_290002, BK287, BK288, BK289, HB⟩ := hrel
    cases gk with
    | zero => exact absurd HA.out (by simp [virgationref02_Copy.l0])
    | succ k1 =>
      have H := HA.out
      clear HA
      simp only [virgationref02_Copy.l0] at H
      by_cases c11 : x14_1 < (l0_2.length : Int)
      · rw [if_pos c11] at H
        have c11b0 : decide (x14_1 < (l0_2.length : Int)) = true := decide_eq_true c11
        clear c11
        by_cases c12 : 0 ≤ x14_1
        · rw [if_pos c12] at H
          have c12b0 : decide (0 ≤ x14_1) = true := decide_eq_true c12
          clear c12
          by_cases c13 : x14_1 < (l0_2.length : Int)
          · rw [if_pos c13] at H
            have c13b0 : decide (x14_1 < (l0_2.length : Int)) = true := decide_eq_true c13
            clear c13
            replace H := Option.bind_eq_some_iff.mp H
            obtain ⟨⟨t292, t293, t294⟩, A140, H⟩ := H
            replace H : (if x290002_1.length < 3518437208883 then (virgationref02_Copy.l0 k1 l0_2 (l0_2.length : Int) (wrap64 (x14_1 + 1)) a0_0 a0_1 (x290002_1 ++ [(⟨t292, t293, t294⟩ : S44)])) else (none)) = some (r1, r2, r3) := H
            have A14 := Aside0.mk A140
            clear A140
            by_cases c15 : x290002_1.length < 3518437208883
            · rw [if_pos c15] at H
              have LMc15 := Aside0.mk c15
              clear c15
              obtain ⟨y297, hy297⟩ : ∃ y_ : List (S44), y_ = (x290002_1 ++ [(⟨t292, t293, t294⟩ : S44)]) := ⟨_, rfl⟩
              replace H : (virgationref02_Copy.l0 k1 l0_2 (l0_2.length : Int) (wrap64 (x14_1 + 1)) a0_0 a0_1 y297) = some (r1, r2, r3) := by first | (rw [hy297]; with_reducible exact H) | (have H2_ := (Option.bind_some _ _).symm.trans H; rw [hy297]; with_reducible exact H2_) | (have H2_ := (Option.bind_some _ _).symm.trans H; with_reducible exact H2_) | with_reducible exact H | (rw [hy297]; exact H) | exact H
              have Ny297 := Aside0.mk hy297
              clear hy297
              have H' := Aside0.mk H
              clear H
              have p290 : 0 ≤ (x14_1 : Int) := of_decide_eq_true (by first | (with_reducible assumption) | assumption)
              have q290 : x14_1 < (l0_2.length : Int) := of_decide_eq_true (by first | (with_reducible assumption) | assumption)
              obtain ⟨ad290, A290_2, c290_2, e290, hx290_0, hx290_1, hx290_2, hl290_2, hi290_2⟩ := at_T44 HR0_2.out x14_1 p290 q290
              cases e290
              replace hx290_0 := (HB.out.cell (World.block_lt_of_cell? w _ hx290_0)).trans hx290_0
              replace hx290_1 := (HB.out.cell (World.block_lt_of_cell? w _ hx290_1)).trans hx290_1
              replace hx290_2 := (HB.out.cell (World.block_lt_of_cell? w _ hx290_2)).trans hx290_2
              have HR290_2 := Aside0.mk hi290_2
              have HC290_2 := Aside0.mk hl290_2
              clear hi290_2 hl290_2
              replace p290 := eq_true p290
              replace q290 := eq_true q290
              try go_wp2_with (first | ((with_reducible refine gate_dst (N := 5) rfl ?_); refine box_event ?hg (N := 5) ?hd (cs := #[.int .i64 0, .int .i64 0, .slice none 0 0]) (t := 44) ?hr ?_; (case hd => rfl); (case hg => rfl); (case hr => first | (go_simp; done) | (go_simp; rfl)); intro gb291 hg w16 hbox hb; have n0_ := Aside0.mk (Kd.R_below (Kd.R_elderB (by (with_reducible repeat (first | apply Kd.R_alloc | apply Kd.R_drewN | apply Kd.R_drew)); exact HO_290002.out) gb291 (Nat.le_of_eq hg.symm)) hb); have n1_ := Aside0.mk (blk_below (g := gb287) (o := .cells #[.int .i64 a0_0, .int .i64 a0_1, .slice (some ad290) l0_2.length c0_2] 44 (0, 0)) (by (with_reducible repeat (first | refine blk_drewN ?_ _ | refine blk_drew ?_ | refine blk_alloc ?_ _)); exact BK287.out) hb); have n2_ := Aside0.mk (blk_below (g := gb288) (o := .cells #[.int .i64 0, .int .i64 0, .slice none 0 0] 44 (0, 0)) (by (with_reducible repeat (first | refine blk_drewN ?_ _ | refine blk_drew ?_ | refine blk_alloc ?_ _)); exact BK288.out) hb); have n3_ := Aside0.mk (blk_below (g := gb289) (o := .cells #[.int .i64 a0_0, .int .i64 a0_1, u290002] 44 (0, 0)) (by (with_reducible repeat (first | refine blk_drewN ?_ _ | refine blk_drew ?_ | refine blk_alloc ?_ _)); exact BK289.out) hb); have n4_ := Aside0.mk (below_step (by repeat (first | (with_reducible first | exact HB.out | apply below_alloc | apply pw_below_drewN | apply below_drew1 | refine below_set ?_ GE287.out | refine below_set ?_ GE288.out | refine below_set ?_ GE289.out) | exact HB.out)) hb); have n5_ := Aside0.mk (hbox); have n6_ := Aside0.mk ((by rw [hg]; exact (below_size (by repeat (first | (with_reducible first | exact HB.out | apply below_alloc | apply pw_below_drewN | apply below_drew1 | refine below_set ?_ GE287.out | refine below_set ?_ GE288.out | refine below_set ?_ GE289.out) | exact HB.out))) : w.heap.size ≤ gb291)); have n7_ := Aside0.mk ((by rw [hg]; exact (below_size (by repeat (first | (with_reducible first | exact HB.out | apply below_alloc | apply pw_below_drewN | apply below_drew1 | refine below_set ?_ GE287.out | refine below_set ?_ GE288.out | refine below_set ?_ GE289.out) | exact HB.out))) : w.heap.size ≤ gb291)); have n8_ := Aside0.mk ((by rw [hg]; exact Nat.ne_of_lt (blk_lt (g := gb287) (o := .cells #[.int .i64 a0_0, .int .i64 a0_1, .slice (some ad290) l0_2.length c0_2] 44 (0, 0)) (by (with_reducible repeat (first | refine blk_drewN ?_ _ | refine blk_drew ?_ | refine blk_alloc ?_ _)); exact BK287.out)) : gb287 ≠ gb291)); have n9_ := Aside0.mk ((by rw [hg]; exact Nat.ne_of_gt (blk_lt (g := gb287) (o := .cells #[.int .i64 a0_0, .int .i64 a0_1, .slice (some ad290) l0_2.length c0_2] 44 (0, 0)) (by (with_reducible repeat (first | refine blk_drewN ?_ _ | refine blk_drew ?_ | refine blk_alloc ?_ _)); exact BK287.out)) : gb291 ≠ gb287)); have n10_ := Aside0.mk ((by rw [hg]; exact Nat.ne_of_lt (blk_lt (g := gb288) (o := .cells #[.int .i64 0, .int .i64 0, .slice none 0 0] 44 (0, 0)) (by (with_reducible repeat (first | refine blk_drewN ?_ _ | refine blk_drew ?_ | refine blk_alloc ?_ _)); exact BK288.out)) : gb288 ≠ gb291)); have n11_ := Aside0.mk ((by rw [hg]; exact Nat.ne_of_gt (blk_lt (g := gb288) (o := .cells #[.int .i64 0, .int .i64 0, .slice none 0 0] 44 (0, 0)) (by (with_reducible repeat (first | refine blk_drewN ?_ _ | refine blk_drew ?_ | refine blk_alloc ?_ _)); exact BK288.out)) : gb291 ≠ gb288)); have n12_ := Aside0.mk ((by rw [hg]; exact Nat.ne_of_lt (blk_lt (g := gb289) (o := .cells #[.int .i64 a0_0, .int .i64 a0_1, u290002] 44 (0, 0)) (by (with_reducible repeat (first | refine blk_drewN ?_ _ | refine blk_drew ?_ | refine blk_alloc ?_ _)); exact BK289.out)) : gb289 ≠ gb291)); have n13_ := Aside0.mk ((by rw [hg]; exact Nat.ne_of_gt (blk_lt (g := gb289) (o := .cells #[.int .i64 a0_0, .int .i64 a0_1, u290002] 44 (0, 0)) (by (with_reducible repeat (first | refine blk_drewN ?_ _ | refine blk_drew ?_ | refine blk_alloc ?_ _)); exact BK289.out)) : gb291 ≠ gb289)); clear HO_290002; clear BK287; clear BK288; clear BK289; clear HB; have HO_290002 := n0_; have BK287 := n1_; have BK288 := n2_; have BK289 := n3_; have HB := n4_; have BK291 := n5_; have GW291 := n6_; have GE291 := n7_; have NB287_291 := n8_; have NB291_287 := n9_; have NB288_291 := n10_; have NB291_288 := n11_; have NB289_291 := n12_; have NB291_289 := n13_; clear n0_ n1_ n2_ n3_ n4_ n5_ n6_ n7_ n8_ n9_ n10_ n11_ n12_ n13_; clear hb hbox hg; have hnb17 := NB291_287.out; have hnc17 := NB287_291.out; have hnb18 := NB291_288.out; have hnc18 := NB288_291.out; have hnb19 := NB291_289.out; have hnc19 := NB289_291.out; have hcz20_0 : w16.cell? ⟨gb291, 0, none⟩ = some (.int .i64 0) := (blk_cell BK291.out 0).trans rfl; have hcz20_1 : w16.cell? ⟨gb291, 1, none⟩ = some (.int .i64 0) := (blk_cell BK291.out 1).trans rfl; have hcz20_2 : w16.cell? ⟨gb291, 2, none⟩ = some (.slice none 0 0) := (blk_cell BK291.out 2).trans rfl; have hfz20_0 := blk_frozen BK291.out 0; have hfz20_1 := blk_frozen BK291.out 1; have hfz20_2 := blk_frozen BK291.out 2))
              have n0_ : Aside0 (Kd.R k44 44 (((w16.setCell ⟨gb291, 0, none⟩ (.int .i64 ((rd_T44 l0_2 x14_1).f0))).setCell ⟨gb291, 1, none⟩ (.int .i64 ((rd_T44 l0_2 x14_1).f1))).setCell ⟨gb291, 2, none⟩ (.slice A290_2 ((rd_T44 l0_2 x14_1).f2).length c290_2)) w.heap.size (fun k_ => k_ ≠ gb287 ∧ k_ ≠ gb288 ∧ k_ ≠ gb289 ∧ k_ ≠ gb291) u290002 x290002_1) := ⟨by (with_reducible repeat (first | apply Kd.R_alloc | apply Kd.R_drewN | apply Kd.R_drew)); exact Kd.R_mono (Kd.R_far (p := ⟨gb291, 2, none⟩) (Kd.R_far (p := ⟨gb291, 1, none⟩) (Kd.R_far (p := ⟨gb291, 0, none⟩) (Kd.R_mono HO_290002.out (fun k_ hk => (⟨hk, hk.2⟩ : _ ∧ k_ ≠ gb291))) (fun _ hk => hk.2) (.int .i64 ((rd_T44 l0_2 x14_1).f0))) (fun _ hk => hk.2) (.int .i64 ((rd_T44 l0_2 x14_1).f1))) (fun _ hk => hk.2) (.slice A290_2 ((rd_T44 l0_2 x14_1).f2).length c290_2)) (fun _ hk => ⟨hk.1.1.1, ⟨hk.1.1.2.1, ⟨hk.1.1.2.2, hk.1.2⟩⟩⟩)⟩
              have n1_ : Aside0 ((((w16.setCell ⟨gb291, 0, none⟩ (.int .i64 ((rd_T44 l0_2 x14_1).f0))).setCell ⟨gb291, 1, none⟩ (.int .i64 ((rd_T44 l0_2 x14_1).f1))).setCell ⟨gb291, 2, none⟩ (.slice A290_2 ((rd_T44 l0_2 x14_1).f2).length c290_2)).heap[gb287]? = some (.cells #[.int .i64 a0_0, .int .i64 a0_1, .slice (some ad290) l0_2.length c0_2] 44 (0, 0))) := ⟨by (with_reducible repeat (first | refine blk_drewN ?_ _ | refine blk_drew ?_ | refine blk_alloc ?_ _)); refine blk_far ?_ NB287_291.out _; (with_reducible repeat (first | refine blk_drewN ?_ _ | refine blk_drew ?_ | refine blk_alloc ?_ _)); refine blk_far ?_ NB287_291.out _; (with_reducible repeat (first | refine blk_drewN ?_ _ | refine blk_drew ?_ | refine blk_alloc ?_ _)); refine blk_far ?_ NB287_291.out _; (with_reducible repeat (first | refine blk_drewN ?_ _ | refine blk_drew ?_ | refine blk_alloc ?_ _)); exact BK287.out⟩
              have n2_ : Aside0 ((((w16.setCell ⟨gb291, 0, none⟩ (.int .i64 ((rd_T44 l0_2 x14_1).f0))).setCell ⟨gb291, 1, none⟩ (.int .i64 ((rd_T44 l0_2 x14_1).f1))).setCell ⟨gb291, 2, none⟩ (.slice A290_2 ((rd_T44 l0_2 x14_1).f2).length c290_2)).heap[gb288]? = some (.cells #[.int .i64 0, .int .i64 0, .slice none 0 0] 44 (0, 0))) := ⟨by (with_reducible repeat (first | refine blk_drewN ?_ _ | refine blk_drew ?_ | refine blk_alloc ?_ _)); refine blk_far ?_ NB288_291.out _; (with_reducible repeat (first | refine blk_drewN ?_ _ | refine blk_drew ?_ | refine blk_alloc ?_ _)); refine blk_far ?_ NB288_291.out _; (with_reducible repeat (first | refine blk_drewN ?_ _ | refine blk_drew ?_ | refine blk_alloc ?_ _)); refine blk_far ?_ NB288_291.out _; (with_reducible repeat (first | refine blk_drewN ?_ _ | refine blk_drew ?_ | refine blk_alloc ?_ _)); exact BK288.out⟩
              have n3_ : Aside0 ((((w16.setCell ⟨gb291, 0, none⟩ (.int .i64 ((rd_T44 l0_2 x14_1).f0))).setCell ⟨gb291, 1, none⟩ (.int .i64 ((rd_T44 l0_2 x14_1).f1))).setCell ⟨gb291, 2, none⟩ (.slice A290_2 ((rd_T44 l0_2 x14_1).f2).length c290_2)).heap[gb289]? = some (.cells #[.int .i64 a0_0, .int .i64 a0_1, u290002] 44 (0, 0))) := ⟨by (with_reducible repeat (first | refine blk_drewN ?_ _ | refine blk_drew ?_ | refine blk_alloc ?_ _)); refine blk_far ?_ NB289_291.out _; (with_reducible repeat (first | refine blk_drewN ?_ _ | refine blk_drew ?_ | refine blk_alloc ?_ _)); refine blk_far ?_ NB289_291.out _; (with_reducible repeat (first | refine blk_drewN ?_ _ | refine blk_drew ?_ | refine blk_alloc ?_ _)); refine blk_far ?_ NB289_291.out _; (with_reducible repeat (first | refine blk_drewN ?_ _ | refine blk_drew ?_ | refine blk_alloc ?_ _)); exact BK289.out⟩
              have n4_ : Aside0 ((((w16.setCell ⟨gb291, 0, none⟩ (.int .i64 ((rd_T44 l0_2 x14_1).f0))).setCell ⟨gb291, 1, none⟩ (.int .i64 ((rd_T44 l0_2 x14_1).f1))).setCell ⟨gb291, 2, none⟩ (.slice A290_2 ((rd_T44 l0_2 x14_1).f2).length c290_2)).heap[gb291]? = some (.cells #[.int .i64 ((rd_T44 l0_2 x14_1).f0), .int .i64 ((rd_T44 l0_2 x14_1).f1), .slice A290_2 ((rd_T44 l0_2 x14_1).f2).length c290_2] 44 (0, 0))) := ⟨by (with_reducible repeat (first | refine blk_drewN ?_ _ | refine blk_drew ?_ | refine blk_alloc ?_ _)); refine blk_put (cs := #[.int .i64 ((rd_T44 l0_2 x14_1).f0), .int .i64 ((rd_T44 l0_2 x14_1).f1), .slice none 0 0]) ?_ 2 _ rfl; (with_reducible repeat (first | refine blk_drewN ?_ _ | refine blk_drew ?_ | refine blk_alloc ?_ _)); refine blk_put (cs := #[.int .i64 ((rd_T44 l0_2 x14_1).f0), .int .i64 0, .slice none 0 0]) ?_ 1 _ rfl; (with_reducible repeat (first | refine blk_drewN ?_ _ | refine blk_drew ?_ | refine blk_alloc ?_ _)); refine blk_put (cs := #[.int .i64 0, .int .i64 0, .slice none 0 0]) ?_ 0 _ rfl; (with_reducible repeat (first | refine blk_drewN ?_ _ | refine blk_drew ?_ | refine blk_alloc ?_ _)); exact BK291.out⟩
              have n5_ : Aside0 (Below w.heap.size w (((w16.setCell ⟨gb291, 0, none⟩ (.int .i64 ((rd_T44 l0_2 x14_1).f0))).setCell ⟨gb291, 1, none⟩ (.int .i64 ((rd_T44 l0_2 x14_1).f1))).setCell ⟨gb291, 2, none⟩ (.slice A290_2 ((rd_T44 l0_2 x14_1).f2).length c290_2))) := ⟨by repeat (first | (with_reducible first | exact HB.out | apply below_alloc | apply pw_below_drewN | apply below_drew1 | refine below_set ?_ GE287.out | refine below_set ?_ GE288.out | refine below_set ?_ GE289.out | refine below_set ?_ GE291.out) | exact HB.out)⟩
              (try clear HO_290002)
              (try clear BK287)
              (try clear BK288)
              (try clear BK289)
              (try clear BK291)
              (try clear HB)
              generalize (((w16.setCell ⟨gb291, 0, none⟩ (.int .i64 ((rd_T44 l0_2 x14_1).f0))).setCell ⟨gb291, 1, none⟩ (.int .i64 ((rd_T44 l0_2 x14_1).f1))).setCell ⟨gb291, 2, none⟩ (.slice A290_2 ((rd_T44 l0_2 x14_1).f2).length c290_2)) = w21 at n0_ n1_ n2_ n3_ n4_ n5_ ⊢
              have HO_290002 := n0_
              have BK287 := n1_
              have BK288 := n2_
              have BK289 := n3_
              have BK291 := n4_
              have HB := n5_
              clear n0_ n1_ n2_ n3_ n4_ n5_
              have n0_ := Aside0.mk (Kd.R_drew HO_290002.out)
              have n1_ := Aside0.mk (blk_drew BK287.out)
              have n2_ := Aside0.mk (blk_drew BK288.out)
              have n3_ := Aside0.mk (blk_drew BK289.out)
              have n4_ := Aside0.mk (blk_drew BK291.out)
              have n5_ := Aside0.mk (below_drew1 HB.out)
              clear HO_290002
              clear BK287
              clear BK288
              clear BK289
              clear BK291
              clear HB
              have HO_290002 := n0_
              have BK287 := n1_
              have BK288 := n2_
              have BK289 := n3_
              have BK291 := n4_
              have HB := n5_
              clear n0_ n1_ n2_ n3_ n4_ n5_
              refine start_ (n := 8) (S := fun w' => w'.cell? ⟨gb289, 0, none⟩ = some (.int .i64 a0_0) ∧ w'.cell? ⟨gb289, 1, none⟩ = some (.int .i64 a0_1) ∧ w'.cell? ⟨gb289, 2, none⟩ = some (u290002) ∧ w'.cell? ⟨gb291, 0, none⟩ = some (.int .i64 ((rd_T44 l0_2 x14_1).f0)) ∧ w'.cell? ⟨gb291, 1, none⟩ = some (.int .i64 ((rd_T44 l0_2 x14_1).f1)) ∧ w'.cell? ⟨gb291, 2, none⟩ = some (.slice A290_2 ((rd_T44 l0_2 x14_1).f2).length c290_2)) (ds := [7]) #[false, false, false, false, false, false, false, false] (by kernel_rfl) rfl rfl ⟨(blk_cell BK289.out 0).trans rfl, (blk_cell BK289.out 1).trans rfl, (blk_cell BK289.out 2).trans rfl, (blk_cell BK291.out 0).trans rfl, (blk_cell BK291.out 1).trans rfl, (blk_cell BK291.out 2).trans rfl⟩ (fun hHeld => ?_); refine with_tabW virgationref02_Copy.tab5 virgationref02_Copy.bits5 (fun HT_ HW_ => ?_)
              generalize w21.drew = w22 at HO_290002 BK287 BK288 BK289 BK291 HB hHeld ⊢
              refine pure_ (i := 0) (N := some 18) (v := ?_) (a' := ?_) #[true, false, false, false, false, false, false, false] rfl rfl (any_of HT_.out (by kernel_rfl)) (fun _ _ _ h => h) (Or.inl ⟨by rfl, ?_⟩) ?_ ?_
              rotate_left
              · intro w'
                go_simp
                with_reducible rfl
              rotate_left
              · simp only [Act.put, List.setIfInBounds_toArray, List.set_cons_zero, List.set_cons_succ, i64_w, i32_w]
                rfl
              refine take_ (i := 1) (N := some 19) (v := ?_) (a' := ?_) #[true, true, false, false, false, false, false, false] rfl rfl (take_ofW HT_.out HW_.out (by kernel_rfl)) (fun _ _ _ h => h) (Or.inl ⟨by rfl, ?_⟩) hHeld ?_ ?_
              rotate_left
              · rintro w' ⟨s0, s1, s2, s3, s4, s5⟩
                go_simp
                with_reducible rfl
              rotate_left
              · simp only [Act.put, List.setIfInBounds_toArray, List.set_cons_zero, List.set_cons_succ, i64_w, i32_w]
                rfl
              refine take_ (i := 2) (N := some 20) (v := ?_) (a' := ?_) #[true, true, true, false, false, false, false, false] rfl rfl (take_ofW HT_.out HW_.out (by kernel_rfl)) (fun _ _ _ h => h) (Or.inl ⟨by rfl, ?_⟩) hHeld ?_ ?_
              rotate_left
              · rintro w' ⟨s0, s1, s2, s3, s4, s5⟩
                go_simp
                with_reducible rfl
              rotate_left
              · simp only [Act.put, List.setIfInBounds_toArray, List.set_cons_zero, List.set_cons_succ, i64_w, i32_w]
                rfl
              refine one_ (i := 3) (N := some 21) #[true, true, true, true, false, false, false, false] rfl rfl (one_of HT_.out (by kernel_rfl)) (by decide) (fun K hK => ?_)
              refine goes_ Try.func24 (by kernel_rfl) rfl #[.agg #[.int .i64 ((rd_T44 l0_2 x14_1).f0), .int .i64 ((rd_T44 l0_2 x14_1).f1), .slice A290_2 ((rd_T44 l0_2 x14_1).f2).length c290_2]] (by rfl) rfl rfl (by (try simp only [List.map_toArray, List.map_cons, List.map_nil]); first | done | rfl | (simp only [List.length_drop, List.length_take]; rfl)) ?_
              with_reducible refine (ih k1 (by have := HK1.out; omega) ((rd_T44 l0_2 x14_1).f0) ((rd_T44 l0_2 x14_1).f1) _ _ ((rd_T44 l0_2 x14_1).f2) t292 t293 t294 _ ?side1 ?side2 A14.out).mono ?_
              (case side1 => repeat (first | exact (Kd.C_below HR290_2.out HB.out) | (with_reducible refine Kd.C_alloc ?_ _) | (with_reducible refine Kd.C_drewN ?_ _) | (with_reducible refine Kd.C_drew ?_)))
              (case side2 => exact HC290_2.out)
              rintro e w23 ⟨v295, rfl, ho0, hb⟩
              refine ⟨_, rfl, ?_⟩
              have n0_ := Aside0.mk (Kd.R_elder' (by (with_reducible repeat (first | apply Kd.R_alloc | apply Kd.R_drewN | apply Kd.R_drew)); exact HO_290002.out) (Kd.R_base ho0) hb)
              have n1_ := Aside0.mk (Kd.R_lower (Kd.R_newB (Kd.R_newB (Kd.R_newB (Kd.R_newB (Kd.R_new' ho0 (Kd.R_lt (by (with_reducible repeat (first | apply Kd.R_alloc | apply Kd.R_drewN | apply Kd.R_drew)); exact HO_290002.out))) (g := gb287) (o := .cells #[.int .i64 a0_0, .int .i64 a0_1, .slice (some ad290) l0_2.length c0_2] 44 (0, 0)) (by (with_reducible repeat (first | refine blk_drewN ?_ _ | refine blk_drew ?_ | refine blk_alloc ?_ _)); exact BK287.out)) (g := gb288) (o := .cells #[.int .i64 0, .int .i64 0, .slice none 0 0] 44 (0, 0)) (by (with_reducible repeat (first | refine blk_drewN ?_ _ | refine blk_drew ?_ | refine blk_alloc ?_ _)); exact BK288.out)) (g := gb289) (o := .cells #[.int .i64 a0_0, .int .i64 a0_1, u290002] 44 (0, 0)) (by (with_reducible repeat (first | refine blk_drewN ?_ _ | refine blk_drew ?_ | refine blk_alloc ?_ _)); exact BK289.out)) (g := gb291) (o := .cells #[.int .i64 ((rd_T44 l0_2 x14_1).f0), .int .i64 ((rd_T44 l0_2 x14_1).f1), .slice A290_2 ((rd_T44 l0_2 x14_1).f2).length c290_2] 44 (0, 0)) (by (with_reducible repeat (first | refine blk_drewN ?_ _ | refine blk_drew ?_ | refine blk_alloc ?_ _)); exact BK291.out)) (below_size (by repeat (first | (with_reducible first | exact HB.out | apply below_alloc | apply pw_below_drewN | apply below_drew1 | refine below_set ?_ GE287.out | refine below_set ?_ GE288.out | refine below_set ?_ GE289.out | refine below_set ?_ GE291.out) | exact HB.out))))
              have n2_ := Aside0.mk (blk_below (g := gb287) (o := .cells #[.int .i64 a0_0, .int .i64 a0_1, .slice (some ad290) l0_2.length c0_2] 44 (0, 0)) (by (with_reducible repeat (first | refine blk_drewN ?_ _ | refine blk_drew ?_ | refine blk_alloc ?_ _)); exact BK287.out) hb)
              have n3_ := Aside0.mk (blk_below (g := gb288) (o := .cells #[.int .i64 0, .int .i64 0, .slice none 0 0] 44 (0, 0)) (by (with_reducible repeat (first | refine blk_drewN ?_ _ | refine blk_drew ?_ | refine blk_alloc ?_ _)); exact BK288.out) hb)
              have n4_ := Aside0.mk (blk_below (g := gb289) (o := .cells #[.int .i64 a0_0, .int .i64 a0_1, u290002] 44 (0, 0)) (by (with_reducible repeat (first | refine blk_drewN ?_ _ | refine blk_drew ?_ | refine blk_alloc ?_ _)); exact BK289.out) hb)
              have n5_ := Aside0.mk (blk_below (g := gb291) (o := .cells #[.int .i64 ((rd_T44 l0_2 x14_1).f0), .int .i64 ((rd_T44 l0_2 x14_1).f1), .slice A290_2 ((rd_T44 l0_2 x14_1).f2).length c290_2] 44 (0, 0)) (by (with_reducible repeat (first | refine blk_drewN ?_ _ | refine blk_drew ?_ | refine blk_alloc ?_ _)); exact BK291.out) hb)
              have n6_ := Aside0.mk (below_step (by repeat (first | (with_reducible first | exact HB.out | apply below_alloc | apply pw_below_drewN | apply below_drew1 | refine below_set ?_ GE287.out | refine below_set ?_ GE288.out | refine below_set ?_ GE289.out | refine below_set ?_ GE291.out) | exact HB.out)) hb)
              clear HO_290002
              clear BK287
              clear BK288
              clear BK289
              clear BK291
              clear HB
              have HO_290002 := n0_
              have HO296 := n1_
              have BK287 := n2_
              have BK288 := n3_
              have BK289 := n4_
              have BK291 := n5_
              have HB := n6_
              clear n0_ n1_ n2_ n3_ n4_ n5_ n6_
              (try clear hb)
              (try clear hb2)
              (try clear hk)
              (try clear hi)
              (try clear ho0)
              obtain ⟨Ao25, co25, eo25⟩ := Kd.R_slice HO296.out
              (first | subst eo25 | (injection eo25 with f1_ f2_ f3_; have f4_ := f1_.symm; have f5_ := f3_.symm; clear f1_ f2_ f3_; subst f4_; subst f5_))
              refine hK.out _ _ ⟨(blk_cell BK289.out 0).trans rfl, (blk_cell BK289.out 1).trans rfl, (blk_cell BK289.out 2).trans rfl, (blk_cell BK291.out 0).trans rfl, (blk_cell BK291.out 1).trans rfl, (blk_cell BK291.out 2).trans rfl⟩ (fun hHeld => ?_)
              clear hK K
              refine norm_ (a' := ?_) ?_ ?_
              rotate_left
              · show Act.put _ (some 21) _ = _
                simp only [Act.put, List.setIfInBounds_toArray, List.set_cons_zero, List.set_cons_succ, i64_w, i32_w]
                rfl
              refine one_ (i := 4) (N := some 22) #[true, true, true, true, true, false, false, false] rfl rfl (one_of HT_.out (by kernel_rfl)) (by decide) (fun K hK => ?_)
              refine value_ (w1 := ?_) (v := ?_) (by rfl) rfl ?_ ?_
              rotate_left 2
              · go_simp
                constructor
                · rfl
                · rfl
              refine hK.out _ _ ⟨(blk_cell (blk_alloc BK289.out _) 0).trans rfl, (blk_cell (blk_alloc BK289.out _) 1).trans rfl, (blk_cell (blk_alloc BK289.out _) 2).trans rfl, (blk_cell (blk_alloc BK291.out _) 0).trans rfl, (blk_cell (blk_alloc BK291.out _) 1).trans rfl, (blk_cell (blk_alloc BK291.out _) 2).trans rfl⟩ (fun hHeld => ?_)
              clear hK K
              refine norm_ (a' := ?_) ?_ ?_
              rotate_left
              · show Act.put _ (some 22) _ = _
                simp only [Act.put, List.setIfInBounds_toArray, List.set_cons_zero, List.set_cons_succ, i64_w, i32_w]
                rfl
              refine one_ (i := 5) (N := some 23) #[true, true, true, true, true, true, false, false] rfl rfl (one_of HT_.out (by kernel_rfl)) (by decide) (fun K hK => ?_)
              refine Kd.R_append_step k44 (w0 := w) w.heap.size (by rfl) (.tmp 19) (.tmp 22) 42 44 (.agg #[(.int .i64 0), (.int .i64 0), (.slice none 0 0)]) 40 rfl Try.underlying42 info44 rfl (by decide) (by omega) u290002 x290002_1 (⟨t292, t293, t294⟩ : S44) [.int .i64 t292, .int .i64 t293, .slice Ao25 t294.length co25] (fun k_ => k_ ≠ gb287 ∧ k_ ≠ gb288 ∧ k_ ≠ gb289 ∧ k_ ≠ gb291) (fun k_ => ((fun k_ => k_ ≠ gb287 ∧ k_ ≠ gb288 ∧ k_ ≠ gb289 ∧ k_ ≠ gb291)) k_ ∧ some k_ ≠ (u290002 : Value).ownBlock) rfl rfl ?aP (fun _ hk => hk) ?aF ?aO ?aB ?aS ?aL ?_
              (case aP => exact k44_mkM _ _ _ (⟨t292, t293, t294⟩ : S44) (Kd.R_mono (HO296.out) (fun k_ hk => ⟨⟨hk.1.1.1.2, ⟨hk.1.1.2, ⟨hk.1.2, hk.2⟩⟩⟩, hk.1.1.1.1.2⟩)))
              (case aB => exact (by repeat (first | (with_reducible first | exact HB.out | apply below_alloc | apply pw_below_drewN | apply below_drew1 | refine below_set ?_ GE287.out | refine below_set ?_ GE288.out | refine below_set ?_ GE289.out | refine below_set ?_ GE291.out) | exact HB.out)))
              (case aF => exact (fun k_ hk => ⟨Kd.freshB (g := gb287) (o := .cells #[.int .i64 a0_0, .int .i64 a0_1, .slice (some ad290) l0_2.length c0_2] 44 (0, 0)) (by (with_reducible repeat (first | refine blk_drewN ?_ _ | refine blk_drew ?_ | refine blk_alloc ?_ _)); exact BK287.out) k_ hk, Kd.freshB (g := gb288) (o := .cells #[.int .i64 0, .int .i64 0, .slice none 0 0] 44 (0, 0)) (by (with_reducible repeat (first | refine blk_drewN ?_ _ | refine blk_drew ?_ | refine blk_alloc ?_ _)); exact BK288.out) k_ hk, Kd.freshB (g := gb289) (o := .cells #[.int .i64 a0_0, .int .i64 a0_1, u290002] 44 (0, 0)) (by (with_reducible repeat (first | refine blk_drewN ?_ _ | refine blk_drew ?_ | refine blk_alloc ?_ _)); exact BK289.out) k_ hk, Kd.freshB (g := gb291) (o := .cells #[.int .i64 ((rd_T44 l0_2 x14_1).f0), .int .i64 ((rd_T44 l0_2 x14_1).f1), .slice A290_2 ((rd_T44 l0_2 x14_1).f2).length c290_2] 44 (0, 0)) (by (with_reducible repeat (first | refine blk_drewN ?_ _ | refine blk_drew ?_ | refine blk_alloc ?_ _)); exact BK291.out) k_ hk⟩))
              (case aO => exact (by (with_reducible repeat (first | apply Kd.R_alloc | apply Kd.R_drewN | apply Kd.R_drew)); exact Kd.R_mono HO_290002.out (fun _ hk => ⟨hk.1.1, ⟨hk.1.2.1, ⟨hk.1.2.2.1, hk.1.2.2.2⟩⟩⟩)))
              (case aS => exact (below_size (by repeat (first | (with_reducible first | exact HB.out | apply below_alloc | apply pw_below_drewN | apply below_drew1 | refine below_set ?_ GE287.out | refine below_set ?_ GE288.out | refine below_set ?_ GE289.out | refine below_set ?_ GE291.out) | exact HB.out))))
              (case aL => have := LMc15.out; omega)
              intro v298 w24 ho hb hg hat
              rw [← Ny297.out] at ho
              have n0_ := Aside0.mk (blk_grown (g := gb287) (o := .cells #[.int .i64 a0_0, .int .i64 a0_1, .slice (some ad290) l0_2.length c0_2] 44 (0, 0)) (by (with_reducible repeat (first | refine blk_drewN ?_ _ | refine blk_drew ?_ | refine blk_alloc ?_ _)); exact BK287.out) hg (Kd.R_away HO_290002.out (fun _ hk => hk.1.1)))
              have n1_ := Aside0.mk (blk_grown (g := gb288) (o := .cells #[.int .i64 0, .int .i64 0, .slice none 0 0] 44 (0, 0)) (by (with_reducible repeat (first | refine blk_drewN ?_ _ | refine blk_drew ?_ | refine blk_alloc ?_ _)); exact BK288.out) hg (Kd.R_away HO_290002.out (fun _ hk => hk.1.2.1)))
              have n2_ := Aside0.mk (blk_grown (g := gb289) (o := .cells #[.int .i64 a0_0, .int .i64 a0_1, u290002] 44 (0, 0)) (by (with_reducible repeat (first | refine blk_drewN ?_ _ | refine blk_drew ?_ | refine blk_alloc ?_ _)); exact BK289.out) hg (Kd.R_away HO_290002.out (fun _ hk => hk.1.2.2.1)))
              have n3_ := Aside0.mk (blk_grown (g := gb291) (o := .cells #[.int .i64 ((rd_T44 l0_2 x14_1).f0), .int .i64 ((rd_T44 l0_2 x14_1).f1), .slice A290_2 ((rd_T44 l0_2 x14_1).f2).length c290_2] 44 (0, 0)) (by (with_reducible repeat (first | refine blk_drewN ?_ _ | refine blk_drew ?_ | refine blk_alloc ?_ _)); exact BK291.out) hg (Kd.R_away HO_290002.out (fun _ hk => hk.1.2.2.2)))
              have n4_ := Aside0.mk (hb)
              have n5_ := Aside0.mk (ho)
              clear BK287
              clear BK288
              clear BK289
              clear BK291
              clear HB
              clear HO_290002
              clear HO296
              have BK287 := n0_
              have BK288 := n1_
              have BK289 := n2_
              have BK291 := n3_
              have HB := n4_
              have HO299 := n5_
              clear n0_ n1_ n2_ n3_ n4_ n5_
              clear ho hb hg hat
              obtain ⟨Ao26, co26, eo26⟩ := Kd.R_slice HO299.out
              (first | subst eo26 | (injection eo26 with f1_ f2_ f3_; have f4_ := f1_.symm; have f5_ := f3_.symm; clear f1_ f2_ f3_; subst f4_; subst f5_))
              refine hK.out _ _ ⟨(blk_cell BK289.out 0).trans rfl, (blk_cell BK289.out 1).trans rfl, (blk_cell BK289.out 2).trans rfl, (blk_cell BK291.out 0).trans rfl, (blk_cell BK291.out 1).trans rfl, (blk_cell BK291.out 2).trans rfl⟩ (fun hHeld => ?_)
              clear hK K
              refine norm_ (a' := ?_) ?_ ?_
              rotate_left
              · show Act.put _ (some 23) _ = _
                simp only [Act.put, List.setIfInBounds_toArray, List.set_cons_zero, List.set_cons_succ, i64_w, i32_w]
                rfl
              refine pure_ (i := 6) (N := some 24) (v := ?_) (a' := ?_) #[true, true, true, true, true, true, true, false] rfl rfl (any_of HT_.out (by kernel_rfl)) (fun _ _ _ h => h) (Or.inl ⟨by rfl, ?_⟩) ?_ ?_
              rotate_left
              · intro w'
                go_simp
                with_reducible rfl
              rotate_left
              · simp only [Act.put, List.setIfInBounds_toArray, List.set_cons_zero, List.set_cons_succ, i64_w, i32_w]
                rfl
              refine last_ (i := 7) (N := none) #[true, true, true, true, true, true, true, true] rfl rfl (one_of HT_.out (by kernel_rfl)) (by decide) (fun K hK => ?_)
              have hs27 : w24.cell? ⟨gb289, 2, none⟩ = some (u290002) := (blk_cell BK289.out 2).trans rfl
              have hfs27 := blk_frozen BK289.out 2
              have hns27_0 := NB287_289.out
              have hns27_1 := NB288_289.out
              have hns27_3 := NB291_289.out
              have hms27_0 := NB289_287.out
              have hms27_1 := NB289_288.out
              have hms27_3 := NB289_291.out
              refine skip_ (w1 := ?_) (by rfl) rfl ?_ ?_
              rotate_left
              · go_simp
                rfl
              refine hK.out _ _ ?_
              clear hK K
              refine done_ (done_of HT_.out (by kernel_rfl)) ?_
              try go_wp2
              go_roundg k1
              case measure => have := HK1.out; omega
              case rel => exact ⟨(wrap64 (x14_1 + 1)), (y297), (.slice Ao26 y297.length co26), (by first | rfl | (simp; done) | (simp [*]; done)), H', ⟨by have := HK1.out; omega⟩, ⟨by (with_reducible repeat (first | apply Kd.R_alloc | apply Kd.R_drewN | apply Kd.R_drew)); exact Kd.R_mono (Kd.R_far (p := ⟨gb289, 2, none⟩) (Kd.R_mono HO299.out (fun k_ hk => (⟨hk, hk.2.2.1⟩ : _ ∧ k_ ≠ gb289))) (fun _ hk => hk.2) (.slice Ao26 y297.length co26)) (fun _ hk => ⟨hk.1.1, ⟨hk.1.2.1, hk.1.2.2.1⟩⟩)⟩, ⟨by (with_reducible repeat (first | refine blk_drewN ?_ _ | refine blk_drew ?_ | refine blk_alloc ?_ _)); refine blk_far ?_ NB287_289.out _; (with_reducible repeat (first | refine blk_drewN ?_ _ | refine blk_drew ?_ | refine blk_alloc ?_ _)); exact BK287.out⟩, ⟨by (with_reducible repeat (first | refine blk_drewN ?_ _ | refine blk_drew ?_ | refine blk_alloc ?_ _)); refine blk_far ?_ NB288_289.out _; (with_reducible repeat (first | refine blk_drewN ?_ _ | refine blk_drew ?_ | refine blk_alloc ?_ _)); exact BK288.out⟩, ⟨by (with_reducible repeat (first | refine blk_drewN ?_ _ | refine blk_drew ?_ | refine blk_alloc ?_ _)); refine blk_put (cs := #[.int .i64 a0_0, .int .i64 a0_1, u290002]) ?_ 2 _ rfl; (with_reducible repeat (first | refine blk_drewN ?_ _ | refine blk_drew ?_ | refine blk_alloc ?_ _)); exact BK289.out⟩, ⟨by repeat (first | (with_reducible first | exact HB.out | apply below_alloc | apply pw_below_drewN | apply below_drew1 | refine below_set ?_ GE287.out | refine below_set ?_ GE288.out | refine below_set ?_ GE289.out | refine below_set ?_ GE291.out) | exact HB.out)⟩⟩
            · rw [if_neg c15] at H
              exact absurd H (by simp)
          · rw [if_neg c13] at H
            exact absurd H (by simp)
        · rw [if_neg c12] at H
          exact absurd H (by simp)
      · rw [if_neg c11] at H
        have c11b0 : decide (x14_1 < (l0_2.length : Int)) = false := decide_eq_false c11
        clear c11
        simp only [Option.some.injEq, Prod.mk.injEq] at H
        obtain ⟨rfl, rfl, rfl⟩ := H
        have hnb28 := NB289_287.out
        have hnc28 := NB287_289.out
        have hnb29 := NB289_288.out
        have hnc29 := NB288_289.out
        have hcz30_0 : wr.cell? ⟨gb289, 0, none⟩ = some (.int .i64 a0_0) := (blk_cell BK289.out 0).trans rfl
        have hcz30_1 : wr.cell? ⟨gb289, 1, none⟩ = some (.int .i64 a0_1) := (blk_cell BK289.out 1).trans rfl
        have hcz30_2 : wr.cell? ⟨gb289, 2, none⟩ = some (u290002) := (blk_cell BK289.out 2).trans rfl
        have hfz30_0 := blk_frozen BK289.out 0
        have hfz30_1 := blk_frozen BK289.out 1
        have hfz30_2 := blk_frozen BK289.out 2
        have hnb31 := NB288_287.out
        have hnc31 := NB287_288.out
        have hcz32_0 : wr.cell? ⟨gb288, 0, none⟩ = some (.int .i64 0) := (blk_cell BK288.out 0).trans rfl
        have hcz32_1 : wr.cell? ⟨gb288, 1, none⟩ = some (.int .i64 0) := (blk_cell BK288.out 1).trans rfl
        have hcz32_2 : wr.cell? ⟨gb288, 2, none⟩ = some (.slice none 0 0) := (blk_cell BK288.out 2).trans rfl
        have hfz32_0 := blk_frozen BK288.out 0
        have hfz32_1 := blk_frozen BK288.out 1
        have hfz32_2 := blk_frozen BK288.out 2
        obtain ⟨Ao33, co33, eo33⟩ := Kd.R_slice HO_290002.out
        subst eo33
        go_wp2
        refine bodyPost_ret (results_cell_row rfl _ _ gb288 44 #[.int .i64 a0_0, .int .i64 a0_1, .slice Ao33 x290002_1.length co33] (0, 0) _ rfl (by (with_reducible repeat (first | refine blk_drewN ?_ _ | refine blk_drew ?_ | refine blk_alloc ?_ _)); refine blk_put (cs := #[.int .i64 a0_0, .int .i64 a0_1, .slice none 0 0]) ?_ 2 _ rfl; (with_reducible repeat (first | refine blk_drewN ?_ _ | refine blk_drew ?_ | refine blk_alloc ?_ _)); refine blk_put (cs := #[.int .i64 a0_0, .int .i64 0, .slice none 0 0]) ?_ 1 _ rfl; (with_reducible repeat (first | refine blk_drewN ?_ _ | refine blk_drew ?_ | refine blk_alloc ?_ _)); refine blk_put (cs := #[.int .i64 0, .int .i64 0, .slice none 0 0]) ?_ 0 _ rfl; (with_reducible repeat (first | refine blk_drewN ?_ _ | refine blk_drew ?_ | refine blk_alloc ?_ _)); exact BK288.out) Try.underlying44 rfl (by kernel_rfl)) rfl ?_
        exact ⟨_, by first | rfl | (simp [errW_none, errW_some] <;> rfl) | (simp [*, errW_none, errW_some] <;> rfl), by (with_reducible repeat (first | apply Kd.R_alloc | apply Kd.R_drewN | apply Kd.R_drew)); exact Kd.R_mono (Kd.R_far (p := ⟨gb288, 2, none⟩) (Kd.R_far (p := ⟨gb288, 1, none⟩) (Kd.R_far (p := ⟨gb288, 0, none⟩) (Kd.R_mono HO_290002.out (fun k_ hk => (⟨hk, hk.2.1⟩ : _ ∧ k_ ≠ gb288))) (fun _ hk => hk.2) (.int .i64 a0_0)) (fun _ hk => hk.2) (.int .i64 a0_1)) (fun _ hk => hk.2) (.slice Ao33 x290002_1.length co33)) (fun _ hk => trivial), by repeat (first | (with_reducible first | exact HB.out | apply below_alloc | apply pw_below_drewN | apply below_drew1 | refine below_set ?_ GE287.out | refine below_set ?_ GE288.out | refine below_set ?_ GE289.out) | exact HB.out)⟩
end Go.Proofs.Ytfhgoebgnilfaaa.I
namespace Go.Proofs.Ytfhgoebgnilfaaa.I
open Go.RowKit Go.Proofs.YtfhgoebgnilfaaaW.PrintWords Go.Proofs.YtfhgoebgnilfaaaW.PrintLast Go.Proofs.YtfhgoebgnilfaaaW.PrintMore
attribute [local go_sem] max2_int min2_int max_two min_two max_three min_three max_four min_four
set_option linter.unusedVariables false
set_option maxRecDepth 100000
set_option linter.unusedSimpArgs false
/-- The functions with their sorts. -/
def mkFuns (l : List S48) (out : List S41) : List S46 := List.zipWith (fun x o => (⟨x.f0, o, x.f2⟩ : S46)) l out
theorem cell_up {w w1 : World} {p : Addr} {v : Value} (hb : Below w.heap.size w w1) (h : w.cell? p = some v) : w1.cell? p = some v := (hb.cell (World.block_lt_of_cell? w p h)).trans h
theorem blk_type {w : World} {k q t : Nat} {c c' : Array Value} (h : w.heap[k]? = some (.cells c q (0, 0))) (h' : w.heap[k]? = some (.cells c' t (0, 0))) : q = t := by
  have := h.symm.trans h'
  injection this with this
  injection this
theorem mkFuns_snoc {l : List S48} {out : List S41} {i : Nat} (h : i < l.length) (h2 : i < out.length) : mkFuns (l.take i) (out.take i) ++ [⟨l[i].f0, out[i], l[i].f2⟩] = mkFuns (l.take (i + 1)) (out.take (i + 1)) := by
  have e1 : l.take (i + 1) = l.take i ++ [l[i]] := by rw [List.take_add_one, List.getElem?_eq_getElem h]; rfl
  have e2 : out.take (i + 1) = out.take i ++ [out[i]] := by rw [List.take_add_one, List.getElem?_eq_getElem h2]; rfl
  rw [e1, e2]
  unfold mkFuns
  rw [List.zipWith_append (by rw [List.length_take, List.length_take]; omega)]
  rfl
theorem mkFuns_len {l : List S48} {out : List S41} {i : Nat} (h : i ≤ l.length) (h2 : l.length = out.length) : (mkFuns (l.take i) (out.take i)).length = i := by
  unfold mkFuns
  rw [List.length_zipWith, List.length_take, List.length_take]
  omega
set_option maxHeartbeats 8000000 in
theorem scheme_err (f : Nat) (A0 : Option Addr) (c0 : Nat) (l0 : List S59) (A1 : Option Addr) (c1 : Nat) (l1 : List S48) (out : List S41) (er : Int) (w : World) (hr0 : Kd.C k59 w A0 l0.length l0) (hc0 : l0.length ≤ c0) (hr1 : Kd.C k48 w A1 l1.length l1) (hc1 : l1.length ≤ c1) (h : infer_Sorts.f f l0 l1 = some (out, er)) (he : er ≠ 0) :
    Calls Try.prog 20 #[.slice A0 l0.length c0, .slice A1 l1.length c1] w fun e w' => e = .returned (.tuple #[.agg #[.slice none 0 0, .slice none 0 0], .int .i64 er]) ∧ Below w.heap.size w w' := by
  have hu48 := Try.underlying48
  have hu44 := Try.underlying44
  have hu41 := Try.underlying41
  have hu46 := Try.underlying46
  have hu38 := Try.underlying38
  have HR0 := Aside0.mk hr0
  have HC0 := Aside0.mk hc0
  have HR1 := Aside0.mk hr1
  have HC1 := Aside0.mk hc1
  have H := Aside0.mk h
  have hlen1 : l1.length ≤ 9223372036854775807 := hr1.2.1
  have hne : (er != 0) = true := bne_iff_ne.2 he
  clear hr0 hc0 hr1 hc1 h he
  go_enter Try.func20, Try.ntmps20
  go_wp2_with (
    (with_reducible refine gate_dst (N := 4) rfl ?_)
    refine box_event ?hg (N := 4) ?hd (cs := #[.slice none 0 0, .slice none 0 0]) (t := 38) ?hr ?_
    (case hd => rfl)
    (case hg => rfl)
    (case hr => first | (go_simp; done) | (go_simp; rfl))
    intro g4 hg4 w2 hbox hb2
    have S4 := Aside0.mk hbox
    have HB2 := Aside0.mk hb2
    have Hg4 := Aside0.mk hg4
    clear hbox hb2 hg4)
  (with_reducible refine (infer_Sorts.calls f A0 c0 l0 A1 c1 l1 out er w2 (Kd.C_below HR0.out HB2.out) HC0.out (Kd.C_below HR1.out HB2.out) HC1.out H.out).mono ?_)
  rintro e w3 ⟨v, rfl, hR3, hb3⟩
  obtain ⟨Ao, co, rfl⟩ := Kd.R_slice hR3
  have S43 := Aside0.mk (blk_below S4.out hb3)
  have HB3 := Aside0.mk (below_step HB2.out hb3)
  clear hb3 hR3 S4
  have hz0 : w3.cell? ⟨g4, 0, none⟩ = some (.slice none 0 0) := (blk_cell S43.out 0).trans rfl
  have hz1 : w3.cell? ⟨g4, 1, none⟩ = some (.slice none 0 0) := (blk_cell S43.out 1).trans rfl
  have hf0 := blk_frozen S43.out 0
  have hf1 := blk_frozen S43.out 1
  have HG := Aside0.mk (by have := Hg4.out; omega : w.heap.size ≤ g4)
  go_wp2_with fail
  refine bodyPost_ret (results_ct rfl _ _ g4 38 #[.slice none 0 0, .slice none 0 0] (0, 0) _ rfl (blk_put (blk_put S43.out 0 (.slice none 0 0) rfl) 1 (.slice none 0 0) rfl) Try.underlying38 rfl (by kernel_rfl)) rfl ?_
  exact ⟨rfl, below_set (below_set HB3.out HG.out) HG.out⟩
set_option maxHeartbeats 8000000 in
theorem scheme_ok (f kc : Nat) (A0 : Option Addr) (c0 : Nat) (l0 : List S59) (A1 : Option Addr) (c1 : Nat) (l1 : List S48) (out : List S41) (w : World) (hr0 : Kd.C k59 w A0 l0.length l0) (hc0 : l0.length ≤ c0) (hr1 : Kd.C k48 w A1 l1.length l1) (hc1 : l1.length ≤ c1) (h : infer_Sorts.f f l0 l1 = some (out, 0))
    (hcp : ∀ x ∈ l1, infer_copied.f kc x.f2.f0 x.f2.f1 x.f2.f2 = some (x.f2.f0, x.f2.f1, x.f2.f2)) (ho : out.length = l1.length) (h24 : l0.length ≤ 24) (h64 : l1.length ≤ 64) :
    Calls Try.prog 20 #[.slice A0 l0.length c0, .slice A1 l1.length c1] w fun e w' => ∃ v1 v2, e = .returned (.tuple #[.agg #[v1, v2], .int .i64 0]) ∧ Kd.R k59 59 w' w.heap.size (fun _ => True) v1 l0 ∧ Kd.R k46 46 w' w.heap.size (fun _ => True) v2 (mkFuns l1 out) ∧ Below w.heap.size w w' := by
  have hu48 := Try.underlying48
  have hu44 := Try.underlying44
  have hu41 := Try.underlying41
  have hu46 := Try.underlying46
  have hu38 := Try.underlying38
  have HR0 := Aside0.mk hr0
  have HC0 := Aside0.mk hc0
  have HR1 := Aside0.mk hr1
  have HC1 := Aside0.mk hc1
  have H := Aside0.mk h
  have hlen1 : l1.length ≤ 9223372036854775807 := hr1.2.1
  have HCP := Aside0.mk hcp
  clear hr0 hc0 hr1 hc1 h hcp
  go_enter Try.func20, Try.ntmps20
  go_wp2_with (
    (with_reducible refine gate_dst (N := 4) rfl ?_)
    refine box_event ?hg (N := 4) ?hd (cs := #[.slice none 0 0, .slice none 0 0]) (t := 38) ?hr ?_
    (case hd => rfl)
    (case hg => rfl)
    (case hr => first | (go_simp; done) | (go_simp; rfl))
    intro g4 hg4 w2 hbox hb2
    have S4 := Aside0.mk hbox
    have HB2 := Aside0.mk hb2
    have Hg4 := Aside0.mk hg4
    clear hbox hb2 hg4)
  (with_reducible refine (infer_Sorts.calls f A0 c0 l0 A1 c1 l1 out 0 w2 (Kd.C_below HR0.out HB2.out) HC0.out (Kd.C_below HR1.out HB2.out) HC1.out H.out).mono ?_)
  rintro e w3 ⟨v, rfl, hR3, hb3⟩
  obtain ⟨Ao, co, rfl⟩ := Kd.R_slice hR3
  have S43 := Aside0.mk (blk_below S4.out hb3)
  have HB3 := Aside0.mk (below_step HB2.out hb3)
  have HRo := Aside0.mk (Kd.R_lower hR3 HB2.out.size)
  clear hb3 hR3 S4
  go_wp2_with (at_builtin; refine holdI5 ?_)
  unfold HoldI5
  refine Kd.R_append_rows k59 (Rr := k59.K w3) (w0 := w) w.heap.size rfl (.const (.slice none 0 0)) (.tmp 21) 22 59 (.agg #[.string ⟨#[]⟩, .int .i64 0]) 24 rfl Try.underlying22 (by kernel_rfl) rfl (by decide) (by omega) (.slice none 0 0) [] l0 A0 l0.length c0 (fun _ => True) (fun _ => False) rfl rfl ?aO ?aR ?aK (fun _ hk => hk.elim) (fun _ _ => trivial) HB3.out HB3.out.size (by simp only [List.length_nil]; omega) ?_
  (case aO => exact Kd.R_nil _ _ _ _ _)
  (case aR => exact Kd.C_below HR0.out HB3.out)
  (case aK => intro x cs hx; rw [k59_open hx]; exact k59_mkM _ _ _ x)
  intro vs w4 hs4 hb4 hg4 _
  rw [List.nil_append] at hs4
  obtain ⟨As, cs, rfl⟩ := Kd.R_slice hs4
  have S44 := Aside0.mk (blk_grown S43.out hg4 (by simp [Value.ownBlock]))
  have HB4 := Aside0.mk hb4
  have HRs := Aside0.mk hs4
  have HRo4 := Aside0.mk (Kd.R_grown HRo.out hg4 (fun k _ he => by simp [Value.ownBlock] at he))
  clear hs4 hb4 hg4 HRo S43 HB3
  go_upto_region 5 with (
    (with_reducible refine gate_dst (N := 8) rfl ?_)
    refine box_event ?hg (N := 8) ?hd (cs := #[.slice none 0 0, .slice none 0 0]) (t := 38) ?hr ?_
    (case hd => rfl)
    (case hg => rfl)
    (case hr => first | (go_simp; done) | (go_simp; rfl))
    intro g8 hg8 w5 hbox hb5
    have hbw := below_set (g := g8) (j := 1) (v := .slice none 0 0) (below_set (g := g8) (j := 0) (v := .slice As l0.length cs) hb5 (Nat.le_of_eq hg8.symm)) (Nat.le_of_eq hg8.symm)
    have hcz0 := (blk_cell hbox 0).trans rfl
    have hcz1 := (blk_cell hbox 1).trans rfl
    have hfz0 := blk_frozen hbox 0
    have hfz1 := blk_frozen hbox 1
    have S8 := Aside0.mk (blk_put (cs' := #[.slice As l0.length cs, .slice none 0 0]) (blk_put (cs' := #[.slice As l0.length cs, .slice none 0 0]) hbox 0 (.slice As l0.length cs) rfl) 1 (.slice none 0 0) rfl)
    have Hbw := Aside0.mk hbw
    have Hg8 := Aside0.mk (show w.heap.size ≤ g8 from by have := HB4.out.size; omega)
    have H48 := Aside0.mk (show g4 ≠ g8 from by have := blk_lt S44.out; omega)
    clear hbox hb5 hg8 hbw)
  generalize ((w5.setCell { block := g8, off := 0 } (.slice As l0.length cs)).setCell { block := g8, off := 1 } (.slice none 0 0)) = w6 at *
  have S46 := Aside0.mk (blk_below S44.out Hbw.out)
  have HB6 := Aside0.mk (below_step HB4.out Hbw.out)
  have HRs6 := Aside0.mk (Kd.R_below HRs.out Hbw.out)
  have HRo6 := Aside0.mk (Kd.R_below HRo4.out Hbw.out)
  have Hho := Aside0.mk ho
  clear hcz0 hcz1 hfz0 hfz1 S44 HB4 HRs HRo4 Hbw ho
  go_wp2_with fail
  go_loopg [26] l1.length (fun kq v26 wr => ∃ (i : Nat) (Af : Option Addr) (cf : Nat), v26 = .int .i64 (i : Int) ∧ Aside0 (i + kq = l1.length) ∧ Aside0 (Kd.R k46 46 wr w.heap.size (fun _ => True) (.slice Af i cf) (mkFuns (l1.take i) (out.take i))) ∧ Aside0 (Kd.R k59 59 wr w.heap.size (fun _ => True) (.slice As l0.length cs) l0) ∧ Aside0 (Kd.R k41 41 wr w.heap.size (fun _ => True) (.slice Ao out.length co) out) ∧ Aside0 (wr.heap[g8]? = some (.cells #[.slice As l0.length cs, .slice Af i cf] 38 (0, 0))) ∧ Aside0 (wr.heap[g4]? = some (.cells #[.slice none 0 0, .slice none 0 0] 38 (0, 0))) ∧ Aside0 (Below w.heap.size w wr))
  case atStart => exact ⟨0, none, 0, rfl, ⟨by omega⟩, ⟨Kd.R_nil _ _ _ _ _⟩, HRs6, HRo6, S8, S46, HB6⟩
  case round =>
    clear HRs6 HRo6 S8 S46 HB6
    obtain ⟨i, Af, cf, rfl, Hi, HRf, HRs, HRo, S8, S4, HB⟩ := hrel
    by_cases hlt : i < l1.length
    · cases gk with
      | zero => exact absurd Hi.out (by omega)
      | succ k1 =>
      have hlo : i < out.length := by rw [Hho.out]; exact hlt
      have Hlt := Aside0.mk hlt
      have HSN := Aside0.mk (mkFuns_snoc hlt hlo)
      obtain ⟨ad0, A4, c4, he, hx1, hx2, hx3, hx4, hx5, hl4, hC4⟩ := at_T48 HR1.out (i : Int) (by omega) (by omega)
      cases he
      replace hx1 := (HB.out.cell (World.block_lt_of_cell? w _ hx1)).trans hx1
      replace hx2 := (HB.out.cell (World.block_lt_of_cell? w _ hx2)).trans hx2
      replace hx3 := (HB.out.cell (World.block_lt_of_cell? w _ hx3)).trans hx3
      replace hx4 := (HB.out.cell (World.block_lt_of_cell? w _ hx4)).trans hx4
      replace hx5 := (HB.out.cell (World.block_lt_of_cell? w _ hx5)).trans hx5
      rw [Int.toNat_natCast] at hx1 hx2 hx3 hx4 hx5
      have Hl4 := Aside0.mk hl4
      have HC4 := Aside0.mk hC4
      have hxe : rd_T48 l1 (i : Int) = l1[i] := by unfold rd_T48; rw [Int.toNat_natCast, List.getD_eq_getElem?_getD, List.getElem?_eq_getElem hlt]; rfl
      have HCPi := Aside0.mk (HCP.out l1[i] (List.getElem_mem hlt))
      rw [hxe] at hx1 hx2 hx3 hx4 hx5
      have HC4' := HC4.out
      have Hl4' := Hl4.out
      rw [hxe] at HC4' Hl4'
      have HC5 := Aside0.mk HC4'
      have Hl5 := Aside0.mk Hl4'
      clear hl4 hC4 hxe HC4 Hl4 HC4' Hl4'
      have p1 : (0 ≤ (i : Int)) = True := eq_true (by omega)
      have p2 : ((i : Int) < (l1.length : Int)) = True := eq_true (by omega)
      have p3 : (i < l1.length) = True := eq_true (by omega)
      have q2 : ((i : Int) < (out.length : Int)) = True := eq_true (by omega)
      have q3 : (i < out.length) = True := eq_true (by omega)
      generalize l1[i] = x at *
      go_upto_region 8 with (
          (with_reducible refine gate_dst (N := 10) rfl ?_)
          refine box_event ?hg (N := 10) ?hd (cs := #[.string (⟨#[]⟩ : ByteArray), .int .i64 0, .int .i64 0, .int .i64 0, .slice none 0 0]) (t := 48) ?hr ?_
          (case hd => rfl)
          (case hg => rfl)
          (case hr => first | (go_simp; done) | (go_simp; rfl))
          intro gi hgi w6 hbox hb3
          have hgw : wr.heap.size ≤ gi := by omega
          have hbw := below_set (g := gi) (j := 4) (v := .slice A4 x.f2.f2.length c4) (below_set (g := gi) (j := 3) (v := .int .i64 x.f2.f1) (below_set (g := gi) (j := 2) (v := .int .i64 x.f2.f0) (below_set (g := gi) (j := 1) (v := .int .i64 x.f1) (below_set (g := gi) (j := 0) (v := .string x.f0) hb3 hgw) hgw) hgw) hgw) hgw
          have Hbw := Aside0.mk hbw
          have Hgi := Aside0.mk (blk_put (cs' := #[.string x.f0, .int .i64 x.f1, .int .i64 x.f2.f0, .int .i64 x.f2.f1, .slice A4 x.f2.f2.length c4]) (blk_put (cs' := #[.string x.f0, .int .i64 x.f1, .int .i64 x.f2.f0, .int .i64 x.f2.f1, .slice none 0 0]) (blk_put (cs' := #[.string x.f0, .int .i64 x.f1, .int .i64 x.f2.f0, .int .i64 0, .slice none 0 0]) (blk_put (cs' := #[.string x.f0, .int .i64 x.f1, .int .i64 0, .int .i64 0, .slice none 0 0]) (blk_put (cs' := #[.string x.f0, .int .i64 0, .int .i64 0, .int .i64 0, .slice none 0 0]) (hbox) 0 (.string x.f0) rfl) 1 (.int .i64 x.f1) rfl) 2 (.int .i64 x.f2.f0) rfl) 3 (.int .i64 x.f2.f1) rfl) 4 (.slice A4 x.f2.f2.length c4) rfl)
          have hcz0 := (blk_cell hbox 0).trans rfl
          have hfz0 := blk_frozen hbox 0
          have hcz1 := (blk_cell hbox 1).trans rfl
          have hfz1 := blk_frozen hbox 1
          have hcz2 := (blk_cell hbox 2).trans rfl
          have hfz2 := blk_frozen hbox 2
          have hcz3 := (blk_cell hbox 3).trans rfl
          have hfz3 := blk_frozen hbox 3
          have hcz4 := (blk_cell hbox 4).trans rfl
          have hfz4 := blk_frozen hbox 4
          clear hbox hb3 hgi hgw hbw)
      clear hcz0 hcz1 hcz2 hcz3 hcz4 hfz0 hfz1 hfz2 hfz3 hfz4 hx1 hx2 hx3 hx4 hx5
      generalize (((((w6.setCell ⟨gi, 0, none⟩ (.string x.f0)).setCell ⟨gi, 1, none⟩ (.int .i64 x.f1)).setCell ⟨gi, 2, none⟩ (.int .i64 x.f2.f0)).setCell ⟨gi, 3, none⟩ (.int .i64 x.f2.f1)).setCell ⟨gi, 4, none⟩ (.slice A4 x.f2.f2.length c4)) = wq at *
      obtain ⟨go, cpo, hov, _, _, _⟩ := Kd.R_form HRo.out (by omega)
      injection hov with hov1 _ hov2
      subst hov1 hov2
      obtain ⟨co1, hcl, hM, hcc, _⟩ := Kd.R_elem HRo.out z41 (i : Int) (by omega) (by omega)
      obtain ⟨v0, rfl, hR0⟩ := k41_openM hM
      have hoe : out.getD (i : Int).toNat z41 = out[i] := by rw [Int.toNat_natCast, List.getD_eq_getElem?_getD, List.getElem?_eq_getElem hlo]; rfl
      rw [hoe] at hR0
      generalize out[i] = y at *
      obtain ⟨Av, cv, rfl⟩ := Kd.R_slice hR0
      have hov := hcc 0 _ rfl
      rw [Int.toNat_natCast] at hov
      have hovr : wr.cell? ⟨go, i, none⟩ = some (.slice Av y.f0.length cv) := (congrArg (fun j => wr.cell? ⟨go, j, none⟩) (show i = i * (k41).sz + 0 from by show i = i * 1 + 0; omega)).trans hov
      have hovq := cell_up Hbw.out hovr
      have HR0 := Aside0.mk (Kd.R_below hR0 Hbw.out)
      have HMq := Aside0.mk (Kd.R_below HRf.out Hbw.out)
      have S8q := Aside0.mk (blk_below S8.out Hbw.out)
      have HBq := Aside0.mk (below_step HB.out Hbw.out)
      have n0 : wq.cell? ⟨gi, 0, none⟩ = some (.string x.f0) := (blk_cell Hgi.out 0).trans rfl
      have n2 : wq.cell? ⟨gi, 2, none⟩ = some (.int .i64 x.f2.f0) := (blk_cell Hgi.out 2).trans rfl
      have n3 : wq.cell? ⟨gi, 3, none⟩ = some (.int .i64 x.f2.f1) := (blk_cell Hgi.out 3).trans rfl
      have n4 : wq.cell? ⟨gi, 4, none⟩ = some (.slice A4 x.f2.f2.length c4) := (blk_cell Hgi.out 4).trans rfl
      have m1 : wq.cell? ⟨g8, 1, none⟩ = some (.slice Af i cf) := (blk_cell S8q.out 1).trans rfl
      clear hcc hM hcl hov hovr hR0 hoe
      go_region_law
        (first
          | (refine Kd.R_append_step k46 (w0 := w) w.heap.size rfl (.tmp 32) (.tmp 43) 36 46 (.agg #[.string ⟨#[]⟩, .slice none 0 0, .int .i64 0, .int .i64 0, .slice none 0 0]) 80 rfl Try.underlying36 (by kernel_rfl) rfl (by decide) (by omega) (.slice Af i cf) (mkFuns (l1.take i) (out.take i)) ⟨x.f0, y, x.f2⟩ [.string x.f0, .slice Av y.f0.length cv, .int .i64 x.f2.f0, .int .i64 x.f2.f1, v4] (fun _ => True) (fun k => ∃ q cells, q ≠ 46 ∧ wA.heap[k]? = some (.cells cells q (0, 0))) rfl rfl (by exact k46_mkM _ _ _ ⟨x.f0, y, x.f2⟩ (Kd.R_mono (Kd.R_bound HR0A.out) (fun k hk => by obtain ⟨_, _, _, q, hq, cells, hc⟩ := hk; refine ⟨q, cells, ?_, hc⟩; rcases List.mem_cons.1 hq with rfl | hq; decide; rw [List.mem_singleton.1 hq]; decide)) (Kd.R_mono (Kd.R_bound HR4A.out) (fun k hk => by obtain ⟨_, _, _, q, hq, cells, hc⟩ := hk; refine ⟨q, cells, ?_, hc⟩; rcases List.mem_cons.1 hq with rfl | hq; decide; rw [List.mem_singleton.1 hq]; decide))) (fun k hk => ⟨trivial, fun he => by obtain ⟨q, cells, hq, hc⟩ := hk; obtain ⟨c2, h2⟩ := Kd.R_typed HRfA.out k he.symm; exact hq (blk_type hc h2)⟩) (fun _ _ => trivial) HRfA.out HBA.out HBA.out.size (by rw [mkFuns_len (by have := Hlt.out; omega) Hho.out.symm]; omega) ?_
             intro v2 w7 hrf hb7 hg7 hat
             rw [HSN.out] at hrf
             obtain ⟨A2, c2, e2⟩ := Kd.R_slice hrf
             rw [mkFuns_len (i := i + 1) Hlt.out Hho.out.symm] at e2
             subst e2
             have tf := Kd.R_typed HRfA.out
             have HRf7 := Aside0.mk hrf
             have HB7 := Aside0.mk hb7
             have HRs7 := Aside0.mk (Kd.R_over' HRsA.out tf (by decide) hg7)
             have HRo7 := Aside0.mk (Kd.R_over' HRoA.out tf (by decide) hg7)
             have S87 := Aside0.mk (blk_grownT S8A.out hg7 (fun k hk => by obtain ⟨c, hc⟩ := tf k hk; exact ⟨46, c, by decide, hc⟩))
             have S47 := Aside0.mk (blk_grownT S4A.out hg7 (fun k hk => by obtain ⟨c, hc⟩ := tf k hk; exact ⟨46, c, by decide, hc⟩))
             have Hgi7 := Aside0.mk (blk_grownT HgiA.out hg7 (fun k hk => by obtain ⟨c, hc⟩ := tf k hk; exact ⟨46, c, by decide, hc⟩))
             have d0 : w7.cell? ⟨gi, 0, none⟩ = some (.string x.f0) := (blk_cell Hgi7.out 0).trans rfl
             have d2 : w7.cell? ⟨gi, 2, none⟩ = some (.int .i64 x.f2.f0) := (blk_cell Hgi7.out 2).trans rfl
             have d3 : w7.cell? ⟨gi, 3, none⟩ = some (.int .i64 x.f2.f1) := (blk_cell Hgi7.out 3).trans rfl
             have d4 : w7.cell? ⟨gi, 4, none⟩ = some (.slice A4 x.f2.f2.length c4) := (blk_cell Hgi7.out 4).trans rfl
             have d5 : w7.cell? ⟨go, i, none⟩ = some (.slice Av y.f0.length cv) := (World.cell?_of_block (hg7.block go (World.block_lt_of_cell? wA _ a5) (fun he => by obtain ⟨c, hc⟩ := tf go he.symm; obtain ⟨c', hc'⟩ := Kd.R_typed HRoA.out go (by simp [Value.ownBlock]); exact absurd (blk_type hc hc') (by decide)))).trans a5
             have d6 : w7.cell? ⟨g8, 1, none⟩ = some (.slice Af i cf) := (blk_cell S87.out 1).trans rfl
             have d7 : w7.frozen? ⟨g8, 1, none⟩ = false := blk_frozen S87.out 1
             have e1 : g8 ≠ gi := blk_ne S87.out Hgi7.out (by decide)
             have e2 : g8 ≠ go := fun he => (by obtain ⟨c', hc'⟩ := Kd.R_typed HRo7.out go (by simp [Value.ownBlock]); rw [← he] at hc'; exact absurd (blk_type hc' S87.out) (by decide))
             clear hrf hb7 hg7 hat tf a0 a2 a3 a4 a5 a6 a7)
          | (go_simp
             go_at_call 54
             (with_reducible refine (infer_copied.calls kc x.f2.f0 x.f2.f1 A4 c4 x.f2.f2 x.f2.f0 x.f2.f1 x.f2.f2 _ (Kd.C_below HC5.out (below_drew HBq.out)) Hl5.out HCPi.out).mono ?_)
             rintro e wA ⟨v4, rfl, hR4, hbA⟩
             have HRfA := Aside0.mk (Kd.R_below (Kd.R_drew HMq.out) hbA)
             have HR0A := Aside0.mk (Kd.R_below (Kd.R_drew HR0.out) hbA)
             have HBA := Aside0.mk (below_step (below_drew HBq.out) hbA)
             have HbwA := Aside0.mk (below_step (below_drew Hbw.out) hbA)
             have HR4A := Aside0.mk (Kd.R_lower hR4 (show w.heap.size ≤ wq.drew.heap.size from HBq.out.size))
             have S8A := Aside0.mk (blk_below (blk_drew S8q.out) hbA)
             have a0 := cell_up hbA (show wq.drew.cell? _ = _ from n0)
             have a2 := cell_up hbA (show wq.drew.cell? _ = _ from n2)
             have a3 := cell_up hbA (show wq.drew.cell? _ = _ from n3)
             have a4 := cell_up hbA (show wq.drew.cell? _ = _ from n4)
             have a5 := cell_up hbA (show wq.drew.cell? _ = _ from hovq)
             have a6 := cell_up hbA (show wq.drew.cell? _ = _ from m1)
             have a7 : ∀ o : Obj, (wA.alloc o).cell? ⟨g8, 1, none⟩ = some (.slice Af i cf) := fun o => (blk_cell (blk_alloc S8A.out o) 1).trans rfl
             have HgiA := Aside0.mk (blk_below (blk_drew Hgi.out) hbA)
             have HRsA := Aside0.mk (Kd.R_below HRs.out HbwA.out)
             have HRoA := Aside0.mk (Kd.R_below HRo.out HbwA.out)
             have S4A := Aside0.mk (blk_below S4.out HbwA.out)
             clear hR4 hbA))
      all_goals (
        generalize hw8 : w7.setCell { block := g8, off := 1 } (.slice A2 (i + 1) c2) = w8 at *
        have HRf8 := Aside0.mk (show Kd.R k46 46 w8 w.heap.size (fun _ => True) (.slice A2 (i + 1) c2) _ from by rw [← hw8]; exact Kd.R_set HRf7.out S87.out (by decide) 1 _)
        have HRs8 := Aside0.mk (show Kd.R k59 59 w8 w.heap.size (fun _ => True) (.slice As l0.length cs) l0 from by rw [← hw8]; exact Kd.R_set HRs7.out S87.out (by decide) 1 _)
        have HRo8 := Aside0.mk (show Kd.R k41 41 w8 w.heap.size (fun _ => True) (.slice (some ⟨go, 0, none⟩) out.length co) out from by rw [← hw8]; exact Kd.R_set HRo7.out S87.out (by decide) 1 _)
        have S88 := Aside0.mk (show w8.heap[g8]? = some (.cells #[.slice As l0.length cs, .slice A2 (i + 1) c2] 38 (0, 0)) from by rw [← hw8]; exact blk_put S87.out 1 _ rfl)
        have S48 := Aside0.mk (show w8.heap[g4]? = some (.cells #[.slice none 0 0, .slice none 0 0] 38 (0, 0)) from by rw [← hw8]; exact blk_far (p := ⟨g8, 1, none⟩) S47.out (fun he => H48.out he) _)
        have HB8 := Aside0.mk (show Below w.heap.size w w8 from by rw [← hw8]; exact below_set HB7.out Hg8.out)
        clear hw8 d0 d2 d3 d4 d5 d6 d7 n0 n2 n3 n4 m1 hovq
        go_wp2_with fail
        go_roundg k1
        case measure => omega
        case rel => exact ⟨i + 1, A2, c2, by go_num, ⟨by have := Hi.out; omega⟩, HRf8, HRs8, HRo8, S88, S48, HB8⟩)
    · have hie : i = l1.length := by have := Hi.out; omega
      subst hie
      have hq0 : wr.cell? ⟨g8, 0, none⟩ = some (.slice As l0.length cs) := (blk_cell S8.out 0).trans rfl
      have hq1 : wr.cell? ⟨g8, 1, none⟩ = some (.slice Af l1.length cf) := (blk_cell S8.out 1).trans rfl
      have hz0 : wr.cell? ⟨g4, 0, none⟩ = some (.slice none 0 0) := (blk_cell S4.out 0).trans rfl
      have hz1 : wr.cell? ⟨g4, 1, none⟩ = some (.slice none 0 0) := (blk_cell S4.out 1).trans rfl
      have hf0 := blk_frozen S4.out 0
      have hf1 := blk_frozen S4.out 1
      have HRf' := HRf.out
      rw [List.take_length, List.take_of_length_le (by rw [Hho.out]; exact Nat.le_refl _)] at HRf'
      have HF := Aside0.mk HRf'
      have HG := Aside0.mk (by have := Hg4.out; omega : w.heap.size ≤ g4)
      clear HRf' HRf
      go_wp2_with fail
      refine bodyPost_ret (results_ct rfl _ _ g4 38 #[.slice As l0.length cs, .slice Af l1.length cf] (0, 0) _ rfl (blk_put (blk_put S4.out 0 (.slice As l0.length cs) rfl) 1 (.slice Af l1.length cf) rfl) Try.underlying38 rfl (by kernel_rfl)) rfl ?_
      have S4' := blk_put (cs' := #[.slice As l0.length cs, .slice none 0 0]) S4.out 0 (.slice As l0.length cs) rfl
      exact ⟨_, _, rfl, Kd.R_set (Kd.R_set HRs.out S4.out (by decide) 0 _) S4' (by decide) 1 _, Kd.R_set (Kd.R_set HF.out S4.out (by decide) 0 _) S4' (by decide) 1 _, below_set (below_set HB.out HG.out) HG.out⟩
end Go.Proofs.Ytfhgoebgnilfaaa.I
namespace Go.Proofs.Ytfhgoebgnilfaaa.I
open Go.RowKit Go.Proofs.YtfhgoebgnilfaaaW.PrintWords Go.Proofs.YtfhgoebgnilfaaaW.PrintLast Go.Proofs.YtfhgoebgnilfaaaW.PrintMore
attribute [local go_sem] max2_int min2_int max_two min_two max_three min_three max_four min_four
set_option linter.unusedVariables false
set_option maxRecDepth 100000
set_option linter.unusedSimpArgs false
/-- Numbers of terms in blocks from B on may have turned; all else of the elder memory is as it was. -/
structure IntSt (B : Nat) (w w' : World) : Prop where
  os : w'.os = w.os
  tape : w'.tape = w.tape
  output : w'.output = w.output
  size : w.heap.size ≤ w'.heap.size
  block : ∀ k, k < w.heap.size → w'.heap[k]? = w.heap[k]? ∨ (B ≤ k ∧ ∃ c c' : Array Value, w.heap[k]? = some (.cells c 44 (0, 0)) ∧ w'.heap[k]? = some (.cells c' 44 (0, 0)) ∧ ∀ j : Nat, c'[j]? = c[j]? ∨ ∃ a b : Int, c[j]? = some (.int .i64 a) ∧ c'[j]? = some (.int .i64 b))
theorem IntSt.refl (B : Nat) (w : World) : IntSt B w w := ⟨rfl, rfl, rfl, Nat.le_refl _, fun _ _ => .inl rfl⟩
theorem IntSt.trans {B : Nat} {w w1 w2 : World} (h : IntSt B w w1) (k : IntSt B w1 w2) : IntSt B w w2 := by
  refine ⟨k.os.trans h.os, k.tape.trans h.tape, k.output.trans h.output, Nat.le_trans h.size k.size, fun q hq => ?_⟩
  rcases h.block q hq with h1 | ⟨hb, c, c1, e0, e1, hj⟩
  · rcases k.block q (Nat.lt_of_lt_of_le hq h.size) with h2 | ⟨hb, c, c1, e0, e1, hj⟩
    · exact .inl (h2.trans h1)
    · exact .inr ⟨hb, c, c1, h1.symm.trans e0, e1, hj⟩
  · rcases k.block q (Nat.lt_of_lt_of_le hq h.size) with h2 | ⟨_, c2, c3, e2, e3, hj2⟩
    · exact .inr ⟨hb, c, c1, e0, h2.trans e1, hj⟩
    · have e := e1.symm.trans e2
      injection e with e
      injection e with e _ _
      subst e
      refine .inr ⟨hb, c, c3, e0, e3, fun j => ?_⟩
      rcases hj j with h3 | ⟨a, b, h3, h4⟩
      · rcases hj2 j with h5 | ⟨a, b, h5, h6⟩
        · exact .inl (h5.trans h3)
        · exact .inr ⟨a, b, h3.symm.trans h5, h6⟩
      · rcases hj2 j with h5 | ⟨a', b', h5, h6⟩
        · exact .inr ⟨a, b, h3, h5.trans h4⟩
        · exact .inr ⟨a, b', h3, h6⟩
theorem IntSt.set {B g j : Nat} {w : World} {c : Array Value} {a b : Int} (hg : w.heap[g]? = some (.cells c 44 (0, 0))) (hB : B ≤ g) (hj : c[j]? = some (.int .i64 a)) : IntSt B w (w.setCell ⟨g, j, none⟩ (.int .i64 b)) := by
  refine ⟨rfl, rfl, rfl, by simp [World.setCell], fun k hk => ?_⟩
  by_cases hkg : k = g
  · subst hkg
    refine .inr ⟨hB, c, c.setIfInBounds j (.int .i64 b), hg, blk_set hg j _, fun q => ?_⟩
    rw [Array.getElem?_setIfInBounds]
    by_cases hq : j = q
    · subst hq
      have hjl : j < c.size := (Array.getElem?_eq_some_iff.1 hj).1
      rw [if_pos rfl, if_pos hjl]
      exact .inr ⟨a, b, hj, rfl⟩
    · rw [if_neg hq]
      exact .inl rfl
  · exact .inl (Below.heap_setCell w ⟨g, j, none⟩ _ k hkg)
theorem IntSt.other {B k t : Nat} {w w' : World} {c : Array Value} (h : IntSt B w w') (hk : w.heap[k]? = some (.cells c t (0, 0))) (ht : t ≠ 44) : w'.heap[k]? = some (.cells c t (0, 0)) := by
  rcases h.block k (blk_lt hk) with h1 | ⟨_, c1, c2, e0, _⟩
  · exact h1.trans hk
  · exact absurd (blk_type hk e0) ht
theorem IntSt.elder {B B' : Nat} {w0 w w' : World} (h : IntSt B w w') (hB : Below B' w0 w) (hb : B' ≤ B) (hs : B' ≤ w.heap.size) : Below B' w0 w' :=
  ⟨h.os.trans hB.os, h.tape.trans hB.tape, h.output.trans hB.output, Nat.le_trans hB.size h.size, fun k hk => by
    rcases h.block k (Nat.lt_of_lt_of_le hk hs) with h1 | ⟨h2, _⟩
    · exact h1.trans (hB.block k hk)
    · omega⟩
/-- The shape of terms in memory, whatever their numbers. -/
def TS (w : World) (B : Nat) : Nat → List S44 → Value → Prop
  | 0, _, _ => False
  | N + 1, l, v => ∃ (A : Option Addr) (c : Nat), v = .slice A l.length c ∧ l.length ≤ 9223372036854775807 ∧ (0 < l.length → ∃ (g : Nat) (cells : Array Value), A = some ⟨g, 0, none⟩ ∧ B ≤ g ∧ w.heap[g]? = some (.cells cells 44 (0, 0)) ∧
      ∀ j, j < l.length → ∃ (a n : Int) (u : Value), cells[j * 3]? = some (.int .i64 a) ∧ cells[j * 3 + 1]? = some (.int .i64 n) ∧ cells[j * 3 + 2]? = some u ∧ TS w B N (rd_T44 l (j : Int)).f2 u)
theorem TS_slice {w : World} {B : Nat} : ∀ {N : Nat} {l : List S44} {v : Value}, TS w B N l v → ∃ A c, v = .slice A l.length c
  | 0, _, _, h => h.elim
  | _ + 1, _, _, ⟨A, c, h, _⟩ => ⟨A, c, h⟩
theorem TS_keep {w w' : World} {B : Nat} (h : IntSt B w w') : ∀ {N : Nat} {l : List S44} {v : Value}, TS w B N l v → TS w' B N l v
  | 0, _, _, hs => hs.elim
  | N + 1, l, v, ⟨A, c, e, hl, hs⟩ => by
    refine ⟨A, c, e, hl, fun h0 => ?_⟩
    obtain ⟨g, cells, hA, hB, hg, hc⟩ := hs h0
    rcases h.block g (blk_lt hg) with h1 | ⟨_, c1, c2, e0, e1, hj⟩
    · refine ⟨g, cells, hA, hB, h1.trans hg, fun j hjl => ?_⟩
      obtain ⟨a, n, u, k1, k2, k3, k4⟩ := hc j hjl
      exact ⟨a, n, u, k1, k2, k3, TS_keep h k4⟩
    · have e2 := hg.symm.trans e0
      injection e2 with e2
      injection e2 with e2 _ _
      subst e2
      refine ⟨g, c2, hA, hB, e1, fun j hjl => ?_⟩
      obtain ⟨a, n, u, k1, k2, k3, k4⟩ := hc j hjl
      obtain ⟨A', c', hu⟩ := TS_slice k4
      have i1 : ∃ a', c2[j * 3]? = some (.int .i64 a') := by
        rcases hj (j * 3) with h3 | ⟨a', b', _, h4⟩
        · exact ⟨a, h3.trans k1⟩
        · exact ⟨b', h4⟩
      have i2 : ∃ n', c2[j * 3 + 1]? = some (.int .i64 n') := by
        rcases hj (j * 3 + 1) with h3 | ⟨a', b', _, h4⟩
        · exact ⟨n, h3.trans k2⟩
        · exact ⟨b', h4⟩
      have i3 : c2[j * 3 + 2]? = some u := by
        rcases hj (j * 3 + 2) with h3 | ⟨a', b', h4, _⟩
        · exact h3.trans k3
        · rw [k3, hu] at h4; cases h4
      obtain ⟨a', i1⟩ := i1
      obtain ⟨n', i2⟩ := i2
      exact ⟨a', n', u, i1, i2, i3, TS_keep h k4⟩
theorem TS_at {w : World} {B N g c : Nat} {l : List S44} (h : TS w B (N + 1) l (.slice (some ⟨g, 0, none⟩) l.length c)) (hz : 0 < l.length) : ∃ cells : Array Value, w.heap[g]? = some (.cells cells 44 (0, 0)) ∧
      ∀ j, j < l.length → ∃ (a n : Int) (u : Value), cells[j * 3]? = some (.int .i64 a) ∧ cells[j * 3 + 1]? = some (.int .i64 n) ∧ cells[j * 3 + 2]? = some u ∧ TS w B N (rd_T44 l (j : Int)).f2 u := by
  obtain ⟨_, _, ev, _, hs⟩ := h
  obtain ⟨g', cells, hA, _, hg, hc⟩ := hs hz
  injection ev with ev _ _
  rw [hA] at ev
  injection ev with ev
  injection ev with ev
  subst ev
  exact ⟨cells, hg, hc⟩
set_option maxHeartbeats 4000000 in
theorem turn_calls (B N : Nat) : ∀ (l : List S44) (v : Value) (w : World) (hS : TS w B N l v),
    Calls Try.prog 25 #[v] w fun e w' => e = .returned (.tuple #[]) ∧ IntSt B w w' := by
  induction N with
  | zero => intro l v w hS; exact hS.elim
  | succ N ih =>
  intro l v w hS
  have hu44 := Try.underlying44
  have HS := Aside0.mk hS
  obtain ⟨A, c, rfl, hlen, hs⟩ := hS
  have IH := Aside0.mk ih
  clear ih
  by_cases hz : 0 < l.length
  · obtain ⟨g, cells, rfl, hB, hg, hc⟩ := hs hz
    have HB := Aside0.mk hB
    clear hc hg hB
    go_enter Try.func25, Try.ntmps25
    go_wp2_with fail
    go_loopg [5] l.length (fun kq v5 wr => ∃ (i : Nat), v5 = .int .i64 (i : Int) ∧ Aside0 (kq + i = l.length) ∧ Aside0 (TS wr B (N + 1) l (.slice (some ⟨g, 0, none⟩) l.length c)) ∧ Aside0 (IntSt B w wr))
    case atStart => exact ⟨0, rfl, ⟨by omega⟩, HS, ⟨IntSt.refl _ _⟩⟩
    case round =>
      clear HS
      obtain ⟨i, rfl, Hi, HS, HT⟩ := hrel
      have hi : i ≤ l.length := by have := Hi.out; omega
      by_cases hlt : i < l.length
      · obtain ⟨cells', hg', hc'⟩ := TS_at HS.out hz
        obtain ⟨a, n, u, k1, k2, k3, k4⟩ := hc' i hlt
        obtain ⟨A1, c1, rfl⟩ := TS_slice k4
        have HK4 := Aside0.mk k4
        have Hg := Aside0.mk hg'
        have HK2 := Aside0.mk k2
        have q1 : wr.cell? ⟨g, i * 3 + 2, none⟩ = some (.slice A1 (rd_T44 l (i : Int)).f2.length c1) := (blk_cell hg' _).trans k3
        clear hc' k1 k2 k3 k4 hg' hs
        have p1 : (0 ≤ (i : Int)) = True := eq_true (by omega)
        have p2 : ((i : Int) < (l.length : Int)) = True := eq_true (by omega)
        have p3 : (i < l.length) = True := eq_true (by omega)
        generalize (rd_T44 l (i : Int)).f2 = x at *
        go_wp2_with fail
        (with_reducible refine (IH.out x _ wr HK4.out).mono ?_)
        rintro e w1 ⟨rfl, hT1⟩
        have HS1 := Aside0.mk (TS_keep hT1 HS.out)
        have HT1 := Aside0.mk (HT.out.trans hT1)
        clear hT1 HS HT HK4 Hg HK2 q1
        obtain ⟨cells1, hg', hc'⟩ := TS_at HS1.out hz
        obtain ⟨a, n, u, k1, k2, k3, k4⟩ := hc' i hlt
        have q2 : w1.cell? ⟨g, i * 3 + 1, none⟩ = some (.int .i64 n) := (blk_cell hg' _).trans k2
        have q3 : w1.frozen? ⟨g, i * 3 + 1, none⟩ = false := blk_frozen hg' _
        have HK := Aside0.mk (fun b => IntSt.set (b := b) hg' HB.out k2)
        clear hc' k1 k2 k3 k4 hg'
        go_wp2_with fail
        have hk := Hi.out
        obtain ⟨k1, rfl⟩ : ∃ k1, gk = k1 + 1 := ⟨gk - 1, by omega⟩
        go_roundg k1
        case measure => omega
        case rel => exact ⟨i + 1, by go_num, ⟨by omega⟩, ⟨TS_keep (HK.out _) HS1.out⟩, ⟨HT1.out.trans (HK.out _)⟩⟩
      · have hie : i = l.length := by omega
        go_wp2_with fail
        go_end0
        exact ⟨rfl, HT.out⟩
  · have hz0 : l.length = 0 := by omega
    rw [hz0]
    clear hs hz hz0 HS
    go_enter Try.func25, Try.ntmps25
    go_wp2_with fail
    go_loopg [5] 0 (fun kq v5 wr => v5 = .int .i64 0 ∧ wr = w)
    case atStart => exact ⟨rfl, rfl⟩
    case round =>
      obtain ⟨rfl, rfl⟩ := hrel
      go_wp2_with fail
      go_end0
      exact ⟨rfl, IntSt.refl _ _⟩
end Go.Proofs.Ytfhgoebgnilfaaa.I
