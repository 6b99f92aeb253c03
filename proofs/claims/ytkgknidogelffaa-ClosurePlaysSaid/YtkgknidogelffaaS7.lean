/- Texts of this session's proof, laid together: I11, ID1, ID2, IO3, ID3, ID4, IMx, IMz, IMy, INa. -/
import Derived.Test.YtkgknidogelffaaS6
namespace Go.Proofs.Ytkgknidogelffaa.I
open Go.RowKit Go.Proofs.YtkgknidogelffaaW.PrintWords Go.Proofs.YtkgknidogelffaaW.PrintLast Go.Proofs.YtkgknidogelffaaW.PrintMore
attribute [local go_sem] max2_int min2_int max_two min_two max_three min_three max_four min_four   -- for this text's walks alone
set_option linter.unusedVariables false
set_option linter.unusedSimpArgs false
mutual
def virgationref02_Replace.j0:Nat→List (S36)→Int→Int→List (S36)→Int→Int→List (S36)→Option (Int × Int × (List (S36)))
  | 0,_,_,_,_,_,_,_=>none
  | k+1,x1,x380000,x380001,x380002,x382000,x382001,x382002=>virgationref02_Replace.l0 k x1 x380002 (x380002.length:Int) 0 x382000 x382001 x382002
def virgationref02_Replace.l0:Nat→List (S36)→List (S36)→Int→Int→Int→Int→List (S36)→Option (Int × Int × (List (S36)))
  | 0,_,_,_,_,_,_,_=>none
  | k+1,x1,x23,x24,x25,x382000,x382001,x382002=>if x25 < x24 then (if 0≤x25 then (if x25 < (x23.length:Int) then ((virgationref02_Replace.f k ((rd_T36 x23 x25).f0) ((rd_T36 x23 x25).f1) ((rd_T36 x23 x25).f2) x1).bind fun bt390=>(if x382002.length < 3518437208883 then (virgationref02_Replace.l0 k x1 x23 x24 (wrap64 (x25+1)) x382000 x382001 (x382002 ++ [(⟨bt390.1,bt390.2.1,bt390.2.2⟩:S36)])) else (none))) else (none)) else (none)) else (some (x382000,x382001,x382002))
def virgationref02_Replace.f:Nat→Int→Int→List (S36)→List (S36)→Option (Int × Int × (List (S36)))
  | 0,_,_,_,_=>none
  | k+1,a0_0,a0_1,l0_2,l1=>if a0_0=0 then (if 0≤a0_1 then (if a0_1 < (l1.length:Int) then ((virgationref02_Copy.f ((rd_T36 l1 a0_1).f0) ((rd_T36 l1 a0_1).f1) ((rd_T36 l1 a0_1).f2)).bind fun bt383=>(virgationref02_Replace.j0 k l1 a0_0 a0_1 l0_2 bt383.1 bt383.2.1 bt383.2.2)) else (none)) else (none)) else (virgationref02_Replace.j0 k l1 a0_0 a0_1 l0_2 a0_0 a0_1 ([]:List (S36)))
end
def virgationref02_Replace.T7:Bool × List (List Nat × List Nat):=(true,[([],[]),([0],[0]),([],[]),([],[]),([2,3],[2,3]),([4],[4]),([1,5,4],[1,5]),([0,1,2,3,4,5,6],[]),([7,6,6,0,1,2,3,4,5,6],[6,7])])
def virgationref02_Replace.B7:List Nat:=[0,1,0,0,12,28,63,127,255]
theorem virgationref02_Replace.tab7:rtab .any (opsOf Try.f79 7)=virgationref02_Replace.T7:=by kernel_rfl
theorem virgationref02_Replace.bits7:waitsOk virgationref02_Replace.T7.2 virgationref02_Replace.B7=true:=by kernel_rfl
set_option maxHeartbeats 8000000 in
set_option maxRecDepth 100000 in
theorem virgationref02_Replace.calls (k:Nat):∀ (a0_0:Int) (a0_1:Int) (A0_2:Option Addr) (c0_2:Nat) (l0_2:List (S36)) (A1:Option Addr) (c1:Nat) (l1:List (S36)) (r1:Int) (r2:Int) (r3:List (S36)) (w:World) (hr0_2:Kd.C k36 w A0_2 l0_2.length l0_2) (hc0_2:l0_2.length≤c0_2) (hr1:Kd.C k36 w A1 l1.length l1) (hc1:l1.length≤c1) (h:virgationref02_Replace.f k a0_0 a0_1 l0_2 l1=some (r1,r2,r3)),
    Calls Try.prog 79 #[.agg #[.int .i64 a0_0,.int .i64 a0_1,.slice A0_2 l0_2.length c0_2],.slice A1 l1.length c1] w fun e w'=>∃ v2_:Value,e=.returned (.agg #[.int .i64 r1,.int .i64 r2,v2_])∧Kd.R k36 36 w' w.heap.size (fun _=>True) v2_ r3∧Below w.heap.size w w':=by
  induction k using Nat.strongRecOn with
  | _ k ih =>
  intro a0_0 a0_1 A0_2 c0_2 l0_2 A1 c1 l1 r1 r2 r3 w hr0_2 hc0_2 hr1 hc1 h
  cases k with
  | zero=>exact absurd h (by simp [virgationref02_Replace.f])
  | succ k =>
  simp only [virgationref02_Replace.f] at h
  have hu36:=Try.underlying36
  have HR0_2:=Az.mk hr0_2
  have HC0_2:=Az.mk hc0_2
  clear hr0_2 hc0_2
  have HR1:=Az.mk hr1
  have HC1:=Az.mk hc1
  clear hr1 hc1
  have HB:=Az.mk (Below.refl w.heap.size w)
  have H:(if a0_0=0 then (if 0≤a0_1 then (if a0_1 < (l1.length:Int) then ((virgationref02_Copy.f ((rd_T36 l1 a0_1).f0) ((rd_T36 l1 a0_1).f1) ((rd_T36 l1 a0_1).f2)).bind fun bt383=>(virgationref02_Replace.j0 k l1 a0_0 a0_1 l0_2 bt383.1 bt383.2.1 bt383.2.2)) else (none)) else (none)) else (virgationref02_Replace.j0 k l1 a0_0 a0_1 l0_2 a0_0 a0_1 ([]:List (S36))))=some (r1,r2,r3):=h
  clear h
  have HC3:=Az.mk H
  clear H
  go_enter Try.func79,Try.ntmps79
  go_upto_if 15 with (first | ((with_reducible refine gate_dst (N:=2) rfl ?_); refine box_event ?hg (N:=2) ?hd (cs:=#[.int .i64 a0_0,.int .i64 a0_1,.slice A0_2 l0_2.length c0_2]) (t:=36) ?hr ?_; (case hd=>rfl); (case hg=>rfl); (case hr=>first | (go_simp; done) | (go_simp; rfl)); intro gb379 hg w4 hbox hb; have n0_:=Az.mk (bst (by repeat (first | (with_reducible first | exact HB.out | apply bal | apply pwN | apply bd1) | exact HB.out)) hb); have n1_:=Az.mk (hbox); have n2_:=Az.mk ((by rw [hg]; exact (below_size (by repeat (first | (with_reducible first | exact HB.out | apply bal | apply pwN | apply bd1) | exact HB.out))):w.heap.size≤gb379)); have n3_:=Az.mk ((by rw [hg]; exact (below_size (by repeat (first | (with_reducible first | exact HB.out | apply bal | apply pwN | apply bd1) | exact HB.out))):w.heap.size≤gb379)); clear HB; have HB:=n0_; have BK379:=n1_; have GW379:=n2_; have GE379:=n3_; clear n0_ n1_ n2_ n3_; clear hb hbox hg) | ((with_reducible refine gate_dst (N:=4) rfl ?_); refine box_event ?hg (N:=4) ?hd (cs:=#[.int .i64 0,.int .i64 0,.slice none 0 0]) (t:=36) ?hr ?_; (case hd=>rfl); (case hg=>rfl); (case hr=>first | (go_simp; done) | (go_simp; rfl)); intro gb380 hg w5 hbox hb; have n0_:=Az.mk (bkB (g:=gb379) (o:=.cells #[.int .i64 a0_0,.int .i64 a0_1,.slice A0_2 l0_2.length c0_2] 36 (0,0)) (by (with_reducible repeat (first | refine bdN ?_ _ | refine blk_drew ?_ | refine bkA ?_ _)); exact BK379.out) hb); have n1_:=Az.mk (bst (by repeat (first | (with_reducible first | exact HB.out | apply bal | apply pwN | apply bd1 | refine bset ?_ GE379.out) | exact HB.out)) hb); have n2_:=Az.mk (hbox); have n3_:=Az.mk ((by rw [hg]; exact (below_size (by repeat (first | (with_reducible first | exact HB.out | apply bal | apply pwN | apply bd1 | refine bset ?_ GE379.out) | exact HB.out))):w.heap.size≤gb380)); have n4_:=Az.mk ((by rw [hg]; exact (below_size (by repeat (first | (with_reducible first | exact HB.out | apply bal | apply pwN | apply bd1 | refine bset ?_ GE379.out) | exact HB.out))):w.heap.size≤gb380)); have n5_:=Az.mk ((by rw [hg]; exact Nat.ne_of_lt (blk_lt (g:=gb379) (o:=.cells #[.int .i64 a0_0,.int .i64 a0_1,.slice A0_2 l0_2.length c0_2] 36 (0,0)) (by (with_reducible repeat (first | refine bdN ?_ _ | refine blk_drew ?_ | refine bkA ?_ _)); exact BK379.out)):gb379≠gb380)); have n6_:=Az.mk ((by rw [hg]; exact Nat.ne_of_gt (blk_lt (g:=gb379) (o:=.cells #[.int .i64 a0_0,.int .i64 a0_1,.slice A0_2 l0_2.length c0_2] 36 (0,0)) (by (with_reducible repeat (first | refine bdN ?_ _ | refine blk_drew ?_ | refine bkA ?_ _)); exact BK379.out)):gb380≠gb379)); clear BK379; clear HB; have BK379:=n0_; have HB:=n1_; have BK380:=n2_; have GW380:=n3_; have GE380:=n4_; have NB379_380:=n5_; have NB380_379:=n6_; clear n0_ n1_ n2_ n3_ n4_ n5_ n6_; clear hb hbox hg; have hnb6:=NB379_380.out; have hnc6:=NB380_379.out; have hcz7_0:w5.cell? ⟨gb379,0,none⟩=some (.int .i64 a0_0):=(blk_cell BK379.out 0).trans rfl; have hcz7_1:w5.cell? ⟨gb379,1,none⟩=some (.int .i64 a0_1):=(blk_cell BK379.out 1).trans rfl; have hcz7_2:w5.cell? ⟨gb379,2,none⟩=some (.slice A0_2 l0_2.length c0_2):=(blk_cell BK379.out 2).trans rfl; have hfz7_0:=bkF BK379.out 0; have hfz7_1:=bkF BK379.out 1; have hfz7_2:=bkF BK379.out 2) | ((with_reducible refine gate_dst (N:=5) rfl ?_); refine box_event ?hg (N:=5) ?hd (cs:=#[.int .i64 0,.int .i64 0,.slice none 0 0]) (t:=36) ?hr ?_; (case hd=>rfl); (case hg=>rfl); (case hr=>first | (go_simp; done) | (go_simp; rfl)); intro gb381 hg w8 hbox hb; have n0_:=Az.mk (bkB (g:=gb379) (o:=.cells #[.int .i64 a0_0,.int .i64 a0_1,.slice A0_2 l0_2.length c0_2] 36 (0,0)) (by (with_reducible repeat (first | refine bdN ?_ _ | refine blk_drew ?_ | refine bkA ?_ _)); exact BK379.out) hb); have n1_:=Az.mk (bkB (g:=gb380) (o:=.cells #[.int .i64 0,.int .i64 0,.slice none 0 0] 36 (0,0)) (by (with_reducible repeat (first | refine bdN ?_ _ | refine blk_drew ?_ | refine bkA ?_ _)); exact BK380.out) hb); have n2_:=Az.mk (bst (by repeat (first | (with_reducible first | exact HB.out | apply bal | apply pwN | apply bd1 | refine bset ?_ GE379.out | refine bset ?_ GE380.out) | exact HB.out)) hb); have n3_:=Az.mk (hbox); have n4_:=Az.mk ((by rw [hg]; exact (below_size (by repeat (first | (with_reducible first | exact HB.out | apply bal | apply pwN | apply bd1 | refine bset ?_ GE379.out | refine bset ?_ GE380.out) | exact HB.out))):w.heap.size≤gb381)); have n5_:=Az.mk ((by rw [hg]; exact (below_size (by repeat (first | (with_reducible first | exact HB.out | apply bal | apply pwN | apply bd1 | refine bset ?_ GE379.out | refine bset ?_ GE380.out) | exact HB.out))):w.heap.size≤gb381)); have n6_:=Az.mk ((by rw [hg]; exact Nat.ne_of_lt (blk_lt (g:=gb379) (o:=.cells #[.int .i64 a0_0,.int .i64 a0_1,.slice A0_2 l0_2.length c0_2] 36 (0,0)) (by (with_reducible repeat (first | refine bdN ?_ _ | refine blk_drew ?_ | refine bkA ?_ _)); exact BK379.out)):gb379≠gb381)); have n7_:=Az.mk ((by rw [hg]; exact Nat.ne_of_gt (blk_lt (g:=gb379) (o:=.cells #[.int .i64 a0_0,.int .i64 a0_1,.slice A0_2 l0_2.length c0_2] 36 (0,0)) (by (with_reducible repeat (first | refine bdN ?_ _ | refine blk_drew ?_ | refine bkA ?_ _)); exact BK379.out)):gb381≠gb379)); have n8_:=Az.mk ((by rw [hg]; exact Nat.ne_of_lt (blk_lt (g:=gb380) (o:=.cells #[.int .i64 0,.int .i64 0,.slice none 0 0] 36 (0,0)) (by (with_reducible repeat (first | refine bdN ?_ _ | refine blk_drew ?_ | refine bkA ?_ _)); exact BK380.out)):gb380≠gb381)); have n9_:=Az.mk ((by rw [hg]; exact Nat.ne_of_gt (blk_lt (g:=gb380) (o:=.cells #[.int .i64 0,.int .i64 0,.slice none 0 0] 36 (0,0)) (by (with_reducible repeat (first | refine bdN ?_ _ | refine blk_drew ?_ | refine bkA ?_ _)); exact BK380.out)):gb381≠gb380)); clear BK379; clear BK380; clear HB; have BK379:=n0_; have BK380:=n1_; have HB:=n2_; have BK381:=n3_; have GW381:=n4_; have GE381:=n5_; have NB379_381:=n6_; have NB381_379:=n7_; have NB380_381:=n8_; have NB381_380:=n9_; clear n0_ n1_ n2_ n3_ n4_ n5_ n6_ n7_ n8_ n9_; clear hb hbox hg; have hnb9:=NB381_379.out; have hnc9:=NB379_381.out; have hnb10:=NB381_380.out; have hnc10:=NB380_381.out; have hcz11_0:w8.cell? ⟨gb381,0,none⟩=some (.int .i64 0):=(blk_cell BK381.out 0).trans rfl; have hcz11_1:w8.cell? ⟨gb381,1,none⟩=some (.int .i64 0):=(blk_cell BK381.out 1).trans rfl; have hcz11_2:w8.cell? ⟨gb381,2,none⟩=some (.slice none 0 0):=(blk_cell BK381.out 2).trans rfl; have hfz11_0:=bkF BK381.out 0; have hfz11_1:=bkF BK381.out 1; have hfz11_2:=bkF BK381.out 2; have hcz12_0:w8.cell? ⟨gb379,0,none⟩=some (.int .i64 a0_0):=(blk_cell BK379.out 0).trans rfl; have hcz12_1:w8.cell? ⟨gb379,1,none⟩=some (.int .i64 a0_1):=(blk_cell BK379.out 1).trans rfl; have hcz12_2:w8.cell? ⟨gb379,2,none⟩=some (.slice A0_2 l0_2.length c0_2):=(blk_cell BK379.out 2).trans rfl; have hfz12_0:=bkF BK379.out 0; have hfz12_1:=bkF BK379.out 1; have hfz12_2:=bkF BK379.out 2))
  (try simp only [Act.put,List.setIfInBounds_toArray,List.set_cons_zero,List.set_cons_succ])
  go_cut [] (fun wc=>∃ (kq:Nat) (x382000_2:Int) (x382001_2:Int) (x382002_2:List (S36)) (u382002:Value),Az (virgationref02_Replace.j0 kq l1 a0_0 a0_1 l0_2 x382000_2 x382001_2 x382002_2=some (r1,r2,r3))∧Az (kq≤k)∧Az (Kd.R k36 36 wc w.heap.size (fun k_=>k_≠gb379∧k_≠gb380∧k_≠gb381) u382002 x382002_2)∧Az (wc.heap[gb379]?=some (.cells #[.int .i64 a0_0,.int .i64 a0_1,(.slice A0_2 l0_2.length c0_2)] 36 (0,0)))∧Az (wc.heap[gb380]?=some (.cells #[.int .i64 0,.int .i64 0,(.slice none 0 0)] 36 (0,0)))∧Az (wc.heap[gb381]?=some (.cells #[.int .i64 x382000_2,.int .i64 x382001_2,u382002] 36 (0,0)))∧Az (Below w.heap.size w wc))
  case first =>
    have H:=HC3.out
    clear HC3
    by_cases c13:a0_0=0
    · rw [if_pos c13] at H
      have c13b0:(a0_0 == 0)=true:=beq_iff_eq.mpr c13
      have c13b1:(a0_0 != 0)=false:=bne_eq_false_iff_eq.mpr c13
      clear c13
      (first | rw [c13b0] | (simp only [i64_w,i32_w]; rw [c13b0]) | skip)
      by_cases c14:0≤a0_1
      · rw [if_pos c14] at H
        have c14b0:decide (0≤a0_1)=true:=decide_eq_true c14
        clear c14
        by_cases c15:a0_1 < (l1.length:Int)
        · rw [if_pos c15] at H
          have c15b0:decide (a0_1 < (l1.length:Int))=true:=decide_eq_true c15
          clear c15
          replace H:=Option.bind_eq_some_iff.mp H
          obtain ⟨⟨t383,t384,t385⟩,A160,H⟩:=H
          replace H:(virgationref02_Replace.j0 k l1 a0_0 a0_1 l0_2 t383 t384 t385)=some (r1,r2,r3):=H
          have A16:=Az.mk A160
          clear A160
          have H':=Az.mk H
          clear H
          have hnb17:=NB379_380.out
          have hnc17:=NB380_379.out
          have hnb18:=NB379_381.out
          have hnc18:=NB381_379.out
          have hcz19_0:w8.cell? ⟨gb379,0,none⟩=some (.int .i64 a0_0):=(blk_cell BK379.out 0).trans rfl
          have hcz19_1:w8.cell? ⟨gb379,1,none⟩=some (.int .i64 a0_1):=(blk_cell BK379.out 1).trans rfl
          have hcz19_2:w8.cell? ⟨gb379,2,none⟩=some (.slice A0_2 l0_2.length c0_2):=(blk_cell BK379.out 2).trans rfl
          have hfz19_0:=bkF BK379.out 0
          have hfz19_1:=bkF BK379.out 1
          have hfz19_2:=bkF BK379.out 2
          have p382:0≤(a0_1:Int):=of_decide_eq_true (by first | (with_reducible assumption) | assumption)
          have q382:a0_1 < (l1.length:Int):=of_decide_eq_true (by first | (with_reducible assumption) | assumption)
          obtain ⟨ad382,A382_2,c382_2,e382,hx382_0,hx382_1,hx382_2,hl382_2,hi382_2⟩:=at_T36 HR1.out a0_1 p382 q382
          cases e382
          have hn382_0:ad382.block≠gb381:=Nat.ne_of_lt (Nat.lt_of_lt_of_le (by have:=World.block_lt_of_cell? _ _ hx382_0; first | rwa [add_block] at this | exact this) GW381.out)
          have hn382_1:ad382.block≠gb381:=Nat.ne_of_lt (Nat.lt_of_lt_of_le (by have:=World.block_lt_of_cell? _ _ hx382_0; first | rwa [add_block] at this | exact this) GW381.out)
          have hn382_2:ad382.block≠gb381:=Nat.ne_of_lt (Nat.lt_of_lt_of_le (by have:=World.block_lt_of_cell? _ _ hx382_0; first | rwa [add_block] at this | exact this) GW381.out)
          replace hx382_0:=(HB.out.cell (World.block_lt_of_cell? w _ hx382_0)).trans hx382_0
          replace hx382_1:=(HB.out.cell (World.block_lt_of_cell? w _ hx382_1)).trans hx382_1
          replace hx382_2:=(HB.out.cell (World.block_lt_of_cell? w _ hx382_2)).trans hx382_2
          have HR382_2:=Az.mk hi382_2
          have HC382_2:=Az.mk hl382_2
          clear hi382_2 hl382_2
          replace hx382_0:=(cell_far (p:=⟨gb381,0,none⟩) (by first | (rw [add_block]; exact hn382_0) | (show (Addr.add _ _).block≠_; rw [add_block]; exact hn382_0) | exact hn382_0) (.int .i64 a0_0)).trans hx382_0
          replace hx382_1:=(cell_far (p:=⟨gb381,0,none⟩) (by first | (rw [add_block]; exact hn382_0) | (show (Addr.add _ _).block≠_; rw [add_block]; exact hn382_0) | exact hn382_0) (.int .i64 a0_0)).trans hx382_1
          replace hx382_2:=(cell_far (p:=⟨gb381,0,none⟩) (by first | (rw [add_block]; exact hn382_0) | (show (Addr.add _ _).block≠_; rw [add_block]; exact hn382_0) | exact hn382_0) (.int .i64 a0_0)).trans hx382_2
          replace hx382_0:=(cell_far (p:=⟨gb381,1,none⟩) (by first | (rw [add_block]; exact hn382_1) | (show (Addr.add _ _).block≠_; rw [add_block]; exact hn382_1) | exact hn382_1) (.int .i64 a0_1)).trans hx382_0
          replace hx382_1:=(cell_far (p:=⟨gb381,1,none⟩) (by first | (rw [add_block]; exact hn382_1) | (show (Addr.add _ _).block≠_; rw [add_block]; exact hn382_1) | exact hn382_1) (.int .i64 a0_1)).trans hx382_1
          replace hx382_2:=(cell_far (p:=⟨gb381,1,none⟩) (by first | (rw [add_block]; exact hn382_1) | (show (Addr.add _ _).block≠_; rw [add_block]; exact hn382_1) | exact hn382_1) (.int .i64 a0_1)).trans hx382_2
          replace hx382_0:=(cell_far (p:=⟨gb381,2,none⟩) (by first | (rw [add_block]; exact hn382_2) | (show (Addr.add _ _).block≠_; rw [add_block]; exact hn382_2) | exact hn382_2) (.slice none 0 0)).trans hx382_0
          replace hx382_1:=(cell_far (p:=⟨gb381,2,none⟩) (by first | (rw [add_block]; exact hn382_2) | (show (Addr.add _ _).block≠_; rw [add_block]; exact hn382_2) | exact hn382_2) (.slice none 0 0)).trans hx382_1
          replace hx382_2:=(cell_far (p:=⟨gb381,2,none⟩) (by first | (rw [add_block]; exact hn382_2) | (show (Addr.add _ _).block≠_; rw [add_block]; exact hn382_2) | exact hn382_2) (.slice none 0 0)).trans hx382_2
          clear hn382_0
          clear hn382_1
          clear hn382_2
          replace p382:=eq_true p382
          replace q382:=eq_true q382
          go_wp2_with (first | ((with_reducible refine gate_callee (f:=30) rfl ?_); refine goesL_ (some 21) rfl rfl Try.func30 (by kernel_rfl) rfl #[.agg #[.int .i64 ((rd_T36 l1 a0_1).f0),.int .i64 ((rd_T36 l1 a0_1).f1),.slice A382_2 ((rd_T36 l1 a0_1).f2).length c382_2]] rfl (by (try simp only [List.map_toArray,List.map_cons,List.map_nil]); first | done | rfl | (simp only [List.length_drop,List.length_take]; rfl)) ?_; (with_reducible refine (virgationref02_Copy.calls ((rd_T36 l1 a0_1).f0) ((rd_T36 l1 a0_1).f1) _ _ ((rd_T36 l1 a0_1).f2) t383 t384 t385 _ ?side1 ?side2 A16.out).mono ?_); (case side1=>exact Kd.C_below HR382_2.out (by repeat (first | (with_reducible first | exact HB.out | apply bal | apply pwN | apply bd1 | refine bset ?_ GE379.out | refine bset ?_ GE380.out | refine bset ?_ GE381.out) | exact HB.out))); (case side2=>exact HC382_2.out); rintro e w20 ⟨v386,rfl,ho0,hb⟩; refine ⟨_,rfl,?_⟩; have n0_:=Az.mk (Kd.R_lower (Kd.R_newB (Kd.R_newB (Kd.R_newB ho0 (g:=gb379) (o:=.cells #[.int .i64 a0_0,.int .i64 a0_1,.slice A0_2 l0_2.length c0_2] 36 (0,0)) (by (with_reducible repeat (first | refine bdN ?_ _ | refine blk_drew ?_ | refine bkA ?_ _)); refine blk_far ?_ NB379_381.out _; (with_reducible repeat (first | refine bdN ?_ _ | refine blk_drew ?_ | refine bkA ?_ _)); refine blk_far ?_ NB379_381.out _; (with_reducible repeat (first | refine bdN ?_ _ | refine blk_drew ?_ | refine bkA ?_ _)); refine blk_far ?_ NB379_381.out _; (with_reducible repeat (first | refine bdN ?_ _ | refine blk_drew ?_ | refine bkA ?_ _)); exact BK379.out)) (g:=gb380) (o:=.cells #[.int .i64 0,.int .i64 0,.slice none 0 0] 36 (0,0)) (by (with_reducible repeat (first | refine bdN ?_ _ | refine blk_drew ?_ | refine bkA ?_ _)); refine blk_far ?_ NB380_381.out _; (with_reducible repeat (first | refine bdN ?_ _ | refine blk_drew ?_ | refine bkA ?_ _)); refine blk_far ?_ NB380_381.out _; (with_reducible repeat (first | refine bdN ?_ _ | refine blk_drew ?_ | refine bkA ?_ _)); refine blk_far ?_ NB380_381.out _; (with_reducible repeat (first | refine bdN ?_ _ | refine blk_drew ?_ | refine bkA ?_ _)); exact BK380.out)) (g:=gb381) (o:=.cells #[.int .i64 a0_0,.int .i64 a0_1,.slice none 0 0] 36 (0,0)) (by (with_reducible repeat (first | refine bdN ?_ _ | refine blk_drew ?_ | refine bkA ?_ _)); refine blk_put (cs:=#[.int .i64 a0_0,.int .i64 a0_1,.slice none 0 0]) ?_ 2 _ rfl; (with_reducible repeat (first | refine bdN ?_ _ | refine blk_drew ?_ | refine bkA ?_ _)); refine blk_put (cs:=#[.int .i64 a0_0,.int .i64 0,.slice none 0 0]) ?_ 1 _ rfl; (with_reducible repeat (first | refine bdN ?_ _ | refine blk_drew ?_ | refine bkA ?_ _)); refine blk_put (cs:=#[.int .i64 0,.int .i64 0,.slice none 0 0]) ?_ 0 _ rfl; (with_reducible repeat (first | refine bdN ?_ _ | refine blk_drew ?_ | refine bkA ?_ _)); exact BK381.out)) (below_size (by repeat (first | (with_reducible first | exact HB.out | apply bal | apply pwN | apply bd1 | refine bset ?_ GE379.out | refine bset ?_ GE380.out | refine bset ?_ GE381.out) | exact HB.out)))); have n1_:=Az.mk (bkB (g:=gb379) (o:=.cells #[.int .i64 a0_0,.int .i64 a0_1,.slice A0_2 l0_2.length c0_2] 36 (0,0)) (by (with_reducible repeat (first | refine bdN ?_ _ | refine blk_drew ?_ | refine bkA ?_ _)); refine blk_far ?_ NB379_381.out _; (with_reducible repeat (first | refine bdN ?_ _ | refine blk_drew ?_ | refine bkA ?_ _)); refine blk_far ?_ NB379_381.out _; (with_reducible repeat (first | refine bdN ?_ _ | refine blk_drew ?_ | refine bkA ?_ _)); refine blk_far ?_ NB379_381.out _; (with_reducible repeat (first | refine bdN ?_ _ | refine blk_drew ?_ | refine bkA ?_ _)); exact BK379.out) hb); have n2_:=Az.mk (bkB (g:=gb380) (o:=.cells #[.int .i64 0,.int .i64 0,.slice none 0 0] 36 (0,0)) (by (with_reducible repeat (first | refine bdN ?_ _ | refine blk_drew ?_ | refine bkA ?_ _)); refine blk_far ?_ NB380_381.out _; (with_reducible repeat (first | refine bdN ?_ _ | refine blk_drew ?_ | refine bkA ?_ _)); refine blk_far ?_ NB380_381.out _; (with_reducible repeat (first | refine bdN ?_ _ | refine blk_drew ?_ | refine bkA ?_ _)); refine blk_far ?_ NB380_381.out _; (with_reducible repeat (first | refine bdN ?_ _ | refine blk_drew ?_ | refine bkA ?_ _)); exact BK380.out) hb); have n3_:=Az.mk (bkB (g:=gb381) (o:=.cells #[.int .i64 a0_0,.int .i64 a0_1,.slice none 0 0] 36 (0,0)) (by (with_reducible repeat (first | refine bdN ?_ _ | refine blk_drew ?_ | refine bkA ?_ _)); refine blk_put (cs:=#[.int .i64 a0_0,.int .i64 a0_1,.slice none 0 0]) ?_ 2 _ rfl; (with_reducible repeat (first | refine bdN ?_ _ | refine blk_drew ?_ | refine bkA ?_ _)); refine blk_put (cs:=#[.int .i64 a0_0,.int .i64 0,.slice none 0 0]) ?_ 1 _ rfl; (with_reducible repeat (first | refine bdN ?_ _ | refine blk_drew ?_ | refine bkA ?_ _)); refine blk_put (cs:=#[.int .i64 0,.int .i64 0,.slice none 0 0]) ?_ 0 _ rfl; (with_reducible repeat (first | refine bdN ?_ _ | refine blk_drew ?_ | refine bkA ?_ _)); exact BK381.out) hb); have n4_:=Az.mk (bst (by repeat (first | (with_reducible first | exact HB.out | apply bal | apply pwN | apply bd1 | refine bset ?_ GE379.out | refine bset ?_ GE380.out | refine bset ?_ GE381.out) | exact HB.out)) hb); clear BK379; clear BK380; clear BK381; clear HB; have HO387:=n0_; have BK379:=n1_; have BK380:=n2_; have BK381:=n3_; have HB:=n4_; clear n0_ n1_ n2_ n3_ n4_; (try clear hb); (try clear hb2); (try clear hk); (try clear hi); (try clear ho0); have hnb21:=NB381_380.out; have hnc21:=NB380_381.out; have hcz22_0:w20.cell? ⟨gb381,0,none⟩=some (.int .i64 a0_0):=(blk_cell BK381.out 0).trans rfl; have hcz22_1:w20.cell? ⟨gb381,1,none⟩=some (.int .i64 a0_1):=(blk_cell BK381.out 1).trans rfl; have hcz22_2:w20.cell? ⟨gb381,2,none⟩=some (.slice none 0 0):=(blk_cell BK381.out 2).trans rfl; have hfz22_0:=bkF BK381.out 0; have hfz22_1:=bkF BK381.out 1; have hfz22_2:=bkF BK381.out 2; obtain ⟨Ao23,co23,eo23⟩:=Kd.R_slice HO387.out; subst eo23))
          go_meet
          case rel=>exact ⟨_,(t383),(t384),(t385),(.slice Ao23 t385.length co23),H',⟨by first | omega | exact Nat.le_refl _⟩,⟨by (with_reducible repeat (first | apply Kd.R_alloc | apply Kd.R_drewN | apply Kd.R_drew)); exact Kd.R_mono (Kd.R_far (p:=⟨gb381,2,none⟩) (Kd.R_far (p:=⟨gb381,1,none⟩) (Kd.R_far (p:=⟨gb381,0,none⟩) (Kd.R_mono HO387.out (fun k_ hk=>(⟨hk,hk.2⟩:_∧k_≠gb381))) (fun _ hk=>hk.2) (.int .i64 t383)) (fun _ hk=>hk.2) (.int .i64 t384)) (fun _ hk=>hk.2) (.slice Ao23 t385.length co23)) (fun _ hk=>⟨hk.1.1.1.2,⟨hk.1.1.2,hk.1.2⟩⟩)⟩,⟨by (with_reducible repeat (first | refine bdN ?_ _ | refine blk_drew ?_ | refine bkA ?_ _)); refine blk_far ?_ NB379_381.out _; (with_reducible repeat (first | refine bdN ?_ _ | refine blk_drew ?_ | refine bkA ?_ _)); refine blk_far ?_ NB379_381.out _; (with_reducible repeat (first | refine bdN ?_ _ | refine blk_drew ?_ | refine bkA ?_ _)); refine blk_far ?_ NB379_381.out _; (with_reducible repeat (first | refine bdN ?_ _ | refine blk_drew ?_ | refine bkA ?_ _)); exact BK379.out⟩,⟨by (with_reducible repeat (first | refine bdN ?_ _ | refine blk_drew ?_ | refine bkA ?_ _)); refine blk_far ?_ NB380_381.out _; (with_reducible repeat (first | refine bdN ?_ _ | refine blk_drew ?_ | refine bkA ?_ _)); refine blk_far ?_ NB380_381.out _; (with_reducible repeat (first | refine bdN ?_ _ | refine blk_drew ?_ | refine bkA ?_ _)); refine blk_far ?_ NB380_381.out _; (with_reducible repeat (first | refine bdN ?_ _ | refine blk_drew ?_ | refine bkA ?_ _)); exact BK380.out⟩,⟨by (with_reducible repeat (first | refine bdN ?_ _ | refine blk_drew ?_ | refine bkA ?_ _)); refine blk_put (cs:=#[.int .i64 t383,.int .i64 t384,.slice none 0 0]) ?_ 2 _ rfl; (with_reducible repeat (first | refine bdN ?_ _ | refine blk_drew ?_ | refine bkA ?_ _)); refine blk_put (cs:=#[.int .i64 t383,.int .i64 a0_1,.slice none 0 0]) ?_ 1 _ rfl; (with_reducible repeat (first | refine bdN ?_ _ | refine blk_drew ?_ | refine bkA ?_ _)); refine blk_put (cs:=#[.int .i64 a0_0,.int .i64 a0_1,.slice none 0 0]) ?_ 0 _ rfl; (with_reducible repeat (first | refine bdN ?_ _ | refine blk_drew ?_ | refine bkA ?_ _)); exact BK381.out⟩,⟨by repeat (first | (with_reducible first | exact HB.out | apply bal | apply pwN | apply bd1 | refine bset ?_ GE379.out | refine bset ?_ GE380.out | refine bset ?_ GE381.out) | exact HB.out)⟩⟩
        · rw [if_neg c15] at H
          exact absurd H (by simp)
      · rw [if_neg c14] at H
        exact absurd H (by simp)
    · rw [if_neg c13] at H
      have c13b0:(a0_0 == 0)=false:=beq_eq_false_iff_ne.mpr c13
      have c13b1:(a0_0 != 0)=true:=bne_iff_ne.mpr c13
      (first | rw [c13b0] | (simp only [i64_w,i32_w]; rw [c13b0]) | skip)
      have H':=Az.mk H
      clear H
      go_wp2
      go_meet
      case rel=>exact ⟨_,(a0_0),(a0_1),(([]:List (S36))),(.slice none 0 0),H',⟨by first | omega | exact Nat.le_refl _⟩,⟨by first | exact Kd.R_nil _ _ _ _ _ | exact Kd.N_nil _ _ _ _ _ | exact Kd.V_nil _ _ _ _ _ | exact Kd.Q_nil _ _ _ _ _ | exact Kd.S_nil _ _ _ _ _⟩,⟨by (with_reducible repeat (first | refine bdN ?_ _ | refine blk_drew ?_ | refine bkA ?_ _)); refine blk_far ?_ NB379_381.out _; (with_reducible repeat (first | refine bdN ?_ _ | refine blk_drew ?_ | refine bkA ?_ _)); refine blk_far ?_ NB379_381.out _; (with_reducible repeat (first | refine bdN ?_ _ | refine blk_drew ?_ | refine bkA ?_ _)); refine blk_far ?_ NB379_381.out _; (with_reducible repeat (first | refine bdN ?_ _ | refine blk_drew ?_ | refine bkA ?_ _)); exact BK379.out⟩,⟨by (with_reducible repeat (first | refine bdN ?_ _ | refine blk_drew ?_ | refine bkA ?_ _)); refine blk_far ?_ NB380_381.out _; (with_reducible repeat (first | refine bdN ?_ _ | refine blk_drew ?_ | refine bkA ?_ _)); refine blk_far ?_ NB380_381.out _; (with_reducible repeat (first | refine bdN ?_ _ | refine blk_drew ?_ | refine bkA ?_ _)); refine blk_far ?_ NB380_381.out _; (with_reducible repeat (first | refine bdN ?_ _ | refine blk_drew ?_ | refine bkA ?_ _)); exact BK380.out⟩,⟨by (with_reducible repeat (first | refine bdN ?_ _ | refine blk_drew ?_ | refine bkA ?_ _)); refine blk_put (cs:=#[.int .i64 a0_0,.int .i64 a0_1,.slice none 0 0]) ?_ 2 _ rfl; (with_reducible repeat (first | refine bdN ?_ _ | refine blk_drew ?_ | refine bkA ?_ _)); refine blk_put (cs:=#[.int .i64 a0_0,.int .i64 0,.slice none 0 0]) ?_ 1 _ rfl; (with_reducible repeat (first | refine bdN ?_ _ | refine blk_drew ?_ | refine bkA ?_ _)); refine blk_put (cs:=#[.int .i64 0,.int .i64 0,.slice none 0 0]) ?_ 0 _ rfl; (with_reducible repeat (first | refine bdN ?_ _ | refine blk_drew ?_ | refine bkA ?_ _)); exact BK381.out⟩,⟨by repeat (first | (with_reducible first | exact HB.out | apply bal | apply pwN | apply bd1 | refine bset ?_ GE379.out | refine bset ?_ GE380.out | refine bset ?_ GE381.out) | exact HB.out)⟩⟩
  case rest =>
    clear HC3
    try clear c1
    try clear c2
    try clear p2
    try clear c3
    try clear p3
    try clear q3
    try clear hx3
    try clear c6
    try clear c7
    try clear c9
    try clear c10
    try clear c13
    try clear c13b0
    try clear c13b1
    try clear c14
    try clear c14b0
    try clear c15
    try clear c15b0
    try clear c17
    try clear c18
    try clear c21
    try clear hcz11_0
    try clear hcz11_1
    try clear hcz11_2
    try clear hcz12_0
    try clear hcz12_1
    try clear hcz12_2
    try clear hcz19_0
    try clear hcz19_1
    try clear hcz19_2
    try clear hcz22_0
    try clear hcz22_1
    try clear hcz22_2
    try clear hcz7_0
    try clear hcz7_1
    try clear hcz7_2
    try clear hfz11_0
    try clear hfz11_1
    try clear hfz11_2
    try clear hfz12_0
    try clear hfz12_1
    try clear hfz12_2
    try clear hfz19_0
    try clear hfz19_1
    try clear hfz19_2
    try clear hfz22_0
    try clear hfz22_1
    try clear hfz22_2
    try clear hfz7_0
    try clear hfz7_1
    try clear hfz7_2
    try clear hx382_0
    try clear hx382_1
    try clear hx382_2
    try clear p382
    try clear q382
    obtain ⟨kq,x382000_2,x382001_2,x382002_2,u382002,HA,HJ2,HO_382002,BK379,BK380,BK381,HB⟩:=hcut
    cases kq with
    | zero=>exact absurd HA.out (by simp [virgationref02_Replace.j0])
    | succ kj2 =>
      have H:=HA.out
      clear HA
      simp only [virgationref02_Replace.j0] at H
      have H':=Az.mk H
      clear H
      have hnb24:=NB379_380.out
      have hnc24:=NB380_379.out
      have hnb25:=NB379_381.out
      have hnc25:=NB381_379.out
      have hcz26_0:wc.cell? ⟨gb379,0,none⟩=some (.int .i64 a0_0):=(blk_cell BK379.out 0).trans rfl
      have hcz26_1:wc.cell? ⟨gb379,1,none⟩=some (.int .i64 a0_1):=(blk_cell BK379.out 1).trans rfl
      have hcz26_2:wc.cell? ⟨gb379,2,none⟩=some (.slice A0_2 l0_2.length c0_2):=(blk_cell BK379.out 2).trans rfl
      have hfz26_0:=bkF BK379.out 0
      have hfz26_1:=bkF BK379.out 1
      have hfz26_2:=bkF BK379.out 2
      go_wp2
      go_loopg [25] kj2 (fun kq v25 w'=>∃ (x25_2:Int) (x382002_2:List (S36)) (u382002:Value),v25=.int .i64 x25_2∧Az (virgationref02_Replace.l0 kq l1 l0_2 (l0_2.length:Int) x25_2 x382000_2 x382001_2 x382002_2=some (r1,r2,r3))∧Az (kq≤kj2)∧Az (Kd.R k36 36 w' w.heap.size (fun k_=>k_≠gb379∧k_≠gb380∧k_≠gb381) u382002 x382002_2)∧Az (w'.heap[gb379]?=some (.cells #[.int .i64 a0_0,.int .i64 a0_1,(.slice A0_2 l0_2.length c0_2)] 36 (0,0)))∧Az (w'.heap[gb380]?=some (.cells #[.int .i64 0,.int .i64 0,(.slice none 0 0)] 36 (0,0)))∧Az (w'.heap[gb381]?=some (.cells #[.int .i64 x382000_2,.int .i64 x382001_2,u382002] 36 (0,0)))∧Az (Below w.heap.size w w'))
      case atStart=>exact ⟨(0),(x382002_2),(u382002),(by first | rfl | (simp; done) | (simp [*]; done)),H',⟨Nat.le_refl _⟩,⟨by (with_reducible repeat (first | apply Kd.R_alloc | apply Kd.R_drewN | apply Kd.R_drew)); exact HO_382002.out⟩,⟨by (with_reducible repeat (first | refine bdN ?_ _ | refine blk_drew ?_ | refine bkA ?_ _)); exact BK379.out⟩,⟨by (with_reducible repeat (first | refine bdN ?_ _ | refine blk_drew ?_ | refine bkA ?_ _)); exact BK380.out⟩,⟨by (with_reducible repeat (first | refine bdN ?_ _ | refine blk_drew ?_ | refine bkA ?_ _)); exact BK381.out⟩,⟨by repeat (first | (with_reducible first | exact HB.out | apply bal | apply pwN | apply bd1 | refine bset ?_ GE379.out | refine bset ?_ GE380.out | refine bset ?_ GE381.out) | exact HB.out)⟩⟩
      case round =>
        clear H'
        try clear c1
        try clear c2
        try clear p2
        try clear c3
        try clear p3
        try clear q3
        try clear hx3
        try clear c6
        try clear c7
        try clear c9
        try clear c10
        try clear c13
        try clear c13b0
        try clear c13b1
        try clear c14
        try clear c14b0
        try clear c15
        try clear c15b0
        try clear c17
        try clear c18
        try clear c21
        try clear c24
        try clear c25
        try clear hcz11_0
        try clear hcz11_1
        try clear hcz11_2
        try clear hcz12_0
        try clear hcz12_1
        try clear hcz12_2
        try clear hcz19_0
        try clear hcz19_1
        try clear hcz19_2
        try clear hcz22_0
        try clear hcz22_1
        try clear hcz22_2
        try clear hcz26_0
        try clear hcz26_1
        try clear hcz26_2
        try clear hcz7_0
        try clear hcz7_1
        try clear hcz7_2
        try clear hfz11_0
        try clear hfz11_1
        try clear hfz11_2
        try clear hfz12_0
        try clear hfz12_1
        try clear hfz12_2
        try clear hfz19_0
        try clear hfz19_1
        try clear hfz19_2
        try clear hfz22_0
        try clear hfz22_1
        try clear hfz22_2
        try clear hfz26_0
        try clear hfz26_1
        try clear hfz26_2
        try clear hfz7_0
        try clear hfz7_1
        try clear hfz7_2
        try clear hx382_0
        try clear hx382_1
        try clear hx382_2
        try clear p2
        try clear p3
        try clear p382
        try clear q3
        try clear q382
        obtain ⟨x25_2,x382002_2,u382002,rfl,HA,HK2,HO_382002,BK379,BK380,BK381,HB⟩:=hrel
        cases gk with
        | zero=>exact absurd HA.out (by simp [virgationref02_Replace.l0])
        | succ k2 =>
          have H:=HA.out
          clear HA
          simp only [virgationref02_Replace.l0] at H
          by_cases c27:x25_2 < (l0_2.length:Int)
          · rw [if_pos c27] at H
            have c27b0:decide (x25_2 < (l0_2.length:Int))=true:=decide_eq_true c27
            clear c27
            by_cases c28:0≤x25_2
            · rw [if_pos c28] at H
              have c28b0:decide (0≤x25_2)=true:=decide_eq_true c28
              clear c28
              by_cases c29:x25_2 < (l0_2.length:Int)
              · rw [if_pos c29] at H
                have c29b0:decide (x25_2 < (l0_2.length:Int))=true:=decide_eq_true c29
                clear c29
                replace H:=Option.bind_eq_some_iff.mp H
                obtain ⟨⟨t390,t391,t392⟩,A300,H⟩:=H
                replace H:(if x382002_2.length < 3518437208883 then (virgationref02_Replace.l0 k2 l1 l0_2 (l0_2.length:Int) (wrap64 (x25_2+1)) x382000_2 x382001_2 (x382002_2 ++ [(⟨t390,t391,t392⟩:S36)])) else (none))=some (r1,r2,r3):=H
                have A30:=Az.mk A300
                clear A300
                by_cases c31:x382002_2.length < 3518437208883
                · rw [if_pos c31] at H
                  have LMc31:=Az.mk c31
                  clear c31
                  obtain ⟨y395,hy395⟩:∃ y_:List (S36),y_=(x382002_2 ++ [(⟨t390,t391,t392⟩:S36)]):=⟨_,rfl⟩
                  replace H:(virgationref02_Replace.l0 k2 l1 l0_2 (l0_2.length:Int) (wrap64 (x25_2+1)) x382000_2 x382001_2 y395)=some (r1,r2,r3):=by first | (rw [hy395]; with_reducible exact H) | (have H2_:=(Option.bind_some _ _).symm.trans H; rw [hy395]; with_reducible exact H2_) | (have H2_:=(Option.bind_some _ _).symm.trans H; with_reducible exact H2_) | with_reducible exact H | (rw [hy395]; exact H) | exact H
                  have Ny395:=Az.mk hy395
                  clear hy395
                  have H':=Az.mk H
                  clear H
                  have p388:0≤(x25_2:Int):=of_decide_eq_true (by first | (with_reducible assumption) | assumption)
                  have q388:x25_2 < (l0_2.length:Int):=of_decide_eq_true (by first | (with_reducible assumption) | assumption)
                  obtain ⟨ad388,A388_2,c388_2,e388,hx388_0,hx388_1,hx388_2,hl388_2,hi388_2⟩:=at_T36 HR0_2.out x25_2 p388 q388
                  cases e388
                  replace hx388_0:=(HB.out.cell (World.block_lt_of_cell? w _ hx388_0)).trans hx388_0
                  replace hx388_1:=(HB.out.cell (World.block_lt_of_cell? w _ hx388_1)).trans hx388_1
                  replace hx388_2:=(HB.out.cell (World.block_lt_of_cell? w _ hx388_2)).trans hx388_2
                  have HR388_2:=Az.mk hi388_2
                  have HC388_2:=Az.mk hl388_2
                  clear hi388_2 hl388_2
                  replace p388:=eq_true p388
                  replace q388:=eq_true q388
                  try go_wp2_with (first | ((with_reducible refine gate_dst (N:=7) rfl ?_); refine box_event ?hg (N:=7) ?hd (cs:=#[.int .i64 0,.int .i64 0,.slice none 0 0]) (t:=36) ?hr ?_; (case hd=>rfl); (case hg=>rfl); (case hr=>first | (go_simp; done) | (go_simp; rfl)); intro gb389 hg w32 hbox hb; have n0_:=Az.mk (Kd.R_below (Kd.R_elderB (by (with_reducible repeat (first | apply Kd.R_alloc | apply Kd.R_drewN | apply Kd.R_drew)); exact HO_382002.out) gb389 (Nat.le_of_eq hg.symm)) hb); have n1_:=Az.mk (bkB (g:=gb379) (o:=.cells #[.int .i64 a0_0,.int .i64 a0_1,.slice (some ad388) l0_2.length c0_2] 36 (0,0)) (by (with_reducible repeat (first | refine bdN ?_ _ | refine blk_drew ?_ | refine bkA ?_ _)); exact BK379.out) hb); have n2_:=Az.mk (bkB (g:=gb380) (o:=.cells #[.int .i64 0,.int .i64 0,.slice none 0 0] 36 (0,0)) (by (with_reducible repeat (first | refine bdN ?_ _ | refine blk_drew ?_ | refine bkA ?_ _)); exact BK380.out) hb); have n3_:=Az.mk (bkB (g:=gb381) (o:=.cells #[.int .i64 x382000_2,.int .i64 x382001_2,u382002] 36 (0,0)) (by (with_reducible repeat (first | refine bdN ?_ _ | refine blk_drew ?_ | refine bkA ?_ _)); exact BK381.out) hb); have n4_:=Az.mk (bst (by repeat (first | (with_reducible first | exact HB.out | apply bal | apply pwN | apply bd1 | refine bset ?_ GE379.out | refine bset ?_ GE380.out | refine bset ?_ GE381.out) | exact HB.out)) hb); have n5_:=Az.mk (hbox); have n6_:=Az.mk ((by rw [hg]; exact (below_size (by repeat (first | (with_reducible first | exact HB.out | apply bal | apply pwN | apply bd1 | refine bset ?_ GE379.out | refine bset ?_ GE380.out | refine bset ?_ GE381.out) | exact HB.out))):w.heap.size≤gb389)); have n7_:=Az.mk ((by rw [hg]; exact (below_size (by repeat (first | (with_reducible first | exact HB.out | apply bal | apply pwN | apply bd1 | refine bset ?_ GE379.out | refine bset ?_ GE380.out | refine bset ?_ GE381.out) | exact HB.out))):w.heap.size≤gb389)); have n8_:=Az.mk ((by rw [hg]; exact Nat.ne_of_lt (blk_lt (g:=gb379) (o:=.cells #[.int .i64 a0_0,.int .i64 a0_1,.slice (some ad388) l0_2.length c0_2] 36 (0,0)) (by (with_reducible repeat (first | refine bdN ?_ _ | refine blk_drew ?_ | refine bkA ?_ _)); exact BK379.out)):gb379≠gb389)); have n9_:=Az.mk ((by rw [hg]; exact Nat.ne_of_gt (blk_lt (g:=gb379) (o:=.cells #[.int .i64 a0_0,.int .i64 a0_1,.slice (some ad388) l0_2.length c0_2] 36 (0,0)) (by (with_reducible repeat (first | refine bdN ?_ _ | refine blk_drew ?_ | refine bkA ?_ _)); exact BK379.out)):gb389≠gb379)); have n10_:=Az.mk ((by rw [hg]; exact Nat.ne_of_lt (blk_lt (g:=gb380) (o:=.cells #[.int .i64 0,.int .i64 0,.slice none 0 0] 36 (0,0)) (by (with_reducible repeat (first | refine bdN ?_ _ | refine blk_drew ?_ | refine bkA ?_ _)); exact BK380.out)):gb380≠gb389)); have n11_:=Az.mk ((by rw [hg]; exact Nat.ne_of_gt (blk_lt (g:=gb380) (o:=.cells #[.int .i64 0,.int .i64 0,.slice none 0 0] 36 (0,0)) (by (with_reducible repeat (first | refine bdN ?_ _ | refine blk_drew ?_ | refine bkA ?_ _)); exact BK380.out)):gb389≠gb380)); have n12_:=Az.mk ((by rw [hg]; exact Nat.ne_of_lt (blk_lt (g:=gb381) (o:=.cells #[.int .i64 x382000_2,.int .i64 x382001_2,u382002] 36 (0,0)) (by (with_reducible repeat (first | refine bdN ?_ _ | refine blk_drew ?_ | refine bkA ?_ _)); exact BK381.out)):gb381≠gb389)); have n13_:=Az.mk ((by rw [hg]; exact Nat.ne_of_gt (blk_lt (g:=gb381) (o:=.cells #[.int .i64 x382000_2,.int .i64 x382001_2,u382002] 36 (0,0)) (by (with_reducible repeat (first | refine bdN ?_ _ | refine blk_drew ?_ | refine bkA ?_ _)); exact BK381.out)):gb389≠gb381)); clear HO_382002; clear BK379; clear BK380; clear BK381; clear HB; have HO_382002:=n0_; have BK379:=n1_; have BK380:=n2_; have BK381:=n3_; have HB:=n4_; have BK389:=n5_; have GW389:=n6_; have GE389:=n7_; have NB379_389:=n8_; have NB389_379:=n9_; have NB380_389:=n10_; have NB389_380:=n11_; have NB381_389:=n12_; have NB389_381:=n13_; clear n0_ n1_ n2_ n3_ n4_ n5_ n6_ n7_ n8_ n9_ n10_ n11_ n12_ n13_; clear hb hbox hg; have hnb33:=NB389_379.out; have hnc33:=NB379_389.out; have hnb34:=NB389_380.out; have hnc34:=NB380_389.out; have hnb35:=NB389_381.out; have hnc35:=NB381_389.out; have hcz36_0:w32.cell? ⟨gb389,0,none⟩=some (.int .i64 0):=(blk_cell BK389.out 0).trans rfl; have hcz36_1:w32.cell? ⟨gb389,1,none⟩=some (.int .i64 0):=(blk_cell BK389.out 1).trans rfl; have hcz36_2:w32.cell? ⟨gb389,2,none⟩=some (.slice none 0 0):=(blk_cell BK389.out 2).trans rfl; have hfz36_0:=bkF BK389.out 0; have hfz36_1:=bkF BK389.out 1; have hfz36_2:=bkF BK389.out 2))
                  have n0_:Az (Kd.R k36 36 (((w32.setCell ⟨gb389,0,none⟩ (.int .i64 ((rd_T36 l0_2 x25_2).f0))).setCell ⟨gb389,1,none⟩ (.int .i64 ((rd_T36 l0_2 x25_2).f1))).setCell ⟨gb389,2,none⟩ (.slice A388_2 ((rd_T36 l0_2 x25_2).f2).length c388_2)) w.heap.size (fun k_=>k_≠gb379∧k_≠gb380∧k_≠gb381∧k_≠gb389) u382002 x382002_2):=⟨by (with_reducible repeat (first | apply Kd.R_alloc | apply Kd.R_drewN | apply Kd.R_drew)); exact Kd.R_mono (Kd.R_far (p:=⟨gb389,2,none⟩) (Kd.R_far (p:=⟨gb389,1,none⟩) (Kd.R_far (p:=⟨gb389,0,none⟩) (Kd.R_mono HO_382002.out (fun k_ hk=>(⟨hk,hk.2⟩:_∧k_≠gb389))) (fun _ hk=>hk.2) (.int .i64 ((rd_T36 l0_2 x25_2).f0))) (fun _ hk=>hk.2) (.int .i64 ((rd_T36 l0_2 x25_2).f1))) (fun _ hk=>hk.2) (.slice A388_2 ((rd_T36 l0_2 x25_2).f2).length c388_2)) (fun _ hk=>⟨hk.1.1.1,⟨hk.1.1.2.1,⟨hk.1.1.2.2,hk.1.2⟩⟩⟩)⟩
                  have n1_:Az ((((w32.setCell ⟨gb389,0,none⟩ (.int .i64 ((rd_T36 l0_2 x25_2).f0))).setCell ⟨gb389,1,none⟩ (.int .i64 ((rd_T36 l0_2 x25_2).f1))).setCell ⟨gb389,2,none⟩ (.slice A388_2 ((rd_T36 l0_2 x25_2).f2).length c388_2)).heap[gb379]?=some (.cells #[.int .i64 a0_0,.int .i64 a0_1,.slice (some ad388) l0_2.length c0_2] 36 (0,0))):=⟨by (with_reducible repeat (first | refine bdN ?_ _ | refine blk_drew ?_ | refine bkA ?_ _)); refine blk_far ?_ NB379_389.out _; (with_reducible repeat (first | refine bdN ?_ _ | refine blk_drew ?_ | refine bkA ?_ _)); refine blk_far ?_ NB379_389.out _; (with_reducible repeat (first | refine bdN ?_ _ | refine blk_drew ?_ | refine bkA ?_ _)); refine blk_far ?_ NB379_389.out _; (with_reducible repeat (first | refine bdN ?_ _ | refine blk_drew ?_ | refine bkA ?_ _)); exact BK379.out⟩
                  have n2_:Az ((((w32.setCell ⟨gb389,0,none⟩ (.int .i64 ((rd_T36 l0_2 x25_2).f0))).setCell ⟨gb389,1,none⟩ (.int .i64 ((rd_T36 l0_2 x25_2).f1))).setCell ⟨gb389,2,none⟩ (.slice A388_2 ((rd_T36 l0_2 x25_2).f2).length c388_2)).heap[gb380]?=some (.cells #[.int .i64 0,.int .i64 0,.slice none 0 0] 36 (0,0))):=⟨by (with_reducible repeat (first | refine bdN ?_ _ | refine blk_drew ?_ | refine bkA ?_ _)); refine blk_far ?_ NB380_389.out _; (with_reducible repeat (first | refine bdN ?_ _ | refine blk_drew ?_ | refine bkA ?_ _)); refine blk_far ?_ NB380_389.out _; (with_reducible repeat (first | refine bdN ?_ _ | refine blk_drew ?_ | refine bkA ?_ _)); refine blk_far ?_ NB380_389.out _; (with_reducible repeat (first | refine bdN ?_ _ | refine blk_drew ?_ | refine bkA ?_ _)); exact BK380.out⟩
                  have n3_:Az ((((w32.setCell ⟨gb389,0,none⟩ (.int .i64 ((rd_T36 l0_2 x25_2).f0))).setCell ⟨gb389,1,none⟩ (.int .i64 ((rd_T36 l0_2 x25_2).f1))).setCell ⟨gb389,2,none⟩ (.slice A388_2 ((rd_T36 l0_2 x25_2).f2).length c388_2)).heap[gb381]?=some (.cells #[.int .i64 x382000_2,.int .i64 x382001_2,u382002] 36 (0,0))):=⟨by (with_reducible repeat (first | refine bdN ?_ _ | refine blk_drew ?_ | refine bkA ?_ _)); refine blk_far ?_ NB381_389.out _; (with_reducible repeat (first | refine bdN ?_ _ | refine blk_drew ?_ | refine bkA ?_ _)); refine blk_far ?_ NB381_389.out _; (with_reducible repeat (first | refine bdN ?_ _ | refine blk_drew ?_ | refine bkA ?_ _)); refine blk_far ?_ NB381_389.out _; (with_reducible repeat (first | refine bdN ?_ _ | refine blk_drew ?_ | refine bkA ?_ _)); exact BK381.out⟩
                  have n4_:Az ((((w32.setCell ⟨gb389,0,none⟩ (.int .i64 ((rd_T36 l0_2 x25_2).f0))).setCell ⟨gb389,1,none⟩ (.int .i64 ((rd_T36 l0_2 x25_2).f1))).setCell ⟨gb389,2,none⟩ (.slice A388_2 ((rd_T36 l0_2 x25_2).f2).length c388_2)).heap[gb389]?=some (.cells #[.int .i64 ((rd_T36 l0_2 x25_2).f0),.int .i64 ((rd_T36 l0_2 x25_2).f1),.slice A388_2 ((rd_T36 l0_2 x25_2).f2).length c388_2] 36 (0,0))):=⟨by (with_reducible repeat (first | refine bdN ?_ _ | refine blk_drew ?_ | refine bkA ?_ _)); refine blk_put (cs:=#[.int .i64 ((rd_T36 l0_2 x25_2).f0),.int .i64 ((rd_T36 l0_2 x25_2).f1),.slice none 0 0]) ?_ 2 _ rfl; (with_reducible repeat (first | refine bdN ?_ _ | refine blk_drew ?_ | refine bkA ?_ _)); refine blk_put (cs:=#[.int .i64 ((rd_T36 l0_2 x25_2).f0),.int .i64 0,.slice none 0 0]) ?_ 1 _ rfl; (with_reducible repeat (first | refine bdN ?_ _ | refine blk_drew ?_ | refine bkA ?_ _)); refine blk_put (cs:=#[.int .i64 0,.int .i64 0,.slice none 0 0]) ?_ 0 _ rfl; (with_reducible repeat (first | refine bdN ?_ _ | refine blk_drew ?_ | refine bkA ?_ _)); exact BK389.out⟩
                  have n5_:Az (Below w.heap.size w (((w32.setCell ⟨gb389,0,none⟩ (.int .i64 ((rd_T36 l0_2 x25_2).f0))).setCell ⟨gb389,1,none⟩ (.int .i64 ((rd_T36 l0_2 x25_2).f1))).setCell ⟨gb389,2,none⟩ (.slice A388_2 ((rd_T36 l0_2 x25_2).f2).length c388_2))):=⟨by repeat (first | (with_reducible first | exact HB.out | apply bal | apply pwN | apply bd1 | refine bset ?_ GE379.out | refine bset ?_ GE380.out | refine bset ?_ GE381.out | refine bset ?_ GE389.out) | exact HB.out)⟩
                  (try clear HO_382002)
                  (try clear BK379)
                  (try clear BK380)
                  (try clear BK381)
                  (try clear BK389)
                  (try clear HB)
                  generalize (((w32.setCell ⟨gb389,0,none⟩ (.int .i64 ((rd_T36 l0_2 x25_2).f0))).setCell ⟨gb389,1,none⟩ (.int .i64 ((rd_T36 l0_2 x25_2).f1))).setCell ⟨gb389,2,none⟩ (.slice A388_2 ((rd_T36 l0_2 x25_2).f2).length c388_2))=w37 at n0_ n1_ n2_ n3_ n4_ n5_ ⊢
                  have HO_382002:=n0_
                  have BK379:=n1_
                  have BK380:=n2_
                  have BK381:=n3_
                  have BK389:=n4_
                  have HB:=n5_
                  clear n0_ n1_ n2_ n3_ n4_ n5_
                  have n0_:=Az.mk (Kd.R_drew HO_382002.out)
                  have n1_:=Az.mk (blk_drew BK379.out)
                  have n2_:=Az.mk (blk_drew BK380.out)
                  have n3_:=Az.mk (blk_drew BK381.out)
                  have n4_:=Az.mk (blk_drew BK389.out)
                  have n5_:=Az.mk (bd1 HB.out)
                  clear HO_382002
                  clear BK379
                  clear BK380
                  clear BK381
                  clear BK389
                  clear HB
                  have HO_382002:=n0_
                  have BK379:=n1_
                  have BK380:=n2_
                  have BK381:=n3_
                  have BK389:=n4_
                  have HB:=n5_
                  clear n0_ n1_ n2_ n3_ n4_ n5_
                  refine start_ (n:=9) (S:=fun w'=>w'.cell? ⟨gb381,0,none⟩=some (.int .i64 x382000_2)∧w'.cell? ⟨gb381,1,none⟩=some (.int .i64 x382001_2)∧w'.cell? ⟨gb381,2,none⟩=some (u382002)∧w'.cell? ⟨gb389,0,none⟩=some (.int .i64 ((rd_T36 l0_2 x25_2).f0))∧w'.cell? ⟨gb389,1,none⟩=some (.int .i64 ((rd_T36 l0_2 x25_2).f1))∧w'.cell? ⟨gb389,2,none⟩=some (.slice A388_2 ((rd_T36 l0_2 x25_2).f2).length c388_2)) (ds:=[8]) #[false,false,false,false,false,false,false,false,false] (by kernel_rfl) rfl rfl ⟨(blk_cell BK381.out 0).trans rfl,(blk_cell BK381.out 1).trans rfl,(blk_cell BK381.out 2).trans rfl,(blk_cell BK389.out 0).trans rfl,(blk_cell BK389.out 1).trans rfl,(blk_cell BK389.out 2).trans rfl⟩ (fun hHeld=>?_); refine with_tabW virgationref02_Replace.tab7 virgationref02_Replace.bits7 (fun HT_ HW_=>?_)
                  generalize w37.drew=w38 at HO_382002 BK379 BK380 BK381 BK389 HB hHeld ⊢
                  refine pure_ (i:=0) (N:=some 29) (v:=?_) (a':=?_) #[true,false,false,false,false,false,false,false,false] rfl rfl (any_of HT_.out (by kernel_rfl)) (fun _ _ _ h=>h) (Or.inl ⟨by rfl,?_⟩) ?_ ?_
                  rotate_left
                  · intro w'
                    go_simp
                    with_reducible rfl
                  rotate_left
                  · simp only [Act.put,List.setIfInBounds_toArray,List.set_cons_zero,List.set_cons_succ,i64_w,i32_w]
                    rfl
                  refine pure_ (i:=3) (N:=some 32) (v:=?_) (a':=?_) #[true,false,false,true,false,false,false,false,false] rfl rfl (any_of HT_.out (by kernel_rfl)) (fun _ _ _ h=>h) (Or.inl ⟨by rfl,?_⟩) ?_ ?_
                  rotate_left
                  · intro w'
                    go_simp
                    with_reducible rfl
                  rotate_left
                  · simp only [Act.put,List.setIfInBounds_toArray,List.set_cons_zero,List.set_cons_succ,i64_w,i32_w]
                    rfl
                  refine take_ (i:=1) (N:=some 30) (v:=?_) (a':=?_) #[true,true,false,true,false,false,false,false,false] rfl rfl (take_ofW HT_.out HW_.out (by kernel_rfl)) (fun _ _ _ h=>h) (Or.inl ⟨by rfl,?_⟩) hHeld ?_ ?_
                  rotate_left
                  · rintro w' ⟨s0,s1,s2,s3,s4,s5⟩
                    go_simp
                    with_reducible rfl
                  rotate_left
                  · simp only [Act.put,List.setIfInBounds_toArray,List.set_cons_zero,List.set_cons_succ,i64_w,i32_w]
                    rfl
                  refine take_ (i:=2) (N:=some 31) (v:=?_) (a':=?_) #[true,true,true,true,false,false,false,false,false] rfl rfl (take_ofW HT_.out HW_.out (by kernel_rfl)) (fun _ _ _ h=>h) (Or.inl ⟨by rfl,?_⟩) hHeld ?_ ?_
                  rotate_left
                  · rintro w' ⟨s0,s1,s2,s3,s4,s5⟩
                    go_simp
                    with_reducible rfl
                  rotate_left
                  · simp only [Act.put,List.setIfInBounds_toArray,List.set_cons_zero,List.set_cons_succ,i64_w,i32_w]
                    rfl
                  refine one_ (i:=4) (N:=some 33) #[true,true,true,true,true,false,false,false,false] rfl rfl (one_of HT_.out (by kernel_rfl)) (by decide) (fun K hK=>?_)
                  refine goes_ Try.func79 (by kernel_rfl) rfl #[.agg #[.int .i64 ((rd_T36 l0_2 x25_2).f0),.int .i64 ((rd_T36 l0_2 x25_2).f1),.slice A388_2 ((rd_T36 l0_2 x25_2).f2).length c388_2],.slice A1 l1.length c1] (by rfl) rfl rfl (by (try simp only [List.map_toArray,List.map_cons,List.map_nil]); first | done | rfl | (simp only [List.length_drop,List.length_take]; rfl)) ?_
                  with_reducible refine (ih k2 (by have:=HJ2.out; have:=HK2.out; omega) ((rd_T36 l0_2 x25_2).f0) ((rd_T36 l0_2 x25_2).f1) _ _ ((rd_T36 l0_2 x25_2).f2) _ _ l1 t390 t391 t392 _ ?side1 ?side2 ?side3 ?side4 A30.out).mono ?_
                  (case side1=>repeat (first | exact (Kd.C_below HR388_2.out HB.out) | (with_reducible refine Kd.C_alloc ?_ _) | (with_reducible refine Kd.C_drewN ?_ _) | (with_reducible refine Kd.C_drew ?_)))
                  (case side2=>exact HC388_2.out)
                  (case side3=>repeat (first | exact (Kd.C_below HR1.out HB.out) | (with_reducible refine Kd.C_alloc ?_ _) | (with_reducible refine Kd.C_drewN ?_ _) | (with_reducible refine Kd.C_drew ?_)))
                  (case side4=>exact HC1.out)
                  rintro e w39 ⟨v393,rfl,ho0,hb⟩
                  refine ⟨_,rfl,?_⟩
                  have n0_:=Az.mk (Kd.R_elder' (by (with_reducible repeat (first | apply Kd.R_alloc | apply Kd.R_drewN | apply Kd.R_drew)); exact HO_382002.out) (Kd.R_base ho0) hb)
                  have n1_:=Az.mk (Kd.R_lower (Kd.R_newB (Kd.R_newB (Kd.R_newB (Kd.R_newB (Kd.R_new' ho0 (Kd.R_lt (by (with_reducible repeat (first | apply Kd.R_alloc | apply Kd.R_drewN | apply Kd.R_drew)); exact HO_382002.out))) (g:=gb379) (o:=.cells #[.int .i64 a0_0,.int .i64 a0_1,.slice (some ad388) l0_2.length c0_2] 36 (0,0)) (by (with_reducible repeat (first | refine bdN ?_ _ | refine blk_drew ?_ | refine bkA ?_ _)); exact BK379.out)) (g:=gb380) (o:=.cells #[.int .i64 0,.int .i64 0,.slice none 0 0] 36 (0,0)) (by (with_reducible repeat (first | refine bdN ?_ _ | refine blk_drew ?_ | refine bkA ?_ _)); exact BK380.out)) (g:=gb381) (o:=.cells #[.int .i64 x382000_2,.int .i64 x382001_2,u382002] 36 (0,0)) (by (with_reducible repeat (first | refine bdN ?_ _ | refine blk_drew ?_ | refine bkA ?_ _)); exact BK381.out)) (g:=gb389) (o:=.cells #[.int .i64 ((rd_T36 l0_2 x25_2).f0),.int .i64 ((rd_T36 l0_2 x25_2).f1),.slice A388_2 ((rd_T36 l0_2 x25_2).f2).length c388_2] 36 (0,0)) (by (with_reducible repeat (first | refine bdN ?_ _ | refine blk_drew ?_ | refine bkA ?_ _)); exact BK389.out)) (below_size (by repeat (first | (with_reducible first | exact HB.out | apply bal | apply pwN | apply bd1 | refine bset ?_ GE379.out | refine bset ?_ GE380.out | refine bset ?_ GE381.out | refine bset ?_ GE389.out) | exact HB.out))))
                  have n2_:=Az.mk (bkB (g:=gb379) (o:=.cells #[.int .i64 a0_0,.int .i64 a0_1,.slice (some ad388) l0_2.length c0_2] 36 (0,0)) (by (with_reducible repeat (first | refine bdN ?_ _ | refine blk_drew ?_ | refine bkA ?_ _)); exact BK379.out) hb)
                  have n3_:=Az.mk (bkB (g:=gb380) (o:=.cells #[.int .i64 0,.int .i64 0,.slice none 0 0] 36 (0,0)) (by (with_reducible repeat (first | refine bdN ?_ _ | refine blk_drew ?_ | refine bkA ?_ _)); exact BK380.out) hb)
                  have n4_:=Az.mk (bkB (g:=gb381) (o:=.cells #[.int .i64 x382000_2,.int .i64 x382001_2,u382002] 36 (0,0)) (by (with_reducible repeat (first | refine bdN ?_ _ | refine blk_drew ?_ | refine bkA ?_ _)); exact BK381.out) hb)
                  have n5_:=Az.mk (bkB (g:=gb389) (o:=.cells #[.int .i64 ((rd_T36 l0_2 x25_2).f0),.int .i64 ((rd_T36 l0_2 x25_2).f1),.slice A388_2 ((rd_T36 l0_2 x25_2).f2).length c388_2] 36 (0,0)) (by (with_reducible repeat (first | refine bdN ?_ _ | refine blk_drew ?_ | refine bkA ?_ _)); exact BK389.out) hb)
                  have n6_:=Az.mk (bst (by repeat (first | (with_reducible first | exact HB.out | apply bal | apply pwN | apply bd1 | refine bset ?_ GE379.out | refine bset ?_ GE380.out | refine bset ?_ GE381.out | refine bset ?_ GE389.out) | exact HB.out)) hb)
                  clear HO_382002
                  clear BK379
                  clear BK380
                  clear BK381
                  clear BK389
                  clear HB
                  have HO_382002:=n0_
                  have HO394:=n1_
                  have BK379:=n2_
                  have BK380:=n3_
                  have BK381:=n4_
                  have BK389:=n5_
                  have HB:=n6_
                  clear n0_ n1_ n2_ n3_ n4_ n5_ n6_
                  (try clear hb)
                  (try clear hb2)
                  (try clear hk)
                  (try clear hi)
                  (try clear ho0)
                  obtain ⟨Ao41,co41,eo41⟩:=Kd.R_slice HO394.out
                  (first | subst eo41 | (injection eo41 with f1_ f2_ f3_; have f4_:=f1_.symm; have f5_:=f3_.symm; clear f1_ f2_ f3_; subst f4_; subst f5_))
                  refine hK.out _ _ ⟨(blk_cell BK381.out 0).trans rfl,(blk_cell BK381.out 1).trans rfl,(blk_cell BK381.out 2).trans rfl,(blk_cell BK389.out 0).trans rfl,(blk_cell BK389.out 1).trans rfl,(blk_cell BK389.out 2).trans rfl⟩ (fun hHeld=>?_)
                  clear hK K
                  refine norm_ (a':=?_) ?_ ?_
                  rotate_left
                  · show Act.put _ (some 33) _=_
                    simp only [Act.put,List.setIfInBounds_toArray,List.set_cons_zero,List.set_cons_succ,i64_w,i32_w]
                    rfl
                  refine one_ (i:=5) (N:=some 34) #[true,true,true,true,true,true,false,false,false] rfl rfl (one_of HT_.out (by kernel_rfl)) (by decide) (fun K hK=>?_)
                  refine value_ (w1:=?_) (v:=?_) (by rfl) rfl ?_ ?_
                  rotate_left 2
                  · go_simp
                    constructor
                    · rfl
                    · rfl
                  refine hK.out _ _ ⟨(blk_cell (bkA BK381.out _) 0).trans rfl,(blk_cell (bkA BK381.out _) 1).trans rfl,(blk_cell (bkA BK381.out _) 2).trans rfl,(blk_cell (bkA BK389.out _) 0).trans rfl,(blk_cell (bkA BK389.out _) 1).trans rfl,(blk_cell (bkA BK389.out _) 2).trans rfl⟩ (fun hHeld=>?_)
                  clear hK K
                  refine norm_ (a':=?_) ?_ ?_
                  rotate_left
                  · show Act.put _ (some 34) _=_
                    simp only [Act.put,List.setIfInBounds_toArray,List.set_cons_zero,List.set_cons_succ,i64_w,i32_w]
                    rfl
                  refine one_ (i:=6) (N:=some 35) #[true,true,true,true,true,true,true,false,false] rfl rfl (one_of HT_.out (by kernel_rfl)) (by decide) (fun K hK=>?_)
                  refine Kd.R_append_step k36 (w0:=w) w.heap.size (by rfl) (.tmp 30) (.tmp 34) 34 36 (.agg #[(.int .i64 0),(.int .i64 0),(.slice none 0 0)]) 40 rfl Try.underlying34 info36 rfl (by decide) (by omega) u382002 x382002_2 (⟨t390,t391,t392⟩:S36) [.int .i64 t390,.int .i64 t391,.slice Ao41 t392.length co41] (fun k_=>k_≠gb379∧k_≠gb380∧k_≠gb381∧k_≠gb389) (fun k_=>((fun k_=>k_≠gb379∧k_≠gb380∧k_≠gb381∧k_≠gb389)) k_∧some k_≠(u382002:Value).ownBlock) rfl rfl ?aP (fun _ hk=>hk) ?aF ?aO ?aB ?aS ?aL ?_
                  (case aP=>exact k36_mkM _ _ _ (⟨t390,t391,t392⟩:S36) (Kd.R_mono (HO394.out) (fun k_ hk=>⟨⟨hk.1.1.1.2,⟨hk.1.1.2,⟨hk.1.2,hk.2⟩⟩⟩,hk.1.1.1.1.2⟩)))
                  (case aB=>exact (by repeat (first | (with_reducible first | exact HB.out | apply bal | apply pwN | apply bd1 | refine bset ?_ GE379.out | refine bset ?_ GE380.out | refine bset ?_ GE381.out | refine bset ?_ GE389.out) | exact HB.out)))
                  (case aF=>exact (fun k_ hk=>⟨Kd.freshB (g:=gb379) (o:=.cells #[.int .i64 a0_0,.int .i64 a0_1,.slice (some ad388) l0_2.length c0_2] 36 (0,0)) (by (with_reducible repeat (first | refine bdN ?_ _ | refine blk_drew ?_ | refine bkA ?_ _)); exact BK379.out) k_ hk,Kd.freshB (g:=gb380) (o:=.cells #[.int .i64 0,.int .i64 0,.slice none 0 0] 36 (0,0)) (by (with_reducible repeat (first | refine bdN ?_ _ | refine blk_drew ?_ | refine bkA ?_ _)); exact BK380.out) k_ hk,Kd.freshB (g:=gb381) (o:=.cells #[.int .i64 x382000_2,.int .i64 x382001_2,u382002] 36 (0,0)) (by (with_reducible repeat (first | refine bdN ?_ _ | refine blk_drew ?_ | refine bkA ?_ _)); exact BK381.out) k_ hk,Kd.freshB (g:=gb389) (o:=.cells #[.int .i64 ((rd_T36 l0_2 x25_2).f0),.int .i64 ((rd_T36 l0_2 x25_2).f1),.slice A388_2 ((rd_T36 l0_2 x25_2).f2).length c388_2] 36 (0,0)) (by (with_reducible repeat (first | refine bdN ?_ _ | refine blk_drew ?_ | refine bkA ?_ _)); exact BK389.out) k_ hk⟩))
                  (case aO=>exact (by (with_reducible repeat (first | apply Kd.R_alloc | apply Kd.R_drewN | apply Kd.R_drew)); exact Kd.R_mono HO_382002.out (fun _ hk=>⟨hk.1.1,⟨hk.1.2.1,⟨hk.1.2.2.1,hk.1.2.2.2⟩⟩⟩)))
                  (case aS=>exact (below_size (by repeat (first | (with_reducible first | exact HB.out | apply bal | apply pwN | apply bd1 | refine bset ?_ GE379.out | refine bset ?_ GE380.out | refine bset ?_ GE381.out | refine bset ?_ GE389.out) | exact HB.out))))
                  (case aL=>have:=LMc31.out; omega)
                  intro v396 w40 ho hb hg hat
                  rw [← Ny395.out] at ho
                  have n0_:=Az.mk (blk_grown (g:=gb379) (o:=.cells #[.int .i64 a0_0,.int .i64 a0_1,.slice (some ad388) l0_2.length c0_2] 36 (0,0)) (by (with_reducible repeat (first | refine bdN ?_ _ | refine blk_drew ?_ | refine bkA ?_ _)); exact BK379.out) hg (Kd.R_away HO_382002.out (fun _ hk=>hk.1.1)))
                  have n1_:=Az.mk (blk_grown (g:=gb380) (o:=.cells #[.int .i64 0,.int .i64 0,.slice none 0 0] 36 (0,0)) (by (with_reducible repeat (first | refine bdN ?_ _ | refine blk_drew ?_ | refine bkA ?_ _)); exact BK380.out) hg (Kd.R_away HO_382002.out (fun _ hk=>hk.1.2.1)))
                  have n2_:=Az.mk (blk_grown (g:=gb381) (o:=.cells #[.int .i64 x382000_2,.int .i64 x382001_2,u382002] 36 (0,0)) (by (with_reducible repeat (first | refine bdN ?_ _ | refine blk_drew ?_ | refine bkA ?_ _)); exact BK381.out) hg (Kd.R_away HO_382002.out (fun _ hk=>hk.1.2.2.1)))
                  have n3_:=Az.mk (blk_grown (g:=gb389) (o:=.cells #[.int .i64 ((rd_T36 l0_2 x25_2).f0),.int .i64 ((rd_T36 l0_2 x25_2).f1),.slice A388_2 ((rd_T36 l0_2 x25_2).f2).length c388_2] 36 (0,0)) (by (with_reducible repeat (first | refine bdN ?_ _ | refine blk_drew ?_ | refine bkA ?_ _)); exact BK389.out) hg (Kd.R_away HO_382002.out (fun _ hk=>hk.1.2.2.2)))
                  have n4_:=Az.mk (hb)
                  have n5_:=Az.mk (ho)
                  clear BK379
                  clear BK380
                  clear BK381
                  clear BK389
                  clear HB
                  clear HO_382002
                  clear HO394
                  have BK379:=n0_
                  have BK380:=n1_
                  have BK381:=n2_
                  have BK389:=n3_
                  have HB:=n4_
                  have HO397:=n5_
                  clear n0_ n1_ n2_ n3_ n4_ n5_
                  clear ho hb hg hat
                  obtain ⟨Ao42,co42,eo42⟩:=Kd.R_slice HO397.out
                  (first | subst eo42 | (injection eo42 with f1_ f2_ f3_; have f4_:=f1_.symm; have f5_:=f3_.symm; clear f1_ f2_ f3_; subst f4_; subst f5_))
                  refine hK.out _ _ ⟨(blk_cell BK381.out 0).trans rfl,(blk_cell BK381.out 1).trans rfl,(blk_cell BK381.out 2).trans rfl,(blk_cell BK389.out 0).trans rfl,(blk_cell BK389.out 1).trans rfl,(blk_cell BK389.out 2).trans rfl⟩ (fun hHeld=>?_)
                  clear hK K
                  refine norm_ (a':=?_) ?_ ?_
                  rotate_left
                  · show Act.put _ (some 35) _=_
                    simp only [Act.put,List.setIfInBounds_toArray,List.set_cons_zero,List.set_cons_succ,i64_w,i32_w]
                    rfl
                  refine pure_ (i:=7) (N:=some 36) (v:=?_) (a':=?_) #[true,true,true,true,true,true,true,true,false] rfl rfl (any_of HT_.out (by kernel_rfl)) (fun _ _ _ h=>h) (Or.inl ⟨by rfl,?_⟩) ?_ ?_
                  rotate_left
                  · intro w'
                    go_simp
                    with_reducible rfl
                  rotate_left
                  · simp only [Act.put,List.setIfInBounds_toArray,List.set_cons_zero,List.set_cons_succ,i64_w,i32_w]
                    rfl
                  refine last_ (i:=8) (N:=none) #[true,true,true,true,true,true,true,true,true] rfl rfl (one_of HT_.out (by kernel_rfl)) (by decide) (fun K hK=>?_)
                  have hs43:w40.cell? ⟨gb381,2,none⟩=some (u382002):=(blk_cell BK381.out 2).trans rfl
                  have hfs43:=bkF BK381.out 2
                  have hns43_0:=NB379_381.out
                  have hns43_1:=NB380_381.out
                  have hns43_3:=NB389_381.out
                  have hms43_0:=NB381_379.out
                  have hms43_1:=NB381_380.out
                  have hms43_3:=NB381_389.out
                  refine skip_ (w1:=?_) (by rfl) rfl ?_ ?_
                  rotate_left
                  · go_simp
                    rfl
                  refine hK.out _ _ ?_
                  clear hK K
                  refine done_ (done_of HT_.out (by kernel_rfl)) ?_
                  try go_wp2
                  go_roundg k2
                  case measure=>have:=HJ2.out; have:=HK2.out; omega
                  case rel=>exact ⟨(wrap64 (x25_2+1)),(y395),(.slice Ao42 y395.length co42),(by first | rfl | (simp; done) | (simp [*]; done)),H',⟨by have:=HJ2.out; have:=HK2.out; omega⟩,⟨by (with_reducible repeat (first | apply Kd.R_alloc | apply Kd.R_drewN | apply Kd.R_drew)); exact Kd.R_mono (Kd.R_far (p:=⟨gb381,2,none⟩) (Kd.R_mono HO397.out (fun k_ hk=>(⟨hk,hk.2.2.1⟩:_∧k_≠gb381))) (fun _ hk=>hk.2) (.slice Ao42 y395.length co42)) (fun _ hk=>⟨hk.1.1,⟨hk.1.2.1,hk.1.2.2.1⟩⟩)⟩,⟨by (with_reducible repeat (first | refine bdN ?_ _ | refine blk_drew ?_ | refine bkA ?_ _)); refine blk_far ?_ NB379_381.out _; (with_reducible repeat (first | refine bdN ?_ _ | refine blk_drew ?_ | refine bkA ?_ _)); exact BK379.out⟩,⟨by (with_reducible repeat (first | refine bdN ?_ _ | refine blk_drew ?_ | refine bkA ?_ _)); refine blk_far ?_ NB380_381.out _; (with_reducible repeat (first | refine bdN ?_ _ | refine blk_drew ?_ | refine bkA ?_ _)); exact BK380.out⟩,⟨by (with_reducible repeat (first | refine bdN ?_ _ | refine blk_drew ?_ | refine bkA ?_ _)); refine blk_put (cs:=#[.int .i64 x382000_2,.int .i64 x382001_2,u382002]) ?_ 2 _ rfl; (with_reducible repeat (first | refine bdN ?_ _ | refine blk_drew ?_ | refine bkA ?_ _)); exact BK381.out⟩,⟨by repeat (first | (with_reducible first | exact HB.out | apply bal | apply pwN | apply bd1 | refine bset ?_ GE379.out | refine bset ?_ GE380.out | refine bset ?_ GE381.out | refine bset ?_ GE389.out) | exact HB.out)⟩⟩
                · rw [if_neg c31] at H
                  exact absurd H (by simp)
              · rw [if_neg c29] at H
                exact absurd H (by simp)
            · rw [if_neg c28] at H
              exact absurd H (by simp)
          · rw [if_neg c27] at H
            have c27b0:decide (x25_2 < (l0_2.length:Int))=false:=decide_eq_false c27
            clear c27
            simp only [Option.some.injEq,Prod.mk.injEq] at H
            obtain ⟨rfl,rfl,rfl⟩:=H
            have hnb44:=NB381_379.out
            have hnc44:=NB379_381.out
            have hnb45:=NB381_380.out
            have hnc45:=NB380_381.out
            have hcz46_0:wr.cell? ⟨gb381,0,none⟩=some (.int .i64 x382000_2):=(blk_cell BK381.out 0).trans rfl
            have hcz46_1:wr.cell? ⟨gb381,1,none⟩=some (.int .i64 x382001_2):=(blk_cell BK381.out 1).trans rfl
            have hcz46_2:wr.cell? ⟨gb381,2,none⟩=some (u382002):=(blk_cell BK381.out 2).trans rfl
            have hfz46_0:=bkF BK381.out 0
            have hfz46_1:=bkF BK381.out 1
            have hfz46_2:=bkF BK381.out 2
            have hnb47:=NB380_379.out
            have hnc47:=NB379_380.out
            have hcz48_0:wr.cell? ⟨gb380,0,none⟩=some (.int .i64 0):=(blk_cell BK380.out 0).trans rfl
            have hcz48_1:wr.cell? ⟨gb380,1,none⟩=some (.int .i64 0):=(blk_cell BK380.out 1).trans rfl
            have hcz48_2:wr.cell? ⟨gb380,2,none⟩=some (.slice none 0 0):=(blk_cell BK380.out 2).trans rfl
            have hfz48_0:=bkF BK380.out 0
            have hfz48_1:=bkF BK380.out 1
            have hfz48_2:=bkF BK380.out 2
            obtain ⟨Ao49,co49,eo49⟩:=Kd.R_slice HO_382002.out
            subst eo49
            go_wp2
            refine bodyPost_ret (results_cell_row rfl _ _ gb380 36 #[.int .i64 x382000_2,.int .i64 x382001_2,.slice Ao49 x382002_2.length co49] (0,0) _ rfl (by (with_reducible repeat (first | refine bdN ?_ _ | refine blk_drew ?_ | refine bkA ?_ _)); refine blk_put (cs:=#[.int .i64 x382000_2,.int .i64 x382001_2,.slice none 0 0]) ?_ 2 _ rfl; (with_reducible repeat (first | refine bdN ?_ _ | refine blk_drew ?_ | refine bkA ?_ _)); refine blk_put (cs:=#[.int .i64 x382000_2,.int .i64 0,.slice none 0 0]) ?_ 1 _ rfl; (with_reducible repeat (first | refine bdN ?_ _ | refine blk_drew ?_ | refine bkA ?_ _)); refine blk_put (cs:=#[.int .i64 0,.int .i64 0,.slice none 0 0]) ?_ 0 _ rfl; (with_reducible repeat (first | refine bdN ?_ _ | refine blk_drew ?_ | refine bkA ?_ _)); exact BK380.out) Try.underlying36 rfl (by kernel_rfl)) rfl ?_
            exact ⟨_,by first | rfl | (simp [errW_none,errW_some] <;> rfl) | (simp [*,errW_none,errW_some] <;> rfl),by (with_reducible repeat (first | apply Kd.R_alloc | apply Kd.R_drewN | apply Kd.R_drew)); exact Kd.R_mono (Kd.R_far (p:=⟨gb380,2,none⟩) (Kd.R_far (p:=⟨gb380,1,none⟩) (Kd.R_far (p:=⟨gb380,0,none⟩) (Kd.R_mono HO_382002.out (fun k_ hk=>(⟨hk,hk.2.1⟩:_∧k_≠gb380))) (fun _ hk=>hk.2) (.int .i64 x382000_2)) (fun _ hk=>hk.2) (.int .i64 x382001_2)) (fun _ hk=>hk.2) (.slice Ao49 x382002_2.length co49)) (fun _ hk=>trivial),by repeat (first | (with_reducible first | exact HB.out | apply bal | apply pwN | apply bd1 | refine bset ?_ GE379.out | refine bset ?_ GE380.out | refine bset ?_ GE381.out) | exact HB.out)⟩
end Go.Proofs.Ytkgknidogelffaa.I
namespace Go.Proofs.Ytkgknidogelffaa.I
open Go.RowKit Go.Proofs.YtkgknidogelffaaW.PrintWords Go.Proofs.YtkgknidogelffaaW.PrintLast Go.Proofs.YtkgknidogelffaaW.PrintMore
set_option linter.unusedVariables false
set_option linter.unusedSimpArgs false
theorem large_ev (t:S36):Ev (fun k=>virgationref02_Large.f k t.f0 t.f1 t.f2) (decide (100000 < tcnt t)):=by
  unfold virgationref02_Large.f
  refine Ev.bind (tnodes_ev _ t.f0 t.f1 t.f2 100000 (Nat.lt_succ_self _) (by omega) (by omega)) ?_
  have e:decide (min (1+tcntL t.f2) (100000+1) > 100000)=decide (100000 < tcnt t):=decide_eq_decide.2 (by have:=tcnt_f2 t; omega)
  rw [e]
  exact Ev.now _
theorem mn_min (a b:Int):mn a b=min a b:=by unfold mn; split <;> omega
theorem tcntL_app:∀ (l m:List S36),tcntL (l ++ m)=tcntL l+tcntL m
  | [],m=>by rw [List.nil_append,tcntL]; omega
  | x :: xs,m=>by rw [List.cons_append,tcntL,tcntL,tcntL_app xs m]; omega
theorem rd_T28_at {l:List S36} {i:Nat} (h:i < l.length):rd_T36 l (i:Int)=l[i]:=by unfold rd_T36; rw [Int.toNat_natCast,List.getD_eq_getElem?_getD,List.getElem?_eq_getElem h]; rfl
theorem subL_drop (ps:List S36) {l:List S36} {i:Nat} (h:i < l.length):subL ps (l.drop i)=subT ps (rd_T36 l (i:Int)) :: subL ps (l.drop (i+1)):=by
  rw [rd_T28_at h,List.drop_eq_getElem_cons h,subL]
theorem tcntT (k n:Int) (l:List S36):tcnt ⟨k,n,l⟩=1+tcntL l:=tcnt_f2 ⟨k,n,l⟩
def hdN (ps:List S36) (a b:Int):Int:=if a=0 then tcnt (rd_T36 ps b) else 1
theorem tcnt_sub (ps:List S36) (a b:Int) (l:List S36):tcnt (subT ps ⟨a,b,l⟩)=hdN ps a b+tcntL (subL ps l):=by
  unfold subT hdN
  split
  · rw [tcntT,tcntL_app]
    have:=tcnt_f2 (rd_T36 ps b)
    omega
  · rw [tcntT]
theorem okL_take {m:Int} {l:List S36} (h:okL m l=true) {i:Nat} (hi:i < l.length):okT m (rd_T36 l (i:Int))=true:=by
  rw [rd_T28_at hi]; exact okL_at m l h i hi
theorem grown_ev (ps:List S36) (zs:List Int) (hz:zs.length=ps.length) (hzs:∀ n:Int,0≤n→n < (ps.length:Int)→rd zs n=tcnt (rd_T36 ps n)∧tcnt (rd_T36 ps n)≤100000) (N:Nat) :
    ∀ (a b:Int) (l:List S36),SizeOf.sizeOf l < N→okT (ps.length:Int) ⟨a,b,l⟩=true→tcntL l≤1000000→Ev (fun k=>virgationref02_grown.f k a b l zs) (min (tcnt (subT ps ⟨a,b,l⟩)) 100001):=by
  induction N with
  | zero=>intro a b l h; omega
  | succ N ih =>
  intro a b l hN hok hlen
  obtain ⟨h0,hokl⟩:=okT_at hok
  have hlg:=tcntL_ge l
  have loop:∀ (n i:Nat) (x5:Int),l.length - i=n→i≤l.length→0≤x5→x5≤100001→Ev (fun k=>virgationref02_grown.l0 k zs x5 l (l.length:Int) (i:Int)) (min (x5+tcntL (subL ps (l.drop i))) 100001):=by
    intro n
    induction n with
    | zero =>
      intro i x5 hn hi h2 h3
      have hd:l.drop i=[]:=List.drop_eq_nil_of_le (by omega)
      rw [hd,show min (x5+tcntL (subL ps [])) 100001=x5 from by rw [subL,tcntL]; omega]
      exact Ev.step (fun k=>by rw [virgationref02_grown.l0,if_neg (by omega)]) (Ev.now _)
    | succ n ihn =>
      intro i x5 hn hi h2 h3
      have hil:i < l.length:=by omega
      have hch:=tcnt_child l i hil
      have hge:=tcnt_ge (subT ps (rd_T36 l (i:Int)))
      have hge2:=tcntL_ge (subL ps (l.drop (i+1)))
      refine Ev.step (fun k=>by rw [virgationref02_grown.l0,if_pos (by omega),if_pos (by omega),if_pos (by omega)]) ?_
      refine Ev.bind (a:=min (tcnt (subT ps (rd_T36 l (i:Int)))) 100001) ?_ ?_
      · have hx:=ih (rd_T36 l (i:Int)).f0 (rd_T36 l (i:Int)).f1 (rd_T36 l (i:Int)).f2 (by have:=rd_T36_mem l i hil; omega) (by have:=okL_take hokl hil; cases hy:rd_T36 l (i:Int); rw [hy] at this; exact this) (by omega)
        have e:(⟨(rd_T36 l (i:Int)).f0,(rd_T36 l (i:Int)).f1,(rd_T36 l (i:Int)).f2⟩:S36)=rd_T36 l (i:Int):=by cases rd_T36 l (i:Int); rfl
        rw [e] at hx
        exact hx
      · rw [w64 _ (by omega),w64 _ (by omega),mn_min,subL_drop ps hil,tcntL]
        have:=ihn (i+1) (min (x5+min (tcnt (subT ps (rd_T36 l (i:Int)))) 100001) 100001) (by omega) (by omega) (by omega) (by omega)
        rw [show ((i+1:Nat):Int)=(i:Int)+1 from rfl] at this
        rw [show min (x5+(tcnt (subT ps (rd_T36 l (i:Int)))+tcntL (subL ps (l.drop (i+1))))) 100001=min (min (x5+min (tcnt (subT ps (rd_T36 l (i:Int)))) 100001) 100001+tcntL (subL ps (l.drop (i+1)))) 100001 from by omega]
        exact this
  rw [tcnt_sub]
  have hl0:=loop l.length 0
  rw [List.drop_zero] at hl0
  have hgs:=tcntL_ge (subL ps l)
  by_cases ha:a=0
  · obtain ⟨hb0,hb1⟩:=h0 ha
    obtain ⟨hr,hr1⟩:=hzs b hb0 hb1
    have hg:=tcnt_ge (rd_T36 ps b)
    refine Ev.step (fun k=>by rw [virgationref02_grown.f,if_pos ha,if_pos hb0,if_pos (by omega)]) ?_
    refine Ev.step (fun k=>by rw [virgationref02_grown.j0]) ?_
    rw [hr]
    unfold hdN
    rw [if_pos ha]
    exact hl0 _ (by omega) (by omega) (by omega) (by omega)
  · refine Ev.step (fun k=>by rw [virgationref02_grown.f,if_neg ha]) ?_
    refine Ev.step (fun k=>by rw [virgationref02_grown.j0]) ?_
    unfold hdN
    rw [if_neg ha]
    exact hl0 _ (by omega) (by omega) (by omega) (by omega)
theorem copy_f {a b:Int} {l:List S36} (h:tcntL l≤1000000):virgationref02_Copy.f a b l=some (a,b,l):=by unfold virgationref02_Copy.f; rw [if_pos h]
theorem replace_ev (ps:List S36) (hps:∀ n:Int,0≤n→n < (ps.length:Int)→tcnt (rd_T36 ps n)≤100000) (N:Nat) :
    ∀ (a b:Int) (l:List S36),SizeOf.sizeOf l < N→okT (ps.length:Int) ⟨a,b,l⟩=true→tcnt (subT ps ⟨a,b,l⟩)≤100000→Ev (fun k=>virgationref02_Replace.f k a b l ps) ((subT ps ⟨a,b,l⟩).f0,(subT ps ⟨a,b,l⟩).f1,(subT ps ⟨a,b,l⟩).f2):=by
  induction N with
  | zero=>intro a b l h; omega
  | succ N ih =>
  intro a b l hN hok hsz
  obtain ⟨h0,hokl⟩:=okT_at hok
  rw [tcnt_sub] at hsz
  have hsl:tcntL (subL ps l)≤100000:=by
    have : 0 ≤ hdN ps a b := by unfold hdN; split; · have:=tcnt_ge (rd_T36 ps b); omega
                                · omega
    omega
  have hll:=tcntL_ge (subL ps l)
  rw [subL_len] at hll
  have loop:∀ (n i:Nat) (u v:Int) (x:List S36),l.length - i=n→i≤l.length→x.length+(l.length - i)≤200000→tcntL (subL ps (l.drop i))≤100000→Ev (fun k=>virgationref02_Replace.l0 k ps l (l.length:Int) (i:Int) u v x) (u,v,x ++ subL ps (l.drop i)):=by
    intro n
    induction n with
    | zero =>
      intro i u v x hn hi h2 h3
      have hd:l.drop i=[]:=List.drop_eq_nil_of_le (by omega)
      rw [hd,subL,List.append_nil]
      exact Ev.step (fun k=>by rw [virgationref02_Replace.l0,if_neg (by omega)]) (Ev.now _)
    | succ n ihn =>
      intro i u v x hn hi h2 h3
      have hil:i < l.length:=by omega
      rw [subL_drop ps hil,tcntL] at h3
      have hge:=tcnt_ge (subT ps (rd_T36 l (i:Int)))
      have hge2:=tcntL_ge (subL ps (l.drop (i+1)))
      have e:(⟨(rd_T36 l (i:Int)).f0,(rd_T36 l (i:Int)).f1,(rd_T36 l (i:Int)).f2⟩:S36)=rd_T36 l (i:Int):=by cases rd_T36 l (i:Int); rfl
      refine Ev.step (fun k=>by rw [virgationref02_Replace.l0,if_pos (by omega),if_pos (by omega),if_pos (by omega)]) ?_
      refine Ev.bind (a:=((subT ps (rd_T36 l (i:Int))).f0,(subT ps (rd_T36 l (i:Int))).f1,(subT ps (rd_T36 l (i:Int))).f2)) ?_ ?_
      · have hx:=ih (rd_T36 l (i:Int)).f0 (rd_T36 l (i:Int)).f1 (rd_T36 l (i:Int)).f2 (by have:=rd_T36_mem l i hil; omega) (by rw [e]; exact okL_take hokl hil) (by rw [e]; omega)
        rw [e] at hx
        exact hx
      · refine Ev.ifp (by omega) ?_
        have e2:(⟨(subT ps (rd_T36 l (i:Int))).f0,(subT ps (rd_T36 l (i:Int))).f1,(subT ps (rd_T36 l (i:Int))).f2⟩:S36)=subT ps (rd_T36 l (i:Int)):=by cases subT ps (rd_T36 l (i:Int)); rfl
        rw [w64 _ (by omega),subL_drop ps hil]
        simp only
        rw [e2]
        have:=ihn (i+1) u v (x ++ [subT ps (rd_T36 l (i:Int))]) (by omega) (by omega) (by rw [List.length_append,List.length_singleton]; omega) (by omega)
        rw [List.append_assoc,show ((i+1:Nat):Int)=(i:Int)+1 from rfl] at this
        exact this
  have hl0:=loop l.length 0
  rw [List.drop_zero] at hl0
  by_cases ha:a=0
  · obtain ⟨hb0,hb1⟩:=h0 ha
    have hr1:=hps b hb0 hb1
    have hg:=tcnt_f2 (rd_T36 ps b)
    have hg2:=tcntL_ge (rd_T36 ps b).f2
    unfold subT
    rw [if_pos ha]
    refine Ev.step (fun k=>by rw [virgationref02_Replace.f,if_pos ha,if_pos hb0,if_pos (by omega)]) ?_
    rw [copy_f (by omega)]
    refine Ev.bind (Ev.now _) ?_
    refine Ev.step (fun k=>by rw [virgationref02_Replace.j0]) ?_
    exact hl0 (rd_T36 ps b).f0 (rd_T36 ps b).f1 (rd_T36 ps b).f2 (by omega) (by omega) (by omega) (by omega)
  · unfold subT
    rw [if_neg ha]
    refine Ev.step (fun k=>by rw [virgationref02_Replace.f,if_neg ha]) ?_
    refine Ev.step (fun k=>by rw [virgationref02_Replace.j0]) ?_
    have:=hl0 a b [] (by omega) (by omega) (by simp; omega) (by omega)
    rw [List.nil_append] at this
    exact this
end Go.Proofs.Ytkgknidogelffaa.I
namespace Go.Proofs.Ytkgknidogelffaa.I
open Go.RowKit Go.Proofs.YtkgknidogelffaaW.PrintWords Go.Proofs.YtkgknidogelffaaW.PrintLast Go.Proofs.YtkgknidogelffaaW.PrintMore
attribute [local go_sem] max2_int min2_int max_two min_two max_three min_three max_four min_four
set_option linter.unusedVariables false
set_option maxRecDepth 100000
set_option linter.unusedSimpArgs false
theorem insert_tail (l:List Int) (n:Int) (x5 y:List Int) (i j:Nat) (hj:j≤l.length) (hl:l.length≤1000000) (h5:∀ x ∈ x5,x ∈ l) (hy:y=x5 ++ [n]) (h5l:x5.length≤j) :
    (∀ x ∈ y ++ l.drop j,x ∈ l∨x=n)∧(y ++ l.drop j).length≤l.length+1:=by
  subst hy
  refine ⟨fun x hx=>?_,?_⟩
  · rcases List.mem_append.1 hx with hx | hx
    · rcases List.mem_append.1 hx with hx | hx
      · exact .inl (h5 x hx)
      · exact .inr (List.mem_singleton.1 hx)
    · exact .inl (List.mem_of_mem_drop hx)
  · rw [List.length_append,List.length_append,List.length_singleton,List.length_drop]; omega
theorem insert_ev (l:List Int) (n:Int) (hl:l.length≤1000000):∃ r,Ev (fun k=>virgationref02_insert.f k l n) r∧(∀ x ∈ r,x ∈ l∨x=n)∧r.length≤l.length+1:=by
  have loop:∀ (m i:Nat) (x5:List Int),l.length - i=m→i≤l.length→(∀ x ∈ x5,x ∈ l)→x5.length≤i→∃ r,Ev (fun k=>virgationref02_insert.l0 k l n x5 (i:Int)) r∧(∀ x ∈ r,x ∈ l∨x=n)∧r.length≤l.length+1:=by
    intro m
    induction m with
    | zero =>
      intro i x5 hm hi h5 h5l
      obtain ⟨t1,t2⟩:=insert_tail l n x5 (x5 ++ [n]) i i hi hl h5 rfl h5l
      refine ⟨(x5 ++ [n]) ++ l.drop i,Ev.step (f:=fun _=>some ((x5 ++ [n]) ++ l.drop i)) (fun k=>?_) (Ev.now _),t1,t2⟩
      rw [virgationref02_insert.l0,if_neg (by omega),if_pos (by omega)]
      rw [Option.bind_some,if_pos (by omega),if_pos (by omega),if_pos (by rw [List.length_append,List.length_singleton,List.length_drop]; omega),Int.toNat_natCast]
    | succ m ih =>
      intro i x5 hm hi h5 h5l
      have hil:i < l.length:=by omega
      have hrd:rd l (i:Int) ∈ l:=by
        unfold rd
        rw [Int.toNat_natCast,List.getD_eq_getElem?_getD,List.getElem?_eq_getElem hil]
        exact List.getElem_mem _
      have ew:wrap64 ((i:Int)+1)=((i+1:Nat):Int):=by unfold wrap64; omega
      by_cases h1:rd l (i:Int) < n
      · obtain ⟨r,hr,h⟩:=ih (i+1) (x5 ++ [rd l (i:Int)]) (by omega) (by omega) (fun x hx=>by
          rcases List.mem_append.1 hx with hx | hx
          · exact h5 x hx
          · rw [List.mem_singleton.1 hx]; exact hrd) (by rw [List.length_append,List.length_singleton]; omega)
        refine ⟨r,Ev.step (fun k=>?_) hr,h⟩
        rw [virgationref02_insert.l0,if_pos (by omega),if_pos (by omega),if_pos h1,if_pos (by omega),ew]
      · by_cases h2:rd l (i:Int)=n
        · obtain ⟨t1,t2⟩:=insert_tail l n x5 (x5 ++ [n]) i (i+1) hil hl h5 rfl (by omega)
          refine ⟨(x5 ++ [n]) ++ l.drop (i+1),Ev.step (f:=fun _=>some ((x5 ++ [n]) ++ l.drop (i+1))) (fun k=>?_) (Ev.now _),t1,t2⟩
          rw [virgationref02_insert.l0,if_pos (by omega),if_pos (by omega),if_neg h1,if_pos (by omega)]
          rw [Option.bind_some,if_pos h2,ew,if_pos (by omega),if_pos (by omega),Int.toNat_natCast,if_pos (by rw [List.length_append,List.length_singleton,List.length_drop]; omega)]
        · obtain ⟨t1,t2⟩:=insert_tail l n x5 (x5 ++ [n]) i i hi hl h5 rfl h5l
          refine ⟨(x5 ++ [n]) ++ l.drop i,Ev.step (f:=fun _=>some ((x5 ++ [n]) ++ l.drop i)) (fun k=>?_) (Ev.now _),t1,t2⟩
          rw [virgationref02_insert.l0,if_pos (by omega),if_pos (by omega),if_neg h1,if_pos (by omega)]
          rw [Option.bind_some,if_neg h2,if_pos (by omega),Int.toNat_natCast,if_pos (by rw [List.length_append,List.length_singleton,List.length_drop]; omega)]
  obtain ⟨r,h⟩:=loop l.length 0 [] (by omega) (by omega) (fun x hx=>by cases hx) (by simp)
  exact ⟨r,h⟩
def Ns (w:World) (V:List Int) (A:Option Addr) (c:Nat):Prop:=Kd.V (Kd.int .i64) 3 w 0 (fun _=>True) (.slice A V.length c) V
theorem Ns.below {w w':World} {V:List Int} {A:Option Addr} {c:Nat} (h:Ns w V A c) (hb:Below w.heap.size w w'):Ns w' V A c:=Kd.V_below h hb
theorem insert_calls (V:List Int) (A:Option Addr) (c:Nat) (n m:Int) (w:World) (h:Ns w V A c) (hl:V.length≤1000000) (hV:∀ x ∈ V,0≤x∧x < m) (hn:0≤n∧n < m) :
    Calls Try.prog 81 #[.slice A V.length c,.int .i64 n] w fun e w'=>∃ V' A' c',e=.returned (.slice A' V'.length c')∧Ns w' V' A' c'∧(∀ x ∈ V',0≤x∧x < m)∧V'.length≤V.length+1∧Below w.heap.size w w':=by
  obtain ⟨r,he,h1,h2⟩:=insert_ev V n hl
  obtain ⟨k,hk⟩:=he.rounds
  refine (virgationref02_insert.calls k A c V n r w (Kd.V_reads' h).2.2 (Kd.V_reads' h).2.1 hk).mono ?_
  rintro e w' ⟨v,rfl,hR,hb⟩
  obtain ⟨A',c',rfl⟩:=Kd.R_slice hR
  refine ⟨r,A',c',rfl,Kd.V_mono (Kd.R_V (base':=0) hR) (fun _ _=>trivial),fun x hx=>?_,h2,hb⟩
  rcases h1 x hx with h | rfl
  · exact hV x h
  · exact hn
set_option maxHeartbeats 16000000 in
theorem vars_calls (m:Int) (N:Nat):∀ (a b:Int) (l:List S36) (A:Option Addr) (c:Nat) (V:List Int) (Av:Option Addr) (cv:Nat) (w:World),SizeOf.sizeOf l < N→okT m ⟨a,b,l⟩=true→(V.length:Int)+tcntL l≤900000→(∀ x ∈ V,0≤x∧x < m)→Kd.C k36 w A l.length l→l.length≤c→Ns w V Av cv →
    Calls Try.prog 77 #[.agg #[.int .i64 a,.int .i64 b,.slice A l.length c],.slice Av V.length cv] w fun e w'=>∃ V' A' c',e=.returned (.slice A' V'.length c')∧Ns w' V' A' c'∧(∀ x ∈ V',0≤x∧x < m)∧(V'.length:Int)≤V.length+1+tcntL l∧Below w.heap.size w w':=by
  have hu36:=Try.underlying36
  have hu34:=Try.underlying34
  induction N with
  | zero=>intro a b l A c V Av cv w hN; omega
  | succ N ih =>
  intro a b l A c V Av cv w hN hok hsz hV hr hc hns
  obtain ⟨h0,hokl⟩:=okT_at hok
  have hlg:=tcntL_ge l
  have HR:=Az.mk hr
  have HC:=Az.mk hc
  have HN:=Az.mk hN
  have HSZ:=Az.mk hsz
  have HV:=Az.mk hV
  have HNS:=Az.mk hns
  have HO:=Az.mk h0
  have HOL:=Az.mk hokl
  have IH:=Az.mk ih
  have hlen:l.length≤9223372036854775807:=by omega
  clear hr hc hN hsz hV hns h0 hokl ih hok
  have hob:(a == 0)=decide (a=0):=rfl
  go_enter Try.func77,Try.ntmps77
  go_upto_region 1 with (
    (with_reducible refine gate_dst (N:=2) rfl ?_)
    refine box_event ?hg (N:=2) ?hd (cs:=#[.int .i64 a,.int .i64 b,.slice A l.length c]) (t:=36) ?hr ?_
    (case hd=>rfl)
    (case hg=>rfl)
    (case hr=>first | (go_simp; done) | (go_simp; rfl))
    intro g2 hg2 w2 hbox hbb
    have S2:=Az.mk hbox
    have HB2:=Az.mk hbb
    have a0:w2.cell? ⟨g2,0,none⟩=some (.int .i64 a):=(blk_cell hbox 0).trans rfl
    have a1:w2.cell? ⟨g2,1,none⟩=some (.int .i64 b):=(blk_cell hbox 1).trans rfl
    clear hbox hbb hg2)
  by_cases ha:a=0
  · have hb01:=HO.out ha
    have HIN:=Az.mk (insert_calls V Av cv b m w2 (HNS.out.below HB2.out) (by have:=HSZ.out; omega) HV.out hb01)
    have q0:(a == 0)=true:=beq_iff_eq.2 ha
    have q1:(a=0)=True:=eq_true ha
    clear hob ha hb01
    go_wp2_with fail
    (with_reducible refine (HIN.out).mono ?_)
    rintro e wc ⟨V1,A1,c1,rfl,h1,h2,h3,h4⟩
    have HNS1:=Az.mk h1
    have HV1:=Az.mk h2
    have HVL:=Az.mk h3
    have HBc:=Az.mk h4
    clear h1 h2 h3 h4 q0 q1 HIN HNS HV
    have a2:wc.cell? ⟨g2,2,none⟩=some (.slice A l.length c):=(blk_cell (bkB S2.out HBc.out) 2).trans rfl
    go_wp2_with fail
    have HB:=Az.mk (bst HB2.out HBc.out)
    clear a0 a1 a2 HBc
    go_loopg [1,17] l.length (fun kq v1 v17 wr=>∃ (i:Nat) (V2:List Int) (A2:Option Addr) (c2:Nat),v1=.slice A2 V2.length c2∧v17=.int .i64 (i:Int)∧Az (i+kq=l.length)∧Az (Ns wr V2 A2 c2)∧Az (∀ x ∈ V2,0≤x∧x < m)∧Az ((V2.length:Int)+tcntL (l.drop i)≤V.length+1+tcntL l)∧Az (Below w.heap.size w wr))
    case atStart=>exact ⟨0,_,_,_,rfl,rfl,⟨by omega⟩,HNS1,HV1,⟨by rw [List.drop_zero]; have:=HVL.out; omega⟩,HB⟩
    case round =>
      clear HNS1 HV1 HB
      obtain ⟨i,V2,A2,c2,rfl,rfl,Hi,HNS,HV,HL,HB⟩:=hrel
      by_cases hlt:i < l.length
      rotate_left
      · have hie:i=l.length:=by have:=Hi.out; omega
        have HLE:=Az.mk (show (V2.length:Int)≤V.length+1+tcntL l from by have:=HL.out; have:=tcntL_ge (l.drop i); omega)
        subst hie
        go_wp2_with fail
        go_ret
        exact ⟨V2,A2,c2,rfl,HNS.out,HV.out,HLE.out,HB.out⟩
      have hk:=Hi.out
      obtain ⟨k1,rfl⟩:∃ k1,gk=k1+1:=⟨gk - 1,by omega⟩
      clear hk
      obtain ⟨ad,A4,c4,he,hx2,hx3,hx4,hl4,hC4⟩:=at_T36 (Kd.C_below HR.out HB.out) (i:Int) (by omega) (by omega)
      cases he
      rw [Int.toNat_natCast] at hx2 hx3 hx4
      have HC4:=Az.mk hC4
      have Hl4:=Az.mk hl4
      have hd:=tdrop_cnt l i hlt
      have HX1:=Az.mk (show okT m (rd_T36 l (i:Int))=true from okL_take HOL.out hlt)
      have HXS:=Az.mk (show SizeOf.sizeOf (rd_T36 l (i:Int)).f2 < N from by have:=rd_T36_mem l i hlt; have:=HN.out; omega)
      have HXL:=Az.mk (show (V2.length:Int)+(1+tcntL (rd_T36 l (i:Int)).f2)+tcntL (l.drop (i+1))≤V.length+1+tcntL l from by have:=HL.out; omega)
      have q1:(0≤(i:Int))=True:=eq_true (by omega)
      have q2:((i:Int) < (l.length:Int))=True:=eq_true (by omega)
      have q3:(i < l.length)=True:=eq_true (by omega)
      clear hl4 hC4 hd
      generalize rd_T36 l (i:Int)=x at *
      have HX2:=Az.mk (show okT m ⟨x.f0,x.f1,x.f2⟩=true from by have h:=HX1.out; cases x; exact h)
      go_upto_region 6 with (
        (with_reducible refine gate_dst (N:=6) rfl ?_)
        refine box_event ?hg (N:=6) ?hd (cs:=#[.int .i64 0,.int .i64 0,.slice none 0 0]) (t:=36) ?hr ?_
        (case hd=>rfl)
        (case hg=>rfl)
        (case hr=>first | (go_simp; done) | (go_simp; rfl))
        intro gi hgi w6 hbox hbb
        have hgw:wr.heap.size≤gi:=by omega
        have Hbw:=Az.mk (bset (g:=gi) (j:=2) (v:=.slice A4 x.f2.length c4) (bset (g:=gi) (j:=1) (v:=.int .i64 x.f1) (bset (g:=gi) (j:=0) (v:=.int .i64 x.f0) hbb hgw) hgw) hgw)
        have Sgi:=Az.mk (blk_put (cs':=#[.int .i64 x.f0,.int .i64 x.f1,.slice A4 x.f2.length c4]) (blk_put (cs':=#[.int .i64 x.f0,.int .i64 x.f1,.slice none 0 0]) (blk_put (cs':=#[.int .i64 x.f0,.int .i64 0,.slice none 0 0]) hbox 0 (.int .i64 x.f0) rfl) 1 (.int .i64 x.f1) rfl) 2 (.slice A4 x.f2.length c4) rfl)
        have hcz0:=(blk_cell hbox 0).trans rfl
        have hfz0:=bkF hbox 0
        have hcz1:=(blk_cell hbox 1).trans rfl
        have hfz1:=bkF hbox 1
        have hcz2:=(blk_cell hbox 2).trans rfl
        have hfz2:=bkF hbox 2
        clear hbox hbb hgi hgw)
      clear hcz0 hcz1 hcz2 hfz0 hfz1 hfz2 hx2 hx3 hx4
      generalize (((w6.setCell ⟨gi,0,none⟩ (.int .i64 x.f0)).setCell ⟨gi,1,none⟩ (.int .i64 x.f1)).setCell ⟨gi,2,none⟩ (.slice A4 x.f2.length c4))=wq at *
      have n0:wq.cell? ⟨gi,0,none⟩=some (.int .i64 x.f0):=(blk_cell Sgi.out 0).trans rfl
      have n1:wq.cell? ⟨gi,1,none⟩=some (.int .i64 x.f1):=(blk_cell Sgi.out 1).trans rfl
      have n2:wq.cell? ⟨gi,2,none⟩=some (.slice A4 x.f2.length c4):=(blk_cell Sgi.out 2).trans rfl
      go_wp2_with fail
      (with_reducible refine (IH.out x.f0 x.f1 x.f2 A4 c4 V2 A2 c2 wq HXS.out HX2.out (by have:=HXL.out; have:=HSZ.out; have:=tcntL_ge (l.drop (i+1)); omega) HV.out (Kd.C_below HC4.out Hbw.out) Hl4.out (HNS.out.below Hbw.out)).mono ?_)
      rintro e w8 ⟨V3,A3,c3,rfl,h1,h2,h3,h4⟩
      have H1:=Az.mk h1
      have H2:=Az.mk h2
      have H3:=Az.mk (show (V3.length:Int)+tcntL (l.drop (i+1))≤V.length+1+tcntL l from by have:=HXL.out; omega)
      have H4:=Az.mk (bst (bst HB.out Hbw.out) h4)
      clear h1 h2 h3 h4 n0 n1 n2
      go_wp2_with fail
      go_roundg k1
      case measure=>omega
      case rel=>exact ⟨i+1,V3,A3,c3,rfl,by first | rfl | (refine congrArg _ ?_; unfold wrap64; omega),⟨by have:=Hi.out; omega⟩,H1,H2,H3,H4⟩
  · have q0:(a == 0)=false:=beq_eq_false_iff_ne.2 ha
    have q1:(a=0)=False:=eq_false ha
    have a2:w2.cell? ⟨g2,2,none⟩=some (.slice A l.length c):=(blk_cell S2.out 2).trans rfl
    clear hob ha
    go_wp2_with fail
    obtain ⟨wc,hwc⟩:∃ wc,wc=w2:=⟨_,rfl⟩
    have HBc:=Az.mk (show Below w2.heap.size w2 wc from by rw [hwc]; exact Below.refl _ _)
    have HNS1:=Az.mk (show Ns wc V Av cv from by rw [hwc]; exact HNS.out.below HB2.out)
    have HV1:=HV
    have HVL:=Az.mk (show V.length≤V.length+1 from by omega)
    rw [← hwc]
    clear hwc q0 q1 HNS HV
    have HB:=Az.mk (bst HB2.out HBc.out)
    clear a0 a1 a2 HBc
    go_loopg [1,17] l.length (fun kq v1 v17 wr=>∃ (i:Nat) (V2:List Int) (A2:Option Addr) (c2:Nat),v1=.slice A2 V2.length c2∧v17=.int .i64 (i:Int)∧Az (i+kq=l.length)∧Az (Ns wr V2 A2 c2)∧Az (∀ x ∈ V2,0≤x∧x < m)∧Az ((V2.length:Int)+tcntL (l.drop i)≤V.length+1+tcntL l)∧Az (Below w.heap.size w wr))
    case atStart=>exact ⟨0,_,_,_,rfl,rfl,⟨by omega⟩,HNS1,HV1,⟨by rw [List.drop_zero]; have:=HVL.out; omega⟩,HB⟩
    case round =>
      clear HNS1 HV1 HB
      obtain ⟨i,V2,A2,c2,rfl,rfl,Hi,HNS,HV,HL,HB⟩:=hrel
      by_cases hlt:i < l.length
      rotate_left
      · have hie:i=l.length:=by have:=Hi.out; omega
        have HLE:=Az.mk (show (V2.length:Int)≤V.length+1+tcntL l from by have:=HL.out; have:=tcntL_ge (l.drop i); omega)
        subst hie
        go_wp2_with fail
        go_ret
        exact ⟨V2,A2,c2,rfl,HNS.out,HV.out,HLE.out,HB.out⟩
      have hk:=Hi.out
      obtain ⟨k1,rfl⟩:∃ k1,gk=k1+1:=⟨gk - 1,by omega⟩
      clear hk
      obtain ⟨ad,A4,c4,he,hx2,hx3,hx4,hl4,hC4⟩:=at_T36 (Kd.C_below HR.out HB.out) (i:Int) (by omega) (by omega)
      cases he
      rw [Int.toNat_natCast] at hx2 hx3 hx4
      have HC4:=Az.mk hC4
      have Hl4:=Az.mk hl4
      have hd:=tdrop_cnt l i hlt
      have HX1:=Az.mk (show okT m (rd_T36 l (i:Int))=true from okL_take HOL.out hlt)
      have HXS:=Az.mk (show SizeOf.sizeOf (rd_T36 l (i:Int)).f2 < N from by have:=rd_T36_mem l i hlt; have:=HN.out; omega)
      have HXL:=Az.mk (show (V2.length:Int)+(1+tcntL (rd_T36 l (i:Int)).f2)+tcntL (l.drop (i+1))≤V.length+1+tcntL l from by have:=HL.out; omega)
      have q1:(0≤(i:Int))=True:=eq_true (by omega)
      have q2:((i:Int) < (l.length:Int))=True:=eq_true (by omega)
      have q3:(i < l.length)=True:=eq_true (by omega)
      clear hl4 hC4 hd
      generalize rd_T36 l (i:Int)=x at *
      have HX2:=Az.mk (show okT m ⟨x.f0,x.f1,x.f2⟩=true from by have h:=HX1.out; cases x; exact h)
      go_upto_region 6 with (
        (with_reducible refine gate_dst (N:=6) rfl ?_)
        refine box_event ?hg (N:=6) ?hd (cs:=#[.int .i64 0,.int .i64 0,.slice none 0 0]) (t:=36) ?hr ?_
        (case hd=>rfl)
        (case hg=>rfl)
        (case hr=>first | (go_simp; done) | (go_simp; rfl))
        intro gi hgi w6 hbox hbb
        have hgw:wr.heap.size≤gi:=by omega
        have Hbw:=Az.mk (bset (g:=gi) (j:=2) (v:=.slice A4 x.f2.length c4) (bset (g:=gi) (j:=1) (v:=.int .i64 x.f1) (bset (g:=gi) (j:=0) (v:=.int .i64 x.f0) hbb hgw) hgw) hgw)
        have Sgi:=Az.mk (blk_put (cs':=#[.int .i64 x.f0,.int .i64 x.f1,.slice A4 x.f2.length c4]) (blk_put (cs':=#[.int .i64 x.f0,.int .i64 x.f1,.slice none 0 0]) (blk_put (cs':=#[.int .i64 x.f0,.int .i64 0,.slice none 0 0]) hbox 0 (.int .i64 x.f0) rfl) 1 (.int .i64 x.f1) rfl) 2 (.slice A4 x.f2.length c4) rfl)
        have hcz0:=(blk_cell hbox 0).trans rfl
        have hfz0:=bkF hbox 0
        have hcz1:=(blk_cell hbox 1).trans rfl
        have hfz1:=bkF hbox 1
        have hcz2:=(blk_cell hbox 2).trans rfl
        have hfz2:=bkF hbox 2
        clear hbox hbb hgi hgw)
      clear hcz0 hcz1 hcz2 hfz0 hfz1 hfz2 hx2 hx3 hx4
      generalize (((w6.setCell ⟨gi,0,none⟩ (.int .i64 x.f0)).setCell ⟨gi,1,none⟩ (.int .i64 x.f1)).setCell ⟨gi,2,none⟩ (.slice A4 x.f2.length c4))=wq at *
      have n0:wq.cell? ⟨gi,0,none⟩=some (.int .i64 x.f0):=(blk_cell Sgi.out 0).trans rfl
      have n1:wq.cell? ⟨gi,1,none⟩=some (.int .i64 x.f1):=(blk_cell Sgi.out 1).trans rfl
      have n2:wq.cell? ⟨gi,2,none⟩=some (.slice A4 x.f2.length c4):=(blk_cell Sgi.out 2).trans rfl
      go_wp2_with fail
      (with_reducible refine (IH.out x.f0 x.f1 x.f2 A4 c4 V2 A2 c2 wq HXS.out HX2.out (by have:=HXL.out; have:=HSZ.out; have:=tcntL_ge (l.drop (i+1)); omega) HV.out (Kd.C_below HC4.out Hbw.out) Hl4.out (HNS.out.below Hbw.out)).mono ?_)
      rintro e w8 ⟨V3,A3,c3,rfl,h1,h2,h3,h4⟩
      have H1:=Az.mk h1
      have H2:=Az.mk h2
      have H3:=Az.mk (show (V3.length:Int)+tcntL (l.drop (i+1))≤V.length+1+tcntL l from by have:=HXL.out; omega)
      have H4:=Az.mk (bst (bst HB.out Hbw.out) h4)
      clear h1 h2 h3 h4 n0 n1 n2
      go_wp2_with fail
      go_roundg k1
      case measure=>omega
      case rel=>exact ⟨i+1,V3,A3,c3,rfl,by first | rfl | (refine congrArg _ ?_; unfold wrap64; omega),⟨by have:=Hi.out; omega⟩,H1,H2,H3,H4⟩
end Go.Proofs.Ytkgknidogelffaa.I
namespace Go.Proofs.Ytkgknidogelffaa.I
open Go.RowKit Go.Proofs.YtkgknidogelffaaW.PrintWords Go.Proofs.YtkgknidogelffaaW.PrintLast Go.Proofs.YtkgknidogelffaaW.PrintMore
attribute [local go_sem] max2_int min2_int max_two min_two max_three min_three max_four min_four
set_option linter.unusedVariables false
set_option maxRecDepth 100000
set_option linter.unusedSimpArgs false
structure Sch (w:World) (A0:Option Addr) (c0:Nat) (l0:List S84) (A1:Option Addr) (c1:Nat) (l1:List S41):Prop where
  r0:Kd.C k84 w A0 l0.length l0
  h0:l0.length≤c0
  r1:Kd.C k41 w A1 l1.length l1
  h1:l1.length≤c1
theorem Sch.below {w w':World} {A0:Option Addr} {c0:Nat} {l0:List S84} {A1:Option Addr} {c1:Nat} {l1:List S41} (h:Sch w A0 c0 l0 A1 c1 l1) (hb:Below w.heap.size w w'):Sch w' A0 c0 l0 A1 c1 l1 :=
  ⟨Kd.C_below h.r0 hb,h.h0,Kd.C_below h.r1 hb,h.h1⟩
end Go.Proofs.Ytkgknidogelffaa.I
namespace Go.Proofs.Ytkgknidogelffaa.I
open Go.RowKit Go.Proofs.YtkgknidogelffaaW.PrintWords Go.Proofs.YtkgknidogelffaaW.PrintLast Go.Proofs.YtkgknidogelffaaW.PrintMore
attribute [local go_sem] max2_int min2_int max_two min_two max_three min_three max_four min_four
set_option linter.unusedVariables false
set_option maxRecDepth 100000
set_option linter.unusedSimpArgs false
theorem large_calls (t:S36) {A3:Option Addr} {c3:Nat} {w:World} (hr3:Kd.C k36 w A3 t.f2.length t.f2) (hc3:t.f2.length≤c3) :
    Calls Try.prog 76 #[.agg #[.int .i64 t.f0,.int .i64 t.f1,.slice A3 t.f2.length c3]] w fun e w'=>e=.returned (.bool (decide (100000 < tcnt t)))∧Below w.heap.size w w':=by
  obtain ⟨k,hk⟩:=(large_ev t).rounds
  exact virgationref02_Large.calls k t.f0 t.f1 A3 c3 t.f2 _ w hr3 hc3 hk
def Tm (w:World) (ok:Nat→Prop) (x:S36) (A:Option Addr) (c:Nat):Prop:=Kd.V k36 36 w 0 ok (.slice A x.f2.length c) x.f2
theorem Tm.below {w w':World} {ok:Nat→Prop} {x:S36} {A:Option Addr} {c:Nat} (h:Tm w ok x A c) (hb:Below w.heap.size w w'):Tm w' ok x A c:=Kd.V_below h hb
theorem Tm.mono {w:World} {ok ok':Nat→Prop} {x:S36} {A:Option Addr} {c:Nat} (h:Tm w ok x A c) (hb:∀ k,ok k→ok' k):Tm w ok' x A c:=Kd.V_mono h hb
theorem Tm.c {w:World} {ok:Nat→Prop} {x:S36} {A:Option Addr} {c:Nat} (h:Tm w ok x A c):Kd.C k36 w A x.f2.length x.f2:=(Kd.V_reads' h).2.2
theorem Tm.le {w:World} {ok:Nat→Prop} {x:S36} {A:Option Addr} {c:Nat} (h:Tm w ok x A c):x.f2.length≤c:=(Kd.V_reads' h).2.1
theorem Tm.of {w:World} {x:S36} {A:Option Addr} {c:Nat} (h:Kd.C k36 w A x.f2.length x.f2) (hc:x.f2.length≤c):Tm w (fun k=>k < w.heap.size) x A c:=Kd.V_mk hc (Kd.C_F k36_heap h)
theorem Tm.far {w:World} {ok:Nat→Prop} {x:S36} {A:Option Addr} {c:Nat} {p:Addr} (h:Tm w ok x A c) (hok:∀ k,ok k→k≠p.block) (u:Value):Tm (w.setCell p u) ok x A c:=Kd.V_far h hok u
theorem Tm.bound {w:World} {ok:Nat→Prop} {x:S36} {A:Option Addr} {c:Nat} (h:Tm w ok x A c):Tm w (fun k=>ok k∧k < w.heap.size) x A c:=Kd.V_bound h
theorem Tm.far3 {w:World} {ok:Nat→Prop} {x:S36} {A:Option Addr} {c:Nat} {g:Nat} (h:Tm w ok x A c) (hok:∀ k,ok k→k≠g) (a' b' d':Value):Tm (((w.setCell ⟨g,0,none⟩ a').setCell ⟨g,1,none⟩ b').setCell ⟨g,2,none⟩ d') ok x A c:=Tm.far (p:=⟨g,2,none⟩) (Tm.far (p:=⟨g,1,none⟩) (Tm.far (p:=⟨g,0,none⟩) h hok _) hok _) hok _
theorem V_new {α:Type} {d:Kd α} {e:Nat} {W:World} {B:Nat} {v:Value} {xs:List α} (h:Kd.R d e W B (fun _=>True) v xs):∃ A c,v=.slice A xs.length c∧Kd.V d e W 0 (fun k=>B≤k) (.slice A xs.length c) xs:=by
  obtain ⟨A,c,rfl⟩:=Kd.R_slice h
  exact ⟨A,c,rfl,Kd.V_mono (Kd.R_V (base':=0) (Kd.R_bound h)) (fun k hk=>hk.2.1)⟩
def subR (ps:List S36) (t:S36):S36 × Int:=if 100000 < tcnt (subT ps t) then (⟨0,0,[]⟩,3) else (subT ps t,0)
theorem Ns.nil (w:World):Ns w [] none 0:=by
  unfold Ns
  exact Kd.V_nil _ _ _ _ _
theorem nodes_at {w:World} {x:S36} {A:Option Addr} {c:Nat} (h:Kd.C k36 w A x.f2.length x.f2) (hc:x.f2.length≤c) (hx:tcnt x≤100000) :
    Calls Try.prog 24 #[.agg #[.int .i64 x.f0,.int .i64 x.f1,.slice A x.f2.length c],.int .i64 100000] w fun e w'=>e=.returned (.int .i64 (tcnt x))∧Below w.heap.size w w':=by
  have he:=tnodes_ev _ x.f0 x.f1 x.f2 100000 (Nat.lt_succ_self _) (by omega) (by omega)
  rw [show min (1+tcntL x.f2) (100000+1)=tcnt x from by have:=tcnt_f2 x; omega] at he
  obtain ⟨k,hk⟩:=he.rounds
  exact virgationref02_Nodes.calls k x.f0 x.f1 A c x.f2 100000 _ w h hc hk
theorem sizes_take {l:List S36} {i:Nat} (h:i < l.length):(l.take i).map tcnt ++ [tcnt (rd_T36 l (i:Int))]=(l.take (i+1)).map tcnt:=by
  rw [take28 h,List.map_append,rd_T28_at h]; rfl
theorem rd_sizes {l:List S36} (n:Int) (h0:0≤n) (h1:n < (l.length:Int)):rd (l.map tcnt) n=tcnt (rd_T36 l n):=by
  have hn:n.toNat < l.length:=by omega
  unfold rd rd_T36
  rw [List.getD_eq_getElem?_getD,List.getD_eq_getElem?_getD,List.getElem?_map,List.getElem?_eq_getElem hn]
  rfl
theorem vars_nil (m a b:Int) (l:List S36) (A:Option Addr) (c:Nat) (w:World) (hok:okT m ⟨a,b,l⟩=true) (hl:tcntL l≤100000) (hr:Kd.C k36 w A l.length l) (hc:l.length≤c) :
    Calls Try.prog 77 #[.agg #[.int .i64 a,.int .i64 b,.slice A l.length c],.slice none 0 0] w fun e w'=>∃ V' A' c',e=.returned (.slice A' V'.length c')∧Ns w' V' A' c'∧(∀ x ∈ V',0≤x∧x < m)∧V'.length≤200000∧Below w.heap.size w w':=by
  refine Calls.mono (vars_calls m _ a b l A c [] none 0 w (Nat.lt_succ_self _) hok (by simp; omega) (fun x hx=>absurd hx (by simp)) hr hc (Ns.nil w)) ?_
  rintro e w' ⟨V,A',c',rfl,h1,h2,h3,h4⟩
  have e0:(([]:List Int).length:Int)=0:=rfl
  exact ⟨V,A',c',rfl,h1,h2,by omega,h4⟩
set_option maxHeartbeats 16000000 in
theorem subst_calls (t:S36) (A:Option Addr) (c:Nat) (ps:List S36) (Ap:Option Addr) (cp:Nat) (w:World) (hok:okT (ps.length:Int) t=true) (ht:tcnt t≤100000) (hps:∀ n:Int,0≤n→n < (ps.length:Int)→tcnt (rd_T36 ps n)≤100000) (hl:ps.length≤100000) (hr:Kd.C k36 w A t.f2.length t.f2) (hc:t.f2.length≤c) (hrp:Kd.C k36 w Ap ps.length ps) (hcp:ps.length≤cp) (R:S36) (er:Int) (hR:subR ps t=(R,er)) :
    Calls Try.prog 70 #[.agg #[.int .i64 t.f0,.int .i64 t.f1,.slice A t.f2.length c],.slice Ap ps.length cp] w fun e w'=>∃ Av cv,e=.returned (.tuple #[.agg #[.int .i64 R.f0,.int .i64 R.f1,.slice Av R.f2.length cv],.int .i64 er])∧Tm w' (fun k=>w.heap.size≤k) R Av cv∧Below w.heap.size w w':=by
  have hu36:=Try.underlying36
  have hu34:=Try.underlying34
  have htl:=tcnt_f2 t
  have HOK:=Az.mk hok
  have HOK2:=Az.mk (show okT (ps.length:Int) ⟨t.f0,t.f1,t.f2⟩=true from by cases t; exact hok)
  have HTT:=Az.mk (show (⟨t.f0,t.f1,t.f2⟩:S36)=t from by cases t; rfl)
  have HT:=Az.mk ht
  have HPS:=Az.mk hps
  have HL:=Az.mk hl
  have HR:=Az.mk hr
  have HC:=Az.mk hc
  have HRP:=Az.mk hrp
  have HCP:=Az.mk hcp
  have HRR:=Az.mk hR
  have HTL:=Az.mk (show tcntL t.f2≤100000 from by omega)
  have hlen:ps.length≤9223372036854775807:=by omega
  clear hok ht hps hl hr hc hrp hcp hR htl
  go_enter Try.func70,Try.ntmps70
  go_wp2_with (first
    | ((with_reducible refine gate_dst (N:=2) rfl ?_)
       refine box_event ?hg (N:=2) ?hd (cs:=#[.int .i64 t.f0,.int .i64 t.f1,.slice A t.f2.length c]) (t:=36) ?hr ?_
       (case hd=>rfl)
       (case hg=>rfl)
       (case hr=>first | (go_simp; done) | (go_simp; rfl))
       intro g2 hg_g2 w2 hbox hbb
       have S22:=Az.mk hbox
       have HB2:=Az.mk hbb
       clear hbox hbb hg_g2)
    | ((with_reducible refine gate_dst (N:=4) rfl ?_)
       refine box_event ?hg (N:=4) ?hd (cs:=#[.int .i64 0,.int .i64 0,.slice none 0 0]) (t:=36) ?hr ?_
       (case hd=>rfl)
       (case hg=>rfl)
       (case hr=>first | (go_simp; done) | (go_simp; rfl))
       intro g4 hg_g4 w4 hbox hbb
       have S2:=Az.mk (bkB S22.out hbb)
       have S4:=Az.mk hbox
       have HB4:=Az.mk (bst HB2.out hbb)
       have HG4:=Az.mk (show w.heap.size≤g4 from by have:=HB2.out.size; omega)
       have e0:=(blk_cell S2.out 0).trans rfl
       have e1:=(blk_cell S2.out 1).trans rfl
       have e2:=(blk_cell S2.out 2).trans rfl
       clear S22 HB2
       clear hbox hbb hg_g4))
  (with_reducible refine (large_calls t (Kd.C_below HR.out HB4.out) HC.out).mono ?_)
  rw [show decide (100000 < tcnt t)=false from decide_eq_false (by have:=HT.out; omega)]
  rintro e w5 ⟨rfl,hb5⟩
  have HB5:=Az.mk (bst HB4.out hb5)
  have S25:=Az.mk (bkB S2.out hb5)
  have S45:=Az.mk (bkB S4.out hb5)
  clear hb5 S2 S4 HB4 e0 e1 e2
  go_wp2_with fail
  go_loopg [6,16] ps.length (fun kq v6 v16 wr=>∃ (i:Nat) (As:Option Addr) (cs:Nat),v6=.slice As i cs∧v16=.int .i64 (i:Int)∧Az (i+kq=ps.length)∧Az (Kd.R (Kd.int .i64) 3 wr w.heap.size (fun _=>True) (.slice As i cs) ((ps.take i).map tcnt))∧Az (wr.heap[g2]?=some (.cells #[.int .i64 t.f0,.int .i64 t.f1,.slice A t.f2.length c] 36 (0,0)))∧Az (wr.heap[g4]?=some (.cells #[.int .i64 0,.int .i64 0,.slice none 0 0] 36 (0,0)))∧Az (Below w.heap.size w wr))
  case atStart=>exact ⟨0,none,0,rfl,rfl,⟨by omega⟩,⟨Kd.R_nil _ _ _ _ _⟩,S25,S45,HB5⟩
  case round =>
    clear S25 S45 HB5
    obtain ⟨i,As,cs,rfl,rfl,Hi,HZ,S2,S4,HB⟩:=hrel
    by_cases hlt:i < ps.length
    rotate_left
    · have hie:i=ps.length:=by have:=Hi.out; omega
      subst hie
      have hz:=HZ.out
      rw [List.take_length] at hz
      have hz2:Kd.V (Kd.int .i64) 3 wr 0 (fun _=>True) (.slice As ps.length cs) (ps.map tcnt):=Kd.R_V hz
      have HZ2:=Az.mk hz2
      clear hz hz2 HZ hlt Hi
      have e0:wr.cell? ⟨g2,0,none⟩=some (.int .i64 t.f0):=(blk_cell S2.out 0).trans rfl
      have e1:wr.cell? ⟨g2,1,none⟩=some (.int .i64 t.f1):=(blk_cell S2.out 1).trans rfl
      have e2:wr.cell? ⟨g2,2,none⟩=some (.slice A t.f2.length c):=(blk_cell S2.out 2).trans rfl
      go_wp2_with fail
      (with_reducible refine (vars_nil (ps.length:Int) t.f0 t.f1 t.f2 A c wr HOK2.out HTL.out (Kd.C_below HR.out HB.out) HC.out).mono ?_)
      rintro e w6 ⟨V,A6,c6,rfl,hns,hv,hvl,hb6⟩
      have HNS:=Az.mk hns
      have HV:=Az.mk hv
      have HVL:=Az.mk hvl
      have S26:=Az.mk (bkB S2.out hb6)
      have S46:=Az.mk (bkB S4.out hb6)
      have HZ6:=Az.mk (Kd.V_below HZ2.out hb6)
      have HB6:=Az.mk (bst HB.out hb6)
      have hvl':=HVL.out
      clear hns hv hvl hb6 e0 e1 e2 S2 S4 HZ2 HB
      go_wp2_with fail
      go_loopg [10,37] V.length (fun kq v10 v37 wr=>∃ (i:Nat),v37=.int .i64 (i:Int)∧Az (i+kq=V.length)∧Az (Below w6.heap.size w6 wr))
      case atStart=>exact ⟨0,rfl,⟨by omega⟩,⟨Below.refl _ _⟩⟩
      case round =>
        obtain ⟨i,rfl,Hi,HBi⟩:=hrel
        have S2i:=Az.mk (bkB S26.out HBi.out)
        have S4i:=Az.mk (bkB S46.out HBi.out)
        have HBw:=Az.mk (bst HB6.out HBi.out)
        by_cases hlt:i < V.length
        · obtain ⟨ad,he,hx⟩:=Kd.at_int (Kd.V_reads' (HNS.out.below HBi.out)).2.2 (i:Int) (by omega) (by omega)
          cases he
          rw [Int.toNat_natCast] at hx
          have hmem:rd V (i:Int) ∈ V:=by unfold rd; rw [Int.toNat_natCast,List.getD_eq_getElem?_getD,List.getElem?_eq_getElem hlt]; exact List.getElem_mem _
          have hrg:=HV.out _ hmem
          generalize rd V (i:Int)=v at *
          have q1:(0≤(i:Int))=True:=eq_true (by omega)
          have q2:((i:Int) < (V.length:Int))=True:=eq_true (by omega)
          have q3:(i < V.length)=True:=eq_true hlt
          have q4:(v < 0)=False:=eq_false (by omega)
          have q5:((ps.length:Int)≤v)=False:=eq_false (by omega)
          have q6:(v ≥ (ps.length:Int))=False:=eq_false (by omega)
          clear hmem hrg
          go_wp2_with fail
          have hk:=Hi.out
          obtain ⟨k1,rfl⟩:∃ k1,gk=k1+1:=⟨gk - 1,by omega⟩
          go_roundg k1
          case measure=>omega
          case rel=>exact ⟨i+1,by first | rfl | (refine congrArg _ ?_; unfold wrap64; omega),⟨by omega⟩,HBi⟩
        have q2:((i:Int) < (V.length:Int))=False:=eq_false (by omega)
        have q3:(i < V.length)=False:=eq_false hlt
        have HZi:=Az.mk (Kd.V_below HZ6.out HBi.out)
        have hge:=(grown_ev ps (ps.map tcnt) (List.length_map _) (fun n h0 h1=>⟨rd_sizes n h0 h1,HPS.out n h0 h1⟩) _ t.f0 t.f1 t.f2 (Nat.lt_succ_self _) HOK2.out (by have:=HTL.out; omega)).rounds
        rw [HTT.out] at hge
        obtain ⟨kg,hkg⟩:=hge
        have hzl:(ps.map tcnt).length=ps.length:=List.length_map _
        have hg0:=virgationref02_grown.calls kg t.f0 t.f1 A c t.f2 As cs (ps.map tcnt) _ wr (Kd.C_below HR.out HBw.out) HC.out (Kd.V_reads' HZi.out).2.2 (by have:=(Kd.V_reads' HZi.out).2.1; omega) hkg
        rw [hzl] at hg0
        have HGR:=Az.mk hg0
        clear hg0 hkg hzl
        have e0:wr.cell? ⟨g2,0,none⟩=some (.int .i64 t.f0):=(blk_cell S2i.out 0).trans rfl
        have e1:wr.cell? ⟨g2,1,none⟩=some (.int .i64 t.f1):=(blk_cell S2i.out 1).trans rfl
        have e2:wr.cell? ⟨g2,2,none⟩=some (.slice A t.f2.length c):=(blk_cell S2i.out 2).trans rfl
        by_cases hbig:100000 < tcnt (subT ps t)
        · have hr:=HRR.out
          unfold subR at hr
          rw [if_pos hbig] at hr
          injection hr with h1 h2
          subst h1 h2
          have hmn:min (tcnt (subT ps t)) 100001=100001:=by omega
          rw [hmn] at HGR
          clear hbig hmn
          go_wp2_with fail
          (with_reducible refine (HGR.out).mono ?_)
          rintro e w8 ⟨rfl,hb8⟩
          have S48:=Az.mk (bkB S4i.out hb8)
          have HB8:=Az.mk (bst HBw.out hb8)
          clear hb8 e0 e1 e2
          have z0:w8.cell? ⟨g4,0,none⟩=some (.int .i64 0):=(blk_cell S48.out 0).trans rfl
          have z1:w8.cell? ⟨g4,1,none⟩=some (.int .i64 0):=(blk_cell S48.out 1).trans rfl
          have z2:w8.cell? ⟨g4,2,none⟩=some (.slice none 0 0):=(blk_cell S48.out 2).trans rfl
          have f0:=bkF S48.out 0
          have f1:=bkF S48.out 1
          have f2:=bkF S48.out 2
          go_wp2_with fail
          refine bodyPost_ret (results_ct rfl _ _ g4 36 #[.int .i64 0,.int .i64 0,.slice none 0 0] (0,0) _ rfl (blk_set3 S48.out _ _ _) Try.underlying36 rfl (by kernel_rfl)) rfl ?_
          exact ⟨none,0,rfl,Kd.V_nil _ _ _ _ _,below_set3 HB8.out HG4.out _ _ _⟩
        · have hr:=HRR.out
          unfold subR at hr
          rw [if_neg hbig] at hr
          injection hr with h1 h2
          have hre:=(replace_ev ps HPS.out _ t.f0 t.f1 t.f2 (Nat.lt_succ_self _) HOK2.out (by rw [HTT.out]; omega)).rounds
          rw [HTT.out] at hre
          obtain ⟨kr,hkr⟩:=hre
          rw [h1] at hkr hbig HGR
          subst h2
          have HRC:=Az.mk (fun (w':World) (hb:Below w.heap.size w w')=>virgationref02_Replace.calls kr t.f0 t.f1 A c t.f2 Ap cp ps _ _ _ w' (Kd.C_below HR.out hb) HC.out (Kd.C_below HRP.out hb) HCP.out hkr)
          have HRS:=Az.mk hbig
          obtain ⟨mm,hmm⟩:∃ mm,min (tcnt R) 100001=mm:=⟨_,rfl⟩
          rw [hmm] at HGR
          have q7:(100000 < mm)=False:=eq_false (by omega)
          clear hkr hbig h1 hmm
          go_wp2_with fail
          (with_reducible refine (HGR.out).mono ?_)
          rintro e w8 ⟨rfl,hb8⟩
          have S28:=Az.mk (bkB S2i.out hb8)
          have S48:=Az.mk (bkB S4i.out hb8)
          have HB8:=Az.mk (bst HBw.out hb8)
          clear hb8 e0 e1 e2
          have e0:w8.cell? ⟨g2,0,none⟩=some (.int .i64 t.f0):=(blk_cell S28.out 0).trans rfl
          have e1:w8.cell? ⟨g2,1,none⟩=some (.int .i64 t.f1):=(blk_cell S28.out 1).trans rfl
          have e2:w8.cell? ⟨g2,2,none⟩=some (.slice A t.f2.length c):=(blk_cell S28.out 2).trans rfl
          go_wp2_with fail
          (with_reducible refine (HRC.out w8 HB8.out).mono ?_)
          rintro e w9 ⟨v,rfl,hRv,hb9⟩
          obtain ⟨Av,cv,rfl,hV⟩:=V_new hRv
          have HTV:=Az.mk (show Tm w9 (fun k=>w8.heap.size≤k) R Av cv from hV)
          have S49:=Az.mk (bkB S48.out hb9)
          have HB9:=Az.mk (bst HB8.out hb9)
          have HL4:=Az.mk (blk_lt S48.out)
          clear hRv hV hb9 e0 e1 e2
          have z0:w9.cell? ⟨g4,0,none⟩=some (.int .i64 0):=(blk_cell S49.out 0).trans rfl
          have z1:w9.cell? ⟨g4,1,none⟩=some (.int .i64 0):=(blk_cell S49.out 1).trans rfl
          have z2:w9.cell? ⟨g4,2,none⟩=some (.slice none 0 0):=(blk_cell S49.out 2).trans rfl
          have f0:=bkF S49.out 0
          have f1:=bkF S49.out 1
          have f2:=bkF S49.out 2
          go_wp2_with fail
          refine bodyPost_ret (results_ct rfl _ _ g4 36 #[.int .i64 R.f0,.int .i64 R.f1,.slice Av R.f2.length cv] (0,0) _ rfl (blk_set3 S49.out _ _ _) Try.underlying36 rfl (by kernel_rfl)) rfl ?_
          exact ⟨Av,cv,rfl,Tm.mono (Tm.far3 HTV.out (fun k hk=>by have:=HL4.out; have:w8.heap.size≤k:=hk; omega) _ _ _) (fun k hk=>by have:=HB8.out.size; have:w8.heap.size≤k:=hk; omega),below_set3 HB9.out HG4.out _ _ _⟩
    have hk:=Hi.out
    obtain ⟨k1,rfl⟩:∃ k1,gk=k1+1:=⟨gk - 1,by omega⟩
    clear hk
    have hil:=HL.out
    obtain ⟨ad,A4,c4,he,hx2,hx3,hx4,hl4,hC4⟩:=at_T36 (Kd.C_below HRP.out HB.out) (i:Int) (by omega) (by omega)
    cases he
    rw [Int.toNat_natCast] at hx2 hx3 hx4
    have HC4:=Az.mk hC4
    have Hl4:=Az.mk hl4
    have HSN:=Az.mk (sizes_take hlt)
    have HXC:=Az.mk (HPS.out (i:Int) (by omega) (by omega))
    have q1:(0≤(i:Int))=True:=eq_true (by omega)
    have q2:((i:Int) < (ps.length:Int))=True:=eq_true (by omega)
    have q3:(i < ps.length)=True:=eq_true (by omega)
    clear hl4 hC4
    generalize rd_T36 ps (i:Int)=x at *
    go_upto_region 7 with (
      ((with_reducible refine gate_dst (N:=8) rfl ?_)
       refine box_event ?hg (N:=8) ?hd (cs:=#[.int .i64 0,.int .i64 0,.slice none 0 0]) (t:=36) ?hr ?_
       (case hd=>rfl)
       (case hg=>rfl)
       (case hr=>first | (go_simp; done) | (go_simp; rfl))
       intro gi hg_gi w6 hbox hbb
       have hgw:wr.heap.size≤gi:=by omega
       have Hbw:=Az.mk (below_set3 hbb hgw (.int .i64 x.f0) (.int .i64 x.f1) (.slice A4 x.f2.length c4))
       have Sgi:=Az.mk (blk_set3 hbox (.int .i64 x.f0) (.int .i64 x.f1) (.slice A4 x.f2.length c4))
       have hcz0:=(blk_cell hbox 0).trans rfl
       have hfz0:=bkF hbox 0
       have hcz1:=(blk_cell hbox 1).trans rfl
       have hfz1:=bkF hbox 1
       have hcz2:=(blk_cell hbox 2).trans rfl
       have hfz2:=bkF hbox 2
       clear hgw
       clear hbox hbb hg_gi))
    clear hcz0 hcz1 hcz2 hfz0 hfz1 hfz2 hx2 hx3 hx4
    generalize (((w6.setCell ⟨gi,0,none⟩ (.int .i64 x.f0)).setCell ⟨gi,1,none⟩ (.int .i64 x.f1)).setCell ⟨gi,2,none⟩ (.slice A4 x.f2.length c4))=wq at *
    have n0:wq.cell? ⟨gi,0,none⟩=some (.int .i64 x.f0):=(blk_cell Sgi.out 0).trans rfl
    have n1:wq.cell? ⟨gi,1,none⟩=some (.int .i64 x.f1):=(blk_cell Sgi.out 1).trans rfl
    have n2:wq.cell? ⟨gi,2,none⟩=some (.slice A4 x.f2.length c4):=(blk_cell Sgi.out 2).trans rfl
    have HBq:=Az.mk (bst HB.out Hbw.out)
    go_wp2_with fail
    (with_reducible refine (nodes_at (Kd.C_below HC4.out Hbw.out) Hl4.out HXC.out).mono ?_)
    rintro e w8 ⟨rfl,hb8⟩
    have HB8:=Az.mk (bst HBq.out hb8)
    have HZ8:=Az.mk (Kd.R_below (Kd.R_below HZ.out Hbw.out) hb8)
    have S28:=Az.mk (bkB (bkB S2.out Hbw.out) hb8)
    have S48:=Az.mk (bkB (bkB S4.out Hbw.out) hb8)
    clear hb8 n0 n1 n2 HZ S2 S4 HB HBq
    go_wp2_with (at_builtin; refine holdX ?_)
    unfold HoldX
    have hz8:=HZ8.out
    refine Kd.R_append (Kd.int .i64) (w0:=w) w.heap.size rfl (.tmp 20) (.tmp 23) 26 3 (.int .i64 0) 8 rfl Try.underlying26 info3 rfl (by decide) (by omega) (.slice As i cs) ((ps.take i).map tcnt) (tcnt x) [.int .i64 (tcnt x)] (fun _=>True) (fun _=>False) rfl rfl rfl (fun _ hk=>hk.elim) (fun _ _=>trivial) hz8 HB8.out HB8.out.size (by rw [List.length_map,List.length_take]; have:=HL.out; omega) ?_
    intro v2 w9 hrf hb9 hg9 hat9
    rw [HSN.out] at hrf
    obtain ⟨A5,c5,e5⟩:=Kd.R_slice hrf
    rw [List.length_map,List.length_take,Nat.min_eq_left (by omega)] at e5
    subst e5
    have tf:=Kd.R_typed hz8
    have S29:=Az.mk (grownT S28.out hg9 (fun k hk=>by obtain ⟨c,hc⟩:=tf k hk; exact ⟨3,c,by decide,hc⟩))
    have S49:=Az.mk (grownT S48.out hg9 (fun k hk=>by obtain ⟨c,hc⟩:=tf k hk; exact ⟨3,c,by decide,hc⟩))
    have HZ9:=Az.mk hrf
    have HB9:=Az.mk hb9
    have hzc:=(Kd.R_reads' hrf).2.2
    obtain ⟨a9,he9,hx9⟩:=Kd.at_int hzc (i:Int) (by omega) (by rw [List.length_map,List.length_take]; omega)
    cases he9
    rw [Int.toNat_natCast] at hx9
    have hrd:rd ((ps.take (i+1)).map tcnt) (i:Int)=tcnt x:=by
      rw [← HSN.out]
      unfold rd
      rw [Int.toNat_natCast,List.getD_eq_getElem?_getD,List.getElem?_append_right (by rw [List.length_map,List.length_take]; omega)]
      rw [List.length_map,List.length_take,Nat.min_eq_left (by omega),Nat.sub_self]
      rfl
    rw [hrd] at hx9
    have hxc:=HXC.out
    have r1:(100000 < tcnt x)=False:=eq_false (by omega)
    have r2:(i < i+1)=True:=eq_true (by omega)
    have r3:((i:Int) < (i:Int)+1)=True:=eq_true (by omega)
    have r4:((i:Int) < ((i+1:Nat):Int))=True:=eq_true (by omega)
    clear hrf hb9 hg9 hat9 tf hzc hrd hz8 HZ8 S28 S48 HB8 hxc
    go_wp2_with fail
    go_roundg k1
    case measure=>omega
    case rel=>exact ⟨i+1,_,c5,by first | rfl | (simp; done) | (simp [*]; done),by first | rfl | (refine congrArg _ ?_; unfold wrap64; omega),⟨by have:=Hi.out; omega⟩,HZ9,S29,S49,HB9⟩
end Go.Proofs.Ytkgknidogelffaa.I
namespace Go.Proofs.Ytkgknidogelffaa.I
open Go.RowKit Go.Proofs.YtkgknidogelffaaW.PrintWords Go.Proofs.YtkgknidogelffaaW.PrintLast Go.Proofs.YtkgknidogelffaaW.PrintMore
attribute [local go_sem] max2_int min2_int max_two min_two max_three min_three max_four min_four
set_option linter.unusedVariables false
set_option maxRecDepth 100000
set_option linter.unusedSimpArgs false
def stB (l0:List S84) (l1:List S41) (t:S36):Int:=if schB l0 l1=true then (if 100000 < tcnt t then 3 else if closedB l0 l1 t=true then 0 else 6) else 7
def stepF (l0:List S84) (l1:List S41) (t:S36):S36 × Bool × Int:=if stB l0 l1 t=0 then (if 100000 < tcnt (nextT l1 t) then (⟨0,0,[]⟩,false,3) else (nextT l1 t,decide (t.f0=1),0)) else (⟨0,0,[]⟩,false,stB l0 l1 t)
theorem stB_zero {l0:List S84} {l1:List S41} {t:S36} (h:stB l0 l1 t=0):schB l0 l1=true∧tcnt t≤100000∧closedB l0 l1 t=true:=by
  unfold stB at h
  split at h
  · rename_i h1
    split at h
    · cases h
    · rename_i h2
      split at h
      · rename_i h3
        exact ⟨h1,by omega,h3⟩
      · cases h
  · cases h
theorem nextT_done {l1:List S41} {x:S36} (h:x.f0≠1):nextT l1 x=x:=by unfold nextT; rw [if_neg h]
theorem stepF_large {l0:List S84} {l1:List S41} {x:S36} (h:stB l0 l1 x=0) (ht:100000 < tcnt (nextT l1 x)):stepF l0 l1 x=(⟨0,0,[]⟩,false,3):=by unfold stepF; rw [if_pos h,if_pos ht]
theorem stepF_next {l0:List S84} {l1:List S41} {x:S36} (h:stB l0 l1 x=0) (ht:¬ 100000 < tcnt (nextT l1 x)):stepF l0 l1 x=(nextT l1 x,decide (x.f0=1),0):=by unfold stepF; rw [if_pos h,if_neg ht]
theorem stB_of {l0:List S84} {l1:List S41} {x:S36} (hs:schB l0 l1=true) (ht:tcnt x≤100000) (hc:closedB l0 l1 x=true):stB l0 l1 x=0:=by
  unfold stB
  rw [if_pos hs,if_neg (by omega),if_pos hc]
theorem tcnt_rd {l:List S36} {n:Int} (h0:0≤n) (h1:n < (l.length:Int)):tcnt (rd_T36 l n)≤tcntL l:=by
  have hn:n.toNat < l.length:=by omega
  have e:rd_T36 l n=l[n.toNat]:=by unfold rd_T36; rw [List.getD_eq_getElem?_getD,List.getElem?_eq_getElem hn]; rfl
  rw [e]
  exact tcnt_at l _ hn
set_option maxHeartbeats 16000000 in
theorem next_at {w:World} {A0:Option Addr} {c0:Nat} {l0:List S84} {A1:Option Addr} {c1:Nat} {l1:List S41} {ok:Nat→Prop} {x:S36} {A:Option Addr} {c:Nat} (hs:Sch w A0 c0 l0 A1 c1 l1) (ht:Tm w ok x A c) (h0:stB l0 l1 x=0) (y:S36) (m:Bool) (z:Int) (hz:stepF l0 l1 x=(y,m,z)) :
    Calls Try.prog 58 #[.agg #[.slice A0 l0.length c0,.slice A1 l1.length c1],.agg #[.int .i64 x.f0,.int .i64 x.f1,.slice A x.f2.length c]] w fun e w'=>∃ Av cv,e=.returned (.tuple #[.agg #[.int .i64 y.f0,.int .i64 y.f1,.slice Av y.f2.length cv],.bool m,.int .i64 z])∧Tm w' (fun k=>w.heap.size≤k) y Av cv∧Below w.heap.size w w':=by
  have hu25:=Try.underlying25
  have hu36:=Try.underlying36
  have hu41:=Try.underlying41
  obtain ⟨hsch,htc,hcl⟩:=stB_zero h0
  have htl:=tcnt_f2 x
  have HRDY:=Az.mk (ready_of hsch hcl)
  have HBODY:=Az.mk (sch_bodies hsch).2
  have HXX:=Az.mk (show (⟨x.f0,x.f1,x.f2⟩:S36)=x from by cases x; rfl)
  have HTL:=Az.mk (show tcntL x.f2≤100000 from by omega)
  have HTC:=Az.mk htc
  have H0:=Az.mk h0
  have HS:=Az.mk hs
  have HT:=Az.mk ht
  have HZ:=Az.mk hz
  clear hsch htc hcl htl hs ht hz h0
  go_enter Try.func58,Try.ntmps58
  go_upto_region 1 with (first
    | ((with_reducible refine gate_dst (N:=2) rfl ?_)
       refine box_event ?hg (N:=2) ?hd (cs:=#[.slice A0 l0.length c0,.slice A1 l1.length c1]) (t:=25) ?hr ?_
       (case hd=>rfl)
       (case hg=>rfl)
       (case hr=>first | (go_simp; done) | (go_simp; rfl))
       intro g2 hg_g2 w2 hbox hbb
       have S22:=Az.mk hbox
       have HB2:=Az.mk hbb
       clear hbox hbb hg_g2)
    | ((with_reducible refine gate_dst (N:=3) rfl ?_)
       refine box_event ?hg (N:=3) ?hd (cs:=#[.int .i64 x.f0,.int .i64 x.f1,.slice A x.f2.length c]) (t:=36) ?hr ?_
       (case hd=>rfl)
       (case hg=>rfl)
       (case hr=>first | (go_simp; done) | (go_simp; rfl))
       intro g3 hg_g3 w3 hbox hbb
       have S23:=Az.mk (bkB S22.out hbb)
       have S33:=Az.mk hbox
       have HB3:=Az.mk (bst HB2.out hbb)
       clear S22 HB2
       clear hbox hbb hg_g3)
    | ((with_reducible refine gate_dst (N:=4) rfl ?_)
       refine box_event ?hg (N:=4) ?hd (cs:=#[.int .i64 0,.int .i64 0,.slice none 0 0]) (t:=36) ?hr ?_
       (case hd=>rfl)
       (case hg=>rfl)
       (case hr=>first | (go_simp; done) | (go_simp; rfl))
       intro g4 hg_g4 w4 hbox hbb
       have S2:=Az.mk (bkB S23.out hbb)
       have S3:=Az.mk (bkB S33.out hbb)
       have S4:=Az.mk hbox
       have HB4:=Az.mk (bst HB3.out hbb)
       have HG4:=Az.mk (show w.heap.size≤g4 from by have:=HB3.out.size; omega)
       have HL4:=Az.mk (show g4 < w4.heap.size from blk_lt hbox)
       clear S23 S33 HB3
       clear hbox hbb hg_g4))
  have e0:w4.cell? ⟨g2,0,none⟩=some (.slice A0 l0.length c0):=(blk_cell S2.out 0).trans rfl
  have e1:w4.cell? ⟨g2,1,none⟩=some (.slice A1 l1.length c1):=(blk_cell S2.out 1).trans rfl
  have m0:w4.cell? ⟨g3,0,none⟩=some (.int .i64 x.f0):=(blk_cell S3.out 0).trans rfl
  have m1:w4.cell? ⟨g3,1,none⟩=some (.int .i64 x.f1):=(blk_cell S3.out 1).trans rfl
  have m2:w4.cell? ⟨g3,2,none⟩=some (.slice A x.f2.length c):=(blk_cell S3.out 2).trans rfl
  by_cases hk:x.f0=1
  rotate_left
  · have hn:=nextT_done (l1:=l1) hk
    have hf:=HZ.out
    rw [stepF_next H0.out (by rw [hn]; have:=HTC.out; omega),hn,decide_eq_false hk] at hf
    injection hf with h1 h2
    injection h2 with h2 h3
    subst h1 h2 h3
    have q1:(x.f0 != 1)=true:=bne_iff_ne.2 hk
    have q2:(x.f0 == 1)=false:=beq_eq_false_iff_ne.2 hk
    clear hk hn HZ
    go_wp2_with fail
    (with_reducible refine (tcopy_calls _ x.f0 x.f1 x.f2 A c w4 (Nat.lt_succ_self _) (by have:=HTL.out; omega) (HT.out.below HB4.out).c HT.out.le).mono ?_)
    rintro e w9 ⟨v,rfl,hRv,hb9⟩
    obtain ⟨Av,cv,rfl,hV⟩:=V_new hRv
    have HTV:=Az.mk (show Tm w9 (fun k=>w4.heap.size≤k) x Av cv from hV)
    have S49:=Az.mk (bkB S4.out hb9)
    have HB9:=Az.mk (bst HB4.out hb9)
    clear hRv hV hb9 e0 e1 m0 m1 m2
    have z0:w9.cell? ⟨g4,0,none⟩=some (.int .i64 0):=(blk_cell S49.out 0).trans rfl
    have z1:w9.cell? ⟨g4,1,none⟩=some (.int .i64 0):=(blk_cell S49.out 1).trans rfl
    have z2:w9.cell? ⟨g4,2,none⟩=some (.slice none 0 0):=(blk_cell S49.out 2).trans rfl
    have f0:=bkF S49.out 0
    have f1:=bkF S49.out 1
    have f2:=bkF S49.out 2
    go_wp2_with fail
    refine bodyPost_ret (results_ctt rfl _ _ g4 36 #[.int .i64 x.f0,.int .i64 x.f1,.slice Av x.f2.length cv] (0,0) _ rfl (blk_set3 S49.out _ _ _) Try.underlying36 rfl (by kernel_rfl)) rfl ?_
    exact ⟨Av,cv,rfl,Tm.mono (Tm.far3 HTV.out (fun k hk=>by have:=HL4.out; have:w4.heap.size≤k:=hk; omega) _ _ _) (fun k hk=>by have:=HB4.out.size; have:w4.heap.size≤k:=hk; omega),below_set3 HB9.out HG4.out _ _ _⟩
  obtain ⟨hn0,hn1,hok⟩:=HRDY.out hk
  obtain ⟨ad,A3,c3,A4,c4,he,hx0,hx1,hx2,hx3,hx4,hl3,hC3,hl4,hC4⟩:=at_T41 (Kd.C_below HS.out.r1 HB4.out) x.f1 hn0 hn1
  subst he
  have hmem:rd_T41 l1 x.f1 ∈ l1:=by
    unfold rd_T41
    rw [List.getD_eq_getElem?_getD,List.getElem?_eq_getElem (by omega)]
    exact List.getElem_mem _
  have hbt:=HBODY.out _ hmem
  have hnx:nextT l1 x=subT x.f2 (rd_T41 l1 x.f1).f2:=by
    unfold nextT
    rw [if_pos hk]
  have hf:=HZ.out
  unfold stepF at hf
  rw [if_pos H0.out,hnx,decide_eq_true hk] at hf
  have hlx:x.f2.length≤100000:=by have:=tcntL_ge x.f2; have:=HTL.out; omega
  have HSUB:=Az.mk (fun (w':World) (hb:Below w4.heap.size w4 w') (R:S36) (er:Int) (hR:subR x.f2 (rd_T41 l1 x.f1).f2=(R,er))=>subst_calls (rd_T41 l1 x.f1).f2 A4 c4 x.f2 A c w' hok (by omega) (fun n h0 h1=>by have:=tcnt_rd h0 h1; have:=HTL.out; omega) hlx (Kd.C_below hC4 hb) hl4 (HT.out.below (bst HB4.out hb)).c HT.out.le R er hR)
  obtain ⟨⟨R,er⟩,hR⟩:∃ F,subR x.f2 (rd_T41 l1 x.f1).f2=F:=⟨_,rfl⟩
  have hyz:y=R∧z=er∧m=(er == 0):=by
    unfold subR at hR
    by_cases hbg:100000 < tcnt (subT x.f2 (rd_T41 l1 x.f1).f2)
    · rw [if_pos hbg] at hR hf
      injection hR with r1 r2
      injection hf with f1 f2
      injection f2 with f2 f3
      subst r1 r2 f1 f2 f3
      exact ⟨rfl,rfl,rfl⟩
    · rw [if_neg hbg] at hR hf
      injection hR with r1 r2
      injection hf with f1 f2
      injection f2 with f2 f3
      subst r1 r2 f1 f2 f3
      exact ⟨rfl,rfl,rfl⟩
  obtain ⟨rfl,rfl,rfl⟩:=hyz
  have HRR:=Az.mk (fun (w':World) (hb:Below w4.heap.size w4 w')=>HSUB.out w' hb _ _ hR)
  have q1:(x.f0 != 1)=false:=bne_eq_false_iff_eq.2 hk
  have q2:(x.f0 == 1)=true:=beq_iff_eq.2 hk
  have q3:(0≤x.f1)=True:=eq_true hn0
  have q4:(x.f1 < (l1.length:Int))=True:=eq_true hn1
  have q5:(x.f1.toNat < l1.length)=True:=eq_true (by omega)
  clear hf hnx hbt hmem hok hC3 hl3 hC4 hl4 hR HSUB hlx hn0 hn1 hk
  generalize (rd_T41 l1 x.f1).f2=b at *
  go_upto_region 3 with fail
  try simp only [Act.put,List.setIfInBounds_toArray,List.set_cons_succ,List.set_cons_zero]
  have z0':w4.cell? ⟨g4,0,none⟩=some (.int .i64 0):=(blk_cell S4.out 0).trans rfl
  have z1':w4.cell? ⟨g4,1,none⟩=some (.int .i64 0):=(blk_cell S4.out 1).trans rfl
  have z2':w4.cell? ⟨g4,2,none⟩=some (.slice none 0 0):=(blk_cell S4.out 2).trans rfl
  go_cut [6] from 13 to 24 (fun v6 wc=>v6=.int .i64 z∧Az (∃ Av cv,wc.heap[g4]?=some (.cells #[.int .i64 y.f0,.int .i64 y.f1,.slice Av y.f2.length cv] 36 (0,0))∧Tm wc (fun k=>w4.heap.size≤k) y Av cv)∧Az (Below w.heap.size w wc))
  case first =>
    go_region_law
      (go_simp
       go_at_call 70
       (with_reducible refine (HRR.out w4.drew (below_drew (Below.refl _ _))).mono ?_)
       rintro e9 wA ⟨Av,cv,rfl,hT,hbA⟩
       have HTA:=Az.mk (show Tm wA (fun k=>w4.heap.size≤k) y Av cv from hT)
       have S4A:=Az.mk (bkB (blk_drew S4.out) hbA)
       have HBA:=Az.mk (bst (below_drew HB4.out) hbA)
       have k120:=(blk_cell S4A.out 0).trans rfl
       have k67:=(blk_cell S4A.out 1).trans rfl
       have k121:=(blk_cell S4A.out 2).trans rfl
       have f90:=bkF S4A.out 0
       have f91:=bkF S4A.out 1
       have f92:=bkF S4A.out 2
       clear hT hbA)
    all_goals (
      go_wp2_with fail
      go_meet
      exact ⟨by first | rfl | (go_simp; done) | (go_simp; rfl) | (simp [Act.put,Act.eval]; done),⟨Av,cv,blk_set3 S4A.out _ _ _,Tm.far3 HTA.out (fun k hk=>by have:=HL4.out; have:w4.heap.size≤k:=hk; omega) _ _ _⟩,⟨below_set3 HBA.out HG4.out _ _ _⟩⟩)
  case rest =>
    obtain ⟨rfl,HM,HBc⟩:=hcut
    obtain ⟨Av,cv,s4,hT⟩:=HM.out
    have S4c:=Az.mk s4
    have HTc:=Az.mk hT
    clear s4 hT HM e0 e1 m0 m1 m2 z0' z1' z2' hx0 hx1 hx2 hx3 hx4 q1 q2 q3 q4 q5
    have z0:wc.cell? ⟨g4,0,none⟩=some (.int .i64 y.f0):=(blk_cell S4c.out 0).trans rfl
    have z1:wc.cell? ⟨g4,1,none⟩=some (.int .i64 y.f1):=(blk_cell S4c.out 1).trans rfl
    have z2:wc.cell? ⟨g4,2,none⟩=some (.slice Av y.f2.length cv):=(blk_cell S4c.out 2).trans rfl
    have f0:=bkF S4c.out 0
    have f1:=bkF S4c.out 1
    have f2:=bkF S4c.out 2
    go_wp2_with fail
    refine bodyPost_ret (results_ctt rfl _ _ g4 36 #[.int .i64 y.f0,.int .i64 y.f1,.slice Av y.f2.length cv] (0,0) _ rfl (blk_set3 S4c.out _ _ _) Try.underlying36 rfl (by kernel_rfl)) rfl ?_
    exact ⟨Av,cv,by first | rfl | (simp; done),Tm.mono (Tm.far3 HTc.out (fun k hk=>by have:=HL4.out; have:w4.heap.size≤k:=hk; omega) _ _ _) (fun k hk=>by have:=HB4.out.size; have:w4.heap.size≤k:=hk; omega),below_set3 HBc.out HG4.out _ _ _⟩
end Go.Proofs.Ytkgknidogelffaa.I
namespace Go.Proofs.Ytkgknidogelffaa.I
open Go.RowKit Go.Proofs.YtkgknidogelffaaW.PrintWords Go.Proofs.YtkgknidogelffaaW.PrintLast Go.Proofs.YtkgknidogelffaaW.PrintMore
attribute [local go_sem] max2_int min2_int max_two min_two max_three min_three max_four min_four
set_option linter.unusedVariables false
set_option maxRecDepth 100000
set_option linter.unusedSimpArgs false
structure RM where
  path:List Int
  t:S36
  known:Bool
  steps:Int
  lost:Bool
def rmC (a0 a1:Value) (r:RM) (Ap:Option Addr) (cp:Nat) (At:Option Addr) (ct:Nat):Array Value:=#[a0,a1,.slice Ap r.path.length cp,.int .i64 r.t.f0,.int .i64 r.t.f1,.slice At r.t.f2.length ct,.bool r.known,.int .i64 r.steps,.bool r.lost]
def rm0:RM:=⟨[],⟨1,0,[]⟩,false,0,false⟩
set_option maxHeartbeats 8000000 in
theorem refnew_ok (A0:Option Addr) (c0:Nat) (l0:List S84) (A1:Option Addr) (c1:Nat) (l1:List S41) (w:World) (hs:Sch w A0 c0 l0 A1 c1 l1) (hb:schB l0 l1=true) :
    Calls Try.prog 17 #[.agg #[.slice A0 l0.length c0,.slice A1 l1.length c1]] w fun e w'=>e=.returned (.tuple #[.agg (rmC (.slice A0 l0.length c0) (.slice A1 l1.length c1) rm0 none 0 none 0),.int .i64 0])∧Below w.heap.size w w':=by
  have hu25:=Try.underlying25
  have hu51:=Try.underlying51
  have hu36:=Try.underlying36
  have HS:=Az.mk hs
  have HB:=Az.mk hb
  clear hs hb
  go_enter Try.func17,Try.ntmps17
  go_wp2_with (first
    | ((with_reducible refine gate_dst (N:=1) rfl ?_)
       refine box_event ?hg (N:=1) ?hd (cs:=#[.slice A0 l0.length c0,.slice A1 l1.length c1]) (t:=25) ?hr ?_
       (case hd=>rfl)
       (case hg=>rfl)
       (case hr=>first | (go_simp; done) | (go_simp; rfl))
       intro g1 hg1 w1 hbox hb1
       have S1:=Az.mk hbox
       have HB1:=Az.mk hb1
       clear hbox hb1 hg1)
    | ((with_reducible refine gate_dst (N:=2) rfl ?_)
       refine box_event ?hg (N:=2) ?hd (cs:=#[.slice none 0 0,.slice none 0 0,.slice none 0 0,.int .i64 0,.int .i64 0,.slice none 0 0,.bool false,.int .i64 0,.bool false]) (t:=51) ?hr ?_
       (case hd=>rfl)
       (case hg=>rfl)
       (case hr=>first | (go_simp; done) | (go_simp; rfl))
       intro g2 hg2 w2 hbox hb2
       have S2:=Az.mk hbox
       have S12:=Az.mk (bkB S1.out hb2)
       have HB2:=Az.mk (bst HB1.out hb2)
       have HG2:=Az.mk (show w.heap.size≤g2 from by have:=HB1.out.size; omega)
       have e0:w2.cell? ⟨g1,0,none⟩=some (.slice A0 l0.length c0):=(blk_cell S12.out 0).trans rfl
       have e1:w2.cell? ⟨g1,1,none⟩=some (.slice A1 l1.length c1):=(blk_cell S12.out 1).trans rfl
       clear hbox hb2 hg2 S1))
  (with_reducible refine (refis_calls A0 c0 l0 A1 c1 l1 w2 (HS.out.below HB2.out).r0 HS.out.h0 (HS.out.below HB2.out).r1 HS.out.h1).mono ?_)
  rintro x w3 ⟨rfl,hb3⟩
  rw [HB.out]
  have HB3:=Az.mk (bst HB2.out hb3)
  have S13:=Az.mk (bkB S12.out hb3)
  have S23:=Az.mk (bkB S2.out hb3)
  have f0:w3.cell? ⟨g1,0,none⟩=some (.slice A0 l0.length c0):=(blk_cell S13.out 0).trans rfl
  have f1:w3.cell? ⟨g1,1,none⟩=some (.slice A1 l1.length c1):=(blk_cell S13.out 1).trans rfl
  have hcz0:w3.cell? ⟨g2,0,none⟩=some (.slice none 0 0):=(blk_cell S23.out 0).trans rfl
  have hfz0:w3.frozen? ⟨g2,0,none⟩=false:=bkF S23.out 0
  have hcz1:w3.cell? ⟨g2,1,none⟩=some (.slice none 0 0):=(blk_cell S23.out 1).trans rfl
  have hfz1:w3.frozen? ⟨g2,1,none⟩=false:=bkF S23.out 1
  have hcz2:w3.cell? ⟨g2,2,none⟩=some (.slice none 0 0):=(blk_cell S23.out 2).trans rfl
  have hfz2:w3.frozen? ⟨g2,2,none⟩=false:=bkF S23.out 2
  have hcz3:w3.cell? ⟨g2,3,none⟩=some (.int .i64 0):=(blk_cell S23.out 3).trans rfl
  have hfz3:w3.frozen? ⟨g2,3,none⟩=false:=bkF S23.out 3
  have hcz4:w3.cell? ⟨g2,4,none⟩=some (.int .i64 0):=(blk_cell S23.out 4).trans rfl
  have hfz4:w3.frozen? ⟨g2,4,none⟩=false:=bkF S23.out 4
  have hcz5:w3.cell? ⟨g2,5,none⟩=some (.slice none 0 0):=(blk_cell S23.out 5).trans rfl
  have hfz5:w3.frozen? ⟨g2,5,none⟩=false:=bkF S23.out 5
  have hcz6:w3.cell? ⟨g2,6,none⟩=some (.bool false):=(blk_cell S23.out 6).trans rfl
  have hfz6:w3.frozen? ⟨g2,6,none⟩=false:=bkF S23.out 6
  have hcz7:w3.cell? ⟨g2,7,none⟩=some (.int .i64 0):=(blk_cell S23.out 7).trans rfl
  have hfz7:w3.frozen? ⟨g2,7,none⟩=false:=bkF S23.out 7
  have hcz8:w3.cell? ⟨g2,8,none⟩=some (.bool false):=(blk_cell S23.out 8).trans rfl
  have hfz8:w3.frozen? ⟨g2,8,none⟩=false:=bkF S23.out 8
  clear hb3 e0 e1 S12 S2 HB2
  go_wp2_with fail
  have hbox:=S23.out
  refine bodyPost_ret (results_ct rfl _ _ g2 51 (rmC (.slice A0 l0.length c0) (.slice A1 l1.length c1) rm0 none 0 none 0) (0,0) _ rfl (blk_put (cs':=#[.slice A0 l0.length c0,.slice A1 l1.length c1,.slice none 0 0,.int .i64 1,.int .i64 0,.slice none 0 0,.bool false,.int .i64 0,.bool false]) (blk_put (cs':=#[.slice A0 l0.length c0,.slice A1 l1.length c1,.slice none 0 0,.int .i64 1,.int .i64 0,.slice none 0 0,.bool false,.int .i64 0,.bool false]) (blk_put (cs':=#[.slice A0 l0.length c0,.slice A1 l1.length c1,.slice none 0 0,.int .i64 1,.int .i64 0,.slice none 0 0,.bool false,.int .i64 0,.bool false]) (blk_put (cs':=#[.slice A0 l0.length c0,.slice A1 l1.length c1,.slice none 0 0,.int .i64 1,.int .i64 0,.slice none 0 0,.bool false,.int .i64 0,.bool false]) (blk_put (cs':=#[.slice A0 l0.length c0,.slice A1 l1.length c1,.slice none 0 0,.int .i64 1,.int .i64 0,.slice none 0 0,.bool false,.int .i64 0,.bool false]) (blk_put (cs':=#[.slice A0 l0.length c0,.slice A1 l1.length c1,.slice none 0 0,.int .i64 1,.int .i64 0,.slice none 0 0,.bool false,.int .i64 0,.bool false]) (blk_put (cs':=#[.slice A0 l0.length c0,.slice A1 l1.length c1,.slice none 0 0,.int .i64 0,.int .i64 0,.slice none 0 0,.bool false,.int .i64 0,.bool false]) (blk_put (cs':=#[.slice A0 l0.length c0,.slice A1 l1.length c1,.slice none 0 0,.int .i64 0,.int .i64 0,.slice none 0 0,.bool false,.int .i64 0,.bool false]) (blk_put (cs':=#[.slice A0 l0.length c0,.slice none 0 0,.slice none 0 0,.int .i64 0,.int .i64 0,.slice none 0 0,.bool false,.int .i64 0,.bool false]) (hbox) 0 (.slice A0 l0.length c0) rfl) 1 (.slice A1 l1.length c1) rfl) 2 (.slice none 0 0) rfl) 3 (.int .i64 1) rfl) 4 (.int .i64 0) rfl) 5 (.slice none 0 0) rfl) 6 (.bool false) rfl) 7 (.int .i64 0) rfl) 8 (.bool false) rfl) Try.underlying51 rfl (by kernel_rfl)) rfl ?_
  exact ⟨rfl,bset (bset (bset (bset (bset (bset (bset (bset (bset HB3.out HG2.out) HG2.out) HG2.out) HG2.out) HG2.out) HG2.out) HG2.out) HG2.out) HG2.out⟩
end Go.Proofs.Ytkgknidogelffaa.I
namespace Go.Proofs.Ytkgknidogelffaa.I
open Go.RowKit Go.Proofs.YtkgknidogelffaaW.PrintWords Go.Proofs.YtkgknidogelffaaW.PrintLast Go.Proofs.YtkgknidogelffaaW.PrintMore
set_option linter.unusedVariables false
set_option maxRecDepth 100000
def refG (l1:List S41):Nat→Int→RM→RM × Int × Int × Int
  | 0,n,r=>if r.t.f0=1 then (r,0,0,8) else (⟨r.path,r.t,true,r.steps,r.lost⟩,r.t.f1,n,0)
  | k+1,n,r=>if r.t.f0=1 then (if 100000 < tcnt (nextT l1 r.t) then (⟨r.path,r.t,r.known,r.steps,true⟩,0,0,3) else refG l1 k (n+1) ⟨r.path,nextT l1 r.t,r.known,r.steps+1,r.lost⟩) else (⟨r.path,r.t,true,r.steps,r.lost⟩,r.t.f1,n,0)
theorem refG_done (l1:List S41) (m:Nat) (n:Int) (r:RM) (h:r.t.f0≠1):refG l1 m n r=(⟨r.path,r.t,true,r.steps,r.lost⟩,r.t.f1,n,0):=by
  cases m with
  | zero=>rw [refG,if_neg h]
  | succ m=>rw [refG,if_neg h]
theorem goM_ref {l0:List S84} {l1:List S41} (hs:schB l0 l1=true) (fuel:Int) (path:List Int):∀ (k:Nat) (n used:Int) (c:Clo) (st:List Clo) (g:GoR) (steps P:Int),Snd l0 l1 c st→n≤fuel→goM l1 fuel k n used c st=some g→stB l0 l1 (denS c st)=0→used - (st.length:Int)≤P→P+60*(fuel - n)≤1048000 →
    ∃ R a m e,refG l1 (fuel - n).toNat n ⟨path,denS c st,false,steps,false⟩=(R,a,m,e)∧(R.lost=true∨(g.a=a∧g.n=m∧g.e=e∧g.full=false∧R.path=path∧R.lost=false∧R.known=g.known∧stB l0 l1 R.t=0∧steps≤R.steps∧g.used - (g.st.length:Int)≤P+60*(R.steps - steps)∧(g.known=true→R.t=⟨2,g.c.t.f1,denL g.st⟩)∧(g.known=false→R.t=denS g.c g.st)))
  | 0,n,used,c,st,g,steps,P,h,hn,hr,hb,hu,hP=>by rw [goM] at hr; cases hr
  | k+1,n,used,c,st,g,steps,P,h,hn,hr,hb,hu,hP=>by
    have hl:=snd_len hs h
    have hc:=newC_ge c.t.f2
    have hpl:((pushC c st).length:Int)=c.t.f2.length+st.length:=by rw [push_len]; omega
    rw [goM] at hr
    rw [if_neg (by omega)] at hr
    by_cases h0:c.t.f0=0
    · rw [if_pos h0] at hr
      obtain ⟨_,_,h2,h3,_⟩:=snd_var h h0
      have:=goM_ref hs fuel path k n (used+newC c.t.f2) _ _ g steps P h2 hn hr (by rw [h3]; exact hb) (by omega) hP
      rw [h3] at this
      exact this
    rw [if_neg h0] at hr
    have hp:=denS_parts (st:=st) h0 h.c
    by_cases hf:c.t.f0=1
    · rw [if_pos hf] at hr
      have ht1:(denS c st).f0=1:=by rw [hp]; exact hf
      by_cases hq:n=fuel
      · rw [if_pos hq] at hr
        injection hr with hr
        subst hr
        subst hq
        refine ⟨_,_,_,_,by rw [show (n - n).toNat=0 from by omega,refG,if_pos ht1],.inr ⟨rfl,rfl,rfl,rfl,rfl,rfl,rfl,hb,Int.le_refl _,?_,fun h=>(by cases h),fun _=>rfl⟩⟩
        show used - (st.length:Int)≤P+60*(steps - steps)
        omega
      rw [if_neg hq] at hr
      obtain ⟨_,_,e1,e2,e3⟩:=snd_fun hs h hf
      rw [← e1,List.take_of_length_le (Nat.le_refl _),List.drop_eq_nil_of_le (Nat.le_refl _)] at hr
      rw [show (fuel - n).toNat=(fuel - (n+1)).toNat+1 from by omega,refG,if_pos ht1]
      by_cases hL:100000 < tcnt (nextT l1 (denS c st))
      · rw [if_pos hL]
        exact ⟨_,_,_,_,rfl,.inl rfl⟩
      rw [if_neg hL]
      have hb2:stB l0 l1 (nextT l1 (denS c st))=0:=stB_of hs (by omega) (closed_next hs (stB_zero hb).2.2)
      obtain ⟨R,a,m,e,f1,f2⟩:=goM_ref hs fuel path k (n+1) (used+newC c.t.f2+1) _ _ g (steps+1) (P+60) e2 (by omega) hr (by rw [e3]; exact hb2) (by simp only [List.length_nil]; omega) (by omega)
      rw [e3] at f1
      refine ⟨R,a,m,e,f1,?_⟩
      rcases f2 with f2 | ⟨g1,g2,g3,g4,g5,g6,g7,g8,g9,g10,g11⟩
      · exact .inl f2
      · exact .inr ⟨g1,g2,g3,g4,g5,g6,g7,g8,by omega,by omega,g11⟩
    · rw [if_neg hf] at hr
      injection hr with hr
      subst hr
      obtain ⟨e1,e2,e3⟩:=snd_sym h h0 hf
      refine ⟨_,_,_,_,refG_done _ _ _ _ (by show (denS c st).f0≠1; rw [hp]; exact hf),.inr ⟨?_,rfl,rfl,rfl,rfl,rfl,rfl,hb,Int.le_refl _,?_,fun _=>?_,fun h=>(by cases h)⟩⟩
      · show c.t.f1=(denS c st).f1
        rw [hp]
      · show used+newC c.t.f2 - ((pushC c st).length:Int)≤P+60*(steps - steps)
        omega
      · show denS c st=_
        rw [hp,e1]
def refGo (l1:List S41) (fuel:Int) (r:RM):RM × Int × Int × Int:=if fuel < 0∨1048576 < fuel then (r,0,0,2) else refG l1 fuel.toNat 0 r
def refKid (i:Int) (r:RM):RM × Int:=if r.known=false then (r,14) else if i < 0∨(r.t.f2.length:Int)≤i then (r,5) else if 200≤r.path.length then (r,3) else (⟨r.path ++ [i],rd_T36 r.t.f2 i,false,r.steps,r.lost⟩,0)
structure Pal (l0:List S84) (l1:List S41) (s:MS) (r:RM):Prop where
  path:r.path=s.path
  known:r.known=s.known
  full:s.full=false
  open_:s.known=false→r.t=denS s.c s.st
  shut:s.known=true→r.t=⟨2,s.c.t.f1,denL s.st⟩
  stb:stB l0 l1 r.t=0
  lost:r.lost=false
  steps:0≤r.steps∧r.steps≤2000
  pot:s.used - (s.st.length:Int)≤1+60*r.steps+60*s.path.length
theorem pal0 {l0:List S84} {l1:List S41} (hs:schB l0 l1=true):Pal l0 l1 ms0 rm0:=by
  have h0:=(snd0 (l0:=l0) hs).d
  have e:denS (.mk ⟨1,0,[]⟩ []) []=⟨1,0,[]⟩:=by
    rw [denS_nil,den,subT,if_neg (by decide),subL]
  rw [e] at h0
  exact ⟨rfl,rfl,rfl,fun _=>e.symm,fun h=>(by cases h),stB_of hs (by decide) h0,rfl,by decide,by decide⟩
theorem pal_go {l0:List S84} {l1:List S41} (hs:schB l0 l1=true) {s s':MS} {r:RM} (hg:Good l0 l1 s) (hp:Pal l0 l1 s r) {fuel:Int} (hf:fuel≤300∨1048576 < fuel) {k:Nat} {a n e:Int} (h:goS l1 fuel k s=some (a,n,e,s')) :
    ∃ R x m z,refGo l1 fuel r=(R,x,m,z)∧(R.lost=true∨2000 < R.steps∨(a=x∧n=m∧e=z∧Pal l0 l1 s' R)):=by
  have hst:=hp.steps
  have hpt:=hp.pot
  have hpa:=hg.path
  by_cases h1:fuel < 0∨1048576 < fuel
  · unfold goS at h
    unfold refGo
    rw [if_pos h1] at h ⊢
    injection h with h; injection h with e1 h; injection h with e2 h; injection h with e3 e4
    subst e1 e2 e3 e4
    exact ⟨_,_,_,_,rfl,.inr (.inr ⟨rfl,rfl,rfl,hp⟩)⟩
  unfold refGo
  rw [if_neg h1]
  by_cases h3:s.known=true
  · unfold goS at h
    rw [if_neg h1,if_neg (by rw [hp.full]; decide),if_pos h3] at h
    injection h with h; injection h with e1 h; injection h with e2 h; injection h with e3 e4
    subst e1 e2 e3 e4
    have ht:=hp.shut h3
    have e0:(⟨r.path,r.t,true,r.steps,r.lost⟩:RM)=r:=by
      have:=hp.known
      rw [h3] at this
      rw [← this]
    refine ⟨_,_,_,_,refG_done _ _ _ _ (by rw [ht]; show (2:Int)≠1; decide),.inr (.inr ⟨by rw [ht],rfl,rfl,?_⟩)⟩
    rw [e0]
    exact hp
  have hk:s.known=false:=by simpa using h3
  obtain ⟨g,hr,e1,e2,e3,e4⟩:=goS_open hk hp.full (by omega) (by omega) h
  have ht:=hp.open_ hk
  have er:r=⟨s.path,denS s.c s.st,false,r.steps,false⟩:=by
    obtain ⟨p,t,kn,sp,lo⟩:=r
    have a1:p=s.path:=hp.path
    have a2:t=denS s.c s.st:=ht
    have a3:kn=false:=hp.known.trans hk
    have a4:lo=false:=hp.lost
    rw [a1,a2,a3,a4]
  obtain ⟨R,x,m,z,f1,f2⟩:=goM_ref hs fuel s.path k 0 s.used s.c s.st g r.steps _ (hg.open_ hk) (by omega) hr (by rw [← ht]; exact hp.stb) hpt (by omega)
  rw [← er,show fuel - 0=fuel from by omega] at f1
  refine ⟨R,x,m,z,f1,?_⟩
  rcases f2 with f2 | ⟨g1,g2,g3,g4,g5,g6,g7,g8,g9,g10,g11,g12⟩
  · exact .inl f2
  by_cases hL:2000 < R.steps
  · exact .inr (.inl hL)
  subst e4
  exact .inr (.inr ⟨by rw [e1,g1],by rw [e2,g2],by rw [e3,g3],g5,g7,g4,g12,g11,g8,g6,by omega,by show g.used - (g.st.length:Int)≤1+60*R.steps+60*s.path.length; omega⟩)
theorem rdC_den (l:List Clo) (i:Int) (h0:0≤i) (h1:i < (l.length:Int)):rd_T36 (denL l) i=den (l.getD i.toNat zClo):=rd_den l i h0 h1
theorem pal_kid {l0:List S84} {l1:List S41} (hs:schB l0 l1=true) {s:MS} {r:RM} (hg:Good l0 l1 s) (hp:Pal l0 l1 s r) (i:Int) :
    ∃ R,refKid i r=(R,kidE s i)∧Pal l0 l1 (kidS s i) R:=by
  have hl:=hg.len
  have hpa:=hg.path
  have hpt:=hp.pot
  have hst:=hp.steps
  unfold refKid kidS
  by_cases hk:s.known=false
  · have h1:kidE s i=14:=by unfold kidE; rw [if_pos hk]
    rw [if_pos (by rw [hp.known]; exact hk),h1,if_neg (by decide)]
    exact ⟨r,rfl,hp⟩
  have hkt:s.known=true:=by simpa using hk
  have ht:=hp.shut hkt
  have hlen:r.t.f2.length=s.st.length:=by rw [ht]; exact denL_len _
  rw [if_neg (by rw [hp.known]; exact hk),hlen,hp.path]
  by_cases h2:i < 0∨(s.st.length:Int)≤i
  · have h1:kidE s i=5:=by unfold kidE; rw [if_neg hk,if_pos h2]
    rw [if_pos h2,h1,if_neg (by decide)]
    exact ⟨r,rfl,hp⟩
  rw [if_neg h2]
  by_cases h3:s.path.length=200
  · have h1:kidE s i=3:=by unfold kidE; rw [if_neg hk,if_neg h2,if_pos h3]
    rw [if_pos (by omega),h1,if_neg (by decide)]
    exact ⟨r,rfl,hp⟩
  have h1:kidE s i=0:=by unfold kidE; rw [if_neg hk,if_neg h2,if_neg h3]
  rw [if_neg (by omega),h1,if_pos rfl]
  refine ⟨_,rfl,rfl,rfl,hp.full,fun _=>?_,fun h=>(by cases h),?_,hp.lost,hst,?_⟩
  · show rd_T36 r.t.f2 i=denS (s.st.getD i.toNat zClo) []
    rw [ht,denS_nil]
    exact rdC_den s.st i (by omega) (by omega)
  · show stB l0 l1 (rd_T36 r.t.f2 i)=0
    obtain ⟨b1,b2,b3⟩:=stB_zero hp.stb
    have hr:r.t=⟨2,s.c.t.f1,r.t.f2⟩:=by rw [ht]
    rw [hr] at b3
    have hc:=(closed_sym b3 (by decide)).2.2.2.2
    have hm:rd_T36 r.t.f2 i ∈ r.t.f2:=by
      unfold rd_T36
      rw [List.getD_eq_getElem?_getD,List.getElem?_eq_getElem (by omega)]
      exact List.getElem_mem _
    have hn:=tcnt_rd (l:=r.t.f2) (n:=i) (by omega) (by omega)
    have hn2:=tcnt_f2 r.t
    exact stB_of hs (by omega) (hc _ hm)
  · show s.used - (([]:List Clo).length:Int)≤1+60*r.steps+60*((s.path ++ [i]).length:Int)
    rw [List.length_append,List.length_singleton,List.length_nil]
    omega
end Go.Proofs.Ytkgknidogelffaa.I
namespace Go.Proofs.Ytkgknidogelffaa.I
open Go.RowKit Go.Proofs.YtkgknidogelffaaW.PrintWords Go.Proofs.YtkgknidogelffaaW.PrintLast Go.Proofs.YtkgknidogelffaaW.PrintMore
attribute [local go_sem] max2_int min2_int max_two min_two max_three min_three max_four min_four
set_option linter.unusedVariables false
set_option maxRecDepth 100000
set_option linter.unusedSimpArgs false
theorem results_cttt {P:Program} {fn:Func} {p u v x:Tmp} {ty:TypeId} (h:fn.results=#[.cell p ty,.tmp u,.tmp v,.tmp x]) (tmps:Array Value) (w:World) (g:Nat) (t:TypeId) (cs:Array Value) (fr:Nat × Nat) (d:TypeDesc)
    (hp:tmps.getD p undef=.pointer (some ⟨g,0,none⟩)) (hg:w.heap[g]?=some (.cells cs t fr))
    (hu:P.underlying ty=some d) (hd:(match d with | .struct _ | .array _ _=>true | _=>false)=true) (hi:(P.info? ty).map (·.size)=some cs.size) :
    (results fn tmps).run P w=.ok (.tuple #[.agg cs,tmps.getD u undef,tmps.getD v undef,tmps.getD x undef]) w:=by
  have hp':tmps[p]?.getD undef=.pointer (some ⟨g,0,none⟩):=by simpa using hp
  simp [results,h,hp',asAddr,run_loadVar_row w g t ty cs fr d hg hu hd hi]
theorem put9 {w:World} {g:Nat} {z0 z1 z2 z3 z4 z5 z6 z7 z8:Value} (h:w.heap[g]?=some (.cells #[z0,z1,z2,z3,z4,z5,z6,z7,z8] 51 (0,0))) (a0 a1 a2 a3 a4 a5 a6 a7 a8:Value):(((((((((w.setCell ⟨g,0,none⟩ a0).setCell ⟨g,1,none⟩ a1).setCell ⟨g,2,none⟩ a2).setCell ⟨g,3,none⟩ a3).setCell ⟨g,4,none⟩ a4).setCell ⟨g,5,none⟩ a5).setCell ⟨g,6,none⟩ a6).setCell ⟨g,7,none⟩ a7).setCell ⟨g,8,none⟩ a8).heap[g]?=some (.cells #[a0,a1,a2,a3,a4,a5,a6,a7,a8] 51 (0,0)) :=
  (blk_put (cs':=#[a0,a1,a2,a3,a4,a5,a6,a7,a8]) (blk_put (cs':=#[a0,a1,a2,a3,a4,a5,a6,a7,z8]) (blk_put (cs':=#[a0,a1,a2,a3,a4,a5,a6,z7,z8]) (blk_put (cs':=#[a0,a1,a2,a3,a4,a5,z6,z7,z8]) (blk_put (cs':=#[a0,a1,a2,a3,a4,z5,z6,z7,z8]) (blk_put (cs':=#[a0,a1,a2,a3,z4,z5,z6,z7,z8]) (blk_put (cs':=#[a0,a1,a2,z3,z4,z5,z6,z7,z8]) (blk_put (cs':=#[a0,a1,z2,z3,z4,z5,z6,z7,z8]) (blk_put (cs':=#[a0,z1,z2,z3,z4,z5,z6,z7,z8]) h 0 _ rfl) 1 _ rfl) 2 _ rfl) 3 _ rfl) 4 _ rfl) 5 _ rfl) 6 _ rfl) 7 _ rfl) 8 _ rfl)
theorem put4 {w:World} {g:Nat} {z0 z1 z2 z3 z4 z5 z6 z7 z8:Value} (h:w.heap[g]?=some (.cells #[z0,z1,z2,z3,z4,z5,z6,z7,z8] 51 (0,0))) (a3 a4 a5 a7:Value):((((w.setCell ⟨g,3,none⟩ a3).setCell ⟨g,4,none⟩ a4).setCell ⟨g,5,none⟩ a5).setCell ⟨g,7,none⟩ a7).heap[g]?=some (.cells #[z0,z1,z2,a3,a4,a5,z6,a7,z8] 51 (0,0)) :=
  blk_put (cs':=#[z0,z1,z2,a3,a4,a5,z6,a7,z8]) (blk_put (cs':=#[z0,z1,z2,a3,a4,a5,z6,z7,z8]) (blk_put (cs':=#[z0,z1,z2,a3,a4,z5,z6,z7,z8]) (blk_put (cs':=#[z0,z1,z2,a3,z4,z5,z6,z7,z8]) h 3 _ rfl) 4 _ rfl) 5 _ rfl) 7 _ rfl
theorem Tm.far9 {w:World} {ok:Nat→Prop} {x:S36} {A:Option Addr} {c:Nat} {g:Nat} (h:Tm w ok x A c) (hok:∀ k,ok k→k≠g) (a0 a1 a2 a3 a4 a5 a6 a7 a8:Value):Tm (((((((((w.setCell ⟨g,0,none⟩ a0).setCell ⟨g,1,none⟩ a1).setCell ⟨g,2,none⟩ a2).setCell ⟨g,3,none⟩ a3).setCell ⟨g,4,none⟩ a4).setCell ⟨g,5,none⟩ a5).setCell ⟨g,6,none⟩ a6).setCell ⟨g,7,none⟩ a7).setCell ⟨g,8,none⟩ a8) ok x A c :=
  (Tm.far (p:=⟨g,8,none⟩) (Tm.far (p:=⟨g,7,none⟩) (Tm.far (p:=⟨g,6,none⟩) (Tm.far (p:=⟨g,5,none⟩) (Tm.far (p:=⟨g,4,none⟩) (Tm.far (p:=⟨g,3,none⟩) (Tm.far (p:=⟨g,2,none⟩) (Tm.far (p:=⟨g,1,none⟩) (Tm.far (p:=⟨g,0,none⟩) h hok a0) hok a1) hok a2) hok a3) hok a4) hok a5) hok a6) hok a7) hok a8)
theorem Tm.far4 {w:World} {ok:Nat→Prop} {x:S36} {A:Option Addr} {c:Nat} {g:Nat} (h:Tm w ok x A c) (hok:∀ k,ok k→k≠g) (a3 a4 a5 a7:Value):Tm ((((w.setCell ⟨g,3,none⟩ a3).setCell ⟨g,4,none⟩ a4).setCell ⟨g,5,none⟩ a5).setCell ⟨g,7,none⟩ a7) ok x A c :=
  Tm.far (p:=⟨g,7,none⟩) (Tm.far (p:=⟨g,5,none⟩) (Tm.far (p:=⟨g,4,none⟩) (Tm.far (p:=⟨g,3,none⟩) h hok a3) hok a4) hok a5) hok a7
theorem below_set9 {w0 w:World} {g:Nat} (h:Below w0.heap.size w0 w) (hg:w0.heap.size≤g) (a0 a1 a2 a3 a4 a5 a6 a7 a8:Value):Below w0.heap.size w0 (((((((((w.setCell ⟨g,0,none⟩ a0).setCell ⟨g,1,none⟩ a1).setCell ⟨g,2,none⟩ a2).setCell ⟨g,3,none⟩ a3).setCell ⟨g,4,none⟩ a4).setCell ⟨g,5,none⟩ a5).setCell ⟨g,6,none⟩ a6).setCell ⟨g,7,none⟩ a7).setCell ⟨g,8,none⟩ a8) :=
  (bset (bset (bset (bset (bset (bset (bset (bset (bset h hg) hg) hg) hg) hg) hg) hg) hg) hg)
set_option maxHeartbeats 16000000 in
theorem refgo_calls (A0:Option Addr) (c0:Nat) (l0:List S84) (A1:Option Addr) (c1:Nat) (l1:List S41) (r:RM) (Ap:Option Addr) (cp:Nat) (At:Option Addr) (ct:Nat) (F:Nat) (hF:F≤1048576) (w:World) (hs:Sch w A0 c0 l0 A1 c1 l1) (hb:schB l0 l1=true) (ok:Nat→Prop) (ht:Tm w ok r.t At ct) (hst:stB l0 l1 r.t=0) (hsp:0≤r.steps∧r.steps≤4000000000) (R:RM × Int × Int × Int) (hR:refG l1 F 0 r=R) :
    Calls Try.prog 40 #[.agg (rmC (.slice A0 l0.length c0) (.slice A1 l1.length c1) r Ap cp At ct),.int .i64 (F:Int)] w fun e w'=>∃ At' ct',e=.returned (.tuple #[.agg (rmC (.slice A0 l0.length c0) (.slice A1 l1.length c1) R.1 Ap cp At' ct'),.int .i64 R.2.1,.int .i64 R.2.2.1,.int .i64 R.2.2.2])∧R.1.path=r.path∧Tm w' (fun k=>ok k∨w.heap.size≤k) R.1.t At' ct'∧Below w.heap.size w w':=by
  have hu25:=Try.underlying25
  have hu51:=Try.underlying51
  have hu36:=Try.underlying36
  have g1:((F:Int) < 0)=False:=eq_false (by omega)
  have g2':((1048576:Int) < (F:Int))=False:=eq_false (by omega)
  have hFb:(F:Int)≤1048576:=by omega
  have HS:=Az.mk hs
  have HB:=Az.mk hb
  have HT:=Az.mk ht.bound
  have HST:=Az.mk hst
  have HSP:=Az.mk hsp
  have HR:=Az.mk hR
  clear hs hb ht hst hsp hR hF
  unfold rmC
  go_enter Try.func40,Try.ntmps40
  go_wp2_with (first
    | ((with_reducible refine gate_dst (N:=2) rfl ?_)
       refine box_event ?hg (N:=2) ?hd (cs:=#[.slice A0 l0.length c0,.slice A1 l1.length c1,.slice Ap r.path.length cp,.int .i64 r.t.f0,.int .i64 r.t.f1,.slice At r.t.f2.length ct,.bool r.known,.int .i64 r.steps,.bool r.lost]) (t:=51) ?hr ?_
       (case hd=>rfl)
       (case hg=>rfl)
       (case hr=>first | (go_simp; done) | (go_simp; rfl))
       intro g2 hg2 w1 hbox hb1
       have S2:=Az.mk hbox
       have HB1:=Az.mk hb1
       have HG2:=Az.mk (show w.heap.size≤g2 from by omega)
       clear hbox hb1 hg2)
    | ((with_reducible refine gate_dst (N:=4) rfl ?_)
       refine box_event ?hg (N:=4) ?hd (cs:=#[.slice none 0 0,.slice none 0 0,.slice none 0 0,.int .i64 0,.int .i64 0,.slice none 0 0,.bool false,.int .i64 0,.bool false]) (t:=51) ?hr ?_
       (case hd=>rfl)
       (case hg=>rfl)
       (case hr=>first | (go_simp; done) | (go_simp; rfl))
       intro g4 hg4 w2 hbox hb2
       have S4:=Az.mk hbox
       have S22:=Az.mk (bkB S2.out hb2)
       have HB2:=Az.mk (bst HB1.out hb2)
       have HG4:=Az.mk (show w.heap.size≤g4 from by have:=HB1.out.size; omega)
       have HNE:=Az.mk (show g2≠g4 from by have:=blk_lt S2.out; omega)
       clear hbox hb2 hg4 S2))
  obtain ⟨P,hP⟩:∃ P,r.path=P:=⟨_,rfl⟩
  have HT2:=Az.mk (show Tm w2 (fun k=>(ok k∨w.heap.size≤k)∧k≠g2∧k≠g4) r.t At ct from (HT.out.below HB2.out).mono (fun k hk=>⟨.inl hk.1,by have:=HG2.out; have:=hk.2; omega,by have:=HG4.out; have:=hk.2; omega⟩))
  have HP0:=Az.mk (show r.path=P∧refG l1 F ((0:Nat):Int) r=R from ⟨hP,HR.out⟩)
  rw [hP]
  have HPP:=Az.mk hP
  clear hP
  go_loopg [8] F (fun kq v8 wr=>∃ (n:Nat) (r:RM) (At:Option Addr) (ct:Nat),v8=.int .i64 (n:Int)∧Az (n+kq=F)∧Az (r.path=P∧refG l1 kq (n:Int) r=R)∧Az (stB l0 l1 r.t=0∧0≤r.steps∧r.steps≤4000000000+n)∧Az (wr.heap[g2]?=some (.cells (rmC (.slice A0 l0.length c0) (.slice A1 l1.length c1) r Ap cp At ct) 51 (0,0)))∧Az (wr.heap[g4]?=some (.cells #[.slice none 0 0,.slice none 0 0,.slice none 0 0,.int .i64 0,.int .i64 0,.slice none 0 0,.bool false,.int .i64 0,.bool false] 51 (0,0)))∧Az (Tm wr (fun k=>(ok k∨w.heap.size≤k)∧k≠g2∧k≠g4) r.t At ct)∧Az (Below w.heap.size w wr))
  case atStart=>exact ⟨0,r,At,ct,rfl,⟨by omega⟩,HP0,⟨HST.out,HSP.out.1,by have:=HSP.out.2; omega⟩,S22,S4,HT2,HB2⟩
  case round =>
    clear S22 S4 HT2 HP0 HB2
    obtain ⟨n,r',At',ct',rfl,Hn,HRG,HSI,S2,S4,HTm,HBw⟩:=hrel
    have hRG:=HRG.out.2
    have hpp:=HRG.out.1
    have u0:wr.cell? ⟨g2,0,none⟩=some (.slice A0 l0.length c0):=(blk_cell S2.out 0).trans rfl
    have u1:wr.cell? ⟨g2,1,none⟩=some (.slice A1 l1.length c1):=(blk_cell S2.out 1).trans rfl
    have u2:wr.cell? ⟨g2,2,none⟩=some (.slice Ap r'.path.length cp):=(blk_cell S2.out 2).trans rfl
    have u3:wr.cell? ⟨g2,3,none⟩=some (.int .i64 r'.t.f0):=(blk_cell S2.out 3).trans rfl
    have u4:wr.cell? ⟨g2,4,none⟩=some (.int .i64 r'.t.f1):=(blk_cell S2.out 4).trans rfl
    have u5:wr.cell? ⟨g2,5,none⟩=some (.slice At' r'.t.f2.length ct'):=(blk_cell S2.out 5).trans rfl
    have u6:wr.cell? ⟨g2,6,none⟩=some (.bool r'.known):=(blk_cell S2.out 6).trans rfl
    have u7:wr.cell? ⟨g2,7,none⟩=some (.int .i64 r'.steps):=(blk_cell S2.out 7).trans rfl
    have u8:wr.cell? ⟨g2,8,none⟩=some (.bool r'.lost):=(blk_cell S2.out 8).trans rfl
    have f0:wr.frozen? ⟨g2,0,none⟩=false:=bkF S2.out 0
    have f1:wr.frozen? ⟨g2,1,none⟩=false:=bkF S2.out 1
    have f2:wr.frozen? ⟨g2,2,none⟩=false:=bkF S2.out 2
    have f3:wr.frozen? ⟨g2,3,none⟩=false:=bkF S2.out 3
    have f4:wr.frozen? ⟨g2,4,none⟩=false:=bkF S2.out 4
    have f5:wr.frozen? ⟨g2,5,none⟩=false:=bkF S2.out 5
    have f6:wr.frozen? ⟨g2,6,none⟩=false:=bkF S2.out 6
    have f7:wr.frozen? ⟨g2,7,none⟩=false:=bkF S2.out 7
    have f8:wr.frozen? ⟨g2,8,none⟩=false:=bkF S2.out 8
    have z0:wr.cell? ⟨g4,0,none⟩=some (.slice none 0 0):=(blk_cell S4.out 0).trans rfl
    have z1:wr.cell? ⟨g4,1,none⟩=some (.slice none 0 0):=(blk_cell S4.out 1).trans rfl
    have z2:wr.cell? ⟨g4,2,none⟩=some (.slice none 0 0):=(blk_cell S4.out 2).trans rfl
    have z3:wr.cell? ⟨g4,3,none⟩=some (.int .i64 0):=(blk_cell S4.out 3).trans rfl
    have z4:wr.cell? ⟨g4,4,none⟩=some (.int .i64 0):=(blk_cell S4.out 4).trans rfl
    have z5:wr.cell? ⟨g4,5,none⟩=some (.slice none 0 0):=(blk_cell S4.out 5).trans rfl
    have z6:wr.cell? ⟨g4,6,none⟩=some (.bool false):=(blk_cell S4.out 6).trans rfl
    have z7:wr.cell? ⟨g4,7,none⟩=some (.int .i64 0):=(blk_cell S4.out 7).trans rfl
    have z8:wr.cell? ⟨g4,8,none⟩=some (.bool false):=(blk_cell S4.out 8).trans rfl
    have y0:wr.frozen? ⟨g4,0,none⟩=false:=bkF S4.out 0
    have y1:wr.frozen? ⟨g4,1,none⟩=false:=bkF S4.out 1
    have y2:wr.frozen? ⟨g4,2,none⟩=false:=bkF S4.out 2
    have y3:wr.frozen? ⟨g4,3,none⟩=false:=bkF S4.out 3
    have y4:wr.frozen? ⟨g4,4,none⟩=false:=bkF S4.out 4
    have y5:wr.frozen? ⟨g4,5,none⟩=false:=bkF S4.out 5
    have y6:wr.frozen? ⟨g4,6,none⟩=false:=bkF S4.out 6
    have y7:wr.frozen? ⟨g4,7,none⟩=false:=bkF S4.out 7
    have y8:wr.frozen? ⟨g4,8,none⟩=false:=bkF S4.out 8
    by_cases hk:r'.t.f0=1
    rotate_left
    · have hRG2:R=(⟨r'.path,r'.t,true,r'.steps,r'.lost⟩,r'.t.f1,(n:Int),0):=by
        cases gk with
        | zero=>rw [refG,if_neg hk] at hRG; exact hRG.symm
        | succ k=>rw [refG,if_neg hk] at hRG; exact hRG.symm
      have q1:=beqF hk
      have HRE:=Az.mk hRG2
      clear hRG hRG2 hk
      have HNE2:=HNE.out
      have HNE3:=Ne.symm HNE.out
      go_upto_region 15 with fail
      go_region
      go_wp2_with fail
      subst hpp
      have hre:=HRE.out
      subst hre
      refine bodyPost_ret (results_cttt rfl _ _ g4 51 _ (0,0) _ rfl (blk_drew (put9 (blk_far S4.out HNE3 _) _ _ _ _ _ _ _ _ _)) Try.underlying51 rfl (by kernel_rfl)) rfl ?_
      refine ⟨At',ct',rfl,HPP.out.symm,?_,?_⟩
      · exact Tm.mono (Kd.V_drew (Tm.far9 (Tm.far HTm.out (fun k hk=>hk.2.1) _) (fun k hk=>hk.2.2) _ _ _ _ _ _ _ _ _)) (fun k hk=>hk.1)
      · exact bd1 (below_set9 (bset HBw.out HG2.out) HG4.out _ _ _ _ _ _ _ _ _)
    have HK:=Az.mk hk
    have HNE2:=HNE.out
    have HNE3:=Ne.symm HNE.out
    cases gk with
    | zero =>
      have hnF:(n:Int)=(F:Int):=by have:=Hn.out; omega
      have q1:=beqT hk
      have q2:=beqT hnF
      rw [refG,if_pos hk] at hRG
      have HRE:=Az.mk hRG
      clear hRG hk
      go_wp2_with fail
      subst hpp
      have hre:=HRE.out
      subst hre
      refine bodyPost_ret (results_cttt rfl _ _ g4 51 _ (0,0) _ rfl (put9 S4.out _ _ _ _ _ _ _ _ _) Try.underlying51 rfl (by kernel_rfl)) rfl ?_
      refine ⟨At',ct',rfl,HPP.out.symm,?_,?_⟩
      · exact Tm.mono (Tm.far9 HTm.out (fun k hk=>hk.2.2) _ _ _ _ _ _ _ _ _) (fun k hk=>hk.1)
      · exact below_set9 HBw.out HG4.out _ _ _ _ _ _ _ _ _
    | succ k =>
      have hnF:¬ (n:Int)=(F:Int):=by have:=Hn.out; omega
      have q1:=beqT hk
      have q2:=beqF hnF
      have hst:=HSI.out.1
      rw [refG,if_pos hk] at hRG
      have HPK:=Az.mk hpp
      have p0:0≤r'.steps:=HSI.out.2.1
      have p1:r'.steps≤4000000000+(n:Int):=HSI.out.2.2
      have p2:(n:Int)+1≤1048576:=by have:=Hn.out; omega
      by_cases hL:100000 < tcnt (nextT l1 r'.t)
      · rw [if_pos hL] at hRG
        have HRE:=Az.mk hRG
        have HZ:=Az.mk (stepF_large hst hL)
        clear hRG hst hL hk
        go_wp2_with fail
        refine (next_at (HS.out.below HBw.out) HTm.out HSI.out.1 _ _ _ HZ.out).mono ?_
        rintro e w5 ⟨Av,cv,rfl,htv,hb5⟩
        have HTV:=Az.mk htv
        have HB5:=Az.mk (bst HBw.out hb5)
        have HTM5:=Az.mk (HTm.out.below hb5)
        have S25:=Az.mk (bkB S2.out hb5)
        have S45:=Az.mk (bkB S4.out hb5)
        have HSZ:=Az.mk (And.intro (blk_lt S2.out) (And.intro (blk_lt S4.out) hb5.size))
        clear htv hb5
        clear u0 u1 u2 u3 u4 u5 u6 u7 u8 f0 f1 f2 f3 f4 f5 f6 f7 f8 z0 z1 z2 z3 z4 z5 z6 z7 z8 y0 y1 y2 y3 y4 y5 y6 y7 y8
        go_upto_region 8 with (
          ((with_reducible refine gate_dst (N:=9) rfl ?_)
           refine box_event ?hg (N:=9) ?hd (cs:=#[.int .i64 0,.int .i64 0,.slice none 0 0]) (t:=36) ?hr ?_
           (case hd=>rfl)
           (case hg=>rfl)
           (case hr=>first | (go_simp; done) | (go_simp; rfl))
           intro g9 hg9 w6 hbox hbb
           have hgw_:=HB5.out.size
           have Hg9b:=Az.mk (below_set3 (bst HB5.out hbb) (show w.heap.size≤g9 from by omega) (.int .i64 0) (.int .i64 0) (.slice Av ([]:List S36).length cv))
           have Hg9w:=Az.mk (below_set3 hbb (Nat.le_of_eq hg9.symm) (.int .i64 0) (.int .i64 0) (.slice Av ([]:List S36).length cv))
           have Hg9s:=Az.mk (blk_set3 hbox (.int .i64 0) (.int .i64 0) (.slice Av ([]:List S36).length cv))
           have hcz0:=(blk_cell hbox 0).trans rfl
           have hcz1:=(blk_cell hbox 1).trans rfl
           have hcz2:=(blk_cell hbox 2).trans rfl
           have hfz0:=bkF hbox 0
           have hfz1:=bkF hbox 1
           have hfz2:=bkF hbox 2
           clear hgw_ hbox hbb hg9))
        clear hcz0 hcz1 hcz2 hfz0 hfz1 hfz2
        generalize ((w6.setCell ⟨g9,0,none⟩ (.int .i64 0)).setCell ⟨g9,1,none⟩ (.int .i64 0)).setCell ⟨g9,2,none⟩ (.slice Av ([]:List S36).length cv)=wq at *
        have S2q:=Az.mk (bkB S25.out Hg9w.out)
        have S4q:=Az.mk (bkB S45.out Hg9w.out)
        have HTMq:=Az.mk (HTM5.out.below Hg9w.out)
        have HTVq:=Az.mk (HTV.out.below Hg9w.out)
        have u0:wq.cell? ⟨g2,0,none⟩=some (.slice A0 l0.length c0):=(blk_cell S2q.out 0).trans rfl
        have u1:wq.cell? ⟨g2,1,none⟩=some (.slice A1 l1.length c1):=(blk_cell S2q.out 1).trans rfl
        have u2:wq.cell? ⟨g2,2,none⟩=some (.slice Ap r'.path.length cp):=(blk_cell S2q.out 2).trans rfl
        have u3:wq.cell? ⟨g2,3,none⟩=some (.int .i64 r'.t.f0):=(blk_cell S2q.out 3).trans rfl
        have u4:wq.cell? ⟨g2,4,none⟩=some (.int .i64 r'.t.f1):=(blk_cell S2q.out 4).trans rfl
        have u5:wq.cell? ⟨g2,5,none⟩=some (.slice At' r'.t.f2.length ct'):=(blk_cell S2q.out 5).trans rfl
        have u6:wq.cell? ⟨g2,6,none⟩=some (.bool r'.known):=(blk_cell S2q.out 6).trans rfl
        have u7:wq.cell? ⟨g2,7,none⟩=some (.int .i64 r'.steps):=(blk_cell S2q.out 7).trans rfl
        have u8:wq.cell? ⟨g2,8,none⟩=some (.bool r'.lost):=(blk_cell S2q.out 8).trans rfl
        have f0:wq.frozen? ⟨g2,0,none⟩=false:=bkF S2q.out 0
        have f1:wq.frozen? ⟨g2,1,none⟩=false:=bkF S2q.out 1
        have f2:wq.frozen? ⟨g2,2,none⟩=false:=bkF S2q.out 2
        have f3:wq.frozen? ⟨g2,3,none⟩=false:=bkF S2q.out 3
        have f4:wq.frozen? ⟨g2,4,none⟩=false:=bkF S2q.out 4
        have f5:wq.frozen? ⟨g2,5,none⟩=false:=bkF S2q.out 5
        have f6:wq.frozen? ⟨g2,6,none⟩=false:=bkF S2q.out 6
        have f7:wq.frozen? ⟨g2,7,none⟩=false:=bkF S2q.out 7
        have f8:wq.frozen? ⟨g2,8,none⟩=false:=bkF S2q.out 8
        have z0:wq.cell? ⟨g4,0,none⟩=some (.slice none 0 0):=(blk_cell S4q.out 0).trans rfl
        have z1:wq.cell? ⟨g4,1,none⟩=some (.slice none 0 0):=(blk_cell S4q.out 1).trans rfl
        have z2:wq.cell? ⟨g4,2,none⟩=some (.slice none 0 0):=(blk_cell S4q.out 2).trans rfl
        have z3:wq.cell? ⟨g4,3,none⟩=some (.int .i64 0):=(blk_cell S4q.out 3).trans rfl
        have z4:wq.cell? ⟨g4,4,none⟩=some (.int .i64 0):=(blk_cell S4q.out 4).trans rfl
        have z5:wq.cell? ⟨g4,5,none⟩=some (.slice none 0 0):=(blk_cell S4q.out 5).trans rfl
        have z6:wq.cell? ⟨g4,6,none⟩=some (.bool false):=(blk_cell S4q.out 6).trans rfl
        have z7:wq.cell? ⟨g4,7,none⟩=some (.int .i64 0):=(blk_cell S4q.out 7).trans rfl
        have z8:wq.cell? ⟨g4,8,none⟩=some (.bool false):=(blk_cell S4q.out 8).trans rfl
        have y0:wq.frozen? ⟨g4,0,none⟩=false:=bkF S4q.out 0
        have y1:wq.frozen? ⟨g4,1,none⟩=false:=bkF S4q.out 1
        have y2:wq.frozen? ⟨g4,2,none⟩=false:=bkF S4q.out 2
        have y3:wq.frozen? ⟨g4,3,none⟩=false:=bkF S4q.out 3
        have y4:wq.frozen? ⟨g4,4,none⟩=false:=bkF S4q.out 4
        have y5:wq.frozen? ⟨g4,5,none⟩=false:=bkF S4q.out 5
        have y6:wq.frozen? ⟨g4,6,none⟩=false:=bkF S4q.out 6
        have y7:wq.frozen? ⟨g4,7,none⟩=false:=bkF S4q.out 7
        have y8:wq.frozen? ⟨g4,8,none⟩=false:=bkF S4q.out 8
        have e0:wq.cell? ⟨g9,0,none⟩=some (.int .i64 0):=(blk_cell Hg9s.out 0).trans rfl
        have e1:wq.cell? ⟨g9,1,none⟩=some (.int .i64 0):=(blk_cell Hg9s.out 1).trans rfl
        have e2:wq.cell? ⟨g9,2,none⟩=some (.slice Av ([]:List S36).length cv):=(blk_cell Hg9s.out 2).trans rfl
        go_wp2_with fail
        subst hpp
        have hre:=HRE.out
        subst hre
        refine bodyPost_ret (results_cttt rfl _ _ g4 51 _ (0,0) _ rfl (put9 (blk_far S4q.out HNE3 _) _ _ _ _ _ _ _ _ _) Try.underlying51 rfl (by kernel_rfl)) rfl ?_
        refine ⟨At',ct',rfl,HPP.out.symm,?_,?_⟩
        · exact Tm.mono (Tm.far9 (Tm.far HTMq.out (fun k hk=>hk.2.1) _) (fun k hk=>hk.2.2) _ _ _ _ _ _ _ _ _) (fun k hk=>hk.1)
        · exact below_set9 (bset Hg9b.out HG2.out) HG4.out _ _ _ _ _ _ _ _ _
      · rw [if_neg hL] at hRG
        have HRE:=Az.mk hRG
        have HZ:=Az.mk (stepF_next hst hL)
        have HNT:=Az.mk (show stB l0 l1 (nextT l1 r'.t)=0 from stB_of HB.out (by omega) (closed_next HB.out (stB_zero hst).2.2))
        clear hRG hst hL hk
        generalize nextT l1 r'.t=tn at *
        go_wp2_with fail
        refine (next_at (HS.out.below HBw.out) HTm.out HSI.out.1 _ _ _ HZ.out).mono ?_
        rintro e w5 ⟨Av,cv,rfl,htv,hb5⟩
        have HTV:=Az.mk htv
        have HB5:=Az.mk (bst HBw.out hb5)
        have HTM5:=Az.mk (HTm.out.below hb5)
        have S25:=Az.mk (bkB S2.out hb5)
        have S45:=Az.mk (bkB S4.out hb5)
        have HSZ:=Az.mk (And.intro (blk_lt S2.out) (And.intro (blk_lt S4.out) hb5.size))
        clear htv hb5
        clear u0 u1 u2 u3 u4 u5 u6 u7 u8 f0 f1 f2 f3 f4 f5 f6 f7 f8 z0 z1 z2 z3 z4 z5 z6 z7 z8 y0 y1 y2 y3 y4 y5 y6 y7 y8
        go_upto_region 8 with (
          ((with_reducible refine gate_dst (N:=9) rfl ?_)
           refine box_event ?hg (N:=9) ?hd (cs:=#[.int .i64 0,.int .i64 0,.slice none 0 0]) (t:=36) ?hr ?_
           (case hd=>rfl)
           (case hg=>rfl)
           (case hr=>first | (go_simp; done) | (go_simp; rfl))
           intro g9 hg9 w6 hbox hbb
           have hgw_:=HB5.out.size
           have Hg9b:=Az.mk (below_set3 (bst HB5.out hbb) (show w.heap.size≤g9 from by omega) (.int .i64 tn.f0) (.int .i64 tn.f1) (.slice Av tn.f2.length cv))
           have Hg9w:=Az.mk (below_set3 hbb (Nat.le_of_eq hg9.symm) (.int .i64 tn.f0) (.int .i64 tn.f1) (.slice Av tn.f2.length cv))
           have Hg9s:=Az.mk (blk_set3 hbox (.int .i64 tn.f0) (.int .i64 tn.f1) (.slice Av tn.f2.length cv))
           have hcz0:=(blk_cell hbox 0).trans rfl
           have hcz1:=(blk_cell hbox 1).trans rfl
           have hcz2:=(blk_cell hbox 2).trans rfl
           have hfz0:=bkF hbox 0
           have hfz1:=bkF hbox 1
           have hfz2:=bkF hbox 2
           clear hgw_ hbox hbb hg9))
        clear hcz0 hcz1 hcz2 hfz0 hfz1 hfz2
        generalize ((w6.setCell ⟨g9,0,none⟩ (.int .i64 tn.f0)).setCell ⟨g9,1,none⟩ (.int .i64 tn.f1)).setCell ⟨g9,2,none⟩ (.slice Av tn.f2.length cv)=wq at *
        have S2q:=Az.mk (bkB S25.out Hg9w.out)
        have S4q:=Az.mk (bkB S45.out Hg9w.out)
        have HTMq:=Az.mk (HTM5.out.below Hg9w.out)
        have HTVq:=Az.mk (HTV.out.below Hg9w.out)
        have u0:wq.cell? ⟨g2,0,none⟩=some (.slice A0 l0.length c0):=(blk_cell S2q.out 0).trans rfl
        have u1:wq.cell? ⟨g2,1,none⟩=some (.slice A1 l1.length c1):=(blk_cell S2q.out 1).trans rfl
        have u2:wq.cell? ⟨g2,2,none⟩=some (.slice Ap r'.path.length cp):=(blk_cell S2q.out 2).trans rfl
        have u3:wq.cell? ⟨g2,3,none⟩=some (.int .i64 r'.t.f0):=(blk_cell S2q.out 3).trans rfl
        have u4:wq.cell? ⟨g2,4,none⟩=some (.int .i64 r'.t.f1):=(blk_cell S2q.out 4).trans rfl
        have u5:wq.cell? ⟨g2,5,none⟩=some (.slice At' r'.t.f2.length ct'):=(blk_cell S2q.out 5).trans rfl
        have u6:wq.cell? ⟨g2,6,none⟩=some (.bool r'.known):=(blk_cell S2q.out 6).trans rfl
        have u7:wq.cell? ⟨g2,7,none⟩=some (.int .i64 r'.steps):=(blk_cell S2q.out 7).trans rfl
        have u8:wq.cell? ⟨g2,8,none⟩=some (.bool r'.lost):=(blk_cell S2q.out 8).trans rfl
        have f0:wq.frozen? ⟨g2,0,none⟩=false:=bkF S2q.out 0
        have f1:wq.frozen? ⟨g2,1,none⟩=false:=bkF S2q.out 1
        have f2:wq.frozen? ⟨g2,2,none⟩=false:=bkF S2q.out 2
        have f3:wq.frozen? ⟨g2,3,none⟩=false:=bkF S2q.out 3
        have f4:wq.frozen? ⟨g2,4,none⟩=false:=bkF S2q.out 4
        have f5:wq.frozen? ⟨g2,5,none⟩=false:=bkF S2q.out 5
        have f6:wq.frozen? ⟨g2,6,none⟩=false:=bkF S2q.out 6
        have f7:wq.frozen? ⟨g2,7,none⟩=false:=bkF S2q.out 7
        have f8:wq.frozen? ⟨g2,8,none⟩=false:=bkF S2q.out 8
        have z0:wq.cell? ⟨g4,0,none⟩=some (.slice none 0 0):=(blk_cell S4q.out 0).trans rfl
        have z1:wq.cell? ⟨g4,1,none⟩=some (.slice none 0 0):=(blk_cell S4q.out 1).trans rfl
        have z2:wq.cell? ⟨g4,2,none⟩=some (.slice none 0 0):=(blk_cell S4q.out 2).trans rfl
        have z3:wq.cell? ⟨g4,3,none⟩=some (.int .i64 0):=(blk_cell S4q.out 3).trans rfl
        have z4:wq.cell? ⟨g4,4,none⟩=some (.int .i64 0):=(blk_cell S4q.out 4).trans rfl
        have z5:wq.cell? ⟨g4,5,none⟩=some (.slice none 0 0):=(blk_cell S4q.out 5).trans rfl
        have z6:wq.cell? ⟨g4,6,none⟩=some (.bool false):=(blk_cell S4q.out 6).trans rfl
        have z7:wq.cell? ⟨g4,7,none⟩=some (.int .i64 0):=(blk_cell S4q.out 7).trans rfl
        have z8:wq.cell? ⟨g4,8,none⟩=some (.bool false):=(blk_cell S4q.out 8).trans rfl
        have y0:wq.frozen? ⟨g4,0,none⟩=false:=bkF S4q.out 0
        have y1:wq.frozen? ⟨g4,1,none⟩=false:=bkF S4q.out 1
        have y2:wq.frozen? ⟨g4,2,none⟩=false:=bkF S4q.out 2
        have y3:wq.frozen? ⟨g4,3,none⟩=false:=bkF S4q.out 3
        have y4:wq.frozen? ⟨g4,4,none⟩=false:=bkF S4q.out 4
        have y5:wq.frozen? ⟨g4,5,none⟩=false:=bkF S4q.out 5
        have y6:wq.frozen? ⟨g4,6,none⟩=false:=bkF S4q.out 6
        have y7:wq.frozen? ⟨g4,7,none⟩=false:=bkF S4q.out 7
        have y8:wq.frozen? ⟨g4,8,none⟩=false:=bkF S4q.out 8
        have e0:wq.cell? ⟨g9,0,none⟩=some (.int .i64 tn.f0):=(blk_cell Hg9s.out 0).trans rfl
        have e1:wq.cell? ⟨g9,1,none⟩=some (.int .i64 tn.f1):=(blk_cell Hg9s.out 1).trans rfl
        have e2:wq.cell? ⟨g9,2,none⟩=some (.slice Av tn.f2.length cv):=(blk_cell Hg9s.out 2).trans rfl
        go_wp2_with fail
        have HTV2:=Az.mk (show Tm wq (fun k=>(ok k∨w.heap.size≤k)∧k≠g2∧k≠g4) tn Av cv from HTVq.out.mono (fun k hk=>by
          have hlt:=HSZ.out
          have hsz:=HBw.out.size
          have:wr.heap.size≤k:=hk
          exact ⟨.inr (by omega),by omega,by omega⟩))
        have HT4q:=Az.mk (Tm.far4 (g:=g2) HTV2.out (fun k hk=>hk.2.1))
        have HB4q:=Az.mk (show ∀ a3 a4 a5 a7:Value,Below w.heap.size w ((((wq.setCell ⟨g2,3,none⟩ a3).setCell ⟨g2,4,none⟩ a4).setCell ⟨g2,5,none⟩ a5).setCell ⟨g2,7,none⟩ a7) from fun a3 a4 a5 a7=>bset (bset (bset (bset Hg9b.out HG2.out) HG2.out) HG2.out) HG2.out)
        go_roundg k
        case measure=>omega
        case rel =>
          refine ⟨n+1,⟨r'.path,tn,r'.known,r'.steps+1,r'.lost⟩,Av,cv,by go_num,⟨by have:=Hn.out; omega⟩,⟨HPK.out,?_⟩,⟨HNT.out,by show 0≤r'.steps+1; omega,by show r'.steps+1≤_; omega⟩,⟨?_⟩,⟨?_⟩,⟨?_⟩,⟨HB4q.out _ _ _ _⟩⟩
          · rw [show ((n+1:Nat):Int)=(n:Int)+1 from by omega]; exact HRE.out
          · exact put4 S2q.out _ _ _ _
          · exact blk_far (blk_far (blk_far (blk_far S4q.out HNE3 _) HNE3 _) HNE3 _) HNE3 _
          · exact HT4q.out _ _ _ _
end Go.Proofs.Ytkgknidogelffaa.I
namespace Go.Proofs.Ytkgknidogelffaa.I
open Go.RowKit Go.Proofs.YtkgknidogelffaaW.PrintWords Go.Proofs.YtkgknidogelffaaW.PrintLast Go.Proofs.YtkgknidogelffaaW.PrintMore
set_option linter.unusedVariables false
set_option maxRecDepth 100000
set_option linter.unusedSimpArgs false
def MsX (w:World) (lo:Nat) (lq:List S41) (L:List (Nat × MS)) (X:Nat→Prop):Prop:=lo≤w.heap.size∧∃ (ok:Nat→Nat→Prop) (p:Nat→MP),
  (∀ i (h:i < L.length),(p i).gm=L[i].1∧(∀ k,ok i k→lo≤k∧k < w.heap.size)∧MM w lo (ok i) lq L[i].2 (p i)) ∧
  (∀ i j,i < L.length→j < L.length→i≠j→∀ k,(p i).own k→¬ (p j).own k∧¬ ok j k)∧∀ i,i < L.length→∀ k,(p i).own k∨ok i k→¬ X k
variable {w w':World} {lo:Nat} {lq l1:List S41} {l0:List S84} {L:List (Nat × MS)} {X X':Nat→Prop}
theorem MsX.ms (h:MsX w lo lq L X):Ms w lo lq L:=by
  obtain ⟨h0,ok,p,h1,h2,_⟩:=h
  exact ⟨h0,ok,p,h1,h2⟩
theorem MsX.of (h:Ms w lo lq L):MsX w lo lq L (fun k=>k < lo∨w.heap.size≤k):=by
  obtain ⟨h0,ok,p,h1,h2⟩:=h
  refine ⟨h0,ok,p,h1,h2,fun i hi k hk hx=>?_⟩
  obtain ⟨_,f2,f3⟩:=h1 i hi
  rcases hk with hk | hk
  · have:=f3.lt k hk
    omega
  · have:=f2 k hk
    omega
theorem MsX.mono (h:MsX w lo lq L X) (hX:∀ k,X' k→X k):MsX w lo lq L X':=by
  obtain ⟨h0,ok,p,h1,h2,h3⟩:=h
  exact ⟨h0,ok,p,h1,h2,fun i hi k hk hx=>h3 i hi k hk (hX k hx)⟩
theorem MsX.keep (h:MsX w lo lq L X) (hk:∀ k,¬ X k→lo≤k→k < w.heap.size→w'.heap[k]?=w.heap[k]?) (hz:w.heap.size≤w'.heap.size):MsX w' lo lq L X:=by
  obtain ⟨h0,ok,p,h1,h2,h3⟩:=h
  refine ⟨by omega,ok,p,fun i hi=>?_,h2,h3⟩
  obtain ⟨e1,e2,e3⟩:=h1 i hi
  refine ⟨e1,fun k hk=>⟨(e2 k hk).1,by have:=(e2 k hk).2; omega⟩,e3.frame (fun k ho hl=>?_) hz⟩
  refine hk k (h3 i hi k ho.symm) ?_ hl
  rcases ho with ho | ho
  · exact (e2 k ho).1
  · exact (e3.lt k ho).2
theorem MsX.below (h:MsX w lo lq L X) (hb:Below w.heap.size w w'):MsX w' lo lq L X:=h.keep (fun k _ _ hl=>hb.block k hl) hb.size
theorem MsX.far (h:MsX w lo lq L X) {p:Addr} (hp:X p.block) (u:Value):MsX (w.setCell p u) lo lq L X:=h.keep (fun k hk _ _=>Below.heap_setCell w p u k (fun e=>hk (e ▸ hp))) (by simp)
def XL (w w':World) (X:Nat→Prop) (k:Nat):Prop:=(X k∧k < w.heap.size)∨w'.heap.size≤k
theorem MsX.op (h:MsX w lo lq L X) {i:Nat} (hi:i < L.length) :
    ∃ (ok:Nat→Prop) (p:MP),p.gm=L[i].1∧(∀ k,ok k→k < w.heap.size)∧MM w lo ok lq L[i].2 p∧∀ (w':World) (ok':Nat→Prop) (p':MP) (s':MS),Gr w w' lo ok ok' p p'→MM w' lo ok' lq s' p'→MsX w' lo lq (L.set i (L[i].1,s')) (XL w w' X)∧∀ k,X k→k < w.heap.size→w'.heap[k]?=w.heap[k]?:=by
  obtain ⟨h0,ok,p,h1,h2,h3⟩:=h
  obtain ⟨e1,e2,e3⟩:=h1 i hi
  refine ⟨ok i,p i,e1,fun k hk=>(e2 k hk).2,e3,fun w' ok' p' s' hg hm=>⟨⟨Nat.le_trans h0 hg.bel.size,fun j=>if j=i then ok' else ok j,fun j=>if j=i then p' else p j,fun j hj=>?_,fun a b ha hb hab k hk=>?_,fun j hj k hk hx=>?_⟩,fun k hk hl=>hg.blk k hl (fun ho=>h3 i hi k (.inl ho) hk)⟩⟩
  · rw [List.length_set] at hj
    by_cases hji:j=i
    · subst hji
      simp only [if_pos,List.getElem_set_self]
      refine ⟨hg.gm.trans e1,fun k hk=>⟨?_,hg.lt k hk⟩,hm⟩
      rcases hg.new k hk with h3 | h3
      · exact (e2 k h3).1
      · omega
    · simp only [if_neg hji,List.getElem_set_ne (fun e=>hji e.symm)]
      obtain ⟨f1,f2,f3⟩:=h1 j hj
      refine ⟨f1,fun k hk=>⟨(f2 k hk).1,Nat.lt_of_lt_of_le (f2 k hk).2 hg.bel.size⟩,f3.frame (fun k ho hl=>hg.blk k hl (fun hpi=>?_)) hg.bel.size⟩
      have h4:=h2 i j hi hj (fun e=>hji e.symm) k hpi
      rcases ho with ho | ho
      · exact h4.2 ho
      · exact h4.1 ho
  · rw [List.length_set] at ha hb
    by_cases hai:a=i
    · subst hai
      have hbi:b≠a:=fun e=>hab e.symm
      simp only [if_pos,if_neg hbi] at hk ⊢
      obtain ⟨f1,f2,f3⟩:=h1 b hb
      rcases hg.own k hk with h3 | h3
      · exact h2 a b ha hb hab k h3
      · exact ⟨fun h4=>by have:=(f3.lt k h4).1; omega,fun h4=>by have:=(f2 k h4).2; omega⟩
    · simp only [if_neg hai] at hk
      obtain ⟨f1,f2,f3⟩:=h1 a ha
      by_cases hbi:b=i
      · subst hbi
        simp only [if_pos]
        have h4:=h2 a b ha hb hab k hk
        have hl:=(f3.lt k hk).1
        refine ⟨fun h5=>?_,fun h5=>?_⟩
        · rcases hg.own k h5 with h6 | h6
          · exact h4.1 h6
          · omega
        · rcases hg.new k h5 with h6 | h6
          · exact h4.2 h6
          · omega
      · simp only [if_neg hbi]
        exact h2 a b ha hb hab k hk
  · rw [List.length_set] at hj
    by_cases hji:j=i
    · subst hji
      simp only [if_pos] at hk
      have hlt:k < w'.heap.size:=by
        rcases hk with hk | hk
        · exact (hm.lt k hk).1
        · exact hg.lt k hk
      rcases hx with ⟨hx,hl⟩ | hx
      · have:(p j).own k∨ok j k:=by
          rcases hk with hk | hk
          · rcases hg.own k hk with h6 | h6
            · exact .inl h6
            · omega
          · rcases hg.new k hk with h6 | h6
            · exact .inr h6
            · omega
        exact h3 j hi k this hx
      · omega
    · simp only [if_neg hji] at hk
      obtain ⟨f1,f2,f3⟩:=h1 j hj
      rcases hx with ⟨hx,hl⟩ | hx
      · exact h3 j hj k hk hx
      · have hz:=hg.bel.size
        rcases hk with hk | hk
        · have:=(f3.lt k hk).1; omega
        · have:=(f2 k hk).2; omega
theorem mx_go (hs:schB l0 l1=true) (hq:SameF lq l1) (hM:MsX w lo lq L X) {i:Nat} (hi:i < L.length) (hg:Good l0 l1 L[i].2) (fuel:Int) (k:Nat) (a n e:Int) (s':MS) (hr:goS l1 fuel k L[i].2=some (a,n,e,s')) :
    Calls Try.prog 12 #[.pointer (some ⟨L[i].1,0,none⟩),.int .i64 fuel] w fun x w'=>x=.returned (.tuple #[.int .i64 a,.int .i64 n,.int .i64 e])∧MsX w' lo lq (L.set i (L[i].1,s')) (XL w w' X)∧(∀ k,X k→k < w.heap.size→w'.heap[k]?=w.heap[k]?)∧Below lo w w':=by
  obtain ⟨ok,p,e1,e2,e3,e4⟩:=hM.op hi
  rw [← e1]
  refine (goS_calls hs hq e3 e2 hg fuel k a n e s' hr).mono ?_
  rintro x w' ⟨rfl,ok',p',h1,h2⟩
  have:=e4 w' ok' p' s' h1 h2
  rw [← e1] at this
  exact ⟨rfl,this.1,this.2,h1.bel⟩
theorem mx_kid (hM:MsX w lo lq L X) {i:Nat} (hi:i < L.length) (hg:Good l0 l1 L[i].2) (j:Int) (e:Int) (s':MS) (he:kidE L[i].2 j=e) (hs':kidS L[i].2 j=s') :
    Calls Try.prog 14 #[.pointer (some ⟨L[i].1,0,none⟩),.int .i64 j] w fun x w'=>x=.returned (.int .i64 e)∧MsX w' lo lq (L.set i (L[i].1,s')) (XL w w' X)∧(∀ k,X k→k < w.heap.size→w'.heap[k]?=w.heap[k]?)∧Below lo w w':=by
  obtain ⟨ok,p,e1,e2,e3,e4⟩:=hM.op hi
  rw [← e1]
  refine (kidS_calls e3 e2 hg j e s' he hs').mono ?_
  rintro x w' ⟨rfl,ok',p',h1,h2⟩
  have:=e4 w' ok' p' s' h1 h2
  rw [← e1] at this
  exact ⟨rfl,this.1,this.2,h1.bel⟩
theorem mx_path (hM:MsX w lo lq L X) {i:Nat} (hi:i < L.length) (hg:Good l0 l1 L[i].2) :
    Calls Try.prog 13 #[.pointer (some ⟨L[i].1,0,none⟩)] w fun x w'=>∃ A c,x=.returned (.slice A L[i].2.path.length c)∧Kd.R (Kd.int .i64) 3 w' w.heap.size (fun _=>True) (.slice A L[i].2.path.length c) L[i].2.path∧MsX w' lo lq L X∧Below w.heap.size w w':=by
  obtain ⟨ok,p,e1,e2,e3,e4⟩:=hM.ms.op hi
  rw [← e1]
  refine (pathS_calls e3 e2 hg).mono ?_
  rintro x w' ⟨A,c,rfl,h1,h2⟩
  exact ⟨A,c,rfl,h1,hM.below h2,h2⟩
theorem mx_fork (hM:MsX w lo lq L X) {i:Nat} (hi:i < L.length) (hg:Good l0 l1 L[i].2) :
    Calls Try.prog 18 #[.pointer (some ⟨L[i].1,0,none⟩)] w fun x w'=>∃ gm,x=.returned (.pointer (some ⟨gm,0,none⟩))∧MsX w' lo lq (L ++ [(gm,L[i].2)]) (XL w w' X)∧Below w.heap.size w w':=by
  obtain ⟨h0,ok,p,h1,h2,h3⟩:=hM
  obtain ⟨e1,e2,e3⟩:=h1 i hi
  rw [← e1]
  refine (fork_calls e3 (fun k hk=>(e2 k hk).2) hg.path hg.len).mono ?_
  rintro x w' ⟨q,rfl,hm,hb,hown⟩
  have hz:=hb.size
  refine ⟨q.gm,rfl,⟨by omega,fun j=>if j < L.length then ok j else ok i,fun j=>if j < L.length then p j else q,fun j hj=>?_,fun a b ha hb' hab k hk=>?_,fun j hj k hk hx=>?_⟩,hb⟩
  · by_cases hl:j < L.length
    · obtain ⟨f1,f2,f3⟩:=h1 j hl
      simp only [if_pos hl,List.getElem_append_left hl]
      exact ⟨f1,fun k hk=>⟨(f2 k hk).1,by have:=(f2 k hk).2; omega⟩,f3.below hb⟩
    · have hj2:j=L.length:=by rw [List.length_append,List.length_singleton] at hj; omega
      subst hj2
      simp only [if_neg hl,List.getElem_append_right (Nat.le_refl _),Nat.sub_self,List.getElem_cons_zero]
      refine ⟨trivial,fun k hk=>?_,hm⟩
      have:=e2 k hk
      omega
  · rw [List.length_append,List.length_singleton] at ha hb'
    by_cases hla:a < L.length
    · simp only [if_pos hla] at hk
      have hlt:=((h1 a hla).2.2.lt k hk).1
      by_cases hlb:b < L.length
      · simp only [if_pos hlb]
        exact h2 a b hla hlb hab k hk
      · simp only [if_neg hlb]
        refine ⟨fun h3=>by have:=hown k h3; omega,fun h4=>?_⟩
        by_cases hia:a=i
        · subst hia
          exact (h1 a hla).2.2.apt k hk h4
        · exact (h2 a i hla hi hia k hk).2 h4
    · simp only [if_neg hla] at hk
      have hn:=hown k hk
      have hlb:b < L.length:=by omega
      simp only [if_pos hlb]
      obtain ⟨f1,f2,f3⟩:=h1 b hlb
      exact ⟨fun h3=>by have:=(f3.lt k h3).1; omega,fun h3=>by have:=(f2 k h3).2; omega⟩
  · rw [List.length_append,List.length_singleton] at hj
    by_cases hl:j < L.length
    · simp only [if_pos hl] at hk
      obtain ⟨f1,f2,f3⟩:=h1 j hl
      rcases hx with ⟨hx,hx2⟩ | hx
      · exact h3 j hl k hk hx
      · rcases hk with hk | hk
        · have:=(f3.lt k hk).1; omega
        · have:=(f2 k hk).2; omega
    · simp only [if_neg hl] at hk
      rcases hk with hk | hk
      · have hn:=hown k hk
        have hn2:=(hm.lt k hk).1
        rcases hx with ⟨hx,hx2⟩ | hx
        · omega
        · omega
      · rcases hx with ⟨hx,hx2⟩ | hx
        · exact h3 i hi k (.inr hk) hx
        · have:=(e2 k hk).2; omega
theorem mx_new (A0:Option Addr) (c0:Nat) (A1:Option Addr) (c1:Nat) (hr0:Kd.C k84 w A0 l0.length l0) (hc0:l0.length≤c0) (hr1:Kd.C k41 w A1 l1.length l1) (hc1:l1.length≤c1) (hs:schB l0 l1=true) :
    Calls Try.prog 11 #[.agg #[.slice A0 l0.length c0,.slice A1 l1.length c1]] w fun x w'=>∃ gm,x=.returned (.tuple #[.pointer (some ⟨gm,0,none⟩),.int .i64 0])∧MsX w' w.heap.size (l1.map ownF) [(gm,ms0)] (fun k=>k < w.heap.size∨w'.heap.size≤k)∧Below w.heap.size w w':=by
  refine (one_new A0 c0 A1 c1 hr0 hc0 hr1 hc1 hs).mono ?_
  rintro x w' ⟨gm,rfl,hM,hb⟩
  exact ⟨gm,rfl,MsX.of hM,hb⟩
end Go.Proofs.Ytkgknidogelffaa.I
