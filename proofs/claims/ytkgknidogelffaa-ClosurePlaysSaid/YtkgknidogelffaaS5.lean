/- Texts of this session's proof, laid together: IB1, I6, IB2, IB6, IJ2, IB7. -/
import Derived.Test.YtkgknidogelffaaS4
namespace Go.Proofs.Ytkgknidogelffaa.I
open Go.RowKit Go.Proofs.YtkgknidogelffaaW.PrintWords Go.Proofs.YtkgknidogelffaaW.PrintLast Go.Proofs.YtkgknidogelffaaW.PrintMore
attribute [local go_sem] max2_int min2_int max_two min_two max_three min_three max_four min_four   -- for this text's walks alone
set_option linter.unusedVariables false
set_option linter.unusedSimpArgs false
def virgationref01_begins.f (a0:ByteArray) (a1:Int) (a2:ByteArray):Option (Bool):=if (wrap64 ((a0.size:Int) - a1)) ≥ (a2.size:Int) then (if 0≤a1 then (if a1≤(wrap64 (a1+(a2.size:Int))) then (if (wrap64 (a1+(a2.size:Int)))≤(a0.size:Int) then (some ((a0.extract (a1:Int).toNat ((wrap64 (a1+(a2.size:Int))):Int).toNat).toList == a2.toList)) else (none)) else (none)) else (none)) else (some false)
set_option maxHeartbeats 8000000 in
set_option maxRecDepth 100000 in
theorem virgationref01_begins.calls (a0:ByteArray) (a1:Int) (a2:ByteArray) (r:Bool) (w:World) (h:virgationref01_begins.f a0 a1 a2=some r) :
    Calls Try.prog 71 #[.string a0,.int .i64 a1,.string a2] w fun e w'=>e=.returned (.bool r)∧Drawn0 w w':=by
  have H:(if (wrap64 ((a0.size:Int) - a1)) ≥ (a2.size:Int) then (if 0≤a1 then (if a1≤(wrap64 (a1+(a2.size:Int))) then (if (wrap64 (a1+(a2.size:Int)))≤(a0.size:Int) then (some ((a0.extract (a1:Int).toNat ((wrap64 (a1+(a2.size:Int))):Int).toNat).toList == a2.toList)) else (none)) else (none)) else (none)) else (some false))=some r:=h
  clear h
  by_cases c4:(wrap64 ((a0.size:Int) - a1)) ≥ (a2.size:Int)
  · rw [if_pos c4] at H
    have c4b0:decide ((a2.size:Int)≤(wrap64 ((a0.size:Int) - a1)))=true:=decide_eq_true c4
    clear c4
    by_cases c5:0≤a1
    · rw [if_pos c5] at H
      have c5b0:=eq_true c5
      have c5b1:decide (0≤a1)=true:=decide_eq_true c5
      clear c5
      by_cases c6:a1≤(wrap64 (a1+(a2.size:Int)))
      · rw [if_pos c6] at H
        have c6b0:=eq_true c6
        have c6b1:decide (a1≤(wrap64 (a1+(a2.size:Int))))=true:=decide_eq_true c6
        by_cases c7:(wrap64 (a1+(a2.size:Int)))≤(a0.size:Int)
        · rw [if_pos c7] at H
          have c7b0:=eq_true c7
          have c7b1:decide ((wrap64 (a1+(a2.size:Int)))≤(a0.size:Int))=true:=decide_eq_true c7
          obtain rfl:=Option.some.inj H
          go_enter Try.func71,Try.ntmps71
          go_wp2
          go_ret
          exact ⟨by first | rfl | (simp; done) | (simp [*]; done),by repeat (first | exact Drawn0.refl _ | apply Drawn0.step)⟩
        · rw [if_neg c7] at H
          exact absurd H (by simp)
      · rw [if_neg c6] at H
        exact absurd H (by simp)
    · rw [if_neg c5] at H
      exact absurd H (by simp)
  · rw [if_neg c4] at H
    have c4b0:decide ((a2.size:Int)≤(wrap64 ((a0.size:Int) - a1)))=false:=decide_eq_false c4
    clear c4
    obtain rfl:=Option.some.inj H
    go_enter Try.func71,Try.ntmps71
    go_wp2
    go_ret
    exact ⟨by first | rfl | (simp; done) | (simp [*]; done),by repeat (first | exact Drawn0.refl _ | apply Drawn0.step)⟩
mutual
def virgationref01_Parse.l0:Nat→ByteArray→Int→List (S39)→Option ((List (S39)) × Int × Bool)
  | 0,_,_,_=>none
  | k+1,x0,x1,x335000=>(virgationref01_begins.f x0 x1 (⟨#[111]⟩:ByteArray)).bind fun t335=>(if t335=true then ((virgationref01_begins.f x0 (wrap64 (x1+1)) (⟨#[32,62,32]⟩:ByteArray)).bind fun t336=>(if t336=true then (if x335000.length < 5864062014805 then (virgationref01_Parse.l0 k x0 (wrap64 ((wrap64 (x1+1))+3)) (x335000 ++ [(⟨([]:List (S39))⟩:S39)])) else (none)) else (some (x335000,wrap64 (x1+1),true)))) else ((virgationref01_begins.f x0 x1 (⟨#[40]⟩:ByteArray)).bind fun t340=>(if t340=true then ((virgationref01_Parse.f k x0 (wrap64 (x1+1))).bind fun bt341=>(if bt341.2.2=true then (if (bt341.1.length:Int)=0 then (some (x335000,x1,false)) else ((virgationref01_begins.f x0 bt341.2.1 (⟨#[41,32,62,32]⟩:ByteArray)).bind fun t347=>(if t347=true then (if x335000.length < 5864062014805 then (virgationref01_Parse.l0 k x0 (wrap64 (bt341.2.1+4)) (x335000 ++ [(⟨bt341.1⟩:S39)])) else (none)) else (some (x335000,x1,false))))) else (some (x335000,x1,false)))) else (some (x335000,x1,false)))))
def virgationref01_Parse.f:Nat→ByteArray→Int→Option ((List (S39)) × Int × Bool)
  | 0,_,_=>none
  | k+1,a0,a1=>virgationref01_Parse.l0 k a0 a1 ([]:List (S39))
end
set_option maxHeartbeats 8000000 in
set_option maxRecDepth 100000 in
theorem virgationref01_Parse.calls (k:Nat):∀ (a0:ByteArray) (a1:Int) (r1:List (S39)) (r2:Int) (r3:Bool) (w:World) (h:virgationref01_Parse.f k a0 a1=some (r1,r2,r3)),
    Calls Try.prog 63 #[.string a0,.int .i64 a1] w fun e w'=>∃ v0_:Value,e=.returned (.tuple #[.agg #[v0_],.int .i64 r2,.bool r3])∧Kd.R k39 39 w' w.heap.size (fun _=>True) v0_ r1∧Below w.heap.size w w':=by
  induction k using Nat.strongRecOn with
  | _ k ih =>
  intro a0 a1 r1 r2 r3 w h
  cases k with
  | zero=>exact absurd h (by simp [virgationref01_Parse.f])
  | succ k =>
  simp only [virgationref01_Parse.f] at h
  have hu39:=Try.underlying39
  have HB:=Az.mk (Below.refl w.heap.size w)
  have H:(virgationref01_Parse.l0 k a0 a1 ([]:List (S39)))=some (r1,r2,r3):=h
  clear h
  have H':=Az.mk H
  clear H
  go_enter Try.func63,Try.ntmps63
  go_wp2_with (first | ((with_reducible refine gate_dst (N:=4) rfl ?_); (try (refine gate_guard (by rfl) ?_; dsimp only)); refine box_event ?hg (N:=4) ?hd (cs:=#[.slice none 0 0]) (t:=39) ?hr ?_; (case hd=>rfl); (case hg=>rfl); (case hr=>first | (go_simp; done) | (go_simp; rfl)); intro gb333 hg w3 hbox hb; have n0_:=Az.mk (bst (by repeat (first | (with_reducible first | exact HB.out | apply bal | apply pwN | apply bd1) | exact HB.out)) hb); have n1_:=Az.mk (hbox); have n2_:=Az.mk ((by rw [hg]; exact (below_size (by repeat (first | (with_reducible first | exact HB.out | apply bal | apply pwN | apply bd1) | exact HB.out))):w.heap.size≤gb333)); have n3_:=Az.mk ((by rw [hg]; exact (below_size (by repeat (first | (with_reducible first | exact HB.out | apply bal | apply pwN | apply bd1) | exact HB.out))):w.heap.size≤gb333)); clear HB; have HB:=n0_; have BK333:=n1_; have GW333:=n2_; have GE333:=n3_; clear n0_ n1_ n2_ n3_; clear hb hbox hg) | ((with_reducible refine gate_dst (N:=7) rfl ?_); (try (refine gate_guard (by rfl) ?_; dsimp only)); refine box_event ?hg (N:=7) ?hd (cs:=#[.slice none 0 0]) (t:=39) ?hr ?_; (case hd=>rfl); (case hg=>rfl); (case hr=>first | (go_simp; done) | (go_simp; rfl)); intro gb334 hg w4 hbox hb; have n0_:=Az.mk (bkB (g:=gb333) (o:=.cells #[.slice none 0 0] 39 (0,0)) (by (with_reducible repeat (first | refine bdN ?_ _ | refine blk_drew ?_ | refine bkA ?_ _)); exact BK333.out) hb); have n1_:=Az.mk (bst (by repeat (first | (with_reducible first | exact HB.out | apply bal | apply pwN | apply bd1 | refine bset ?_ GE333.out) | exact HB.out)) hb); have n2_:=Az.mk (hbox); have n3_:=Az.mk ((by rw [hg]; exact (below_size (by repeat (first | (with_reducible first | exact HB.out | apply bal | apply pwN | apply bd1 | refine bset ?_ GE333.out) | exact HB.out))):w.heap.size≤gb334)); have n4_:=Az.mk ((by rw [hg]; exact (below_size (by repeat (first | (with_reducible first | exact HB.out | apply bal | apply pwN | apply bd1 | refine bset ?_ GE333.out) | exact HB.out))):w.heap.size≤gb334)); have n5_:=Az.mk ((by rw [hg]; exact Nat.ne_of_lt (blk_lt (g:=gb333) (o:=.cells #[.slice none 0 0] 39 (0,0)) (by (with_reducible repeat (first | refine bdN ?_ _ | refine blk_drew ?_ | refine bkA ?_ _)); exact BK333.out)):gb333≠gb334)); have n6_:=Az.mk ((by rw [hg]; exact Nat.ne_of_gt (blk_lt (g:=gb333) (o:=.cells #[.slice none 0 0] 39 (0,0)) (by (with_reducible repeat (first | refine bdN ?_ _ | refine blk_drew ?_ | refine bkA ?_ _)); exact BK333.out)):gb334≠gb333)); clear BK333; clear HB; have BK333:=n0_; have HB:=n1_; have BK334:=n2_; have GW334:=n3_; have GE334:=n4_; have NB333_334:=n5_; have NB334_333:=n6_; clear n0_ n1_ n2_ n3_ n4_ n5_ n6_; clear hb hbox hg))
  (try simp only [Act.put,List.setIfInBounds_toArray,List.set_cons_zero,List.set_cons_succ])
  go_loopg [1] k (fun kq v1 w'=>∃ (x1_1:Int) (x335000_1:List (S39)) (u335000:Value),v1=.int .i64 x1_1∧Az (virgationref01_Parse.l0 kq a0 x1_1 x335000_1=some (r1,r2,r3))∧Az (kq≤k)∧Az (Kd.R k39 39 w' w.heap.size (fun k_=>k_≠gb333∧k_≠gb334) u335000 x335000_1)∧Az (w'.heap[gb333]?=some (.cells #[(.slice none 0 0)] 39 (0,0)))∧Az (w'.heap[gb334]?=some (.cells #[u335000] 39 (0,0)))∧Az (Below w.heap.size w w'))
  case atStart=>exact ⟨(a1),(([]:List (S39))),(.slice none 0 0),(by first | rfl | (simp; done) | (simp [*]; done)),H',⟨Nat.le_refl _⟩,⟨by first | exact Kd.R_nil _ _ _ _ _ | exact Kd.N_nil _ _ _ _ _ | exact Kd.V_nil _ _ _ _ _ | exact Kd.Q_nil _ _ _ _ _ | exact Kd.S_nil _ _ _ _ _⟩,⟨by (with_reducible repeat (first | refine bdN ?_ _ | refine blk_drew ?_ | refine bkA ?_ _)); exact BK333.out⟩,⟨by (with_reducible repeat (first | refine bdN ?_ _ | refine blk_drew ?_ | refine bkA ?_ _)); exact BK334.out⟩,⟨by repeat (first | (with_reducible first | exact HB.out | apply bal | apply pwN | apply bd1 | refine bset ?_ GE333.out | refine bset ?_ GE334.out) | exact HB.out)⟩⟩
  case round =>
    clear H'
    try clear p2
    try clear c4
    obtain ⟨x1_1,x335000_1,u335000,rfl,HA,HK1,HO_335000,BK333,BK334,HB⟩:=hrel
    cases gk with
    | zero=>exact absurd HA.out (by simp [virgationref01_Parse.l0])
    | succ k1 =>
      have H:=HA.out
      clear HA
      simp only [virgationref01_Parse.l0] at H
      replace H:=Option.bind_eq_some_iff.mp H
      obtain ⟨t335,A50,H⟩:=H
      replace H:(if t335=true then ((virgationref01_begins.f a0 (wrap64 (x1_1+1)) (⟨#[32,62,32]⟩:ByteArray)).bind fun t336=>(if t336=true then (if x335000_1.length < 5864062014805 then (virgationref01_Parse.l0 k1 a0 (wrap64 ((wrap64 (x1_1+1))+3)) (x335000_1 ++ [(⟨([]:List (S39))⟩:S39)])) else (none)) else (some (x335000_1,wrap64 (x1_1+1),true)))) else ((virgationref01_begins.f a0 x1_1 (⟨#[40]⟩:ByteArray)).bind fun t340=>(if t340=true then ((virgationref01_Parse.f k1 a0 (wrap64 (x1_1+1))).bind fun bt341=>(if bt341.2.2=true then (if (bt341.1.length:Int)=0 then (some (x335000_1,x1_1,false)) else ((virgationref01_begins.f a0 bt341.2.1 (⟨#[41,32,62,32]⟩:ByteArray)).bind fun t347=>(if t347=true then (if x335000_1.length < 5864062014805 then (virgationref01_Parse.l0 k1 a0 (wrap64 (bt341.2.1+4)) (x335000_1 ++ [(⟨bt341.1⟩:S39)])) else (none)) else (some (x335000_1,x1_1,false))))) else (some (x335000_1,x1_1,false)))) else (some (x335000_1,x1_1,false)))))=some (r1,r2,r3):=H
      have A5:=Az.mk A50
      clear A50
      by_cases c6:t335=true
      · subst c6
        have H1:((virgationref01_begins.f a0 (wrap64 (x1_1+1)) (⟨#[32,62,32]⟩:ByteArray)).bind fun t336=>(if t336=true then (if x335000_1.length < 5864062014805 then (virgationref01_Parse.l0 k1 a0 (wrap64 ((wrap64 (x1_1+1))+3)) (x335000_1 ++ [(⟨([]:List (S39))⟩:S39)])) else (none)) else (some (x335000_1,wrap64 (x1_1+1),true))))=some (r1,r2,r3):=by rw [if_pos rfl] at H; exact H
        clear H
        have H:=H1
        clear H1
        replace H:=Option.bind_eq_some_iff.mp H
        obtain ⟨t336,A70,H⟩:=H
        replace H:(if t336=true then (if x335000_1.length < 5864062014805 then (virgationref01_Parse.l0 k1 a0 (wrap64 ((wrap64 (x1_1+1))+3)) (x335000_1 ++ [(⟨([]:List (S39))⟩:S39)])) else (none)) else (some (x335000_1,wrap64 (x1_1+1),true)))=some (r1,r2,r3):=H
        have A7:=Az.mk A70
        clear A70
        by_cases c8:t336=true
        · subst c8
          have H1:(if x335000_1.length < 5864062014805 then (virgationref01_Parse.l0 k1 a0 (wrap64 ((wrap64 (x1_1+1))+3)) (x335000_1 ++ [(⟨([]:List (S39))⟩:S39)])) else (none))=some (r1,r2,r3):=by rw [if_pos rfl] at H; exact H
          clear H
          have H:=H1
          clear H1
          by_cases c9:x335000_1.length < 5864062014805
          · rw [if_pos c9] at H
            have LMc9:=Az.mk c9
            clear c9
            obtain ⟨y337,hy337⟩:∃ y_:List (S39),y_=(x335000_1 ++ [(⟨([]:List (S39))⟩:S39)]):=⟨_,rfl⟩
            replace H:(virgationref01_Parse.l0 k1 a0 (wrap64 ((wrap64 (x1_1+1))+3)) y337)=some (r1,r2,r3):=by first | (rw [hy337]; with_reducible exact H) | (have H2_:=(Option.bind_some _ _).symm.trans H; rw [hy337]; with_reducible exact H2_) | (have H2_:=(Option.bind_some _ _).symm.trans H; with_reducible exact H2_) | with_reducible exact H | (rw [hy337]; exact H) | exact H
            have Ny337:=Az.mk hy337
            clear hy337
            have H':=Az.mk H
            clear H
            go_wp2_with (first | ((with_reducible refine gate_callee (f:=71) rfl ?_); refine goesL_ (some 13) rfl rfl Try.func71 (by kernel_rfl) rfl #[.string a0,.int .i64 x1_1,.string (⟨#[111]⟩:ByteArray)] rfl (by (try simp only [List.map_toArray,List.map_cons,List.map_nil]); first | done | rfl | (simp only [List.length_drop,List.length_take]; rfl)) ?_; (with_reducible refine (virgationref01_begins.calls a0 x1_1 (⟨#[111]⟩:ByteArray) true _ A5.out).mono ?_); rintro e w' ⟨rfl,⟨nd,rfl⟩⟩; refine ⟨_,rfl,?_⟩; (try (rw [drewN_self wr]; generalize hq_:World.drewN wr _=wr; have n0_:Az (Kd.R k39 39 wr w.heap.size (fun k_=>k_≠gb333∧k_≠gb334) u335000 x335000_1):=⟨by rw [← hq_]; exact (by (with_reducible repeat (first | apply Kd.R_alloc | apply Kd.R_drewN | apply Kd.R_drew)); exact HO_335000.out)⟩; have n1_:Az (wr.heap[gb333]?=some (.cells #[.slice none 0 0] 39 (0,0))):=⟨by rw [← hq_]; exact (by (with_reducible repeat (first | refine bdN ?_ _ | refine blk_drew ?_ | refine bkA ?_ _)); exact BK333.out)⟩; have n2_:Az (wr.heap[gb334]?=some (.cells #[u335000] 39 (0,0))):=⟨by rw [← hq_]; exact (by (with_reducible repeat (first | refine bdN ?_ _ | refine blk_drew ?_ | refine bkA ?_ _)); exact BK334.out)⟩; have n3_:Az (Below w.heap.size w wr):=⟨by rw [← hq_]; exact (by repeat (first | (with_reducible first | exact HB.out | apply bal | apply pwN | apply bd1 | refine bset ?_ GE333.out | refine bset ?_ GE334.out) | exact HB.out))⟩; clear HO_335000 BK333 BK334 HB hq_; have HO_335000:=n0_; have BK333:=n1_; have BK334:=n2_; have HB:=n3_; clear n0_ n1_ n2_ n3_))) | ((with_reducible refine gate_callee (f:=71) rfl ?_); refine goesL_ (some 18) rfl rfl Try.func71 (by kernel_rfl) rfl #[.string a0,.int .i64 (wrap64 (x1_1+1)),.string (⟨#[32,62,32]⟩:ByteArray)] rfl (by (try simp only [List.map_toArray,List.map_cons,List.map_nil]); first | done | rfl | (simp only [List.length_drop,List.length_take]; rfl)) ?_; (with_reducible refine (virgationref01_begins.calls a0 (wrap64 (x1_1+1)) (⟨#[32,62,32]⟩:ByteArray) true _ A7.out).mono ?_); rintro e w' ⟨rfl,⟨nd,rfl⟩⟩; refine ⟨_,rfl,?_⟩; (try (rw [drewN_self wr]; generalize hq_:World.drewN wr _=wr; have n0_:Az (Kd.R k39 39 wr w.heap.size (fun k_=>k_≠gb333∧k_≠gb334) u335000 x335000_1):=⟨by rw [← hq_]; exact (by (with_reducible repeat (first | apply Kd.R_alloc | apply Kd.R_drewN | apply Kd.R_drew)); exact HO_335000.out)⟩; have n1_:Az (wr.heap[gb333]?=some (.cells #[.slice none 0 0] 39 (0,0))):=⟨by rw [← hq_]; exact (by (with_reducible repeat (first | refine bdN ?_ _ | refine blk_drew ?_ | refine bkA ?_ _)); exact BK333.out)⟩; have n2_:Az (wr.heap[gb334]?=some (.cells #[u335000] 39 (0,0))):=⟨by rw [← hq_]; exact (by (with_reducible repeat (first | refine bdN ?_ _ | refine blk_drew ?_ | refine bkA ?_ _)); exact BK334.out)⟩; have n3_:Az (Below w.heap.size w wr):=⟨by rw [← hq_]; exact (by repeat (first | (with_reducible first | exact HB.out | apply bal | apply pwN | apply bd1 | refine bset ?_ GE333.out | refine bset ?_ GE334.out) | exact HB.out))⟩; clear HO_335000 BK333 BK334 HB hq_; have HO_335000:=n0_; have BK333:=n1_; have BK334:=n2_; have HB:=n3_; clear n0_ n1_ n2_ n3_)); have hnb10:=NB334_333.out; have hnc10:=NB333_334.out; have hcz11_0:wr.cell? ⟨gb334,0,none⟩=some (u335000):=(blk_cell BK334.out 0).trans rfl; have hfz11_0:=bkF BK334.out 0) | ((with_reducible refine gate_builtin (b:=.append) (xs:=#[.tmp 23,.tmp 25]) rfl ?_); (try (refine gate_guard (by rfl) ?_; dsimp only)); at_builtin; refine Kd.R_append k39 (w0:=w) w.heap.size rfl (.tmp 23) (.tmp 25) 37 39 (.agg #[(.slice none 0 0)]) 24 rfl Try.underlying37 info39 rfl (by decide) (by omega) u335000 x335000_1 (⟨([]:List (S39))⟩:S39) [.slice none 0 0] (fun k_=>k_≠gb333∧k_≠gb334) (fun k_=>((fun k_=>k_≠gb333∧k_≠gb334)) k_∧some k_≠(u335000:Value).ownBlock) rfl rfl ?aP (fun _ hk=>hk) ?aF ?aO ?aB ?aS ?aL ?_; (case aP=>exact k39_mkM _ _ _ (⟨([]:List (S39))⟩:S39) (Kd.R_nil _ _ _ _ _)); (case aB=>exact (by repeat (first | (with_reducible first | exact HB.out | apply bal | apply pwN | apply bd1 | refine bset ?_ GE333.out | refine bset ?_ GE334.out) | exact HB.out))); (case aF=>exact (fun k_ hk=>⟨Kd.freshB (g:=gb333) (o:=.cells #[.slice none 0 0] 39 (0,0)) (by (with_reducible repeat (first | refine bdN ?_ _ | refine blk_drew ?_ | refine bkA ?_ _)); exact BK333.out) k_ hk,Kd.freshB (g:=gb334) (o:=.cells #[u335000] 39 (0,0)) (by (with_reducible repeat (first | refine bdN ?_ _ | refine blk_drew ?_ | refine bkA ?_ _)); exact BK334.out) k_ hk⟩)); (case aO=>exact (by (with_reducible repeat (first | apply Kd.R_alloc | apply Kd.R_drewN | apply Kd.R_drew)); exact HO_335000.out)); (case aS=>exact (below_size (by repeat (first | (with_reducible first | exact HB.out | apply bal | apply pwN | apply bd1 | refine bset ?_ GE333.out | refine bset ?_ GE334.out) | exact HB.out)))); (case aL=>have:=LMc9.out; omega); intro v338 w12 ho hb hg hat; rw [← Ny337.out] at ho; have n0_:=Az.mk (blk_grown (g:=gb333) (o:=.cells #[.slice none 0 0] 39 (0,0)) (by (with_reducible repeat (first | refine bdN ?_ _ | refine blk_drew ?_ | refine bkA ?_ _)); exact BK333.out) hg (Kd.R_away HO_335000.out (fun _ hk=>hk.1))); have n1_:=Az.mk (blk_grown (g:=gb334) (o:=.cells #[u335000] 39 (0,0)) (by (with_reducible repeat (first | refine bdN ?_ _ | refine blk_drew ?_ | refine bkA ?_ _)); exact BK334.out) hg (Kd.R_away HO_335000.out (fun _ hk=>hk.2))); have n2_:=Az.mk (hb); have n3_:=Az.mk (ho); clear BK333; clear BK334; clear HB; clear HO_335000; have BK333:=n0_; have BK334:=n1_; have HB:=n2_; have HO339:=n3_; clear n0_ n1_ n2_ n3_; clear ho hb hg hat; obtain ⟨Ao13,co13,eo13⟩:=Kd.R_slice HO339.out; subst eo13; have hcz14_0:w12.cell? ⟨gb334,0,none⟩=some (u335000):=(blk_cell BK334.out 0).trans rfl; have hfz14_0:=bkF BK334.out 0))
            go_roundg k1
            case measure=>have:=HK1.out; omega
            case rel=>exact ⟨(wrap64 ((wrap64 (x1_1+1))+3)),(y337),(.slice Ao13 y337.length co13),(by first | rfl | (simp; done) | (simp [*]; done)),H',⟨by have:=HK1.out; omega⟩,⟨by (with_reducible repeat (first | apply Kd.R_alloc | apply Kd.R_drewN | apply Kd.R_drew)); exact Kd.R_mono (Kd.R_far (p:=⟨gb334,0,none⟩) (Kd.R_mono HO339.out (fun k_ hk=>(⟨hk,hk.2⟩:_∧k_≠gb334))) (fun _ hk=>hk.2) (.slice Ao13 y337.length co13)) (fun _ hk=>⟨hk.1.1,hk.1.2⟩)⟩,⟨by (with_reducible repeat (first | refine bdN ?_ _ | refine blk_drew ?_ | refine bkA ?_ _)); refine blk_far ?_ NB333_334.out _; (with_reducible repeat (first | refine bdN ?_ _ | refine blk_drew ?_ | refine bkA ?_ _)); exact BK333.out⟩,⟨by (with_reducible repeat (first | refine bdN ?_ _ | refine blk_drew ?_ | refine bkA ?_ _)); refine blk_put (cs:=#[u335000]) ?_ 0 _ rfl; (with_reducible repeat (first | refine bdN ?_ _ | refine blk_drew ?_ | refine bkA ?_ _)); exact BK334.out⟩,⟨by repeat (first | (with_reducible first | exact HB.out | apply bal | apply pwN | apply bd1 | refine bset ?_ GE333.out | refine bset ?_ GE334.out) | exact HB.out)⟩⟩
          · rw [if_neg c9] at H
            exact absurd H (by simp)
        · replace c8:=Bool.eq_false_iff.mpr c8
          subst c8
          have H1:(some (x335000_1,wrap64 (x1_1+1),true))=some (r1,r2,r3):=by rw [if_neg (show ¬ (false=true) by decide)] at H; exact H
          clear H
          have H:=H1
          clear H1
          simp only [Option.some.injEq,Prod.mk.injEq] at H
          obtain ⟨rfl,rfl,rfl⟩:=H
          go_wp2_with (first | ((with_reducible refine gate_callee (f:=71) rfl ?_); refine goesL_ (some 13) rfl rfl Try.func71 (by kernel_rfl) rfl #[.string a0,.int .i64 x1_1,.string (⟨#[111]⟩:ByteArray)] rfl (by (try simp only [List.map_toArray,List.map_cons,List.map_nil]); first | done | rfl | (simp only [List.length_drop,List.length_take]; rfl)) ?_; (with_reducible refine (virgationref01_begins.calls a0 x1_1 (⟨#[111]⟩:ByteArray) true _ A5.out).mono ?_); rintro e w' ⟨rfl,⟨nd,rfl⟩⟩; refine ⟨_,rfl,?_⟩; (try (rw [drewN_self wr]; generalize hq_:World.drewN wr _=wr; have n0_:Az (Kd.R k39 39 wr w.heap.size (fun k_=>k_≠gb333∧k_≠gb334) u335000 x335000_1):=⟨by rw [← hq_]; exact (by (with_reducible repeat (first | apply Kd.R_alloc | apply Kd.R_drewN | apply Kd.R_drew)); exact HO_335000.out)⟩; have n1_:Az (wr.heap[gb333]?=some (.cells #[.slice none 0 0] 39 (0,0))):=⟨by rw [← hq_]; exact (by (with_reducible repeat (first | refine bdN ?_ _ | refine blk_drew ?_ | refine bkA ?_ _)); exact BK333.out)⟩; have n2_:Az (wr.heap[gb334]?=some (.cells #[u335000] 39 (0,0))):=⟨by rw [← hq_]; exact (by (with_reducible repeat (first | refine bdN ?_ _ | refine blk_drew ?_ | refine bkA ?_ _)); exact BK334.out)⟩; have n3_:Az (Below w.heap.size w wr):=⟨by rw [← hq_]; exact (by repeat (first | (with_reducible first | exact HB.out | apply bal | apply pwN | apply bd1 | refine bset ?_ GE333.out | refine bset ?_ GE334.out) | exact HB.out))⟩; clear HO_335000 BK333 BK334 HB hq_; have HO_335000:=n0_; have BK333:=n1_; have BK334:=n2_; have HB:=n3_; clear n0_ n1_ n2_ n3_))) | ((with_reducible refine gate_callee (f:=71) rfl ?_); refine goesL_ (some 18) rfl rfl Try.func71 (by kernel_rfl) rfl #[.string a0,.int .i64 (wrap64 (x1_1+1)),.string (⟨#[32,62,32]⟩:ByteArray)] rfl (by (try simp only [List.map_toArray,List.map_cons,List.map_nil]); first | done | rfl | (simp only [List.length_drop,List.length_take]; rfl)) ?_; (with_reducible refine (virgationref01_begins.calls a0 (wrap64 (x1_1+1)) (⟨#[32,62,32]⟩:ByteArray) false _ A7.out).mono ?_); rintro e w' ⟨rfl,⟨nd,rfl⟩⟩; refine ⟨_,rfl,?_⟩; (try (rw [drewN_self wr]; generalize hq_:World.drewN wr _=wr; have n0_:Az (Kd.R k39 39 wr w.heap.size (fun k_=>k_≠gb333∧k_≠gb334) u335000 x335000_1):=⟨by rw [← hq_]; exact (by (with_reducible repeat (first | apply Kd.R_alloc | apply Kd.R_drewN | apply Kd.R_drew)); exact HO_335000.out)⟩; have n1_:Az (wr.heap[gb333]?=some (.cells #[.slice none 0 0] 39 (0,0))):=⟨by rw [← hq_]; exact (by (with_reducible repeat (first | refine bdN ?_ _ | refine blk_drew ?_ | refine bkA ?_ _)); exact BK333.out)⟩; have n2_:Az (wr.heap[gb334]?=some (.cells #[u335000] 39 (0,0))):=⟨by rw [← hq_]; exact (by (with_reducible repeat (first | refine bdN ?_ _ | refine blk_drew ?_ | refine bkA ?_ _)); exact BK334.out)⟩; have n3_:Az (Below w.heap.size w wr):=⟨by rw [← hq_]; exact (by repeat (first | (with_reducible first | exact HB.out | apply bal | apply pwN | apply bd1 | refine bset ?_ GE333.out | refine bset ?_ GE334.out) | exact HB.out))⟩; clear HO_335000 BK333 BK334 HB hq_; have HO_335000:=n0_; have BK333:=n1_; have BK334:=n2_; have HB:=n3_; clear n0_ n1_ n2_ n3_)); have hnb15:=NB334_333.out; have hnc15:=NB333_334.out; have hcz16_0:wr.cell? ⟨gb334,0,none⟩=some (u335000):=(blk_cell BK334.out 0).trans rfl; have hfz16_0:=bkF BK334.out 0; obtain ⟨Ao17,co17,eo17⟩:=Kd.R_slice HO_335000.out; subst eo17; have hcz18_0:wr.cell? ⟨gb333,0,none⟩=some (.slice none 0 0):=(blk_cell BK333.out 0).trans rfl; have hfz18_0:=bkF BK333.out 0))
          refine bodyPost_ret (results_ctt rfl _ _ gb333 39 #[.slice Ao17 x335000_1.length co17] (0,0) _ rfl (by (with_reducible repeat (first | refine bdN ?_ _ | refine blk_drew ?_ | refine bkA ?_ _)); refine blk_put (cs:=#[.slice none 0 0]) ?_ 0 _ rfl; (with_reducible repeat (first | refine bdN ?_ _ | refine blk_drew ?_ | refine bkA ?_ _)); exact BK333.out) Try.underlying39 rfl (by kernel_rfl)) rfl ?_
          exact ⟨_,by first | rfl | (simp [errW_none,errW_some] <;> rfl) | (simp [*,errW_none,errW_some] <;> rfl),by (with_reducible repeat (first | apply Kd.R_alloc | apply Kd.R_drewN | apply Kd.R_drew)); exact Kd.R_mono (Kd.R_far (p:=⟨gb333,0,none⟩) (Kd.R_mono HO_335000.out (fun k_ hk=>(⟨hk,hk.1⟩:_∧k_≠gb333))) (fun _ hk=>hk.2) (.slice Ao17 x335000_1.length co17)) (fun _ hk=>trivial),by repeat (first | (with_reducible first | exact HB.out | apply bal | apply pwN | apply bd1 | refine bset ?_ GE333.out | refine bset ?_ GE334.out) | exact HB.out)⟩
      · replace c6:=Bool.eq_false_iff.mpr c6
        subst c6
        have H1:((virgationref01_begins.f a0 x1_1 (⟨#[40]⟩:ByteArray)).bind fun t340=>(if t340=true then ((virgationref01_Parse.f k1 a0 (wrap64 (x1_1+1))).bind fun bt341=>(if bt341.2.2=true then (if (bt341.1.length:Int)=0 then (some (x335000_1,x1_1,false)) else ((virgationref01_begins.f a0 bt341.2.1 (⟨#[41,32,62,32]⟩:ByteArray)).bind fun t347=>(if t347=true then (if x335000_1.length < 5864062014805 then (virgationref01_Parse.l0 k1 a0 (wrap64 (bt341.2.1+4)) (x335000_1 ++ [(⟨bt341.1⟩:S39)])) else (none)) else (some (x335000_1,x1_1,false))))) else (some (x335000_1,x1_1,false)))) else (some (x335000_1,x1_1,false))))=some (r1,r2,r3):=by rw [if_neg (show ¬ (false=true) by decide)] at H; exact H
        clear H
        have H:=H1
        clear H1
        replace H:=Option.bind_eq_some_iff.mp H
        obtain ⟨t340,A190,H⟩:=H
        replace H:(if t340=true then ((virgationref01_Parse.f k1 a0 (wrap64 (x1_1+1))).bind fun bt341=>(if bt341.2.2=true then (if (bt341.1.length:Int)=0 then (some (x335000_1,x1_1,false)) else ((virgationref01_begins.f a0 bt341.2.1 (⟨#[41,32,62,32]⟩:ByteArray)).bind fun t347=>(if t347=true then (if x335000_1.length < 5864062014805 then (virgationref01_Parse.l0 k1 a0 (wrap64 (bt341.2.1+4)) (x335000_1 ++ [(⟨bt341.1⟩:S39)])) else (none)) else (some (x335000_1,x1_1,false))))) else (some (x335000_1,x1_1,false)))) else (some (x335000_1,x1_1,false)))=some (r1,r2,r3):=H
        have A19:=Az.mk A190
        clear A190
        by_cases c20:t340=true
        · subst c20
          have H1:((virgationref01_Parse.f k1 a0 (wrap64 (x1_1+1))).bind fun bt341=>(if bt341.2.2=true then (if (bt341.1.length:Int)=0 then (some (x335000_1,x1_1,false)) else ((virgationref01_begins.f a0 bt341.2.1 (⟨#[41,32,62,32]⟩:ByteArray)).bind fun t347=>(if t347=true then (if x335000_1.length < 5864062014805 then (virgationref01_Parse.l0 k1 a0 (wrap64 (bt341.2.1+4)) (x335000_1 ++ [(⟨bt341.1⟩:S39)])) else (none)) else (some (x335000_1,x1_1,false))))) else (some (x335000_1,x1_1,false))))=some (r1,r2,r3):=by rw [if_pos rfl] at H; exact H
          clear H
          have H:=H1
          clear H1
          replace H:=Option.bind_eq_some_iff.mp H
          obtain ⟨⟨t341,t344,t345⟩,A210,H⟩:=H
          replace H:(if t345=true then (if (t341.length:Int)=0 then (some (x335000_1,x1_1,false)) else ((virgationref01_begins.f a0 t344 (⟨#[41,32,62,32]⟩:ByteArray)).bind fun t347=>(if t347=true then (if x335000_1.length < 5864062014805 then (virgationref01_Parse.l0 k1 a0 (wrap64 (t344+4)) (x335000_1 ++ [(⟨t341⟩:S39)])) else (none)) else (some (x335000_1,x1_1,false))))) else (some (x335000_1,x1_1,false)))=some (r1,r2,r3):=H
          have A21:=Az.mk A210
          clear A210
          by_cases c22:t345=true
          · subst c22
            have H1:(if (t341.length:Int)=0 then (some (x335000_1,x1_1,false)) else ((virgationref01_begins.f a0 t344 (⟨#[41,32,62,32]⟩:ByteArray)).bind fun t347=>(if t347=true then (if x335000_1.length < 5864062014805 then (virgationref01_Parse.l0 k1 a0 (wrap64 (t344+4)) (x335000_1 ++ [(⟨t341⟩:S39)])) else (none)) else (some (x335000_1,x1_1,false)))))=some (r1,r2,r3):=by rw [if_pos rfl] at H; exact H
            clear H
            have H:=H1
            clear H1
            by_cases c23:(t341.length:Int)=0
            · rw [if_pos c23] at H
              have c23b0:((t341.length:Int) == 0)=true:=beq_iff_eq.mpr c23
              have c23b1:((t341.length:Int) != 0)=false:=bne_eq_false_iff_eq.mpr c23
              clear c23
              simp only [Option.some.injEq,Prod.mk.injEq] at H
              obtain ⟨rfl,rfl,rfl⟩:=H
              go_wp2_with (first | ((with_reducible refine gate_callee (f:=71) rfl ?_); refine goesL_ (some 13) rfl rfl Try.func71 (by kernel_rfl) rfl #[.string a0,.int .i64 x1_1,.string (⟨#[111]⟩:ByteArray)] rfl (by (try simp only [List.map_toArray,List.map_cons,List.map_nil]); first | done | rfl | (simp only [List.length_drop,List.length_take]; rfl)) ?_; (with_reducible refine (virgationref01_begins.calls a0 x1_1 (⟨#[111]⟩:ByteArray) false _ A5.out).mono ?_); rintro e w' ⟨rfl,⟨nd,rfl⟩⟩; refine ⟨_,rfl,?_⟩; (try (rw [drewN_self wr]; generalize hq_:World.drewN wr _=wr; have n0_:Az (Kd.R k39 39 wr w.heap.size (fun k_=>k_≠gb333∧k_≠gb334) u335000 x335000_1):=⟨by rw [← hq_]; exact (by (with_reducible repeat (first | apply Kd.R_alloc | apply Kd.R_drewN | apply Kd.R_drew)); exact HO_335000.out)⟩; have n1_:Az (wr.heap[gb333]?=some (.cells #[.slice none 0 0] 39 (0,0))):=⟨by rw [← hq_]; exact (by (with_reducible repeat (first | refine bdN ?_ _ | refine blk_drew ?_ | refine bkA ?_ _)); exact BK333.out)⟩; have n2_:Az (wr.heap[gb334]?=some (.cells #[u335000] 39 (0,0))):=⟨by rw [← hq_]; exact (by (with_reducible repeat (first | refine bdN ?_ _ | refine blk_drew ?_ | refine bkA ?_ _)); exact BK334.out)⟩; have n3_:Az (Below w.heap.size w wr):=⟨by rw [← hq_]; exact (by repeat (first | (with_reducible first | exact HB.out | apply bal | apply pwN | apply bd1 | refine bset ?_ GE333.out | refine bset ?_ GE334.out) | exact HB.out))⟩; clear HO_335000 BK333 BK334 HB hq_; have HO_335000:=n0_; have BK333:=n1_; have BK334:=n2_; have HB:=n3_; clear n0_ n1_ n2_ n3_))) | ((with_reducible refine gate_callee (f:=71) rfl ?_); refine goesL_ (some 32) rfl rfl Try.func71 (by kernel_rfl) rfl #[.string a0,.int .i64 x1_1,.string (⟨#[40]⟩:ByteArray)] rfl (by (try simp only [List.map_toArray,List.map_cons,List.map_nil]); first | done | rfl | (simp only [List.length_drop,List.length_take]; rfl)) ?_; (with_reducible refine (virgationref01_begins.calls a0 x1_1 (⟨#[40]⟩:ByteArray) true _ A19.out).mono ?_); rintro e w' ⟨rfl,⟨nd,rfl⟩⟩; refine ⟨_,rfl,?_⟩; (try (rw [drewN_self wr]; generalize hq_:World.drewN wr _=wr; have n0_:Az (Kd.R k39 39 wr w.heap.size (fun k_=>k_≠gb333∧k_≠gb334) u335000 x335000_1):=⟨by rw [← hq_]; exact (by (with_reducible repeat (first | apply Kd.R_alloc | apply Kd.R_drewN | apply Kd.R_drew)); exact HO_335000.out)⟩; have n1_:Az (wr.heap[gb333]?=some (.cells #[.slice none 0 0] 39 (0,0))):=⟨by rw [← hq_]; exact (by (with_reducible repeat (first | refine bdN ?_ _ | refine blk_drew ?_ | refine bkA ?_ _)); exact BK333.out)⟩; have n2_:Az (wr.heap[gb334]?=some (.cells #[u335000] 39 (0,0))):=⟨by rw [← hq_]; exact (by (with_reducible repeat (first | refine bdN ?_ _ | refine blk_drew ?_ | refine bkA ?_ _)); exact BK334.out)⟩; have n3_:Az (Below w.heap.size w wr):=⟨by rw [← hq_]; exact (by repeat (first | (with_reducible first | exact HB.out | apply bal | apply pwN | apply bd1 | refine bset ?_ GE333.out | refine bset ?_ GE334.out) | exact HB.out))⟩; clear HO_335000 BK333 BK334 HB hq_; have HO_335000:=n0_; have BK333:=n1_; have BK334:=n2_; have HB:=n3_; clear n0_ n1_ n2_ n3_))) | ((with_reducible refine gate_callee (f:=63) rfl ?_); refine goesL_ (some 40) rfl rfl Try.func63 (by kernel_rfl) rfl #[.string a0,.int .i64 (wrap64 (x1_1+1))] rfl (by (try simp only [List.map_toArray,List.map_cons,List.map_nil]); first | done | rfl | (simp only [List.length_drop,List.length_take]; rfl)) ?_; (with_reducible refine (ih k1 (by have:=HK1.out; omega) a0 (wrap64 (x1_1+1)) t341 t344 true _ A21.out).mono ?_); rintro e w24 ⟨v342,rfl,ho0,hb⟩; refine ⟨_,rfl,?_⟩; have n0_:=Az.mk (Kd.R_elder' (by (with_reducible repeat (first | apply Kd.R_alloc | apply Kd.R_drewN | apply Kd.R_drew)); exact HO_335000.out) (Kd.R_base ho0) hb); have n1_:=Az.mk (Kd.R_lower (Kd.R_newB (Kd.R_newB (Kd.R_new' ho0 (Kd.R_lt (by (with_reducible repeat (first | apply Kd.R_alloc | apply Kd.R_drewN | apply Kd.R_drew)); exact HO_335000.out))) (g:=gb333) (o:=.cells #[.slice none 0 0] 39 (0,0)) (by (with_reducible repeat (first | refine bdN ?_ _ | refine blk_drew ?_ | refine bkA ?_ _)); exact BK333.out)) (g:=gb334) (o:=.cells #[u335000] 39 (0,0)) (by (with_reducible repeat (first | refine bdN ?_ _ | refine blk_drew ?_ | refine bkA ?_ _)); exact BK334.out)) (below_size (by repeat (first | (with_reducible first | exact HB.out | apply bal | apply pwN | apply bd1 | refine bset ?_ GE333.out | refine bset ?_ GE334.out) | exact HB.out)))); have n2_:=Az.mk (bkB (g:=gb333) (o:=.cells #[.slice none 0 0] 39 (0,0)) (by (with_reducible repeat (first | refine bdN ?_ _ | refine blk_drew ?_ | refine bkA ?_ _)); exact BK333.out) hb); have n3_:=Az.mk (bkB (g:=gb334) (o:=.cells #[u335000] 39 (0,0)) (by (with_reducible repeat (first | refine bdN ?_ _ | refine blk_drew ?_ | refine bkA ?_ _)); exact BK334.out) hb); have n4_:=Az.mk (bst (by repeat (first | (with_reducible first | exact HB.out | apply bal | apply pwN | apply bd1 | refine bset ?_ GE333.out | refine bset ?_ GE334.out) | exact HB.out)) hb); clear HO_335000; clear BK333; clear BK334; clear HB; have HO_335000:=n0_; have HO343:=n1_; have BK333:=n2_; have BK334:=n3_; have HB:=n4_; clear n0_ n1_ n2_ n3_ n4_; (try clear hb); (try clear hb2); (try clear hk); (try clear hi); (try clear ho0)) | ((with_reducible refine gate_dst (N:=8) rfl ?_); (try (refine gate_guard (by rfl) ?_; dsimp only)); refine box_event ?hg (N:=8) ?hd (cs:=#[.slice none 0 0]) (t:=39) ?hr ?_; (case hd=>rfl); (case hg=>rfl); (case hr=>first | (go_simp; done) | (go_simp; rfl)); intro gb346 hg w25 hbox hb; have n0_:=Az.mk (Kd.R_below (Kd.R_elderB (by (with_reducible repeat (first | apply Kd.R_alloc | apply Kd.R_drewN | apply Kd.R_drew)); exact HO_335000.out) gb346 (Nat.le_of_eq hg.symm)) hb); have n1_:=Az.mk (Kd.R_below (Kd.R_elderB (by (with_reducible repeat (first | apply Kd.R_alloc | apply Kd.R_drewN | apply Kd.R_drew)); exact HO343.out) gb346 (Nat.le_of_eq hg.symm)) hb); have n2_:=Az.mk (bkB (g:=gb333) (o:=.cells #[.slice none 0 0] 39 (0,0)) (by (with_reducible repeat (first | refine bdN ?_ _ | refine blk_drew ?_ | refine bkA ?_ _)); exact BK333.out) hb); have n3_:=Az.mk (bkB (g:=gb334) (o:=.cells #[u335000] 39 (0,0)) (by (with_reducible repeat (first | refine bdN ?_ _ | refine blk_drew ?_ | refine bkA ?_ _)); exact BK334.out) hb); have n4_:=Az.mk (bst (by repeat (first | (with_reducible first | exact HB.out | apply bal | apply pwN | apply bd1 | refine bset ?_ GE333.out | refine bset ?_ GE334.out) | exact HB.out)) hb); have n5_:=Az.mk (hbox); have n6_:=Az.mk ((by rw [hg]; exact (below_size (by repeat (first | (with_reducible first | exact HB.out | apply bal | apply pwN | apply bd1 | refine bset ?_ GE333.out | refine bset ?_ GE334.out) | exact HB.out))):w.heap.size≤gb346)); have n7_:=Az.mk ((by rw [hg]; exact (below_size (by repeat (first | (with_reducible first | exact HB.out | apply bal | apply pwN | apply bd1 | refine bset ?_ GE333.out | refine bset ?_ GE334.out) | exact HB.out))):w.heap.size≤gb346)); have n8_:=Az.mk ((by rw [hg]; exact Nat.ne_of_lt (blk_lt (g:=gb333) (o:=.cells #[.slice none 0 0] 39 (0,0)) (by (with_reducible repeat (first | refine bdN ?_ _ | refine blk_drew ?_ | refine bkA ?_ _)); exact BK333.out)):gb333≠gb346)); have n9_:=Az.mk ((by rw [hg]; exact Nat.ne_of_gt (blk_lt (g:=gb333) (o:=.cells #[.slice none 0 0] 39 (0,0)) (by (with_reducible repeat (first | refine bdN ?_ _ | refine blk_drew ?_ | refine bkA ?_ _)); exact BK333.out)):gb346≠gb333)); have n10_:=Az.mk ((by rw [hg]; exact Nat.ne_of_lt (blk_lt (g:=gb334) (o:=.cells #[u335000] 39 (0,0)) (by (with_reducible repeat (first | refine bdN ?_ _ | refine blk_drew ?_ | refine bkA ?_ _)); exact BK334.out)):gb334≠gb346)); have n11_:=Az.mk ((by rw [hg]; exact Nat.ne_of_gt (blk_lt (g:=gb334) (o:=.cells #[u335000] 39 (0,0)) (by (with_reducible repeat (first | refine bdN ?_ _ | refine blk_drew ?_ | refine bkA ?_ _)); exact BK334.out)):gb346≠gb334)); clear HO_335000; clear HO343; clear BK333; clear BK334; clear HB; have HO_335000:=n0_; have HO343:=n1_; have BK333:=n2_; have BK334:=n3_; have HB:=n4_; have BK346:=n5_; have GW346:=n6_; have GE346:=n7_; have NB333_346:=n8_; have NB346_333:=n9_; have NB334_346:=n10_; have NB346_334:=n11_; clear n0_ n1_ n2_ n3_ n4_ n5_ n6_ n7_ n8_ n9_ n10_ n11_; clear hb hbox hg; obtain ⟨Ao26,co26,eo26⟩:=Kd.R_slice HO343.out; subst eo26; have hnb27:=NB346_333.out; have hnc27:=NB333_346.out; have hnb28:=NB346_334.out; have hnc28:=NB334_346.out; have hcz29_0:w25.cell? ⟨gb346,0,none⟩=some (.slice none 0 0):=(blk_cell BK346.out 0).trans rfl; have hfz29_0:=bkF BK346.out 0; have hnb30:=NB334_333.out; have hnc30:=NB333_334.out; have hcz31_0:w25.cell? ⟨gb334,0,none⟩=some (u335000):=(blk_cell BK334.out 0).trans rfl; have hfz31_0:=bkF BK334.out 0; obtain ⟨Ao32,co32,eo32⟩:=Kd.R_slice HO_335000.out; subst eo32; have hcz33_0:w25.cell? ⟨gb333,0,none⟩=some (.slice none 0 0):=(blk_cell BK333.out 0).trans rfl; have hfz33_0:=bkF BK333.out 0))
              refine bodyPost_ret (results_ctt rfl _ _ gb333 39 #[.slice Ao32 x335000_1.length co32] (0,0) _ rfl (by (with_reducible repeat (first | refine bdN ?_ _ | refine blk_drew ?_ | refine bkA ?_ _)); refine blk_put (cs:=#[.slice none 0 0]) ?_ 0 _ rfl; (with_reducible repeat (first | refine bdN ?_ _ | refine blk_drew ?_ | refine bkA ?_ _)); refine blk_far ?_ NB333_346.out _; (with_reducible repeat (first | refine bdN ?_ _ | refine blk_drew ?_ | refine bkA ?_ _)); exact BK333.out) Try.underlying39 rfl (by kernel_rfl)) rfl ?_
              exact ⟨_,by first | rfl | (simp [errW_none,errW_some] <;> rfl) | (simp [*,errW_none,errW_some] <;> rfl),by (with_reducible repeat (first | apply Kd.R_alloc | apply Kd.R_drewN | apply Kd.R_drew)); exact Kd.R_mono (Kd.R_far (p:=⟨gb333,0,none⟩) (Kd.R_far (p:=⟨gb346,0,none⟩) (Kd.R_mono (Kd.R_mono HO_335000.out (fun k_ hk=>(⟨hk,hk.2⟩:_∧k_≠gb346))) (fun k_ hk=>(⟨hk,hk.1.1.1.1⟩:_∧k_≠gb333))) (fun _ hk=>hk.1.2) (.slice Ao26 t341.length co26)) (fun _ hk=>hk.2) (.slice Ao32 x335000_1.length co32)) (fun _ hk=>trivial),by repeat (first | (with_reducible first | exact HB.out | apply bal | apply pwN | apply bd1 | refine bset ?_ GE333.out | refine bset ?_ GE334.out | refine bset ?_ GE346.out) | exact HB.out)⟩
            · rw [if_neg c23] at H
              have c23b0:((t341.length:Int) == 0)=false:=beq_eq_false_iff_ne.mpr c23
              have c23b1:((t341.length:Int) != 0)=true:=bne_iff_ne.mpr c23
              have c23b2:¬ (t341=[]):=fun h_=>c23 (by rw [h_]; rfl)
              replace H:=Option.bind_eq_some_iff.mp H
              obtain ⟨t347,A340,H⟩:=H
              replace H:(if t347=true then (if x335000_1.length < 5864062014805 then (virgationref01_Parse.l0 k1 a0 (wrap64 (t344+4)) (x335000_1 ++ [(⟨t341⟩:S39)])) else (none)) else (some (x335000_1,x1_1,false)))=some (r1,r2,r3):=H
              have A34:=Az.mk A340
              clear A340
              by_cases c35:t347=true
              · subst c35
                have H1:(if x335000_1.length < 5864062014805 then (virgationref01_Parse.l0 k1 a0 (wrap64 (t344+4)) (x335000_1 ++ [(⟨t341⟩:S39)])) else (none))=some (r1,r2,r3):=by rw [if_pos rfl] at H; exact H
                clear H
                have H:=H1
                clear H1
                by_cases c36:x335000_1.length < 5864062014805
                · rw [if_pos c36] at H
                  have LMc36:=Az.mk c36
                  clear c36
                  obtain ⟨y348,hy348⟩:∃ y_:List (S39),y_=(x335000_1 ++ [(⟨t341⟩:S39)]):=⟨_,rfl⟩
                  replace H:(virgationref01_Parse.l0 k1 a0 (wrap64 (t344+4)) y348)=some (r1,r2,r3):=by first | (rw [hy348]; with_reducible exact H) | (have H2_:=(Option.bind_some _ _).symm.trans H; rw [hy348]; with_reducible exact H2_) | (have H2_:=(Option.bind_some _ _).symm.trans H; with_reducible exact H2_) | with_reducible exact H | (rw [hy348]; exact H) | exact H
                  have Ny348:=Az.mk hy348
                  clear hy348
                  have H':=Az.mk H
                  clear H
                  go_wp2_with (first | ((with_reducible refine gate_callee (f:=71) rfl ?_); refine goesL_ (some 13) rfl rfl Try.func71 (by kernel_rfl) rfl #[.string a0,.int .i64 x1_1,.string (⟨#[111]⟩:ByteArray)] rfl (by (try simp only [List.map_toArray,List.map_cons,List.map_nil]); first | done | rfl | (simp only [List.length_drop,List.length_take]; rfl)) ?_; (with_reducible refine (virgationref01_begins.calls a0 x1_1 (⟨#[111]⟩:ByteArray) false _ A5.out).mono ?_); rintro e w' ⟨rfl,⟨nd,rfl⟩⟩; refine ⟨_,rfl,?_⟩; (try (rw [drewN_self wr]; generalize hq_:World.drewN wr _=wr; have n0_:Az (Kd.R k39 39 wr w.heap.size (fun k_=>k_≠gb333∧k_≠gb334) u335000 x335000_1):=⟨by rw [← hq_]; exact (by (with_reducible repeat (first | apply Kd.R_alloc | apply Kd.R_drewN | apply Kd.R_drew)); exact HO_335000.out)⟩; have n1_:Az (wr.heap[gb333]?=some (.cells #[.slice none 0 0] 39 (0,0))):=⟨by rw [← hq_]; exact (by (with_reducible repeat (first | refine bdN ?_ _ | refine blk_drew ?_ | refine bkA ?_ _)); exact BK333.out)⟩; have n2_:Az (wr.heap[gb334]?=some (.cells #[u335000] 39 (0,0))):=⟨by rw [← hq_]; exact (by (with_reducible repeat (first | refine bdN ?_ _ | refine blk_drew ?_ | refine bkA ?_ _)); exact BK334.out)⟩; have n3_:Az (Below w.heap.size w wr):=⟨by rw [← hq_]; exact (by repeat (first | (with_reducible first | exact HB.out | apply bal | apply pwN | apply bd1 | refine bset ?_ GE333.out | refine bset ?_ GE334.out) | exact HB.out))⟩; clear HO_335000 BK333 BK334 HB hq_; have HO_335000:=n0_; have BK333:=n1_; have BK334:=n2_; have HB:=n3_; clear n0_ n1_ n2_ n3_))) | ((with_reducible refine gate_callee (f:=71) rfl ?_); refine goesL_ (some 32) rfl rfl Try.func71 (by kernel_rfl) rfl #[.string a0,.int .i64 x1_1,.string (⟨#[40]⟩:ByteArray)] rfl (by (try simp only [List.map_toArray,List.map_cons,List.map_nil]); first | done | rfl | (simp only [List.length_drop,List.length_take]; rfl)) ?_; (with_reducible refine (virgationref01_begins.calls a0 x1_1 (⟨#[40]⟩:ByteArray) true _ A19.out).mono ?_); rintro e w' ⟨rfl,⟨nd,rfl⟩⟩; refine ⟨_,rfl,?_⟩; (try (rw [drewN_self wr]; generalize hq_:World.drewN wr _=wr; have n0_:Az (Kd.R k39 39 wr w.heap.size (fun k_=>k_≠gb333∧k_≠gb334) u335000 x335000_1):=⟨by rw [← hq_]; exact (by (with_reducible repeat (first | apply Kd.R_alloc | apply Kd.R_drewN | apply Kd.R_drew)); exact HO_335000.out)⟩; have n1_:Az (wr.heap[gb333]?=some (.cells #[.slice none 0 0] 39 (0,0))):=⟨by rw [← hq_]; exact (by (with_reducible repeat (first | refine bdN ?_ _ | refine blk_drew ?_ | refine bkA ?_ _)); exact BK333.out)⟩; have n2_:Az (wr.heap[gb334]?=some (.cells #[u335000] 39 (0,0))):=⟨by rw [← hq_]; exact (by (with_reducible repeat (first | refine bdN ?_ _ | refine blk_drew ?_ | refine bkA ?_ _)); exact BK334.out)⟩; have n3_:Az (Below w.heap.size w wr):=⟨by rw [← hq_]; exact (by repeat (first | (with_reducible first | exact HB.out | apply bal | apply pwN | apply bd1 | refine bset ?_ GE333.out | refine bset ?_ GE334.out) | exact HB.out))⟩; clear HO_335000 BK333 BK334 HB hq_; have HO_335000:=n0_; have BK333:=n1_; have BK334:=n2_; have HB:=n3_; clear n0_ n1_ n2_ n3_))) | ((with_reducible refine gate_callee (f:=63) rfl ?_); refine goesL_ (some 40) rfl rfl Try.func63 (by kernel_rfl) rfl #[.string a0,.int .i64 (wrap64 (x1_1+1))] rfl (by (try simp only [List.map_toArray,List.map_cons,List.map_nil]); first | done | rfl | (simp only [List.length_drop,List.length_take]; rfl)) ?_; (with_reducible refine (ih k1 (by have:=HK1.out; omega) a0 (wrap64 (x1_1+1)) t341 t344 true _ A21.out).mono ?_); rintro e w37 ⟨v342,rfl,ho0,hb⟩; refine ⟨_,rfl,?_⟩; have n0_:=Az.mk (Kd.R_elder' (by (with_reducible repeat (first | apply Kd.R_alloc | apply Kd.R_drewN | apply Kd.R_drew)); exact HO_335000.out) (Kd.R_base ho0) hb); have n1_:=Az.mk (Kd.R_lower (Kd.R_newB (Kd.R_newB (Kd.R_new' ho0 (Kd.R_lt (by (with_reducible repeat (first | apply Kd.R_alloc | apply Kd.R_drewN | apply Kd.R_drew)); exact HO_335000.out))) (g:=gb333) (o:=.cells #[.slice none 0 0] 39 (0,0)) (by (with_reducible repeat (first | refine bdN ?_ _ | refine blk_drew ?_ | refine bkA ?_ _)); exact BK333.out)) (g:=gb334) (o:=.cells #[u335000] 39 (0,0)) (by (with_reducible repeat (first | refine bdN ?_ _ | refine blk_drew ?_ | refine bkA ?_ _)); exact BK334.out)) (below_size (by repeat (first | (with_reducible first | exact HB.out | apply bal | apply pwN | apply bd1 | refine bset ?_ GE333.out | refine bset ?_ GE334.out) | exact HB.out)))); have n2_:=Az.mk (bkB (g:=gb333) (o:=.cells #[.slice none 0 0] 39 (0,0)) (by (with_reducible repeat (first | refine bdN ?_ _ | refine blk_drew ?_ | refine bkA ?_ _)); exact BK333.out) hb); have n3_:=Az.mk (bkB (g:=gb334) (o:=.cells #[u335000] 39 (0,0)) (by (with_reducible repeat (first | refine bdN ?_ _ | refine blk_drew ?_ | refine bkA ?_ _)); exact BK334.out) hb); have n4_:=Az.mk (bst (by repeat (first | (with_reducible first | exact HB.out | apply bal | apply pwN | apply bd1 | refine bset ?_ GE333.out | refine bset ?_ GE334.out) | exact HB.out)) hb); clear HO_335000; clear BK333; clear BK334; clear HB; have HO_335000:=n0_; have HO343:=n1_; have BK333:=n2_; have BK334:=n3_; have HB:=n4_; clear n0_ n1_ n2_ n3_ n4_; (try clear hb); (try clear hb2); (try clear hk); (try clear hi); (try clear ho0)) | ((with_reducible refine gate_dst (N:=8) rfl ?_); (try (refine gate_guard (by rfl) ?_; dsimp only)); refine box_event ?hg (N:=8) ?hd (cs:=#[.slice none 0 0]) (t:=39) ?hr ?_; (case hd=>rfl); (case hg=>rfl); (case hr=>first | (go_simp; done) | (go_simp; rfl)); intro gb346 hg w38 hbox hb; have n0_:=Az.mk (Kd.R_below (Kd.R_elderB (by (with_reducible repeat (first | apply Kd.R_alloc | apply Kd.R_drewN | apply Kd.R_drew)); exact HO_335000.out) gb346 (Nat.le_of_eq hg.symm)) hb); have n1_:=Az.mk (Kd.R_below (Kd.R_elderB (by (with_reducible repeat (first | apply Kd.R_alloc | apply Kd.R_drewN | apply Kd.R_drew)); exact HO343.out) gb346 (Nat.le_of_eq hg.symm)) hb); have n2_:=Az.mk (bkB (g:=gb333) (o:=.cells #[.slice none 0 0] 39 (0,0)) (by (with_reducible repeat (first | refine bdN ?_ _ | refine blk_drew ?_ | refine bkA ?_ _)); exact BK333.out) hb); have n3_:=Az.mk (bkB (g:=gb334) (o:=.cells #[u335000] 39 (0,0)) (by (with_reducible repeat (first | refine bdN ?_ _ | refine blk_drew ?_ | refine bkA ?_ _)); exact BK334.out) hb); have n4_:=Az.mk (bst (by repeat (first | (with_reducible first | exact HB.out | apply bal | apply pwN | apply bd1 | refine bset ?_ GE333.out | refine bset ?_ GE334.out) | exact HB.out)) hb); have n5_:=Az.mk (hbox); have n6_:=Az.mk ((by rw [hg]; exact (below_size (by repeat (first | (with_reducible first | exact HB.out | apply bal | apply pwN | apply bd1 | refine bset ?_ GE333.out | refine bset ?_ GE334.out) | exact HB.out))):w.heap.size≤gb346)); have n7_:=Az.mk ((by rw [hg]; exact (below_size (by repeat (first | (with_reducible first | exact HB.out | apply bal | apply pwN | apply bd1 | refine bset ?_ GE333.out | refine bset ?_ GE334.out) | exact HB.out))):w.heap.size≤gb346)); have n8_:=Az.mk ((by rw [hg]; exact Nat.ne_of_lt (blk_lt (g:=gb333) (o:=.cells #[.slice none 0 0] 39 (0,0)) (by (with_reducible repeat (first | refine bdN ?_ _ | refine blk_drew ?_ | refine bkA ?_ _)); exact BK333.out)):gb333≠gb346)); have n9_:=Az.mk ((by rw [hg]; exact Nat.ne_of_gt (blk_lt (g:=gb333) (o:=.cells #[.slice none 0 0] 39 (0,0)) (by (with_reducible repeat (first | refine bdN ?_ _ | refine blk_drew ?_ | refine bkA ?_ _)); exact BK333.out)):gb346≠gb333)); have n10_:=Az.mk ((by rw [hg]; exact Nat.ne_of_lt (blk_lt (g:=gb334) (o:=.cells #[u335000] 39 (0,0)) (by (with_reducible repeat (first | refine bdN ?_ _ | refine blk_drew ?_ | refine bkA ?_ _)); exact BK334.out)):gb334≠gb346)); have n11_:=Az.mk ((by rw [hg]; exact Nat.ne_of_gt (blk_lt (g:=gb334) (o:=.cells #[u335000] 39 (0,0)) (by (with_reducible repeat (first | refine bdN ?_ _ | refine blk_drew ?_ | refine bkA ?_ _)); exact BK334.out)):gb346≠gb334)); clear HO_335000; clear HO343; clear BK333; clear BK334; clear HB; have HO_335000:=n0_; have HO343:=n1_; have BK333:=n2_; have BK334:=n3_; have HB:=n4_; have BK346:=n5_; have GW346:=n6_; have GE346:=n7_; have NB333_346:=n8_; have NB346_333:=n9_; have NB334_346:=n10_; have NB346_334:=n11_; clear n0_ n1_ n2_ n3_ n4_ n5_ n6_ n7_ n8_ n9_ n10_ n11_; clear hb hbox hg; obtain ⟨Ao39,co39,eo39⟩:=Kd.R_slice HO343.out; subst eo39; have hnb40:=NB346_333.out; have hnc40:=NB333_346.out; have hnb41:=NB346_334.out; have hnc41:=NB334_346.out; have hcz42_0:w38.cell? ⟨gb346,0,none⟩=some (.slice none 0 0):=(blk_cell BK346.out 0).trans rfl; have hfz42_0:=bkF BK346.out 0) | ((with_reducible refine gate_store (t:=39) (p:=8) rfl ?_); refine store_event (t:=39) (p:=8) (v:=?vo_w43) (w1:=(w38.setCell ⟨gb346,0,none⟩ (.slice Ao39 t341.length co39))) ?hg ?ho ?hn ?hr ?_; (case ho=>rfl); (case hg=>rfl); (case hn=>rfl); (case hr=>first | (go_simp; done) | (go_simp; rfl)); intro w43 hw; have n0_:Az (Kd.R k39 39 w43 w.heap.size (fun k_=>some k_≠(.slice Ao39 t341.length co39:Value).ownBlock∧k_≠gb333∧k_≠gb334∧k_≠gb346) u335000 x335000_1):=⟨(by rw [hw]; exact (by (with_reducible repeat (first | apply Kd.R_alloc | apply Kd.R_drewN | apply Kd.R_drew)); exact Kd.R_mono (Kd.R_far (p:=⟨gb346,0,none⟩) (Kd.R_mono HO_335000.out (fun k_ hk=>(⟨hk,hk.2⟩:_∧k_≠gb346))) (fun _ hk=>hk.2) (.slice Ao39 t341.length co39)) (fun _ hk=>⟨hk.1.1.2,⟨hk.1.1.1.1,⟨hk.1.1.1.2,hk.1.2⟩⟩⟩)))⟩; have n1_:Az (Kd.R k39 39 w43 w.heap.size (fun k_=>some k_≠(u335000:Value).ownBlock∧k_≠gb333∧k_≠gb334∧k_≠gb346) (.slice Ao39 t341.length co39) t341):=⟨(by rw [hw]; exact (by (with_reducible repeat (first | apply Kd.R_alloc | apply Kd.R_drewN | apply Kd.R_drew)); exact Kd.R_mono (Kd.R_far (p:=⟨gb346,0,none⟩) (Kd.R_mono HO343.out (fun k_ hk=>(⟨hk,hk.2⟩:_∧k_≠gb346))) (fun _ hk=>hk.2) (.slice Ao39 t341.length co39)) (fun _ hk=>⟨hk.1.1.1.1.2,⟨hk.1.1.1.2,⟨hk.1.1.2,hk.1.2⟩⟩⟩)))⟩; have n2_:Az (w43.heap[gb333]?=some (.cells #[.slice none 0 0] 39 (0,0))):=⟨(by rw [hw]; exact (by (with_reducible repeat (first | refine bdN ?_ _ | refine blk_drew ?_ | refine bkA ?_ _)); refine blk_far ?_ NB333_346.out _; (with_reducible repeat (first | refine bdN ?_ _ | refine blk_drew ?_ | refine bkA ?_ _)); exact BK333.out))⟩; have n3_:Az (w43.heap[gb334]?=some (.cells #[u335000] 39 (0,0))):=⟨(by rw [hw]; exact (by (with_reducible repeat (first | refine bdN ?_ _ | refine blk_drew ?_ | refine bkA ?_ _)); refine blk_far ?_ NB334_346.out _; (with_reducible repeat (first | refine bdN ?_ _ | refine blk_drew ?_ | refine bkA ?_ _)); exact BK334.out))⟩; have n4_:Az (w43.heap[gb346]?=some (.cells #[.slice Ao39 t341.length co39] 39 (0,0))):=⟨(by rw [hw]; exact (by (with_reducible repeat (first | refine bdN ?_ _ | refine blk_drew ?_ | refine bkA ?_ _)); refine blk_put (cs:=#[.slice none 0 0]) ?_ 0 _ rfl; (with_reducible repeat (first | refine bdN ?_ _ | refine blk_drew ?_ | refine bkA ?_ _)); exact BK346.out))⟩; have n5_:Az (Below w.heap.size w w43):=⟨(by rw [hw]; exact (by repeat (first | (with_reducible first | exact HB.out | apply bal | apply pwN | apply bd1 | refine bset ?_ GE333.out | refine bset ?_ GE334.out | refine bset ?_ GE346.out) | exact HB.out)))⟩; clear hw; clear HO_335000; clear HO343; clear BK333; clear BK334; clear BK346; clear HB; have HO_335000:=n0_; have HO343:=n1_; have BK333:=n2_; have BK334:=n3_; have BK346:=n4_; have HB:=n5_; clear n0_ n1_ n2_ n3_ n4_ n5_; have hcz44_0:w43.cell? ⟨gb346,0,none⟩=some (.slice Ao39 t341.length co39):=(blk_cell BK346.out 0).trans rfl; have hfz44_0:=bkF BK346.out 0) | (go_at_call 71; (with_reducible refine (virgationref01_begins.calls a0 t344 (⟨#[41,32,62,32]⟩:ByteArray) true _ A34.out).mono ?_); rintro e w' ⟨rfl,⟨nd,rfl⟩⟩; (try (rw [drewN_self w43]; generalize hq_:World.drewN w43 _=w43; have n0_:Az (Kd.R k39 39 w43 w.heap.size (fun k_=>some k_≠(u335000:Value).ownBlock∧k_≠gb333∧k_≠gb334∧k_≠gb346) (.slice Ao39 t341.length co39) t341):=⟨by rw [← hq_]; exact (by (with_reducible repeat (first | apply Kd.R_alloc | apply Kd.R_drewN | apply Kd.R_drew)); exact HO343.out)⟩; have n1_:Az (Kd.R k39 39 w43 w.heap.size (fun k_=>some k_≠(.slice Ao39 t341.length co39:Value).ownBlock∧k_≠gb333∧k_≠gb334∧k_≠gb346) u335000 x335000_1):=⟨by rw [← hq_]; exact (by (with_reducible repeat (first | apply Kd.R_alloc | apply Kd.R_drewN | apply Kd.R_drew)); exact HO_335000.out)⟩; have n2_:Az (w43.heap[gb333]?=some (.cells #[.slice none 0 0] 39 (0,0))):=⟨by rw [← hq_]; exact (by (with_reducible repeat (first | refine bdN ?_ _ | refine blk_drew ?_ | refine bkA ?_ _)); exact BK333.out)⟩; have n3_:Az (w43.heap[gb334]?=some (.cells #[u335000] 39 (0,0))):=⟨by rw [← hq_]; exact (by (with_reducible repeat (first | refine bdN ?_ _ | refine blk_drew ?_ | refine bkA ?_ _)); exact BK334.out)⟩; have n4_:Az (w43.heap[gb346]?=some (.cells #[.slice Ao39 t341.length co39] 39 (0,0))):=⟨by rw [← hq_]; exact (by (with_reducible repeat (first | refine bdN ?_ _ | refine blk_drew ?_ | refine bkA ?_ _)); exact BK346.out)⟩; have n5_:Az (Below w.heap.size w w43):=⟨by rw [← hq_]; exact (by repeat (first | (with_reducible first | exact HB.out | apply bal | apply pwN | apply bd1 | refine bset ?_ GE333.out | refine bset ?_ GE334.out | refine bset ?_ GE346.out) | exact HB.out))⟩; clear HO343 HO_335000 BK333 BK334 BK346 HB hq_; have HO343:=n0_; have HO_335000:=n1_; have BK333:=n2_; have BK334:=n3_; have BK346:=n4_; have HB:=n5_; clear n0_ n1_ n2_ n3_ n4_ n5_)); have hnb45:=NB334_333.out; have hnc45:=NB333_334.out; have hcz46_0:w43.cell? ⟨gb334,0,none⟩=some (u335000):=(blk_cell BK334.out 0).trans rfl; have hfz46_0:=bkF BK334.out 0; have hcz46_1:w43.cell? ⟨gb346,0,none⟩=some (.slice Ao39 t341.length co39):=(blk_cell BK346.out 0).trans rfl; have hfz46_1:=bkF BK346.out 0) | ((with_reducible refine gate_builtin (b:=.append) (xs:=#[.tmp 61,.tmp 63]) rfl ?_); (try (refine gate_guard (by rfl) ?_; dsimp only)); at_builtin; refine Kd.R_append k39 (w0:=w) w.heap.size rfl (.tmp 61) (.tmp 63) 37 39 (.agg #[(.slice none 0 0)]) 24 rfl Try.underlying37 info39 rfl (by decide) (by omega) u335000 x335000_1 (⟨t341⟩:S39) [.slice Ao39 t341.length co39] (fun k_=>k_≠gb333∧k_≠gb334∧k_≠gb346) (fun k_=>((fun k_=>k_≠gb333∧k_≠gb334∧k_≠gb346)) k_∧some k_≠(u335000:Value).ownBlock) rfl rfl ?aP (fun _ hk=>hk) ?aF ?aO ?aB ?aS ?aL ?_; (case aP=>exact k39_mkM _ _ _ (⟨t341⟩:S39) (Kd.R_mono (HO343.out) (fun k_ hk=>⟨⟨hk.2.1,⟨hk.2.2.1,hk.2.2.2⟩⟩,hk.1⟩))); (case aB=>exact (by repeat (first | (with_reducible first | exact HB.out | apply bal | apply pwN | apply bd1 | refine bset ?_ GE333.out | refine bset ?_ GE334.out | refine bset ?_ GE346.out) | exact HB.out))); (case aF=>exact (fun k_ hk=>⟨Kd.freshB (g:=gb333) (o:=.cells #[.slice none 0 0] 39 (0,0)) (by (with_reducible repeat (first | refine bdN ?_ _ | refine blk_drew ?_ | refine bkA ?_ _)); exact BK333.out) k_ hk,Kd.freshB (g:=gb334) (o:=.cells #[u335000] 39 (0,0)) (by (with_reducible repeat (first | refine bdN ?_ _ | refine blk_drew ?_ | refine bkA ?_ _)); exact BK334.out) k_ hk,Kd.freshB (g:=gb346) (o:=.cells #[.slice Ao39 t341.length co39] 39 (0,0)) (by (with_reducible repeat (first | refine bdN ?_ _ | refine blk_drew ?_ | refine bkA ?_ _)); exact BK346.out) k_ hk⟩)); (case aO=>exact (by (with_reducible repeat (first | apply Kd.R_alloc | apply Kd.R_drewN | apply Kd.R_drew)); exact Kd.R_mono HO_335000.out (fun _ hk=>⟨hk.2.1,⟨hk.2.2.1,hk.2.2.2⟩⟩))); (case aS=>exact (below_size (by repeat (first | (with_reducible first | exact HB.out | apply bal | apply pwN | apply bd1 | refine bset ?_ GE333.out | refine bset ?_ GE334.out | refine bset ?_ GE346.out) | exact HB.out)))); (case aL=>have:=LMc36.out; omega); intro v349 w47 ho hb hg hat; rw [← Ny348.out] at ho; have n0_:=Az.mk (blk_grown (g:=gb333) (o:=.cells #[.slice none 0 0] 39 (0,0)) (by (with_reducible repeat (first | refine bdN ?_ _ | refine blk_drew ?_ | refine bkA ?_ _)); exact BK333.out) hg (Kd.R_away HO_335000.out (fun _ hk=>hk.2.1))); have n1_:=Az.mk (blk_grown (g:=gb334) (o:=.cells #[u335000] 39 (0,0)) (by (with_reducible repeat (first | refine bdN ?_ _ | refine blk_drew ?_ | refine bkA ?_ _)); exact BK334.out) hg (Kd.R_away HO_335000.out (fun _ hk=>hk.2.2.1))); have n2_:=Az.mk (blk_grown (g:=gb346) (o:=.cells #[.slice Ao39 t341.length co39] 39 (0,0)) (by (with_reducible repeat (first | refine bdN ?_ _ | refine blk_drew ?_ | refine bkA ?_ _)); exact BK346.out) hg (Kd.R_away HO_335000.out (fun _ hk=>hk.2.2.2))); have n3_:=Az.mk (hb); have n4_:=Az.mk (ho); clear BK333; clear BK334; clear BK346; clear HB; clear HO_335000; clear HO343; have BK333:=n0_; have BK334:=n1_; have BK346:=n2_; have HB:=n3_; have HO350:=n4_; clear n0_ n1_ n2_ n3_ n4_; clear ho hb hg hat; obtain ⟨Ao48,co48,eo48⟩:=Kd.R_slice HO350.out; subst eo48; have hcz49_0:w47.cell? ⟨gb334,0,none⟩=some (u335000):=(blk_cell BK334.out 0).trans rfl; have hfz49_0:=bkF BK334.out 0))
                  go_roundg k1
                  case measure=>have:=HK1.out; omega
                  case rel=>exact ⟨(wrap64 (t344+4)),(y348),(.slice Ao48 y348.length co48),(by first | rfl | (simp; done) | (simp [*]; done)),H',⟨by have:=HK1.out; omega⟩,⟨by (with_reducible repeat (first | apply Kd.R_alloc | apply Kd.R_drewN | apply Kd.R_drew)); exact Kd.R_mono (Kd.R_far (p:=⟨gb334,0,none⟩) (Kd.R_mono HO350.out (fun k_ hk=>(⟨hk,hk.2.1⟩:_∧k_≠gb334))) (fun _ hk=>hk.2) (.slice Ao48 y348.length co48)) (fun _ hk=>⟨hk.1.1,hk.1.2.1⟩)⟩,⟨by (with_reducible repeat (first | refine bdN ?_ _ | refine blk_drew ?_ | refine bkA ?_ _)); refine blk_far ?_ NB333_334.out _; (with_reducible repeat (first | refine bdN ?_ _ | refine blk_drew ?_ | refine bkA ?_ _)); exact BK333.out⟩,⟨by (with_reducible repeat (first | refine bdN ?_ _ | refine blk_drew ?_ | refine bkA ?_ _)); refine blk_put (cs:=#[u335000]) ?_ 0 _ rfl; (with_reducible repeat (first | refine bdN ?_ _ | refine blk_drew ?_ | refine bkA ?_ _)); exact BK334.out⟩,⟨by repeat (first | (with_reducible first | exact HB.out | apply bal | apply pwN | apply bd1 | refine bset ?_ GE333.out | refine bset ?_ GE334.out | refine bset ?_ GE346.out) | exact HB.out)⟩⟩
                · rw [if_neg c36] at H
                  exact absurd H (by simp)
              · replace c35:=Bool.eq_false_iff.mpr c35
                subst c35
                have H1:(some (x335000_1,x1_1,false))=some (r1,r2,r3):=by rw [if_neg (show ¬ (false=true) by decide)] at H; exact H
                clear H
                have H:=H1
                clear H1
                simp only [Option.some.injEq,Prod.mk.injEq] at H
                obtain ⟨rfl,rfl,rfl⟩:=H
                go_wp2_with (first | ((with_reducible refine gate_callee (f:=71) rfl ?_); refine goesL_ (some 13) rfl rfl Try.func71 (by kernel_rfl) rfl #[.string a0,.int .i64 x1_1,.string (⟨#[111]⟩:ByteArray)] rfl (by (try simp only [List.map_toArray,List.map_cons,List.map_nil]); first | done | rfl | (simp only [List.length_drop,List.length_take]; rfl)) ?_; (with_reducible refine (virgationref01_begins.calls a0 x1_1 (⟨#[111]⟩:ByteArray) false _ A5.out).mono ?_); rintro e w' ⟨rfl,⟨nd,rfl⟩⟩; refine ⟨_,rfl,?_⟩; (try (rw [drewN_self wr]; generalize hq_:World.drewN wr _=wr; have n0_:Az (Kd.R k39 39 wr w.heap.size (fun k_=>k_≠gb333∧k_≠gb334) u335000 x335000_1):=⟨by rw [← hq_]; exact (by (with_reducible repeat (first | apply Kd.R_alloc | apply Kd.R_drewN | apply Kd.R_drew)); exact HO_335000.out)⟩; have n1_:Az (wr.heap[gb333]?=some (.cells #[.slice none 0 0] 39 (0,0))):=⟨by rw [← hq_]; exact (by (with_reducible repeat (first | refine bdN ?_ _ | refine blk_drew ?_ | refine bkA ?_ _)); exact BK333.out)⟩; have n2_:Az (wr.heap[gb334]?=some (.cells #[u335000] 39 (0,0))):=⟨by rw [← hq_]; exact (by (with_reducible repeat (first | refine bdN ?_ _ | refine blk_drew ?_ | refine bkA ?_ _)); exact BK334.out)⟩; have n3_:Az (Below w.heap.size w wr):=⟨by rw [← hq_]; exact (by repeat (first | (with_reducible first | exact HB.out | apply bal | apply pwN | apply bd1 | refine bset ?_ GE333.out | refine bset ?_ GE334.out) | exact HB.out))⟩; clear HO_335000 BK333 BK334 HB hq_; have HO_335000:=n0_; have BK333:=n1_; have BK334:=n2_; have HB:=n3_; clear n0_ n1_ n2_ n3_))) | ((with_reducible refine gate_callee (f:=71) rfl ?_); refine goesL_ (some 32) rfl rfl Try.func71 (by kernel_rfl) rfl #[.string a0,.int .i64 x1_1,.string (⟨#[40]⟩:ByteArray)] rfl (by (try simp only [List.map_toArray,List.map_cons,List.map_nil]); first | done | rfl | (simp only [List.length_drop,List.length_take]; rfl)) ?_; (with_reducible refine (virgationref01_begins.calls a0 x1_1 (⟨#[40]⟩:ByteArray) true _ A19.out).mono ?_); rintro e w' ⟨rfl,⟨nd,rfl⟩⟩; refine ⟨_,rfl,?_⟩; (try (rw [drewN_self wr]; generalize hq_:World.drewN wr _=wr; have n0_:Az (Kd.R k39 39 wr w.heap.size (fun k_=>k_≠gb333∧k_≠gb334) u335000 x335000_1):=⟨by rw [← hq_]; exact (by (with_reducible repeat (first | apply Kd.R_alloc | apply Kd.R_drewN | apply Kd.R_drew)); exact HO_335000.out)⟩; have n1_:Az (wr.heap[gb333]?=some (.cells #[.slice none 0 0] 39 (0,0))):=⟨by rw [← hq_]; exact (by (with_reducible repeat (first | refine bdN ?_ _ | refine blk_drew ?_ | refine bkA ?_ _)); exact BK333.out)⟩; have n2_:Az (wr.heap[gb334]?=some (.cells #[u335000] 39 (0,0))):=⟨by rw [← hq_]; exact (by (with_reducible repeat (first | refine bdN ?_ _ | refine blk_drew ?_ | refine bkA ?_ _)); exact BK334.out)⟩; have n3_:Az (Below w.heap.size w wr):=⟨by rw [← hq_]; exact (by repeat (first | (with_reducible first | exact HB.out | apply bal | apply pwN | apply bd1 | refine bset ?_ GE333.out | refine bset ?_ GE334.out) | exact HB.out))⟩; clear HO_335000 BK333 BK334 HB hq_; have HO_335000:=n0_; have BK333:=n1_; have BK334:=n2_; have HB:=n3_; clear n0_ n1_ n2_ n3_))) | ((with_reducible refine gate_callee (f:=63) rfl ?_); refine goesL_ (some 40) rfl rfl Try.func63 (by kernel_rfl) rfl #[.string a0,.int .i64 (wrap64 (x1_1+1))] rfl (by (try simp only [List.map_toArray,List.map_cons,List.map_nil]); first | done | rfl | (simp only [List.length_drop,List.length_take]; rfl)) ?_; (with_reducible refine (ih k1 (by have:=HK1.out; omega) a0 (wrap64 (x1_1+1)) t341 t344 true _ A21.out).mono ?_); rintro e w50 ⟨v342,rfl,ho0,hb⟩; refine ⟨_,rfl,?_⟩; have n0_:=Az.mk (Kd.R_elder' (by (with_reducible repeat (first | apply Kd.R_alloc | apply Kd.R_drewN | apply Kd.R_drew)); exact HO_335000.out) (Kd.R_base ho0) hb); have n1_:=Az.mk (Kd.R_lower (Kd.R_newB (Kd.R_newB (Kd.R_new' ho0 (Kd.R_lt (by (with_reducible repeat (first | apply Kd.R_alloc | apply Kd.R_drewN | apply Kd.R_drew)); exact HO_335000.out))) (g:=gb333) (o:=.cells #[.slice none 0 0] 39 (0,0)) (by (with_reducible repeat (first | refine bdN ?_ _ | refine blk_drew ?_ | refine bkA ?_ _)); exact BK333.out)) (g:=gb334) (o:=.cells #[u335000] 39 (0,0)) (by (with_reducible repeat (first | refine bdN ?_ _ | refine blk_drew ?_ | refine bkA ?_ _)); exact BK334.out)) (below_size (by repeat (first | (with_reducible first | exact HB.out | apply bal | apply pwN | apply bd1 | refine bset ?_ GE333.out | refine bset ?_ GE334.out) | exact HB.out)))); have n2_:=Az.mk (bkB (g:=gb333) (o:=.cells #[.slice none 0 0] 39 (0,0)) (by (with_reducible repeat (first | refine bdN ?_ _ | refine blk_drew ?_ | refine bkA ?_ _)); exact BK333.out) hb); have n3_:=Az.mk (bkB (g:=gb334) (o:=.cells #[u335000] 39 (0,0)) (by (with_reducible repeat (first | refine bdN ?_ _ | refine blk_drew ?_ | refine bkA ?_ _)); exact BK334.out) hb); have n4_:=Az.mk (bst (by repeat (first | (with_reducible first | exact HB.out | apply bal | apply pwN | apply bd1 | refine bset ?_ GE333.out | refine bset ?_ GE334.out) | exact HB.out)) hb); clear HO_335000; clear BK333; clear BK334; clear HB; have HO_335000:=n0_; have HO343:=n1_; have BK333:=n2_; have BK334:=n3_; have HB:=n4_; clear n0_ n1_ n2_ n3_ n4_; (try clear hb); (try clear hb2); (try clear hk); (try clear hi); (try clear ho0)) | ((with_reducible refine gate_dst (N:=8) rfl ?_); (try (refine gate_guard (by rfl) ?_; dsimp only)); refine box_event ?hg (N:=8) ?hd (cs:=#[.slice none 0 0]) (t:=39) ?hr ?_; (case hd=>rfl); (case hg=>rfl); (case hr=>first | (go_simp; done) | (go_simp; rfl)); intro gb346 hg w51 hbox hb; have n0_:=Az.mk (Kd.R_below (Kd.R_elderB (by (with_reducible repeat (first | apply Kd.R_alloc | apply Kd.R_drewN | apply Kd.R_drew)); exact HO_335000.out) gb346 (Nat.le_of_eq hg.symm)) hb); have n1_:=Az.mk (Kd.R_below (Kd.R_elderB (by (with_reducible repeat (first | apply Kd.R_alloc | apply Kd.R_drewN | apply Kd.R_drew)); exact HO343.out) gb346 (Nat.le_of_eq hg.symm)) hb); have n2_:=Az.mk (bkB (g:=gb333) (o:=.cells #[.slice none 0 0] 39 (0,0)) (by (with_reducible repeat (first | refine bdN ?_ _ | refine blk_drew ?_ | refine bkA ?_ _)); exact BK333.out) hb); have n3_:=Az.mk (bkB (g:=gb334) (o:=.cells #[u335000] 39 (0,0)) (by (with_reducible repeat (first | refine bdN ?_ _ | refine blk_drew ?_ | refine bkA ?_ _)); exact BK334.out) hb); have n4_:=Az.mk (bst (by repeat (first | (with_reducible first | exact HB.out | apply bal | apply pwN | apply bd1 | refine bset ?_ GE333.out | refine bset ?_ GE334.out) | exact HB.out)) hb); have n5_:=Az.mk (hbox); have n6_:=Az.mk ((by rw [hg]; exact (below_size (by repeat (first | (with_reducible first | exact HB.out | apply bal | apply pwN | apply bd1 | refine bset ?_ GE333.out | refine bset ?_ GE334.out) | exact HB.out))):w.heap.size≤gb346)); have n7_:=Az.mk ((by rw [hg]; exact (below_size (by repeat (first | (with_reducible first | exact HB.out | apply bal | apply pwN | apply bd1 | refine bset ?_ GE333.out | refine bset ?_ GE334.out) | exact HB.out))):w.heap.size≤gb346)); have n8_:=Az.mk ((by rw [hg]; exact Nat.ne_of_lt (blk_lt (g:=gb333) (o:=.cells #[.slice none 0 0] 39 (0,0)) (by (with_reducible repeat (first | refine bdN ?_ _ | refine blk_drew ?_ | refine bkA ?_ _)); exact BK333.out)):gb333≠gb346)); have n9_:=Az.mk ((by rw [hg]; exact Nat.ne_of_gt (blk_lt (g:=gb333) (o:=.cells #[.slice none 0 0] 39 (0,0)) (by (with_reducible repeat (first | refine bdN ?_ _ | refine blk_drew ?_ | refine bkA ?_ _)); exact BK333.out)):gb346≠gb333)); have n10_:=Az.mk ((by rw [hg]; exact Nat.ne_of_lt (blk_lt (g:=gb334) (o:=.cells #[u335000] 39 (0,0)) (by (with_reducible repeat (first | refine bdN ?_ _ | refine blk_drew ?_ | refine bkA ?_ _)); exact BK334.out)):gb334≠gb346)); have n11_:=Az.mk ((by rw [hg]; exact Nat.ne_of_gt (blk_lt (g:=gb334) (o:=.cells #[u335000] 39 (0,0)) (by (with_reducible repeat (first | refine bdN ?_ _ | refine blk_drew ?_ | refine bkA ?_ _)); exact BK334.out)):gb346≠gb334)); clear HO_335000; clear HO343; clear BK333; clear BK334; clear HB; have HO_335000:=n0_; have HO343:=n1_; have BK333:=n2_; have BK334:=n3_; have HB:=n4_; have BK346:=n5_; have GW346:=n6_; have GE346:=n7_; have NB333_346:=n8_; have NB346_333:=n9_; have NB334_346:=n10_; have NB346_334:=n11_; clear n0_ n1_ n2_ n3_ n4_ n5_ n6_ n7_ n8_ n9_ n10_ n11_; clear hb hbox hg; obtain ⟨Ao52,co52,eo52⟩:=Kd.R_slice HO343.out; subst eo52; have hnb53:=NB346_333.out; have hnc53:=NB333_346.out; have hnb54:=NB346_334.out; have hnc54:=NB334_346.out; have hcz55_0:w51.cell? ⟨gb346,0,none⟩=some (.slice none 0 0):=(blk_cell BK346.out 0).trans rfl; have hfz55_0:=bkF BK346.out 0) | (go_at_call 71; (with_reducible refine (virgationref01_begins.calls a0 t344 (⟨#[41,32,62,32]⟩:ByteArray) false _ A34.out).mono ?_); rintro e w' ⟨rfl,⟨nd,rfl⟩⟩; have hnb56:=NB334_333.out; have hnc56:=NB333_334.out; have hcz57_0:w51.cell? ⟨gb334,0,none⟩=some (u335000):=(blk_cell BK334.out 0).trans rfl; have hfz57_0:=bkF BK334.out 0; obtain ⟨Ao58,co58,eo58⟩:=Kd.R_slice HO_335000.out; subst eo58; have hcz59_0:w51.cell? ⟨gb333,0,none⟩=some (.slice none 0 0):=(blk_cell BK333.out 0).trans rfl; have hfz59_0:=bkF BK333.out 0))
                refine bodyPost_ret (results_ctt rfl _ _ gb333 39 #[.slice Ao58 x335000_1.length co58] (0,0) _ rfl (by (with_reducible repeat (first | refine bdN ?_ _ | refine blk_drew ?_ | refine bkA ?_ _)); refine blk_put (cs:=#[.slice none 0 0]) ?_ 0 _ rfl; (with_reducible repeat (first | refine bdN ?_ _ | refine blk_drew ?_ | refine bkA ?_ _)); refine blk_far ?_ NB333_346.out _; (with_reducible repeat (first | refine bdN ?_ _ | refine blk_drew ?_ | refine bkA ?_ _)); exact BK333.out) Try.underlying39 rfl (by kernel_rfl)) rfl ?_
                exact ⟨_,by first | rfl | (simp [errW_none,errW_some] <;> rfl) | (simp [*,errW_none,errW_some] <;> rfl),by (with_reducible repeat (first | apply Kd.R_alloc | apply Kd.R_drewN | apply Kd.R_drew)); exact Kd.R_mono (Kd.R_far (p:=⟨gb333,0,none⟩) (Kd.R_drewN (Kd.R_far (p:=⟨gb346,0,none⟩) (Kd.R_mono (Kd.R_mono HO_335000.out (fun k_ hk=>(⟨hk,hk.2⟩:_∧k_≠gb346))) (fun k_ hk=>(⟨hk,hk.1.1.1.1⟩:_∧k_≠gb333))) (fun _ hk=>hk.1.2) (.slice Ao52 t341.length co52)) _) (fun _ hk=>hk.2) (.slice Ao58 x335000_1.length co58)) (fun _ hk=>trivial),by repeat (first | (with_reducible first | exact HB.out | apply bal | apply pwN | apply bd1 | refine bset ?_ GE333.out | refine bset ?_ GE334.out | refine bset ?_ GE346.out) | exact HB.out)⟩
          · replace c22:=Bool.eq_false_iff.mpr c22
            subst c22
            have H1:(some (x335000_1,x1_1,false))=some (r1,r2,r3):=by rw [if_neg (show ¬ (false=true) by decide)] at H; exact H
            clear H
            have H:=H1
            clear H1
            simp only [Option.some.injEq,Prod.mk.injEq] at H
            obtain ⟨rfl,rfl,rfl⟩:=H
            go_wp2_with (first | ((with_reducible refine gate_callee (f:=71) rfl ?_); refine goesL_ (some 13) rfl rfl Try.func71 (by kernel_rfl) rfl #[.string a0,.int .i64 x1_1,.string (⟨#[111]⟩:ByteArray)] rfl (by (try simp only [List.map_toArray,List.map_cons,List.map_nil]); first | done | rfl | (simp only [List.length_drop,List.length_take]; rfl)) ?_; (with_reducible refine (virgationref01_begins.calls a0 x1_1 (⟨#[111]⟩:ByteArray) false _ A5.out).mono ?_); rintro e w' ⟨rfl,⟨nd,rfl⟩⟩; refine ⟨_,rfl,?_⟩; (try (rw [drewN_self wr]; generalize hq_:World.drewN wr _=wr; have n0_:Az (Kd.R k39 39 wr w.heap.size (fun k_=>k_≠gb333∧k_≠gb334) u335000 x335000_1):=⟨by rw [← hq_]; exact (by (with_reducible repeat (first | apply Kd.R_alloc | apply Kd.R_drewN | apply Kd.R_drew)); exact HO_335000.out)⟩; have n1_:Az (wr.heap[gb333]?=some (.cells #[.slice none 0 0] 39 (0,0))):=⟨by rw [← hq_]; exact (by (with_reducible repeat (first | refine bdN ?_ _ | refine blk_drew ?_ | refine bkA ?_ _)); exact BK333.out)⟩; have n2_:Az (wr.heap[gb334]?=some (.cells #[u335000] 39 (0,0))):=⟨by rw [← hq_]; exact (by (with_reducible repeat (first | refine bdN ?_ _ | refine blk_drew ?_ | refine bkA ?_ _)); exact BK334.out)⟩; have n3_:Az (Below w.heap.size w wr):=⟨by rw [← hq_]; exact (by repeat (first | (with_reducible first | exact HB.out | apply bal | apply pwN | apply bd1 | refine bset ?_ GE333.out | refine bset ?_ GE334.out) | exact HB.out))⟩; clear HO_335000 BK333 BK334 HB hq_; have HO_335000:=n0_; have BK333:=n1_; have BK334:=n2_; have HB:=n3_; clear n0_ n1_ n2_ n3_))) | ((with_reducible refine gate_callee (f:=71) rfl ?_); refine goesL_ (some 32) rfl rfl Try.func71 (by kernel_rfl) rfl #[.string a0,.int .i64 x1_1,.string (⟨#[40]⟩:ByteArray)] rfl (by (try simp only [List.map_toArray,List.map_cons,List.map_nil]); first | done | rfl | (simp only [List.length_drop,List.length_take]; rfl)) ?_; (with_reducible refine (virgationref01_begins.calls a0 x1_1 (⟨#[40]⟩:ByteArray) true _ A19.out).mono ?_); rintro e w' ⟨rfl,⟨nd,rfl⟩⟩; refine ⟨_,rfl,?_⟩; (try (rw [drewN_self wr]; generalize hq_:World.drewN wr _=wr; have n0_:Az (Kd.R k39 39 wr w.heap.size (fun k_=>k_≠gb333∧k_≠gb334) u335000 x335000_1):=⟨by rw [← hq_]; exact (by (with_reducible repeat (first | apply Kd.R_alloc | apply Kd.R_drewN | apply Kd.R_drew)); exact HO_335000.out)⟩; have n1_:Az (wr.heap[gb333]?=some (.cells #[.slice none 0 0] 39 (0,0))):=⟨by rw [← hq_]; exact (by (with_reducible repeat (first | refine bdN ?_ _ | refine blk_drew ?_ | refine bkA ?_ _)); exact BK333.out)⟩; have n2_:Az (wr.heap[gb334]?=some (.cells #[u335000] 39 (0,0))):=⟨by rw [← hq_]; exact (by (with_reducible repeat (first | refine bdN ?_ _ | refine blk_drew ?_ | refine bkA ?_ _)); exact BK334.out)⟩; have n3_:Az (Below w.heap.size w wr):=⟨by rw [← hq_]; exact (by repeat (first | (with_reducible first | exact HB.out | apply bal | apply pwN | apply bd1 | refine bset ?_ GE333.out | refine bset ?_ GE334.out) | exact HB.out))⟩; clear HO_335000 BK333 BK334 HB hq_; have HO_335000:=n0_; have BK333:=n1_; have BK334:=n2_; have HB:=n3_; clear n0_ n1_ n2_ n3_))) | ((with_reducible refine gate_callee (f:=63) rfl ?_); refine goesL_ (some 40) rfl rfl Try.func63 (by kernel_rfl) rfl #[.string a0,.int .i64 (wrap64 (x1_1+1))] rfl (by (try simp only [List.map_toArray,List.map_cons,List.map_nil]); first | done | rfl | (simp only [List.length_drop,List.length_take]; rfl)) ?_; (with_reducible refine (ih k1 (by have:=HK1.out; omega) a0 (wrap64 (x1_1+1)) t341 t344 false _ A21.out).mono ?_); rintro e w60 ⟨v342,rfl,ho0,hb⟩; refine ⟨_,rfl,?_⟩; have n0_:=Az.mk (Kd.R_elder' (by (with_reducible repeat (first | apply Kd.R_alloc | apply Kd.R_drewN | apply Kd.R_drew)); exact HO_335000.out) (Kd.R_base ho0) hb); have n1_:=Az.mk (Kd.R_lower (Kd.R_newB (Kd.R_newB (Kd.R_new' ho0 (Kd.R_lt (by (with_reducible repeat (first | apply Kd.R_alloc | apply Kd.R_drewN | apply Kd.R_drew)); exact HO_335000.out))) (g:=gb333) (o:=.cells #[.slice none 0 0] 39 (0,0)) (by (with_reducible repeat (first | refine bdN ?_ _ | refine blk_drew ?_ | refine bkA ?_ _)); exact BK333.out)) (g:=gb334) (o:=.cells #[u335000] 39 (0,0)) (by (with_reducible repeat (first | refine bdN ?_ _ | refine blk_drew ?_ | refine bkA ?_ _)); exact BK334.out)) (below_size (by repeat (first | (with_reducible first | exact HB.out | apply bal | apply pwN | apply bd1 | refine bset ?_ GE333.out | refine bset ?_ GE334.out) | exact HB.out)))); have n2_:=Az.mk (bkB (g:=gb333) (o:=.cells #[.slice none 0 0] 39 (0,0)) (by (with_reducible repeat (first | refine bdN ?_ _ | refine blk_drew ?_ | refine bkA ?_ _)); exact BK333.out) hb); have n3_:=Az.mk (bkB (g:=gb334) (o:=.cells #[u335000] 39 (0,0)) (by (with_reducible repeat (first | refine bdN ?_ _ | refine blk_drew ?_ | refine bkA ?_ _)); exact BK334.out) hb); have n4_:=Az.mk (bst (by repeat (first | (with_reducible first | exact HB.out | apply bal | apply pwN | apply bd1 | refine bset ?_ GE333.out | refine bset ?_ GE334.out) | exact HB.out)) hb); clear HO_335000; clear BK333; clear BK334; clear HB; have HO_335000:=n0_; have HO343:=n1_; have BK333:=n2_; have BK334:=n3_; have HB:=n4_; clear n0_ n1_ n2_ n3_ n4_; (try clear hb); (try clear hb2); (try clear hk); (try clear hi); (try clear ho0)) | ((with_reducible refine gate_dst (N:=8) rfl ?_); (try (refine gate_guard (by rfl) ?_; dsimp only)); refine box_event ?hg (N:=8) ?hd (cs:=#[.slice none 0 0]) (t:=39) ?hr ?_; (case hd=>rfl); (case hg=>rfl); (case hr=>first | (go_simp; done) | (go_simp; rfl)); intro gb346 hg w61 hbox hb; have n0_:=Az.mk (Kd.R_below (Kd.R_elderB (by (with_reducible repeat (first | apply Kd.R_alloc | apply Kd.R_drewN | apply Kd.R_drew)); exact HO_335000.out) gb346 (Nat.le_of_eq hg.symm)) hb); have n1_:=Az.mk (Kd.R_below (Kd.R_elderB (by (with_reducible repeat (first | apply Kd.R_alloc | apply Kd.R_drewN | apply Kd.R_drew)); exact HO343.out) gb346 (Nat.le_of_eq hg.symm)) hb); have n2_:=Az.mk (bkB (g:=gb333) (o:=.cells #[.slice none 0 0] 39 (0,0)) (by (with_reducible repeat (first | refine bdN ?_ _ | refine blk_drew ?_ | refine bkA ?_ _)); exact BK333.out) hb); have n3_:=Az.mk (bkB (g:=gb334) (o:=.cells #[u335000] 39 (0,0)) (by (with_reducible repeat (first | refine bdN ?_ _ | refine blk_drew ?_ | refine bkA ?_ _)); exact BK334.out) hb); have n4_:=Az.mk (bst (by repeat (first | (with_reducible first | exact HB.out | apply bal | apply pwN | apply bd1 | refine bset ?_ GE333.out | refine bset ?_ GE334.out) | exact HB.out)) hb); have n5_:=Az.mk (hbox); have n6_:=Az.mk ((by rw [hg]; exact (below_size (by repeat (first | (with_reducible first | exact HB.out | apply bal | apply pwN | apply bd1 | refine bset ?_ GE333.out | refine bset ?_ GE334.out) | exact HB.out))):w.heap.size≤gb346)); have n7_:=Az.mk ((by rw [hg]; exact (below_size (by repeat (first | (with_reducible first | exact HB.out | apply bal | apply pwN | apply bd1 | refine bset ?_ GE333.out | refine bset ?_ GE334.out) | exact HB.out))):w.heap.size≤gb346)); have n8_:=Az.mk ((by rw [hg]; exact Nat.ne_of_lt (blk_lt (g:=gb333) (o:=.cells #[.slice none 0 0] 39 (0,0)) (by (with_reducible repeat (first | refine bdN ?_ _ | refine blk_drew ?_ | refine bkA ?_ _)); exact BK333.out)):gb333≠gb346)); have n9_:=Az.mk ((by rw [hg]; exact Nat.ne_of_gt (blk_lt (g:=gb333) (o:=.cells #[.slice none 0 0] 39 (0,0)) (by (with_reducible repeat (first | refine bdN ?_ _ | refine blk_drew ?_ | refine bkA ?_ _)); exact BK333.out)):gb346≠gb333)); have n10_:=Az.mk ((by rw [hg]; exact Nat.ne_of_lt (blk_lt (g:=gb334) (o:=.cells #[u335000] 39 (0,0)) (by (with_reducible repeat (first | refine bdN ?_ _ | refine blk_drew ?_ | refine bkA ?_ _)); exact BK334.out)):gb334≠gb346)); have n11_:=Az.mk ((by rw [hg]; exact Nat.ne_of_gt (blk_lt (g:=gb334) (o:=.cells #[u335000] 39 (0,0)) (by (with_reducible repeat (first | refine bdN ?_ _ | refine blk_drew ?_ | refine bkA ?_ _)); exact BK334.out)):gb346≠gb334)); clear HO_335000; clear HO343; clear BK333; clear BK334; clear HB; have HO_335000:=n0_; have HO343:=n1_; have BK333:=n2_; have BK334:=n3_; have HB:=n4_; have BK346:=n5_; have GW346:=n6_; have GE346:=n7_; have NB333_346:=n8_; have NB346_333:=n9_; have NB334_346:=n10_; have NB346_334:=n11_; clear n0_ n1_ n2_ n3_ n4_ n5_ n6_ n7_ n8_ n9_ n10_ n11_; clear hb hbox hg; obtain ⟨Ao62,co62,eo62⟩:=Kd.R_slice HO343.out; subst eo62; have hnb63:=NB346_333.out; have hnc63:=NB333_346.out; have hnb64:=NB346_334.out; have hnc64:=NB334_346.out; have hcz65_0:w61.cell? ⟨gb346,0,none⟩=some (.slice none 0 0):=(blk_cell BK346.out 0).trans rfl; have hfz65_0:=bkF BK346.out 0; have hnb66:=NB334_333.out; have hnc66:=NB333_334.out; have hcz67_0:w61.cell? ⟨gb334,0,none⟩=some (u335000):=(blk_cell BK334.out 0).trans rfl; have hfz67_0:=bkF BK334.out 0; obtain ⟨Ao68,co68,eo68⟩:=Kd.R_slice HO_335000.out; subst eo68; have hcz69_0:w61.cell? ⟨gb333,0,none⟩=some (.slice none 0 0):=(blk_cell BK333.out 0).trans rfl; have hfz69_0:=bkF BK333.out 0))
            refine bodyPost_ret (results_ctt rfl _ _ gb333 39 #[.slice Ao68 x335000_1.length co68] (0,0) _ rfl (by (with_reducible repeat (first | refine bdN ?_ _ | refine blk_drew ?_ | refine bkA ?_ _)); refine blk_put (cs:=#[.slice none 0 0]) ?_ 0 _ rfl; (with_reducible repeat (first | refine bdN ?_ _ | refine blk_drew ?_ | refine bkA ?_ _)); refine blk_far ?_ NB333_346.out _; (with_reducible repeat (first | refine bdN ?_ _ | refine blk_drew ?_ | refine bkA ?_ _)); exact BK333.out) Try.underlying39 rfl (by kernel_rfl)) rfl ?_
            exact ⟨_,by first | rfl | (simp [errW_none,errW_some] <;> rfl) | (simp [*,errW_none,errW_some] <;> rfl),by (with_reducible repeat (first | apply Kd.R_alloc | apply Kd.R_drewN | apply Kd.R_drew)); exact Kd.R_mono (Kd.R_far (p:=⟨gb333,0,none⟩) (Kd.R_far (p:=⟨gb346,0,none⟩) (Kd.R_mono (Kd.R_mono HO_335000.out (fun k_ hk=>(⟨hk,hk.2⟩:_∧k_≠gb346))) (fun k_ hk=>(⟨hk,hk.1.1.1.1⟩:_∧k_≠gb333))) (fun _ hk=>hk.1.2) (.slice Ao62 t341.length co62)) (fun _ hk=>hk.2) (.slice Ao68 x335000_1.length co68)) (fun _ hk=>trivial),by repeat (first | (with_reducible first | exact HB.out | apply bal | apply pwN | apply bd1 | refine bset ?_ GE333.out | refine bset ?_ GE334.out | refine bset ?_ GE346.out) | exact HB.out)⟩
        · replace c20:=Bool.eq_false_iff.mpr c20
          subst c20
          have H1:(some (x335000_1,x1_1,false))=some (r1,r2,r3):=by rw [if_neg (show ¬ (false=true) by decide)] at H; exact H
          clear H
          have H:=H1
          clear H1
          simp only [Option.some.injEq,Prod.mk.injEq] at H
          obtain ⟨rfl,rfl,rfl⟩:=H
          go_wp2_with (first | ((with_reducible refine gate_callee (f:=71) rfl ?_); refine goesL_ (some 13) rfl rfl Try.func71 (by kernel_rfl) rfl #[.string a0,.int .i64 x1_1,.string (⟨#[111]⟩:ByteArray)] rfl (by (try simp only [List.map_toArray,List.map_cons,List.map_nil]); first | done | rfl | (simp only [List.length_drop,List.length_take]; rfl)) ?_; (with_reducible refine (virgationref01_begins.calls a0 x1_1 (⟨#[111]⟩:ByteArray) false _ A5.out).mono ?_); rintro e w' ⟨rfl,⟨nd,rfl⟩⟩; refine ⟨_,rfl,?_⟩; (try (rw [drewN_self wr]; generalize hq_:World.drewN wr _=wr; have n0_:Az (Kd.R k39 39 wr w.heap.size (fun k_=>k_≠gb333∧k_≠gb334) u335000 x335000_1):=⟨by rw [← hq_]; exact (by (with_reducible repeat (first | apply Kd.R_alloc | apply Kd.R_drewN | apply Kd.R_drew)); exact HO_335000.out)⟩; have n1_:Az (wr.heap[gb333]?=some (.cells #[.slice none 0 0] 39 (0,0))):=⟨by rw [← hq_]; exact (by (with_reducible repeat (first | refine bdN ?_ _ | refine blk_drew ?_ | refine bkA ?_ _)); exact BK333.out)⟩; have n2_:Az (wr.heap[gb334]?=some (.cells #[u335000] 39 (0,0))):=⟨by rw [← hq_]; exact (by (with_reducible repeat (first | refine bdN ?_ _ | refine blk_drew ?_ | refine bkA ?_ _)); exact BK334.out)⟩; have n3_:Az (Below w.heap.size w wr):=⟨by rw [← hq_]; exact (by repeat (first | (with_reducible first | exact HB.out | apply bal | apply pwN | apply bd1 | refine bset ?_ GE333.out | refine bset ?_ GE334.out) | exact HB.out))⟩; clear HO_335000 BK333 BK334 HB hq_; have HO_335000:=n0_; have BK333:=n1_; have BK334:=n2_; have HB:=n3_; clear n0_ n1_ n2_ n3_))) | ((with_reducible refine gate_callee (f:=71) rfl ?_); refine goesL_ (some 32) rfl rfl Try.func71 (by kernel_rfl) rfl #[.string a0,.int .i64 x1_1,.string (⟨#[40]⟩:ByteArray)] rfl (by (try simp only [List.map_toArray,List.map_cons,List.map_nil]); first | done | rfl | (simp only [List.length_drop,List.length_take]; rfl)) ?_; (with_reducible refine (virgationref01_begins.calls a0 x1_1 (⟨#[40]⟩:ByteArray) false _ A19.out).mono ?_); rintro e w' ⟨rfl,⟨nd,rfl⟩⟩; refine ⟨_,rfl,?_⟩; (try (rw [drewN_self wr]; generalize hq_:World.drewN wr _=wr; have n0_:Az (Kd.R k39 39 wr w.heap.size (fun k_=>k_≠gb333∧k_≠gb334) u335000 x335000_1):=⟨by rw [← hq_]; exact (by (with_reducible repeat (first | apply Kd.R_alloc | apply Kd.R_drewN | apply Kd.R_drew)); exact HO_335000.out)⟩; have n1_:Az (wr.heap[gb333]?=some (.cells #[.slice none 0 0] 39 (0,0))):=⟨by rw [← hq_]; exact (by (with_reducible repeat (first | refine bdN ?_ _ | refine blk_drew ?_ | refine bkA ?_ _)); exact BK333.out)⟩; have n2_:Az (wr.heap[gb334]?=some (.cells #[u335000] 39 (0,0))):=⟨by rw [← hq_]; exact (by (with_reducible repeat (first | refine bdN ?_ _ | refine blk_drew ?_ | refine bkA ?_ _)); exact BK334.out)⟩; have n3_:Az (Below w.heap.size w wr):=⟨by rw [← hq_]; exact (by repeat (first | (with_reducible first | exact HB.out | apply bal | apply pwN | apply bd1 | refine bset ?_ GE333.out | refine bset ?_ GE334.out) | exact HB.out))⟩; clear HO_335000 BK333 BK334 HB hq_; have HO_335000:=n0_; have BK333:=n1_; have BK334:=n2_; have HB:=n3_; clear n0_ n1_ n2_ n3_)); have hnb70:=NB334_333.out; have hnc70:=NB333_334.out; have hcz71_0:wr.cell? ⟨gb334,0,none⟩=some (u335000):=(blk_cell BK334.out 0).trans rfl; have hfz71_0:=bkF BK334.out 0; obtain ⟨Ao72,co72,eo72⟩:=Kd.R_slice HO_335000.out; subst eo72; have hcz73_0:wr.cell? ⟨gb333,0,none⟩=some (.slice none 0 0):=(blk_cell BK333.out 0).trans rfl; have hfz73_0:=bkF BK333.out 0))
          refine bodyPost_ret (results_ctt rfl _ _ gb333 39 #[.slice Ao72 x335000_1.length co72] (0,0) _ rfl (by (with_reducible repeat (first | refine bdN ?_ _ | refine blk_drew ?_ | refine bkA ?_ _)); refine blk_put (cs:=#[.slice none 0 0]) ?_ 0 _ rfl; (with_reducible repeat (first | refine bdN ?_ _ | refine blk_drew ?_ | refine bkA ?_ _)); exact BK333.out) Try.underlying39 rfl (by kernel_rfl)) rfl ?_
          exact ⟨_,by first | rfl | (simp [errW_none,errW_some] <;> rfl) | (simp [*,errW_none,errW_some] <;> rfl),by (with_reducible repeat (first | apply Kd.R_alloc | apply Kd.R_drewN | apply Kd.R_drew)); exact Kd.R_mono (Kd.R_far (p:=⟨gb333,0,none⟩) (Kd.R_mono HO_335000.out (fun k_ hk=>(⟨hk,hk.1⟩:_∧k_≠gb333))) (fun _ hk=>hk.2) (.slice Ao72 x335000_1.length co72)) (fun _ hk=>trivial),by repeat (first | (with_reducible first | exact HB.out | apply bal | apply pwN | apply bd1 | refine bset ?_ GE333.out | refine bset ?_ GE334.out) | exact HB.out)⟩
end Go.Proofs.Ytkgknidogelffaa.I
namespace Go.Proofs.Ytkgknidogelffaa.I
open Go.RowKit Go.Proofs.YtkgknidogelffaaW.PrintWords Go.Proofs.YtkgknidogelffaaW.PrintLast Go.Proofs.YtkgknidogelffaaW.PrintMore
attribute [local go_sem] max2_int min2_int max_two min_two max_three min_three max_four min_four   -- for this text's walks alone
set_option linter.unusedVariables false
set_option linter.unusedSimpArgs false
def virgationref03_word.l0:Nat→ByteArray→Int→Option (Int)
  | 0,_,_=>none
  | k+1,x0,x1=>if x1 < (x0.size:Int) then (if 0≤x1 then (if (bt x0 x1) ≥ 97 then (if (bt x0 x1)≤122 then (virgationref03_word.l0 k x0 (wrap64 (x1+1))) else (if (bt x0 x1) ≥ 48 then (if (bt x0 x1)≤57 then (virgationref03_word.l0 k x0 (wrap64 (x1+1))) else (if (bt x0 x1)=95 then (virgationref03_word.l0 k x0 (wrap64 (x1+1))) else (some x1))) else (if (bt x0 x1)=95 then (virgationref03_word.l0 k x0 (wrap64 (x1+1))) else (some x1)))) else (if (bt x0 x1) ≥ 48 then (if (bt x0 x1)≤57 then (virgationref03_word.l0 k x0 (wrap64 (x1+1))) else (if (bt x0 x1)=95 then (virgationref03_word.l0 k x0 (wrap64 (x1+1))) else (some x1))) else (if (bt x0 x1)=95 then (virgationref03_word.l0 k x0 (wrap64 (x1+1))) else (some x1)))) else (none)) else (some x1)
def virgationref03_word.f (k:Nat) (a0:ByteArray) (a1:Int):Option (Int):=virgationref03_word.l0 k a0 a1
set_option maxHeartbeats 8000000 in
set_option maxRecDepth 100000 in
theorem virgationref03_word.calls (k:Nat) (a0:ByteArray) (a1:Int) (r:Int) (w:World) (h:virgationref03_word.f k a0 a1=some r) :
    Calls Try.prog 61 #[.string a0,.int .i64 a1] w fun e w'=>e=.returned (.int .i64 r)∧Drawn0 w w':=by
  have H:(virgationref03_word.l0 k a0 a1)=some r:=h
  clear h
  have H':=Az.mk H
  clear H
  go_enter Try.func61,Try.ntmps61
  go_wp2
  go_loopg [1] k (fun kq v1 w'=>∃ (x1_1:Int),v1=.int .i64 x1_1∧Az (virgationref03_word.l0 kq a0 x1_1=some r)∧Az (kq≤k)∧Drawn0 w w')
  case atStart=>exact ⟨(a1),(by first | rfl | (simp; done) | (simp [*]; done)),H',⟨Nat.le_refl _⟩,by repeat (first | exact Drawn0.refl _ | apply Drawn0.step)⟩
  case round =>
    clear H'
    try clear p2
    obtain ⟨x1_1,rfl,HA,HK1,⟨m1,rfl⟩⟩:=hrel
    cases gk with
    | zero=>exact absurd HA.out (by simp [virgationref03_word.l0])
    | succ k1 =>
      have H:=HA.out
      clear HA
      simp only [virgationref03_word.l0] at H
      by_cases c3:x1_1 < (a0.size:Int)
      · rw [if_pos c3] at H
        have c3b0:decide (x1_1 < (a0.size:Int))=true:=decide_eq_true c3
        clear c3
        by_cases c4:0≤x1_1
        · rw [if_pos c4] at H
          have c4b0:decide (0≤x1_1)=true:=decide_eq_true c4
          clear c4
          by_cases c6:(bt a0 x1_1) ≥ 97
          · rw [if_pos c6] at H
            have c6b0:decide (97≤(bt a0 x1_1))=true:=decide_eq_true c6
            clear c6
            by_cases c8:(bt a0 x1_1)≤122
            · rw [if_pos c8] at H
              have c8b0:decide ((bt a0 x1_1)≤122)=true:=decide_eq_true c8
              clear c8
              have H':=Az.mk H
              clear H
              have p5:0≤(x1_1:Int):=of_decide_eq_true (by first | (with_reducible assumption) | assumption)
              have q5:x1_1 < (a0.size:Int):=of_decide_eq_true (by first | (with_reducible assumption) | assumption)
              have hx5:=bt_at a0 x1_1
              replace p5:=eq_true p5
              replace q5:=eq_true q5
              have p7:0≤(x1_1:Int):=of_decide_eq_true (by first | (with_reducible assumption) | assumption)
              have q7:x1_1 < (a0.size:Int):=of_decide_eq_true (by first | (with_reducible assumption) | assumption)
              have hx7:=bt_at a0 x1_1
              replace p7:=eq_true p7
              replace q7:=eq_true q7
              go_wp2
              go_roundg k1
              case measure=>have:=HK1.out; omega
              case rel=>exact ⟨(wrap64 (x1_1+1)),(by first | rfl | (simp; done) | (simp [*]; done)),H',⟨by have:=HK1.out; omega⟩,by repeat (first | exact Drawn0.refl _ | apply Drawn0.step)⟩
            · rw [if_neg c8] at H
              have c8b0:decide ((bt a0 x1_1)≤122)=false:=decide_eq_false c8
              clear c8
              by_cases c10:(bt a0 x1_1) ≥ 48
              · rw [if_pos c10] at H
                have c10b0:decide (48≤(bt a0 x1_1))=true:=decide_eq_true c10
                clear c10
                by_cases c12:(bt a0 x1_1)≤57
                · rw [if_pos c12] at H
                  have c12b0:decide ((bt a0 x1_1)≤57)=true:=decide_eq_true c12
                  clear c12
                  have H':=Az.mk H
                  clear H
                  have p5:0≤(x1_1:Int):=of_decide_eq_true (by first | (with_reducible assumption) | assumption)
                  have q5:x1_1 < (a0.size:Int):=of_decide_eq_true (by first | (with_reducible assumption) | assumption)
                  have hx5:=bt_at a0 x1_1
                  replace p5:=eq_true p5
                  replace q5:=eq_true q5
                  have p7:0≤(x1_1:Int):=of_decide_eq_true (by first | (with_reducible assumption) | assumption)
                  have q7:x1_1 < (a0.size:Int):=of_decide_eq_true (by first | (with_reducible assumption) | assumption)
                  have hx7:=bt_at a0 x1_1
                  replace p7:=eq_true p7
                  replace q7:=eq_true q7
                  have p9:0≤(x1_1:Int):=of_decide_eq_true (by first | (with_reducible assumption) | assumption)
                  have q9:x1_1 < (a0.size:Int):=of_decide_eq_true (by first | (with_reducible assumption) | assumption)
                  have hx9:=bt_at a0 x1_1
                  replace p9:=eq_true p9
                  replace q9:=eq_true q9
                  have p11:0≤(x1_1:Int):=of_decide_eq_true (by first | (with_reducible assumption) | assumption)
                  have q11:x1_1 < (a0.size:Int):=of_decide_eq_true (by first | (with_reducible assumption) | assumption)
                  have hx11:=bt_at a0 x1_1
                  replace p11:=eq_true p11
                  replace q11:=eq_true q11
                  go_wp2
                  go_roundg k1
                  case measure=>have:=HK1.out; omega
                  case rel=>exact ⟨(wrap64 (x1_1+1)),(by first | rfl | (simp; done) | (simp [*]; done)),H',⟨by have:=HK1.out; omega⟩,by repeat (first | exact Drawn0.refl _ | apply Drawn0.step)⟩
                · rw [if_neg c12] at H
                  have c12b0:decide ((bt a0 x1_1)≤57)=false:=decide_eq_false c12
                  clear c12
                  by_cases c14:(bt a0 x1_1)=95
                  · rw [if_pos c14] at H
                    have c14b0:((bt a0 x1_1) == 95)=true:=beq_iff_eq.mpr c14
                    have c14b1:((bt a0 x1_1) != 95)=false:=bne_eq_false_iff_eq.mpr c14
                    clear c14
                    have H':=Az.mk H
                    clear H
                    have p5:0≤(x1_1:Int):=of_decide_eq_true (by first | (with_reducible assumption) | assumption)
                    have q5:x1_1 < (a0.size:Int):=of_decide_eq_true (by first | (with_reducible assumption) | assumption)
                    have hx5:=bt_at a0 x1_1
                    replace p5:=eq_true p5
                    replace q5:=eq_true q5
                    have p7:0≤(x1_1:Int):=of_decide_eq_true (by first | (with_reducible assumption) | assumption)
                    have q7:x1_1 < (a0.size:Int):=of_decide_eq_true (by first | (with_reducible assumption) | assumption)
                    have hx7:=bt_at a0 x1_1
                    replace p7:=eq_true p7
                    replace q7:=eq_true q7
                    have p9:0≤(x1_1:Int):=of_decide_eq_true (by first | (with_reducible assumption) | assumption)
                    have q9:x1_1 < (a0.size:Int):=of_decide_eq_true (by first | (with_reducible assumption) | assumption)
                    have hx9:=bt_at a0 x1_1
                    replace p9:=eq_true p9
                    replace q9:=eq_true q9
                    have p11:0≤(x1_1:Int):=of_decide_eq_true (by first | (with_reducible assumption) | assumption)
                    have q11:x1_1 < (a0.size:Int):=of_decide_eq_true (by first | (with_reducible assumption) | assumption)
                    have hx11:=bt_at a0 x1_1
                    replace p11:=eq_true p11
                    replace q11:=eq_true q11
                    have p13:0≤(x1_1:Int):=of_decide_eq_true (by first | (with_reducible assumption) | assumption)
                    have q13:x1_1 < (a0.size:Int):=of_decide_eq_true (by first | (with_reducible assumption) | assumption)
                    have hx13:=bt_at a0 x1_1
                    replace p13:=eq_true p13
                    replace q13:=eq_true q13
                    go_wp2
                    go_roundg k1
                    case measure=>have:=HK1.out; omega
                    case rel=>exact ⟨(wrap64 (x1_1+1)),(by first | rfl | (simp; done) | (simp [*]; done)),H',⟨by have:=HK1.out; omega⟩,by repeat (first | exact Drawn0.refl _ | apply Drawn0.step)⟩
                  · rw [if_neg c14] at H
                    have c14b0:((bt a0 x1_1) == 95)=false:=beq_eq_false_iff_ne.mpr c14
                    have c14b1:((bt a0 x1_1) != 95)=true:=bne_iff_ne.mpr c14
                    obtain rfl:=Option.some.inj H
                    have p5:0≤(x1_1:Int):=of_decide_eq_true (by first | (with_reducible assumption) | assumption)
                    have q5:x1_1 < (a0.size:Int):=of_decide_eq_true (by first | (with_reducible assumption) | assumption)
                    have hx5:=bt_at a0 x1_1
                    replace p5:=eq_true p5
                    replace q5:=eq_true q5
                    have p7:0≤(x1_1:Int):=of_decide_eq_true (by first | (with_reducible assumption) | assumption)
                    have q7:x1_1 < (a0.size:Int):=of_decide_eq_true (by first | (with_reducible assumption) | assumption)
                    have hx7:=bt_at a0 x1_1
                    replace p7:=eq_true p7
                    replace q7:=eq_true q7
                    have p9:0≤(x1_1:Int):=of_decide_eq_true (by first | (with_reducible assumption) | assumption)
                    have q9:x1_1 < (a0.size:Int):=of_decide_eq_true (by first | (with_reducible assumption) | assumption)
                    have hx9:=bt_at a0 x1_1
                    replace p9:=eq_true p9
                    replace q9:=eq_true q9
                    have p11:0≤(x1_1:Int):=of_decide_eq_true (by first | (with_reducible assumption) | assumption)
                    have q11:x1_1 < (a0.size:Int):=of_decide_eq_true (by first | (with_reducible assumption) | assumption)
                    have hx11:=bt_at a0 x1_1
                    replace p11:=eq_true p11
                    replace q11:=eq_true q11
                    have p13:0≤(x1_1:Int):=of_decide_eq_true (by first | (with_reducible assumption) | assumption)
                    have q13:x1_1 < (a0.size:Int):=of_decide_eq_true (by first | (with_reducible assumption) | assumption)
                    have hx13:=bt_at a0 x1_1
                    replace p13:=eq_true p13
                    replace q13:=eq_true q13
                    go_wp2
                    go_ret
                    exact ⟨by first | rfl | (simp; done) | (simp [*]; done),by repeat (first | exact Drawn0.refl _ | apply Drawn0.step)⟩
              · rw [if_neg c10] at H
                have c10b0:decide (48≤(bt a0 x1_1))=false:=decide_eq_false c10
                clear c10
                by_cases c16:(bt a0 x1_1)=95
                · rw [if_pos c16] at H
                  have c16b0:((bt a0 x1_1) == 95)=true:=beq_iff_eq.mpr c16
                  have c16b1:((bt a0 x1_1) != 95)=false:=bne_eq_false_iff_eq.mpr c16
                  clear c16
                  have H':=Az.mk H
                  clear H
                  have p5:0≤(x1_1:Int):=of_decide_eq_true (by first | (with_reducible assumption) | assumption)
                  have q5:x1_1 < (a0.size:Int):=of_decide_eq_true (by first | (with_reducible assumption) | assumption)
                  have hx5:=bt_at a0 x1_1
                  replace p5:=eq_true p5
                  replace q5:=eq_true q5
                  have p7:0≤(x1_1:Int):=of_decide_eq_true (by first | (with_reducible assumption) | assumption)
                  have q7:x1_1 < (a0.size:Int):=of_decide_eq_true (by first | (with_reducible assumption) | assumption)
                  have hx7:=bt_at a0 x1_1
                  replace p7:=eq_true p7
                  replace q7:=eq_true q7
                  have p9:0≤(x1_1:Int):=of_decide_eq_true (by first | (with_reducible assumption) | assumption)
                  have q9:x1_1 < (a0.size:Int):=of_decide_eq_true (by first | (with_reducible assumption) | assumption)
                  have hx9:=bt_at a0 x1_1
                  replace p9:=eq_true p9
                  replace q9:=eq_true q9
                  have p15:0≤(x1_1:Int):=of_decide_eq_true (by first | (with_reducible assumption) | assumption)
                  have q15:x1_1 < (a0.size:Int):=of_decide_eq_true (by first | (with_reducible assumption) | assumption)
                  have hx15:=bt_at a0 x1_1
                  replace p15:=eq_true p15
                  replace q15:=eq_true q15
                  go_wp2
                  go_roundg k1
                  case measure=>have:=HK1.out; omega
                  case rel=>exact ⟨(wrap64 (x1_1+1)),(by first | rfl | (simp; done) | (simp [*]; done)),H',⟨by have:=HK1.out; omega⟩,by repeat (first | exact Drawn0.refl _ | apply Drawn0.step)⟩
                · rw [if_neg c16] at H
                  have c16b0:((bt a0 x1_1) == 95)=false:=beq_eq_false_iff_ne.mpr c16
                  have c16b1:((bt a0 x1_1) != 95)=true:=bne_iff_ne.mpr c16
                  obtain rfl:=Option.some.inj H
                  have p5:0≤(x1_1:Int):=of_decide_eq_true (by first | (with_reducible assumption) | assumption)
                  have q5:x1_1 < (a0.size:Int):=of_decide_eq_true (by first | (with_reducible assumption) | assumption)
                  have hx5:=bt_at a0 x1_1
                  replace p5:=eq_true p5
                  replace q5:=eq_true q5
                  have p7:0≤(x1_1:Int):=of_decide_eq_true (by first | (with_reducible assumption) | assumption)
                  have q7:x1_1 < (a0.size:Int):=of_decide_eq_true (by first | (with_reducible assumption) | assumption)
                  have hx7:=bt_at a0 x1_1
                  replace p7:=eq_true p7
                  replace q7:=eq_true q7
                  have p9:0≤(x1_1:Int):=of_decide_eq_true (by first | (with_reducible assumption) | assumption)
                  have q9:x1_1 < (a0.size:Int):=of_decide_eq_true (by first | (with_reducible assumption) | assumption)
                  have hx9:=bt_at a0 x1_1
                  replace p9:=eq_true p9
                  replace q9:=eq_true q9
                  have p15:0≤(x1_1:Int):=of_decide_eq_true (by first | (with_reducible assumption) | assumption)
                  have q15:x1_1 < (a0.size:Int):=of_decide_eq_true (by first | (with_reducible assumption) | assumption)
                  have hx15:=bt_at a0 x1_1
                  replace p15:=eq_true p15
                  replace q15:=eq_true q15
                  go_wp2
                  go_ret
                  exact ⟨by first | rfl | (simp; done) | (simp [*]; done),by repeat (first | exact Drawn0.refl _ | apply Drawn0.step)⟩
          · rw [if_neg c6] at H
            have c6b0:decide (97≤(bt a0 x1_1))=false:=decide_eq_false c6
            clear c6
            by_cases c18:(bt a0 x1_1) ≥ 48
            · rw [if_pos c18] at H
              have c18b0:decide (48≤(bt a0 x1_1))=true:=decide_eq_true c18
              clear c18
              by_cases c20:(bt a0 x1_1)≤57
              · rw [if_pos c20] at H
                have c20b0:decide ((bt a0 x1_1)≤57)=true:=decide_eq_true c20
                clear c20
                have H':=Az.mk H
                clear H
                have p5:0≤(x1_1:Int):=of_decide_eq_true (by first | (with_reducible assumption) | assumption)
                have q5:x1_1 < (a0.size:Int):=of_decide_eq_true (by first | (with_reducible assumption) | assumption)
                have hx5:=bt_at a0 x1_1
                replace p5:=eq_true p5
                replace q5:=eq_true q5
                have p17:0≤(x1_1:Int):=of_decide_eq_true (by first | (with_reducible assumption) | assumption)
                have q17:x1_1 < (a0.size:Int):=of_decide_eq_true (by first | (with_reducible assumption) | assumption)
                have hx17:=bt_at a0 x1_1
                replace p17:=eq_true p17
                replace q17:=eq_true q17
                have p19:0≤(x1_1:Int):=of_decide_eq_true (by first | (with_reducible assumption) | assumption)
                have q19:x1_1 < (a0.size:Int):=of_decide_eq_true (by first | (with_reducible assumption) | assumption)
                have hx19:=bt_at a0 x1_1
                replace p19:=eq_true p19
                replace q19:=eq_true q19
                go_wp2
                go_roundg k1
                case measure=>have:=HK1.out; omega
                case rel=>exact ⟨(wrap64 (x1_1+1)),(by first | rfl | (simp; done) | (simp [*]; done)),H',⟨by have:=HK1.out; omega⟩,by repeat (first | exact Drawn0.refl _ | apply Drawn0.step)⟩
              · rw [if_neg c20] at H
                have c20b0:decide ((bt a0 x1_1)≤57)=false:=decide_eq_false c20
                clear c20
                by_cases c22:(bt a0 x1_1)=95
                · rw [if_pos c22] at H
                  have c22b0:((bt a0 x1_1) == 95)=true:=beq_iff_eq.mpr c22
                  have c22b1:((bt a0 x1_1) != 95)=false:=bne_eq_false_iff_eq.mpr c22
                  clear c22
                  have H':=Az.mk H
                  clear H
                  have p5:0≤(x1_1:Int):=of_decide_eq_true (by first | (with_reducible assumption) | assumption)
                  have q5:x1_1 < (a0.size:Int):=of_decide_eq_true (by first | (with_reducible assumption) | assumption)
                  have hx5:=bt_at a0 x1_1
                  replace p5:=eq_true p5
                  replace q5:=eq_true q5
                  have p17:0≤(x1_1:Int):=of_decide_eq_true (by first | (with_reducible assumption) | assumption)
                  have q17:x1_1 < (a0.size:Int):=of_decide_eq_true (by first | (with_reducible assumption) | assumption)
                  have hx17:=bt_at a0 x1_1
                  replace p17:=eq_true p17
                  replace q17:=eq_true q17
                  have p19:0≤(x1_1:Int):=of_decide_eq_true (by first | (with_reducible assumption) | assumption)
                  have q19:x1_1 < (a0.size:Int):=of_decide_eq_true (by first | (with_reducible assumption) | assumption)
                  have hx19:=bt_at a0 x1_1
                  replace p19:=eq_true p19
                  replace q19:=eq_true q19
                  have p21:0≤(x1_1:Int):=of_decide_eq_true (by first | (with_reducible assumption) | assumption)
                  have q21:x1_1 < (a0.size:Int):=of_decide_eq_true (by first | (with_reducible assumption) | assumption)
                  have hx21:=bt_at a0 x1_1
                  replace p21:=eq_true p21
                  replace q21:=eq_true q21
                  go_wp2
                  go_roundg k1
                  case measure=>have:=HK1.out; omega
                  case rel=>exact ⟨(wrap64 (x1_1+1)),(by first | rfl | (simp; done) | (simp [*]; done)),H',⟨by have:=HK1.out; omega⟩,by repeat (first | exact Drawn0.refl _ | apply Drawn0.step)⟩
                · rw [if_neg c22] at H
                  have c22b0:((bt a0 x1_1) == 95)=false:=beq_eq_false_iff_ne.mpr c22
                  have c22b1:((bt a0 x1_1) != 95)=true:=bne_iff_ne.mpr c22
                  obtain rfl:=Option.some.inj H
                  have p5:0≤(x1_1:Int):=of_decide_eq_true (by first | (with_reducible assumption) | assumption)
                  have q5:x1_1 < (a0.size:Int):=of_decide_eq_true (by first | (with_reducible assumption) | assumption)
                  have hx5:=bt_at a0 x1_1
                  replace p5:=eq_true p5
                  replace q5:=eq_true q5
                  have p17:0≤(x1_1:Int):=of_decide_eq_true (by first | (with_reducible assumption) | assumption)
                  have q17:x1_1 < (a0.size:Int):=of_decide_eq_true (by first | (with_reducible assumption) | assumption)
                  have hx17:=bt_at a0 x1_1
                  replace p17:=eq_true p17
                  replace q17:=eq_true q17
                  have p19:0≤(x1_1:Int):=of_decide_eq_true (by first | (with_reducible assumption) | assumption)
                  have q19:x1_1 < (a0.size:Int):=of_decide_eq_true (by first | (with_reducible assumption) | assumption)
                  have hx19:=bt_at a0 x1_1
                  replace p19:=eq_true p19
                  replace q19:=eq_true q19
                  have p21:0≤(x1_1:Int):=of_decide_eq_true (by first | (with_reducible assumption) | assumption)
                  have q21:x1_1 < (a0.size:Int):=of_decide_eq_true (by first | (with_reducible assumption) | assumption)
                  have hx21:=bt_at a0 x1_1
                  replace p21:=eq_true p21
                  replace q21:=eq_true q21
                  go_wp2
                  go_ret
                  exact ⟨by first | rfl | (simp; done) | (simp [*]; done),by repeat (first | exact Drawn0.refl _ | apply Drawn0.step)⟩
            · rw [if_neg c18] at H
              have c18b0:decide (48≤(bt a0 x1_1))=false:=decide_eq_false c18
              clear c18
              by_cases c24:(bt a0 x1_1)=95
              · rw [if_pos c24] at H
                have c24b0:((bt a0 x1_1) == 95)=true:=beq_iff_eq.mpr c24
                have c24b1:((bt a0 x1_1) != 95)=false:=bne_eq_false_iff_eq.mpr c24
                clear c24
                have H':=Az.mk H
                clear H
                have p5:0≤(x1_1:Int):=of_decide_eq_true (by first | (with_reducible assumption) | assumption)
                have q5:x1_1 < (a0.size:Int):=of_decide_eq_true (by first | (with_reducible assumption) | assumption)
                have hx5:=bt_at a0 x1_1
                replace p5:=eq_true p5
                replace q5:=eq_true q5
                have p17:0≤(x1_1:Int):=of_decide_eq_true (by first | (with_reducible assumption) | assumption)
                have q17:x1_1 < (a0.size:Int):=of_decide_eq_true (by first | (with_reducible assumption) | assumption)
                have hx17:=bt_at a0 x1_1
                replace p17:=eq_true p17
                replace q17:=eq_true q17
                have p23:0≤(x1_1:Int):=of_decide_eq_true (by first | (with_reducible assumption) | assumption)
                have q23:x1_1 < (a0.size:Int):=of_decide_eq_true (by first | (with_reducible assumption) | assumption)
                have hx23:=bt_at a0 x1_1
                replace p23:=eq_true p23
                replace q23:=eq_true q23
                go_wp2
                go_roundg k1
                case measure=>have:=HK1.out; omega
                case rel=>exact ⟨(wrap64 (x1_1+1)),(by first | rfl | (simp; done) | (simp [*]; done)),H',⟨by have:=HK1.out; omega⟩,by repeat (first | exact Drawn0.refl _ | apply Drawn0.step)⟩
              · rw [if_neg c24] at H
                have c24b0:((bt a0 x1_1) == 95)=false:=beq_eq_false_iff_ne.mpr c24
                have c24b1:((bt a0 x1_1) != 95)=true:=bne_iff_ne.mpr c24
                obtain rfl:=Option.some.inj H
                have p5:0≤(x1_1:Int):=of_decide_eq_true (by first | (with_reducible assumption) | assumption)
                have q5:x1_1 < (a0.size:Int):=of_decide_eq_true (by first | (with_reducible assumption) | assumption)
                have hx5:=bt_at a0 x1_1
                replace p5:=eq_true p5
                replace q5:=eq_true q5
                have p17:0≤(x1_1:Int):=of_decide_eq_true (by first | (with_reducible assumption) | assumption)
                have q17:x1_1 < (a0.size:Int):=of_decide_eq_true (by first | (with_reducible assumption) | assumption)
                have hx17:=bt_at a0 x1_1
                replace p17:=eq_true p17
                replace q17:=eq_true q17
                have p23:0≤(x1_1:Int):=of_decide_eq_true (by first | (with_reducible assumption) | assumption)
                have q23:x1_1 < (a0.size:Int):=of_decide_eq_true (by first | (with_reducible assumption) | assumption)
                have hx23:=bt_at a0 x1_1
                replace p23:=eq_true p23
                replace q23:=eq_true q23
                go_wp2
                go_ret
                exact ⟨by first | rfl | (simp; done) | (simp [*]; done),by repeat (first | exact Drawn0.refl _ | apply Drawn0.step)⟩
        · rw [if_neg c4] at H
          exact absurd H (by simp)
      · rw [if_neg c3] at H
        have c3b0:decide (x1_1 < (a0.size:Int))=false:=decide_eq_false c3
        clear c3
        obtain rfl:=Option.some.inj H
        go_wp2
        go_ret
        exact ⟨by first | rfl | (simp; done) | (simp [*]; done),by repeat (first | exact Drawn0.refl _ | apply Drawn0.step)⟩
def virgationref03_number.l0:Nat→ByteArray→Int→Int→Int→Option (Int × Int × Bool)
  | 0,_,_,_,_=>none
  | k+1,x0,x1,x7,x8=>if x1 < (x0.size:Int) then (if 0≤x1 then (if (bt x0 x1) ≥ 48 then (if (bt x0 x1)≤57 then (if (wrap64 (x1 - x8)) < 11 then (virgationref03_number.l0 k x0 (wrap64 (x1+1)) (wrap64 ((wrap64 (10*x7))+(((bt x0 x1) - 48) % 256))) x8) else (if x1 > x8 then (if x7≤1000000000 then (if x1=(wrap64 (x8+1)) then (some (x7,x1,true)) else (if 0≤x8 then (if x8 < (x0.size:Int) then (some (x7,x1,((bt x0 x8) != 48))) else (none)) else (none))) else (some (x7,x1,false))) else (some (x7,x1,false)))) else (if x1 > x8 then (if x7≤1000000000 then (if x1=(wrap64 (x8+1)) then (some (x7,x1,true)) else (if 0≤x8 then (if x8 < (x0.size:Int) then (some (x7,x1,((bt x0 x8) != 48))) else (none)) else (none))) else (some (x7,x1,false))) else (some (x7,x1,false)))) else (if x1 > x8 then (if x7≤1000000000 then (if x1=(wrap64 (x8+1)) then (some (x7,x1,true)) else (if 0≤x8 then (if x8 < (x0.size:Int) then (some (x7,x1,((bt x0 x8) != 48))) else (none)) else (none))) else (some (x7,x1,false))) else (some (x7,x1,false)))) else (none)) else (if x1 > x8 then (if x7≤1000000000 then (if x1=(wrap64 (x8+1)) then (some (x7,x1,true)) else (if 0≤x8 then (if x8 < (x0.size:Int) then (some (x7,x1,((bt x0 x8) != 48))) else (none)) else (none))) else (some (x7,x1,false))) else (some (x7,x1,false)))
def virgationref03_number.f (k:Nat) (a0:ByteArray) (a1:Int):Option (Int × Int × Bool):=virgationref03_number.l0 k a0 a1 0 a1
set_option maxHeartbeats 8000000 in
set_option maxRecDepth 100000 in
theorem virgationref03_number.calls (k:Nat) (a0:ByteArray) (a1:Int) (r1:Int) (r2:Int) (r3:Bool) (w:World) (h:virgationref03_number.f k a0 a1=some (r1,r2,r3)) :
    Calls Try.prog 62 #[.string a0,.int .i64 a1] w fun e w'=>e=.returned (.tuple #[.int .i64 r1,.int .i64 r2,.bool r3])∧Drawn0 w w':=by
  have H:(virgationref03_number.l0 k a0 a1 0 a1)=some (r1,r2,r3):=h
  clear h
  have H':=Az.mk H
  clear H
  go_enter Try.func62,Try.ntmps62
  go_wp2
  repeat (go_quiet (fail); try go_wp2)
  go_loopg [1,7] k (fun kq v1 v7 w'=>∃ (x1_1:Int) (x7_1:Int),v1=.int .i64 x1_1∧v7=.int .i64 x7_1∧Az (virgationref03_number.l0 kq a0 x1_1 x7_1 a1=some (r1,r2,r3))∧Az (kq≤k)∧Drawn0 w w')
  case atStart=>exact ⟨(a1),(0),(by first | rfl | (simp; done) | (simp [*]; done)),(by first | rfl | (simp; done) | (simp [*]; done)),H',⟨Nat.le_refl _⟩,by repeat (first | exact Drawn0.refl _ | apply Drawn0.step)⟩
  case round =>
    clear H'
    try clear p2
    obtain ⟨x1_1,x7_1,rfl,rfl,HA,HK1,⟨m1,rfl⟩⟩:=hrel
    cases gk with
    | zero=>exact absurd HA.out (by simp [virgationref03_number.l0])
    | succ k1 =>
      have H:=HA.out
      clear HA
      simp only [virgationref03_number.l0] at H
      by_cases c3:x1_1 < (a0.size:Int)
      · rw [if_pos c3] at H
        have c3b0:decide (x1_1 < (a0.size:Int))=true:=decide_eq_true c3
        clear c3
        by_cases c4:0≤x1_1
        · rw [if_pos c4] at H
          have c4b0:decide (0≤x1_1)=true:=decide_eq_true c4
          clear c4
          by_cases c6:(bt a0 x1_1) ≥ 48
          · rw [if_pos c6] at H
            have c6b0:decide (48≤(bt a0 x1_1))=true:=decide_eq_true c6
            clear c6
            by_cases c8:(bt a0 x1_1)≤57
            · rw [if_pos c8] at H
              have c8b0:decide ((bt a0 x1_1)≤57)=true:=decide_eq_true c8
              clear c8
              by_cases c9:(wrap64 (x1_1 - a1)) < 11
              · rw [if_pos c9] at H
                have c9b0:decide ((wrap64 (x1_1 - a1)) < 11)=true:=decide_eq_true c9
                clear c9
                have H':=Az.mk H
                clear H
                have p5:0≤(x1_1:Int):=of_decide_eq_true (by first | (with_reducible assumption) | assumption)
                have q5:x1_1 < (a0.size:Int):=of_decide_eq_true (by first | (with_reducible assumption) | assumption)
                have hx5:=bt_at a0 x1_1
                replace p5:=eq_true p5
                replace q5:=eq_true q5
                have p7:0≤(x1_1:Int):=of_decide_eq_true (by first | (with_reducible assumption) | assumption)
                have q7:x1_1 < (a0.size:Int):=of_decide_eq_true (by first | (with_reducible assumption) | assumption)
                have hx7:=bt_at a0 x1_1
                replace p7:=eq_true p7
                replace q7:=eq_true q7
                have p10:0≤(x1_1:Int):=of_decide_eq_true (by first | (with_reducible assumption) | assumption)
                have q10:x1_1 < (a0.size:Int):=of_decide_eq_true (by first | (with_reducible assumption) | assumption)
                have hx10:=bt_at a0 x1_1
                replace p10:=eq_true p10
                replace q10:=eq_true q10
                go_wp2
                repeat (go_quiet (fail); try go_wp2)
                go_roundg k1
                case measure=>have:=HK1.out; omega
                case rel=>exact ⟨(wrap64 (x1_1+1)),(wrap64 ((wrap64 (10*x7_1))+(((bt a0 x1_1) - 48) % 256))),(by first | rfl | (simp; done) | (simp [*]; done)),(by first | rfl | (simp; done) | (simp [*]; done)),H',⟨by have:=HK1.out; omega⟩,by repeat (first | exact Drawn0.refl _ | apply Drawn0.step)⟩
              · rw [if_neg c9] at H
                have c9b0:decide ((wrap64 (x1_1 - a1)) < 11)=false:=decide_eq_false c9
                clear c9
                by_cases c11:x1_1 > a1
                · rw [if_pos c11] at H
                  have c11b0:decide (a1 < x1_1)=true:=decide_eq_true c11
                  clear c11
                  by_cases c12:x7_1≤1000000000
                  · rw [if_pos c12] at H
                    have c12b0:decide (x7_1≤1000000000)=true:=decide_eq_true c12
                    clear c12
                    by_cases c13:x1_1=(wrap64 (a1+1))
                    · rw [if_pos c13] at H
                      have c13b0:(x1_1 == (wrap64 (a1+1)))=true:=beq_iff_eq.mpr c13
                      have c13b1:(x1_1 != (wrap64 (a1+1)))=false:=bne_eq_false_iff_eq.mpr c13
                      clear c13
                      simp only [Option.some.injEq,Prod.mk.injEq] at H
                      obtain ⟨rfl,rfl,rfl⟩:=H
                      have p5:0≤(x1_1:Int):=of_decide_eq_true (by first | (with_reducible assumption) | assumption)
                      have q5:x1_1 < (a0.size:Int):=of_decide_eq_true (by first | (with_reducible assumption) | assumption)
                      have hx5:=bt_at a0 x1_1
                      replace p5:=eq_true p5
                      replace q5:=eq_true q5
                      have p7:0≤(x1_1:Int):=of_decide_eq_true (by first | (with_reducible assumption) | assumption)
                      have q7:x1_1 < (a0.size:Int):=of_decide_eq_true (by first | (with_reducible assumption) | assumption)
                      have hx7:=bt_at a0 x1_1
                      replace p7:=eq_true p7
                      replace q7:=eq_true q7
                      go_wp2
                      repeat (go_quiet (fail); try go_wp2)
                      go_ret3
                      exact ⟨by first | rfl | (simp; done) | (simp [*]; done),by repeat (first | exact Drawn0.refl _ | apply Drawn0.step)⟩
                    · rw [if_neg c13] at H
                      have c13b0:(x1_1 == (wrap64 (a1+1)))=false:=beq_eq_false_iff_ne.mpr c13
                      have c13b1:(x1_1 != (wrap64 (a1+1)))=true:=bne_iff_ne.mpr c13
                      by_cases c14:0≤a1
                      · rw [if_pos c14] at H
                        have c14b0:decide (0≤a1)=true:=decide_eq_true c14
                        clear c14
                        by_cases c15:a1 < (a0.size:Int)
                        · rw [if_pos c15] at H
                          have c15b0:decide (a1 < (a0.size:Int))=true:=decide_eq_true c15
                          clear c15
                          simp only [Option.some.injEq,Prod.mk.injEq] at H
                          obtain ⟨rfl,rfl,rfl⟩:=H
                          have p5:0≤(x1_1:Int):=of_decide_eq_true (by first | (with_reducible assumption) | assumption)
                          have q5:x1_1 < (a0.size:Int):=of_decide_eq_true (by first | (with_reducible assumption) | assumption)
                          have hx5:=bt_at a0 x1_1
                          replace p5:=eq_true p5
                          replace q5:=eq_true q5
                          have p7:0≤(x1_1:Int):=of_decide_eq_true (by first | (with_reducible assumption) | assumption)
                          have q7:x1_1 < (a0.size:Int):=of_decide_eq_true (by first | (with_reducible assumption) | assumption)
                          have hx7:=bt_at a0 x1_1
                          replace p7:=eq_true p7
                          replace q7:=eq_true q7
                          have p16:0≤(a1:Int):=of_decide_eq_true (by first | (with_reducible assumption) | assumption)
                          have q16:a1 < (a0.size:Int):=of_decide_eq_true (by first | (with_reducible assumption) | assumption)
                          have hx16:=bt_at a0 a1
                          replace p16:=eq_true p16
                          replace q16:=eq_true q16
                          go_wp2
                          repeat (go_quiet (fail); try go_wp2)
                          go_ret3
                          exact ⟨by first | rfl | (simp; done) | (simp [*]; done),by repeat (first | exact Drawn0.refl _ | apply Drawn0.step)⟩
                        · rw [if_neg c15] at H
                          exact absurd H (by simp)
                      · rw [if_neg c14] at H
                        exact absurd H (by simp)
                  · rw [if_neg c12] at H
                    have c12b0:decide (x7_1≤1000000000)=false:=decide_eq_false c12
                    clear c12
                    simp only [Option.some.injEq,Prod.mk.injEq] at H
                    obtain ⟨rfl,rfl,rfl⟩:=H
                    have p5:0≤(x1_1:Int):=of_decide_eq_true (by first | (with_reducible assumption) | assumption)
                    have q5:x1_1 < (a0.size:Int):=of_decide_eq_true (by first | (with_reducible assumption) | assumption)
                    have hx5:=bt_at a0 x1_1
                    replace p5:=eq_true p5
                    replace q5:=eq_true q5
                    have p7:0≤(x1_1:Int):=of_decide_eq_true (by first | (with_reducible assumption) | assumption)
                    have q7:x1_1 < (a0.size:Int):=of_decide_eq_true (by first | (with_reducible assumption) | assumption)
                    have hx7:=bt_at a0 x1_1
                    replace p7:=eq_true p7
                    replace q7:=eq_true q7
                    go_wp2
                    repeat (go_quiet (fail); try go_wp2)
                    go_ret3
                    exact ⟨by first | rfl | (simp; done) | (simp [*]; done),by repeat (first | exact Drawn0.refl _ | apply Drawn0.step)⟩
                · rw [if_neg c11] at H
                  have c11b0:decide (a1 < x1_1)=false:=decide_eq_false c11
                  clear c11
                  simp only [Option.some.injEq,Prod.mk.injEq] at H
                  obtain ⟨rfl,rfl,rfl⟩:=H
                  have p5:0≤(x1_1:Int):=of_decide_eq_true (by first | (with_reducible assumption) | assumption)
                  have q5:x1_1 < (a0.size:Int):=of_decide_eq_true (by first | (with_reducible assumption) | assumption)
                  have hx5:=bt_at a0 x1_1
                  replace p5:=eq_true p5
                  replace q5:=eq_true q5
                  have p7:0≤(x1_1:Int):=of_decide_eq_true (by first | (with_reducible assumption) | assumption)
                  have q7:x1_1 < (a0.size:Int):=of_decide_eq_true (by first | (with_reducible assumption) | assumption)
                  have hx7:=bt_at a0 x1_1
                  replace p7:=eq_true p7
                  replace q7:=eq_true q7
                  go_wp2
                  repeat (go_quiet (fail); try go_wp2)
                  go_ret3
                  exact ⟨by first | rfl | (simp; done) | (simp [*]; done),by repeat (first | exact Drawn0.refl _ | apply Drawn0.step)⟩
            · rw [if_neg c8] at H
              have c8b0:decide ((bt a0 x1_1)≤57)=false:=decide_eq_false c8
              clear c8
              by_cases c17:x1_1 > a1
              · rw [if_pos c17] at H
                have c17b0:decide (a1 < x1_1)=true:=decide_eq_true c17
                clear c17
                by_cases c18:x7_1≤1000000000
                · rw [if_pos c18] at H
                  have c18b0:decide (x7_1≤1000000000)=true:=decide_eq_true c18
                  clear c18
                  by_cases c19:x1_1=(wrap64 (a1+1))
                  · rw [if_pos c19] at H
                    have c19b0:(x1_1 == (wrap64 (a1+1)))=true:=beq_iff_eq.mpr c19
                    have c19b1:(x1_1 != (wrap64 (a1+1)))=false:=bne_eq_false_iff_eq.mpr c19
                    clear c19
                    simp only [Option.some.injEq,Prod.mk.injEq] at H
                    obtain ⟨rfl,rfl,rfl⟩:=H
                    have p5:0≤(x1_1:Int):=of_decide_eq_true (by first | (with_reducible assumption) | assumption)
                    have q5:x1_1 < (a0.size:Int):=of_decide_eq_true (by first | (with_reducible assumption) | assumption)
                    have hx5:=bt_at a0 x1_1
                    replace p5:=eq_true p5
                    replace q5:=eq_true q5
                    have p7:0≤(x1_1:Int):=of_decide_eq_true (by first | (with_reducible assumption) | assumption)
                    have q7:x1_1 < (a0.size:Int):=of_decide_eq_true (by first | (with_reducible assumption) | assumption)
                    have hx7:=bt_at a0 x1_1
                    replace p7:=eq_true p7
                    replace q7:=eq_true q7
                    go_wp2
                    repeat (go_quiet (fail); try go_wp2)
                    go_ret3
                    exact ⟨by first | rfl | (simp; done) | (simp [*]; done),by repeat (first | exact Drawn0.refl _ | apply Drawn0.step)⟩
                  · rw [if_neg c19] at H
                    have c19b0:(x1_1 == (wrap64 (a1+1)))=false:=beq_eq_false_iff_ne.mpr c19
                    have c19b1:(x1_1 != (wrap64 (a1+1)))=true:=bne_iff_ne.mpr c19
                    by_cases c20:0≤a1
                    · rw [if_pos c20] at H
                      have c20b0:decide (0≤a1)=true:=decide_eq_true c20
                      clear c20
                      by_cases c21:a1 < (a0.size:Int)
                      · rw [if_pos c21] at H
                        have c21b0:decide (a1 < (a0.size:Int))=true:=decide_eq_true c21
                        clear c21
                        simp only [Option.some.injEq,Prod.mk.injEq] at H
                        obtain ⟨rfl,rfl,rfl⟩:=H
                        have p5:0≤(x1_1:Int):=of_decide_eq_true (by first | (with_reducible assumption) | assumption)
                        have q5:x1_1 < (a0.size:Int):=of_decide_eq_true (by first | (with_reducible assumption) | assumption)
                        have hx5:=bt_at a0 x1_1
                        replace p5:=eq_true p5
                        replace q5:=eq_true q5
                        have p7:0≤(x1_1:Int):=of_decide_eq_true (by first | (with_reducible assumption) | assumption)
                        have q7:x1_1 < (a0.size:Int):=of_decide_eq_true (by first | (with_reducible assumption) | assumption)
                        have hx7:=bt_at a0 x1_1
                        replace p7:=eq_true p7
                        replace q7:=eq_true q7
                        have p22:0≤(a1:Int):=of_decide_eq_true (by first | (with_reducible assumption) | assumption)
                        have q22:a1 < (a0.size:Int):=of_decide_eq_true (by first | (with_reducible assumption) | assumption)
                        have hx22:=bt_at a0 a1
                        replace p22:=eq_true p22
                        replace q22:=eq_true q22
                        go_wp2
                        repeat (go_quiet (fail); try go_wp2)
                        go_ret3
                        exact ⟨by first | rfl | (simp; done) | (simp [*]; done),by repeat (first | exact Drawn0.refl _ | apply Drawn0.step)⟩
                      · rw [if_neg c21] at H
                        exact absurd H (by simp)
                    · rw [if_neg c20] at H
                      exact absurd H (by simp)
                · rw [if_neg c18] at H
                  have c18b0:decide (x7_1≤1000000000)=false:=decide_eq_false c18
                  clear c18
                  simp only [Option.some.injEq,Prod.mk.injEq] at H
                  obtain ⟨rfl,rfl,rfl⟩:=H
                  have p5:0≤(x1_1:Int):=of_decide_eq_true (by first | (with_reducible assumption) | assumption)
                  have q5:x1_1 < (a0.size:Int):=of_decide_eq_true (by first | (with_reducible assumption) | assumption)
                  have hx5:=bt_at a0 x1_1
                  replace p5:=eq_true p5
                  replace q5:=eq_true q5
                  have p7:0≤(x1_1:Int):=of_decide_eq_true (by first | (with_reducible assumption) | assumption)
                  have q7:x1_1 < (a0.size:Int):=of_decide_eq_true (by first | (with_reducible assumption) | assumption)
                  have hx7:=bt_at a0 x1_1
                  replace p7:=eq_true p7
                  replace q7:=eq_true q7
                  go_wp2
                  repeat (go_quiet (fail); try go_wp2)
                  go_ret3
                  exact ⟨by first | rfl | (simp; done) | (simp [*]; done),by repeat (first | exact Drawn0.refl _ | apply Drawn0.step)⟩
              · rw [if_neg c17] at H
                have c17b0:decide (a1 < x1_1)=false:=decide_eq_false c17
                clear c17
                simp only [Option.some.injEq,Prod.mk.injEq] at H
                obtain ⟨rfl,rfl,rfl⟩:=H
                have p5:0≤(x1_1:Int):=of_decide_eq_true (by first | (with_reducible assumption) | assumption)
                have q5:x1_1 < (a0.size:Int):=of_decide_eq_true (by first | (with_reducible assumption) | assumption)
                have hx5:=bt_at a0 x1_1
                replace p5:=eq_true p5
                replace q5:=eq_true q5
                have p7:0≤(x1_1:Int):=of_decide_eq_true (by first | (with_reducible assumption) | assumption)
                have q7:x1_1 < (a0.size:Int):=of_decide_eq_true (by first | (with_reducible assumption) | assumption)
                have hx7:=bt_at a0 x1_1
                replace p7:=eq_true p7
                replace q7:=eq_true q7
                go_wp2
                repeat (go_quiet (fail); try go_wp2)
                go_ret3
                exact ⟨by first | rfl | (simp; done) | (simp [*]; done),by repeat (first | exact Drawn0.refl _ | apply Drawn0.step)⟩
          · rw [if_neg c6] at H
            have c6b0:decide (48≤(bt a0 x1_1))=false:=decide_eq_false c6
            clear c6
            by_cases c23:x1_1 > a1
            · rw [if_pos c23] at H
              have c23b0:decide (a1 < x1_1)=true:=decide_eq_true c23
              clear c23
              by_cases c24:x7_1≤1000000000
              · rw [if_pos c24] at H
                have c24b0:decide (x7_1≤1000000000)=true:=decide_eq_true c24
                clear c24
                by_cases c25:x1_1=(wrap64 (a1+1))
                · rw [if_pos c25] at H
                  have c25b0:(x1_1 == (wrap64 (a1+1)))=true:=beq_iff_eq.mpr c25
                  have c25b1:(x1_1 != (wrap64 (a1+1)))=false:=bne_eq_false_iff_eq.mpr c25
                  clear c25
                  simp only [Option.some.injEq,Prod.mk.injEq] at H
                  obtain ⟨rfl,rfl,rfl⟩:=H
                  have p5:0≤(x1_1:Int):=of_decide_eq_true (by first | (with_reducible assumption) | assumption)
                  have q5:x1_1 < (a0.size:Int):=of_decide_eq_true (by first | (with_reducible assumption) | assumption)
                  have hx5:=bt_at a0 x1_1
                  replace p5:=eq_true p5
                  replace q5:=eq_true q5
                  go_wp2
                  repeat (go_quiet (fail); try go_wp2)
                  go_ret3
                  exact ⟨by first | rfl | (simp; done) | (simp [*]; done),by repeat (first | exact Drawn0.refl _ | apply Drawn0.step)⟩
                · rw [if_neg c25] at H
                  have c25b0:(x1_1 == (wrap64 (a1+1)))=false:=beq_eq_false_iff_ne.mpr c25
                  have c25b1:(x1_1 != (wrap64 (a1+1)))=true:=bne_iff_ne.mpr c25
                  by_cases c26:0≤a1
                  · rw [if_pos c26] at H
                    have c26b0:decide (0≤a1)=true:=decide_eq_true c26
                    clear c26
                    by_cases c27:a1 < (a0.size:Int)
                    · rw [if_pos c27] at H
                      have c27b0:decide (a1 < (a0.size:Int))=true:=decide_eq_true c27
                      clear c27
                      simp only [Option.some.injEq,Prod.mk.injEq] at H
                      obtain ⟨rfl,rfl,rfl⟩:=H
                      have p5:0≤(x1_1:Int):=of_decide_eq_true (by first | (with_reducible assumption) | assumption)
                      have q5:x1_1 < (a0.size:Int):=of_decide_eq_true (by first | (with_reducible assumption) | assumption)
                      have hx5:=bt_at a0 x1_1
                      replace p5:=eq_true p5
                      replace q5:=eq_true q5
                      have p28:0≤(a1:Int):=of_decide_eq_true (by first | (with_reducible assumption) | assumption)
                      have q28:a1 < (a0.size:Int):=of_decide_eq_true (by first | (with_reducible assumption) | assumption)
                      have hx28:=bt_at a0 a1
                      replace p28:=eq_true p28
                      replace q28:=eq_true q28
                      go_wp2
                      repeat (go_quiet (fail); try go_wp2)
                      go_ret3
                      exact ⟨by first | rfl | (simp; done) | (simp [*]; done),by repeat (first | exact Drawn0.refl _ | apply Drawn0.step)⟩
                    · rw [if_neg c27] at H
                      exact absurd H (by simp)
                  · rw [if_neg c26] at H
                    exact absurd H (by simp)
              · rw [if_neg c24] at H
                have c24b0:decide (x7_1≤1000000000)=false:=decide_eq_false c24
                clear c24
                simp only [Option.some.injEq,Prod.mk.injEq] at H
                obtain ⟨rfl,rfl,rfl⟩:=H
                have p5:0≤(x1_1:Int):=of_decide_eq_true (by first | (with_reducible assumption) | assumption)
                have q5:x1_1 < (a0.size:Int):=of_decide_eq_true (by first | (with_reducible assumption) | assumption)
                have hx5:=bt_at a0 x1_1
                replace p5:=eq_true p5
                replace q5:=eq_true q5
                go_wp2
                repeat (go_quiet (fail); try go_wp2)
                go_ret3
                exact ⟨by first | rfl | (simp; done) | (simp [*]; done),by repeat (first | exact Drawn0.refl _ | apply Drawn0.step)⟩
            · rw [if_neg c23] at H
              have c23b0:decide (a1 < x1_1)=false:=decide_eq_false c23
              clear c23
              simp only [Option.some.injEq,Prod.mk.injEq] at H
              obtain ⟨rfl,rfl,rfl⟩:=H
              have p5:0≤(x1_1:Int):=of_decide_eq_true (by first | (with_reducible assumption) | assumption)
              have q5:x1_1 < (a0.size:Int):=of_decide_eq_true (by first | (with_reducible assumption) | assumption)
              have hx5:=bt_at a0 x1_1
              replace p5:=eq_true p5
              replace q5:=eq_true q5
              go_wp2
              repeat (go_quiet (fail); try go_wp2)
              go_ret3
              exact ⟨by first | rfl | (simp; done) | (simp [*]; done),by repeat (first | exact Drawn0.refl _ | apply Drawn0.step)⟩
        · rw [if_neg c4] at H
          exact absurd H (by simp)
      · rw [if_neg c3] at H
        have c3b0:decide (x1_1 < (a0.size:Int))=false:=decide_eq_false c3
        clear c3
        by_cases c29:x1_1 > a1
        · rw [if_pos c29] at H
          have c29b0:decide (a1 < x1_1)=true:=decide_eq_true c29
          clear c29
          by_cases c30:x7_1≤1000000000
          · rw [if_pos c30] at H
            have c30b0:decide (x7_1≤1000000000)=true:=decide_eq_true c30
            clear c30
            by_cases c31:x1_1=(wrap64 (a1+1))
            · rw [if_pos c31] at H
              have c31b0:(x1_1 == (wrap64 (a1+1)))=true:=beq_iff_eq.mpr c31
              have c31b1:(x1_1 != (wrap64 (a1+1)))=false:=bne_eq_false_iff_eq.mpr c31
              clear c31
              simp only [Option.some.injEq,Prod.mk.injEq] at H
              obtain ⟨rfl,rfl,rfl⟩:=H
              go_wp2
              repeat (go_quiet (fail); try go_wp2)
              go_ret3
              exact ⟨by first | rfl | (simp; done) | (simp [*]; done),by repeat (first | exact Drawn0.refl _ | apply Drawn0.step)⟩
            · rw [if_neg c31] at H
              have c31b0:(x1_1 == (wrap64 (a1+1)))=false:=beq_eq_false_iff_ne.mpr c31
              have c31b1:(x1_1 != (wrap64 (a1+1)))=true:=bne_iff_ne.mpr c31
              by_cases c32:0≤a1
              · rw [if_pos c32] at H
                have c32b0:decide (0≤a1)=true:=decide_eq_true c32
                clear c32
                by_cases c33:a1 < (a0.size:Int)
                · rw [if_pos c33] at H
                  have c33b0:decide (a1 < (a0.size:Int))=true:=decide_eq_true c33
                  clear c33
                  simp only [Option.some.injEq,Prod.mk.injEq] at H
                  obtain ⟨rfl,rfl,rfl⟩:=H
                  have p34:0≤(a1:Int):=of_decide_eq_true (by first | (with_reducible assumption) | assumption)
                  have q34:a1 < (a0.size:Int):=of_decide_eq_true (by first | (with_reducible assumption) | assumption)
                  have hx34:=bt_at a0 a1
                  replace p34:=eq_true p34
                  replace q34:=eq_true q34
                  go_wp2
                  repeat (go_quiet (fail); try go_wp2)
                  go_ret3
                  exact ⟨by first | rfl | (simp; done) | (simp [*]; done),by repeat (first | exact Drawn0.refl _ | apply Drawn0.step)⟩
                · rw [if_neg c33] at H
                  exact absurd H (by simp)
              · rw [if_neg c32] at H
                exact absurd H (by simp)
          · rw [if_neg c30] at H
            have c30b0:decide (x7_1≤1000000000)=false:=decide_eq_false c30
            clear c30
            simp only [Option.some.injEq,Prod.mk.injEq] at H
            obtain ⟨rfl,rfl,rfl⟩:=H
            go_wp2
            repeat (go_quiet (fail); try go_wp2)
            go_ret3
            exact ⟨by first | rfl | (simp; done) | (simp [*]; done),by repeat (first | exact Drawn0.refl _ | apply Drawn0.step)⟩
        · rw [if_neg c29] at H
          have c29b0:decide (a1 < x1_1)=false:=decide_eq_false c29
          clear c29
          simp only [Option.some.injEq,Prod.mk.injEq] at H
          obtain ⟨rfl,rfl,rfl⟩:=H
          go_wp2
          repeat (go_quiet (fail); try go_wp2)
          go_ret3
          exact ⟨by first | rfl | (simp; done) | (simp [*]; done),by repeat (first | exact Drawn0.refl _ | apply Drawn0.step)⟩
end Go.Proofs.Ytkgknidogelffaa.I
namespace Go.Proofs.Ytkgknidogelffaa.I
open Go.RowKit Go.Proofs.YtkgknidogelffaaW.PrintWords Go.Proofs.YtkgknidogelffaaW.PrintLast Go.Proofs.YtkgknidogelffaaW.PrintMore
attribute [local go_sem] max2_int min2_int max_two min_two max_three min_three max_four min_four
set_option linter.unusedVariables false
set_option maxRecDepth 100000
set_option linter.unusedSimpArgs false
def SymLine (tx:ByteArray) (a:Int) (x:S84) (a2:Int):Prop :=
  ∃ (K:Nat) (b e c d:Int),virgationref03_begins.f tx a (⟨#[115,121,109,98,111,108,32]⟩:ByteArray)=some true∧wrap64 (a+7)=b∧virgationref03_word.f K tx b=some e∧(0≤b∧b≤e∧e≤(tx.size:Int))∧x.f0=tx.extract b.toNat e.toNat∧virgationref02_Name.f K (tx.extract b.toNat e.toNat)=some true∧virgationref03_begins.f tx e (⟨#[32]⟩:ByteArray)=some true∧wrap64 (e+1)=c∧virgationref03_number.f K tx c=some (x.f1,d,true)∧virgationref03_begins.f tx d (⟨#[10]⟩:ByteArray)=some true∧wrap64 (d+1)=a2
def Syms (tx:ByteArray):List S84→Int→Int→Prop
  | [],a,a2=>a=a2∧virgationref03_begins.f tx a (⟨#[115,121,109,98,111,108,32]⟩:ByteArray)=some false
  | x :: xs,a,a2=>∃ m,SymLine tx a x m∧Syms tx xs m a2
def FunLine (tx:ByteArray) (a:Int) (x:S41) (bd:Int) (a2:Int):Prop :=
  ∃ (K:Nat) (b e c d:Int) (p q:Nat),virgationref03_begins.f tx a (⟨#[102,117,110,32]⟩:ByteArray)=some true∧wrap64 (a+4)=b∧virgationref03_word.f K tx b=some e∧(0≤b∧b≤e∧e≤(tx.size:Int))∧x.f0=tx.extract b.toNat e.toNat∧virgationref02_Name.f K (tx.extract b.toNat e.toNat)=some true∧virgationref03_begins.f tx e (⟨#[32,58,32]⟩:ByteArray)=some true∧wrap64 (e+3)=c∧virgationref01_Parse.f K tx c=some (x.f1.f0,d,true)∧virgationref03_begins.f tx d (⟨#[32,61,32]⟩:ByteArray)=some true∧wrap64 (d+3)=bd∧(d=(p:Int)∧p≤q∧q < tx.size∧q < 1000000)∧(∀ j:Nat,p≤j→j < q→(bt tx (j:Int)≠10))∧bt tx (q:Int)=10∧((q+1:Nat):Int)=a2∧x.f2=⟨0,0,[]⟩
def Funs (tx:ByteArray):List S41→List Int→Int→Prop
  | [],bs,a=>bs=[]∧a=(tx.size:Int)∧virgationref03_begins.f tx a (⟨#[102,117,110,32]⟩:ByteArray)=some false
  | x :: xs,bs,a=>∃ b bs' m,bs=b :: bs'∧FunLine tx a x b m∧Funs tx xs bs' m
def NmS (w0:World) (g2 g5:Nat) (A0:Option Addr) (c0:Nat) (A1:Option Addr) (c1:Nat) (Ab:Option Addr) (cb:Nat) (sy:List S84) (fu:List S41) (bo:List Int) (w:World):Prop :=
  k84.R 84 w w0.heap.size (fun _=>True) (.slice A0 sy.length c0) sy∧k41.R 41 w w0.heap.size (fun _=>True) (.slice A1 fu.length c1) fu∧Kd.R (Kd.int .i64) 3 w w0.heap.size (fun _=>True) (.slice Ab bo.length cb) bo∧w.heap[g5]?=some (.cells #[.slice A0 sy.length c0,.slice A1 fu.length c1] 25 (0,0))∧w.heap[g2]?=some (.cells #[.slice none 0 0,.slice none 0 0] 25 (0,0))∧Below w0.heap.size w0 w∧w0.heap.size≤g2∧w0.heap.size≤g5∧g2≠g5
theorem NmS.below {w0:World} {g2 g5:Nat} {A0:Option Addr} {c0:Nat} {A1:Option Addr} {c1:Nat} {Ab:Option Addr} {cb:Nat} {sy:List S84} {fu:List S41} {bo:List Int} {w w1:World} (h:NmS w0 g2 g5 A0 c0 A1 c1 Ab cb sy fu bo w) (hb:Below w.heap.size w w1):NmS w0 g2 g5 A0 c0 A1 c1 Ab cb sy fu bo w1:=by
  obtain ⟨h1,h2,h3,h4,h5,h6,h7⟩:=h
  exact ⟨Kd.R_below h1 hb,Kd.R_below h2 hb,Kd.R_below h3 hb,bkB h4 hb,bkB h5 hb,bst h6 hb,h7⟩
set_option maxHeartbeats 16000000 in
theorem names_calls (tx:ByteArray) (a1:Int) (sy:List S84) (fu:List S41) (bo:List Int) (w:World) (hsy:Syms tx sy 0 a1) (hfu:Funs tx fu bo a1) (hl1:sy.length≤1000) (hl2:fu.length≤1000) (hl3:bo.length≤1000) (hsz:tx.size≤1000000) :
    Calls Try.prog 49 #[.string tx] w fun e w'=>∃ A0 c0 A1 c1 Ab cb,e=.returned (.tuple #[.agg #[.slice A0 sy.length c0,.slice A1 fu.length c1],.slice Ab bo.length cb,.bool true])∧k84.R 84 w' w.heap.size (fun _=>True) (.slice A0 sy.length c0) sy∧k41.R 41 w' w.heap.size (fun _=>True) (.slice A1 fu.length c1) fu∧Kd.R (Kd.int .i64) 3 w' w.heap.size (fun _=>True) (.slice Ab bo.length cb) bo∧Below w.heap.size w w':=by
  have hu25:=Try.underlying25
  have hu39:=Try.underlying39
  have HSY:=Az.mk hsy
  have HFU:=Az.mk hfu
  have HL1:=Az.mk hl1
  have HL2:=Az.mk hl2
  have HL3:=Az.mk hl3
  have HSZ:=Az.mk hsz
  clear hsy hfu hl1 hl2 hl3 hsz
  go_enter Try.func49,Try.ntmps49
  go_wp2_with (first
    | ((with_reducible refine gate_dst (N:=2) rfl ?_)
       refine box_event ?hg (N:=2) ?hd (cs:=#[.slice none 0 0,.slice none 0 0]) (t:=25) ?hr ?_
       (case hd=>rfl)
       (case hg=>rfl)
       (case hr=>first | (go_simp; done) | (go_simp; rfl))
       intro g2 hg2 w2 hbox hb2
       have S2:=Az.mk hbox
       have HB2:=Az.mk hb2
       have HG2:=Az.mk (show w.heap.size≤g2 from by omega)
       clear hbox hb2 hg2)
    | ((with_reducible refine gate_dst (N:=5) rfl ?_)
       refine box_event ?hg (N:=5) ?hd (cs:=#[.slice none 0 0,.slice none 0 0]) (t:=25) ?hr ?_
       (case hd=>rfl)
       (case hg=>rfl)
       (case hr=>first | (go_simp; done) | (go_simp; rfl))
       intro g5 hg5 w5 hbox hb5
       have ST:=Az.mk (show NmS w g2 g5 none 0 none 0 none 0 [] [] [] w5 from ⟨Kd.R_nil _ _ _ _ _,Kd.R_nil _ _ _ _ _,Kd.R_nil _ _ _ _ _,hbox,bkB S2.out hb5,bst HB2.out hb5,HG2.out,(by have:=HB2.out.size; omega),(by have:=blk_lt S2.out; omega)⟩)
       clear hbox hb5 hg5 S2 HB2 HG2))
  go_loopg [7] sy.length (fun kq v7 wr=>∃ (a:Int) (dn rs:List S84) (A0:Option Addr) (c0:Nat),v7=.int .i64 a∧Az (kq=rs.length)∧Az (sy=dn ++ rs)∧Az (Syms tx rs a a1)∧Az (NmS w g2 g5 A0 c0 none 0 none 0 dn [] [] wr))
  case atStart=>exact ⟨0,[],sy,none,0,rfl,⟨rfl⟩,⟨rfl⟩,HSY,ST⟩
  case round =>
    clear ST HSY
    obtain ⟨a,dn,rs,A0,c0,rfl,HK,HDN,HRS,ST⟩:=hrel
    cases rs with
    | nil =>
      have h1:=HRS.out
      unfold Syms at h1
      obtain ⟨rfl,hbg⟩:=h1
      have hdn:=HDN.out
      rw [List.append_nil] at hdn
      subst hdn
      have HBG:=Az.mk hbg
      clear hbg HRS HDN HK
      go_wp2_with (first | (go_at_call 51; (with_reducible refine (virgationref03_begins.calls tx a (⟨#[115,121,109,98,111,108,32]⟩:ByteArray) false _ HBG.out).mono ?_); rintro e9 w9 ⟨rfl,hd9⟩; have ST1:=Az.mk (NmS.below ST.out hd9.below); clear hd9 ST; have ST:=ST1; clear ST1))
      go_loopg [6,7] fu.length (fun kq v6 v7 wr=>∃ (a:Int) (dn rs:List S41) (bd bs:List Int) (A1:Option Addr) (c1:Nat) (Ab:Option Addr) (cb:Nat),v6=.slice Ab bd.length cb∧v7=.int .i64 a∧Az (kq=rs.length)∧Az (fu=dn ++ rs)∧Az (bo=bd ++ bs)∧Az (Funs tx rs bs a)∧Az (NmS w g2 g5 A0 c0 A1 c1 Ab cb sy dn bd wr))
      case atStart=>exact ⟨_,[],fu,[],bo,none,0,none,0,rfl,rfl,⟨rfl⟩,⟨rfl⟩,⟨rfl⟩,HFU,ST⟩
      case round =>
        clear ST HFU HBG
        obtain ⟨a,dn,rs,bd,bs,A1,c1,Ab,cb,rfl,rfl,HK,HDN,HBD,HRS,ST⟩:=hrel
        cases rs with
        | nil =>
          have h1:=HRS.out
          unfold Funs at h1
          obtain ⟨rfl,rfl,hbg⟩:=h1
          have hdn:=HDN.out
          rw [List.append_nil] at hdn
          subst hdn
          have hbd:=HBD.out
          rw [List.append_nil] at hbd
          subst hbd
          have HBG:=Az.mk hbg
          clear hbg HRS HDN HBD HK
          go_wp2_with (first | (go_at_call 51; (with_reducible refine (virgationref03_begins.calls tx (tx.size:Int) (⟨#[102,117,110,32]⟩:ByteArray) false _ HBG.out).mono ?_); rintro e9 w9 ⟨rfl,hd9⟩; have ST1:=Az.mk (NmS.below ST.out hd9.below); clear hd9 ST; have ST:=ST1; clear ST1; have c50:w9.cell? ⟨g5,0,none⟩=some (.slice A0 sy.length c0):=(blk_cell ST.out.2.2.2.1 0).trans rfl; have c51:w9.cell? ⟨g5,1,none⟩=some (.slice A1 fu.length c1):=(blk_cell ST.out.2.2.2.1 1).trans rfl; have c20:w9.cell? ⟨g2,0,none⟩=some (.slice none 0 0):=(blk_cell ST.out.2.2.2.2.1 0).trans rfl; have c21:w9.cell? ⟨g2,1,none⟩=some (.slice none 0 0):=(blk_cell ST.out.2.2.2.2.1 1).trans rfl; have z20:=bkF ST.out.2.2.2.2.1 0; have z21:=bkF ST.out.2.2.2.2.1 1))
          have Sz:=ST.out.2.2.2.2.1
          obtain ⟨r1,r2,r3,_,_,hb,hG2,_,_⟩:=ST.out
          refine bodyPost_ret (results_ctt rfl _ _ g2 25 #[.slice A0 sy.length c0,.slice A1 fu.length c1] (0,0) _ rfl (blk_put (cs':=#[.slice A0 sy.length c0,.slice A1 fu.length c1]) (blk_put (cs':=#[.slice A0 sy.length c0,.slice none 0 0]) Sz 0 (.slice A0 sy.length c0) rfl) 1 (.slice A1 fu.length c1) rfl) Try.underlying25 rfl (by kernel_rfl)) rfl ?_
          exact ⟨A0,c0,A1,c1,Ab,cb,rfl,Kd.R_set (Kd.R_set r1 Sz (by decide) 0 _) (blk_put Sz 0 _ rfl) (by decide) 1 _,Kd.R_set (Kd.R_set r2 Sz (by decide) 0 _) (blk_put Sz 0 _ rfl) (by decide) 1 _,Kd.R_set (Kd.R_set r3 Sz (by decide) 0 _) (blk_put Sz 0 _ rfl) (by decide) 1 _,bset (bset hb hG2) hG2⟩
        | cons x rs =>
          have h1:=HRS.out
          unfold Funs at h1
          obtain ⟨b0,bs',m,rfl,hln,hrs⟩:=h1
          unfold FunLine at hln
          obtain ⟨K,b,e,c,d,p,q,f1,f2,f3,⟨f4,f5,f6⟩,f7,f8,f9,f10,f11,f12,f13,⟨rfl,f15,f16,f17⟩,f18,f19,f20,f21⟩:=hln
          have F1:=Az.mk f1
          have F3:=Az.mk f3
          have F7:=Az.mk f7
          have F8:=Az.mk f8
          have F9:=Az.mk f9
          have F11:=Az.mk f11
          have F12:=Az.mk f12
          have F15:=Az.mk (And.intro f15 (And.intro f16 f17))
          have F18:=Az.mk f18
          have F19:=Az.mk f19
          have F20:=Az.mk f20
          have F21:=Az.mk f21
          have HRS2:=Az.mk hrs
          have f2w:IntKind.i64.wrap (a+4)=b:=(i64_w _).trans f2
          have f10w:IntKind.i64.wrap (e+3)=c:=(i64_w _).trans f10
          have f13w:IntKind.i64.wrap ((p:Int)+3)=b0:=(i64_w _).trans f13
          have q0:=eq_true f4
          have q1:decide (0≤b)=true:=decide_eq_true f4
          have q2:=eq_true f5
          have q3:decide (b≤e)=true:=decide_eq_true f5
          have q4:=eq_true f6
          have q5:decide (e≤(tx.size:Int))=true:=decide_eq_true f6
          clear f1 f3 f4 f5 f6 f7 f8 f9 f11 f12 f15 f16 f17 f18 f19 f20 f21 hrs HRS
          go_upto_region 22 with (first
            | (go_at_call 51; (with_reducible refine (virgationref03_begins.calls tx a (⟨#[102,117,110,32]⟩:ByteArray) true _ F1.out).mono ?_); rintro e9 w9 ⟨rfl,hd9⟩; have ST1:=Az.mk (NmS.below ST.out hd9.below); clear hd9 ST; have ST:=ST1; clear ST1)
            | (go_at_call 61; (with_reducible refine (virgationref03_word.calls K tx b e _ F3.out).mono ?_); rintro e9 w9 ⟨rfl,hd9⟩; have ST1:=Az.mk (NmS.below ST.out hd9.below); clear hd9 ST; have ST:=ST1; clear ST1)
            | (go_at_call 22; (with_reducible refine (virgationref02_Name.calls K (tx.extract b.toNat e.toNat) true _ F8.out).mono ?_); rintro e9 w9 ⟨rfl,hd9⟩; have ST1:=Az.mk (NmS.below ST.out hd9.below); clear hd9 ST; have ST:=ST1; clear ST1)
            | (go_at_call 51; (with_reducible refine (virgationref03_begins.calls tx e (⟨#[32,58,32]⟩:ByteArray) true _ F9.out).mono ?_); rintro e9 w9 ⟨rfl,hd9⟩; have ST1:=Az.mk (NmS.below ST.out hd9.below); clear hd9 ST; have ST:=ST1; clear ST1)
            | (go_at_call 63
               (with_reducible refine (virgationref01_Parse.calls K tx c x.f1.f0 (p:Int) true _ F11.out).mono ?_)
               rintro e9 w9 ⟨vs,rfl,hR,hb9⟩
               obtain ⟨As,cs,rfl⟩:=Kd.R_slice hR
               have HRX:=Az.mk (Kd.R_lower (base':=w.heap.size) hR (ST.out.2.2.2.2.2.1.size))
               have ST1:=Az.mk (NmS.below ST.out hb9)
               clear hR hb9 ST
               have ST:=ST1
               clear ST1)
            | ((with_reducible refine gate_dst (N:=15) rfl ?_)
               refine box_event ?hg (N:=15) ?hd (cs:=#[.slice none 0 0]) (t:=39) ?hr ?_
               (case hd=>rfl)
               (case hg=>rfl)
               (case hr=>first | (go_simp; done) | (go_simp; rfl))
               intro g15 hg15 w15 hbox hb15
               have hlt15:=blk_lt hbox
               have hbs15:=bset (g:=g15) (j:=0) (v:=.slice As x.f1.f0.length cs) hb15 (by omega)
               have ST1:=Az.mk (NmS.below ST.out hbs15)
               have HRX1:=Az.mk (Kd.R_below HRX.out hbs15)
               have S15:=Az.mk (show (w15.setCell ⟨g15,0,none⟩ (.slice As x.f1.f0.length cs)).heap[g15]?=some (.cells #[.slice As x.f1.f0.length cs] 39 (0,0)) from blk_put hbox 0 (.slice As x.f1.f0.length cs) rfl)
               have hcz:=(blk_cell hbox 0).trans rfl
               have hfz:=bkF hbox 0
               clear hbox hb15 hbs15 hg15 ST HRX hlt15
               have ST:=ST1
               have HRX:=HRX1
               clear ST1 HRX1)
            | (go_at_call 51
               (with_reducible refine (virgationref03_begins.calls tx (p:Int) (⟨#[32,61,32]⟩:ByteArray) true _ F12.out).mono ?_)
               rintro e9 w9 ⟨rfl,hd9⟩
               have ST1:=Az.mk (NmS.below ST.out hd9.below)
               have S151:=Az.mk (bkB S15.out hd9.below)
               have HRX1:=Az.mk (Kd.R_below HRX.out hd9.below)
               have c51:w9.cell? ⟨g5,1,none⟩=some (.slice A1 dn.length c1):=(blk_cell ST1.out.2.2.2.1 1).trans rfl
               have c15:w9.cell? ⟨g15,0,none⟩=some (.slice As x.f1.f0.length cs):=(blk_cell S151.out 0).trans rfl
               clear hd9 ST hcz hfz S15 HRX
               have ST:=ST1
               have HRX:=HRX1
               have S15:=S151
               clear ST1 HRX1 S151))
          go_wp2_with (at_builtin; refine holdX ?_)
          unfold HoldX
          clear c51 c15 q0 q1 q2 q3 q4 q5 f2 f2w f10 f10w
          have hdl:(dn ++ [x]).length=dn.length+1:=by rw [List.length_append]; rfl
          have hx2:x=⟨x.f0,x.f1,⟨0,0,[]⟩⟩:=by rw [← F21.out]
          refine Kd.R_append k41 (w0:=w) w.heap.size rfl (.tmp 107) (.tmp 111) 23 41 (.agg #[.string ⟨#[]⟩,.slice none 0 0,.int .i64 0,.int .i64 0,.slice none 0 0]) 80 rfl Try.underlying23 (by kernel_rfl) rfl (by decide) (by omega) (.slice A1 dn.length c1) dn x [.string (tx.extract b.toNat e.toNat),.slice As x.f1.f0.length cs,.int .i64 0,.int .i64 0,.slice none 0 0] (fun _=>True) (fun k=>∃ q cells,q≠41∧w9.heap[k]?=some (.cells cells q (0,0))) rfl rfl (by rw [← F7.out,hx2]; exact k41_mkM _ _ _ ⟨x.f0,x.f1,⟨0,0,[]⟩⟩ (Kd.R_mono (Kd.R_bound HRX.out) (fun k hk=>by obtain ⟨_,_,_,q,hq,cells,hc⟩:=hk; refine ⟨q,cells,?_,hc⟩; rcases List.mem_cons.1 hq with rfl | hq; decide; rw [List.mem_singleton.1 hq]; decide)) (Kd.R_nil _ _ _ _ _)) (fun k hk=>⟨trivial,fun he=>by obtain ⟨q,cells,hq,hc⟩:=hk; obtain ⟨c2,hc2⟩:=Kd.R_typed ST.out.2.1 k he.symm; exact hq (blk_type hc hc2)⟩) (fun _ _=>trivial) ST.out.2.1 ST.out.2.2.2.2.2.1 ST.out.2.2.2.2.2.1.size (by have:=HL2.out; rw [HDN.out,List.length_append,List.length_cons] at this; omega) ?_
          intro v2 w7 hrf hb7 hg7 hat
          obtain ⟨A5,c5,e5⟩:=Kd.R_slice hrf
          rw [hdl] at e5
          subst e5
          obtain ⟨r1,r2,r3,s5,s2,hb,hG2,hG5,h25⟩:=ST.out
          have tf:=Kd.R_typed r2
          have s57:=grownT s5 hg7 (fun k hk=>by obtain ⟨c,hc⟩:=tf k hk; exact ⟨41,c,by decide,hc⟩)
          have s27:=grownT s2 hg7 (fun k hk=>by obtain ⟨c,hc⟩:=tf k hk; exact ⟨41,c,by decide,hc⟩)
          have ST7:=Az.mk (show NmS w g2 g5 A0 c0 A5 c5 Ab cb sy (dn ++ [x]) bd (w7.setCell ⟨g5,1,none⟩ (.slice A5 (dn.length+1) c5)) from by
            unfold NmS
            rw [hdl]
            exact ⟨Kd.R_set (Kd.R_over' r1 tf (by decide) hg7) s57 (by decide) 1 _,Kd.R_set hrf s57 (by decide) 1 _,Kd.R_set (Kd.R_over' r3 tf (by decide) hg7) s57 (by decide) 1 _,blk_put s57 1 _ rfl,blk_far (p:=⟨g5,1,none⟩) s27 (fun he=>h25 he) _,bset hb7 hG5,hG2,hG5,h25⟩)
          have m7:w7.cell? ⟨g5,1,none⟩=some (.slice A1 dn.length c1):=(blk_cell s57 1).trans rfl
          have fz7:=bkF s57 1
          clear hrf hb7 hg7 hat r1 r2 r3 s5 s2 hb hG2 hG5 h25 tf s57 s27 ST hx2 HRX S15
          go_wp2_with (at_builtin; refine holdX ?_)
          unfold HoldX
          clear m7 fz7
          have hbl:(bd ++ [b0]).length=bd.length+1:=by rw [List.length_append]; rfl
          refine Kd.R_append (Kd.int .i64) (w0:=w) w.heap.size rfl (.tmp 114) (.tmp 117) 26 3 (.int .i64 0) 8 rfl Try.underlying26 info3 rfl (by decide) (by omega) (.slice Ab bd.length cb) bd b0 [.int .i64 b0] (fun _=>True) (fun _=>False) rfl (by show Value.slice (some ⟨w7.heap.size,0,none⟩) 1 1=_; simp [World.setCell]) rfl (fun _ hk=>hk.elim) (fun _ _=>trivial) ST7.out.2.2.1 ST7.out.2.2.2.2.2.1 ST7.out.2.2.2.2.2.1.size (by have:=HL3.out; rw [HBD.out,List.length_append,List.length_cons] at this; omega) ?_
          intro v3 w9 hrf hb9 hg9 hat9
          obtain ⟨A6,c6,e6⟩:=Kd.R_slice hrf
          rw [hbl] at e6
          subst e6
          obtain ⟨r1,r2,r3,s5,s2,hb,hG2,hG5,h25⟩:=ST7.out
          have tf:=Kd.R_typed r3
          have ST9:=Az.mk (show NmS w g2 g5 A0 c0 A5 c5 A6 c6 sy (dn ++ [x]) (bd ++ [b0]) w9 from by
            unfold NmS
            rw [hbl]
            exact ⟨Kd.R_over' r1 tf (by decide) hg9,Kd.R_over' r2 tf (by decide) hg9,hrf,grownT s5 hg9 (fun k hk=>by obtain ⟨c,hc⟩:=tf k hk; exact ⟨3,c,by decide,hc⟩),grownT s2 hg9 (fun k hk=>by obtain ⟨c,hc⟩:=tf k hk; exact ⟨3,c,by decide,hc⟩),hb9,hG2,hG5,h25⟩)
          clear hrf hb9 hg9 hat9 r1 r2 r3 s5 s2 hb hG2 hG5 h25 tf ST7
          have HDN2:=Az.mk (show fu=(dn ++ [x]) ++ rs from by rw [HDN.out,List.append_assoc]; rfl)
          have HBD2:=Az.mk (show bo=(bd ++ [b0]) ++ bs' from by rw [HBD.out,List.append_assoc]; rfl)
          have HDL:=Az.mk hdl
          have HBL:=Az.mk hbl
          clear hdl hbl
          go_wp2_with fail
          go_loopg [7] (q - p) (fun kq v7 wr=>∃ j:Nat,v7=.int .i64 (j:Int)∧Az (j+kq=q)∧Az (p≤j)∧Az (NmS w g2 g5 A0 c0 A5 c5 A6 c6 sy (dn ++ [x]) (bd ++ [b0]) wr))
          case atStart=>exact ⟨p,rfl,⟨by have:=F15.out; omega⟩,⟨Nat.le_refl _⟩,ST9⟩
          case round =>
            clear ST9
            obtain ⟨j,rfl,HJ,HPJ,ST⟩:=hrel
            have hjq:j≤q:=by have:=HJ.out; omega
            have h15:=F15.out
            have x1:decide ((j:Int) < (tx.size:Int))=true:=decide_eq_true (by omega)
            have x2:decide (0≤(j:Int))=true:=decide_eq_true (by omega)
            have x3:(0≤(j:Int))=True:=eq_true (by omega)
            have x4:((j:Int) < (tx.size:Int))=True:=eq_true (by omega)
            have x5:∀ h:j < tx.size,((tx[j]'h).toNat:Int)=bt tx (j:Int):=fun h=>bt_at tx (j:Int) h
            have x6:(j < tx.size)=True:=eq_true (by omega)
            cases gk with
            | zero =>
              have hje:j=q:=by have:=HJ.out; omega
              subst hje
              have y1:(bt tx (j:Int) != 10)=false:=bne_eq_false_iff_eq.2 F19.out
              have y2:(bt tx (j:Int) == 10)=true:=beq_iff_eq.2 F19.out
              have y3:((j:Int) == (tx.size:Int))=false:=beq_eq_false_iff_ne.2 (by omega)
              have y4:((j:Int)=(tx.size:Int))=False:=eq_false (by omega)
              have y5:(j=tx.size)=False:=eq_false (by omega)
              have y6:(j == tx.size)=false:=beq_eq_false_iff_ne.2 (by omega)
              go_wp2_with fail
              go_roundg rs.length
              case measure=>have:=HK.out; rw [List.length_cons] at this; omega
              case rel=>exact ⟨m,dn ++ [x],rs,bd ++ [b0],bs',A5,c5,A6,c6,(by rw [HBL.out]),(by rw [← F20.out]; go_num),⟨rfl⟩,HDN2,HBD2,HRS2,ST⟩
            | succ k1 =>
              have hjl:j < q:=by have:=HJ.out; omega
              have hne:=F18.out j HPJ.out hjl
              have y1:(bt tx (j:Int) != 10)=true:=bne_iff_ne.2 hne
              have y2:(bt tx (j:Int) == 10)=false:=beq_eq_false_iff_ne.2 hne
              clear hne
              go_wp2_with fail
              go_roundg k1
              case measure=>omega
              case rel=>exact ⟨j+1,by go_num,⟨by have:=HJ.out; omega⟩,⟨by have:=HPJ.out; omega⟩,ST⟩
    | cons x rs =>
      have h1:=HRS.out
      unfold Syms at h1
      obtain ⟨m,hln,hrs⟩:=h1
      unfold SymLine at hln
      obtain ⟨K,b,e,c,d,f1,f2,f3,⟨f4,f5,f6⟩,f7,f8,f9,f10,f11,f12,f13⟩:=hln
      have F1:=Az.mk f1
      have F3:=Az.mk f3
      have F7:=Az.mk f7
      have F8:=Az.mk f8
      have F9:=Az.mk f9
      have F11:=Az.mk f11
      have F12:=Az.mk f12
      have HRS2:=Az.mk hrs
      have f2w:IntKind.i64.wrap (a+7)=b:=(i64_w _).trans f2
      have f10w:IntKind.i64.wrap (e+1)=c:=(i64_w _).trans f10
      have f13w:IntKind.i64.wrap (d+1)=m:=(i64_w _).trans f13
      have q0:=eq_true f4
      have q1:decide (0≤b)=true:=decide_eq_true f4
      have q2:=eq_true f5
      have q3:decide (b≤e)=true:=decide_eq_true f5
      have q4:=eq_true f6
      have q5:decide (e≤(tx.size:Int))=true:=decide_eq_true f6
      clear f1 f3 f4 f5 f6 f7 f8 f9 f11 f12 hrs HRS
      go_upto_region 12 with (first
        | (go_at_call 51; (with_reducible refine (virgationref03_begins.calls tx a (⟨#[115,121,109,98,111,108,32]⟩:ByteArray) true _ F1.out).mono ?_); rintro e9 w9 ⟨rfl,hd9⟩; have ST1:=Az.mk (NmS.below ST.out hd9.below); clear hd9 ST; have ST:=ST1; clear ST1)
        | (go_at_call 61; (with_reducible refine (virgationref03_word.calls K tx b e _ F3.out).mono ?_); rintro e9 w9 ⟨rfl,hd9⟩; have ST1:=Az.mk (NmS.below ST.out hd9.below); clear hd9 ST; have ST:=ST1; clear ST1)
        | (go_at_call 22; (with_reducible refine (virgationref02_Name.calls K (tx.extract b.toNat e.toNat) true _ F8.out).mono ?_); rintro e9 w9 ⟨rfl,hd9⟩; have ST1:=Az.mk (NmS.below ST.out hd9.below); clear hd9 ST; have ST:=ST1; clear ST1)
        | (go_at_call 51; (with_reducible refine (virgationref03_begins.calls tx e (⟨#[32]⟩:ByteArray) true _ F9.out).mono ?_); rintro e9 w9 ⟨rfl,hd9⟩; have ST1:=Az.mk (NmS.below ST.out hd9.below); clear hd9 ST; have ST:=ST1; clear ST1)
        | (go_at_call 62; (with_reducible refine (virgationref03_number.calls K tx c x.f1 d true _ F11.out).mono ?_); rintro e9 w9 ⟨rfl,hd9⟩; have ST1:=Az.mk (NmS.below ST.out hd9.below); clear hd9 ST; have ST:=ST1; clear ST1)
        | (go_at_call 51; (with_reducible refine (virgationref03_begins.calls tx d (⟨#[10]⟩:ByteArray) true _ F12.out).mono ?_); rintro e9 w9 ⟨rfl,hd9⟩; have ST1:=Az.mk (NmS.below ST.out hd9.below); clear hd9 ST; have ST:=ST1; clear ST1; have c50:w9.cell? ⟨g5,0,none⟩=some (.slice A0 dn.length c0):=(blk_cell ST.out.2.2.2.1 0).trans rfl))
      go_wp2_with (at_builtin; refine holdX ?_)
      unfold HoldX
      clear c50 q0 q1 q2 q3 q4 q5 f2 f10
      refine Kd.R_append k84 (w0:=w) w.heap.size rfl (.tmp 58) (.tmp 62) 22 84 (.agg #[.string ⟨#[]⟩,.int .i64 0]) 24 rfl Try.underlying22 (by kernel_rfl) rfl (by decide) (by omega) (.slice A0 dn.length c0) dn x [.string (tx.extract b.toNat e.toNat),.int .i64 x.f1] (fun _=>True) (fun _=>False) rfl rfl (by rw [← F7.out]; exact k84_mkM _ _ _ x) (fun _ hk=>hk.elim) (fun _ _=>trivial) ST.out.1 ST.out.2.2.2.2.2.1 ST.out.2.2.2.2.2.1.size (by have:=HL1.out; rw [HDN.out,List.length_append,List.length_cons] at this; omega) ?_
      intro v2 w7 hrf hb7 hg7 hat
      obtain ⟨A5,c5,e5⟩:=Kd.R_slice hrf
      have hdl:(dn ++ [x]).length=dn.length+1:=by rw [List.length_append]; rfl
      rw [hdl] at e5
      subst e5
      obtain ⟨r1,r2,r3,s5,s2,hb,hG2,hG5,h25⟩:=ST.out
      have tf:=Kd.R_typed r1
      have s57:=grownT s5 hg7 (fun k hk=>by obtain ⟨c,hc⟩:=tf k hk; exact ⟨84,c,by decide,hc⟩)
      have s27:=grownT s2 hg7 (fun k hk=>by obtain ⟨c,hc⟩:=tf k hk; exact ⟨84,c,by decide,hc⟩)
      have ST7:=Az.mk (show NmS w g2 g5 A5 c5 none 0 none 0 (dn ++ [x]) [] [] (w7.setCell ⟨g5,0,none⟩ (.slice A5 (dn.length+1) c5)) from by
        unfold NmS
        rw [hdl]
        exact ⟨Kd.R_set hrf s57 (by decide) 0 _,Kd.R_nil _ _ _ _ _,Kd.R_nil _ _ _ _ _,blk_put s57 0 _ rfl,blk_far (p:=⟨g5,0,none⟩) s27 (fun he=>h25 he) _,bset hb7 hG5,hG2,hG5,h25⟩)
      have m7:w7.cell? ⟨g5,0,none⟩=some (.slice A0 dn.length c0):=(blk_cell s57 0).trans rfl
      have fz7:=bkF s57 0
      clear hrf hb7 hg7 hat r1 r2 r3 s5 s2 hb hG2 hG5 h25 tf s57 s27 hdl ST
      go_wp2_with fail
      have HDN2:=Az.mk (show sy=(dn ++ [x]) ++ rs from by rw [HDN.out,List.append_assoc]; rfl)
      go_roundg rs.length
      case measure=>have:=HK.out; rw [List.length_cons] at this; omega
      case rel=>exact ⟨m,dn ++ [x],rs,A5,c5,by first | rfl | (simp; done) | (simp [*]; done),⟨rfl⟩,HDN2,HRS2,ST7⟩
end Go.Proofs.Ytkgknidogelffaa.I
namespace Go.Proofs.Ytkgknidogelffaa.I
open Go.RowKit Go.Proofs.YtkgknidogelffaaW.PrintWords Go.Proofs.YtkgknidogelffaaW.PrintLast Go.Proofs.YtkgknidogelffaaW.PrintMore
attribute [local go_sem] max2_int min2_int max_two min_two max_three min_three max_four min_four
set_option linter.unusedVariables false
set_option maxRecDepth 100000
set_option linter.unusedSimpArgs false
set_option maxHeartbeats 8000000 in
theorem index_sym (A0:Option Addr) (c0:Nat) (sy:List S84) (A1:Option Addr) (c1:Nat) (fu:List S41) (nm:ByteArray) (n:Nat) (w:World) (hr0:Kd.C k84 w A0 sy.length sy) (hr1:Kd.C k41 w A1 fu.length fu) (hn:n < sy.length) (hne:∀ j:Nat,j < n→((rd_T84 sy (j:Int)).f0.toList == nm.toList)=false) (heq:((rd_T84 sy (n:Int)).f0.toList == nm.toList)=true) :
    Calls Try.prog 72 #[.agg #[.slice A0 sy.length c0,.slice A1 fu.length c1],.bool true,.string nm] w fun e w'=>e=.returned (.int .i64 (n:Int))∧Below w.heap.size w w':=by
  have hu25:=Try.underlying25
  have hu41:=Try.underlying41
  have hu84:=Try.underlying84
  have hlen:sy.length≤9223372036854775807:=hr0.2.1
  have HR:=Az.mk hr0
  have HNE:=Az.mk hne
  have HEQ:=Az.mk heq
  have HN:=Az.mk hn
  clear hr0 hr1 hne heq hn
  go_enter Try.func72,Try.ntmps72
  go_wp2_with (
    ((with_reducible refine gate_dst (N:=3) rfl ?_)
     refine box_event ?hg (N:=3) ?hd (cs:=#[.slice A0 sy.length c0,.slice A1 fu.length c1]) (t:=25) ?hr ?_
     (case hd=>rfl)
     (case hg=>rfl)
     (case hr=>first | (go_simp; done) | (go_simp; rfl))
     intro g3 hg_g3 w2 hbox hbb
     have S3:=Az.mk hbox
     have HB2:=Az.mk hbb
     have e0:w2.cell? ⟨g3,0,none⟩=some (.slice A0 sy.length c0):=(blk_cell hbox 0).trans rfl
     have e1:w2.cell? ⟨g3,1,none⟩=some (.slice A1 fu.length c1):=(blk_cell hbox 1).trans rfl
     clear hbox hbb hg_g3))
  clear e0 e1
  go_loopg [7] n (fun kq v7 wr=>∃ i:Nat,v7=.int .i64 (i:Int)∧Az (i+kq=n)∧Az (Below w2.heap.size w2 wr))
  case atStart=>exact ⟨0,rfl,⟨by omega⟩,⟨Below.refl _ _⟩⟩
  case round =>
    obtain ⟨i,rfl,Hi,HB⟩:=hrel
    have HBw:=Az.mk (bst HB2.out HB.out)
    have hi:=Hi.out
    have hn:=HN.out
    obtain ⟨ad,he,hx0,hx1⟩:=at_T84 (Kd.C_below HR.out HBw.out) (i:Int) (by omega) (by omega)
    subst he
    rw [Int.toNat_natCast] at hx0
    have S3w:=Az.mk (bkB S3.out HB.out)
    have e0:wr.cell? ⟨g3,0,none⟩=some (.slice (some ad) sy.length c0):=(blk_cell S3w.out 0).trans rfl
    have e1:wr.cell? ⟨g3,1,none⟩=some (.slice A1 fu.length c1):=(blk_cell S3w.out 1).trans rfl
    have q1:(0≤(i:Int))=True:=eq_true (by omega)
    have q2:((i:Int) < (sy.length:Int))=True:=eq_true (by omega)
    have q3:(i < sy.length)=True:=eq_true (by omega)
    clear hx1
    cases gk with
    | zero =>
      have hin:i=n:=by omega
      subst hin
      have hq:=HEQ.out
      generalize (rd_T84 sy (i:Int)).f0=y at *
      go_wp2_with fail
      go_ret
      exact ⟨rfl,HBw.out⟩
    | succ k1 =>
      have hq:=HNE.out i (by omega)
      generalize (rd_T84 sy (i:Int)).f0=y at *
      go_wp2_with fail
      go_roundg k1
      case measure=>omega
      case rel=>exact ⟨i+1,by first | rfl | (refine congrArg _ ?_; unfold wrap64; omega),⟨by omega⟩,HB⟩
set_option maxHeartbeats 8000000 in
theorem index_fun (A0:Option Addr) (c0:Nat) (sy:List S84) (A1:Option Addr) (c1:Nat) (fu:List S41) (nm:ByteArray) (n:Nat) (w:World) (hr0:Kd.C k84 w A0 sy.length sy) (hr1:Kd.C k41 w A1 fu.length fu) (hn:n < fu.length) (hne:∀ j:Nat,j < n→((rd_T41 fu (j:Int)).f0.toList == nm.toList)=false) (heq:((rd_T41 fu (n:Int)).f0.toList == nm.toList)=true) :
    Calls Try.prog 72 #[.agg #[.slice A0 sy.length c0,.slice A1 fu.length c1],.bool false,.string nm] w fun e w'=>e=.returned (.int .i64 (n:Int))∧Below w.heap.size w w':=by
  have hu25:=Try.underlying25
  have hu41:=Try.underlying41
  have hu84:=Try.underlying84
  have hlen:fu.length≤9223372036854775807:=hr1.2.1
  have HR:=Az.mk hr1
  have HNE:=Az.mk hne
  have HEQ:=Az.mk heq
  have HN:=Az.mk hn
  clear hr0 hr1 hne heq hn
  go_enter Try.func72,Try.ntmps72
  go_wp2_with (
    ((with_reducible refine gate_dst (N:=3) rfl ?_)
     refine box_event ?hg (N:=3) ?hd (cs:=#[.slice A0 sy.length c0,.slice A1 fu.length c1]) (t:=25) ?hr ?_
     (case hd=>rfl)
     (case hg=>rfl)
     (case hr=>first | (go_simp; done) | (go_simp; rfl))
     intro g3 hg_g3 w2 hbox hbb
     have S3:=Az.mk hbox
     have HB2:=Az.mk hbb
     have e0:w2.cell? ⟨g3,0,none⟩=some (.slice A0 sy.length c0):=(blk_cell hbox 0).trans rfl
     have e1:w2.cell? ⟨g3,1,none⟩=some (.slice A1 fu.length c1):=(blk_cell hbox 1).trans rfl
     clear hbox hbb hg_g3))
  clear e0 e1
  go_loopg [7] 0 (fun kq v7 wr=>v7=.int .i64 0∧Az (Below w2.heap.size w2 wr))
  case atStart=>exact ⟨rfl,⟨Below.refl _ _⟩⟩
  case round =>
  obtain ⟨rfl,HB0⟩:=hrel
  obtain ⟨w3,hw3⟩:∃ w3,w3=wr:=⟨_,rfl⟩
  subst hw3
  go_wp2_with fail
  go_loopg [8] n (fun kq v8 wr=>∃ i:Nat,v8=.int .i64 (i:Int)∧Az (i+kq=n)∧Az (Below w2.heap.size w2 wr))
  case atStart=>exact ⟨0,rfl,⟨by omega⟩,HB0⟩
  case round =>
    obtain ⟨i,rfl,Hi,HB⟩:=hrel
    have HBw:=Az.mk (bst HB2.out HB.out)
    have hi:=Hi.out
    have hn:=HN.out
    obtain ⟨ad,A3,c3,A4,c4,he,hx0,hx1,hx2,hx3,hx4,hl3,hC3,hl4,hC4⟩:=at_T41 (Kd.C_below HR.out HBw.out) (i:Int) (by omega) (by omega)
    subst he
    rw [Int.toNat_natCast] at hx0
    have S3w:=Az.mk (bkB S3.out HB.out)
    have e0:wr.cell? ⟨g3,0,none⟩=some (.slice A0 sy.length c0):=(blk_cell S3w.out 0).trans rfl
    have e1:wr.cell? ⟨g3,1,none⟩=some (.slice (some ad) fu.length c1):=(blk_cell S3w.out 1).trans rfl
    have q1:(0≤(i:Int))=True:=eq_true (by omega)
    have q2:((i:Int) < (fu.length:Int))=True:=eq_true (by omega)
    have q3:(i < fu.length)=True:=eq_true (by omega)
    clear hx1 hx2 hx3 hx4 hl3 hC3 hl4 hC4
    cases gk with
    | zero =>
      have hin:i=n:=by omega
      subst hin
      have hq:=HEQ.out
      generalize (rd_T41 fu (i:Int)).f0=y at *
      go_wp2_with fail
      go_ret
      exact ⟨rfl,HBw.out⟩
    | succ k1 =>
      have hq:=HNE.out i (by omega)
      generalize (rd_T41 fu (i:Int)).f0=y at *
      go_wp2_with fail
      go_roundg k1
      case measure=>omega
      case rel=>exact ⟨i+1,by first | rfl | (refine congrArg _ ?_; unfold wrap64; omega),⟨by omega⟩,HB⟩
end Go.Proofs.Ytkgknidogelffaa.I
namespace Go.Proofs.Ytkgknidogelffaa.I
open Go.RowKit Go.Proofs.YtkgknidogelffaaW.PrintWords Go.Proofs.YtkgknidogelffaaW.PrintLast Go.Proofs.YtkgknidogelffaaW.PrintMore
theorem blk_set3 {w:World} {g:Nat} {t:TypeId} {a b d:Value} (h:w.heap[g]?=some (.cells #[a,b,d] t (0,0))) (a' b' d':Value):(((w.setCell ⟨g,0,none⟩ a').setCell ⟨g,1,none⟩ b').setCell ⟨g,2,none⟩ d').heap[g]?=some (.cells #[a',b',d'] t (0,0)) :=
  blk_put (cs':=#[a',b',d']) (blk_put (cs':=#[a',b',d]) (blk_put (cs':=#[a',b,d]) h 0 a' rfl) 1 b' rfl) 2 d' rfl
theorem blk_far3 {w:World} {g g':Nat} {t:TypeId} {cs:Array Value} (h:w.heap[g]?=some (.cells cs t (0,0))) (hg:g≠g') (a' b' d':Value):(((w.setCell ⟨g',0,none⟩ a').setCell ⟨g',1,none⟩ b').setCell ⟨g',2,none⟩ d').heap[g]?=some (.cells cs t (0,0)) :=
  blk_far (p:=⟨g',2,none⟩) (blk_far (p:=⟨g',1,none⟩) (blk_far (p:=⟨g',0,none⟩) h hg a') hg b') hg d'
theorem below_set3 {w0 w:World} {g:Nat} (h:Below w0.heap.size w0 w) (hg:w0.heap.size≤g) (a' b' d':Value):Below w0.heap.size w0 (((w.setCell ⟨g,0,none⟩ a').setCell ⟨g,1,none⟩ b').setCell ⟨g,2,none⟩ d'):=bset (bset (bset h hg) hg) hg
end Go.Proofs.Ytkgknidogelffaa.I
namespace Go.Proofs.Ytkgknidogelffaa.I
open Go.RowKit Go.Proofs.YtkgknidogelffaaW.PrintWords Go.Proofs.YtkgknidogelffaaW.PrintLast Go.Proofs.YtkgknidogelffaaW.PrintMore
attribute [local go_sem] max2_int min2_int max_two min_two max_three min_three max_four min_four
set_option linter.unusedVariables false
set_option maxRecDepth 100000
set_option linter.unusedSimpArgs false
set_option maxHeartbeats 8000000 in
theorem head_var (K:Nat) (tx:ByteArray) (A0:Option Addr) (c0:Nat) (sy:List S84) (A1:Option Addr) (c1:Nat) (fu:List S41) (a b a2:Int) (n:Int) (w:World) (hr0:Kd.C k84 w A0 sy.length sy) (hr1:Kd.C k41 w A1 fu.length fu) (h1:virgationref03_begins.f tx a (⟨#[36]⟩:ByteArray)=some true) (h2:wrap64 (a+1)=b) (h3:virgationref03_number.f K tx b=some (n,a2,true)) :
    Calls Try.prog 64 #[.agg #[.slice A0 sy.length c0,.slice A1 fu.length c1],.string tx,.int .i64 a] w fun e w'=>e=.returned (.tuple #[.agg #[.int .i64 0,.int .i64 n,.slice none 0 0],.int .i64 a2,.bool true])∧Below w.heap.size w w':=by
  have hu25:=Try.underlying25
  have hu36:=Try.underlying36
  have H1:=Az.mk h1
  have H3:=Az.mk h3
  have h2w:IntKind.i64.wrap (a+1)=b:=(i64_w _).trans h2
  clear hr0 hr1 h1 h3
  go_enter Try.func64,Try.ntmps64
  go_upto_region 1 with (first
    | ((with_reducible refine gate_dst (N:=3) rfl ?_)
       refine box_event ?hg (N:=3) ?hd (cs:=#[.slice A0 sy.length c0,.slice A1 fu.length c1]) (t:=25) ?hr ?_
       (case hd=>rfl)
       (case hg=>rfl)
       (case hr=>first | (go_simp; done) | (go_simp; rfl))
       intro g3 hg_g3 w2 hbox hbb
       have S32:=Az.mk hbox
       have HB2:=Az.mk hbb
       clear hbox hbb hg_g3)
    | ((with_reducible refine gate_dst (N:=6) rfl ?_)
       refine box_event ?hg (N:=6) ?hd (cs:=#[.int .i64 0,.int .i64 0,.slice none 0 0]) (t:=36) ?hr ?_
       (case hd=>rfl)
       (case hg=>rfl)
       (case hr=>first | (go_simp; done) | (go_simp; rfl))
       intro g6 hg_g6 w3 hbox hbb
       have S3:=Az.mk (bkB S32.out hbb)
       have S6:=Az.mk hbox
       have HB3:=Az.mk (bst HB2.out hbb)
       have HG6:=Az.mk (show w.heap.size≤g6 from by have:=HB2.out.size; omega)
       clear S32 HB2
       clear hbox hbb hg_g6))
  go_upto_region 2 with (
    go_at_call 51
    (with_reducible refine (virgationref03_begins.calls tx a (⟨#[36]⟩:ByteArray) true w3 H1.out).mono ?_)
    rintro e9 w4 ⟨rfl,hd9⟩
    have HB4:=Az.mk (bst HB3.out hd9.below)
    have S64:=Az.mk (bkB S6.out hd9.below)
    clear hd9
    skip)
  go_upto_region 3 with (
    go_at_call 62
    (with_reducible refine (virgationref03_number.calls K tx b n a2 true w4 H3.out).mono ?_)
    rintro e9 w5 ⟨rfl,hd9⟩
    have HB5:=Az.mk (bst HB4.out hd9.below)
    have S65:=Az.mk (bkB S64.out hd9.below)
    clear hd9
    skip)
  have z0:w5.cell? ⟨g6,0,none⟩=some (.int .i64 0):=(blk_cell S65.out 0).trans rfl
  have z1:w5.cell? ⟨g6,1,none⟩=some (.int .i64 0):=(blk_cell S65.out 1).trans rfl
  have z2:w5.cell? ⟨g6,2,none⟩=some (.slice none 0 0):=(blk_cell S65.out 2).trans rfl
  have f0:=bkF S65.out 0
  have f1:=bkF S65.out 1
  have f2:=bkF S65.out 2
  go_wp2_with fail
  refine bodyPost_ret (results_ctt rfl _ _ g6 36 #[.int .i64 0,.int .i64 n,.slice none 0 0] (0,0) _ rfl (blk_set3 S65.out _ _ _) Try.underlying36 rfl (by kernel_rfl)) rfl ?_
  exact ⟨rfl,below_set3 HB5.out HG6.out _ _ _⟩
set_option maxHeartbeats 8000000 in
theorem head_sym (K:Nat) (tx:ByteArray) (A0:Option Addr) (c0:Nat) (sy:List S84) (A1:Option Addr) (c1:Nat) (fu:List S41) (a b a2:Int) (n:Nat) (w:World) (hr0:Kd.C k84 w A0 sy.length sy) (hr1:Kd.C k41 w A1 fu.length fu) (h1:virgationref03_begins.f tx a (⟨#[36]⟩:ByteArray)=some false) (h2:virgationref03_begins.f tx a (⟨#[35]⟩:ByteArray)=some true) (h3:wrap64 (a+1)=b) (h4:virgationref03_word.f K tx b=some a2) (h5:0≤b∧b≤a2∧a2≤(tx.size:Int)) (hn:n < sy.length) (hne:∀ j:Nat,j < n→((rd_T84 sy (j:Int)).f0.toList == (tx.extract b.toNat a2.toNat).toList)=false) (heq:((rd_T84 sy (n:Int)).f0.toList == (tx.extract b.toNat a2.toNat).toList)=true) :
    Calls Try.prog 64 #[.agg #[.slice A0 sy.length c0,.slice A1 fu.length c1],.string tx,.int .i64 a] w fun e w'=>e=.returned (.tuple #[.agg #[.int .i64 2,.int .i64 (n:Int),.slice none 0 0],.int .i64 a2,.bool true])∧Below w.heap.size w w':=by
  have hu25:=Try.underlying25
  have hu36:=Try.underlying36
  have H1:=Az.mk h1
  have H2:=Az.mk h2
  have H4:=Az.mk h4
  have h3w:IntKind.i64.wrap (a+1)=b:=(i64_w _).trans h3
  have HIX:=Az.mk (fun (w':World) (hb:Below w.heap.size w w')=>index_sym A0 c0 sy A1 c1 fu (tx.extract b.toNat a2.toNat) n w' (Kd.C_below hr0 hb) (Kd.C_below hr1 hb) hn hne heq)
  obtain ⟨g1,g2,g3⟩:=h5
  have v0:((n:Int) ≥ 0)=True:=eq_true (by omega)
  have v1:(0≤(n:Int))=True:=eq_true (by omega)
  have v2:((n:Int) < 0)=False:=eq_false (by omega)
  clear hr0 hr1 h1 h2 h4 hn hne heq
  go_enter Try.func64,Try.ntmps64
  go_upto_region 1 with (first
    | ((with_reducible refine gate_dst (N:=3) rfl ?_)
       refine box_event ?hg (N:=3) ?hd (cs:=#[.slice A0 sy.length c0,.slice A1 fu.length c1]) (t:=25) ?hr ?_
       (case hd=>rfl)
       (case hg=>rfl)
       (case hr=>first | (go_simp; done) | (go_simp; rfl))
       intro gs hg_gs w2 hbox hbb
       have S32:=Az.mk hbox
       have HB2:=Az.mk hbb
       clear hbox hbb hg_gs)
    | ((with_reducible refine gate_dst (N:=6) rfl ?_)
       refine box_event ?hg (N:=6) ?hd (cs:=#[.int .i64 0,.int .i64 0,.slice none 0 0]) (t:=36) ?hr ?_
       (case hd=>rfl)
       (case hg=>rfl)
       (case hr=>first | (go_simp; done) | (go_simp; rfl))
       intro g6 hg_g6 w3 hbox hbb
       have S3:=Az.mk (bkB S32.out hbb)
       have S6:=Az.mk hbox
       have HB3:=Az.mk (bst HB2.out hbb)
       have HG6:=Az.mk (show w.heap.size≤g6 from by have:=HB2.out.size; omega)
       clear S32 HB2
       clear hbox hbb hg_g6))
  go_upto_region 4 with (
    go_at_call 51
    (with_reducible refine (virgationref03_begins.calls tx a (⟨#[36]⟩:ByteArray) false w3 H1.out).mono ?_)
    rintro e9 w4 ⟨rfl,hd9⟩
    have HB4:=Az.mk (bst HB3.out hd9.below)
    have S34:=Az.mk (bkB S3.out hd9.below)
    have S64:=Az.mk (bkB S6.out hd9.below)
    clear hd9
    skip)
  go_upto_region 9 with (
    go_at_call 51
    (with_reducible refine (virgationref03_begins.calls tx a (⟨#[35]⟩:ByteArray) true w4 H2.out).mono ?_)
    rintro e9 w5 ⟨rfl,hd9⟩
    have HB5:=Az.mk (bst HB4.out hd9.below)
    have S35:=Az.mk (bkB S34.out hd9.below)
    have S65:=Az.mk (bkB S64.out hd9.below)
    clear hd9
    skip)
  go_upto_region 10 with (
    go_at_call 61
    (with_reducible refine (virgationref03_word.calls K tx b a2 w5 H4.out).mono ?_)
    rintro e9 w6 ⟨rfl,hd9⟩
    have HB6:=Az.mk (bst HB5.out hd9.below)
    have S36:=Az.mk (bkB S35.out hd9.below)
    have S66:=Az.mk (bkB S65.out hd9.below)
    clear hd9
    skip)
  have q0:=eq_true g1
  have q1:decide (0≤b)=true:=decide_eq_true g1
  have q2:=eq_true g2
  have q3:decide (b≤a2)=true:=decide_eq_true g2
  have q4:=eq_true g3
  have q5:decide (a2≤(tx.size:Int))=true:=decide_eq_true g3
  have e0:w6.cell? ⟨gs,0,none⟩=some (.slice A0 sy.length c0):=(blk_cell S36.out 0).trans rfl
  have e1:w6.cell? ⟨gs,1,none⟩=some (.slice A1 fu.length c1):=(blk_cell S36.out 1).trans rfl
  go_region_held3 (fun w'=>w'.cell? ⟨gs,0,none⟩=some (.slice A0 sy.length c0)∧w'.cell? ⟨gs,1,none⟩=some (.slice A1 fu.length c1)) (go_keep)
    (first
      | (go_at_call 72
         (with_reducible refine (HIX.out w6.drew (below_drew HB6.out)).mono ?_)
         rintro e9 wA ⟨rfl,hbA⟩
         have HBA:=Az.mk (bst (below_drew HB6.out) hbA)
         have S6A:=Az.mk (bkB (blk_drew S66.out) hbA)
         have p0:=cell_up hbA (show w6.drew.cell? _=_ from e0)
         have p1:=cell_up hbA (show w6.drew.cell? _=_ from e1)
         clear hbA))
  all_goals (
    clear e0 e1 p0 p1
    have z0:wA.cell? ⟨g6,0,none⟩=some (.int .i64 0):=(blk_cell S6A.out 0).trans rfl
    have z1:wA.cell? ⟨g6,1,none⟩=some (.int .i64 0):=(blk_cell S6A.out 1).trans rfl
    have z2:wA.cell? ⟨g6,2,none⟩=some (.slice none 0 0):=(blk_cell S6A.out 2).trans rfl
    have f0:=bkF S6A.out 0
    have f1:=bkF S6A.out 1
    have f2:=bkF S6A.out 2
    go_wp2_with fail
    refine bodyPost_ret (results_ctt rfl _ _ g6 36 #[.int .i64 2,.int .i64 (n:Int),.slice none 0 0] (0,0) _ rfl (blk_set3 S6A.out _ _ _) Try.underlying36 rfl (by kernel_rfl)) rfl ?_
    exact ⟨rfl,below_set3 HBA.out HG6.out _ _ _⟩)
set_option maxHeartbeats 8000000 in
theorem head_fun (K:Nat) (tx:ByteArray) (A0:Option Addr) (c0:Nat) (sy:List S84) (A1:Option Addr) (c1:Nat) (fu:List S41) (a b a2:Int) (n:Nat) (w:World) (hr0:Kd.C k84 w A0 sy.length sy) (hr1:Kd.C k41 w A1 fu.length fu) (h1:virgationref03_begins.f tx a (⟨#[36]⟩:ByteArray)=some false) (h2:virgationref03_begins.f tx a (⟨#[35]⟩:ByteArray)=some false) (h3:a=b) (h4:virgationref03_word.f K tx b=some a2) (h5:0≤b∧b≤a2∧a2≤(tx.size:Int)) (hn:n < fu.length) (hne:∀ j:Nat,j < n→((rd_T41 fu (j:Int)).f0.toList == (tx.extract b.toNat a2.toNat).toList)=false) (heq:((rd_T41 fu (n:Int)).f0.toList == (tx.extract b.toNat a2.toNat).toList)=true) :
    Calls Try.prog 64 #[.agg #[.slice A0 sy.length c0,.slice A1 fu.length c1],.string tx,.int .i64 a] w fun e w'=>e=.returned (.tuple #[.agg #[.int .i64 1,.int .i64 (n:Int),.slice none 0 0],.int .i64 a2,.bool true])∧Below w.heap.size w w':=by
  have hu25:=Try.underlying25
  have hu36:=Try.underlying36
  have H1:=Az.mk h1
  have H2:=Az.mk h2
  have H4:=Az.mk h4
  have HIX:=Az.mk (fun (w':World) (hb:Below w.heap.size w w')=>index_fun A0 c0 sy A1 c1 fu (tx.extract b.toNat a2.toNat) n w' (Kd.C_below hr0 hb) (Kd.C_below hr1 hb) hn hne heq)
  subst h3
  obtain ⟨g1,g2,g3⟩:=h5
  have v0:((n:Int) ≥ 0)=True:=eq_true (by omega)
  have v1:(0≤(n:Int))=True:=eq_true (by omega)
  have v2:((n:Int) < 0)=False:=eq_false (by omega)
  clear hr0 hr1 h1 h2 h4 hn hne heq
  go_enter Try.func64,Try.ntmps64
  go_upto_region 1 with (first
    | ((with_reducible refine gate_dst (N:=3) rfl ?_)
       refine box_event ?hg (N:=3) ?hd (cs:=#[.slice A0 sy.length c0,.slice A1 fu.length c1]) (t:=25) ?hr ?_
       (case hd=>rfl)
       (case hg=>rfl)
       (case hr=>first | (go_simp; done) | (go_simp; rfl))
       intro gs hg_gs w2 hbox hbb
       have S32:=Az.mk hbox
       have HB2:=Az.mk hbb
       clear hbox hbb hg_gs)
    | ((with_reducible refine gate_dst (N:=6) rfl ?_)
       refine box_event ?hg (N:=6) ?hd (cs:=#[.int .i64 0,.int .i64 0,.slice none 0 0]) (t:=36) ?hr ?_
       (case hd=>rfl)
       (case hg=>rfl)
       (case hr=>first | (go_simp; done) | (go_simp; rfl))
       intro g6 hg_g6 w3 hbox hbb
       have S3:=Az.mk (bkB S32.out hbb)
       have S6:=Az.mk hbox
       have HB3:=Az.mk (bst HB2.out hbb)
       have HG6:=Az.mk (show w.heap.size≤g6 from by have:=HB2.out.size; omega)
       clear S32 HB2
       clear hbox hbb hg_g6))
  go_upto_region 4 with (
    go_at_call 51
    (with_reducible refine (virgationref03_begins.calls tx a (⟨#[36]⟩:ByteArray) false w3 H1.out).mono ?_)
    rintro e9 w4 ⟨rfl,hd9⟩
    have HB4:=Az.mk (bst HB3.out hd9.below)
    have S34:=Az.mk (bkB S3.out hd9.below)
    have S64:=Az.mk (bkB S6.out hd9.below)
    clear hd9
    skip)
  go_upto_region 9 with (
    go_at_call 51
    (with_reducible refine (virgationref03_begins.calls tx a (⟨#[35]⟩:ByteArray) false w4 H2.out).mono ?_)
    rintro e9 w5 ⟨rfl,hd9⟩
    have HB5:=Az.mk (bst HB4.out hd9.below)
    have S35:=Az.mk (bkB S34.out hd9.below)
    have S65:=Az.mk (bkB S64.out hd9.below)
    clear hd9
    skip)
  go_upto_region 10 with (
    go_at_call 61
    (with_reducible refine (virgationref03_word.calls K tx a a2 w5 H4.out).mono ?_)
    rintro e9 w6 ⟨rfl,hd9⟩
    have HB6:=Az.mk (bst HB5.out hd9.below)
    have S36:=Az.mk (bkB S35.out hd9.below)
    have S66:=Az.mk (bkB S65.out hd9.below)
    clear hd9
    skip)
  have q0:=eq_true g1
  have q1:decide (0≤a)=true:=decide_eq_true g1
  have q2:=eq_true g2
  have q3:decide (a≤a2)=true:=decide_eq_true g2
  have q4:=eq_true g3
  have q5:decide (a2≤(tx.size:Int))=true:=decide_eq_true g3
  have e0:w6.cell? ⟨gs,0,none⟩=some (.slice A0 sy.length c0):=(blk_cell S36.out 0).trans rfl
  have e1:w6.cell? ⟨gs,1,none⟩=some (.slice A1 fu.length c1):=(blk_cell S36.out 1).trans rfl
  go_region_held3 (fun w'=>w'.cell? ⟨gs,0,none⟩=some (.slice A0 sy.length c0)∧w'.cell? ⟨gs,1,none⟩=some (.slice A1 fu.length c1)) (go_keep)
    (first
      | (go_at_call 72
         (with_reducible refine (HIX.out w6.drew (below_drew HB6.out)).mono ?_)
         rintro e9 wA ⟨rfl,hbA⟩
         have HBA:=Az.mk (bst (below_drew HB6.out) hbA)
         have S6A:=Az.mk (bkB (blk_drew S66.out) hbA)
         have p0:=cell_up hbA (show w6.drew.cell? _=_ from e0)
         have p1:=cell_up hbA (show w6.drew.cell? _=_ from e1)
         clear hbA))
  all_goals (
    clear e0 e1 p0 p1
    have z0:wA.cell? ⟨g6,0,none⟩=some (.int .i64 0):=(blk_cell S6A.out 0).trans rfl
    have z1:wA.cell? ⟨g6,1,none⟩=some (.int .i64 0):=(blk_cell S6A.out 1).trans rfl
    have z2:wA.cell? ⟨g6,2,none⟩=some (.slice none 0 0):=(blk_cell S6A.out 2).trans rfl
    have f0:=bkF S6A.out 0
    have f1:=bkF S6A.out 1
    have f2:=bkF S6A.out 2
    go_wp2_with fail
    refine bodyPost_ret (results_ctt rfl _ _ g6 36 #[.int .i64 1,.int .i64 (n:Int),.slice none 0 0] (0,0) _ rfl (blk_set3 S6A.out _ _ _) Try.underlying36 rfl (by kernel_rfl)) rfl ?_
    exact ⟨rfl,below_set3 HBA.out HG6.out _ _ _⟩)
end Go.Proofs.Ytkgknidogelffaa.I
