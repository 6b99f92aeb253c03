/- Texts of this session's proof, laid together: IQ1, IQ2, IQ3, IQ4, IP5, IM3, IM4, IZ0, IM1, IM5, IM6, IM7, IM9, IMa, IMb, IM8, IMc. -/
import Derived.Deep.RegionLaw
import Derived.Deep.RegionHeld3
import Derived.Deep.QuietTactic
import Derived.BigQuiet
import Derived.Lib.SliceRun
import Derived.Test.YtkgknidogelffaaS2
namespace Go.Proofs.Ytkgknidogelffaa.I
open Go.RowKit Go.Proofs.YtkgknidogelffaaW.PrintWords Go.Proofs.YtkgknidogelffaaW.PrintLast Go.Proofs.YtkgknidogelffaaW.PrintMore
attribute [local go_sem] max2_int min2_int max_two min_two max_three min_three max_four min_four
set_option linter.unusedVariables false
set_option maxRecDepth 100000
set_option linter.unusedSimpArgs false
set_option maxHeartbeats 8000000 in
theorem phead_calls (P:Nat→Prop) (A0:Option Addr) (c0:Nat) (l0:List S84) (A1:Option Addr) (c1:Nat) (l1:List S39) (A2:Option Addr) (c2:Nat) (l2:List S39) (k n:Int) (u:Value) (w:World) (hu:u.oneCell'=true)
    (hr0:Kd.C k84 w A0 l0.length l0) (h1:Kd.V k39 39 w w.heap.size P (.slice A1 l1.length c1) l1) (h2:Kd.V k39 39 w w.heap.size P (.slice A2 l2.length c2) l2) (hrk:∀ x ∈ l0,0≤x.f1∧x.f1≤1000000) :
    Calls Try.prog 74 #[.agg #[.slice A0 l0.length c0,.slice A1 l1.length c1,.slice A2 l2.length c2],.agg #[.int .i64 k,.int .i64 n,u]] w fun e w'=>∃ v,e=.returned (.tuple #[.agg #[v],.bool (hdF l0 l1 l2 k n).isSome])∧Kd.V k39 39 w' w.heap.size (fun q=>P q∨w.heap.size≤q) v ((hdF l0 l1 l2 k n).getD [])∧Below w.heap.size w w':=by
  have hu124:=Try.underlying124
  have hu36:=Try.underlying36
  have hu39:=Try.underlying39
  have hu84:=Try.underlying84
  have HR0:=Az.mk hr0
  have H1:=Az.mk (Kd.V_bound h1)
  have H2:=Az.mk (Kd.V_bound h2)
  have HK:=Az.mk hrk
  clear hr0 h1 h2 hrk
  go_enter Try.func74,Try.ntmps74
  go_wp2_with (first
   | ((with_reducible refine gate_dst (N:=2) rfl ?_)
      refine box_event ?hg (N:=2) ?hd (cs:=#[.slice A0 l0.length c0,.slice A1 l1.length c1,.slice A2 l2.length c2]) (t:=124) ?hr ?_
      (case hd=>rfl)
      (case hg=>rfl)
      (case hr=>first | (go_simp; done) | (go_simp; rfl))
      intro g2 hg2 w2 hbox hb2
      have S22:=Az.mk hbox
      have HB2:=Az.mk hb2
      have hw2:w.heap.size≤g2:=by omega
      clear hbox hb2 hg2)
   | ((with_reducible refine gate_dst (N:=3) rfl ?_)
      refine box_event ?hg (N:=3) ?hd (cs:=#[.int .i64 k,.int .i64 n,u]) (t:=36) ?hr ?_
      (case hd=>rfl)
      (case hg=>rfl)
      (case hr=>first | (go_simp; done) | (go_simp; rfl))
      intro g3 hg3 w3 hbox hb3
      have hn32:g3≠g2:=by have:=blk_lt S22.out; omega
      have hw3:w.heap.size≤g3:=by have:=HB2.out.size; omega
      have S23:=Az.mk (bkB S22.out hb3)
      have S33:=Az.mk hbox
      have HB3:=Az.mk (bst HB2.out hb3)
      clear hbox hb3 hg3 S22 HB2)
   | ((with_reducible refine gate_dst (N:=4) rfl ?_)
      refine box_event ?hg (N:=4) ?hd (cs:=#[.slice none 0 0]) (t:=39) ?hr ?_
      (case hd=>rfl)
      (case hg=>rfl)
      (case hr=>first | (go_simp; done) | (go_simp; rfl))
      intro g4 hg4 w4 hbox hb4
      have hn42:g4≠g2:=by have:=blk_lt S23.out; omega
      have hn43:g4≠g3:=by have:=blk_lt S33.out; omega
      have hw4:w.heap.size≤g4:=by have:=HB3.out.size; omega
      have S24:=Az.mk (bkB S23.out hb4)
      have S34:=Az.mk (bkB S33.out hb4)
      have S44:=Az.mk hbox
      have HB4:=Az.mk (bst HB3.out hb4)
      have hlt4:g4 < w4.heap.size:=blk_lt hbox
      clear hbox hb4 hg4 S23 S33 HB3
      refine holdX ?_))
  unfold HoldX
  have HR4:=Az.mk (Kd.C_below HR0.out HB4.out)
  have V1:=Az.mk (Kd.V_below H1.out HB4.out)
  have V2:=Az.mk (Kd.V_below H2.out HB4.out)
  have a0:w4.cell? ⟨g2,0,none⟩=some (.slice A0 l0.length c0):=(blk_cell S24.out 0).trans rfl
  have a1:w4.cell? ⟨g2,1,none⟩=some (.slice A1 l1.length c1):=(blk_cell S24.out 1).trans rfl
  have a2:w4.cell? ⟨g2,2,none⟩=some (.slice A2 l2.length c2):=(blk_cell S24.out 2).trans rfl
  have b0:w4.cell? ⟨g3,0,none⟩=some (.int .i64 k):=(blk_cell S34.out 0).trans rfl
  have b1:w4.cell? ⟨g3,1,none⟩=some (.int .i64 n):=(blk_cell S34.out 1).trans rfl
  have d0:w4.cell? ⟨g4,0,none⟩=some (.slice none 0 0):=(blk_cell S44.out 0).trans rfl
  have df:=bkF S44.out 0
  have fin:∀ (v:Value) (l:List S39) (wq:World),Below w.heap.size w wq→wq.heap[g4]?=some (.cells #[.slice none 0 0] 39 (0,0))→Kd.V k39 39 wq w.heap.size (fun q=>(P q∨w.heap.size≤q)∧q≠g4) v l→Kd.V k39 39 (wq.setCell ⟨g4,0,none⟩ v) w.heap.size (fun q=>P q∨w.heap.size≤q) v l∧Below w.heap.size w (wq.setCell ⟨g4,0,none⟩ v):=fun v l wq hb hc hv=>⟨Kd.V_mono (Kd.V_far (p:=⟨g4,0,none⟩) hv (fun _ hk=>hk.2) v) (fun _ hk=>hk.1),bset (g:=g4) (j:=0) hb hw4⟩
  have nilV:Kd.V k39 39 w4 w.heap.size (fun q=>(P q∨w.heap.size≤q)∧q≠g4) (.slice none 0 0) ([]:List S39):=Kd.V_nil _ _ _ _ _
  by_cases q1:n < 0
  · have b:decide (n < 0)=true:=decide_eq_true q1
    have e:hdF l0 l1 l2 k n=none:=by unfold hdF; rw [if_pos q1]
    go_wp2_with fail
    refine bodyPost_ret (results_ct rfl _ _ g4 39 #[.slice none 0 0] (0,0) _ rfl (blk_put (cs':=#[.slice none 0 0]) S44.out 0 _ rfl) Try.underlying39 rfl (by kernel_rfl)) rfl ?_
    try rw [e]
    exact ⟨_,rfl,fin _ _ _ HB4.out S44.out nilV⟩
  have bn:decide (n < 0)=false:=decide_eq_false q1
  have pn:(0≤n)=True:=eq_true (by omega)
  by_cases q2:k=0
  · subst q2
    by_cases q3:n < (l2.length:Int)
    · have b:decide (n < (l2.length:Int))=true:=decide_eq_true q3
      have p3:=eq_true q3
      have e:hdF l0 l1 l2 0 n=some (rd_T39 l2 n).f0:=by unfold hdF; rw [if_neg q1,if_pos rfl,if_pos q3]
      obtain ⟨ad,A',c',rfl,hx,hv⟩:=V_at41 V2.out (by omega) q3
      have HV:=Az.mk hv
      clear hv
      go_wp2_with fail
      refine bodyPost_ret (results_ct rfl _ _ g4 39 #[.slice A' (rd_T39 l2 n).f0.length c'] (0,0) _ rfl (blk_put (cs':=#[.slice A' (rd_T39 l2 n).f0.length c']) S44.out 0 _ rfl) Try.underlying39 rfl (by kernel_rfl)) rfl ?_
      try rw [e]
      exact ⟨_,rfl,fin _ _ _ HB4.out S44.out (Kd.V_mono HV.out (fun q hq=>⟨.inl hq.1,by omega⟩))⟩
    · have b:decide (n < (l2.length:Int))=false:=decide_eq_false q3
      have e:hdF l0 l1 l2 0 n=none:=by unfold hdF; rw [if_neg q1,if_pos rfl,if_neg q3]
      go_wp2_with fail
      refine bodyPost_ret (results_ct rfl _ _ g4 39 #[.slice none 0 0] (0,0) _ rfl (blk_put (cs':=#[.slice none 0 0]) S44.out 0 _ rfl) Try.underlying39 rfl (by kernel_rfl)) rfl ?_
      try rw [e]
      exact ⟨_,rfl,fin _ _ _ HB4.out S44.out nilV⟩
  have bk:(k == 0)=false:=beq_eq_false_iff_ne.2 q2
  by_cases q4:k=1
  · subst q4
    clear bk
    by_cases q3:n < (l1.length:Int)
    · have b:decide (n < (l1.length:Int))=true:=decide_eq_true q3
      have p3:=eq_true q3
      have e:hdF l0 l1 l2 1 n=some (rd_T39 l1 n).f0:=by unfold hdF; rw [if_neg q1,if_neg q2,if_pos rfl,if_pos q3]
      obtain ⟨ad,A',c',rfl,hx,hv⟩:=V_at41 V1.out (by omega) q3
      have HV:=Az.mk hv
      clear hv
      go_wp2_with fail
      refine bodyPost_ret (results_ct rfl _ _ g4 39 #[.slice A' (rd_T39 l1 n).f0.length c'] (0,0) _ rfl (blk_put (cs':=#[.slice A' (rd_T39 l1 n).f0.length c']) S44.out 0 _ rfl) Try.underlying39 rfl (by kernel_rfl)) rfl ?_
      try rw [e]
      exact ⟨_,rfl,fin _ _ _ HB4.out S44.out (Kd.V_mono HV.out (fun q hq=>⟨.inl hq.1,by omega⟩))⟩
    · have b:decide (n < (l1.length:Int))=false:=decide_eq_false q3
      have e:hdF l0 l1 l2 1 n=none:=by unfold hdF; rw [if_neg q1,if_neg q2,if_pos rfl,if_neg q3]
      go_wp2_with fail
      refine bodyPost_ret (results_ct rfl _ _ g4 39 #[.slice none 0 0] (0,0) _ rfl (blk_put (cs':=#[.slice none 0 0]) S44.out 0 _ rfl) Try.underlying39 rfl (by kernel_rfl)) rfl ?_
      try rw [e]
      exact ⟨_,rfl,fin _ _ _ HB4.out S44.out nilV⟩
  have bk1:(k == 1)=false:=beq_eq_false_iff_ne.2 q4
  by_cases q5:k=2
  · subst q5
    clear bk bk1
    by_cases q3:n < (l0.length:Int)
    · have b:decide (n < (l0.length:Int))=true:=decide_eq_true q3
      have p3:=eq_true q3
      have e:hdF l0 l1 l2 2 n=some (List.replicate (rd_T84 l0 n).f1.toNat z39):=by unfold hdF; rw [if_neg q1,if_neg q2,if_neg q4,if_pos rfl,if_pos q3]
      obtain ⟨ad,rfl,hx0,hx1⟩:=at_T84 HR4.out n (by omega) q3
      have hm:rd_T84 l0 n ∈ l0:=by
        unfold rd_T84
        rw [List.getD_eq_getElem?_getD,List.getElem?_eq_getElem (by omega:n.toNat < l0.length)]
        exact List.getElem_mem _
      obtain ⟨r0,r1⟩:=HK.out _ hm
      obtain ⟨m,hm⟩:∃ m:Nat,(rd_T84 l0 n).f1=(m:Int):=⟨(rd_T84 l0 n).f1.toNat,by omega⟩
      rw [hm] at hx1
      rw [hm,Int.toNat_natCast] at e
      obtain ⟨ob,hrun,hrow⟩:=make_sorts m (by omega)
      have HRow:=Az.mk hrow
      clear hrow
      go_wp2_with fail
      obtain ⟨x,hx⟩:∃ x:Value,x=.slice (some ⟨w4.heap.size,0,none⟩) m m:=⟨_,rfl⟩
      have hs:(w4.setCell ⟨g4,0,none⟩ x).heap.size=w4.heap.size:=World.size_setCell _ _ _
      have hrow:=HRow.out (w4.setCell ⟨g4,0,none⟩ x) w.heap.size (by rw [hs]; exact HB4.out.size)
      rw [hs,← hx] at hrow
      rw [← hx]
      refine bodyPost_ret (results_ct rfl _ _ g4 39 #[x] (0,0) _ rfl (bkA (blk_put (cs':=#[x]) S44.out 0 _ rfl) _) Try.underlying39 rfl (by kernel_rfl)) rfl ?_
      try rw [e]
      exact ⟨_,rfl,Kd.V_mono (Kd.R_V hrow) (fun q hq=>.inr (by have:=HB4.out.size; omega)),bal (bset (g:=g4) (j:=0) HB4.out hw4) _⟩
    · have b:decide (n < (l0.length:Int))=false:=decide_eq_false q3
      have e:hdF l0 l1 l2 2 n=none:=by unfold hdF; rw [if_neg q1,if_neg q2,if_neg q4,if_pos rfl,if_neg q3]
      go_wp2_with fail
      refine bodyPost_ret (results_ct rfl _ _ g4 39 #[.slice none 0 0] (0,0) _ rfl (blk_put (cs':=#[.slice none 0 0]) S44.out 0 _ rfl) Try.underlying39 rfl (by kernel_rfl)) rfl ?_
      try rw [e]
      exact ⟨_,rfl,fin _ _ _ HB4.out S44.out nilV⟩
  have bk2:(k == 2)=false:=beq_eq_false_iff_ne.2 q5
  have e:hdF l0 l1 l2 k n=none:=by unfold hdF; rw [if_neg q1,if_neg q2,if_neg q4,if_neg q5]
  go_wp2_with fail
  refine bodyPost_ret (results_ct rfl _ _ g4 39 #[.slice none 0 0] (0,0) _ rfl (blk_put (cs':=#[.slice none 0 0]) S44.out 0 _ rfl) Try.underlying39 rfl (by kernel_rfl)) rfl ?_
  try rw [e]
  exact ⟨_,rfl,fin _ _ _ HB4.out S44.out nilV⟩
end Go.Proofs.Ytkgknidogelffaa.I
namespace Go.Proofs.Ytkgknidogelffaa.I
open Go.RowKit Go.Proofs.YtkgknidogelffaaW.PrintWords Go.Proofs.YtkgknidogelffaaW.PrintLast Go.Proofs.YtkgknidogelffaaW.PrintMore
attribute [local go_sem] max2_int min2_int max_two min_two max_three min_three max_four min_four
set_option linter.unusedVariables false
set_option maxRecDepth 100000
set_option linter.unusedSimpArgs false
mutual
theorem eqS_eq:∀ x y:S39,eqS x y=true→x=y
  | ⟨l⟩,⟨m⟩,h=>by
    unfold eqS at h
    rw [eqL_eq l m h]
theorem eqL_eq:∀ l m:List S39,eqL l m=true→l=m
  | [],[],_=>rfl
  | [],_ :: _,h=>by simp [eqL] at h
  | _ :: _,[],h=>by simp [eqL] at h
  | x :: xs,y :: ys,h=>by
    unfold eqL at h
    rw [Bool.and_eq_true] at h
    rw [eqS_eq x y h.1,eqL_eq xs ys h.2]
end
theorem size_small {l:List S39} (h:cntL l≤59):∃ d,sorts_Size.f l=some (1+cntL l,d):=by
  refine ⟨1+depL l,?_⟩
  rw [size_eq,if_pos (by omega)]
theorem size_any (l:List S39):∃ n d,sorts_Size.f l=some (n,d):=⟨_,_,rfl⟩
theorem ssame_calls {l m:List S39} (hl:cntL l≤59) {w:World} {A:Option Addr} {c:Nat} {A':Option Addr} {c':Nat} (hr:Kd.C k39 w A l.length l) (hc:l.length≤c) (hr':Kd.C k39 w A' m.length m) (hc':m.length≤c') :
    Calls Try.prog 75 #[.agg #[.slice A l.length c],.agg #[.slice A' m.length c']] w fun e w'=>e=.returned (.bool (eqL l m))∧Below w.heap.size w w':=by
  have hu39:=Try.underlying39
  obtain ⟨d1,e1⟩:=size_small hl
  obtain ⟨n2,d2,e2⟩:=size_any m
  obtain ⟨n1,hn1⟩:∃ n1,n1=1+cntL l:=⟨_,rfl⟩
  rw [← hn1] at e1
  obtain ⟨r,hr0⟩:∃ r,r=eqL l m:=⟨_,rfl⟩
  rw [← hr0]
  have hz:¬ n1=n2→r=false:=fun hne=>by
    rw [hr0]
    cases h:eqL l m with
    | false=>rfl
    | true =>
      have:=eqL_eq l m h
      subst this
      rw [e1] at e2
      injection e2 with e2
      injection e2 with e2
      exact absurd e2 hne
  have HR:=Az.mk hr
  have HC:=Az.mk hc
  have HR':=Az.mk hr'
  have HC':=Az.mk hc'
  have H0:=Az.mk hr0
  have HZ:=Az.mk hz
  have E1:=Az.mk e1
  have E2:=Az.mk e2
  have q1:(n1≤60)=True:=eq_true (by omega)
  clear hr hc hr' hc' hl hr0 hz e1 e2 hn1
  go_enter Try.func75,Try.ntmps75
  go_wp2_with (first
    | ((with_reducible refine gate_dst (N:=2) rfl ?_)
       refine box_event ?hg (N:=2) ?hd (cs:=#[.slice A l.length c]) (t:=39) ?hr ?_
       (case hd=>rfl)
       (case hg=>rfl)
       (case hr=>first | (go_simp; done) | (go_simp; rfl))
       intro g2 hg2 w2 hbox hbb
       have S2:=Az.mk hbox
       have HB2:=Az.mk hbb
       clear hbox hbb hg2)
    | ((with_reducible refine gate_dst (N:=3) rfl ?_)
       refine box_event ?hg (N:=3) ?hd (cs:=#[.slice A' m.length c']) (t:=39) ?hr ?_
       (case hd=>rfl)
       (case hg=>rfl)
       (case hr=>first | (go_simp; done) | (go_simp; rfl))
       intro g3 hg3 w3 hbox hbb
       have S3:=Az.mk hbox
       have S23:=Az.mk (bkB S2.out hbb)
       have HB3:=Az.mk (bst HB2.out hbb)
       have a0:w3.cell? ⟨g2,0,none⟩=some (.slice A l.length c):=(blk_cell S23.out 0).trans rfl
       clear hbox hbb hg3))
  (with_reducible refine (sorts_Size.calls A c l n1 d1 _ (Kd.C_below HR.out HB3.out) HC.out E1.out).mono ?_)
  rintro e w4 ⟨rfl,hb4⟩
  have HB4:=Az.mk (bst HB3.out hb4)
  have S24:=Az.mk (bkB S23.out hb4)
  have S34:=Az.mk (bkB S3.out hb4)
  have b0:w4.cell? ⟨g3,0,none⟩=some (.slice A' m.length c'):=(blk_cell S34.out 0).trans rfl
  clear hb4 a0 S2 S3 S23 HB2 HB3
  go_wp2_with fail
  (with_reducible refine (sorts_Size.calls A' c' m n2 d2 _ (Kd.C_below HR'.out HB4.out) HC'.out E2.out).mono ?_)
  rintro e w5 ⟨rfl,hb5⟩
  have HB5:=Az.mk (bst HB4.out hb5)
  have a1:w5.cell? ⟨g2,0,none⟩=some (.slice A l.length c):=(blk_cell (bkB S24.out hb5) 0).trans rfl
  have b1:w5.cell? ⟨g3,0,none⟩=some (.slice A' m.length c'):=(blk_cell (bkB S34.out hb5) 0).trans rfl
  clear hb5 b0 HB4 S24 S34
  by_cases hne:n1=n2
  rotate_left
  · have hf:=HZ.out hne
    have b2:(n1 == n2)=false:=beq_eq_false_iff_ne.2 hne
    have b3:(n1=n2)=False:=eq_false hne
    subst hf
    clear hne HZ H0
    go_wp2_with fail
    go_ret
    exact ⟨rfl,HB5.out⟩
  subst hne
  go_wp2_with fail
  (with_reducible refine (seq86 _ l m A A' c c' w5 (Nat.lt_succ_self _) (Kd.C_below HR.out HB5.out) HC.out (Kd.C_below HR'.out HB5.out) HC'.out).mono ?_)
  rintro e w6 ⟨rfl,hb6⟩
  have HB6:=Az.mk (bst HB5.out hb6)
  rw [← H0.out]
  clear hb6 a1 b1 H0 HZ
  cases r with
  | false =>
    go_wp2_with fail
    go_ret
    exact ⟨rfl,HB6.out⟩
  | true =>
    go_wp2_with fail
    go_ret
    exact ⟨rfl,HB6.out⟩
set_option maxHeartbeats 16000000 in
theorem psort_calls (P:Nat→Prop) (A0:Option Addr) (c0:Nat) (l0:List S84) (A1:Option Addr) (c1:Nat) (l1:List S39) (A2:Option Addr) (c2:Nat) (l2:List S39) (hsm:SmallP l0 l1 l2) (N:Nat):∀ (l:List S36),SizeOf.sizeOf l < N→∀ (k n:Int) (A3:Option Addr) (c3:Nat) (w:World),
    Kd.C k84 w A0 l0.length l0→Kd.V k39 39 w w.heap.size P (.slice A1 l1.length c1) l1→Kd.V k39 39 w w.heap.size P (.slice A2 l2.length c2) l2→Kd.C k36 w A3 l.length l→l.length≤c3 →
    Calls Try.prog 69 #[.agg #[.slice A0 l0.length c0,.slice A1 l1.length c1,.slice A2 l2.length c2],.agg #[.int .i64 k,.int .i64 n,.slice A3 l.length c3]] w fun e w'=>∃ v,e=.returned (.tuple #[.agg #[v],.bool (ofT l0 l1 l2 ⟨k,n,l⟩).isSome])∧Kd.V k39 39 w' w.heap.size (fun q=>P q∨w.heap.size≤q) v ((ofT l0 l1 l2 ⟨k,n,l⟩).getD [])∧Below w.heap.size w w':=by
  induction N with
  | zero=>intro l h; omega
  | succ N ih =>
  intro l hN k n A3 c3 w hr0 h1 h2 hr3 hc3
  have hu124:=Try.underlying124
  have hu36:=Try.underlying36
  have hu39:=Try.underlying39
  have hlen:l.length≤9223372036854775807:=hr3.2.1
  have HSM:=Az.mk hsm
  have HR0:=Az.mk hr0
  have H1:=Az.mk h1
  have H2:=Az.mk h2
  have HR3:=Az.mk hr3
  have HC3:=Az.mk hc3
  have IH:=Az.mk ih
  have HN:=Az.mk hN
  clear hr0 h1 h2 hr3 hc3 ih hN hsm
  obtain ⟨R,hR⟩:∃ R,R=hdF l0 l1 l2 k n:=⟨_,rfl⟩
  have HR:=Az.mk hR
  clear hR
  go_enter Try.func69,Try.ntmps69
  go_wp2_with (first
   | ((with_reducible refine gate_dst (N:=2) rfl ?_)
      refine box_event ?hg (N:=2) ?hd (cs:=#[.slice A0 l0.length c0,.slice A1 l1.length c1,.slice A2 l2.length c2]) (t:=124) ?hr ?_
      (case hd=>rfl)
      (case hg=>rfl)
      (case hr=>first | (go_simp; done) | (go_simp; rfl))
      intro g2 hg2 w2 hbox hb2
      have S22:=Az.mk hbox
      have HB2:=Az.mk hb2
      have hw2:w.heap.size≤g2:=by omega
      clear hbox hb2 hg2)
   | ((with_reducible refine gate_dst (N:=3) rfl ?_)
      refine box_event ?hg (N:=3) ?hd (cs:=#[.int .i64 k,.int .i64 n,.slice A3 l.length c3]) (t:=36) ?hr ?_
      (case hd=>rfl)
      (case hg=>rfl)
      (case hr=>first | (go_simp; done) | (go_simp; rfl))
      intro g3 hg3 w3 hbox hb3
      have S23:=Az.mk (bkB S22.out hb3)
      have S33:=Az.mk hbox
      have HB3:=Az.mk (bst HB2.out hb3)
      clear hbox hb3 hg3 S22 HB2)
   | ((with_reducible refine gate_dst (N:=4) rfl ?_)
      refine box_event ?hg (N:=4) ?hd (cs:=#[.slice none 0 0]) (t:=39) ?hr ?_
      (case hd=>rfl)
      (case hg=>rfl)
      (case hr=>first | (go_simp; done) | (go_simp; rfl))
      intro g4 hg4 w4 hbox hb4
      have hw4:w.heap.size≤g4:=by have:=HB3.out.size; omega
      have S24:=Az.mk (bkB S23.out hb4)
      have S34:=Az.mk (bkB S33.out hb4)
      have S44:=Az.mk hbox
      have HB4:=Az.mk (bst HB3.out hb4)
      have a0:w4.cell? ⟨g2,0,none⟩=some (.slice A0 l0.length c0):=(blk_cell S24.out 0).trans rfl
      have a1:w4.cell? ⟨g2,1,none⟩=some (.slice A1 l1.length c1):=(blk_cell S24.out 1).trans rfl
      have a2:w4.cell? ⟨g2,2,none⟩=some (.slice A2 l2.length c2):=(blk_cell S24.out 2).trans rfl
      have b0:w4.cell? ⟨g3,0,none⟩=some (.int .i64 k):=(blk_cell S34.out 0).trans rfl
      have b1:w4.cell? ⟨g3,1,none⟩=some (.int .i64 n):=(blk_cell S34.out 1).trans rfl
      have b2:w4.cell? ⟨g3,2,none⟩=some (.slice A3 l.length c3):=(blk_cell S34.out 2).trans rfl
      clear hbox hb4 hg4 S23 S33 HB3))
  have hc:=phead_calls (fun q=>P q∧q < w.heap.size) A0 c0 l0 A1 c1 l1 A2 c2 l2 k n (.slice A3 l.length c3) w4 rfl (Kd.C_below HR0.out HB4.out) (Kd.V_below (Kd.V_bound H1.out) HB4.out) (Kd.V_below (Kd.V_bound H2.out) HB4.out) (fun x hx=>by have:=HSM.out.1 x hx; omega)
  rw [← HR.out] at hc
  (with_reducible refine hc.mono ?_)
  clear hc
  rintro e w5 ⟨v,rfl,hv,hb5⟩
  have hw45:=HB4.out.size
  have hlt4:=blk_lt S44.out
  have HV5:=Az.mk (Kd.V_mono (ok':=fun q=>(P q∨w.heap.size≤q)∧q≠g4) hv (fun q hq=>by
    rcases hq with hq | hq
    · exact ⟨.inl hq.1,by omega⟩
    · exact ⟨.inr (by omega),by omega⟩))
  have S25:=Az.mk (bkB S24.out hb5)
  have S35:=Az.mk (bkB S34.out hb5)
  have S45:=Az.mk (bkB S44.out hb5)
  have HB5:=Az.mk (bst HB4.out hb5)
  clear hv hb5 a0 a1 a2 b0 b1 b2 S24 S34 S44 HB4 hlt4 hw45
  have fin:∀ (v:Value) (l:List S39) (wq:World),Below w.heap.size w wq→Kd.V k39 39 wq w.heap.size (fun q=>(P q∨w.heap.size≤q)∧q≠g4) v l→Kd.V k39 39 (wq.setCell ⟨g4,0,none⟩ v) w.heap.size (fun q=>P q∨w.heap.size≤q) v l∧Below w.heap.size w (wq.setCell ⟨g4,0,none⟩ v):=fun v l wq hb hv=>⟨Kd.V_mono (Kd.V_far (p:=⟨g4,0,none⟩) hv (fun _ hk=>hk.2) v) (fun _ hk=>hk.1),bset (g:=g4) (j:=0) hb hw4⟩
  have FIN:=Az.mk fin
  clear fin
  obtain ⟨As,cs,rfl⟩:=Kd.V_slice HV5.out
  obtain ⟨sl,hsl⟩:∃ sl,sl=(R.getD []).length:=⟨_,rfl⟩
  rw [← hsl] at HV5 ⊢
  have HSL:=Az.mk hsl
  clear hsl
  have hcase:R=none∨(∃ s,R=some s∧s.length < l.length)∨(∃ s,R=some s∧¬ s.length < l.length):=by
    cases R with
    | none=>exact .inl rfl
    | some s =>
      by_cases h:s.length < l.length
      · exact .inr (.inl ⟨s,rfl,h⟩)
      · exact .inr (.inr ⟨s,rfl,h⟩)
  have NE:=Az.mk (show R=none→ofT l0 l1 l2 ⟨k,n,l⟩=none from fun h=>by rw [ofT_eq]; show (match hdF l0 l1 l2 k n with | none=>none | some s=>_)=none; rw [← HR.out,h])
  have SE:=Az.mk (show ∀ s,R=some s→ofT l0 l1 l2 ⟨k,n,l⟩=if s.length < l.length then none else if ofL l0 l1 l2 l s=true then some (s.drop l.length) else none from fun s h=>by rw [ofT_eq]; show (match hdF l0 l1 l2 k n with | none=>none | some s=>_)=_; rw [← HR.out,h])
  rcases hcase with h | ⟨s,h,hl⟩ | ⟨s,h,hl⟩
  all_goals subst h
  case' inl=>have HE:=Az.mk (NE.out rfl)
  case' inr.inl =>
    have HE:=Az.mk ((SE.out s rfl).trans (if_pos hl))
    have b:(sl < l.length)=True:=eq_true (by have:sl=s.length:=HSL.out; omega)
  case' inr.inr=>have b:(sl < l.length)=False:=eq_false (by have:sl=s.length:=HSL.out; omega)
  all_goals go_wp2_with (
       (with_reducible refine gate_dst (N:=6) rfl ?_)
       refine box_event ?hg (N:=6) ?hd (cs:=#[.slice none 0 0]) (t:=39) ?hr ?_
       (case hd=>rfl)
       (case hg=>rfl)
       (case hr=>first | (go_simp; done) | (go_simp; rfl))
       intro g6 hg6 w6 hbox hb6
       have hw6:w.heap.size≤g6:=by have:=HB5.out.size; omega
       have S66:=Az.mk (blk_put (cs':=#[.slice As sl cs]) hbox 0 (.slice As sl cs) rfl)
       have hne2:g2≠g6:=by have:=blk_lt S25.out; omega
       have hne3:g3≠g6:=by have:=blk_lt S35.out; omega
       have hne4:g4≠g6:=by have:=blk_lt S45.out; omega
       have S26:=Az.mk (blk_far (p:=⟨g6,0,none⟩) (bkB S25.out hb6) hne2 (.slice As sl cs))
       have S36:=Az.mk (blk_far (p:=⟨g6,0,none⟩) (bkB S35.out hb6) hne3 (.slice As sl cs))
       have S46:=Az.mk (blk_far (p:=⟨g6,0,none⟩) (bkB S45.out hb6) hne4 (.slice As sl cs))
       have HB6:=Az.mk (bset (g:=g6) (j:=0) (v:=.slice As sl cs) (bst HB5.out hb6) hw6)
       have HV6:=Az.mk (Kd.V_below HV5.out (bset (g:=g6) (j:=0) (v:=.slice As sl cs) hb6 (by omega)))
       have hcz:=(blk_cell hbox 0).trans rfl
       have hfz:=bkF hbox 0
       have b2:=(blk_cell S36.out 2).trans rfl
       have d0:=(blk_cell S46.out 0).trans rfl
       have df:=bkF S46.out 0
       have e0:=(blk_cell S66.out 0).trans rfl
       clear hbox hb6 hg6 S25 S35 S45 HB5 HV5 hne2 hne3 hne4)
  rotate_left 1
  iterate 2
    refine bodyPost_ret (results_ct rfl _ _ g4 39 #[.slice none 0 0] (0,0) _ rfl (blk_put (cs':=#[.slice none 0 0]) S46.out 0 _ rfl) Try.underlying39 rfl (by kernel_rfl)) rfl ?_
    rw [HE.out]
    exact ⟨_,rfl,FIN.out _ _ _ HB6.out (Kd.V_nil _ _ _ _ _)⟩
  have hsl:sl=s.length:=HSL.out
  subst hsl
  have HV6':=Az.mk (show Kd.V k39 39 (w6.setCell ⟨g6,0,none⟩ (.slice As s.length cs)) w.heap.size (fun q=>(P q∨w.heap.size≤q)∧q≠g4) (.slice As s.length cs) s from HV6.out)
  clear HV6
  have HV6:=HV6'
  clear HV6'
  obtain ⟨r,hr⟩:∃ r,r=ofL l0 l1 l2 l s:=⟨_,rfl⟩
  have HE:=Az.mk (show ofT l0 l1 l2 ⟨k,n,l⟩=if r=true then some (s.drop l.length) else none from by rw [hr]; exact (SE.out s rfl).trans (if_neg hl))
  have Hr:=Az.mk hr
  have Hl:=Az.mk hl
  clear hr hl NE SE b b2 d0 df e0 hcz hfz HSL
  generalize w6.setCell ⟨g6,0,none⟩ (.slice As s.length cs)=w7 at *
  have HR7:=Az.mk (Kd.C_below HR0.out HB6.out)
  have H17:=Az.mk (Kd.V_below (Kd.V_bound H1.out) HB6.out)
  have H27:=Az.mk (Kd.V_below (Kd.V_bound H2.out) HB6.out)
  have HR37:=Az.mk (Kd.C_below HR3.out HB6.out)
  clear HR0 H1 H2 HR3
  go_loopg [33] l.length (fun kq v33 wr=>∃ i:Nat,v33=.int .i64 (i:Int)∧Az (i+kq=l.length)∧Az (r=ofL l0 l1 l2 (l.drop i) (s.drop i))∧Az (Below w7.heap.size w7 wr))
  case atStart=>exact ⟨0,rfl,⟨by omega⟩,Hr,⟨Below.refl _ _⟩⟩
  case round =>
    obtain ⟨i,rfl,Hi,HL,HB⟩:=hrel
    clear Hr
    have HBw:=Az.mk (bst HB6.out HB.out)
    have S2:=Az.mk (bkB S26.out HB.out)
    have S3:=Az.mk (bkB S36.out HB.out)
    have S4:=Az.mk (bkB S46.out HB.out)
    have S6:=Az.mk (bkB S66.out HB.out)
    have HV:=Az.mk (Kd.V_below HV6.out HB.out)
    by_cases hlt:i < l.length
    rotate_left
    · have hie:i=l.length:=by have:=Hi.out; omega
      have hr:r=true:=by have:=HL.out; rw [hie,List.drop_length] at this; exact this.trans (by rw [ofL])
      have he:=HE.out
      rw [if_pos hr] at he
      have HE':=Az.mk he
      have b2:wr.cell? ⟨g3,2,none⟩=some (.slice A3 l.length c3):=(blk_cell S3.out 2).trans rfl
      have d0:wr.cell? ⟨g4,0,none⟩=some (.slice none 0 0):=(blk_cell S4.out 0).trans rfl
      have df:=bkF S4.out 0
      have e0:wr.cell? ⟨g6,0,none⟩=some (.slice As s.length cs):=(blk_cell S6.out 0).trans rfl
      have b:(s.length < l.length)=False:=eq_false Hl.out
      have p1:(l.length≤s.length)=True:=eq_true (by have:=Hl.out; omega)
      clear he hr
      subst hie
      have hcap:=(Kd.V_at HV.out).2.1
      have hcut:∀ A',(if cs=l.length then As else As.map (·.add (l.length*1)))=A'→Kd.V k39 39 wr w.heap.size (fun q=>(P q∨w.heap.size≤q)∧q≠g4) (.slice A' (s.length - l.length) (cs - l.length)) (s.drop l.length):=by
        intro A' h
        have h2:=Kd.V_mk (d:=k39) (e:=39) (base:=w.heap.size) (c:=cs - l.length) (by rw [List.length_drop]; omega) (Kd.F_cut (m:=l.length) (c:=cs) (Kd.V_F HV.out) (by have:=Hl.out; omega) hcap)
        rw [List.length_drop] at h2
        rw [← h]
        exact h2
      have HCut:=Az.mk hcut
      clear hcut hcap
      by_cases hcs:cs=l.length
      · go_wp2_with fail
        have hv:=HCut.out As (if_pos hcs)
        rw [hcs,Nat.sub_self] at hv
        refine bodyPost_ret (results_ct rfl _ _ g4 39 #[.slice As (s.length - l.length) 0] (0,0) _ rfl (blk_put (cs':=#[.slice As (s.length - l.length) 0]) S4.out 0 _ rfl) Try.underlying39 rfl (by kernel_rfl)) rfl ?_
        rw [HE'.out]
        exact ⟨_,rfl,FIN.out _ _ _ HBw.out hv⟩
      · go_wp2_with fail
        have hv:=HCut.out _ (if_neg hcs)
        rw [Nat.mul_one] at hv
        refine bodyPost_ret (results_ct rfl _ _ g4 39 #[.slice (As.map (·.add l.length)) (s.length - l.length) (cs - l.length)] (0,0) _ rfl (blk_put (cs':=#[.slice (As.map (·.add l.length)) (s.length - l.length) (cs - l.length)]) S4.out 0 _ rfl) Try.underlying39 rfl (by kernel_rfl)) rfl ?_
        rw [HE'.out]
        exact ⟨_,rfl,FIN.out _ _ _ HBw.out hv⟩
    obtain ⟨ad,A4,c4,rfl,hx1,hx2,hx3,hc4,hA4⟩:=at_T36 (Kd.C_below HR37.out HB.out) (i:Int) (by omega) (by omega)
    rw [Int.toNat_natCast] at hx1 hx2 hx3
    have HA4:=Az.mk hA4
    have Hc4:=Az.mk hc4
    have HNx:=Az.mk (show SizeOf.sizeOf (rd_T36 l (i:Int)).f2 < N from by have:=rd_T36_mem l i hlt; have:=HN.out; omega)
    have HStep:=Az.mk (HL.out.trans (ofL_step l0 l1 l2 l s i hlt))
    have p1:(0≤(i:Int))=True:=eq_true (by omega)
    have p2:((i:Int) < (l.length:Int))=True:=eq_true (by omega)
    have p3:(i < l.length)=True:=eq_true (by omega)
    have p4:(i < s.length)=True:=eq_true (by have:=Hl.out; omega)
    clear hA4 hc4 HL
    generalize rd_T36 l (i:Int)=x at *
    have HEx:=Az.mk (show ofT l0 l1 l2 ⟨x.f0,x.f1,x.f2⟩=ofT l0 l1 l2 x from by cases x; rfl)
    go_wp2_with (
      (with_reducible refine gate_dst (N:=9) rfl ?_)
      refine box_event ?hg (N:=9) ?hd (cs:=#[.int .i64 0,.int .i64 0,.slice none 0 0]) (t:=36) ?hr ?_
      (case hd=>rfl)
      (case hg=>rfl)
      (case hr=>first | (go_simp; done) | (go_simp; rfl))
      intro gx hgx w6 hbox hb6
      have hgw:wr.heap.size≤gx:=by omega
      have Hbw:=Az.mk (bset (g:=gx) (j:=2) (v:=.slice A4 x.f2.length c4) (bset (g:=gx) (j:=1) (v:=.int .i64 x.f1) (bset (g:=gx) (j:=0) (v:=.int .i64 x.f0) hb6 hgw) hgw) hgw)
      have hcz0:=(blk_cell hbox 0).trans rfl
      have hfz0:=bkF hbox 0
      have hcz1:=(blk_cell hbox 1).trans rfl
      have hfz1:=bkF hbox 1
      have hcz2:=(blk_cell hbox 2).trans rfl
      have hfz2:=bkF hbox 2
      have Sx:=Az.mk (blk_put (cs':=#[.int .i64 x.f0,.int .i64 x.f1,.slice A4 x.f2.length c4]) (blk_put (cs':=#[.int .i64 x.f0,.int .i64 x.f1,.slice none 0 0]) (blk_put (cs':=#[.int .i64 x.f0,.int .i64 0,.slice none 0 0]) hbox 0 (.int .i64 x.f0) rfl) 1 (.int .i64 x.f1) rfl) 2 (.slice A4 x.f2.length c4) rfl)
      have d0:=(blk_cell (bkB S2.out Hbw.out) 0).trans rfl
      have d1:=(blk_cell (bkB S2.out Hbw.out) 1).trans rfl
      have d2:=(blk_cell (bkB S2.out Hbw.out) 2).trans rfl
      have e0:=(blk_cell Sx.out 0).trans rfl
      have e1:=(blk_cell Sx.out 1).trans rfl
      have e2:=(blk_cell Sx.out 2).trans rfl
      clear hbox hb6 hgx hgw hx1 hx2 hx3 Sx)
    clear hcz0 hcz1 hcz2 hfz0 hfz1 hfz2 d0 d1 d2 e0 e1 e2
    generalize (((w6.setCell ⟨gx,0,none⟩ (.int .i64 x.f0)).setCell ⟨gx,1,none⟩ (.int .i64 x.f1)).setCell ⟨gx,2,none⟩ (.slice A4 x.f2.length c4))=wq at *
    have HBq:=Az.mk (bst HB.out Hbw.out)
    (with_reducible refine (IH.out x.f2 HNx.out x.f0 x.f1 A4 c4 wq (Kd.C_below HR7.out HBq.out) (Kd.V_mono (Kd.V_below H17.out HBq.out) (fun _ h=>h.1)) (Kd.V_mono (Kd.V_below H27.out HBq.out) (fun _ h=>h.1)) (Kd.C_below HA4.out Hbw.out) Hc4.out).mono ?_)
    rintro e w8 ⟨v,rfl,hv8,hb8⟩
    rw [HEx.out] at hv8 ⊢
    have HB8:=Az.mk (bst HBq.out hb8)
    have HV8:=Az.mk (Kd.V_bound hv8)
    clear hv8 hb8 Hbw HBq S2 S3 S4 S6 HV HBw HA4 Hc4 HNx HEx IH
    obtain ⟨Ay,cy,rfl⟩:=Kd.V_slice HV8.out
    obtain ⟨Y,hY⟩:∃ Y,Y=ofT l0 l1 l2 x:=⟨_,rfl⟩
    rw [← hY] at HV8 HStep ⊢
    have HY:=Az.mk hY
    clear hY
    obtain ⟨m,hm⟩:∃ m,m=(Y.getD []).length:=⟨_,rfl⟩
    rw [← hm] at HV8 ⊢
    have HMm:=Az.mk hm
    clear hm
    go_wp2_with (
      (with_reducible refine gate_dst (N:=10) rfl ?_)
      refine box_event ?hg (N:=10) ?hd (cs:=#[.slice none 0 0]) (t:=39) ?hr ?_
      (case hd=>rfl)
      (case hg=>rfl)
      (case hr=>first | (go_simp; done) | (go_simp; rfl))
      intro g10 hg10 wA hbox hbA
      have hb9:=bset (g:=g10) (j:=0) (v:=.slice Ay m cy) hbA (by omega)
      have S10:=Az.mk (blk_put (cs':=#[.slice Ay m cy]) hbox 0 (.slice Ay m cy) rfl)
      have HB9:=Az.mk (bst HB8.out hb9)
      have HV9:=Az.mk (Kd.V_below HV8.out hb9)
      have hcz:=(blk_cell hbox 0).trans rfl
      have hfz:=bkF hbox 0
      clear hbox hbA hg10 hb9 HB8 HV8)
    clear hcz hfz
    generalize wA.setCell ⟨g10,0,none⟩ (.slice Ay m cy)=w9 at *
    have HBw:=Az.mk (bst HB6.out HB9.out)
    have S4:=Az.mk (bkB S46.out HB9.out)
    have S6:=Az.mk (bkB S66.out HB9.out)
    have HV:=Az.mk (Kd.V_below HV6.out HB9.out)
    have d0:w9.cell? ⟨g4,0,none⟩=some (.slice none 0 0):=(blk_cell S4.out 0).trans rfl
    have df:=bkF S4.out 0
    have e0:w9.cell? ⟨g6,0,none⟩=some (.slice As s.length cs):=(blk_cell S6.out 0).trans rfl
    have y0:w9.cell? ⟨g10,0,none⟩=some (.slice Ay m cy):=(blk_cell S10.out 0).trans rfl
    cases Y with
    | none =>
      have hr:r=false:=by have:=HStep.out; simpa using this
      have HE':=Az.mk (show ofT l0 l1 l2 ⟨k,n,l⟩=none from HE.out.trans (if_neg (by rw [hr]; decide)))
      clear hr
      go_quiet (fail)
      have HBn:=Az.mk (pwN HBw.out nq)
      have S4n:=Az.mk (bdN S4.out nq)
      clear d0 df e0 y0 S4 S6 HV HBw HB9 S10 HV9
      generalize w9.drewN nq=wn at *
      have d0:wn.cell? ⟨g4,0,none⟩=some (.slice none 0 0):=(blk_cell S4n.out 0).trans rfl
      have df:=bkF S4n.out 0
      go_wp2_with fail
      refine bodyPost_ret (results_ct rfl _ _ g4 39 #[.slice none 0 0] (0,0) _ rfl (blk_put (cs':=#[.slice none 0 0]) S4n.out 0 _ rfl) Try.underlying39 rfl (by kernel_rfl)) rfl ?_
      rw [HE'.out]
      exact ⟨_,rfl,FIN.out _ _ _ HBn.out (Kd.V_nil _ _ _ _ _)⟩
    | some y =>
      have hm:m=y.length:=HMm.out
      subst hm
      have hcy:=ofT_cnt HSM.out HY.out.symm
      obtain ⟨ads,Ae,ce,rfl,hxe,hve⟩:=V_at41 HV.out (i:=(i:Int)) (by omega) (by have:=Hl.out; omega)
      rw [Int.toNat_natCast] at hxe
      have p5:((i:Int) < (s.length:Int))=True:=eq_true (by have:=Hl.out; omega)
      have HY9:=Az.mk (show y.length≤cy∧k39.C w9 Ay y.length y from (Kd.V_reads' HV9.out).2)
      have HVe:=Az.mk (Kd.V_reads' hve).2
      have HCy:=Az.mk hcy
      clear hve hcy HV9 HV
      generalize rd_T39 s (i:Int)=ys at *
      go_region_law
        (first
          | (go_simp
             go_at_call 75
             (with_reducible refine (ssame_calls (l:=y) (m:=ys.f0) HCy.out (w:=w9.drew) (Kd.C_below HY9.out.2 (below_drew (Below.refl _ _))) HY9.out.1 (Kd.C_below HVe.out.2 (below_drew (Below.refl _ _))) HVe.out.1).mono ?_)
             rintro e9 wB ⟨rfl,hbB⟩
             have HBB:=Az.mk (bst (below_drew HB9.out) hbB)
             clear hbB))
      all_goals (
        have HStep2:=Az.mk (show r=(eqL y ys.f0 && ofL l0 l1 l2 (l.drop (i+1)) (s.drop (i+1))) from HStep.out)
        clear HStep HCy HY9 HVe S4 S6 HB9 HBw S10 hxe y0 e0 d0 df
        generalize eqL y ys.f0=q at *
        cases q with
        | true =>
          have HN2:=Az.mk (show r=ofL l0 l1 l2 (l.drop (i+1)) (s.drop (i+1)) from HStep2.out)
          clear HStep2
          go_wp2_with fail
          have hk:=Hi.out
          obtain ⟨k1,rfl⟩:∃ k1,gk=k1+1:=⟨gk - 1,by omega⟩
          go_roundg k1
          case measure=>omega
          case rel=>exact ⟨i+1,by go_num,⟨by omega⟩,HN2,HBB⟩
        | false =>
          have hr:r=false:=HStep2.out
          have HE':=Az.mk (show ofT l0 l1 l2 ⟨k,n,l⟩=none from HE.out.trans (if_neg (by rw [hr]; decide)))
          clear hr HStep2
          have S4B:=Az.mk (bkB S46.out HBB.out)
          have d0B:wB.cell? ⟨g4,0,none⟩=some (.slice none 0 0):=(blk_cell S4B.out 0).trans rfl
          have dfB:=bkF S4B.out 0
          go_wp2_with fail
          refine bodyPost_ret (results_ct rfl _ _ g4 39 #[.slice none 0 0] (0,0) _ rfl (blk_put (cs':=#[.slice none 0 0]) S4B.out 0 _ rfl) Try.underlying39 rfl (by kernel_rfl)) rfl ?_
          rw [HE'.out]
          exact ⟨_,rfl,FIN.out _ _ _ (bst HB6.out HBB.out) (Kd.V_nil _ _ _ _ _)⟩)
set_option maxHeartbeats 8000000 in
theorem pof_calls (P:Nat→Prop) (A0:Option Addr) (c0:Nat) (l0:List S84) (A1:Option Addr) (c1:Nat) (l1:List S39) (A2:Option Addr) (c2:Nat) (l2:List S39) (hsm:SmallP l0 l1 l2) (t:S36) (A3:Option Addr) (c3:Nat) (w:World) (hr0:Kd.C k84 w A0 l0.length l0) (h1:Kd.V k39 39 w w.heap.size P (.slice A1 l1.length c1) l1) (h2:Kd.V k39 39 w w.heap.size P (.slice A2 l2.length c2) l2) (hr3:Kd.C k36 w A3 t.f2.length t.f2) (hc3:t.f2.length≤c3) :
    Calls Try.prog 57 #[.agg #[.slice A0 l0.length c0,.slice A1 l1.length c1,.slice A2 l2.length c2],.agg #[.int .i64 t.f0,.int .i64 t.f1,.slice A3 t.f2.length c3]] w fun e w'=>∃ Av cv,e=.returned (.tuple #[.agg #[.slice Av ((ofT l0 l1 l2 t).getD []).length cv],.bool (ofT l0 l1 l2 t).isSome])∧Below w.heap.size w w':=by
  have hu124:=Try.underlying124
  have hu36:=Try.underlying36
  have hu39:=Try.underlying39
  have HSM:=Az.mk hsm
  have HR0:=Az.mk hr0
  have H1:=Az.mk (Kd.V_mono h1 (ok':=fun _=>True) (fun _ _=>trivial))
  have H2:=Az.mk (Kd.V_mono h2 (ok':=fun _=>True) (fun _ _=>trivial))
  have HR3:=Az.mk hr3
  have HC3:=Az.mk hc3
  have HT:=Az.mk (show ofT l0 l1 l2 ⟨t.f0,t.f1,t.f2⟩=ofT l0 l1 l2 t from by cases t; rfl)
  clear hr0 h1 h2 hr3 hc3 hsm
  go_enter Try.func57,Try.ntmps57
  go_wp2_with (first
   | ((with_reducible refine gate_dst (N:=2) rfl ?_)
      refine box_event ?hg (N:=2) ?hd (cs:=#[.slice A0 l0.length c0,.slice A1 l1.length c1,.slice A2 l2.length c2]) (t:=124) ?hr ?_
      (case hd=>rfl)
      (case hg=>rfl)
      (case hr=>first | (go_simp; done) | (go_simp; rfl))
      intro g2 hg2 w2 hbox hb2
      have S22:=Az.mk hbox
      have HB2:=Az.mk hb2
      clear hbox hb2 hg2)
   | ((with_reducible refine gate_dst (N:=3) rfl ?_)
      refine box_event ?hg (N:=3) ?hd (cs:=#[.int .i64 t.f0,.int .i64 t.f1,.slice A3 t.f2.length c3]) (t:=36) ?hr ?_
      (case hd=>rfl)
      (case hg=>rfl)
      (case hr=>first | (go_simp; done) | (go_simp; rfl))
      intro g3 hg3 w3 hbox hb3
      have S23:=Az.mk (bkB S22.out hb3)
      have S33:=Az.mk hbox
      have HB3:=Az.mk (bst HB2.out hb3)
      clear hbox hb3 hg3 S22 HB2)
   | ((with_reducible refine gate_dst (N:=4) rfl ?_)
      refine box_event ?hg (N:=4) ?hd (cs:=#[.slice none 0 0]) (t:=39) ?hr ?_
      (case hd=>rfl)
      (case hg=>rfl)
      (case hr=>first | (go_simp; done) | (go_simp; rfl))
      intro g4 hg4 w4 hbox hb4
      have HG4:=Az.mk (show w.heap.size≤g4 from by have:=HB3.out.size; omega)
      have S24:=Az.mk (bkB S23.out hb4)
      have S34:=Az.mk (bkB S33.out hb4)
      have S44:=Az.mk hbox
      have HB4:=Az.mk (bst HB3.out hb4)
      have a0:w4.cell? ⟨g2,0,none⟩=some (.slice A0 l0.length c0):=(blk_cell S24.out 0).trans rfl
      have a1:w4.cell? ⟨g2,1,none⟩=some (.slice A1 l1.length c1):=(blk_cell S24.out 1).trans rfl
      have a2:w4.cell? ⟨g2,2,none⟩=some (.slice A2 l2.length c2):=(blk_cell S24.out 2).trans rfl
      have b0:w4.cell? ⟨g3,0,none⟩=some (.int .i64 t.f0):=(blk_cell S34.out 0).trans rfl
      have b1:w4.cell? ⟨g3,1,none⟩=some (.int .i64 t.f1):=(blk_cell S34.out 1).trans rfl
      have b2:w4.cell? ⟨g3,2,none⟩=some (.slice A3 t.f2.length c3):=(blk_cell S34.out 2).trans rfl
      clear hbox hb4 hg4 S23 S33 HB3))
  (with_reducible refine (psort_calls (fun _=>True) A0 c0 l0 A1 c1 l1 A2 c2 l2 HSM.out _ t.f2 (Nat.lt_succ_self _) t.f0 t.f1 A3 c3 w4 (Kd.C_below HR0.out HB4.out) (Kd.V_mono (Kd.V_bound (Kd.V_below H1.out HB4.out)) (fun _ _=>trivial)) (Kd.V_mono (Kd.V_bound (Kd.V_below H2.out HB4.out)) (fun _ _=>trivial)) (Kd.C_below HR3.out HB4.out) HC3.out).mono ?_)
  rintro e w5 ⟨v,rfl,hv,hb5⟩
  rw [HT.out] at hv ⊢
  obtain ⟨Av,cv,rfl⟩:=Kd.V_slice hv
  have S45:=Az.mk (bkB S44.out hb5)
  have HB5:=Az.mk (bst HB4.out hb5)
  clear hv hb5 a0 a1 a2 b0 b1 b2 S24 S34 S44 HB4
  have d0:w5.cell? ⟨g4,0,none⟩=some (.slice none 0 0):=(blk_cell S45.out 0).trans rfl
  have df:=bkF S45.out 0
  obtain ⟨n,hn⟩:∃ n,n=((ofT l0 l1 l2 t).getD []).length:=⟨_,rfl⟩
  obtain ⟨b,hb⟩:∃ b,b=(ofT l0 l1 l2 t).isSome:=⟨_,rfl⟩
  rw [← hn,← hb]
  have HN:=Az.mk hn
  have HB:=Az.mk hb
  clear hn hb
  go_wp2_with fail
  refine bodyPost_ret (results_ct rfl _ _ g4 39 #[.slice Av n cv] (0,0) _ rfl (blk_put (cs':=#[.slice Av n cv]) S45.out 0 _ rfl) Try.underlying39 rfl (by kernel_rfl)) rfl ?_
  exact ⟨Av,cv,by rw [← HN.out,← HB.out]; rfl,bset HB5.out HG4.out⟩
end Go.Proofs.Ytkgknidogelffaa.I
namespace Go.Proofs.Ytkgknidogelffaa.I
open Go.RowKit Go.Proofs.YtkgknidogelffaaW.PrintWords Go.Proofs.YtkgknidogelffaaW.PrintLast Go.Proofs.YtkgknidogelffaaW.PrintMore
attribute [local go_sem] max2_int min2_int max_two min_two max_three min_three max_four min_four
set_option linter.unusedVariables false
set_option maxRecDepth 100000
set_option linter.unusedSimpArgs false
set_option maxHeartbeats 8000000 in
theorem splace_calls (A0:Option Addr) (c0 n0:Nat) (A1:Option Addr) (c1:Nat) (l1:List S41) (A2:Option Addr) (c2:Nat) (pa:List S39) (w:World) (hr1:Kd.C k41 w A1 l1.length l1) (h2:Kd.V k39 39 w w.heap.size (fun _=>True) (.slice A2 pa.length c2) pa) (h64:l1.length≤64) :
    Calls Try.prog 56 #[.agg #[.slice A0 n0 c0,.slice A1 l1.length c1],.slice A2 pa.length c2] w fun e w'=>∃ v,e=.returned (.agg #[.slice A0 n0 c0,v,.slice A2 pa.length c2])∧Kd.V k39 39 w' w'.heap.size (fun _=>True) v (l1.map (·.f1))∧Kd.V k39 39 w' w'.heap.size (fun _=>True) (.slice A2 pa.length c2) pa∧Below w.heap.size w w':=by
  have hu25:=Try.underlying25
  have hu124:=Try.underlying124
  have hu41:=Try.underlying41
  have hu39:=Try.underlying39
  have hlen1:l1.length≤9223372036854775807:=hr1.2.1
  have HR1:=Az.mk hr1
  have HV2:=Az.mk h2
  have H64:=Az.mk h64
  clear hr1 h2 h64
  go_enter Try.func56,Try.ntmps56
  go_wp2_with (first
    | ((with_reducible refine gate_dst (N:=2) rfl ?_)
       refine box_event ?hg (N:=2) ?hd (cs:=#[.slice A0 n0 c0,.slice A1 l1.length c1]) (t:=25) ?hr ?_
       (case hd=>rfl)
       (case hg=>rfl)
       (case hr=>first | (go_simp; done) | (go_simp; rfl))
       intro g2 hg2 w2 hbox hb2
       have S22:=Az.mk hbox
       have HB2:=Az.mk hb2
       clear hbox hb2 hg2)
    | ((with_reducible refine gate_dst (N:=4) rfl ?_)
       refine box_event ?hg (N:=4) ?hd (cs:=#[.slice none 0 0,.slice none 0 0,.slice none 0 0]) (t:=124) ?hr ?_
       (case hd=>rfl)
       (case hg=>rfl)
       (case hr=>first | (go_simp; done) | (go_simp; rfl))
       intro g4 hg4 w4 hbox hb4
       have hw4:w.heap.size≤g4:=by have:=HB2.out.size; omega
       have S24:=Az.mk (bkB S22.out hb4)
       have S44:=Az.mk hbox
       have HB4:=Az.mk (bst HB2.out hb4)
       have a0:w4.cell? ⟨g2,0,none⟩=some (.slice A0 n0 c0):=(blk_cell S24.out 0).trans rfl
       clear hbox hb4 hg4 S22 HB2)
    | ((with_reducible refine gate_dst (N:=5) rfl ?_)
       refine box_event ?hg (N:=5) ?hd (cs:=#[.slice none 0 0,.slice none 0 0,.slice none 0 0]) (t:=124) ?hr ?_
       (case hd=>rfl)
       (case hg=>rfl)
       (case hr=>first | (go_simp; done) | (go_simp; rfl))
       intro g5 hg5 w5 hbox hb5
       have hgw:w4.heap.size≤g5:=by omega
       have Hbw:=Az.mk (bset (g:=g5) (j:=2) (v:=.slice A2 pa.length c2) (bset (g:=g5) (j:=1) (v:=.slice none 0 0) (bset (g:=g5) (j:=0) (v:=.slice A0 n0 c0) hb5 hgw) hgw) hgw)
       have S5:=Az.mk (blk_put (cs':=#[.slice A0 n0 c0,.slice none 0 0,.slice A2 pa.length c2]) (blk_put (cs':=#[.slice A0 n0 c0,.slice none 0 0,.slice none 0 0]) (blk_put (cs':=#[.slice A0 n0 c0,.slice none 0 0,.slice none 0 0]) hbox 0 (.slice A0 n0 c0) rfl) 1 (.slice none 0 0) rfl) 2 (.slice A2 pa.length c2) rfl)
       have S4:=Az.mk (bkB S44.out Hbw.out)
       have HB5:=Az.mk (bst HB4.out Hbw.out)
       have hw5:w.heap.size≤g5:=by have:=HB4.out.size; omega
       have hn45:g4≠g5:=by have:=blk_lt S44.out; omega
       have a1:(((w5.setCell ⟨g5,0,none⟩ (.slice A0 n0 c0)).setCell ⟨g5,1,none⟩ (.slice none 0 0)).setCell ⟨g5,2,none⟩ (.slice A2 pa.length c2)).cell? ⟨g2,1,none⟩=some (.slice A1 l1.length c1):=(blk_cell (bkB S24.out Hbw.out) 1).trans rfl
       have hcz0:=(blk_cell hbox 0).trans rfl
       have hcz1:=(blk_cell hbox 1).trans rfl
       have hcz2:=(blk_cell hbox 2).trans rfl
       have hfz0:=bkF hbox 0
       have hfz1:=bkF hbox 1
       have hfz2:=bkF hbox 2
       clear hbox hb5 hg5 hgw a0))
  clear hcz0 hcz1 hcz2 hfz0 hfz1 hfz2 a1
  generalize (((w5.setCell ⟨g5,0,none⟩ (.slice A0 n0 c0)).setCell ⟨g5,1,none⟩ (.slice none 0 0)).setCell ⟨g5,2,none⟩ (.slice A2 pa.length c2))=wp at *
  clear Hbw S24 S44 HB4
  go_loopg [15] l1.length (fun kq v15 wr=>∃ (i:Nat) (Af:Option Addr) (cf:Nat),v15=.int .i64 (i:Int)∧Az (i+kq=l1.length)∧Az (Kd.N k39 39 wr w.heap.size (fun k=>k≠g4∧k≠g5) (.slice Af i cf) ((l1.take i).map (·.f1)))∧Az (wr.heap[g5]?=some (.cells #[.slice A0 n0 c0,.slice Af i cf,.slice A2 pa.length c2] 124 (0,0)))∧Az (wr.heap[g4]?=some (.cells #[.slice none 0 0,.slice none 0 0,.slice none 0 0] 124 (0,0)))∧Az (Below w.heap.size w wr))
  case atStart=>exact ⟨0,none,0,rfl,⟨by omega⟩,⟨Kd.N_nil _ _ _ _ _⟩,S5,S4,HB5⟩
  case round =>
    clear S5 S4 HB5
    obtain ⟨i,Af,cf,rfl,Hi,HN,S5,S4,HB⟩:=hrel
    have h64':=H64.out
    by_cases hlt:i < l1.length
    rotate_left
    · have hie:i=l1.length:=by have:=Hi.out; omega
      subst hie
      have e0:wr.cell? ⟨g5,0,none⟩=some (.slice A0 n0 c0):=(blk_cell S5.out 0).trans rfl
      have e1:wr.cell? ⟨g5,1,none⟩=some (.slice Af l1.length cf):=(blk_cell S5.out 1).trans rfl
      have e2:wr.cell? ⟨g5,2,none⟩=some (.slice A2 pa.length c2):=(blk_cell S5.out 2).trans rfl
      have d0:wr.cell? ⟨g4,0,none⟩=some (.slice none 0 0):=(blk_cell S4.out 0).trans rfl
      have d1:wr.cell? ⟨g4,1,none⟩=some (.slice none 0 0):=(blk_cell S4.out 1).trans rfl
      have d2:wr.cell? ⟨g4,2,none⟩=some (.slice none 0 0):=(blk_cell S4.out 2).trans rfl
      have f0:=bkF S4.out 0
      have f1:=bkF S4.out 1
      have f2:=bkF S4.out 2
      go_wp2_with fail
      have Sz:=blk_put (cs':=#[.slice A0 n0 c0,.slice Af l1.length cf,.slice A2 pa.length c2]) (blk_put (cs':=#[.slice A0 n0 c0,.slice Af l1.length cf,.slice none 0 0]) (blk_put (cs':=#[.slice A0 n0 c0,.slice none 0 0,.slice none 0 0]) S4.out 0 (.slice A0 n0 c0) rfl) 1 (.slice Af l1.length cf) rfl) 2 (.slice A2 pa.length c2) rfl
      refine bodyPost_ret (results_cell_row rfl _ _ g4 124 #[.slice A0 n0 c0,.slice Af l1.length cf,.slice A2 pa.length c2] (0,0) _ rfl Sz Try.underlying124 rfl (by kernel_rfl)) rfl ?_
      have hN:=HN.out
      rw [List.take_length] at hN
      have hV:=Kd.V_far (p:=⟨g4,2,none⟩) (Kd.V_far (p:=⟨g4,1,none⟩) (Kd.V_far (p:=⟨g4,0,none⟩) (Kd.N_V (base':=w.heap.size) hN) (fun k hk=>hk.1) (.slice A0 n0 c0)) (fun k hk=>hk.1) (.slice Af l1.length cf)) (fun k hk=>hk.1) (.slice A2 pa.length c2)
      have hbz:=bset (g:=g4) (j:=2) (v:=.slice A2 pa.length c2) (bset (g:=g4) (j:=1) (v:=.slice Af l1.length cf) (bset (g:=g4) (j:=0) (v:=.slice A0 n0 c0) HB.out hw4) hw4) hw4
      exact ⟨_,rfl,Kd.V_mono hV (fun _ _=>trivial),Kd.V_below HV2.out hbz,hbz⟩
    obtain ⟨ad',A3,c3,A4,c4,he,hx0,hx1,hx2,hx3,hx4,hl3,hC3,hl4,hC4⟩:=at_T41 HR1.out (i:Int) (by omega) (by omega)
    cases he
    replace hx0:=cell_up HB.out hx0
    replace hx1:=cell_up HB.out hx1
    replace hx2:=cell_up HB.out hx2
    replace hx3:=cell_up HB.out hx3
    replace hx4:=cell_up HB.out hx4
    rw [Int.toNat_natCast] at hx0 hx1 hx2 hx3 hx4
    have HSN:=Az.mk (take46_snoc hlt)
    have HF3:=Az.mk (Kd.C_F k39_heap hC3)
    have Hl3:=Az.mk hl3
    have q1:(0≤(i:Int))=True:=eq_true (by omega)
    have q2:((i:Int) < (l1.length:Int))=True:=eq_true (by omega)
    have q3:(i < l1.length)=True:=eq_true (by omega)
    clear hC3 hl4 hC4 hl3
    generalize rd_T41 l1 (i:Int)=x at *
    go_wp2_with (first
      | ((with_reducible refine gate_dst (N:=7) rfl ?_)
         refine box_event ?hg (N:=7) ?hd (cs:=#[.string (⟨#[]⟩:ByteArray),.slice none 0 0,.int .i64 0,.int .i64 0,.slice none 0 0]) (t:=41) ?hr ?_
         (case hd=>rfl)
         (case hg=>rfl)
         (case hr=>first | (go_simp; done) | (go_simp; rfl))
         intro gi hgi w6 hbox hbb
         have hgw:wr.heap.size≤gi:=by omega
         have Hbwgi:=Az.mk (bset (g:=gi) (j:=4) (v:=.slice A4 x.f2.f2.length c4) (bset (g:=gi) (j:=3) (v:=.int .i64 x.f2.f1) (bset (g:=gi) (j:=2) (v:=.int .i64 x.f2.f0) (bset (g:=gi) (j:=1) (v:=.slice A3 x.f1.f0.length c3) (bset (g:=gi) (j:=0) (v:=.string x.f0) hbb hgw) hgw) hgw) hgw) hgw)
         have Sgi:=Az.mk (blk_put (cs':=#[.string x.f0,.slice A3 x.f1.f0.length c3,.int .i64 x.f2.f0,.int .i64 x.f2.f1,.slice A4 x.f2.f2.length c4]) (blk_put (cs':=#[.string x.f0,.slice A3 x.f1.f0.length c3,.int .i64 x.f2.f0,.int .i64 x.f2.f1,.slice none 0 0]) (blk_put (cs':=#[.string x.f0,.slice A3 x.f1.f0.length c3,.int .i64 x.f2.f0,.int .i64 0,.slice none 0 0]) (blk_put (cs':=#[.string x.f0,.slice A3 x.f1.f0.length c3,.int .i64 0,.int .i64 0,.slice none 0 0]) (blk_put (cs':=#[.string x.f0,.slice none 0 0,.int .i64 0,.int .i64 0,.slice none 0 0]) hbox 0 (.string x.f0) rfl) 1 (.slice A3 x.f1.f0.length c3) rfl) 2 (.int .i64 x.f2.f0) rfl) 3 (.int .i64 x.f2.f1) rfl) 4 (.slice A4 x.f2.f2.length c4) rfl)
         have hczgi0:=(blk_cell hbox 0).trans rfl
         have hfzgi0:=bkF hbox 0
         have hczgi1:=(blk_cell hbox 1).trans rfl
         have hfzgi1:=bkF hbox 1
         have hczgi2:=(blk_cell hbox 2).trans rfl
         have hfzgi2:=bkF hbox 2
         have hczgi3:=(blk_cell hbox 3).trans rfl
         have hfzgi3:=bkF hbox 3
         have hczgi4:=(blk_cell hbox 4).trans rfl
         have hfzgi4:=bkF hbox 4
         have m1:=(blk_cell Sgi.out 1).trans rfl
         have m5:=(blk_cell (bkB S5.out Hbwgi.out) 1).trans rfl
         clear hbox hbb hgi hgw)
      | (at_builtin; refine holdX ?_))
    unfold HoldX
    clear hczgi0 hfzgi0 hczgi1 hfzgi1 hczgi2 hfzgi2 hczgi3 hfzgi3 hczgi4 hfzgi4 m1 m5 hx0 hx1 hx2 hx3 hx4
    have hs:(((((w6.setCell ⟨gi,0,none⟩ (.string x.f0)).setCell ⟨gi,1,none⟩ (.slice A3 x.f1.f0.length c3)).setCell ⟨gi,2,none⟩ (.int .i64 x.f2.f0)).setCell ⟨gi,3,none⟩ (.int .i64 x.f2.f1)).setCell ⟨gi,4,none⟩ (.slice A4 x.f2.f2.length c4)).heap.size=w6.heap.size:=by simp only [World.size_setCell]
    rw [← hs]
    clear hs
    generalize (((((w6.setCell ⟨gi,0,none⟩ (.string x.f0)).setCell ⟨gi,1,none⟩ (.slice A3 x.f1.f0.length c3)).setCell ⟨gi,2,none⟩ (.int .i64 x.f2.f0)).setCell ⟨gi,3,none⟩ (.int .i64 x.f2.f1)).setCell ⟨gi,4,none⟩ (.slice A4 x.f2.f2.length c4))=wq at *
    have HBq:=Az.mk (bst HB.out Hbwgi.out)
    have HNq:=Az.mk (Kd.N_below HN.out Hbwgi.out)
    have S5q:=Az.mk (bkB S5.out Hbwgi.out)
    have S4q:=Az.mk (bkB S4.out Hbwgi.out)
    clear Hbwgi HN S5 S4 HB Sgi
    refine Kd.N_append k39 (w0:=w) w.heap.size rfl (.tmp 20) (.tmp 23) 37 39 (.agg #[.slice none 0 0]) 24 rfl Try.underlying37 infoS39 rfl (by decide) (by omega) (.slice Af i cf) ((l1.take i).map (·.f1)) ⟨x.f1.f0⟩ [.slice A3 x.f1.f0.length c3] (fun k=>k≠g4∧k≠g5) (fun k=>k < w.heap.size) rfl rfl (k39_mkF _ _ (⟨x.f1.f0⟩:S39) Hl3.out (Kd.F_below HF3.out HBq.out)) (fun k hk=>⟨⟨by omega,by omega⟩,fun e=>by have:=Kd.N_base HNq.out k e.symm; omega⟩) (fun k hk=>by have:=blk_lt S4q.out; have:=blk_lt S5q.out; exact ⟨by omega,by omega⟩) HNq.out HBq.out HBq.out.size (by rw [List.length_map,List.length_take]; have:=H64.out; omega) ?_
    intro v2 w7 hn7 hb7 hg7 hat
    rw [HSN.out] at hn7
    obtain ⟨A5,c5,e2⟩:=Kd.N_slice hn7
    rw [List.length_map,List.length_take,Nat.min_eq_left (by omega)] at e2
    subst e2
    have HN7:=Az.mk hn7
    have HB7:=Az.mk hb7
    have S57:=Az.mk (blk_grown S5q.out hg7 (Kd.N_away HNq.out (fun k hk=>hk.2)))
    have S47:=Az.mk (blk_grown S4q.out hg7 (Kd.N_away HNq.out (fun k hk=>hk.1)))
    have m5:w7.cell? ⟨g5,1,none⟩=some (.slice Af i cf):=(blk_cell S57.out 1).trans rfl
    have f5:=bkF S57.out 1
    clear hn7 hb7 hg7 hat HNq S5q S4q HBq HSN HF3 Hl3
    go_wp2_with fail
    have HN8:=Az.mk (Kd.N_far (p:=⟨g5,1,none⟩) HN7.out (fun k hk=>hk.2) (.slice A5 (i+1) c5))
    have HB8:=Az.mk (bset (g:=g5) (j:=1) (v:=.slice A5 (i+1) c5) HB7.out hw5)
    have S58:=Az.mk (blk_put (cs':=#[.slice A0 n0 c0,.slice A5 (i+1) c5,.slice A2 pa.length c2]) S57.out 1 (.slice A5 (i+1) c5) rfl)
    have S48:=Az.mk (blk_far (p:=⟨g5,1,none⟩) S47.out hn45 (.slice A5 (i+1) c5))
    have hk:=Hi.out
    obtain ⟨k1,rfl⟩:∃ k1,gk=k1+1:=⟨gk - 1,by omega⟩
    go_roundg k1
    case measure=>omega
    case rel=>exact ⟨i+1,A5,c5,by go_num,⟨by omega⟩,HN8,S58,S48,HB8⟩
end Go.Proofs.Ytkgknidogelffaa.I
namespace Go.Proofs.Ytkgknidogelffaa.I
open Go.RowKit Go.Proofs.YtkgknidogelffaaW.PrintWords Go.Proofs.YtkgknidogelffaaW.PrintLast Go.Proofs.YtkgknidogelffaaW.PrintMore
open Go.WideShapes Go.Maps Go.ChangeMaps Go.WideMaps
attribute [local go_sem] max2_int min2_int max_two min_two max_three min_three max_four min_four
set_option linter.unusedVariables false
set_option maxRecDepth 100000
set_option linter.unusedSimpArgs false
def fun1L:List S41→List ByteArray→Bool
  | [],_=>true
  | f :: fs,L=>(nameOk f.f0 && (!isIn L f.f0 && isok f.f1.f0)) && fun1L fs (L ++ [f.f0])
def body2 (sy:List S84) (fu:List S39) (f:S41):Bool:=!big f.f2 && (match ofT sy fu f.f1.f0 f.f2 with
    | none=>false
    | some s=>decide (s.length=0))
def body2L (sy:List S84) (fu:List S39):List S41→Bool
  | []=>true
  | f :: fs=>body2 sy fu f && body2L sy fu fs
theorem split_checks (sy:List S84) (fu:List S39):∀ (fs:List S41) (L:List ByteArray),(funsL fs L && bodiesL sy fu fs)=(fun1L fs L && body2L sy fu fs)
  | [],L=>rfl
  | f :: fs,L=>by
    have ih:=split_checks sy fu fs (L ++ [f.f0])
    rw [funsL,bodiesL,fun1L,body2L]
    unfold funOk body2
    revert ih
    cases hO:ofT sy fu f.f1.f0 f.f2 with
    | none=>cases nameOk f.f0 <;> cases isok f.f1.f0 <;> cases big f.f2 <;> cases isIn L f.f0 <;> cases funsL fs (L ++ [f.f0]) <;> cases bodiesL sy fu fs <;> cases fun1L fs (L ++ [f.f0]) <;> cases body2L sy fu fs <;> simp
    | some s =>
      show _→(_ && (decide (s.length=0) && _))=(_ && ((_ && decide (s.length=0)) && _))
      generalize decide (s.length=0)=m
      cases nameOk f.f0 <;> cases isok f.f1.f0 <;> cases big f.f2 <;> cases isIn L f.f0 <;> cases m <;> cases funsL fs (L ++ [f.f0]) <;> cases bodiesL sy fu fs <;> cases fun1L fs (L ++ [f.f0]) <;> cases body2L sy fu fs <;> simp
theorem schB_eq (sy:List S84) (fs:List S41):schB sy fs=((symsL sy [] && decide (sy.length≤24)) && ((decide (1≤fs.length) && decide (fs.length≤64)) && (decide ((rd_T41 fs 0).f1.f0.length=0) && (fun1L fs [] && body2L sy (fs.map (·.f1)) fs)))):=by
  unfold schB
  rw [← split_checks]
  cases funsL fs [] <;> cases decide ((rd_T41 fs 0).f1.f0.length=0) <;> simp
theorem fun1L_all:∀ (l:List S41) (L:List ByteArray),fun1L l L=true→∀ x ∈ l,isok x.f1.f0=true
  | [],_,_,x,hx=>by cases hx
  | y :: ys,L,h,x,hx=>by
    rw [fun1L] at h
    simp only [Bool.and_eq_true] at h
    rcases List.mem_cons.1 hx with e | hx
    · subst e; exact h.1.2.2
    · exact fun1L_all ys _ h.2 x hx
theorem small_of2 {sy:List S84} {fs:List S41} (h1:symsL sy []=true) (h2:fun1L fs []=true) {f:S41} (hf:f ∈ fs):SmallP sy (fs.map (·.f1)) f.f1.f0:=by
  have hk:∀ x ∈ fs,cntL x.f1.f0≤59:=fun x hx=>isok_cnt (fun1L_all fs [] h2 x hx)
  refine ⟨fun x hx=>by have:=symsL_ranks sy [] h1 x hx; omega,fun x hx=>?_,drop41_small (by have:=hk f hf; omega)⟩
  obtain ⟨y,hy,rfl⟩:=List.mem_map.1 hx
  have:=hk y hy
  omega
theorem fun1L_drop {l:List S41} {i:Nat} (h:i < l.length):fun1L (l.drop i) (names46 (l.take i))=((nameOk (rd_T41 l (i:Int)).f0 && (!isIn (names46 (l.take i)) (rd_T41 l (i:Int)).f0 && isok (rd_T41 l (i:Int)).f1.f0)) && fun1L (l.drop (i+1)) (names46 (l.take (i+1)))):=by
  rw [rd_T41_drop l i h,fun1L,rd_T41_take l i h]
theorem body2L_drop {sy:List S84} {fu:List S39} {l:List S41} {i:Nat} (h:i < l.length):body2L sy fu (l.drop i)=(body2 sy fu (rd_T41 l (i:Int)) && body2L sy fu (l.drop (i+1))):=by
  rw [rd_T41_drop l i h,body2L]
theorem pof_calls2 (A0:Option Addr) (c0:Nat) (l0:List S84) (A1:Option Addr) (c1 nf:Nat) (l1:List S39) (A2:Option Addr) (c2:Nat) (l2:List S39) (hnf:l1.length=nf) (hsm:SmallP l0 l1 l2) (t:S36) (A3:Option Addr) (c3:Nat) (w:World) (hr0:Kd.C k84 w A0 l0.length l0) (h1:Kd.V k39 39 w w.heap.size (fun _=>True) (.slice A1 nf c1) l1) (h2:Kd.V k39 39 w w.heap.size (fun _=>True) (.slice A2 l2.length c2) l2) (hr3:Kd.C k36 w A3 t.f2.length t.f2) (hc3:t.f2.length≤c3) :
    Calls Try.prog 57 #[.agg #[.slice A0 l0.length c0,.slice A1 nf c1,.slice A2 l2.length c2],.agg #[.int .i64 t.f0,.int .i64 t.f1,.slice A3 t.f2.length c3]] w fun e w'=>∃ Av cv,e=.returned (.tuple #[.agg #[.slice Av ((ofT l0 l1 l2 t).getD []).length cv],.bool (ofT l0 l1 l2 t).isSome])∧Below w.heap.size w w':=by
  subst hnf
  exact pof_calls (fun _=>True) A0 c0 l0 A1 c1 l1 A2 c2 l2 hsm t A3 c3 w hr0 h1 h2 hr3 hc3
theorem pname_calls (s:ByteArray) (w:World):Calls Try.prog 53 #[.string s] w fun e w'=>e=.returned (.bool (nameOk s))∧Below w.heap.size w w':=by
  obtain ⟨k,hk⟩:=(name_ev s).rounds
  refine (term_Name.calls k s _ w hk).mono ?_
  rintro e w' ⟨h1,h2⟩
  exact ⟨h1,drawn_below h2⟩
theorem pcheck_calls {l:List S39} {w:World} {A:Option Addr} {c:Nat} (hr:Kd.C k39 w A l.length l) (hc:l.length≤c) :
    Calls Try.prog 54 #[.agg #[.slice A l.length c]] w fun e w'=>e=.returned (.int .i64 (if isok l=true then 0 else 6))∧Below w.heap.size w w':=sorts_Check.calls A c l _ w hr hc (check_eq l)
theorem psize_calls (a b:Int) {l:List S36} {w:World} {A:Option Addr} {c:Nat} (hr:Kd.C k36 w A l.length l) (hc:l.length≤c) :
    Calls Try.prog 55 #[.agg #[.int .i64 a,.int .i64 b,.slice A l.length c]] w fun e w'=>e=.returned (.tuple #[.int .i64 (szT ⟨a,b,l⟩).1,.int .i64 (szT ⟨a,b,l⟩).2])∧Below w.heap.size w w':=term_Size.calls a b A c l _ _ w hr hc (szT_eq a b l)
set_option maxHeartbeats 16000000 in
theorem schk_calls (A0:Option Addr) (c0:Nat) (l0:List S84) (A1:Option Addr) (c1:Nat) (l1:List S41) (w:World) (hr0:Kd.C k84 w A0 l0.length l0) (hc0:l0.length≤c0) (hr1:Kd.C k41 w A1 l1.length l1) (hc1:l1.length≤c1) :
    Calls Try.prog 31 #[.agg #[.slice A0 l0.length c0,.slice A1 l1.length c1]] w fun e w'=>e=.returned (.int .i64 (if schB l0 l1=true then 0 else 7))∧Below w.heap.size w w':=by
  have hu25:=Try.underlying25
  have hu41:=Try.underlying41
  have hu39:=Try.underlying39
  have hu36:=Try.underlying36
  have hmm:=@run_makeMap Try.prog
  have hlen1:l1.length≤9223372036854775807:=hr1.2.1
  have hlen0:l0.length≤9223372036854775807:=hr0.2.1
  have HR0:=Az.mk hr0
  have HC0:=Az.mk hc0
  have HR1:=Az.mk hr1
  have HC1:=Az.mk hc1
  obtain ⟨r,hr⟩:∃ r,r=schB l0 l1:=⟨_,rfl⟩
  rw [← hr]
  have HE:=Az.mk (hr.trans (schB_eq l0 l1))
  clear hr0 hc0 hr1 hc1 hr
  go_enter Try.func31,Try.ntmps31
  by_cases h24:24 < l0.length
  · have hf:r=false:=by rw [HE.out,decide_eq_false (by omega:¬ l0.length≤24)]; simp
    have q1:(24 < l0.length)=True:=eq_true h24
    have q2:((24:Int) < (l0.length:Int))=True:=eq_true (by omega)
    subst hf
    clear HE h24
    go_wp2_with (
      (with_reducible refine gate_dst (N:=1) rfl ?_)
      refine box_event ?hg (N:=1) ?hd (cs:=#[.slice A0 l0.length c0,.slice A1 l1.length c1]) (t:=25) ?hr ?_
      (case hd=>rfl)
      (case hg=>rfl)
      (case hr=>first | (go_simp; done) | (go_simp; rfl))
      intro g1 hg1 w1 hbox hb1
      have HB1:=Az.mk hb1
      have e0:w1.cell? ⟨g1,0,none⟩=some (.slice A0 l0.length c0):=(blk_cell hbox 0).trans rfl
      clear hbox hb1 hg1)
    go_ret
    exact ⟨rfl,HB1.out⟩
  have q1:(24 < l0.length)=False:=eq_false h24
  have q2:((24:Int) < (l0.length:Int))=False:=eq_false (by omega)
  obtain ⟨sb,hsb⟩:∃ sb,sb=symsL l0 []:=⟨_,rfl⟩
  have HE2:=Az.mk (show r=(sb && ((decide (1≤l1.length) && decide (l1.length≤64)) && (decide ((rd_T41 l1 0).f1.f0.length=0) && (fun1L l1 [] && body2L l0 (l1.map (·.f1)) l1)))) from by rw [HE.out,← hsb,decide_eq_true (by omega:l0.length≤24),Bool.and_true])
  have hsy:term_Symbols.f l0=some sb:=by unfold term_Symbols.f; rw [decide_eq_true (by omega:l0.length≤24),Bool.and_true,hsb]
  have HSy:=Az.mk hsy
  have HSB:=Az.mk hsb
  clear HE hsb hsy h24
  go_wp2_with (
    (with_reducible refine gate_dst (N:=1) rfl ?_)
    refine box_event ?hg (N:=1) ?hd (cs:=#[.slice A0 l0.length c0,.slice A1 l1.length c1]) (t:=25) ?hr ?_
    (case hd=>rfl)
    (case hg=>rfl)
    (case hr=>first | (go_simp; done) | (go_simp; rfl))
    intro g1 hg1 w1 hbox hb1
    have S11:=Az.mk hbox
    have HB1:=Az.mk hb1
    have e0:w1.cell? ⟨g1,0,none⟩=some (.slice A0 l0.length c0):=(blk_cell hbox 0).trans rfl
    clear hbox hb1 hg1)
  (with_reducible refine (term_Symbols.calls A0 c0 l0 sb _ (Kd.C_below HR0.out HB1.out) HC0.out HSy.out).mono ?_)
  rintro e w2 ⟨rfl,hb2⟩
  have HB2:=Az.mk (bst HB1.out hb2)
  have S12:=Az.mk (bkB S11.out hb2)
  clear hb2 e0 S11 HB1 q1 q2 HSy
  cases sb with
  | false =>
    have hf:r=false:=HE2.out
    subst hf
    clear HE2 HSB
    go_wp2_with fail
    go_ret
    exact ⟨rfl,HB2.out⟩
  | true =>
  have e1:w2.cell? ⟨g1,1,none⟩=some (.slice A1 l1.length c1):=(blk_cell S12.out 1).trans rfl
  by_cases h1:l1.length=0
  · have hf:r=false:=by have:=HE2.out; rw [decide_eq_false (by omega:¬ 1≤l1.length)] at this; exact this
    subst hf
    clear HE2 HSB
    go_wp2_with fail
    go_ret
    exact ⟨rfl,HB2.out⟩
  have q1:(l1.length=0)=False:=eq_false h1
  have q1':((l1.length:Int)=0)=False:=eq_false (by omega)
  have q1b:((l1.length:Int) == 0)=false:=beq_eq_false_iff_ne.2 (by omega)
  have q1c:(l1.length == 0)=false:=beq_eq_false_iff_ne.2 h1
  by_cases h2:64 < l1.length
  · have hf:r=false:=by have:=HE2.out; rw [decide_eq_false (by omega:¬ l1.length≤64),decide_eq_true (by omega:1≤l1.length)] at this; exact this
    have q3:(64 < l1.length)=True:=eq_true h2
    have q3':((64:Int) < (l1.length:Int))=True:=eq_true (by omega)
    subst hf
    clear HE2 HSB h1 h2
    go_wp2_with fail
    go_ret
    exact ⟨rfl,HB2.out⟩
  have q3:(64 < l1.length)=False:=eq_false h2
  have q3':((64:Int) < (l1.length:Int))=False:=eq_false (by omega)
  have HE3:=Az.mk (show r=(decide ((rd_T41 l1 0).f1.f0.length=0) && (fun1L l1 [] && body2L l0 (l1.map (·.f1)) l1)) from by have:=HE2.out; rw [decide_eq_true (by omega:1≤l1.length),decide_eq_true (by omega:l1.length≤64)] at this; exact this)
  obtain ⟨ad,A3,c3,A4,c4,rfl,hx0,hx1,hx2,hx3,hx4,hl3,hC3,hl4,hC4⟩:=at_T41 (Kd.C_below HR1.out HB2.out) 0 (by omega) (by omega)
  clear hx0 hx2 hx3 hx4 hl3 hC3 hl4 hC4 HE2
  replace hx1:w2.cell? ⟨ad.block,ad.off+1,none⟩=_:=hx1
  have q4:(0 < l1.length)=True:=eq_true (by omega)
  have q5:((0:Int) < (l1.length:Int))=True:=eq_true (by omega)
  have H2:=Az.mk (show l1.length≤64 by omega)
  clear h1 h2
  generalize (rd_T41 l1 0).f1.f0.length=m at *
  by_cases hm:m=0
  rotate_left
  · have hf:r=false:=by have:=HE3.out; rw [decide_eq_false hm] at this; exact this
    have q6:(0 < m)=True:=eq_true (by omega)
    have q7:((0:Int) < (m:Int))=True:=eq_true (by omega)
    subst hf
    clear hm HE3 HSB
    go_wp2_with fail
    go_ret
    exact ⟨rfl,HB2.out⟩
  subst hm
  have HE4:=Az.mk (show r=(fun1L l1 [] && body2L l0 (l1.map (·.f1)) l1) from HE3.out)
  clear HE3
  have e1':=cel1 e1
  go_wp2_with fail
  clear e1' e1 hx1 q1 q1' q1b q1c q3 q3' q4 q5
  obtain ⟨q,hq⟩:∃ q,q=fun1L l1 []:=⟨_,rfl⟩
  rw [← hq] at HE4
  have HQ:=Az.mk (show q=fun1L (l1.drop 0) (names46 (l1.take 0)) from hq)
  have HQ0:=Az.mk hq
  clear hq
  go_loopg [48] l1.length (fun kq v48 wr=>∃ i:Nat,v48=.int .i64 (i:Int)∧Az (i+kq=l1.length)∧Az (Seen wr w2.heap.size i (names46 (l1.take i)))∧Az (q=fun1L (l1.drop i) (names46 (l1.take i)))∧Az (Below w2.heap.size w2 wr))
  case atStart=>exact ⟨0,rfl,⟨by omega⟩,⟨seen_made w2⟩,HQ,⟨bal (Below.refl _ _) _⟩⟩
  case round =>
    clear HQ
    obtain ⟨i,rfl,Hi,HS,HQ,HB⟩:=hrel
    have h64':=H2.out
    by_cases hlt:i < l1.length
    · obtain ⟨ad',A3,c3,A4,c4,he,hx0,hx1,hx2,hx3,hx4,hl3,hC3,hl4,hC4⟩:=at_T41 (Kd.C_below (Kd.C_below HR1.out HB2.out) HB.out) (i:Int) (by omega) (by omega)
      cases he
      rw [Int.toNat_natCast] at hx0 hx1 hx2 hx3 hx4
      have HC3:=Az.mk hC3
      have Hl3:=Az.mk hl3
      have HF:=Az.mk (HQ.out.trans (fun1L_drop hlt))
      have htake:=Az.mk (rd_T41_take l1 i hlt)
      have p1:(0≤(i:Int))=True:=eq_true (by omega)
      have p2:((i:Int) < (l1.length:Int))=True:=eq_true (by omega)
      have p3:(i < l1.length)=True:=eq_true (by omega)
      have Hlt:=Az.mk hlt
      clear hC3 hl4 hC4 hl3 HQ
      generalize rd_T41 l1 (i:Int)=x at *
      go_wp2_with (
        (with_reducible refine gate_dst (N:=5) rfl ?_)
        refine box_event ?hg (N:=5) ?hd (cs:=#[.string (⟨#[]⟩:ByteArray),.slice none 0 0,.int .i64 0,.int .i64 0,.slice none 0 0]) (t:=41) ?hr ?_
        (case hd=>rfl)
        (case hg=>rfl)
        (case hr=>first | (go_simp; done) | (go_simp; rfl))
        intro gi hgi w6 hbox hbb
        have hgw:wr.heap.size≤gi:=by omega
        have Hbwgi:=Az.mk (bset (g:=gi) (j:=4) (v:=.slice A4 x.f2.f2.length c4) (bset (g:=gi) (j:=3) (v:=.int .i64 x.f2.f1) (bset (g:=gi) (j:=2) (v:=.int .i64 x.f2.f0) (bset (g:=gi) (j:=1) (v:=.slice A3 x.f1.f0.length c3) (bset (g:=gi) (j:=0) (v:=.string x.f0) hbb hgw) hgw) hgw) hgw) hgw)
        have Sgi:=Az.mk (blk_put (cs':=#[.string x.f0,.slice A3 x.f1.f0.length c3,.int .i64 x.f2.f0,.int .i64 x.f2.f1,.slice A4 x.f2.f2.length c4]) (blk_put (cs':=#[.string x.f0,.slice A3 x.f1.f0.length c3,.int .i64 x.f2.f0,.int .i64 x.f2.f1,.slice none 0 0]) (blk_put (cs':=#[.string x.f0,.slice A3 x.f1.f0.length c3,.int .i64 x.f2.f0,.int .i64 0,.slice none 0 0]) (blk_put (cs':=#[.string x.f0,.slice A3 x.f1.f0.length c3,.int .i64 0,.int .i64 0,.slice none 0 0]) (blk_put (cs':=#[.string x.f0,.slice none 0 0,.int .i64 0,.int .i64 0,.slice none 0 0]) hbox 0 (.string x.f0) rfl) 1 (.slice A3 x.f1.f0.length c3) rfl) 2 (.int .i64 x.f2.f0) rfl) 3 (.int .i64 x.f2.f1) rfl) 4 (.slice A4 x.f2.f2.length c4) rfl)
        have hczgi0:=(blk_cell hbox 0).trans rfl
        have hfzgi0:=bkF hbox 0
        have hczgi1:=(blk_cell hbox 1).trans rfl
        have hfzgi1:=bkF hbox 1
        have hczgi2:=(blk_cell hbox 2).trans rfl
        have hfzgi2:=bkF hbox 2
        have hczgi3:=(blk_cell hbox 3).trans rfl
        have hfzgi3:=bkF hbox 3
        have hczgi4:=(blk_cell hbox 4).trans rfl
        have hfzgi4:=bkF hbox 4
        have m0:=(blk_cell Sgi.out 0).trans rfl
        clear hbox hbb hgi hgw)
      clear hczgi0 hfzgi0 hczgi1 hfzgi1 hczgi2 hfzgi2 hczgi3 hfzgi3 hczgi4 hfzgi4 m0 hx0 hx1 hx2 hx3 hx4
      generalize (((((w6.setCell ⟨gi,0,none⟩ (.string x.f0)).setCell ⟨gi,1,none⟩ (.slice A3 x.f1.f0.length c3)).setCell ⟨gi,2,none⟩ (.int .i64 x.f2.f0)).setCell ⟨gi,3,none⟩ (.int .i64 x.f2.f1)).setCell ⟨gi,4,none⟩ (.slice A4 x.f2.f2.length c4))=wq at *
      (with_reducible refine (pname_calls x.f0 _).mono ?_)
      rintro e w8 ⟨rfl,hb8⟩
      have Hbw8:=Az.mk (bst Hbwgi.out hb8)
      have Hgi8:=Az.mk (bkB Sgi.out hb8)
      have HS8:=Az.mk (Seen.grown HS.out Hbw8.out)
      have HB8:=Az.mk (bst HB.out Hbw8.out)
      clear hb8 Hbwgi Sgi HS HB
      obtain ⟨b,hb⟩:∃ b,b=nameOk x.f0:=⟨_,rfl⟩
      rw [← hb] at HF ⊢
      have HNb:=Az.mk hb
      clear hb
      cases b with
      | false =>
        have hf:r=false:=by have:=HE4.out; rw [HF.out] at this; exact this
        subst hf
        clear HF HE4
        go_wp2_with fail
        go_ret
        exact ⟨rfl,bst HB2.out HB8.out⟩
      | true =>
      have hlk:=seen_look HS8.out x.f0 (nameOk_size HNb.out.symm)
      have m0:w8.cell? ⟨gi,0,none⟩=some (.string x.f0):=(blk_cell Hgi8.out 0).trans rfl
      have m1:w8.cell? ⟨gi,1,none⟩=some (.slice A3 x.f1.f0.length c3):=(blk_cell Hgi8.out 1).trans rfl
      generalize isIn (names46 (l1.take i)) x.f0=b at *
      cases b with
      | true =>
        have hf:r=false:=by have:=HE4.out; rw [HF.out] at this; exact this
        subst hf
        clear HF HE4
        go_wp2_with fail
        go_ret
        exact ⟨rfl,bst HB2.out HB8.out⟩
      | false =>
      go_wp2_with fail
      (with_reducible refine (pcheck_calls (Kd.C_below HC3.out Hbw8.out) Hl3.out).mono ?_)
      rintro e w9 ⟨rfl,hb9⟩
      have HS9:=Az.mk (Seen.grown HS8.out hb9)
      have HB9:=Az.mk (bst HB8.out hb9)
      have n0:w9.cell? ⟨gi,0,none⟩=some (.string x.f0):=(blk_cell (bkB Hgi8.out hb9) 0).trans rfl
      clear hb9 HS8 HB8 Hgi8 m0 m1 hlk Hbw8
      generalize isok x.f1.f0=b at *
      cases b with
      | false =>
        have hf:r=false:=by have:=HE4.out; rw [HF.out] at this; exact this
        subst hf
        clear HF HE4
        go_wp2_with fail
        go_ret
        exact ⟨rfl,bst HB2.out HB9.out⟩
      | true =>
      have HQ2:=Az.mk (show q=fun1L (l1.drop (i+1)) (names46 (l1.take (i+1))) from HF.out)
      have hkey:=keyOf_string_mk Try.underlying9 (nameOk_size HNb.out.symm)
      have Hkey:=Az.mk hkey
      clear hkey HF
      rw [if_pos rfl]
      go_wp2_with (at_mapUpdate; refine holdI ?_)
      unfold HoldI
      refine wpList_mapUpdate_own (H:=Unit) _ rfl (.tmp 68) (.tmp 70) (.const (.bool true)) 120 rfl 9 4 law9 Try.underlying120 (plainElem Try.prog 4) w2.heap.size i _ rfl HS9.out (by unfold maxLen; omega) (.string x.f0) (.bool true) (.string x.f0.data.toList) rfl rfl Hkey.out _ [] (plainElem_bool Try.underlying4 true) ?_
      intro w5 hown5 hgrow5
      have HS5:=Az.mk (seen_put hown5)
      have HB5:=Az.mk (HB9.out.grown hgrow5 HB9.out.size (fun k hk=>by injection hk with hk; omega))
      rw [htake.out] at HS5
      clear hown5 hgrow5 n0 HS9 HB9
      go_wp2_with fail
      have hk:=Hi.out
      have hlt2:=Hlt.out
      obtain ⟨k1,rfl⟩:∃ k1,gk=k1+1:=⟨gk - 1,by omega⟩
      go_roundg k1
      case measure=>omega
      case rel=>exact ⟨i+1,by go_num,⟨by omega⟩,HS5,HQ2,HB5⟩
    have hie:i=l1.length:=by have:=Hi.out; omega
    have hq:q=true:=by have:=HQ.out; rw [hie,List.drop_of_length_le (Nat.le_refl _)] at this; exact this
    have hFL:fun1L l1 []=true:=by rw [← HQ0.out]; exact hq
    have HFL:=Az.mk hFL
    have HQB:=Az.mk (show r=body2L l0 (l1.map (·.f1)) (l1.drop 0) from by have:=HE4.out; rw [hq] at this; exact this)
    have e1:wr.cell? ⟨g1,1,none⟩=some (.slice (some ad) l1.length c1):=(blk_cell (bkB S12.out HB.out) 1).trans rfl
    clear hq hFL HQ HE4 HS hlt Hi HQ0
    subst hie
    go_wp2_with fail
    clear e1
    go_loopg [75] l1.length (fun kq v75 wr=>∃ i:Nat,v75=.int .i64 (i:Int)∧Az (i+kq=l1.length)∧Az (r=body2L l0 (l1.map (·.f1)) (l1.drop i))∧Az (Below w2.heap.size w2 wr))
    case atStart=>exact ⟨0,rfl,⟨by omega⟩,HQB,HB⟩
    case round =>
      clear HQB HB
      obtain ⟨i,rfl,Hi,HQ,HB⟩:=hrel
      by_cases hlt:i < l1.length
      rotate_left
      · have hf:r=true:=by have:=HQ.out; rw [List.drop_of_length_le (by have:=Hi.out; omega)] at this; exact this
        subst hf
        clear HQ
        go_wp2_with fail
        go_ret
        exact ⟨rfl,bst HB2.out HB.out⟩
      obtain ⟨ad',A3,c3,A4,c4,he,hx0,hx1,hx2,hx3,hx4,hl3,hC3,hl4,hC4⟩:=at_T41 (Kd.C_below (Kd.C_below HR1.out HB2.out) HB.out) (i:Int) (by omega) (by omega)
      cases he
      rw [Int.toNat_natCast] at hx0 hx1 hx2 hx3 hx4
      have HC4:=Az.mk hC4
      have Hl4:=Az.mk hl4
      have HF:=Az.mk (HQ.out.trans (body2L_drop hlt))
      have hmem:rd_T41 l1 (i:Int) ∈ l1:=by unfold rd_T41; rw [Int.toNat_natCast,List.getD_eq_getElem?_getD,List.getElem?_eq_getElem hlt]; exact List.getElem_mem _
      have HSM:=Az.mk (small_of2 HSB.out.symm HFL.out hmem)
      have HV3:=Az.mk (show Kd.V k39 39 wr wr.heap.size (fun _=>True) (.slice A3 (rd_T41 l1 (i:Int)).f1.f0.length c3) (rd_T41 l1 (i:Int)).f1.f0 from Kd.V_mk hl3 (Kd.F_mono (Kd.C_F k39_heap hC3) (fun _ _=>trivial)))
      have p1:(0≤(i:Int))=True:=eq_true (by omega)
      have p2:((i:Int) < (l1.length:Int))=True:=eq_true (by omega)
      have p3:(i < l1.length)=True:=eq_true (by omega)
      have Hlt:=Az.mk hlt
      clear hC3 hl4 hC4 hl3 HQ hmem
      generalize rd_T41 l1 (i:Int)=x at *
      go_wp2_with (
        (with_reducible refine gate_dst (N:=7) rfl ?_)
        refine box_event ?hg (N:=7) ?hd (cs:=#[.string (⟨#[]⟩:ByteArray),.slice none 0 0,.int .i64 0,.int .i64 0,.slice none 0 0]) (t:=41) ?hr ?_
        (case hd=>rfl)
        (case hg=>rfl)
        (case hr=>first | (go_simp; done) | (go_simp; rfl))
        intro gi hgi w6 hbox hbb
        have hgw:wr.heap.size≤gi:=by omega
        have Hbwgi:=Az.mk (bset (g:=gi) (j:=4) (v:=.slice A4 x.f2.f2.length c4) (bset (g:=gi) (j:=3) (v:=.int .i64 x.f2.f1) (bset (g:=gi) (j:=2) (v:=.int .i64 x.f2.f0) (bset (g:=gi) (j:=1) (v:=.slice A3 x.f1.f0.length c3) (bset (g:=gi) (j:=0) (v:=.string x.f0) hbb hgw) hgw) hgw) hgw) hgw)
        have Sgi:=Az.mk (blk_put (cs':=#[.string x.f0,.slice A3 x.f1.f0.length c3,.int .i64 x.f2.f0,.int .i64 x.f2.f1,.slice A4 x.f2.f2.length c4]) (blk_put (cs':=#[.string x.f0,.slice A3 x.f1.f0.length c3,.int .i64 x.f2.f0,.int .i64 x.f2.f1,.slice none 0 0]) (blk_put (cs':=#[.string x.f0,.slice A3 x.f1.f0.length c3,.int .i64 x.f2.f0,.int .i64 0,.slice none 0 0]) (blk_put (cs':=#[.string x.f0,.slice A3 x.f1.f0.length c3,.int .i64 0,.int .i64 0,.slice none 0 0]) (blk_put (cs':=#[.string x.f0,.slice none 0 0,.int .i64 0,.int .i64 0,.slice none 0 0]) hbox 0 (.string x.f0) rfl) 1 (.slice A3 x.f1.f0.length c3) rfl) 2 (.int .i64 x.f2.f0) rfl) 3 (.int .i64 x.f2.f1) rfl) 4 (.slice A4 x.f2.f2.length c4) rfl)
        have hczgi0:=(blk_cell hbox 0).trans rfl
        have hfzgi0:=bkF hbox 0
        have hczgi1:=(blk_cell hbox 1).trans rfl
        have hfzgi1:=bkF hbox 1
        have hczgi2:=(blk_cell hbox 2).trans rfl
        have hfzgi2:=bkF hbox 2
        have hczgi3:=(blk_cell hbox 3).trans rfl
        have hfzgi3:=bkF hbox 3
        have hczgi4:=(blk_cell hbox 4).trans rfl
        have hfzgi4:=bkF hbox 4
        have m2:=(blk_cell Sgi.out 2).trans rfl
        have m3:=(blk_cell Sgi.out 3).trans rfl
        have m4:=(blk_cell Sgi.out 4).trans rfl
        clear hbox hbb hgi hgw)
      clear hczgi0 hfzgi0 hczgi1 hfzgi1 hczgi2 hfzgi2 hczgi3 hfzgi3 hczgi4 hfzgi4 m2 m3 m4 hx0 hx1 hx2 hx3 hx4
      generalize (((((w6.setCell ⟨gi,0,none⟩ (.string x.f0)).setCell ⟨gi,1,none⟩ (.slice A3 x.f1.f0.length c3)).setCell ⟨gi,2,none⟩ (.int .i64 x.f2.f0)).setCell ⟨gi,3,none⟩ (.int .i64 x.f2.f1)).setCell ⟨gi,4,none⟩ (.slice A4 x.f2.f2.length c4))=wq at *
      (with_reducible refine (psize_calls x.f2.f0 x.f2.f1 (Kd.C_below HC4.out Hbwgi.out) Hl4.out).mono ?_)
      rintro e w8 ⟨rfl,hb8⟩
      rw [show (⟨x.f2.f0,x.f2.f1,x.f2.f2⟩:S36)=x.f2 from by cases x.f2; rfl]
      have HbwQ:=Az.mk (bst Hbwgi.out hb8)
      have Sgi8:=Az.mk (bkB Sgi.out hb8)
      have HBq:=Az.mk (bst HB.out HbwQ.out)
      clear hb8 Hbwgi Sgi
      have hbig:=szT_big x.f2
      have hb2:body2 l0 (l1.map (·.f1)) x=(!big x.f2 && (match ofT l0 (l1.map (·.f1)) x.f1.f0 x.f2 with | none=>false | some s=>decide (s.length=0))):=rfl
      rw [hb2,← hbig] at HF
      clear hb2 hbig
      generalize (szT x.f2).1=n at *
      generalize (szT x.f2).2=d at *
      by_cases hn:400 < n
      · have hf:r=false:=by have:=HF.out; rw [decide_eq_true hn] at this; exact this
        have q1:(400 < n)=True:=eq_true hn
        subst hf
        clear HF hn
        go_wp2_with fail
        go_ret
        exact ⟨rfl,bst HB2.out HBq.out⟩
      by_cases hd:30 < d
      · have hf:r=false:=by have:=HF.out; rw [decide_eq_true hd,decide_eq_false hn] at this; exact this
        have q1:(400 < n)=False:=eq_false hn
        have q2:(30 < d)=True:=eq_true hd
        subst hf
        clear HF hn hd
        go_wp2_with fail
        go_ret
        exact ⟨rfl,bst HB2.out HBq.out⟩
      have q1:(400 < n)=False:=eq_false hn
      have q2:(30 < d)=False:=eq_false hd
      have HF2:=Az.mk (show r=((match ofT l0 (l1.map (·.f1)) x.f1.f0 x.f2 with | none=>false | some s=>decide (s.length=0)) && body2L l0 (l1.map (·.f1)) (l1.drop (i+1))) from by have:=HF.out; rw [decide_eq_false hn,decide_eq_false hd] at this; exact this)
      clear HF hn hd
      go_upto_region 17 with fail
      clear q1 q2
      have S1q:=Az.mk (bkB S12.out HBq.out)
      have e0:w8.cell? ⟨g1,0,none⟩=some (.slice A0 l0.length c0):=(blk_cell S1q.out 0).trans rfl
      have e1:w8.cell? ⟨g1,1,none⟩=some (.slice (some ad) l1.length c1):=(blk_cell S1q.out 1).trans rfl
      have m1:w8.cell? ⟨gi,1,none⟩=some (.slice A3 x.f1.f0.length c3):=(blk_cell Sgi8.out 1).trans rfl
      have m2:w8.cell? ⟨gi,2,none⟩=some (.int .i64 x.f2.f0):=(blk_cell Sgi8.out 2).trans rfl
      have m3:w8.cell? ⟨gi,3,none⟩=some (.int .i64 x.f2.f1):=(blk_cell Sgi8.out 3).trans rfl
      have m4:w8.cell? ⟨gi,4,none⟩=some (.slice A4 x.f2.f2.length c4):=(blk_cell Sgi8.out 4).trans rfl
      have e0':=cel1 e0
      have e1':=cel1 e1
      have m1':=cel1 m1
      have m2':=cel1 m2
      have m3':=cel1 m3
      have m4':=cel1 m4
      have HRq:=Az.mk (Kd.C_below HR1.out (bst HB2.out HBq.out))
      have HVq:=Az.mk (Kd.V_below HV3.out HbwQ.out)
      try simp only [Act.put,List.setIfInBounds_toArray,List.set_cons_succ,List.set_cons_zero]
      go_cut [10,11] from 92 to 101 (fun v10 v11 wc=>∃ (g9:Nat) (Ay:Option Addr) (cy:Nat),v10=.pointer (some ⟨g9,0,none⟩)∧v11=.bool (ofT l0 (l1.map (·.f1)) x.f1.f0 x.f2).isSome∧Az (wc.heap[g9]?=some (.cells #[.slice Ay ((ofT l0 (l1.map (·.f1)) x.f1.f0 x.f2).getD []).length cy] 39 (0,0)))∧Az (Below w2.heap.size w2 wc))
      case first =>
        go_region_law
            (first
              | (go_simp
                 go_at_call 56
                 first
                 | ((with_reducible refine (splace_calls A0 c0 l0.length (some ad) c1 l1 A3 c3 x.f1.f0 w8.drew (Kd.C_below HRq.out (below_drew (Below.refl _ _))) (Kd.V_mono (Kd.V_below HVq.out (below_drew (Below.refl _ _))) (fun _ _=>trivial)) H2.out).mono ?_)
                    rintro e9 wA ⟨vA,rfl,hvA,hvB,hbA⟩
                    obtain ⟨Av,cv,rfl⟩:=Kd.V_slice hvA
                    rw [List.length_map] at hvA ⊢
                    have HVA:=Az.mk (show Kd.V k39 39 wA wA.heap.size (fun _=>True) (.slice Av l1.length cv) (l1.map (·.f1)) from hvA)
                    have HVB:=Az.mk (show Kd.V k39 39 wA wA.heap.size (fun _=>True) (.slice A3 x.f1.f0.length c3) x.f1.f0 from hvB)
                    have HBA:=Az.mk (bst (below_drew HBq.out) hbA)
                    have HbwA:=Az.mk (bst (below_drew (Below.refl _ _)) hbA)
                    have a2:=cell_up hbA (show (w8.drew).cell? _=_ from id m2)
                    have a3:=cell_up hbA (show (w8.drew).cell? _=_ from id m3)
                    have a4:=cell_up hbA (show (w8.drew).cell? _=_ from id m4)
                    have a2':=cel1 a2
                    have a3':=cel1 a3
                    have a4':=cel1 a4
                    skip
                    clear hvA hvB hbA)
                 | ((with_reducible refine (splace_calls A0 c0 l0.length (some ad) c1 l1 A3 c3 x.f1.f0 (w8.alloc (.cells #[.slice none 0 0] 39)).drew (Kd.C_below HRq.out (below_drew (bal (Below.refl _ _) _))) (Kd.V_mono (Kd.V_below HVq.out (below_drew (bal (Below.refl _ _) _))) (fun _ _=>trivial)) H2.out).mono ?_)
                    rintro e9 wA ⟨vA,rfl,hvA,hvB,hbA⟩
                    obtain ⟨Av,cv,rfl⟩:=Kd.V_slice hvA
                    rw [List.length_map] at hvA ⊢
                    have HVA:=Az.mk (show Kd.V k39 39 wA wA.heap.size (fun _=>True) (.slice Av l1.length cv) (l1.map (·.f1)) from hvA)
                    have HVB:=Az.mk (show Kd.V k39 39 wA wA.heap.size (fun _=>True) (.slice A3 x.f1.f0.length c3) x.f1.f0 from hvB)
                    have HBA:=Az.mk (bst (below_drew (bal HBq.out _)) hbA)
                    have HbwA:=Az.mk (bst (below_drew (bal (Below.refl _ _) _)) hbA)
                    have a2:=cell_up hbA (show ((w8.alloc (.cells #[.slice none 0 0] 39)).drew).cell? _=_ from cel1 m2 _)
                    have a3:=cell_up hbA (show ((w8.alloc (.cells #[.slice none 0 0] 39)).drew).cell? _=_ from cel1 m3 _)
                    have a4:=cell_up hbA (show ((w8.alloc (.cells #[.slice none 0 0] 39)).drew).cell? _=_ from cel1 m4 _)
                    have a2':=cel1 a2
                    have a3':=cel1 a3
                    have a4':=cel1 a4
                    have HG9:=Az.mk (show wA.heap[w8.heap.size]?=some (.cells #[.slice none 0 0] 39 (0,0)) from bkB (blk_drew (blk_new w8 (.cells #[.slice none 0 0] 39))) hbA)
                    clear hvA hvB hbA))
              | (go_simp
                 go_at_call 57
                 first
                 | ((with_reducible refine (pof_calls2 A0 c0 l0 Av cv l1.length (l1.map (·.f1)) A3 c3 x.f1.f0 (List.length_map _) HSM.out x.f2 A4 c4 wA (Kd.C_below HR0.out (bst HB2.out HBA.out)) HVA.out HVB.out (Kd.C_below HC4.out (bst HbwQ.out HbwA.out)) Hl4.out).mono ?_)
                    rintro e9 wB ⟨Ay,cy,rfl,hbB⟩
                    have HBB:=Az.mk (bst HBA.out hbB)
                    try (have G:=bkB HG9.out hbB
                         have k9:=(blk_cell G 0).trans rfl
                         have f9:=bkF G 0
                         have HG9B:=Az.mk G
                         clear G)
                    clear hbB)
                 | ((with_reducible refine (pof_calls2 A0 c0 l0 Av cv l1.length (l1.map (·.f1)) A3 c3 x.f1.f0 (List.length_map _) HSM.out x.f2 A4 c4 (wA.alloc (.cells #[.slice none 0 0] 39)) (Kd.C_below HR0.out (bst HB2.out (bal HBA.out _))) (Kd.V_alloc HVA.out _) (Kd.V_alloc HVB.out _) (Kd.C_below HC4.out (bst HbwQ.out (bal HbwA.out _))) Hl4.out).mono ?_)
                    rintro e9 wB ⟨Ay,cy,rfl,hbB⟩
                    have HBB:=Az.mk (bst (bal HBA.out _) hbB)
                    have G:=bkB (blk_new wA (.cells #[.slice none 0 0] 39)) hbB
                    have k9:=(blk_cell G 0).trans rfl
                    have f9:=bkF G 0
                    have HG9B:=Az.mk G
                    clear G hbB)))
        all_goals (
            go_wp2_with fail
            go_meet
            first
            | exact ⟨_,Ay,cy,rfl,rfl,⟨blk_new _ _⟩,⟨bal HBB.out _⟩⟩
            | exact ⟨_,Ay,cy,rfl,rfl,⟨blk_put HG9B.out 0 _ rfl⟩,⟨bset HBB.out (by first | exact HBA.out.size | exact HBq.out.size)⟩⟩)
      case rest =>
        obtain ⟨g9,Ay,cy,rfl,rfl,S9,HB9⟩:=hcut
        clear e0 e1 m1 m2 m3 m4 e0' e1' m1' m2' m3' m4' S1q HBq Sgi8 HSM HC4 Hl4 HbwQ HB HRq HVq HV3
        generalize ofT l0 (l1.map (·.f1)) x.f1.f0 x.f2=o at *
        cases o with
        | none =>
          have hf:r=false:=HF2.out
          subst hf
          clear HF2
          go_wp2_with fail
          go_ret
          exact ⟨rfl,bst HB2.out HB9.out⟩
        | some s =>
          have c9:wc.cell? ⟨g9,0,none⟩=some (.slice Ay s.length cy):=(blk_cell S9.out 0).trans rfl
          have HF3:=Az.mk (show r=(decide (s.length=0) && body2L l0 (l1.map (·.f1)) (l1.drop (i+1))) from HF2.out)
          clear HF2 S9
          generalize s.length=m at *
          by_cases hm:m=0
          · have HN:=Az.mk (show r=body2L l0 (l1.map (·.f1)) (l1.drop (i+1)) from by rw [HF3.out,decide_eq_true hm]; rfl)
            subst hm
            clear HF3
            go_wp2_with fail
            have hk:=Hi.out
            have hlt2:=Hlt.out
            obtain ⟨k1,rfl⟩:∃ k1,gk=k1+1:=⟨gk - 1,by omega⟩
            go_roundg k1
            case measure=>omega
            case rel=>exact ⟨i+1,by go_num,⟨by omega⟩,HN,HB9⟩
          · have hf:r=false:=by rw [HF3.out,decide_eq_false hm]; rfl
            have q4:(0 < m)=True:=eq_true (by omega)
            subst hf
            clear hm HF3
            go_wp2_with fail
            go_ret
            exact ⟨rfl,bst HB2.out HB9.out⟩
end Go.Proofs.Ytkgknidogelffaa.I
namespace Go.Proofs.Ytkgknidogelffaa.I
open Go.RowKit Go.Proofs.YtkgknidogelffaaW.PrintWords Go.Proofs.YtkgknidogelffaaW.PrintLast Go.Proofs.YtkgknidogelffaaW.PrintMore
set_option linter.unusedVariables false
set_option maxRecDepth 100000
set_option linter.unusedSimpArgs false
theorem take28 {l:List S36} {i:Nat} (h:i < l.length):l.take (i+1)=l.take i ++ [l[i]]:=by rw [List.take_add_one,List.getElem?_eq_getElem h]; rfl
mutual
/-- A term with others in the place of its variables. -/
def subT (ps:List S36):S36→S36
  | ⟨k,n,l⟩=>if k=0 then ⟨(rd_T36 ps n).f0,(rd_T36 ps n).f1,(rd_T36 ps n).f2 ++ subL ps l⟩ else ⟨k,n,subL ps l⟩
def subL (ps:List S36):List S36→List S36
  | []=>[]
  | x :: xs=>subT ps x :: subL ps xs
end
mutual
/-- Are a term's variables in range? -/
def okT (m:Int):S36→Bool
  | ⟨k,n,l⟩=>(decide (k≠0) || (decide (0≤n) && decide (n < m))) && okL m l
def okL (m:Int):List S36→Bool
  | []=>true
  | x :: xs=>okT m x && okL m xs
end
theorem subL_len (ps:List S36):∀ l:List S36,(subL ps l).length=l.length
  | []=>by rw [subL]
  | x :: xs=>by rw [subL,List.length_cons,List.length_cons,subL_len ps xs]
theorem okL_at (m:Int):∀ (l:List S36),okL m l=true→∀ i (h:i < l.length),okT m l[i]=true
  | [],_,i,h=>absurd h (Nat.not_lt_zero _)
  | x :: xs,hl,i,h=>by
    unfold okL at hl
    rw [Bool.and_eq_true] at hl
    cases i with
    | zero=>exact hl.1
    | succ i=>exact okL_at m xs hl.2 i (by simpa using h)
theorem okT_at {m k n:Int} {l:List S36} (h:okT m ⟨k,n,l⟩=true):(k=0→0≤n∧n < m)∧okL m l=true:=by
  unfold okT at h
  simp only [Bool.and_eq_true,Bool.or_eq_true,decide_eq_true_eq] at h
  refine ⟨fun hk=>?_,h.2⟩
  rcases h.1 with h | h
  · exact absurd hk h
  · exact h
theorem tcnt_at:∀ (l:List S36) (i:Nat) (h:i < l.length),tcnt l[i]≤tcntL l
  | [],i,h=>absurd h (Nat.not_lt_zero _)
  | x :: xs,i,h=>by
    have h1:=tcnt_ge x
    have h2:=tcntL_ge xs
    rw [tcntL]
    cases i with
    | zero=>show tcnt x≤_; omega
    | succ i=>have:=tcnt_at xs i (by simpa using h); show tcnt (xs[i]'(by simpa using h))≤_; omega
theorem grownT {w w1:World} {g t:Nat} {cs:Array Value} {row:Option Nat} (h:w.heap[g]?=some (.cells cs t (0,0))) (hg:w.grownBy w1 row) (ht:∀ k,row=some k→∃ q cells,q≠t∧w.heap[k]?=some (.cells cells q (0,0))):w1.heap[g]?=some (.cells cs t (0,0)) :=
  blk_grown h hg (fun e=>by
    obtain ⟨q,cells,hq,hc⟩:=ht _ e.symm
    exact hq (blk_type hc h))
def nextT (l1:List S41) (t:S36):S36:=if t.f0=1 then subT t.f2 (rd_T41 l1 t.f1).f2 else t
def Ready (l1:List S41) (t:S36):Prop:=t.f0=1→0≤t.f1∧t.f1 < (l1.length:Int)∧okT (t.f2.length:Int) (rd_T41 l1 t.f1).f2=true
def closedB (l0:List S84) (l1:List S41) (t:S36):Bool:=match ofT l0 (l1.map (·.f1)) [] t with
  | none=>false
  | some s=>decide (s.length=0)
theorem sch_parts {l0:List S84} {l1:List S41} (h:schB l0 l1=true):SmallP l0 (l1.map (·.f1)) []∧1≤l1.length∧l1.length≤64:=by
  rw [schB_eq] at h
  simp only [Bool.and_eq_true,decide_eq_true_eq] at h
  obtain ⟨⟨h1,h2⟩,⟨h3,h4⟩,h5,h6,h7⟩:=h
  refine ⟨⟨fun x hx=>by have:=symsL_ranks l0 [] h1 x hx; omega,fun x hx=>?_,fun x hx=>by cases hx⟩,h3,h4⟩
  obtain ⟨y,hy,rfl⟩:=List.mem_map.1 hx
  exact isok_cnt (fun1L_all l1 [] h6 y hy)
theorem ofT_parts {sy:List S84} {fu pa:List S39} {k n:Int} {l:List S36} {s:List S39} (h:ofT sy fu pa ⟨k,n,l⟩=some s):∃ s0,hdF sy fu pa k n=some s0∧l.length≤s0.length∧ofL sy fu pa l s0=true∧s=s0.drop l.length:=by
  rw [ofT] at h
  cases e:hdF sy fu pa k n with
  | none=>rw [e] at h; cases h
  | some s0 =>
    rw [e] at h
    replace h:(if s0.length < l.length then none else if ofL sy fu pa l s0=true then some (s0.drop l.length) else none)=some s:=h
    split at h
    · cases h
    · split at h
      · rename_i h1 h2
        injection h with h
        exact ⟨s0,rfl,by omega,h2,h.symm⟩
      · cases h
theorem ofT_make {sy:List S84} {fu pa:List S39} {k n:Int} {l:List S36} {s0:List S39} (h:hdF sy fu pa k n=some s0) (h1:l.length≤s0.length) (h2:ofL sy fu pa l s0=true):ofT sy fu pa ⟨k,n,l⟩=some (s0.drop l.length):=by
  rw [ofT,h]
  show (if s0.length < l.length then none else if ofL sy fu pa l s0=true then some (s0.drop l.length) else none)=_
  rw [if_neg (by omega),if_pos h2]
theorem ofL_app {sy:List S84} {fu pa:List S39}:∀ (l m:List S36) (s:List S39),ofL sy fu pa (l ++ m) s=(ofL sy fu pa l s && ofL sy fu pa m (s.drop l.length))
  | [],m,s=>by rw [ofL]; rfl
  | x :: xs,m,s=>by
    rw [List.cons_append,ofL,ofL,ofL_app xs m s.tail,Bool.and_assoc,List.length_cons,← List.drop_one,List.drop_drop,Nat.add_comm]
theorem ofL_cons {sy:List S84} {fu pa:List S39} {x:S36} {xs:List S36} {s:List S39} (h:ofL sy fu pa (x :: xs) s=true):ofT sy fu pa x=some (s.headD z39).f0∧ofL sy fu pa xs s.tail=true:=by
  rw [ofL,Bool.and_eq_true] at h
  refine ⟨?_,h.2⟩
  cases e:ofT sy fu pa x with
  | none=>rw [e] at h; exact absurd h.1 (by simp)
  | some r =>
    rw [e] at h
    have h1:eqL r (s.headD z39).f0=true:=h.1
    rw [eqL_eq _ _ h1]
mutual
theorem ofT_ok {sy:List S84} {fu pa:List S39}:∀ (x:S36) (s:List S39),ofT sy fu pa x=some s→okT (pa.length:Int) x=true
  | ⟨k,n,l⟩,s,h=>by
    obtain ⟨s0,h0,h1,h2,_⟩:=ofT_parts h
    have hl:=ofL_ok l s0 h2
    unfold okT
    rw [hl,Bool.and_true]
    by_cases hk:k=0
    · subst hk
      unfold hdF at h0
      split at h0
      · cases h0
      · rename_i hn
        rw [if_pos rfl] at h0
        split at h0
        · rename_i hm
          simp
          omega
        · cases h0
    · simp [hk]
theorem ofL_ok {sy:List S84} {fu pa:List S39}:∀ (l:List S36) (s:List S39),ofL sy fu pa l s=true→okL (pa.length:Int) l=true
  | [],_,_=>by rw [okL]
  | x :: xs,s,h=>by
    obtain ⟨h1,h2⟩:=ofL_cons h
    rw [okL,ofT_ok x _ h1,ofL_ok xs _ h2]
    rfl
end
def Args (sy:List S84) (fu:List S39) (ps:List S36) (pa:List S39):Prop:=ps.length=pa.length∧∀ n:Int,0≤n→n < (pa.length:Int)→ofT sy fu [] (rd_T36 ps n)=some (rd_T39 pa n).f0
theorem args_of {sy:List S84} {fu:List S39}:∀ (l:List S36) (s:List S39),l.length=s.length→ofL sy fu [] l s=true→Args sy fu l s
  | [],[],_,_=>⟨rfl,fun n h0 h1=>absurd h1 (by simp; omega)⟩
  | [],_ :: _,h,_=>by cases h
  | _ :: _,[],h,_=>by cases h
  | x :: xs,y :: ys,h,hl=>by
    obtain ⟨h1,h2⟩:=ofL_cons hl
    obtain ⟨_,ih⟩:=args_of xs ys (by simpa using h) h2
    refine ⟨h,fun n h0 hn=>?_⟩
    by_cases hz:n=0
    · subst hz; exact h1
    · have:=ih (n - 1) (by omega) (by rw [List.length_cons] at hn; omega)
      have e1:rd_T36 (x :: xs) n=rd_T36 xs (n - 1):=by
        unfold rd_T36
        rw [show n.toNat=(n - 1).toNat+1 from by omega,List.getD_cons_succ]
      have e2:rd_T39 (y :: ys) n=rd_T39 ys (n - 1):=by
        unfold rd_T39
        rw [show n.toNat=(n - 1).toNat+1 from by omega,List.getD_cons_succ]
      rw [e1,e2]
      exact this
theorem hdF_nil {sy:List S84} {fu pa pa':List S39} {k n:Int} (hk:k≠0):hdF sy fu pa k n=hdF sy fu pa' k n:=by
  unfold hdF
  rw [if_neg hk,if_neg hk]
mutual
theorem ofT_sub {sy:List S84} {fu pa:List S39} {ps:List S36} (ha:Args sy fu ps pa):∀ (x:S36) (s:List S39),ofT sy fu pa x=some s→ofT sy fu [] (subT ps x)=some s
  | ⟨k,n,l⟩,s,h=>by
    obtain ⟨s0,h0,h1,h2,rfl⟩:=ofT_parts h
    have hl:=ofL_sub ha l s0 h2
    unfold subT
    by_cases hk:k=0
    · rw [if_pos hk]
      subst hk
      unfold hdF at h0
      split at h0
      · cases h0
      · rename_i hn
        rw [if_pos rfl] at h0
        split at h0
        · rename_i hm
          injection h0 with h0
          have hp:=ha.2 n (by omega) hm
          rw [h0] at hp
          cases hx:rd_T36 ps n with
          | mk k1 n1 l1 =>
            rw [hx] at hp
            obtain ⟨t0,g0,g1,g2,g3⟩:=ofT_parts hp
            have:=ofT_make (l:=l1 ++ subL ps l) g0 (by rw [List.length_append,subL_len]; rw [g3,List.length_drop] at h1; omega) (by rw [ofL_app,g2,← g3,hl]; rfl)
            rw [List.length_append,subL_len,← List.drop_drop,← g3] at this
            exact this
        · cases h0
    · rw [if_neg hk]
      rw [hdF_nil (pa':=[]) hk] at h0
      have:=ofT_make (l:=subL ps l) h0 (by rw [subL_len]; exact h1) hl
      rw [subL_len] at this
      exact this
theorem ofL_sub {sy:List S84} {fu pa:List S39} {ps:List S36} (ha:Args sy fu ps pa):∀ (l:List S36) (s:List S39),ofL sy fu pa l s=true→ofL sy fu [] (subL ps l) s=true
  | [],_,_=>by rw [subL,ofL]
  | x :: xs,s,h=>by
    obtain ⟨h1,h2⟩:=ofL_cons h
    rw [subL,ofL,ofT_sub ha x _ h1,ofL_sub ha xs _ h2]
    show (eqL _ _ && true)=true
    rw [eqL_refl]
    rfl
end
theorem bodies_at {sy:List S84} {fu:List S39}:∀ (fs:List S41),bodiesL sy fu fs=true→∀ i (h:i < fs.length),ofT sy fu fs[i].f1.f0 fs[i].f2=some []
  | [],_,i,h=>absurd h (Nat.not_lt_zero _)
  | f :: fs,hb,i,h=>by
    rw [bodiesL,Bool.and_eq_true] at hb
    cases i with
    | zero =>
      show ofT sy fu f.f1.f0 f.f2=some []
      have h1:=hb.1
      cases e:ofT sy fu f.f1.f0 f.f2 with
      | none=>rw [e] at h1; cases h1
      | some s =>
        rw [e] at h1
        have:s.length=0:=of_decide_eq_true h1
        rw [List.eq_nil_of_length_eq_zero this]
    | succ i=>exact bodies_at fs hb.2 i (by simpa using h)
theorem closed_iff {l0:List S84} {l1:List S41} {t:S36}:closedB l0 l1 t=true ↔ ofT l0 (l1.map (·.f1)) [] t=some []:=by
  unfold closedB
  cases e:ofT l0 (l1.map (·.f1)) [] t with
  | none=>simp
  | some s=>cases s <;> simp
theorem sch_bodies {l0:List S84} {l1:List S41} (h:schB l0 l1=true):bodiesL l0 (l1.map (·.f1)) l1=true∧∀ f ∈ l1,tcnt f.f2≤400:=by
  unfold schB at h
  simp only [Bool.and_eq_true] at h
  refine ⟨h.2.2.2.2,fun f hf=>?_⟩
  have:=funsL_all l1 [] h.2.2.1 f hf
  unfold funOk big at this
  simp only [Bool.and_eq_true,Bool.not_eq_true',Bool.or_eq_false_iff,decide_eq_false_iff_not] at this
  have:=this.2.2.1
  omega
theorem closed_parts {l0:List S84} {l1:List S41} {n:Int} {l:List S36} (hs:schB l0 l1=true) (h:closedB l0 l1 ⟨1,n,l⟩=true):0≤n∧n < (l1.length:Int)∧Args l0 (l1.map (·.f1)) l (rd_T41 l1 n).f1.f0∧ofT l0 (l1.map (·.f1)) (rd_T41 l1 n).f1.f0 (rd_T41 l1 n).f2=some []:=by
  rw [closed_iff] at h
  obtain ⟨s0,h0,h1,h2,h3⟩:=ofT_parts h
  unfold hdF at h0
  split at h0
  · cases h0
  rename_i hn
  rw [if_neg (by decide),if_pos rfl] at h0
  split at h0
  · rename_i hm
    rw [List.length_map] at hm
    injection h0 with h0
    have hnl:n.toNat < l1.length:=by omega
    have e1:rd_T41 l1 n=l1[n.toNat]:=by unfold rd_T41; rw [List.getD_eq_getElem?_getD,List.getElem?_eq_getElem hnl]; rfl
    have e2:rd_T39 (l1.map (·.f1)) n=l1[n.toNat].f1:=by unfold rd_T39; rw [List.getD_eq_getElem?_getD,List.getElem?_map,List.getElem?_eq_getElem hnl]; rfl
    rw [e2] at h0
    have hlen:l.length=s0.length:=by have:=congrArg List.length h3; rw [List.length_drop] at this; simp at this; omega
    rw [e1,h0]
    refine ⟨by omega,hm,args_of l s0 hlen h2,?_⟩
    rw [← h0]
    exact bodies_at l1 (sch_bodies hs).1 n.toNat hnl
  · cases h0
theorem ready_of {l0:List S84} {l1:List S41} {t:S36} (hs:schB l0 l1=true) (h:closedB l0 l1 t=true):Ready l1 t:=by
  intro hk
  cases t with
  | mk k n l =>
    have hk':k=1:=hk
    subst hk'
    obtain ⟨h0,h1,h2,h3⟩:=closed_parts hs h
    refine ⟨h0,h1,?_⟩
    show okT (l.length:Int) (rd_T41 l1 n).f2=true
    rw [h2.1]
    exact ofT_ok _ _ h3
theorem closed_next {l0:List S84} {l1:List S41} {t:S36} (hs:schB l0 l1=true) (h:closedB l0 l1 t=true):closedB l0 l1 (nextT l1 t)=true:=by
  unfold nextT
  split
  · rename_i hk
    cases t with
    | mk k n l =>
      have hk':k=1:=hk
      subst hk'
      obtain ⟨h0,h1,h2,h3⟩:=closed_parts hs h
      rw [closed_iff]
      exact ofT_sub h2 _ _ h3
  · exact h
inductive Clo where
  | mk (t:S36) (vs:List Clo)
instance:Inhabited Clo:=⟨.mk ⟨0,0,[]⟩ []⟩
def zClo:Clo:=.mk ⟨0,0,[]⟩ []
def Clo.t:Clo→S36 | .mk t _=>t
def Clo.vs:Clo→List Clo | .mk _ vs=>vs
def rdC (l:List Clo) (n:Int):Clo:=l.getD n.toNat zClo
mutual
/-- The term that a closure stands for. -/
def den:Clo→S36
  | .mk t vs=>subT (denL vs) t
def denL:List Clo→List S36
  | []=>[]
  | x :: xs=>den x :: denL xs
end
theorem denL_len:∀ l:List Clo,(denL l).length=l.length
  | []=>by rw [denL]; rfl
  | x :: xs=>by rw [denL,List.length_cons,List.length_cons,denL_len xs]
theorem denL_app:∀ l m:List Clo,denL (l ++ m)=denL l ++ denL m
  | [],m=>by rw [denL]; rfl
  | x :: xs,m=>by rw [List.cons_append,denL,denL_app xs m,denL]; rfl
theorem denL_get:∀ (l:List Clo) (i:Nat),i < l.length→(denL l)[i]?=some (den (l.getD i zClo))
  | [],i,h=>absurd h (Nat.not_lt_zero _)
  | x :: xs,0,h=>by rw [denL]; rfl
  | x :: xs,i+1,h=>by
    rw [denL,List.getElem?_cons_succ,denL_get xs i (by simpa using h)]
    rfl
theorem rd_den (l:List Clo) (n:Int) (h0:0≤n) (h:n < (l.length:Int)):rd_T36 (denL l) n=den (rdC l n):=by
  unfold rd_T36 rdC
  rw [List.getD_eq_getElem?_getD,denL_get l n.toNat (by omega)]
  rfl
mutual
/-- Are a closure's variables in range, all through? -/
def wsC:Clo→Prop
  | .mk t vs=>okT (vs.length:Int) t=true∧wsL vs
def wsL:List Clo→Prop
  | []=>True
  | x :: xs=>wsC x∧wsL xs
end
theorem wsL_mem:∀ (l:List Clo),wsL l→∀ x ∈ l,wsC x
  | [],_,x,h=>by cases h
  | y :: ys,hw,x,h=>by
    rw [wsL] at hw
    rcases List.mem_cons.1 h with e | h
    · rw [e]; exact hw.1
    · exact wsL_mem ys hw.2 x h
theorem wsL_of:∀ (l:List Clo),(∀ x ∈ l,wsC x)→wsL l
  | [],_=>by rw [wsL]; trivial
  | y :: ys,h=>by rw [wsL]; exact ⟨h y List.mem_cons_self,wsL_of ys (fun x hx=>h x (List.mem_cons_of_mem _ hx))⟩
theorem rdC_mem {l:List Clo} {n:Int} (h0:0≤n) (h:n < (l.length:Int)):rdC l n ∈ l:=by
  unfold rdC
  rw [List.getD_eq_getElem?_getD,List.getElem?_eq_getElem (by omega:n.toNat < l.length)]
  exact List.getElem_mem _
def bindC (vs:List Clo) (a:S36):Clo:=if a.f0=0∧a.f2.length=0 then rdC vs a.f1 else .mk a vs
def newC:List S36→Int
  | []=>0
  | a :: l=>(if a.f0=0∧a.f2.length=0 then 0 else 1)+newC l
theorem ok_var {m:Int} {a:S36} (h:okT m a=true) (hv:a.f0=0):0≤a.f1∧a.f1 < m:=by
  obtain ⟨k,n,l⟩:=a
  rw [okT] at h
  simp only [Bool.and_eq_true,Bool.or_eq_true,decide_eq_true_eq] at h
  rcases h.1 with h1 | h1
  · exact absurd hv h1
  · exact h1
theorem ok_args {m:Int} {a:S36} (h:okT m a=true):okL m a.f2=true:=by
  obtain ⟨k,n,l⟩:=a
  rw [okT] at h
  simp only [Bool.and_eq_true] at h
  exact h.2
theorem okL_mem {m:Int}:∀ (l:List S36),okL m l=true→∀ x ∈ l,okT m x=true
  | [],_,x,h=>by cases h
  | y :: ys,hk,x,h=>by
    rw [okL] at hk
    simp only [Bool.and_eq_true] at hk
    rcases List.mem_cons.1 h with e | h
    · rw [e]; exact hk.1
    · exact okL_mem ys hk.2 x h
theorem bind_ws {vs:List Clo} (hv:wsL vs) {a:S36} (ha:okT (vs.length:Int) a=true):wsC (bindC vs a):=by
  unfold bindC
  by_cases h:a.f0=0∧a.f2.length=0
  · rw [if_pos h]
    have:=ok_var ha h.1
    exact wsL_mem vs hv _ (rdC_mem this.1 this.2)
  · rw [if_neg h,wsC]
    exact ⟨ha,hv⟩
theorem bind_den {vs:List Clo} {a:S36} (ha:okT (vs.length:Int) a=true):den (bindC vs a)=subT (denL vs) a:=by
  unfold bindC
  by_cases h:a.f0=0∧a.f2.length=0
  · rw [if_pos h]
    have h1:=ok_var ha h.1
    have h2:a.f2=[]:=List.eq_nil_of_length_eq_zero h.2
    have h3:=rd_den vs a.f1 h1.1 h1.2
    obtain ⟨k,n,l⟩:=a
    have h0:k=0:=h.1
    have h2:l=[]:=h2
    subst h0 h2
    have h3:rd_T36 (denL vs) n=den (rdC vs n):=h3
    show den (rdC vs n)=_
    rw [subT,if_pos rfl,subL,List.append_nil,← h3]
    cases rd_T36 (denL vs) n
    rfl
  · rw [if_neg h,den]
theorem binds_den {vs:List Clo}:∀ (l:List S36),okL (vs.length:Int) l=true→denL (l.map (bindC vs))=subL (denL vs) l
  | [],_=>by rw [List.map_nil,denL,subL]
  | x :: xs,h=>by
    rw [okL] at h
    simp only [Bool.and_eq_true] at h
    rw [List.map_cons,denL,subL,bind_den h.1,binds_den xs h.2]
theorem binds_ws {vs:List Clo} (hv:wsL vs) {l:List S36} (h:okL (vs.length:Int) l=true):∀ x ∈ l.map (bindC vs),wsC x:=fun x hx=>by
  obtain ⟨a,ha,rfl⟩:=List.mem_map.1 hx
  exact bind_ws hv (okL_mem l h a ha)
def denS (c:Clo) (st:List Clo):S36:=⟨(den c).f0,(den c).f1,(den c).f2 ++ denL st⟩
theorem denS_var {vs:List Clo} {n:Int} {l:List S36} {st:List Clo} (h:okT (vs.length:Int) ⟨0,n,l⟩=true):denS (rdC vs n) (l.map (bindC vs) ++ st)=denS (.mk ⟨0,n,l⟩ vs) st:=by
  have h1:=ok_var h rfl
  have h2:=binds_den l (ok_args h)
  unfold denS
  rw [denL_app,h2,den,subT,if_pos rfl,rd_den vs n h1.1 h1.2,List.append_assoc]
theorem denS_head {vs:List Clo} {k n:Int} {l:List S36} {st:List Clo} (hk:k≠0) (h:okT (vs.length:Int) ⟨k,n,l⟩=true):denS (.mk ⟨k,n,l⟩ vs) st=⟨k,n,denL (l.map (bindC vs) ++ st)⟩:=by
  have h2:=binds_den l (ok_args h)
  unfold denS
  rw [denL_app,h2,den,subT,if_neg hk]
theorem rdC_lt {vs:List Clo} {t:S36} {n:Int} (h0:0≤n) (h:n < (vs.length:Int)):SizeOf.sizeOf (rdC vs n) < SizeOf.sizeOf (Clo.mk t vs):=by
  have:=List.sizeOf_lt_of_mem (rdC_mem h0 h)
  simp
  omega
structure GoR where
  a:Int
  n:Int
  e:Int
  c:Clo
  st:List Clo
  used:Int
  known:Bool
  full:Bool
def pushC (c:Clo) (st:List Clo):List Clo:=c.t.f2.map (bindC c.vs) ++ st
def goM (l1:List S41) (fuel:Int):Nat→Int→Int→Clo→List Clo→Option GoR
  | 0,_,_,_,_=>none
  | k+1,n,used,c,st=>if 1048576 < used then some ⟨0,0,3,c,st,used,false,true⟩
    else if c.t.f0=0 then goM l1 fuel k n (used+newC c.t.f2) (rdC c.vs c.t.f1) (pushC c st)
    else if c.t.f0=1 then (if n=fuel then some ⟨0,0,8,c,st,used,false,false⟩
      else goM l1 fuel k (n+1) (used+newC c.t.f2+1) (.mk (rd_T41 l1 c.t.f1).f2 ((pushC c st).take (rd_T41 l1 c.t.f1).f1.f0.length)) ((pushC c st).drop (rd_T41 l1 c.t.f1).f1.f0.length))
    else some ⟨c.t.f1,n,0,c,pushC c st,used+newC c.t.f2,true,false⟩
structure Snd (l0:List S84) (l1:List S41) (now:Clo) (st:List Clo):Prop where
  c:wsC now
  s:∀ x ∈ st,wsC x
  d:closedB l0 l1 (denS now st)=true
theorem wsC_parts {c:Clo} (h:wsC c):okT (c.vs.length:Int) c.t=true∧wsL c.vs:=by
  cases c with
  | mk t vs=>rw [wsC] at h; exact h
theorem push_ws {c:Clo} {st:List Clo} (hc:wsC c) (hs:∀ x ∈ st,wsC x):∀ x ∈ pushC c st,wsC x:=fun x hx=>by
  obtain ⟨h1,h2⟩:=wsC_parts hc
  rcases List.mem_append.1 hx with h | h
  · exact binds_ws h2 (ok_args h1) x h
  · exact hs x h
theorem denS_parts {c:Clo} {st:List Clo} (hk:c.t.f0≠0) (h:wsC c):denS c st=⟨c.t.f0,c.t.f1,denL (pushC c st)⟩:=by
  cases c with
  | mk t vs =>
    obtain ⟨k,n,l⟩:=t
    exact denS_head hk (wsC_parts h).1
theorem snd_var {l0:List S84} {l1:List S41} {c:Clo} {st:List Clo} (h:Snd l0 l1 c st) (hk:c.t.f0=0):0≤c.t.f1∧c.t.f1 < (c.vs.length:Int)∧Snd l0 l1 (rdC c.vs c.t.f1) (pushC c st)∧denS (rdC c.vs c.t.f1) (pushC c st)=denS c st∧SizeOf.sizeOf (rdC c.vs c.t.f1) < SizeOf.sizeOf c:=by
  cases c with
  | mk t vs =>
    obtain ⟨k,n,l⟩:=t
    have hk:k=0:=hk
    subst hk
    obtain ⟨h1,h2⟩:=wsC_parts h.c
    have hv:=ok_var h1 rfl
    have hd:denS (rdC vs n) (l.map (bindC vs) ++ st)=denS (.mk ⟨0,n,l⟩ vs) st:=denS_var h1
    refine ⟨hv.1,hv.2,⟨wsL_mem vs h2 _ (rdC_mem hv.1 hv.2),push_ws h.c h.s,?_⟩,hd,rdC_lt hv.1 hv.2⟩
    show closedB l0 l1 (denS (rdC vs n) (l.map (bindC vs) ++ st))=true
    rw [hd]
    exact h.d
theorem snd_fun {l0:List S84} {l1:List S41} (hs:schB l0 l1=true) {c:Clo} {st:List Clo} (h:Snd l0 l1 c st) (hk:c.t.f0=1) :
    0≤c.t.f1∧c.t.f1 < (l1.length:Int)∧(pushC c st).length=(rd_T41 l1 c.t.f1).f1.f0.length∧Snd l0 l1 (.mk (rd_T41 l1 c.t.f1).f2 (pushC c st)) []∧denS (.mk (rd_T41 l1 c.t.f1).f2 (pushC c st)) []=nextT l1 (denS c st):=by
  have hp:=denS_parts (st:=st) (by rw [hk]; decide) h.c
  have hd:=h.d
  rw [hp,hk] at hd
  obtain ⟨h0,h1,h2,h3⟩:=closed_parts hs hd
  have hr:=ready_of hs hd rfl
  have hlen:(pushC c st).length=(rd_T41 l1 c.t.f1).f1.f0.length:=by have:=h2.1; rw [denL_len] at this; exact this
  have hn:den (.mk (rd_T41 l1 c.t.f1).f2 (pushC c st))=nextT l1 (denS c st):=by
    rw [hp,hk,den]
    unfold nextT
    rw [if_pos rfl]
  have hS:denS (.mk (rd_T41 l1 c.t.f1).f2 (pushC c st)) []=nextT l1 (denS c st):=by
    show (⟨(den (.mk (rd_T41 l1 c.t.f1).f2 (pushC c st))).f0,(den (.mk (rd_T41 l1 c.t.f1).f2 (pushC c st))).f1,(den (.mk (rd_T41 l1 c.t.f1).f2 (pushC c st))).f2 ++ denL []⟩:S36)=nextT l1 (denS c st)
    rw [hn]
    generalize nextT l1 (denS c st)=q
    cases q
    rw [denL,List.append_nil]
  refine ⟨h0,h1,hlen,⟨?_,(fun x hx=>by cases hx),?_⟩,hS⟩
  · rw [wsC]
    refine ⟨?_,wsL_of _ (push_ws h.c h.s)⟩
    have:okT ((denL (pushC c st)).length:Int) (rd_T41 l1 c.t.f1).f2=true:=hr.2.2
    rwa [denL_len] at this
  · rw [hS]
    exact closed_next hs h.d
theorem goM_total {l0:List S84} {l1:List S41} (hs:schB l0 l1=true) (fuel:Int):∀ (F:Nat) (S:Nat) (n used:Int) (c:Clo) (st:List Clo),Snd l0 l1 c st→n≤fuel→fuel - n≤F→SizeOf.sizeOf c≤S→∃ k r,goM l1 fuel k n used c st=some r:=by
  intro F
  induction F with
  | zero =>
    intro S
    induction S with
    | zero=>intro n used c st h hn hF hS; cases c; simp at hS
    | succ S ih =>
      intro n used c st h hn hF hS
      by_cases hu:1048576 < used
      · exact ⟨1,_,by rw [goM,if_pos hu]⟩
      by_cases h0:c.t.f0=0
      · obtain ⟨_,_,h1,_,h2⟩:=snd_var h h0
        obtain ⟨k,r,hk⟩:=ih n (used+newC c.t.f2) _ _ h1 hn hF (by omega)
        exact ⟨k+1,r,by rw [goM,if_neg hu,if_pos h0]; exact hk⟩
      by_cases h1:c.t.f0=1
      · exact ⟨1,_,by rw [goM,if_neg hu,if_neg h0,if_pos h1,if_pos (by omega)]⟩
      · exact ⟨1,_,by rw [goM,if_neg hu,if_neg h0,if_neg h1]⟩
  | succ F ihF =>
    intro S
    induction S with
    | zero=>intro n used c st h hn hF hS; cases c; simp at hS
    | succ S ih =>
      intro n used c st h hn hF hS
      by_cases hu:1048576 < used
      · exact ⟨1,_,by rw [goM,if_pos hu]⟩
      by_cases h0:c.t.f0=0
      · obtain ⟨_,_,h1,_,h2⟩:=snd_var h h0
        obtain ⟨k,r,hk⟩:=ih n (used+newC c.t.f2) _ _ h1 hn hF (by omega)
        exact ⟨k+1,r,by rw [goM,if_neg hu,if_pos h0]; exact hk⟩
      by_cases h1:c.t.f0=1
      · by_cases hf:n=fuel
        · exact ⟨1,_,by rw [goM,if_neg hu,if_neg h0,if_pos h1,if_pos hf]⟩
        · obtain ⟨_,_,hl,hsn,_⟩:=snd_fun hs h h1
          obtain ⟨k,r,hk⟩:=ihF _ (n+1) (used+newC c.t.f2+1) _ _ hsn (by omega) (by omega) (Nat.le_refl _)
          refine ⟨k+1,r,?_⟩
          rw [goM,if_neg hu,if_neg h0,if_pos h1,if_neg hf,List.take_of_length_le (by omega),List.drop_eq_nil_of_le (by omega)]
          exact hk
      · exact ⟨1,_,by rw [goM,if_neg hu,if_neg h0,if_neg h1]⟩
def GoR.add (r:GoR) (d:Int):GoR:=if r.e=0 then { r with n:=r.n+d } else r
end Go.Proofs.Ytkgknidogelffaa.I
namespace Go.Proofs.Ytkgknidogelffaa.I
open Go.RowKit Go.Proofs.YtkgknidogelffaaW.PrintWords Go.Proofs.YtkgknidogelffaaW.PrintLast Go.Proofs.YtkgknidogelffaaW.PrintMore
set_option linter.unusedVariables false
set_option maxRecDepth 100000
def Row (w:World) (ok:Nat→Prop) (a:Value) (vs:List Value):Prop:=Kd.V (Kd.raw 1) 85 w 0 ok a (vs.map (fun v=>[v]))
def TmAt (w:World) (ok:Nat→Prop) (t:S36) (ad:Addr):Prop:=Kd.F k36 w ok (some ad) 1 [t]
mutual
/-- A closure in memory, in blocks of ok. -/
def CM (w:World) (ok:Nat→Prop):Clo→Value→Prop
  | .mk t vs,v=>∃ (g:Nat) (ad:Addr) (a:Value) (us:List Value),v=.pointer (some ⟨g,0,none⟩)∧ok g∧w.heap[g]?=some (.cells #[.pointer (some ad),a] 89 (0,0))∧TmAt w ok t ad∧Row w ok a us∧CML w ok vs us
def CML (w:World) (ok:Nat→Prop):List Clo→List Value→Prop
  | [],us=>us=[]
  | x :: xs,us=>∃ v us',us=v :: us'∧CM w ok x v∧CML w ok xs us'
end
mutual
theorem CM_imp {w w1:World} {ok ok1:Nat→Prop} (hm:∀ k,ok k→k < w.heap.size→w1.heap[k]?=w.heap[k]?) (ho:∀ k,ok k→k < w.heap.size→ok1 k):∀ (x:Clo) (v:Value),CM w ok x v→CM w1 ok1 x v
  | .mk t vs,v,h=>by
    unfold CM at h ⊢
    obtain ⟨g,ad,a,us,e,h0,hg,ht,hr,hl⟩:=h
    exact ⟨g,ad,a,us,e,ho g h0 (blk_lt hg),(hm g h0 (blk_lt hg)).trans hg,Kd.F_mono (Kd.F_step (Kd.F_bound ht) (fun k hk hlt=>hm k hk.1 hlt)) (fun k hk=>ho k hk.1 hk.2),Kd.V_mono (Kd.V_step (Kd.V_bound hr) (fun k hk hlt=>hm k hk.1 hlt)) (fun k hk=>ho k hk.1 hk.2),CML_imp hm ho vs us hl⟩
theorem CML_imp {w w1:World} {ok ok1:Nat→Prop} (hm:∀ k,ok k→k < w.heap.size→w1.heap[k]?=w.heap[k]?) (ho:∀ k,ok k→k < w.heap.size→ok1 k):∀ (l:List Clo) (us:List Value),CML w ok l us→CML w1 ok1 l us
  | [],us,h=>by unfold CML at h ⊢; exact h
  | x :: xs,us,h=>by
    unfold CML at h ⊢
    obtain ⟨v,us',e,h1,h2⟩:=h
    exact ⟨v,us',e,CM_imp hm ho x v h1,CML_imp hm ho xs us' h2⟩
end
theorem CM_below {w w1:World} {ok:Nat→Prop} (hb:Below w.heap.size w w1) {x:Clo} {v:Value} (h:CM w ok x v):CM w1 ok x v:=CM_imp (fun k _ hk=>hb.block k hk) (fun _ h _=>h) x v h
theorem CML_len {w:World} {ok:Nat→Prop}:∀ (l:List Clo) (us:List Value),CML w ok l us→l.length=us.length
  | [],us,h=>by unfold CML at h; rw [h]; rfl
  | x :: xs,us,h=>by
    unfold CML at h
    obtain ⟨v,us',e,h1,h2⟩:=h
    rw [e,List.length_cons,List.length_cons,CML_len xs us' h2]
theorem CML_at {w:World} {ok:Nat→Prop}:∀ (l:List Clo) (us:List Value),CML w ok l us→∀ i (h:i < l.length) (h2:i < us.length),CM w ok l[i] us[i]
  | [],us,_,i,h,_=>absurd h (Nat.not_lt_zero _)
  | x :: xs,us,hl,i,h,h2=>by
    unfold CML at hl
    obtain ⟨v,us',e,h1,h3⟩:=hl
    subst e
    cases i with
    | zero=>exact h1
    | succ i=>exact CML_at xs us' h3 i (by simpa using h) (by simpa using h2)
theorem CML_nil {w:World} {ok:Nat→Prop}:CML w ok [] []:=by unfold CML; rfl
theorem CML_app {w:World} {ok:Nat→Prop}:∀ (l:List Clo) (us:List Value) (m:List Clo) (xs:List Value),CML w ok l us→CML w ok m xs→CML w ok (l ++ m) (us ++ xs)
  | [],us,m,xs,h,h2=>by unfold CML at h; subst h; exact h2
  | x :: l,us,m,xs,h,h2=>by
    unfold CML at h
    obtain ⟨v,us',e,h1,h3⟩:=h
    subst e
    show CML w ok (x :: (l ++ m)) (v :: (us' ++ xs))
    unfold CML
    exact ⟨v,_,rfl,h1,CML_app l us' m xs h3 h2⟩
theorem CML_one {w:World} {ok:Nat→Prop} {x:Clo} {v:Value} (h:CM w ok x v):CML w ok [x] [v]:=by
  unfold CML
  exact ⟨v,[],rfl,h,CML_nil⟩
theorem CML_snoc {w:World} {ok:Nat→Prop} {l:List Clo} {us:List Value} {x:Clo} {v:Value} (h:CML w ok l us) (hx:CM w ok x v):CML w ok (l ++ [x]) (us ++ [v]):=CML_app l us [x] [v] h (CML_one hx)
theorem CML_take {w:World} {ok:Nat→Prop}:∀ (n:Nat) (l:List Clo) (us:List Value),CML w ok l us→CML w ok (l.take n) (us.take n)
  | 0,_,_,_=>by rw [List.take_zero,List.take_zero]; exact CML_nil
  | n+1,[],us,h=>by unfold CML at h; subst h; exact CML_nil
  | n+1,x :: xs,us,h=>by
    unfold CML at h
    obtain ⟨v,us',e,h1,h3⟩:=h
    subst e
    rw [List.take_succ_cons,List.take_succ_cons]
    unfold CML
    exact ⟨v,_,rfl,h1,CML_take n xs us' h3⟩
theorem TmAt_cells {w:World} {ok:Nat→Prop} {t:S36} {ad:Addr} (h:TmAt w ok t ad):∃ A c,w.cell? ad=some (.int .i64 t.f0)∧w.cell? ⟨ad.block,ad.off+1,none⟩=some (.int .i64 t.f1)∧w.cell? ⟨ad.block,ad.off+2,none⟩=some (.slice A t.f2.length c)∧t.f2.length≤c∧Kd.F k36 w ok A t.f2.length t.f2:=by
  have hv:=Kd.V_mk (e:=36) (base:=0) (show (1:Nat)≤1 from Nat.le_refl 1) h
  obtain ⟨cs,hl,hK,hc⟩:=Kd.V_get hv z36 0 (Int.le_refl 0) (show (0:Int) < ((1:Nat):Int) from by omega)
  have hK:Kd.FK k36 w ok t cs:=hK
  obtain ⟨A,c,rfl,l2,hF⟩:=k36_openF hK
  refine ⟨A,c,?_,?_,?_,l2,hF⟩
  · exact hc 0 _ rfl
  · exact hc 1 _ rfl
  · exact hc 2 _ rfl
end Go.Proofs.Ytkgknidogelffaa.I
namespace Go.Proofs.Ytkgknidogelffaa.I
open Go.RowKit Go.Proofs.YtkgknidogelffaaW.PrintWords Go.Proofs.YtkgknidogelffaaW.PrintLast Go.Proofs.YtkgknidogelffaaW.PrintMore
set_option linter.unusedVariables false
set_option maxRecDepth 100000
structure MS where
  c:Clo
  st:List Clo
  used:Int
  path:List Int
  known:Bool
  full:Bool
structure MP where
  gm:Nat
  gS:Nat
  vn:Value
  As:Option Addr
  cs:Nat
  sv:List Value
  Ap:Option Addr
  cp:Nat
def MP.own (p:MP) (k:Nat):Prop:=k=p.gm∨(Value.slice p.As p.sv.length p.cs).ownBlock=some k∨(Value.slice p.Ap 0 p.cp).ownBlock=some k
structure MM (w:World) (lo:Nat) (ok:Nat→Prop) (l1:List S41) (s:MS) (p:MP):Prop where
  cel:w.heap[p.gm]?=some (.cells #[.pointer (some ⟨p.gS,0,none⟩),p.vn,.slice p.As s.st.length p.cs,.int .i64 s.used,.slice p.Ap s.path.length p.cp,.bool s.known,.bool s.full] 93 (0,0))
  now:CM w ok s.c p.vn
  stk:CML w ok s.st.reverse p.sv
  row:w.ownsRow lo 85 1 (.slice p.As s.st.length p.cs) s.st.length p.sv
  pth:w.ownsRow lo 3 1 (.slice p.Ap s.path.length p.cp) s.path.length (s.path.map (Value.int .i64))
  sch:∃ A0 n0 c0 A1 c1,w.heap[p.gS]?=some (.cells #[.slice A0 n0 c0,.slice A1 l1.length c1] 25 (0,0))∧Kd.V k41 41 w 0 ok (.slice A1 l1.length c1) l1
  oS:ok p.gS
  low:lo≤p.gm
  apt:∀ k,p.own k→¬ ok k
theorem own_block_n {A:Option Addr} {n m c:Nat}:(Value.slice A n c).ownBlock=(Value.slice A m c).ownBlock:=by cases A <;> rfl
theorem MM.len {w:World} {lo:Nat} {ok:Nat→Prop} {l1:List S41} {s:MS} {p:MP} (h:MM w lo ok l1 s p):s.st.length=p.sv.length:=by
  have:=CML_len _ _ h.stk
  rwa [List.length_reverse] at this
theorem MM.frame {w w':World} {lo:Nat} {ok:Nat→Prop} {l1:List S41} {s:MS} {p:MP} (h:MM w lo ok l1 s p) (hk:∀ k,(ok k∨p.own k)→k < w.heap.size→w'.heap[k]?=w.heap[k]?) (hsz:w.heap.size≤w'.heap.size):MM w' lo ok l1 s p:=by
  have hrow:∀ {e:TypeId} {v:Value} {n:Nat} {xs:List Value},w.ownsRow lo e 1 v n xs→(∀ k,v.ownBlock=some k→p.own k)→w'.ownsRow lo e 1 v n xs:=fun {e v n xs} hr ho=>by
    obtain ⟨h1,h2⟩:=hr
    refine ⟨h1,?_⟩
    rcases h2 with h2 | ⟨g,cap,cur,hv,hb,hg,r⟩
    · exact .inl h2
    · have e1:v.ownBlock=some g:=by rw [hv]; rfl
      exact .inr ⟨g,cap,cur,hv,hb,(hk g (.inr (ho g e1)) (blk_lt hg)).trans hg,r⟩
  obtain ⟨A0,n0,c0,A1,c1,hS,hV⟩:=h.sch
  exact ⟨(hk _ (.inr (.inl rfl)) (blk_lt h.cel)).trans h.cel,CM_imp (fun k ho hl=>hk k (.inl ho) hl) (fun _ h _=>h) _ _ h.now,CML_imp (fun k ho hl=>hk k (.inl ho) hl) (fun _ h _=>h) _ _ h.stk,
    hrow h.row (fun k he=>.inr (.inl (by rw [← he]; exact own_block_n))),hrow h.pth (fun k he=>.inr (.inr (by rw [← he]; exact own_block_n))),
    ⟨A0,n0,c0,A1,c1,(hk _ (.inl h.oS) (blk_lt hS)).trans hS,Kd.V_step hV (fun k ho hl=>hk k (.inl ho) hl)⟩,h.oS,h.low,h.apt⟩
theorem MM.below {w w':World} {lo:Nat} {ok:Nat→Prop} {l1:List S41} {s:MS} {p:MP} (h:MM w lo ok l1 s p) (hb:Below w.heap.size w w'):MM w' lo ok l1 s p:=h.frame (fun k _ hl=>hb.block k hl) hb.size
end Go.Proofs.Ytkgknidogelffaa.I
namespace Go.Proofs.Ytkgknidogelffaa.I
open Go.RowKit Go.Proofs.YtkgknidogelffaaW.PrintWords Go.Proofs.YtkgknidogelffaaW.PrintLast Go.Proofs.YtkgknidogelffaaW.PrintMore
attribute [local go_sem] max2_int min2_int max_two min_two max_three min_three max_four min_four
set_option linter.unusedVariables false
set_option maxRecDepth 100000
set_option linter.unusedSimpArgs false
theorem take28_snoc {l:List S36} {i:Nat} (h:i < l.length):l.take i ++ [rd_T36 l (i:Int)]=l.take (i+1):=by
  have e2:rd_T36 l (i:Int)=l[i]:=by unfold rd_T36; rw [Int.toNat_natCast,List.getD_eq_getElem?_getD,List.getElem?_eq_getElem h]; rfl
  rw [List.take_add_one,List.getElem?_eq_getElem h,e2]; rfl
set_option maxHeartbeats 8000000 in
theorem tcopy_calls (N:Nat):∀ (a b:Int) (l:List S36) (A:Option Addr) (c:Nat) (w:World),SizeOf.sizeOf l < N→tcntL l≤1000000→Kd.C k36 w A l.length l→l.length≤c →
    Calls Try.prog 30 #[.agg #[.int .i64 a,.int .i64 b,.slice A l.length c]] w fun e w'=>∃ v,e=.returned (.agg #[.int .i64 a,.int .i64 b,v])∧Kd.R k36 36 w' w.heap.size (fun _=>True) v l∧Below w.heap.size w w':=by
  have hu36:=Try.underlying36
  have hu34:=Try.underlying34
  induction N with
  | zero=>intro a b l A c w hN; omega
  | succ N ih =>
  intro a b l A c w hN ht hr hc
  have hlen:l.length≤9223372036854775807:=hr.2.1
  have HR:=Az.mk hr
  have HC:=Az.mk hc
  have HN:=Az.mk hN
  have HT:=Az.mk ht
  have HL:=Az.mk (show l.length≤1000000 from by have:=tcntL_ge l; omega)
  have IH:=Az.mk ih
  clear hr hc hN ht ih
  go_enter Try.func30,Try.ntmps30
  go_wp2_with (first
    | ((with_reducible refine gate_dst (N:=1) rfl ?_)
       refine box_event ?hg (N:=1) ?hd (cs:=#[.int .i64 a,.int .i64 b,.slice A l.length c]) (t:=36) ?hr ?_
       (case hd=>rfl)
       (case hg=>rfl)
       (case hr=>first | (go_simp; done) | (go_simp; rfl))
       intro g1 hg1 w1 hbox hb1
       have S1:=Az.mk hbox
       have HB1:=Az.mk hb1
       clear hbox hb1 hg1)
    | ((with_reducible refine gate_dst (N:=2) rfl ?_)
       refine box_event ?hg (N:=2) ?hd (cs:=#[.int .i64 0,.int .i64 0,.slice none 0 0]) (t:=36) ?hr ?_
       (case hd=>rfl)
       (case hg=>rfl)
       (case hr=>first | (go_simp; done) | (go_simp; rfl))
       intro g2 hg2 w2 hbox hb2
       have S2:=Az.mk hbox
       have S12:=Az.mk (bkB S1.out hb2)
       have HB2:=Az.mk (bst HB1.out hb2)
       have HG2:=Az.mk (show w.heap.size≤g2 from by have:=HB1.out.size; omega)
       have e0:w2.cell? ⟨g1,0,none⟩=some (.int .i64 a):=(blk_cell S12.out 0).trans rfl
       have e1:w2.cell? ⟨g1,1,none⟩=some (.int .i64 b):=(blk_cell S12.out 1).trans rfl
       clear hbox hb2 hg2 S1)
    | ((with_reducible refine gate_dst (N:=3) rfl ?_)
       refine box_event ?hg (N:=3) ?hd (cs:=#[.int .i64 0,.int .i64 0,.slice none 0 0]) (t:=36) ?hr ?_
       (case hd=>rfl)
       (case hg=>rfl)
       (case hr=>first | (go_simp; done) | (go_simp; rfl))
       intro g3 hg3 w3 hbox hb3
       have hgw:w2.heap.size≤g3:=by omega
       have Hbw:=Az.mk (bset (g:=g3) (j:=2) (v:=.slice none 0 0) (bset (g:=g3) (j:=1) (v:=.int .i64 b) (bset (g:=g3) (j:=0) (v:=.int .i64 a) hb3 hgw) hgw) hgw)
       have S3:=Az.mk (blk_put (cs':=#[.int .i64 a,.int .i64 b,.slice none 0 0]) (blk_put (cs':=#[.int .i64 a,.int .i64 b,.slice none 0 0]) (blk_put (cs':=#[.int .i64 a,.int .i64 0,.slice none 0 0]) hbox 0 (.int .i64 a) rfl) 1 (.int .i64 b) rfl) 2 (.slice none 0 0) rfl)
       have HG3:=Az.mk (show w.heap.size≤g3 from by have:=HB2.out.size; omega)
       have H23:=Az.mk (show g2≠g3 from by have:=blk_lt S2.out; omega)
       have e2:(((w3.setCell ⟨g3,0,none⟩ (.int .i64 a)).setCell ⟨g3,1,none⟩ (.int .i64 b)).setCell ⟨g3,2,none⟩ (.slice none 0 0)).cell? ⟨g1,2,none⟩=some (.slice A l.length c):=(blk_cell (bkB S12.out Hbw.out) 2).trans rfl
       have hcz0:=(blk_cell hbox 0).trans rfl
       have hfz0:=bkF hbox 0
       have hcz1:=(blk_cell hbox 1).trans rfl
       have hfz1:=bkF hbox 1
       have hcz2:=(blk_cell hbox 2).trans rfl
       have hfz2:=bkF hbox 2
       clear hbox hb3 hg3 hgw e0 e1))
  clear hcz0 hcz1 hcz2 hfz0 hfz1 hfz2 e2
  generalize (((w3.setCell ⟨g3,0,none⟩ (.int .i64 a)).setCell ⟨g3,1,none⟩ (.int .i64 b)).setCell ⟨g3,2,none⟩ (.slice none 0 0))=w4 at *
  have HB4:=Az.mk (bst HB2.out Hbw.out)
  have S24:=Az.mk (bkB S2.out Hbw.out)
  clear S12 S2 HB1 HB2 Hbw
  go_loopg [14] l.length (fun kq v14 wr=>∃ (i:Nat) (Ax:Option Addr) (cx:Nat),v14=.int .i64 (i:Int)∧Az (i+kq=l.length)∧Az (Kd.R k36 36 wr w.heap.size (fun k=>k≠g2∧k≠g3) (.slice Ax i cx) (l.take i))∧Az (wr.heap[g3]?=some (.cells #[.int .i64 a,.int .i64 b,.slice Ax i cx] 36 (0,0)))∧Az (wr.heap[g2]?=some (.cells #[.int .i64 0,.int .i64 0,.slice none 0 0] 36 (0,0)))∧Az (Below w.heap.size w wr))
  case atStart=>exact ⟨0,none,0,rfl,⟨by omega⟩,⟨Kd.R_nil _ _ _ _ _⟩,S3,S24,HB4⟩
  case round =>
    clear S3 S24 HB4
    obtain ⟨i,Ax,cx,rfl,Hi,HRx,S3,S2,HB⟩:=hrel
    by_cases hlt:i < l.length
    rotate_left
    · have hie:i=l.length:=by have:=Hi.out; omega
      subst hie
      have HRx':=HRx.out
      rw [List.take_length] at HRx'
      have HF:=Az.mk HRx'
      have d0:wr.cell? ⟨g3,0,none⟩=some (.int .i64 a):=(blk_cell S3.out 0).trans rfl
      have d1:wr.cell? ⟨g3,1,none⟩=some (.int .i64 b):=(blk_cell S3.out 1).trans rfl
      have d2:wr.cell? ⟨g3,2,none⟩=some (.slice Ax l.length cx):=(blk_cell S3.out 2).trans rfl
      have z0:wr.cell? ⟨g2,0,none⟩=some (.int .i64 0):=(blk_cell S2.out 0).trans rfl
      have z1:wr.cell? ⟨g2,1,none⟩=some (.int .i64 0):=(blk_cell S2.out 1).trans rfl
      have z2:wr.cell? ⟨g2,2,none⟩=some (.slice none 0 0):=(blk_cell S2.out 2).trans rfl
      have f0:=bkF S2.out 0
      have f1:=bkF S2.out 1
      have f2:=bkF S2.out 2
      clear HRx' HRx Hi hlt
      go_wp2_with fail
      have Sz:=blk_put (cs':=#[.int .i64 a,.int .i64 b,.slice Ax l.length cx]) (blk_put (cs':=#[.int .i64 a,.int .i64 b,.slice none 0 0]) (blk_put (cs':=#[.int .i64 a,.int .i64 0,.slice none 0 0]) S2.out 0 (.int .i64 a) rfl) 1 (.int .i64 b) rfl) 2 (.slice Ax l.length cx) rfl
      refine bodyPost_ret (results_cell_row rfl _ _ g2 36 #[.int .i64 a,.int .i64 b,.slice Ax l.length cx] (0,0) _ rfl Sz Try.underlying36 rfl (by kernel_rfl)) rfl ?_
      exact ⟨_,rfl,Kd.R_mono (Kd.R_far (p:=⟨g2,2,none⟩) (Kd.R_far (p:=⟨g2,1,none⟩) (Kd.R_far (p:=⟨g2,0,none⟩) HF.out (fun k hk=>hk.1) (.int .i64 a)) (fun k hk=>hk.1) (.int .i64 b)) (fun k hk=>hk.1) (.slice Ax l.length cx)) (fun _ _=>trivial),bset (bset (bset HB.out HG2.out) HG2.out) HG2.out⟩
    cases gk with
    | zero=>exact absurd Hi.out (by omega)
    | succ k1 =>
    obtain ⟨ad,A4,c4,he,hx2,hx3,hx4,hl4,hC4⟩:=at_T36 HR.out (i:Int) (by omega) (by omega)
    cases he
    replace hx2:=cell_up HB.out hx2
    replace hx3:=cell_up HB.out hx3
    replace hx4:=cell_up HB.out hx4
    rw [Int.toNat_natCast] at hx2 hx3 hx4
    have HC4:=Az.mk (Kd.C_below hC4 HB.out)
    have Hl4:=Az.mk hl4
    have HSN:=Az.mk (take28_snoc hlt)
    have HSZ:=Az.mk (show SizeOf.sizeOf (rd_T36 l (i:Int)).f2 < N from by have:=rd_T36_mem l i hlt; have:=HN.out; omega)
    have HTC:=Az.mk (show tcntL (rd_T36 l (i:Int)).f2≤1000000 from by have:=tcnt_child l i hlt; have:=HT.out; omega)
    have Hlt:=Az.mk hlt
    have q1:(0≤(i:Int))=True:=eq_true (by omega)
    have q2:((i:Int) < (l.length:Int))=True:=eq_true (by omega)
    have q3:(i < l.length)=True:=eq_true (by omega)
    clear hl4 hC4
    generalize rd_T36 l (i:Int)=x at *
    go_upto_region 5 with (
      (with_reducible refine gate_dst (N:=5) rfl ?_)
      refine box_event ?hg (N:=5) ?hd (cs:=#[.int .i64 0,.int .i64 0,.slice none 0 0]) (t:=36) ?hr ?_
      (case hd=>rfl)
      (case hg=>rfl)
      (case hr=>first | (go_simp; done) | (go_simp; rfl))
      intro gi hgi w6 hbox hbb
      have hgw:wr.heap.size≤gi:=by omega
      have Hbw:=Az.mk (bset (g:=gi) (j:=2) (v:=.slice A4 x.f2.length c4) (bset (g:=gi) (j:=1) (v:=.int .i64 x.f1) (bset (g:=gi) (j:=0) (v:=.int .i64 x.f0) hbb hgw) hgw) hgw)
      have Sgi:=Az.mk (blk_put (cs':=#[.int .i64 x.f0,.int .i64 x.f1,.slice A4 x.f2.length c4]) (blk_put (cs':=#[.int .i64 x.f0,.int .i64 x.f1,.slice none 0 0]) (blk_put (cs':=#[.int .i64 x.f0,.int .i64 0,.slice none 0 0]) hbox 0 (.int .i64 x.f0) rfl) 1 (.int .i64 x.f1) rfl) 2 (.slice A4 x.f2.length c4) rfl)
      have hcz0:=(blk_cell hbox 0).trans rfl
      have hfz0:=bkF hbox 0
      have hcz1:=(blk_cell hbox 1).trans rfl
      have hfz1:=bkF hbox 1
      have hcz2:=(blk_cell hbox 2).trans rfl
      have hfz2:=bkF hbox 2
      clear hbox hbb hgi hgw)
    clear hcz0 hcz1 hcz2 hfz0 hfz1 hfz2 hx2 hx3 hx4
    generalize (((w6.setCell ⟨gi,0,none⟩ (.int .i64 x.f0)).setCell ⟨gi,1,none⟩ (.int .i64 x.f1)).setCell ⟨gi,2,none⟩ (.slice A4 x.f2.length c4))=wq at *
    have HBq:=Az.mk (bst HB.out Hbw.out)
    have HRq:=Az.mk (Kd.R_below HRx.out Hbw.out)
    have S3q:=Az.mk (bkB S3.out Hbw.out)
    have S2q:=Az.mk (bkB S2.out Hbw.out)
    have HCq:=Az.mk (Kd.C_below HC4.out Hbw.out)
    have n0:wq.cell? ⟨gi,0,none⟩=some (.int .i64 x.f0):=(blk_cell Sgi.out 0).trans rfl
    have n1:wq.cell? ⟨gi,1,none⟩=some (.int .i64 x.f1):=(blk_cell Sgi.out 1).trans rfl
    have n2:wq.cell? ⟨gi,2,none⟩=some (.slice A4 x.f2.length c4):=(blk_cell Sgi.out 2).trans rfl
    have m1:wq.cell? ⟨g3,2,none⟩=some (.slice Ax i cx):=(blk_cell S3q.out 2).trans rfl
    clear HB HRx S3 S2 HC4 Hbw Sgi
    go_region_law
      (first
        | (refine Kd.R_append_step k36 (w0:=w) w.heap.size rfl (.tmp 19) (.tmp 22) 34 36 (.agg #[.int .i64 0,.int .i64 0,.slice none 0 0]) 40 rfl Try.underlying34 (by kernel_rfl) rfl (by decide) (by omega) (.slice Ax i cx) (l.take i) x [.int .i64 x.f0,.int .i64 x.f1,.slice A6 x.f2.length c6] (fun k=>k≠g2∧k≠g3) (fun k=>wq.heap.size≤k) rfl rfl (k36_mkM _ _ _ x HR4.out) (fun k hk=>⟨⟨by have:=blk_lt S2q.out; omega,by have:=blk_lt S3q.out; omega⟩,fun e=>by have:=Kd.R_lt HRq.out k e.symm; omega⟩) (fun k hk=>⟨by have:=blk_lt S2A.out; omega,by have:=blk_lt S3A.out; omega⟩) HRA.out HBA.out HBA.out.size (by rw [List.length_take]; have:=HL.out; omega) ?_
           intro v2 w7 hrf hb7 hg7 hat
           rw [HSN.out] at hrf
           obtain ⟨A5,c5,e5⟩:=Kd.R_slice hrf
           rw [List.length_take,Nat.min_eq_left (by have:=Hlt.out; omega)] at e5
           subst e5
           have HR7:=Az.mk hrf
           have HB7:=Az.mk hb7
           have S37:=Az.mk (blk_grown S3A.out hg7 (Kd.R_away HRA.out (fun k hk=>hk.2)))
           have S27:=Az.mk (blk_grown S2A.out hg7 (Kd.R_away HRA.out (fun k hk=>hk.1)))
           have m7:w7.cell? ⟨g3,2,none⟩=some (.slice Ax i cx):=(blk_cell S37.out 2).trans rfl
           have f7:=bkF S37.out 2
           clear hrf hb7 hg7 hat a1)
        | (go_simp
           go_at_call 30
           (with_reducible refine (IH.out x.f0 x.f1 x.f2 A4 c4 wq.drew HSZ.out HTC.out (Kd.C_below HCq.out (below_drew (Below.refl _ _))) Hl4.out).mono ?_)
           rintro e9 wA ⟨v4,rfl,hR4,hbA⟩
           obtain ⟨A6,c6,rfl⟩:=Kd.R_slice hR4
           have HR4:=Az.mk (Kd.R_lower (Kd.R_mono (Kd.R_bound hR4) (fun k hk=>(show wq.heap.size≤k from hk.2.1))) (show w.heap.size≤wq.drew.heap.size from HBq.out.size))
           have HRA:=Az.mk (Kd.R_below (Kd.R_drew HRq.out) hbA)
           have HBA:=Az.mk (bst (below_drew HBq.out) hbA)
           have S3A:=Az.mk (bkB (blk_drew S3q.out) hbA)
           have S2A:=Az.mk (bkB (blk_drew S2q.out) hbA)
           have a1:wA.cell? ⟨g3,2,none⟩=some (.slice Ax i cx):=(blk_cell S3A.out 2).trans rfl
           have a2:=cel1 a1
           clear hR4 hbA))
    all_goals (
      clear n0 n1 n2 m1 m7 f7 a2
      have HR8:=Az.mk (Kd.R_far (p:=⟨g3,2,none⟩) HR7.out (fun k hk=>hk.2) (.slice A5 (i+1) c5))
      have S38:=Az.mk (blk_put (cs':=#[.int .i64 a,.int .i64 b,.slice A5 (i+1) c5]) S37.out 2 (.slice A5 (i+1) c5) rfl)
      have S28:=Az.mk (blk_far (p:=⟨g3,2,none⟩) S27.out (fun he=>H23.out he) (.slice A5 (i+1) c5))
      have HB8:=Az.mk (bset (j:=2) (v:=.slice A5 (i+1) c5) HB7.out HG3.out)
      go_wp2_with fail
      go_roundg k1
      case measure=>omega
      case rel=>exact ⟨i+1,A5,c5,by go_num,⟨by have:=Hi.out; omega⟩,HR8,S38,S28,HB8⟩)
def virgationref02_Copy.f (a b:Int) (l:List S36):Option (Int × Int × List S36):=if tcntL l≤1000000 then some (a,b,l) else none
theorem virgationref02_Copy.calls (a b:Int) (A:Option Addr) (c:Nat) (l:List S36) (r1 r2:Int) (r3:List S36) (w:World) (hr:Kd.C k36 w A l.length l) (hc:l.length≤c) (h:virgationref02_Copy.f a b l=some (r1,r2,r3)) :
    Calls Try.prog 30 #[.agg #[.int .i64 a,.int .i64 b,.slice A l.length c]] w fun e w'=>∃ v:Value,e=.returned (.agg #[.int .i64 r1,.int .i64 r2,v])∧Kd.R k36 36 w' w.heap.size (fun _=>True) v r3∧Below w.heap.size w w':=by
  unfold virgationref02_Copy.f at h
  split at h
  · rename_i ht
    injection h with h
    injection h with h1 h
    injection h with h2 h3
    subst h1 h2 h3
    exact tcopy_calls _ a b l A c w (Nat.lt_succ_self _) ht hr hc
  · cases h
end Go.Proofs.Ytkgknidogelffaa.I
namespace Go.Proofs.Ytkgknidogelffaa.I
open Go.RowKit Go.Proofs.YtkgknidogelffaaW.PrintWords Go.Proofs.YtkgknidogelffaaW.PrintLast Go.Proofs.YtkgknidogelffaaW.PrintMore
attribute [local go_sem] max2_int min2_int max_two min_two max_three min_three max_four min_four
set_option linter.unusedVariables false
set_option maxRecDepth 100000
set_option linter.unusedSimpArgs false
set_option maxHeartbeats 8000000 in
theorem copied_calls (N:Nat):∀ (a b:Int) (l:List S36) (A:Option Addr) (c:Nat) (w:World),SizeOf.sizeOf l < N→tcntL l≤1000→Kd.C k36 w A l.length l→l.length≤c →
    Calls Try.prog 33 #[.agg #[.int .i64 a,.int .i64 b,.slice A l.length c]] w fun e w'=>∃ v,e=.returned (.agg #[.int .i64 a,.int .i64 b,v])∧Kd.R k36 36 w' w.heap.size (fun _=>True) v l∧Below w.heap.size w w':=by
  have hu36:=Try.underlying36
  have hu34:=Try.underlying34
  induction N with
  | zero=>intro a b l A c w hN; omega
  | succ N ih =>
  intro a b l A c w hN ht hr hc
  have hlen:l.length≤9223372036854775807:=hr.2.1
  have HR:=Az.mk hr
  have HC:=Az.mk hc
  have HN:=Az.mk hN
  have HT:=Az.mk ht
  have HL:=Az.mk (show l.length≤1000 from by have:=tcntL_ge l; omega)
  have IH:=Az.mk ih
  clear hr hc hN ht ih
  go_enter Try.func33,Try.ntmps33
  go_wp2_with (first
    | ((with_reducible refine gate_dst (N:=1) rfl ?_)
       refine box_event ?hg (N:=1) ?hd (cs:=#[.int .i64 a,.int .i64 b,.slice A l.length c]) (t:=36) ?hr ?_
       (case hd=>rfl)
       (case hg=>rfl)
       (case hr=>first | (go_simp; done) | (go_simp; rfl))
       intro g1 hg1 w1 hbox hb1
       have S1:=Az.mk hbox
       have HB1:=Az.mk hb1
       clear hbox hb1 hg1)
    | ((with_reducible refine gate_dst (N:=2) rfl ?_)
       refine box_event ?hg (N:=2) ?hd (cs:=#[.int .i64 0,.int .i64 0,.slice none 0 0]) (t:=36) ?hr ?_
       (case hd=>rfl)
       (case hg=>rfl)
       (case hr=>first | (go_simp; done) | (go_simp; rfl))
       intro g2 hg2 w2 hbox hb2
       have S2:=Az.mk hbox
       have S12:=Az.mk (bkB S1.out hb2)
       have HB2:=Az.mk (bst HB1.out hb2)
       have HG2:=Az.mk (show w.heap.size≤g2 from by have:=HB1.out.size; omega)
       have e0:w2.cell? ⟨g1,0,none⟩=some (.int .i64 a):=(blk_cell S12.out 0).trans rfl
       have e1:w2.cell? ⟨g1,1,none⟩=some (.int .i64 b):=(blk_cell S12.out 1).trans rfl
       clear hbox hb2 hg2 S1)
    | ((with_reducible refine gate_dst (N:=3) rfl ?_)
       refine box_event ?hg (N:=3) ?hd (cs:=#[.int .i64 0,.int .i64 0,.slice none 0 0]) (t:=36) ?hr ?_
       (case hd=>rfl)
       (case hg=>rfl)
       (case hr=>first | (go_simp; done) | (go_simp; rfl))
       intro g3 hg3 w3 hbox hb3
       have hgw:w2.heap.size≤g3:=by omega
       have Hbw:=Az.mk (bset (g:=g3) (j:=2) (v:=.slice none 0 0) (bset (g:=g3) (j:=1) (v:=.int .i64 b) (bset (g:=g3) (j:=0) (v:=.int .i64 a) hb3 hgw) hgw) hgw)
       have S3:=Az.mk (blk_put (cs':=#[.int .i64 a,.int .i64 b,.slice none 0 0]) (blk_put (cs':=#[.int .i64 a,.int .i64 b,.slice none 0 0]) (blk_put (cs':=#[.int .i64 a,.int .i64 0,.slice none 0 0]) hbox 0 (.int .i64 a) rfl) 1 (.int .i64 b) rfl) 2 (.slice none 0 0) rfl)
       have HG3:=Az.mk (show w.heap.size≤g3 from by have:=HB2.out.size; omega)
       have H23:=Az.mk (show g2≠g3 from by have:=blk_lt S2.out; omega)
       have e2:(((w3.setCell ⟨g3,0,none⟩ (.int .i64 a)).setCell ⟨g3,1,none⟩ (.int .i64 b)).setCell ⟨g3,2,none⟩ (.slice none 0 0)).cell? ⟨g1,2,none⟩=some (.slice A l.length c):=(blk_cell (bkB S12.out Hbw.out) 2).trans rfl
       have hcz0:=(blk_cell hbox 0).trans rfl
       have hfz0:=bkF hbox 0
       have hcz1:=(blk_cell hbox 1).trans rfl
       have hfz1:=bkF hbox 1
       have hcz2:=(blk_cell hbox 2).trans rfl
       have hfz2:=bkF hbox 2
       clear hbox hb3 hg3 hgw e0 e1))
  clear hcz0 hcz1 hcz2 hfz0 hfz1 hfz2 e2
  generalize (((w3.setCell ⟨g3,0,none⟩ (.int .i64 a)).setCell ⟨g3,1,none⟩ (.int .i64 b)).setCell ⟨g3,2,none⟩ (.slice none 0 0))=w4 at *
  have HB4:=Az.mk (bst HB2.out Hbw.out)
  have S24:=Az.mk (bkB S2.out Hbw.out)
  clear S12 S2 HB1 HB2 Hbw
  go_loopg [14] l.length (fun kq v14 wr=>∃ (i:Nat) (Ax:Option Addr) (cx:Nat),v14=.int .i64 (i:Int)∧Az (i+kq=l.length)∧Az (Kd.R k36 36 wr w.heap.size (fun k=>k≠g2∧k≠g3) (.slice Ax i cx) (l.take i))∧Az (wr.heap[g3]?=some (.cells #[.int .i64 a,.int .i64 b,.slice Ax i cx] 36 (0,0)))∧Az (wr.heap[g2]?=some (.cells #[.int .i64 0,.int .i64 0,.slice none 0 0] 36 (0,0)))∧Az (Below w.heap.size w wr))
  case atStart=>exact ⟨0,none,0,rfl,⟨by omega⟩,⟨Kd.R_nil _ _ _ _ _⟩,S3,S24,HB4⟩
  case round =>
    clear S3 S24 HB4
    obtain ⟨i,Ax,cx,rfl,Hi,HRx,S3,S2,HB⟩:=hrel
    by_cases hlt:i < l.length
    rotate_left
    · have hie:i=l.length:=by have:=Hi.out; omega
      subst hie
      have HRx':=HRx.out
      rw [List.take_length] at HRx'
      have HF:=Az.mk HRx'
      have d0:wr.cell? ⟨g3,0,none⟩=some (.int .i64 a):=(blk_cell S3.out 0).trans rfl
      have d1:wr.cell? ⟨g3,1,none⟩=some (.int .i64 b):=(blk_cell S3.out 1).trans rfl
      have d2:wr.cell? ⟨g3,2,none⟩=some (.slice Ax l.length cx):=(blk_cell S3.out 2).trans rfl
      have z0:wr.cell? ⟨g2,0,none⟩=some (.int .i64 0):=(blk_cell S2.out 0).trans rfl
      have z1:wr.cell? ⟨g2,1,none⟩=some (.int .i64 0):=(blk_cell S2.out 1).trans rfl
      have z2:wr.cell? ⟨g2,2,none⟩=some (.slice none 0 0):=(blk_cell S2.out 2).trans rfl
      have f0:=bkF S2.out 0
      have f1:=bkF S2.out 1
      have f2:=bkF S2.out 2
      clear HRx' HRx Hi hlt
      go_wp2_with fail
      have Sz:=blk_put (cs':=#[.int .i64 a,.int .i64 b,.slice Ax l.length cx]) (blk_put (cs':=#[.int .i64 a,.int .i64 b,.slice none 0 0]) (blk_put (cs':=#[.int .i64 a,.int .i64 0,.slice none 0 0]) S2.out 0 (.int .i64 a) rfl) 1 (.int .i64 b) rfl) 2 (.slice Ax l.length cx) rfl
      refine bodyPost_ret (results_cell_row rfl _ _ g2 36 #[.int .i64 a,.int .i64 b,.slice Ax l.length cx] (0,0) _ rfl Sz Try.underlying36 rfl (by kernel_rfl)) rfl ?_
      exact ⟨_,rfl,Kd.R_mono (Kd.R_far (p:=⟨g2,2,none⟩) (Kd.R_far (p:=⟨g2,1,none⟩) (Kd.R_far (p:=⟨g2,0,none⟩) HF.out (fun k hk=>hk.1) (.int .i64 a)) (fun k hk=>hk.1) (.int .i64 b)) (fun k hk=>hk.1) (.slice Ax l.length cx)) (fun _ _=>trivial),bset (bset (bset HB.out HG2.out) HG2.out) HG2.out⟩
    cases gk with
    | zero=>exact absurd Hi.out (by omega)
    | succ k1 =>
    obtain ⟨ad,A4,c4,he,hx2,hx3,hx4,hl4,hC4⟩:=at_T36 HR.out (i:Int) (by omega) (by omega)
    cases he
    replace hx2:=cell_up HB.out hx2
    replace hx3:=cell_up HB.out hx3
    replace hx4:=cell_up HB.out hx4
    rw [Int.toNat_natCast] at hx2 hx3 hx4
    have HC4:=Az.mk (Kd.C_below hC4 HB.out)
    have Hl4:=Az.mk hl4
    have HSN:=Az.mk (take28_snoc hlt)
    have HSZ:=Az.mk (show SizeOf.sizeOf (rd_T36 l (i:Int)).f2 < N from by have:=rd_T36_mem l i hlt; have:=HN.out; omega)
    have HTC:=Az.mk (show tcntL (rd_T36 l (i:Int)).f2≤1000 from by have:=tcnt_child l i hlt; have:=HT.out; omega)
    have Hlt:=Az.mk hlt
    have q1:(0≤(i:Int))=True:=eq_true (by omega)
    have q2:((i:Int) < (l.length:Int))=True:=eq_true (by omega)
    have q3:(i < l.length)=True:=eq_true (by omega)
    clear hl4 hC4
    generalize rd_T36 l (i:Int)=x at *
    go_upto_region 5 with (
      (with_reducible refine gate_dst (N:=5) rfl ?_)
      refine box_event ?hg (N:=5) ?hd (cs:=#[.int .i64 0,.int .i64 0,.slice none 0 0]) (t:=36) ?hr ?_
      (case hd=>rfl)
      (case hg=>rfl)
      (case hr=>first | (go_simp; done) | (go_simp; rfl))
      intro gi hgi w6 hbox hbb
      have hgw:wr.heap.size≤gi:=by omega
      have Hbw:=Az.mk (bset (g:=gi) (j:=2) (v:=.slice A4 x.f2.length c4) (bset (g:=gi) (j:=1) (v:=.int .i64 x.f1) (bset (g:=gi) (j:=0) (v:=.int .i64 x.f0) hbb hgw) hgw) hgw)
      have Sgi:=Az.mk (blk_put (cs':=#[.int .i64 x.f0,.int .i64 x.f1,.slice A4 x.f2.length c4]) (blk_put (cs':=#[.int .i64 x.f0,.int .i64 x.f1,.slice none 0 0]) (blk_put (cs':=#[.int .i64 x.f0,.int .i64 0,.slice none 0 0]) hbox 0 (.int .i64 x.f0) rfl) 1 (.int .i64 x.f1) rfl) 2 (.slice A4 x.f2.length c4) rfl)
      have hcz0:=(blk_cell hbox 0).trans rfl
      have hfz0:=bkF hbox 0
      have hcz1:=(blk_cell hbox 1).trans rfl
      have hfz1:=bkF hbox 1
      have hcz2:=(blk_cell hbox 2).trans rfl
      have hfz2:=bkF hbox 2
      clear hbox hbb hgi hgw)
    clear hcz0 hcz1 hcz2 hfz0 hfz1 hfz2 hx2 hx3 hx4
    generalize (((w6.setCell ⟨gi,0,none⟩ (.int .i64 x.f0)).setCell ⟨gi,1,none⟩ (.int .i64 x.f1)).setCell ⟨gi,2,none⟩ (.slice A4 x.f2.length c4))=wq at *
    have HBq:=Az.mk (bst HB.out Hbw.out)
    have HRq:=Az.mk (Kd.R_below HRx.out Hbw.out)
    have S3q:=Az.mk (bkB S3.out Hbw.out)
    have S2q:=Az.mk (bkB S2.out Hbw.out)
    have HCq:=Az.mk (Kd.C_below HC4.out Hbw.out)
    have n0:wq.cell? ⟨gi,0,none⟩=some (.int .i64 x.f0):=(blk_cell Sgi.out 0).trans rfl
    have n1:wq.cell? ⟨gi,1,none⟩=some (.int .i64 x.f1):=(blk_cell Sgi.out 1).trans rfl
    have n2:wq.cell? ⟨gi,2,none⟩=some (.slice A4 x.f2.length c4):=(blk_cell Sgi.out 2).trans rfl
    have m1:wq.cell? ⟨g3,2,none⟩=some (.slice Ax i cx):=(blk_cell S3q.out 2).trans rfl
    clear HB HRx S3 S2 HC4 Hbw Sgi
    go_region_law
      (first
        | (refine Kd.R_append_step k36 (w0:=w) w.heap.size rfl (.tmp 19) (.tmp 22) 34 36 (.agg #[.int .i64 0,.int .i64 0,.slice none 0 0]) 40 rfl Try.underlying34 (by kernel_rfl) rfl (by decide) (by omega) (.slice Ax i cx) (l.take i) x [.int .i64 x.f0,.int .i64 x.f1,.slice A6 x.f2.length c6] (fun k=>k≠g2∧k≠g3) (fun k=>wq.heap.size≤k) rfl rfl (k36_mkM _ _ _ x HR4.out) (fun k hk=>⟨⟨by have:=blk_lt S2q.out; omega,by have:=blk_lt S3q.out; omega⟩,fun e=>by have:=Kd.R_lt HRq.out k e.symm; omega⟩) (fun k hk=>⟨by have:=blk_lt S2A.out; omega,by have:=blk_lt S3A.out; omega⟩) HRA.out HBA.out HBA.out.size (by rw [List.length_take]; have:=HL.out; omega) ?_
           intro v2 w7 hrf hb7 hg7 hat
           rw [HSN.out] at hrf
           obtain ⟨A5,c5,e5⟩:=Kd.R_slice hrf
           rw [List.length_take,Nat.min_eq_left (by have:=Hlt.out; omega)] at e5
           subst e5
           have HR7:=Az.mk hrf
           have HB7:=Az.mk hb7
           have S37:=Az.mk (blk_grown S3A.out hg7 (Kd.R_away HRA.out (fun k hk=>hk.2)))
           have S27:=Az.mk (blk_grown S2A.out hg7 (Kd.R_away HRA.out (fun k hk=>hk.1)))
           have m7:w7.cell? ⟨g3,2,none⟩=some (.slice Ax i cx):=(blk_cell S37.out 2).trans rfl
           have f7:=bkF S37.out 2
           clear hrf hb7 hg7 hat a1)
        | (go_simp
           go_at_call 33
           (with_reducible refine (IH.out x.f0 x.f1 x.f2 A4 c4 wq.drew HSZ.out HTC.out (Kd.C_below HCq.out (below_drew (Below.refl _ _))) Hl4.out).mono ?_)
           rintro e9 wA ⟨v4,rfl,hR4,hbA⟩
           obtain ⟨A6,c6,rfl⟩:=Kd.R_slice hR4
           have HR4:=Az.mk (Kd.R_lower (Kd.R_mono (Kd.R_bound hR4) (fun k hk=>(show wq.heap.size≤k from hk.2.1))) (show w.heap.size≤wq.drew.heap.size from HBq.out.size))
           have HRA:=Az.mk (Kd.R_below (Kd.R_drew HRq.out) hbA)
           have HBA:=Az.mk (bst (below_drew HBq.out) hbA)
           have S3A:=Az.mk (bkB (blk_drew S3q.out) hbA)
           have S2A:=Az.mk (bkB (blk_drew S2q.out) hbA)
           have a1:wA.cell? ⟨g3,2,none⟩=some (.slice Ax i cx):=(blk_cell S3A.out 2).trans rfl
           have a2:=cel1 a1
           clear hR4 hbA))
    all_goals (
      clear n0 n1 n2 m1 m7 f7 a2
      have HR8:=Az.mk (Kd.R_far (p:=⟨g3,2,none⟩) HR7.out (fun k hk=>hk.2) (.slice A5 (i+1) c5))
      have S38:=Az.mk (blk_put (cs':=#[.int .i64 a,.int .i64 b,.slice A5 (i+1) c5]) S37.out 2 (.slice A5 (i+1) c5) rfl)
      have S28:=Az.mk (blk_far (p:=⟨g3,2,none⟩) S27.out (fun he=>H23.out he) (.slice A5 (i+1) c5))
      have HB8:=Az.mk (bset (j:=2) (v:=.slice A5 (i+1) c5) HB7.out HG3.out)
      go_wp2_with fail
      go_roundg k1
      case measure=>omega
      case rel=>exact ⟨i+1,A5,c5,by go_num,⟨by have:=Hi.out; omega⟩,HR8,S38,S28,HB8⟩)
end Go.Proofs.Ytkgknidogelffaa.I
namespace Go.Proofs.Ytkgknidogelffaa.I
open Go.RowKit Go.Proofs.YtkgknidogelffaaW.PrintWords Go.Proofs.YtkgknidogelffaaW.PrintLast Go.Proofs.YtkgknidogelffaaW.PrintMore
attribute [local go_sem] max2_int min2_int max_two min_two max_three min_three max_four min_four
set_option linter.unusedVariables false
set_option maxRecDepth 100000
set_option linter.unusedSimpArgs false
def HoldC (p:Prop):Prop:=p
theorem holdC {p:Prop} (h:HoldC p):p:=h
theorem cloneI (A:Option Addr) (c:Nat) (l:List (Int)) (w:World) (h:Kd.C (Kd.int .i64) w A l.length l) (hl:l.length≤4000000000) :
    Calls Try.prog 36 #[.slice A l.length c] w fun e w'=>∃ v,e=.returned v∧Kd.R (Kd.int .i64) 3 w' w.heap.size (fun _=>True) v l∧Below w.heap.size w w':=by
  have hq:=fun (w:World)=>Lib.run_eql_slice_nil (P:=Try.prog) w 26 3 A l.length c 0 0 Try.underlying26
  have H:=Az.mk h
  have HL:=Az.mk hl
  clear hl
  cases A with
  | none =>
    have h0:l=[]:=by
      obtain ⟨h1,_,h2⟩:=h
      rcases Nat.eq_zero_or_pos l.length with h3 | h3
      · exact List.eq_nil_of_length_eq_zero h3
      · obtain ⟨ad,e,_⟩:=h2 h3
        cases e
    subst h0
    clear h H HL
    simp only [List.length_nil] at hq
    go_enter Try.func36,Try.ntmps36
    go_wp2_with fail
    go_ret
    exact ⟨_,rfl,Kd.R_nil _ _ _ _ _,Below.refl _ _⟩
  | some ad =>
    clear h
    go_enter Try.func36,Try.ntmps36
    go_wp2_with (at_builtin; refine holdC ?_)
    unfold HoldC
    have hl0:Kd.R (Kd.int .i64) 3 (w.alloc (Obj.cells #[] 3)) w.heap.size (fun _=>True) (.slice (some ⟨w.heap.size,0,none⟩) 0 0) []:=⟨fun _ _=>trivial,OwnRow.lit w w.heap.size (inner:=[]) (Reps.none _ _) (Nat.le_refl _) (by simp)⟩
    refine Kd.R_append_rows (Kd.int .i64) (Rr:=Kd.K (Kd.int .i64) (w.alloc (Obj.cells #[] 3))) (w0:=w) w.heap.size rfl (.tmp 5) (.tmp 6) 26 3 (.int .i64 0) 8 rfl Try.underlying26 (by kernel_rfl) rfl (by decide) (by omega) (.slice (some ⟨w.heap.size,0,none⟩) 0 0) [] l (some ad) l.length c (fun _=>True) (fun _=>False) rfl rfl hl0 ?aR ?aK (fun _ hk=>hk.elim) (fun _ _=>trivial) (bal (Below.refl w.heap.size w) _) (bal (Below.refl w.heap.size w) _).size (by have:=HL.out; simp only [List.length_nil]; omega) ?_
    (case aR=>exact Kd.C_below H.out (bal (Below.refl w.heap.size w) _))
    (case aK=>exact fun x cs hx=>hx)
    intro v1 w2 hs4 hb4 hg4 _
    rw [List.nil_append] at hs4
    have HS:=Az.mk hs4
    have HB:=Az.mk hb4
    clear hs4 hb4 hg4 hl0 H
    go_wp2_with fail
    go_ret
    exact ⟨_,rfl,HS.out,HB.out⟩
theorem cloneC (A:Option Addr) (c:Nat) (l:List (List Value)) (w:World) (h:Kd.C (Kd.raw 1) w A l.length l) (hl:l.length≤4000000000) :
    Calls Try.prog 39 #[.slice A l.length c] w fun e w'=>∃ v,e=.returned v∧Kd.R (Kd.raw 1) 85 w' w.heap.size (fun _=>True) v l∧Below w.heap.size w w':=by
  have hq:=fun (w:World)=>Lib.run_eql_slice_nil (P:=Try.prog) w 87 85 A l.length c 0 0 Try.underlying87
  have H:=Az.mk h
  have HL:=Az.mk hl
  clear hl
  cases A with
  | none =>
    have h0:l=[]:=by
      obtain ⟨h1,_,h2⟩:=h
      rcases Nat.eq_zero_or_pos l.length with h3 | h3
      · exact List.eq_nil_of_length_eq_zero h3
      · obtain ⟨ad,e,_⟩:=h2 h3
        cases e
    subst h0
    clear h H HL
    simp only [List.length_nil] at hq
    go_enter Try.func39,Try.ntmps39
    go_wp2_with fail
    go_ret
    exact ⟨_,rfl,Kd.R_nil _ _ _ _ _,Below.refl _ _⟩
  | some ad =>
    clear h
    go_enter Try.func39,Try.ntmps39
    go_wp2_with (at_builtin; refine holdC ?_)
    unfold HoldC
    have hl0:Kd.R (Kd.raw 1) 85 (w.alloc (Obj.cells #[] 85)) w.heap.size (fun _=>True) (.slice (some ⟨w.heap.size,0,none⟩) 0 0) []:=⟨fun _ _=>trivial,OwnRow.lit w w.heap.size (inner:=[]) (Reps.none _ _) (Nat.le_refl _) (by simp)⟩
    refine Kd.R_append_rows (Kd.raw 1) (Rr:=Kd.K (Kd.raw 1) (w.alloc (Obj.cells #[] 85))) (w0:=w) w.heap.size rfl (.tmp 5) (.tmp 6) 87 85 (.pointer none) 8 rfl Try.underlying87 (by kernel_rfl) rfl (by decide) (by omega) (.slice (some ⟨w.heap.size,0,none⟩) 0 0) [] l (some ad) l.length c (fun _=>True) (fun _=>False) rfl rfl hl0 ?aR ?aK (fun _ hk=>hk.elim) (fun _ _=>trivial) (bal (Below.refl w.heap.size w) _) (bal (Below.refl w.heap.size w) _).size (by have:=HL.out; simp only [List.length_nil]; omega) ?_
    (case aR=>exact Kd.C_below H.out (bal (Below.refl w.heap.size w) _))
    (case aK=>exact fun x cs hx=>hx)
    intro v1 w2 hs4 hb4 hg4 _
    rw [List.nil_append] at hs4
    have HS:=Az.mk hs4
    have HB:=Az.mk hb4
    clear hs4 hb4 hg4 hl0 H
    go_wp2_with fail
    go_ret
    exact ⟨_,rfl,HS.out,HB.out⟩
theorem cloneS (A:Option Addr) (c:Nat) (l:List (S84)) (w:World) (h:Kd.C k84 w A l.length l) (hl:l.length≤4000000000) :
    Calls Try.prog 32 #[.slice A l.length c] w fun e w'=>∃ v,e=.returned v∧Kd.R k84 84 w' w.heap.size (fun _=>True) v l∧Below w.heap.size w w':=by
  have hq:=fun (w:World)=>Lib.run_eql_slice_nil (P:=Try.prog) w 22 84 A l.length c 0 0 Try.underlying22
  have H:=Az.mk h
  have HL:=Az.mk hl
  clear hl
  cases A with
  | none =>
    have h0:l=[]:=by
      obtain ⟨h1,_,h2⟩:=h
      rcases Nat.eq_zero_or_pos l.length with h3 | h3
      · exact List.eq_nil_of_length_eq_zero h3
      · obtain ⟨ad,e,_⟩:=h2 h3
        cases e
    subst h0
    clear h H HL
    simp only [List.length_nil] at hq
    go_enter Try.func32,Try.ntmps32
    go_wp2_with fail
    go_ret
    exact ⟨_,rfl,Kd.R_nil _ _ _ _ _,Below.refl _ _⟩
  | some ad =>
    clear h
    go_enter Try.func32,Try.ntmps32
    go_wp2_with (at_builtin; refine holdC ?_)
    unfold HoldC
    have hl0:Kd.R k84 84 (w.alloc (Obj.cells #[] 84)) w.heap.size (fun _=>True) (.slice (some ⟨w.heap.size,0,none⟩) 0 0) []:=⟨fun _ _=>trivial,OwnRow.lit w w.heap.size (inner:=[]) (Reps.none _ _) (Nat.le_refl _) (by simp)⟩
    refine Kd.R_append_rows k84 (Rr:=Kd.K k84 (w.alloc (Obj.cells #[] 84))) (w0:=w) w.heap.size rfl (.tmp 5) (.tmp 6) 22 84 (.agg #[.string ⟨#[]⟩,.int .i64 0]) 24 rfl Try.underlying22 (by kernel_rfl) rfl (by decide) (by omega) (.slice (some ⟨w.heap.size,0,none⟩) 0 0) [] l (some ad) l.length c (fun _=>True) (fun _=>False) rfl rfl hl0 ?aR ?aK (fun _ hk=>hk.elim) (fun _ _=>trivial) (bal (Below.refl w.heap.size w) _) (bal (Below.refl w.heap.size w) _).size (by have:=HL.out; simp only [List.length_nil]; omega) ?_
    (case aR=>exact Kd.C_below H.out (bal (Below.refl w.heap.size w) _))
    (case aK=>intro x cs hx; rw [k84_open hx]; exact k84_mkM _ _ _ x)
    intro v1 w2 hs4 hb4 hg4 _
    rw [List.nil_append] at hs4
    have HS:=Az.mk hs4
    have HB:=Az.mk hb4
    clear hs4 hb4 hg4 hl0 H
    go_wp2_with fail
    go_ret
    exact ⟨_,rfl,HS.out,HB.out⟩
end Go.Proofs.Ytkgknidogelffaa.I
namespace Go.Proofs.Ytkgknidogelffaa.I
open Go.RowKit Go.Proofs.YtkgknidogelffaaW.PrintWords Go.Proofs.YtkgknidogelffaaW.PrintLast Go.Proofs.YtkgknidogelffaaW.PrintMore
attribute [local go_sem] max2_int min2_int max_two min_two max_three min_three max_four min_four
set_option linter.unusedVariables false
set_option maxRecDepth 100000
set_option linter.unusedSimpArgs false
theorem own_ints {w:World} {B c:Nat} {A:Option Addr} {L:List Int} (h:w.ownsRow B 3 1 (.slice A L.length c) L.length (L.map (Value.int .i64))):Kd.V (Kd.int .i64) 3 w 0 (fun _=>True) (.slice A L.length c) L:=by
  refine Kd.V_mono (Kd.R_V (base':=0) (d:=Kd.int .i64) (e:=3) (base:=B) (ok:=fun _=>True) ⟨fun _ _=>trivial,L.map (Value.int .i64),h,by simp [show (Kd.int .i64).sz=1 from rfl],fun j p hj=>?_⟩) (fun _ _=>trivial)
  have hl:=(List.getElem?_eq_some_iff.1 hj).1
  have e:((L.map (Value.int .i64)).drop (j*(Kd.int .i64).sz)).take (Kd.int .i64).sz=[.int .i64 p]:=by
    rw [show (Kd.int .i64).sz=1 from rfl,Nat.mul_one,List.drop_eq_getElem_cons (by simpa using hl),List.getElem_map]
    rw [(List.getElem?_eq_some_iff.1 hj).2]
    rfl
  rw [e]
  rfl
theorem path_calls {w:World} {lo:Nat} {ok:Nat→Prop} {l1:List S41} {s:MS} {p:MP} (h:MM w lo ok l1 s p) (hp:s.path.length≤4000000000) :
    Calls Try.prog 13 #[.pointer (some ⟨p.gm,0,none⟩)] w fun e w'=>∃ v,e=.returned v∧Kd.R (Kd.int .i64) 3 w' w.heap.size (fun _=>True) v s.path∧Below w.heap.size w w':=by
  have hu93:=Try.underlying93
  have hu91:=Try.underlying91
  have HV:=Az.mk (Kd.V_reads' (own_ints h.pth)).2.2
  have HP:=Az.mk hp
  have c4:w.cell? ⟨p.gm,4,none⟩=some (.slice p.Ap s.path.length p.cp):=(blk_cell h.cel 4).trans rfl
  clear h hp
  go_enter Try.func13,Try.ntmps13
  go_wp2_with fail
  (with_reducible refine (cloneI p.Ap p.cp s.path w HV.out HP.out).mono ?_)
  rintro e w2 ⟨v,rfl,hr,hb⟩
  obtain ⟨A,c,rfl⟩:=Kd.R_slice hr
  have HR:=Az.mk hr
  have HB:=Az.mk hb
  clear hr hb c4
  go_wp2_with fail
  go_ret
  exact ⟨_,rfl,HR.out,HB.out⟩
end Go.Proofs.Ytkgknidogelffaa.I
namespace Go.Proofs.Ytkgknidogelffaa.I
open Go.RowKit Go.Proofs.YtkgknidogelffaaW.PrintWords Go.Proofs.YtkgknidogelffaaW.PrintLast Go.Proofs.YtkgknidogelffaaW.PrintMore
attribute [local go_sem] max2_int min2_int max_two min_two max_three min_three max_four min_four
set_option linter.unusedVariables false
set_option maxRecDepth 100000
set_option linter.unusedSimpArgs false
theorem own_max {w:World} {base:Nat} {e:TypeId} {size n:Nat} {v:Value} {xs:List Value} (h:w.ownsRow base e size v n xs):n≤9223372036854775807:=by
  rcases h.2 with ⟨_,h0⟩ | ⟨_,cap,_,_,_,_,h1,h2,_⟩
  · omega
  · simp only [maxLen] at h2
    omega
def kidE (s:MS) (i:Int):Int:=if s.known=false then 14 else if i < 0∨(s.st.length:Int)≤i then 5 else if s.path.length=200 then 3 else 0
set_option maxHeartbeats 4000000 in
theorem kid_no {w:World} {lo:Nat} {ok:Nat→Prop} {l1:List S41} {s:MS} {p:MP} (h:MM w lo ok l1 s p) (i:Int) (hk:kidE s i≠0) :
    Calls Try.prog 14 #[.pointer (some ⟨p.gm,0,none⟩),.int .i64 i] w fun e w'=>e=.returned (.int .i64 (kidE s i))∧Below w.heap.size w w':=by
  have hu93:=Try.underlying93
  have hu91:=Try.underlying91
  obtain ⟨c,st,used,path,known,full⟩:=s
  have c2:w.cell? ⟨p.gm,2,none⟩=some (.slice p.As st.length p.cs):=(blk_cell h.cel 2).trans rfl
  have c4:w.cell? ⟨p.gm,4,none⟩=some (.slice p.Ap path.length p.cp):=(blk_cell h.cel 4).trans rfl
  have c5:w.cell? ⟨p.gm,5,none⟩=some (.bool known):=(blk_cell h.cel 5).trans rfl
  have hl1:st.length≤9223372036854775807:=own_max h.row
  have hl2:path.length≤9223372036854775807:=own_max h.pth
  clear h
  unfold kidE at hk ⊢
  dsimp only at hk ⊢
  cases known with
  | false =>
    rw [if_pos rfl]
    clear hk
    go_enter Try.func14,Try.ntmps14
    go_wp2_with fail
    go_ret
    exact ⟨rfl,Below.refl _ _⟩
  | true =>
    rw [if_neg (by decide)] at hk ⊢
    by_cases hi:i < 0
    · rw [if_pos (.inl hi)]
      have q1:(i < 0)=True:=eq_true hi
      clear hk hi
      go_enter Try.func14,Try.ntmps14
      go_wp2_with fail
      go_ret
      exact ⟨rfl,Below.refl _ _⟩
    by_cases hi2:(st.length:Int)≤i
    · rw [if_pos (.inr hi2)]
      have q1:(i < 0)=False:=eq_false hi
      have q2:((st.length:Int)≤i)=True:=eq_true hi2
      clear hk hi hi2
      go_enter Try.func14,Try.ntmps14
      go_wp2_with fail
      go_ret
      exact ⟨rfl,Below.refl _ _⟩
    rw [if_neg (by omega)] at hk ⊢
    by_cases hp:path.length=200
    · rw [if_pos hp]
      have q1:(i < 0)=False:=eq_false hi
      have q2:((st.length:Int)≤i)=False:=eq_false hi2
      have q3:((path.length:Int) == 200)=true:=beq_iff_eq.2 (by omega)
      clear hk hi hi2
      go_enter Try.func14,Try.ntmps14
      go_wp2_with fail
      go_ret
      exact ⟨rfl,Below.refl _ _⟩
    · rw [if_neg hp] at hk
      exact absurd rfl hk
end Go.Proofs.Ytkgknidogelffaa.I
namespace Go.Proofs.Ytkgknidogelffaa.I
open Go.RowKit Go.Proofs.YtkgknidogelffaaW.PrintWords Go.Proofs.YtkgknidogelffaaW.PrintLast Go.Proofs.YtkgknidogelffaaW.PrintMore
set_option linter.unusedVariables false
set_option maxRecDepth 100000
theorem MM.kid {w:World} {lo:Nat} {ok:Nat→Prop} {l1:List S41} {s:MS} {p:MP} (h:MM w lo ok l1 s p) {x:Clo} {v:Value} (hx:CM w ok x v) :
    MM (((w.setCell ⟨p.gm,1,none⟩ v).setCell ⟨p.gm,2,none⟩ (.slice none 0 0)).setCell ⟨p.gm,5,none⟩ (.bool false)).drew lo ok l1 ⟨x,[],s.used,s.path,false,s.full⟩ ⟨p.gm,p.gS,v,none,0,[],p.Ap,p.cp⟩:=by
  have hk:∀ k,k≠p.gm→(((w.setCell ⟨p.gm,1,none⟩ v).setCell ⟨p.gm,2,none⟩ (.slice none 0 0)).setCell ⟨p.gm,5,none⟩ (.bool false)).drew.heap[k]?=w.heap[k]?:=fun k hn =>
    (Below.heap_setCell _ ⟨p.gm,5,none⟩ _ k hn).trans ((Below.heap_setCell _ ⟨p.gm,2,none⟩ _ k hn).trans (Below.heap_setCell _ ⟨p.gm,1,none⟩ _ k hn))
  have ho:∀ k,ok k→k < w.heap.size→(((w.setCell ⟨p.gm,1,none⟩ v).setCell ⟨p.gm,2,none⟩ (.slice none 0 0)).setCell ⟨p.gm,5,none⟩ (.bool false)).drew.heap[k]?=w.heap[k]?:=fun k h1 _=>hk k (fun he=>h.apt k (.inl he) h1)
  obtain ⟨A0,n0,c0,A1,c1,hS,hV⟩:=h.sch
  have hrow:(((w.setCell ⟨p.gm,1,none⟩ v).setCell ⟨p.gm,2,none⟩ (.slice none 0 0)).setCell ⟨p.gm,5,none⟩ (.bool false)).drew.ownsRow lo 3 1 (.slice p.Ap s.path.length p.cp) s.path.length (s.path.map (Value.int .i64)):=by
    have hne:=own_ne h.pth h.cel (by decide)
    exact own_setCell (p:=⟨p.gm,5,none⟩) (own_setCell (p:=⟨p.gm,2,none⟩) (own_setCell (p:=⟨p.gm,1,none⟩) h.pth hne _) hne _) hne _
  exact ⟨blk_put (cs':=#[.pointer (some ⟨p.gS,0,none⟩),v,.slice none 0 0,.int .i64 s.used,.slice p.Ap s.path.length p.cp,.bool false,.bool s.full]) (blk_put (cs':=#[.pointer (some ⟨p.gS,0,none⟩),v,.slice none 0 0,.int .i64 s.used,.slice p.Ap s.path.length p.cp,.bool s.known,.bool s.full]) (blk_put (cs':=#[.pointer (some ⟨p.gS,0,none⟩),v,.slice p.As s.st.length p.cs,.int .i64 s.used,.slice p.Ap s.path.length p.cp,.bool s.known,.bool s.full]) h.cel 1 v rfl) 2 _ rfl) 5 _ rfl,
    CM_imp ho (fun _ h _=>h) _ _ hx,CML_nil,World.ownsRow_nil ..,hrow,⟨A0,n0,c0,A1,c1,(ho _ h.oS (blk_lt hS)).trans hS,Kd.V_step hV ho⟩,h.oS,h.low,fun k hq=>by
      rcases hq with hq | hq | hq
      · exact h.apt k (.inl hq)
      · cases hq
      · exact h.apt k (.inr (.inr hq))⟩
end Go.Proofs.Ytkgknidogelffaa.I
namespace Go.Proofs.Ytkgknidogelffaa.I
open Go.RowKit Go.Proofs.YtkgknidogelffaaW.PrintWords Go.Proofs.YtkgknidogelffaaW.PrintLast Go.Proofs.YtkgknidogelffaaW.PrintMore
set_option linter.unusedVariables false
set_option maxRecDepth 100000
theorem own_R {w:World} {B c:Nat} {A:Option Addr} {L:List Int} (h:w.ownsRow B 3 1 (.slice A L.length c) L.length (L.map (Value.int .i64))):Kd.R (Kd.int .i64) 3 w B (fun _=>True) (.slice A L.length c) L:=by
  refine ⟨fun _ _=>trivial,L.map (Value.int .i64),h,by simp [show (Kd.int .i64).sz=1 from rfl],fun j p hj=>?_⟩
  have hl:=(List.getElem?_eq_some_iff.1 hj).1
  have e:((L.map (Value.int .i64)).drop (j*(Kd.int .i64).sz)).take (Kd.int .i64).sz=[.int .i64 p]:=by
    rw [show (Kd.int .i64).sz=1 from rfl,Nat.mul_one,List.drop_eq_getElem_cons (by simpa using hl),List.getElem_map]
    rw [(List.getElem?_eq_some_iff.1 hj).2]
    rfl
  rw [e]
  rfl
theorem R_own {w:World} {B c n:Nat} {A:Option Addr} {L:List Int} {ok:Nat→Prop} (h:Kd.R (Kd.int .i64) 3 w B ok (.slice A n c) L):w.ownsRow B 3 1 (.slice A n c) L.length (L.map (Value.int .i64)):=by
  obtain ⟨_,inner,h1,h2,h3⟩:=h
  have h2:inner.length=L.length*1:=h2
  have e:inner=L.map (Value.int .i64):=by
    refine List.ext_getElem (by rw [List.length_map]; omega) (fun j hj hj2=>?_)
    have hjl:j < L.length:=by rw [List.length_map] at hj2; exact hj2
    have h4:=h3 j L[j] (List.getElem?_eq_getElem hjl)
    have h4:(inner.drop (j*1)).take 1=[.int .i64 L[j]]:=h4
    rw [Nat.mul_one,List.drop_eq_getElem_cons hj] at h4
    have h5:[inner[j]]=[Value.int .i64 L[j]]:=h4
    injection h5 with h5
    rw [h5,List.getElem_map]
  rw [← e]
  exact h1
end Go.Proofs.Ytkgknidogelffaa.I
namespace Go.Proofs.Ytkgknidogelffaa.I
open Go.RowKit Go.Proofs.YtkgknidogelffaaW.PrintWords Go.Proofs.YtkgknidogelffaaW.PrintLast Go.Proofs.YtkgknidogelffaaW.PrintMore
set_option linter.unusedVariables false
set_option maxRecDepth 100000
theorem MM.walk {w w1:World} {lo:Nat} {ok:Nat→Prop} {l1:List S41} {x:Clo} {used:Int} {path:List Int} {full:Bool} {gm gS:Nat} {vn:Value} {Ap A5:Option Addr} {cp c5:Nat} {i:Int} (h:MM w lo ok l1 ⟨x,[],used,path,false,full⟩ ⟨gm,gS,vn,none,0,[],Ap,cp⟩)
    (hok:∀ k,ok k→k < w.heap.size) (hr:Kd.R (Kd.int .i64) 3 w1 lo (fun _=>True) (.slice A5 (path.length+1) c5) (path ++ [i])) (hg:w.grownBy w1 (Value.slice Ap path.length cp).ownBlock) (hat:(Value.slice A5 (path.length+1) c5).ownBlock=(Value.slice Ap path.length cp).ownBlock∨∃ b,(Value.slice A5 (path.length+1) c5).ownBlock=some b∧w.heap.size≤b) :
    MM (w1.setCell ⟨gm,4,none⟩ (.slice A5 (path.length+1) c5)) lo ok l1 ⟨x,[],used,path ++ [i],false,full⟩ ⟨gm,gS,vn,none,0,[],A5,c5⟩:=by
  have hcel:w.heap[gm]?=some (.cells #[.pointer (some ⟨gS,0,none⟩),vn,.slice none 0 0,.int .i64 used,.slice Ap path.length cp,.bool false,.bool full] 93 (0,0)):=h.cel
  have hpth:w.ownsRow lo 3 1 (.slice Ap path.length cp) path.length (path.map (Value.int .i64)):=h.pth
  have hne:=own_ne hpth hcel (by decide)
  have hc1:=blk_grown hcel hg hne
  have hblk:∀ k,ok k→some k≠(Value.slice Ap path.length cp).ownBlock:=fun k h1 he=>h.apt k (.inr (.inr (by rw [he]; exact own_block_n))) h1
  have ho:∀ k,ok k→k < w.heap.size→(w1.setCell ⟨gm,4,none⟩ (.slice A5 (path.length+1) c5)).heap[k]?=w.heap[k]?:=fun k h1 hl =>
    (Below.heap_setCell w1 ⟨gm,4,none⟩ _ k (fun he=>h.apt k (.inl he) h1)).trans (hg.block k hl (hblk k h1))
  obtain ⟨A0,n0,c0,A1,c1,hS,hV⟩:=h.sch
  have hown:=R_own hr
  have hlen:(path ++ [i]).length=path.length+1:=by rw [List.length_append,List.length_singleton]
  have hown2:w1.ownsRow lo 3 1 (.slice A5 (path ++ [i]).length c5) (path ++ [i]).length ((path ++ [i]).map (Value.int .i64)):=by rw [hlen] at hown ⊢; exact hown
  have hc2:=blk_put (cs':=#[.pointer (some ⟨gS,0,none⟩),vn,.slice none 0 0,.int .i64 used,.slice A5 (path ++ [i]).length c5,.bool false,.bool full]) hc1 4 (.slice A5 (path.length+1) c5) (by rw [hlen]; rfl)
  refine ⟨hc2,CM_imp ho (fun _ h _=>h) _ _ h.now,CML_nil,World.ownsRow_nil ..,own_setCell (p:=⟨gm,4,none⟩) hown2 (own_ne hown2 hc1 (by decide)) _,⟨A0,n0,c0,A1,c1,(ho _ h.oS (blk_lt hS)).trans hS,Kd.V_step hV ho⟩,h.oS,h.low,fun k hq h1=>?_⟩
  rcases hq with hq | hq | hq
  · exact h.apt k (.inl hq) h1
  · cases hq
  · have hq:(Value.slice A5 (path.length+1) c5).ownBlock=some k:=by rw [← hq]; exact own_block_n
    rcases hat with e | ⟨b,e,hb⟩
    · exact hblk k h1 (hq.symm.trans e)
    · rw [e] at hq
      injection hq with hq
      have:=hok k h1
      omega
end Go.Proofs.Ytkgknidogelffaa.I
namespace Go.Proofs.Ytkgknidogelffaa.I
open Go.RowKit Go.Proofs.YtkgknidogelffaaW.PrintWords Go.Proofs.YtkgknidogelffaaW.PrintLast Go.Proofs.YtkgknidogelffaaW.PrintMore
attribute [local go_sem] max2_int min2_int max_two min_two max_three min_three max_four min_four
set_option linter.unusedVariables false
set_option maxRecDepth 100000
set_option linter.unusedSimpArgs false
theorem CM_ptr {w:World} {ok:Nat→Prop}:∀ {x:Clo} {v:Value},CM w ok x v→∃ g,v=.pointer (some ⟨g,0,none⟩)
  | .mk t vs,v,h=>by
    unfold CM at h
    obtain ⟨g,_,_,_,e,_⟩:=h
    exact ⟨g,e⟩
theorem row_at {w:World} {base:Nat} {e:TypeId} {n c:Nat} {A:Option Addr} {sv:List Value} (h:w.ownsRow base e 1 (.slice A n c) n sv) {j:Nat} (hj:j < n):∃ g,A=some ⟨g,0,none⟩∧∃ hl:j < sv.length,w.cell? ⟨g,j,none⟩=some sv[j]:=by
  obtain ⟨h1,h2⟩:=h
  rcases h2 with ⟨_,h0⟩ | ⟨g,cap,cur,hv,_,hg,hc,_,hs,ht⟩
  · omega
  · injection hv with hv _ _
    refine ⟨g,hv,by omega,?_⟩
    have e1:sv[j]'(by omega)=cur.toList[j]'(by simp; omega):=by
      simp only [← ht]
      rw [List.getElem_take]
    rw [e1,blk_cell hg j]
    simp
end Go.Proofs.Ytkgknidogelffaa.I
namespace Go.Proofs.Ytkgknidogelffaa.I
open Go.RowKit Go.Proofs.YtkgknidogelffaaW.PrintWords Go.Proofs.YtkgknidogelffaaW.PrintLast Go.Proofs.YtkgknidogelffaaW.PrintMore
set_option linter.unusedVariables false
set_option maxRecDepth 100000
structure Gr (w w':World) (lo:Nat) (ok ok':Nat→Prop) (p p':MP):Prop where
  up:∀ k,ok k→ok' k
  new:∀ k,ok' k→ok k∨w.heap.size≤k
  lt:∀ k,ok' k→k < w'.heap.size
  own:∀ k,p'.own k→p.own k∨w.heap.size≤k
  gm:p'.gm=p.gm
  gS:p'.gS=p.gS
  blk:∀ k,k < w.heap.size→¬ p.own k→w'.heap[k]?=w.heap[k]?
  bel:Below lo w w'
theorem Gr.refl {w:World} {lo:Nat} {ok:Nat→Prop} {p:MP} (hok:∀ k,ok k→k < w.heap.size):Gr w w lo ok ok p p :=
  ⟨fun _ h=>h,fun _ h=>.inl h,hok,fun _ h=>.inl h,rfl,rfl,fun _ _ _=>rfl,Below.refl _ _⟩
theorem Gr.trans {w w1 w2:World} {lo:Nat} {ok ok1 ok2:Nat→Prop} {p p1 p2:MP} (h1:Gr w w1 lo ok ok1 p p1) (h2:Gr w1 w2 lo ok1 ok2 p1 p2):Gr w w2 lo ok ok2 p p2 where
  up:=fun k h=>h2.up k (h1.up k h)
  new:=fun k h=>by
    rcases h2.new k h with h | h
    · exact h1.new k h
    · exact .inr (Nat.le_trans h1.bel.size h)
  lt:=h2.lt
  own:=fun k h=>by
    rcases h2.own k h with h | h
    · exact h1.own k h
    · exact .inr (Nat.le_trans h1.bel.size h)
  gm:=h2.gm.trans h1.gm
  gS:=h2.gS.trans h1.gS
  blk:=fun k hk hn=>(h2.blk k (Nat.lt_of_lt_of_le hk h1.bel.size) (fun h=>by
    rcases h1.own k h with h | h
    · exact hn h
    · omega)).trans (h1.blk k hk hn)
  bel:=⟨h2.bel.os.trans h1.bel.os,h2.bel.tape.trans h1.bel.tape,h2.bel.output.trans h1.bel.output,Nat.le_trans h1.bel.size h2.bel.size,fun k hk=>(h2.bel.block k hk).trans (h1.bel.block k hk)⟩
theorem own_lt {w:World} {base n:Nat} {e:TypeId} {size:Nat} {v:Value} {xs:List Value} (h:w.ownsRow base e size v n xs):∀ k,v.ownBlock=some k→k < w.heap.size∧base≤k:=fun k hk=>by
  rcases h.2 with ⟨rfl,_⟩ | ⟨g,cap,cur,rfl,hb,hh,_⟩
  · cases hk
  · injection hk with hk
    subst hk
    exact ⟨blk_lt hh,hb⟩
theorem MM.lt {w:World} {lo:Nat} {ok:Nat→Prop} {l1:List S41} {s:MS} {p:MP} (h:MM w lo ok l1 s p):∀ k,p.own k→k < w.heap.size∧lo≤k:=fun k hk=>by
  rcases hk with rfl | hk | hk
  · exact ⟨blk_lt h.cel,h.low⟩
  · exact own_lt h.row k (by rw [← hk]; exact own_block_n)
  · exact own_lt h.pth k (by rw [← hk]; exact own_block_n)
theorem MM.more {w w':World} {lo:Nat} {ok ok':Nat→Prop} {l1:List S41} {s:MS} {p:MP} (h:MM w lo ok l1 s p) (hb:Below w.heap.size w w') (hu:∀ k,ok k→ok' k) (hn:∀ k,ok' k→ok k∨w.heap.size≤k):MM w' lo ok' l1 s p:=by
  have h2:=h.below hb
  have hl:=h.lt
  obtain ⟨A0,n0,c0,A1,c1,hS,hV⟩:=h2.sch
  exact ⟨h2.cel,CM_imp (fun _ _ _=>rfl) (fun k hk _=>hu k hk) _ _ h2.now,CML_imp (fun _ _ _=>rfl) (fun k hk _=>hu k hk) _ _ h2.stk,h2.row,h2.pth,⟨A0,n0,c0,A1,c1,hS,Kd.V_mono hV hu⟩,hu _ h2.oS,h2.low,fun k hk ho=>by
    rcases hn k ho with h3 | h3
    · exact h.apt k hk h3
    · have:=(hl k hk).1
      omega⟩
theorem Gr.of_below {w w':World} {lo:Nat} {ok ok':Nat→Prop} {p:MP} (hlo:lo≤w.heap.size) (hb:Below w.heap.size w w') (hu:∀ k,ok k→ok' k) (hn:∀ k,ok' k→ok k∨w.heap.size≤k) (hl:∀ k,ok' k→k < w'.heap.size):Gr w w' lo ok ok' p p where
  up:=hu
  new:=hn
  lt:=hl
  own:=fun _ h=>.inl h
  gm:=rfl
  gS:=rfl
  blk:=fun k hk _=>hb.block k hk
  bel:=⟨hb.os,hb.tape,hb.output,hb.size,fun k hk=>hb.block k (Nat.lt_of_lt_of_le hk hlo)⟩
theorem MM.sets {w:World} {lo:Nat} {ok:Nat→Prop} {l1:List S41} {s s':MS} {p p':MP} (h:MM w lo ok l1 s p) (j:Nat) (v:Value)
    (hc:(#[.pointer (some ⟨p.gS,0,none⟩),p.vn,.slice p.As s.st.length p.cs,.int .i64 s.used,.slice p.Ap s.path.length p.cp,.bool s.known,.bool s.full]:Array Value).setIfInBounds j v=#[.pointer (some ⟨p'.gS,0,none⟩),p'.vn,.slice p'.As s'.st.length p'.cs,.int .i64 s'.used,.slice p'.Ap s'.path.length p'.cp,.bool s'.known,.bool s'.full])
    (hgm:p'.gm=p.gm) (hgS:p'.gS=p.gS) (hnow:CM w ok s'.c p'.vn) (hstk:CML w ok s'.st.reverse p'.sv)
    (hrow:w.ownsRow lo 85 1 (.slice p'.As s'.st.length p'.cs) s'.st.length p'.sv) (hpth:w.ownsRow lo 3 1 (.slice p'.Ap s'.path.length p'.cp) s'.path.length (s'.path.map (Value.int .i64)))
    (hown:∀ k,p'.own k→p.own k) :
    MM (w.setCell ⟨p.gm,j,none⟩ v) lo ok l1 s' p'∧((∀ k,ok k→k < w.heap.size)→Gr w (w.setCell ⟨p.gm,j,none⟩ v) lo ok ok p p'):=by
  have ho:∀ k,ok k→k < w.heap.size→(w.setCell ⟨p.gm,j,none⟩ v).heap[k]?=w.heap[k]?:=fun k h1 _=>Below.heap_setCell w ⟨p.gm,j,none⟩ v k (fun he=>h.apt k (.inl he) h1)
  obtain ⟨A0,n0,c0,A1,c1,hS,hV⟩:=h.sch
  refine ⟨⟨by rw [hgm]; exact blk_put h.cel j v hc,CM_imp ho (fun _ h _=>h) _ _ hnow,CML_imp ho (fun _ h _=>h) _ _ hstk,own_setCell (p:=⟨p.gm,j,none⟩) hrow (own_ne hrow h.cel (by decide)) _,own_setCell (p:=⟨p.gm,j,none⟩) hpth (own_ne hpth h.cel (by decide)) _,⟨A0,n0,c0,A1,c1,by rw [hgS]; exact (ho _ h.oS (blk_lt hS)).trans hS,Kd.V_step hV ho⟩,by rw [hgS]; exact h.oS,by rw [hgm]; exact h.low,fun k hk=>h.apt k (hown k hk)⟩,fun hok=>⟨fun _ h=>h,fun _ h=>.inl h,fun k hk=>by have:=hok k hk; simpa [World.setCell] using this,fun k hk=>.inl (hown k hk),hgm,hgS,fun k hk hn=>Below.heap_setCell w ⟨p.gm,j,none⟩ v k (fun he=>hn (.inl he)),(Below.refl lo w).setCell (p:=⟨p.gm,j,none⟩) h.low v⟩⟩
theorem CML_ptr {w:World} {ok:Nat→Prop}:∀ (l:List Clo) (us:List Value),CML w ok l us→∀ v ∈ us,v.oneCell'=true
  | [],us,h,v,hv=>by unfold CML at h; rw [h] at hv; cases hv
  | x :: xs,us,h,v,hv=>by
    unfold CML at h
    obtain ⟨u,us',e,h1,h2⟩:=h
    subst e
    rcases List.mem_cons.1 hv with rfl | hv
    · obtain ⟨g,rfl⟩:=CM_ptr h1
      rfl
    · exact CML_ptr xs us' h2 v hv
theorem own_Rr {w:World} {B n:Nat} {v:Value} {sv:List Value} (h:w.ownsRow B 85 1 v n sv) (hn:n=sv.length) (h1:∀ v ∈ sv,v.oneCell'=true):Kd.R (Kd.raw 1) 85 w B (fun _=>True) v (sv.map (fun v=>[v])):=by
  subst hn
  refine ⟨fun _ _=>trivial,sv,by rw [List.length_map]; exact h,by simp [show (Kd.raw 1).sz=1 from rfl],fun j p hj=>?_⟩
  obtain ⟨hl,hp⟩:=List.getElem?_eq_some_iff.1 hj
  have hl':j < sv.length:=by simpa using hl
  rw [show (Kd.raw 1).sz=1 from rfl,Nat.mul_one,List.drop_eq_getElem_cons hl']
  rw [List.getElem_map] at hp
  subst hp
  exact ⟨rfl,rfl,fun u hu=>by rw [List.mem_singleton.1 hu]; exact h1 _ (List.getElem_mem hl')⟩
theorem Rr_own {w:World} {B:Nat} {v:Value} {sv:List Value} {ok:Nat→Prop} (h:Kd.R (Kd.raw 1) 85 w B ok v (sv.map (fun v=>[v]))):w.ownsRow B 85 1 v sv.length sv:=by
  obtain ⟨_,inner,h1,h2,h3⟩:=h
  rw [List.length_map] at h1
  have h2:inner.length=(sv.map (fun v=>[v])).length*1:=h2
  rw [List.length_map,Nat.mul_one] at h2
  have e:inner=sv:=by
    refine List.ext_getElem h2 (fun j hj hj2=>?_)
    have h4:=h3 j [sv[j]] (by rw [List.getElem?_map,List.getElem?_eq_getElem hj2]; rfl)
    have h4:(inner.drop (j*1)).take 1=[sv[j]]:=h4.1
    rw [Nat.mul_one,List.drop_eq_getElem_cons hj] at h4
    injection h4 with h5
  subst e
  exact h1
theorem args_at {w:World} {ok:Nat→Prop} {l:List S36} {ae:Addr} (h:Kd.F k36 w ok (some ae) l.length l) {j:Nat} (hj:j < l.length):TmAt w ok l[j] (ae.add (j*3)):=by
  have h2:=Kd.F_mid (c:=l.length) (lo:=j) (hi:=j+1) h (by omega) (by omega) (Nat.le_refl _)
  rw [if_neg (by omega),List.take_add_one,List.getElem?_eq_getElem hj] at h2
  have e:(l.take j ++ (some l[j]).toList).drop j=[l[j]]:=by
    rw [List.drop_append_of_le_length (by rw [List.length_take]; omega),List.drop_eq_nil_of_le (by rw [List.length_take]; omega)]
    rfl
  rw [e] at h2
  exact h2
theorem TmAt_imp {w w1:World} {ok ok1:Nat→Prop} {t:S36} {ad:Addr} (h:TmAt w ok t ad) (hm:∀ k,ok k→k < w.heap.size→w1.heap[k]?=w.heap[k]?) (ho:∀ k,ok k→ok1 k):TmAt w1 ok1 t ad:=Kd.F_mono (Kd.F_step h hm) ho
theorem row_get {w:World} {ok:Nat→Prop} {A:Option Addr} {n c:Nat} {us:List Value} (h:Row w ok (.slice A n c) us):n=us.length∧n≤c∧n≤9223372036854775807∧∀ j (hj:j < us.length),∃ ad,A=some ad∧w.cell? (ad.add j)=some us[j]:=by
  obtain ⟨h1,h2,h3⟩:=Kd.V_reads' h
  rw [List.length_map] at h1
  refine ⟨h1,h2,?_,fun j hj=>?_⟩
  · have:=Kd.C_max h3
    rw [List.length_map] at this
    omega
  · obtain ⟨ad,c,e,_,hK,hc⟩:=Kd.C_get h3 [] (j:Int) (by omega) (by rw [List.length_map]; omega)
    refine ⟨ad,e,?_⟩
    rw [Int.toNat_natCast] at hK hc
    have e2:(us.map (fun v=>[v])).getD j []=[us[j]]:=by rw [List.getD_eq_getElem?_getD,List.getElem?_map,List.getElem?_eq_getElem hj]; rfl
    rw [e2] at hK
    have hK:c=[us[j]]∧_:=hK
    have:=hc 0 us[j] (by rw [hK.1]; rfl)
    rwa [show (Kd.raw 1).sz=1 from rfl,Nat.mul_one,Nat.add_zero] at this
theorem MM.put {w w1:World} {lo:Nat} {ok:Nat→Prop} {l1:List S41} {s:MS} {p:MP} {A5:Option Addr} {c5:Nat} {x:Clo} {v:Value} (h:MM w lo ok l1 s p) (hok:∀ k,ok k→k < w.heap.size) (hx:CM w ok x v)
    (hr:Kd.R (Kd.raw 1) 85 w1 lo (fun _=>True) (.slice A5 (s.st.length+1) c5) ((p.sv ++ [v]).map (fun v=>[v]))) (hb:Below lo w w1) (hg:w.grownBy w1 (Value.slice p.As s.st.length p.cs).ownBlock) (hat:(Value.slice A5 (s.st.length+1) c5).ownBlock=(Value.slice p.As s.st.length p.cs).ownBlock∨∃ b,(Value.slice A5 (s.st.length+1) c5).ownBlock=some b∧w.heap.size≤b) :
    MM (w1.setCell ⟨p.gm,2,none⟩ (.slice A5 (s.st.length+1) c5)) lo ok l1 { s with st:=x :: s.st } { p with As:=A5,cs:=c5,sv:=p.sv ++ [v] }∧Gr w (w1.setCell ⟨p.gm,2,none⟩ (.slice A5 (s.st.length+1) c5)) lo ok ok p { p with As:=A5,cs:=c5,sv:=p.sv ++ [v] }:=by
  have hlen:=h.len
  have hne:=own_ne h.row h.cel (by decide)
  have hc1:=blk_grown h.cel hg hne
  have hblk:∀ k,ok k→some k≠(Value.slice p.As s.st.length p.cs).ownBlock:=fun k h1 he=>h.apt k (.inr (.inl (by rw [he]; exact own_block_n))) h1
  have ho:∀ k,ok k→k < w.heap.size→(w1.setCell ⟨p.gm,2,none⟩ (.slice A5 (s.st.length+1) c5)).heap[k]?=w.heap[k]?:=fun k h1 hl =>
    (Below.heap_setCell w1 ⟨p.gm,2,none⟩ _ k (fun he=>h.apt k (.inl he) h1)).trans (hg.block k hl (hblk k h1))
  obtain ⟨A0,n0,c0,A1,c1,hS,hV⟩:=h.sch
  have hown:=Rr_own hr
  rw [List.length_append,List.length_singleton,← hlen] at hown
  have hc2:=blk_put (cs':=#[.pointer (some ⟨p.gS,0,none⟩),p.vn,.slice A5 (x :: s.st).length c5,.int .i64 s.used,.slice p.Ap s.path.length p.cp,.bool s.known,.bool s.full]) hc1 2 (.slice A5 (s.st.length+1) c5) rfl
  have hpg:w1.ownsRow lo 3 1 (.slice p.Ap s.path.length p.cp) s.path.length (s.path.map (Value.int .i64)):=by
    have:=Kd.R_over' (own_R h.pth) (Kd.R_typed (own_Rr h.row hlen (CML_ptr _ _ h.stk))) (by decide) hg
    have:=R_own this
    exact this
  have hown5:∀ k,(Value.slice A5 (s.st.length+1) c5).ownBlock=some k→p.own k∨w.heap.size≤k:=fun k hk=>by
    rcases hat with e | ⟨b,e,hb⟩
    · exact .inl (.inr (.inl (by rw [← hk,e]; exact own_block_n)))
    · rw [e] at hk
      injection hk with hk
      exact .inr (by omega)
  have hownn:∀ k,({ p with As:=A5,cs:=c5,sv:=p.sv ++ [v] }:MP).own k→p.own k∨w.heap.size≤k:=fun k hk=>by
    rcases hk with hk | hk | hk
    · exact .inl (.inl hk)
    · exact hown5 k (by rw [← hk]; exact own_block_n)
    · exact .inl (.inr (.inr hk))
  refine ⟨⟨hc2,CM_imp ho (fun _ h _=>h) _ _ h.now,?_,own_setCell (p:=⟨p.gm,2,none⟩) hown (own_ne hown hc1 (by decide)) _,own_setCell (p:=⟨p.gm,2,none⟩) hpg (own_ne hpg hc1 (by decide)) _,⟨A0,n0,c0,A1,c1,(ho _ h.oS (blk_lt hS)).trans hS,Kd.V_step hV ho⟩,h.oS,h.low,fun k hk h1=>?_⟩,⟨fun _ h=>h,fun _ h=>.inl h,fun k hk=>?_,hownn,rfl,rfl,fun k hk hn=>?_,hb.setCell (p:=⟨p.gm,2,none⟩) h.low _⟩⟩
  · show CML _ ok (x :: s.st).reverse (p.sv ++ [v])
    rw [List.reverse_cons]
    exact CML_imp ho (fun _ h _=>h) _ _ (CML_snoc h.stk hx)
  · rcases hownn k hk with h2 | h2
    · exact h.apt k h2 h1
    · have:=hok k h1
      omega
  · have h1:=hok k hk
    have h2:=hb.size
    have h3:(w1.setCell ⟨p.gm,2,none⟩ (.slice A5 (s.st.length+1) c5)).heap.size=w1.heap.size:=by simp [World.setCell]
    omega
  · exact (Below.heap_setCell w1 ⟨p.gm,2,none⟩ _ k (fun he=>hn (.inl he))).trans (hg.block k hk (fun he=>hn (.inr (.inl (by rw [he]; exact own_block_n)))))
end Go.Proofs.Ytkgknidogelffaa.I
