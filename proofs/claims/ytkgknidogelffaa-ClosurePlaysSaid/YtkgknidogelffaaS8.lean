/- Texts of this session's proof, laid together: INc, INd, INe, INf, VOpen, IOU, INg, INh, INhF. -/
import Derived.ProofKit
import Derived.OpenShut
import Derived.ChangeOld
import Derived.WalkKit
import Derived.Test.YtkgknidogelffaaS7
namespace Go.Proofs.Ytkgknidogelffaa.I
open Go.RowKit Go.Proofs.YtkgknidogelffaaW.PrintWords Go.Proofs.YtkgknidogelffaaW.PrintLast Go.Proofs.YtkgknidogelffaaW.PrintMore
attribute [local go_sem] max2_int min2_int max_two min_two max_three min_three max_four min_four
set_option linter.unusedVariables false
set_option maxRecDepth 100000
set_option linter.unusedSimpArgs false
theorem refKid_or (i:Int) (r:RM):(r.known=false∧refKid i r=(r,14))∨(r.known=true∧(i < 0∨(r.t.f2.length:Int)≤i)∧refKid i r=(r,5))∨(r.known=true∧0≤i∧i < (r.t.f2.length:Int)∧200≤r.path.length∧refKid i r=(r,3))∨(r.known=true∧0≤i∧i < (r.t.f2.length:Int)∧r.path.length < 200∧refKid i r=(⟨r.path ++ [i],rd_T36 r.t.f2 i,false,r.steps,r.lost⟩,0)):=by
  unfold refKid
  by_cases h:r.known=false
  · exact .inl ⟨h,if_pos h⟩
  have h':r.known=true:=by simpa using h
  by_cases h1:i < 0∨(r.t.f2.length:Int)≤i
  · exact .inr (.inl ⟨h',h1,by rw [if_neg h,if_pos h1]⟩)
  by_cases h2:200≤r.path.length
  · exact .inr (.inr (.inl ⟨h',by omega,by omega,h2,by rw [if_neg h,if_neg h1,if_pos h2]⟩))
  · exact .inr (.inr (.inr ⟨h',by omega,by omega,by omega,by rw [if_neg h,if_neg h1,if_neg h2]⟩))
structure RmV (w:World) (ok:Nat→Prop) (r:RM) (Ap:Option Addr) (cp:Nat) (At:Option Addr) (ct:Nat):Prop where
  p:Kd.V (Kd.int .i64) 3 w 0 ok (.slice Ap r.path.length cp) r.path
  t:Tm w ok r.t At ct
theorem RmV.below {w w':World} {ok:Nat→Prop} {r:RM} {Ap At:Option Addr} {cp ct:Nat} (h:RmV w ok r Ap cp At ct) (hb:Below w.heap.size w w'):RmV w' ok r Ap cp At ct:=⟨Kd.V_below h.p hb,h.t.below hb⟩
theorem RmV.mono {w:World} {ok ok':Nat→Prop} {r:RM} {Ap At:Option Addr} {cp ct:Nat} (h:RmV w ok r Ap cp At ct) (hk:∀ k,ok k→ok' k):RmV w ok' r Ap cp At ct:=⟨Kd.V_mono h.p hk,h.t.mono hk⟩
theorem RmV.bound {w:World} {ok:Nat→Prop} {r:RM} {Ap At:Option Addr} {cp ct:Nat} (h:RmV w ok r Ap cp At ct):RmV w (fun k=>ok k∧k < w.heap.size) r Ap cp At ct:=⟨Kd.V_bound h.p,h.t.bound⟩
theorem RmV.move {w w':World} {ok:Nat→Prop} {r:RM} {Ap At:Option Addr} {cp ct:Nat} (h:RmV w ok r Ap cp At ct) (hk:∀ k,ok k→k < w.heap.size→w'.heap[k]?=w.heap[k]?):RmV w' ok r Ap cp At ct:=⟨Kd.V_step h.p hk,Kd.V_step h.t hk⟩
theorem RmV.far {w:World} {ok:Nat→Prop} {r:RM} {Ap At:Option Addr} {cp ct:Nat} {p:Addr} (h:RmV w ok r Ap cp At ct) (hok:∀ k,ok k→k≠p.block) (u:Value):RmV (w.setCell p u) ok r Ap cp At ct:=h.move (fun k hk _=>Below.heap_setCell w p u k (hok k hk))
theorem RmV.drew {w:World} {ok:Nat→Prop} {r:RM} {Ap At:Option Addr} {cp ct:Nat} (h:RmV w ok r Ap cp At ct):RmV w.drew ok r Ap cp At ct:=h.move (fun k hk _=>rfl)
theorem RmV.far9 {w:World} {ok:Nat→Prop} {r:RM} {Ap At:Option Addr} {cp ct:Nat} {g:Nat} (h:RmV w ok r Ap cp At ct) (hok:∀ k,ok k→k≠g) (a0 a1 a2 a3 a4 a5 a6 a7 a8:Value):RmV (((((((((w.setCell ⟨g,0,none⟩ a0).setCell ⟨g,1,none⟩ a1).setCell ⟨g,2,none⟩ a2).setCell ⟨g,3,none⟩ a3).setCell ⟨g,4,none⟩ a4).setCell ⟨g,5,none⟩ a5).setCell ⟨g,6,none⟩ a6).setCell ⟨g,7,none⟩ a7).setCell ⟨g,8,none⟩ a8) ok r Ap cp At ct :=
  (RmV.far (p:=⟨g,8,none⟩) (RmV.far (p:=⟨g,7,none⟩) (RmV.far (p:=⟨g,6,none⟩) (RmV.far (p:=⟨g,5,none⟩) (RmV.far (p:=⟨g,4,none⟩) (RmV.far (p:=⟨g,3,none⟩) (RmV.far (p:=⟨g,2,none⟩) (RmV.far (p:=⟨g,1,none⟩) (RmV.far (p:=⟨g,0,none⟩) h hok a0) hok a1) hok a2) hok a3) hok a4) hok a5) hok a6) hok a7) hok a8)
def HoldK (p:Prop):Prop:=p
theorem holdK {p:Prop} (h:HoldK p):p:=h
set_option maxHeartbeats 16000000 in
theorem refkid_calls (A0:Option Addr) (n0 c0:Nat) (A1:Option Addr) (n1 c1:Nat) (r:RM) (Ap:Option Addr) (cp:Nat) (At:Option Addr) (ct:Nat) (i:Int) (w:World) (ok:Nat→Prop) (hv:RmV w ok r Ap cp At ct) (hpl:r.path.length≤200) (htc:tcntL r.t.f2≤1000000) (R:RM) (z:Int) (hR:refKid i r=(R,z)) :
    Calls Try.prog 41 #[.agg (rmC (.slice A0 n0 c0) (.slice A1 n1 c1) r Ap cp At ct),.int .i64 i] w fun e w'=>∃ Ap' cp' At' ct',e=.returned (.tuple #[.agg (rmC (.slice A0 n0 c0) (.slice A1 n1 c1) R Ap' cp' At' ct'),.int .i64 z])∧RmV w' (fun k=>ok k∨w.heap.size≤k) R Ap' cp' At' ct'∧Below w.heap.size w w':=by
  have hu25:=Try.underlying25
  have hu51:=Try.underlying51
  have hu36:=Try.underlying36
  have hu34:=Try.underlying34
  have hu26:=Try.underlying26
  have HV:=Az.mk hv.bound
  have HPL:=Az.mk hpl
  have HTC:=Az.mk htc
  have hlt2:r.t.f2.length≤1000000:=by have:=tcntL_ge r.t.f2; omega
  clear hv htc
  unfold rmC
  go_enter Try.func41,Try.ntmps41
  go_upto_region 1 with (first
    | ((with_reducible refine gate_dst (N:=2) rfl ?_)
       refine box_event ?hg (N:=2) ?hd (cs:=#[.slice A0 n0 c0,.slice A1 n1 c1,.slice Ap r.path.length cp,.int .i64 r.t.f0,.int .i64 r.t.f1,.slice At r.t.f2.length ct,.bool r.known,.int .i64 r.steps,.bool r.lost]) (t:=51) ?hr ?_
       (case hd=>rfl)
       (case hg=>rfl)
       (case hr=>first | (go_simp; done) | (go_simp; rfl))
       intro g2 hg2 w1 hbox hb1
       have S2:=Az.mk hbox
       have HB1:=Az.mk hb1
       have HG2:=Az.mk (show w.heap.size≤g2 from by omega)
       clear hbox hb1 hg2)
    | ((with_reducible refine gate_dst (N:=4) rfl ?_)
       refine box_event ?hg (N:=4) ?hd (cs:=#[.slice none 0 0,.slice none 0 0,.slice none 0 0,.int .i64 0,.int .i64 0,.slice none 0 0,.bool false,.int .i64 0,.bool false]) (t:=51) ?hr ?_
       (case hd=>rfl)
       (case hg=>rfl)
       (case hr=>first | (go_simp; done) | (go_simp; rfl))
       intro g4 hg4 w2 hbox hb2
       have S4:=Az.mk hbox
       have S22:=Az.mk (bkB S2.out hb2)
       have HB2:=Az.mk (bst HB1.out hb2)
       have HG4:=Az.mk (show w.heap.size≤g4 from by have:=HB1.out.size; omega)
       have HNE:=Az.mk (show g2≠g4 from by have:=blk_lt S2.out; omega)
       clear hbox hb2 hg4 S2))
  have HV2:=Az.mk (show RmV w2 (fun k=>ok k∧k≠g2∧k≠g4) r Ap cp At ct from (HV.out.below HB2.out).mono (fun k hk=>⟨hk.1,by have:=HG2.out; omega,by have:=HG4.out; omega⟩))
  have HNE2:=HNE.out
  have HNE3:=Ne.symm HNE.out
  have u0:w2.cell? ⟨g2,0,none⟩=some (.slice A0 n0 c0):=(blk_cell S22.out 0).trans rfl
  have u1:w2.cell? ⟨g2,1,none⟩=some (.slice A1 n1 c1):=(blk_cell S22.out 1).trans rfl
  have u2:w2.cell? ⟨g2,2,none⟩=some (.slice Ap r.path.length cp):=(blk_cell S22.out 2).trans rfl
  have u3:w2.cell? ⟨g2,3,none⟩=some (.int .i64 r.t.f0):=(blk_cell S22.out 3).trans rfl
  have u4:w2.cell? ⟨g2,4,none⟩=some (.int .i64 r.t.f1):=(blk_cell S22.out 4).trans rfl
  have u5:w2.cell? ⟨g2,5,none⟩=some (.slice At r.t.f2.length ct):=(blk_cell S22.out 5).trans rfl
  have u6:w2.cell? ⟨g2,6,none⟩=some (.bool r.known):=(blk_cell S22.out 6).trans rfl
  have u7:w2.cell? ⟨g2,7,none⟩=some (.int .i64 r.steps):=(blk_cell S22.out 7).trans rfl
  have u8:w2.cell? ⟨g2,8,none⟩=some (.bool r.lost):=(blk_cell S22.out 8).trans rfl
  have f0:w2.frozen? ⟨g2,0,none⟩=false:=bkF S22.out 0
  have f1:w2.frozen? ⟨g2,1,none⟩=false:=bkF S22.out 1
  have f2:w2.frozen? ⟨g2,2,none⟩=false:=bkF S22.out 2
  have f3:w2.frozen? ⟨g2,3,none⟩=false:=bkF S22.out 3
  have f4:w2.frozen? ⟨g2,4,none⟩=false:=bkF S22.out 4
  have f5:w2.frozen? ⟨g2,5,none⟩=false:=bkF S22.out 5
  have f6:w2.frozen? ⟨g2,6,none⟩=false:=bkF S22.out 6
  have f7:w2.frozen? ⟨g2,7,none⟩=false:=bkF S22.out 7
  have f8:w2.frozen? ⟨g2,8,none⟩=false:=bkF S22.out 8
  have z0:w2.cell? ⟨g4,0,none⟩=some (.slice none 0 0):=(blk_cell S4.out 0).trans rfl
  have z1:w2.cell? ⟨g4,1,none⟩=some (.slice none 0 0):=(blk_cell S4.out 1).trans rfl
  have z2:w2.cell? ⟨g4,2,none⟩=some (.slice none 0 0):=(blk_cell S4.out 2).trans rfl
  have z3:w2.cell? ⟨g4,3,none⟩=some (.int .i64 0):=(blk_cell S4.out 3).trans rfl
  have z4:w2.cell? ⟨g4,4,none⟩=some (.int .i64 0):=(blk_cell S4.out 4).trans rfl
  have z5:w2.cell? ⟨g4,5,none⟩=some (.slice none 0 0):=(blk_cell S4.out 5).trans rfl
  have z6:w2.cell? ⟨g4,6,none⟩=some (.bool false):=(blk_cell S4.out 6).trans rfl
  have z7:w2.cell? ⟨g4,7,none⟩=some (.int .i64 0):=(blk_cell S4.out 7).trans rfl
  have z8:w2.cell? ⟨g4,8,none⟩=some (.bool false):=(blk_cell S4.out 8).trans rfl
  have y0:w2.frozen? ⟨g4,0,none⟩=false:=bkF S4.out 0
  have y1:w2.frozen? ⟨g4,1,none⟩=false:=bkF S4.out 1
  have y2:w2.frozen? ⟨g4,2,none⟩=false:=bkF S4.out 2
  have y3:w2.frozen? ⟨g4,3,none⟩=false:=bkF S4.out 3
  have y4:w2.frozen? ⟨g4,4,none⟩=false:=bkF S4.out 4
  have y5:w2.frozen? ⟨g4,5,none⟩=false:=bkF S4.out 5
  have y6:w2.frozen? ⟨g4,6,none⟩=false:=bkF S4.out 6
  have y7:w2.frozen? ⟨g4,7,none⟩=false:=bkF S4.out 7
  have y8:w2.frozen? ⟨g4,8,none⟩=false:=bkF S4.out 8
  rcases refKid_or i r with ⟨h1,h2⟩ | ⟨h1,h3,h2⟩ | ⟨h1,h3,h4,h5,h2⟩ | ⟨h1,h3,h4,h5,h2⟩
  all_goals rw [h2] at hR
  · injection hR with e1 e2
    subst e1 e2
    rw [h1] at u6
    go_wp2_with fail
    refine bodyPost_ret (results_ct rfl _ _ g4 51 _ (0,0) _ rfl (put9 S4.out _ _ _ _ _ _ _ _ _) Try.underlying51 rfl (by kernel_rfl)) rfl ?_
    refine ⟨Ap,cp,At,ct,by (first | rfl | (rw [h1]; rfl)),?_,below_set9 HB2.out HG4.out _ _ _ _ _ _ _ _ _⟩
    exact (HV2.out.far9 (fun k hk=>hk.2.2) _ _ _ _ _ _ _ _ _).mono (fun k hk=>.inl hk.1)
  · injection hR with e1 e2
    subst e1 e2
    rw [h1] at u6
    by_cases h4:i < 0
    · have q1:(i < 0)=True:=eq_true h4
      go_wp2_with fail
      refine bodyPost_ret (results_ct rfl _ _ g4 51 _ (0,0) _ rfl (put9 S4.out _ _ _ _ _ _ _ _ _) Try.underlying51 rfl (by kernel_rfl)) rfl ?_
      refine ⟨Ap,cp,At,ct,by (first | rfl | (rw [h1]; rfl)),?_,below_set9 HB2.out HG4.out _ _ _ _ _ _ _ _ _⟩
      exact (HV2.out.far9 (fun k hk=>hk.2.2) _ _ _ _ _ _ _ _ _).mono (fun k hk=>.inl hk.1)
    · have q1:(i < 0)=False:=eq_false h4
      have q2:((r.t.f2.length:Int)≤i)=True:=eq_true (by omega)
      go_wp2_with fail
      refine bodyPost_ret (results_ct rfl _ _ g4 51 _ (0,0) _ rfl (put9 S4.out _ _ _ _ _ _ _ _ _) Try.underlying51 rfl (by kernel_rfl)) rfl ?_
      refine ⟨Ap,cp,At,ct,by (first | rfl | (rw [h1]; rfl)),?_,below_set9 HB2.out HG4.out _ _ _ _ _ _ _ _ _⟩
      exact (HV2.out.far9 (fun k hk=>hk.2.2) _ _ _ _ _ _ _ _ _).mono (fun k hk=>.inl hk.1)
  · injection hR with e1 e2
    subst e1 e2
    rw [h1] at u6
    have q1:(i < 0)=False:=eq_false (by omega)
    have q2:((r.t.f2.length:Int)≤i)=False:=eq_false (by omega)
    have q3:((200:Int)≤(r.path.length:Int))=True:=eq_true (by omega)
    go_wp2_with fail
    refine bodyPost_ret (results_ct rfl _ _ g4 51 _ (0,0) _ rfl (put9 S4.out _ _ _ _ _ _ _ _ _) Try.underlying51 rfl (by kernel_rfl)) rfl ?_
    refine ⟨Ap,cp,At,ct,by (first | rfl | (rw [h1]; rfl)),?_,below_set9 HB2.out HG4.out _ _ _ _ _ _ _ _ _⟩
    exact (HV2.out.far9 (fun k hk=>hk.2.2) _ _ _ _ _ _ _ _ _).mono (fun k hk=>.inl hk.1)
  · injection hR with e1 e2
    subst e1 e2
    rw [h1] at u6
    have q1:(i < 0)=False:=eq_false (by omega)
    have q2:((r.t.f2.length:Int)≤i)=False:=eq_false (by omega)
    have q3:((200:Int)≤(r.path.length:Int))=False:=eq_false (by omega)
    have hp200:r.path.length < 200:=h5
    clear h5
    go_upto_region 7 with fail
    have ua:=cell_up (bal (Below.refl w2.heap.size w2) (Obj.cells #[] 3)) u2
    go_wp2_with (at_builtin; refine holdK ?_)
    unfold HoldK
    have HGB:=Az.mk (show w.heap.size≤w2.heap.size from HB2.out.size)
    have hl0:Kd.R (Kd.int .i64) 3 (w2.alloc (Obj.cells #[] 3)) w2.heap.size (fun _=>True) (.slice (some ⟨w2.heap.size,0,none⟩) 0 0) []:=⟨fun _ _=>trivial,OwnRow.lit w2 w2.heap.size (inner:=[]) (Reps.none _ _) (Nat.le_refl _) (by simp)⟩
    refine Kd.R_append_rows (Kd.int .i64) (Rr:=Kd.K (Kd.int .i64) (w2.alloc (Obj.cells #[] 3))) (w0:=w2) w2.heap.size rfl (.tmp 29) (.tmp 31) 26 3 (.int .i64 0) 8 rfl Try.underlying26 (by kernel_rfl) rfl (by decide) (by omega) (.slice (some ⟨w2.heap.size,0,none⟩) 0 0) [] r.path Ap r.path.length cp (fun _=>True) (fun _=>False) rfl rfl hl0 ?aR ?aK (fun _ hk=>hk.elim) (fun _ _=>trivial) (bal (Below.refl w2.heap.size w2) _) (bal (Below.refl w2.heap.size w2) _).size (by simp only [List.length_nil]; omega) ?_
    (case aR=>exact Kd.C_below (Kd.V_reads' HV2.out.p).2.2 (bal (Below.refl w2.heap.size w2) _))
    (case aK=>exact fun x cs hx=>hx)
    intro v1 w3 hr3 hb3 _ _
    rw [List.nil_append] at hr3
    obtain ⟨A3,c3,e3⟩:=Kd.R_slice hr3
    subst e3
    clear hl0
    go_wp2_with (at_builtin; refine holdK ?_)
    unfold HoldK
    refine Kd.R_append (Kd.int .i64) (w0:=w2) w2.heap.size rfl (.tmp 32) (.tmp 34) 26 3 (.int .i64 0) 8 rfl Try.underlying26 (by kernel_rfl) rfl (by decide) (by omega) (.slice A3 r.path.length c3) r.path i [.int .i64 i] (fun _=>True) (fun _=>False) rfl rfl rfl (fun _ hk=>hk.elim) (fun _ _=>trivial) hr3 hb3 hb3.size (by omega) ?_
    intro v2 w4 hr4 hb4 _ _
    obtain ⟨A4,c4,e4⟩:=Kd.R_slice hr4
    have hv4:Kd.V (Kd.int .i64) 3 w4 0 (fun k=>w2.heap.size≤k) v2 (r.path ++ [i]):=Kd.V_mono (Kd.R_V (base':=0) (Kd.R_bound hr4)) (fun k hk=>hk.2.1)
    rw [List.length_append,List.length_singleton] at e4
    subst e4
    have HB4w:=Az.mk hb4
    have HB4:=Az.mk (bst HB2.out hb4)
    have HV4:=Az.mk (HV2.out.below hb4)
    have HP4:=Az.mk hv4
    have S24:=Az.mk (bkB S22.out hb4)
    have S44:=Az.mk (bkB S4.out hb4)
    clear hr3 hb3 hr4 hb4 hv4
    clear u0 u1 u2 u3 u4 u5 u6 u7 u8 f0 f1 f2 f3 f4 f5 f6 f7 f8 z0 z1 z2 z3 z4 z5 z6 z7 z8 y0 y1 y2 y3 y4 y5 y6 y7 y8 ua
    have f2:w4.frozen? ⟨g2,2,none⟩=false:=bkF S24.out 2
    have u2:w4.cell? ⟨g2,2,none⟩=some (.slice Ap r.path.length cp):=(blk_cell S24.out 2).trans rfl
    go_upto_region 8 with fail
    have HL2:=Az.mk (And.intro (blk_lt S22.out) (blk_lt S4.out))
    have S2q:=Az.mk (blk_put (cs':=#[.slice A0 n0 c0,.slice A1 n1 c1,.slice A4 (r.path.length+1) c4,.int .i64 r.t.f0,.int .i64 r.t.f1,.slice At r.t.f2.length ct,.bool r.known,.int .i64 r.steps,.bool r.lost]) S24.out 2 (.slice A4 (r.path.length+1) c4) rfl)
    have S4q:=Az.mk (blk_far S44.out (p:=⟨g2,2,none⟩) HNE3 (.slice A4 (r.path.length+1) c4))
    have HVq:=Az.mk (HV4.out.far (p:=⟨g2,2,none⟩) (fun k hk=>hk.2.1) (.slice A4 (r.path.length+1) c4))
    have HPq:=Az.mk (Kd.V_far (p:=⟨g2,2,none⟩) HP4.out (fun k hk=>by have:=HL2.out; have:w2.heap.size≤k:=hk; show k≠g2; omega) (.slice A4 (r.path.length+1) c4))
    have HBq:=Az.mk (bset (j:=2) (v:=.slice A4 (r.path.length+1) c4) HB4.out HG2.out)
    clear f2 u2 S24 S44 HV4 HP4 HB4
    generalize (w4.setCell ⟨g2,2,none⟩ (.slice A4 (r.path.length+1) c4))=wq at *
    have u0:wq.cell? ⟨g2,0,none⟩=some (.slice A0 n0 c0):=(blk_cell S2q.out 0).trans rfl
    have u1:wq.cell? ⟨g2,1,none⟩=some (.slice A1 n1 c1):=(blk_cell S2q.out 1).trans rfl
    have u2:wq.cell? ⟨g2,2,none⟩=some (.slice A4 (r.path.length+1) c4):=(blk_cell S2q.out 2).trans rfl
    have u3:wq.cell? ⟨g2,3,none⟩=some (.int .i64 r.t.f0):=(blk_cell S2q.out 3).trans rfl
    have u4:wq.cell? ⟨g2,4,none⟩=some (.int .i64 r.t.f1):=(blk_cell S2q.out 4).trans rfl
    have u5:wq.cell? ⟨g2,5,none⟩=some (.slice At r.t.f2.length ct):=(blk_cell S2q.out 5).trans rfl
    have u6:wq.cell? ⟨g2,6,none⟩=some (.bool r.known):=(blk_cell S2q.out 6).trans rfl
    have u7:wq.cell? ⟨g2,7,none⟩=some (.int .i64 r.steps):=(blk_cell S2q.out 7).trans rfl
    have u8:wq.cell? ⟨g2,8,none⟩=some (.bool r.lost):=(blk_cell S2q.out 8).trans rfl
    have f0:wq.frozen? ⟨g2,0,none⟩=false:=bkF S2q.out 0
    have f1:wq.frozen? ⟨g2,1,none⟩=false:=bkF S2q.out 1
    have f2:wq.frozen? ⟨g2,2,none⟩=false:=bkF S2q.out 2
    have f3:wq.frozen? ⟨g2,3,none⟩=false:=bkF S2q.out 3
    have f4:wq.frozen? ⟨g2,4,none⟩=false:=bkF S2q.out 4
    have f5:wq.frozen? ⟨g2,5,none⟩=false:=bkF S2q.out 5
    have f6:wq.frozen? ⟨g2,6,none⟩=false:=bkF S2q.out 6
    have f7:wq.frozen? ⟨g2,7,none⟩=false:=bkF S2q.out 7
    have f8:wq.frozen? ⟨g2,8,none⟩=false:=bkF S2q.out 8
    rw [h1] at u6
    obtain ⟨j,hj⟩:∃ j:Nat,i=(j:Int):=⟨i.toNat,by omega⟩
    subst hj
    obtain ⟨ad,A5,c5,he,hx0,hx1,hx2,hl5,hC5⟩:=at_T36 HVq.out.t.c (j:Int) (by omega) (by omega)
    cases he
    rw [Int.toNat_natCast] at hx0 hx1 hx2
    have HC5:=Az.mk hC5
    have HL5:=Az.mk hl5
    have HTC5:=Az.mk (show tcntL (rd_T36 r.t.f2 (j:Int)).f2≤1000000 from by have:=tcnt_child r.t.f2 j (by omega); have:=HTC.out; omega)
    have hjl:j < r.t.f2.length:=by omega
    have p1:(0≤(j:Int))=True:=eq_true (by omega)
    have p2:((j:Int) < (r.t.f2.length:Int))=True:=eq_true (by omega)
    have p3:(j < r.t.f2.length)=True:=eq_true hjl
    clear hl5 hC5 q1 q2 q3 h2 h3 h4
    obtain ⟨x,hxe⟩:∃ x,rd_T36 r.t.f2 (j:Int)=x:=⟨_,rfl⟩
    rw [hxe] at hx0 hx1 hx2 HC5 HL5 HTC5
    have HXE:=Az.mk hxe
    clear hxe
    go_wp2_with fail
    (with_reducible refine (tcopy_calls _ x.f0 x.f1 x.f2 A5 c5 wq (Nat.lt_succ_self _) HTC5.out HC5.out HL5.out).mono ?_)
    rintro e w5 ⟨v,rfl,hRv,hb5⟩
    obtain ⟨Av,cv,rfl,hV⟩:=V_new hRv
    have HTV:=Az.mk (show Tm w5 (fun k=>wq.heap.size≤k) x Av cv from hV)
    have S25:=Az.mk (bkB S2q.out hb5)
    have S45:=Az.mk (bkB S4q.out hb5)
    have HB5:=Az.mk (bst HBq.out hb5)
    have HP5:=Az.mk (Kd.V_below HPq.out hb5)
    have HZ5:=Az.mk (And.intro (blk_lt S2q.out) (blk_lt S4q.out))
    have HZ6:=Az.mk HBq.out.size
    clear hRv hV hb5 u0 u1 u2 u3 u4 u5 u6 u7 u8 f0 f1 f2 f3 f4 f5 f6 f7 f8 hx0 hx1 hx2
    have u0:w5.cell? ⟨g2,0,none⟩=some (.slice A0 n0 c0):=(blk_cell S25.out 0).trans rfl
    have u1:w5.cell? ⟨g2,1,none⟩=some (.slice A1 n1 c1):=(blk_cell S25.out 1).trans rfl
    have u2:w5.cell? ⟨g2,2,none⟩=some (.slice A4 (r.path.length+1) c4):=(blk_cell S25.out 2).trans rfl
    have u3:w5.cell? ⟨g2,3,none⟩=some (.int .i64 r.t.f0):=(blk_cell S25.out 3).trans rfl
    have u4:w5.cell? ⟨g2,4,none⟩=some (.int .i64 r.t.f1):=(blk_cell S25.out 4).trans rfl
    have u5:w5.cell? ⟨g2,5,none⟩=some (.slice (some ad) r.t.f2.length ct):=(blk_cell S25.out 5).trans rfl
    have u6:w5.cell? ⟨g2,6,none⟩=some (.bool r.known):=(blk_cell S25.out 6).trans rfl
    have u7:w5.cell? ⟨g2,7,none⟩=some (.int .i64 r.steps):=(blk_cell S25.out 7).trans rfl
    have u8:w5.cell? ⟨g2,8,none⟩=some (.bool r.lost):=(blk_cell S25.out 8).trans rfl
    have f0:w5.frozen? ⟨g2,0,none⟩=false:=bkF S25.out 0
    have f1:w5.frozen? ⟨g2,1,none⟩=false:=bkF S25.out 1
    have f2:w5.frozen? ⟨g2,2,none⟩=false:=bkF S25.out 2
    have f3:w5.frozen? ⟨g2,3,none⟩=false:=bkF S25.out 3
    have f4:w5.frozen? ⟨g2,4,none⟩=false:=bkF S25.out 4
    have f5:w5.frozen? ⟨g2,5,none⟩=false:=bkF S25.out 5
    have f6:w5.frozen? ⟨g2,6,none⟩=false:=bkF S25.out 6
    have f7:w5.frozen? ⟨g2,7,none⟩=false:=bkF S25.out 7
    have f8:w5.frozen? ⟨g2,8,none⟩=false:=bkF S25.out 8
    have z0:w5.cell? ⟨g4,0,none⟩=some (.slice none 0 0):=(blk_cell S45.out 0).trans rfl
    have z1:w5.cell? ⟨g4,1,none⟩=some (.slice none 0 0):=(blk_cell S45.out 1).trans rfl
    have z2:w5.cell? ⟨g4,2,none⟩=some (.slice none 0 0):=(blk_cell S45.out 2).trans rfl
    have z3:w5.cell? ⟨g4,3,none⟩=some (.int .i64 0):=(blk_cell S45.out 3).trans rfl
    have z4:w5.cell? ⟨g4,4,none⟩=some (.int .i64 0):=(blk_cell S45.out 4).trans rfl
    have z5:w5.cell? ⟨g4,5,none⟩=some (.slice none 0 0):=(blk_cell S45.out 5).trans rfl
    have z6:w5.cell? ⟨g4,6,none⟩=some (.bool false):=(blk_cell S45.out 6).trans rfl
    have z7:w5.cell? ⟨g4,7,none⟩=some (.int .i64 0):=(blk_cell S45.out 7).trans rfl
    have z8:w5.cell? ⟨g4,8,none⟩=some (.bool false):=(blk_cell S45.out 8).trans rfl
    have y0:w5.frozen? ⟨g4,0,none⟩=false:=bkF S45.out 0
    have y1:w5.frozen? ⟨g4,1,none⟩=false:=bkF S45.out 1
    have y2:w5.frozen? ⟨g4,2,none⟩=false:=bkF S45.out 2
    have y3:w5.frozen? ⟨g4,3,none⟩=false:=bkF S45.out 3
    have y4:w5.frozen? ⟨g4,4,none⟩=false:=bkF S45.out 4
    have y5:w5.frozen? ⟨g4,5,none⟩=false:=bkF S45.out 5
    have y6:w5.frozen? ⟨g4,6,none⟩=false:=bkF S45.out 6
    have y7:w5.frozen? ⟨g4,7,none⟩=false:=bkF S45.out 7
    have y8:w5.frozen? ⟨g4,8,none⟩=false:=bkF S45.out 8
    go_wp2_with fail
    refine bodyPost_ret (results_ct rfl _ _ g4 51 _ (0,0) _ rfl (put9 (blk_far (blk_far (blk_far (blk_far S45.out HNE3 _) HNE3 _) HNE3 _) HNE3 _) _ _ _ _ _ _ _ _ _) Try.underlying51 rfl (by kernel_rfl)) rfl ?_
    have hxe:=HXE.out
    subst hxe
    have hpn:(r.path ++ [(j:Int)]).length=r.path.length+1:=by rw [List.length_append,List.length_singleton]
    have HP6:=Kd.V_mono (ok':=fun k=>(ok k∨w.heap.size≤k)∧k≠g2∧k≠g4) HP5.out (fun k hk=>by have h1:=HL2.out; have h2:=HB2.out.size; have:w2.heap.size≤k:=hk; exact ⟨.inr (by omega),by omega,by omega⟩)
    have HT6:=HTV.out.mono (ok':=fun k=>(ok k∨w.heap.size≤k)∧k≠g2∧k≠g4) (fun k hk=>by have h1:=HZ5.out; have h2:=HZ6.out; have:wq.heap.size≤k:=hk; exact ⟨.inr (by omega),by omega,by omega⟩)
    have HM6:RmV w5 (fun k=>(ok k∨w.heap.size≤k)∧k≠g2∧k≠g4) ⟨r.path ++ [(j:Int)],rd_T36 r.t.f2 (j:Int),false,r.steps,r.lost⟩ A4 c4 Av cv:=⟨(by show Kd.V _ _ _ _ _ (.slice A4 (r.path ++ [(j:Int)]).length c4) _; rw [hpn]; exact HP6),HT6⟩
    refine ⟨A4,c4,Av,cv,rfl,?_,below_set9 (bset (bset (bset (bset HB5.out HG2.out) HG2.out) HG2.out) HG2.out) HG4.out _ _ _ _ _ _ _ _ _⟩
    exact ((HM6.far (p:=⟨g2,3,none⟩) (fun k hk=>hk.2.1) _).far (p:=⟨g2,4,none⟩) (fun k hk=>hk.2.1) _ |>.far (p:=⟨g2,5,none⟩) (fun k hk=>hk.2.1) _ |>.far (p:=⟨g2,6,none⟩) (fun k hk=>hk.2.1) _ |>.far9 (fun k hk=>hk.2.2) _ _ _ _ _ _ _ _ _).mono (fun k hk=>hk.1)
end Go.Proofs.Ytkgknidogelffaa.I
namespace Go.Proofs.Ytkgknidogelffaa.I
open Go.RowKit Go.Proofs.YtkgknidogelffaaW.PrintWords Go.Proofs.YtkgknidogelffaaW.PrintLast Go.Proofs.YtkgknidogelffaaW.PrintMore
attribute [local go_sem] max2_int min2_int max_two min_two max_three min_three max_four min_four
set_option linter.unusedVariables false
set_option maxRecDepth 100000
set_option linter.unusedSimpArgs false
set_option maxHeartbeats 8000000 in
theorem refgo_at {w:World} {A0:Option Addr} {c0:Nat} {l0:List S84} {A1:Option Addr} {c1:Nat} {l1:List S41} (hs:Sch w A0 c0 l0 A1 c1 l1) (hb:schB l0 l1=true) {ok:Nat→Prop} {r:RM} {Ap:Option Addr} {cp:Nat} {At:Option Addr} {ct:Nat} (hv:RmV w ok r Ap cp At ct) (hst:stB l0 l1 r.t=0) (hsp:0≤r.steps∧r.steps≤4000000000) (fuel:Int) (R:RM) (x m z:Int) (hR:refGo l1 fuel r=(R,x,m,z)) :
    Calls Try.prog 40 #[.agg (rmC (.slice A0 l0.length c0) (.slice A1 l1.length c1) r Ap cp At ct),.int .i64 fuel] w fun e w'=>∃ At' ct',e=.returned (.tuple #[.agg (rmC (.slice A0 l0.length c0) (.slice A1 l1.length c1) R Ap cp At' ct'),.int .i64 x,.int .i64 m,.int .i64 z])∧RmV w' (fun k=>ok k∨w.heap.size≤k) R Ap cp At' ct'∧Below w.heap.size w w':=by
  unfold refGo at hR
  by_cases h1:fuel < 0∨1048576 < fuel
  rotate_left
  · rw [if_neg h1] at hR
    have e:((fuel.toNat:Nat):Int)=fuel:=by omega
    rw [← e]
    refine (refgo_calls A0 c0 l0 A1 c1 l1 r Ap cp At ct fuel.toNat (by omega) w hs hb ok hv.t hst hsp _ hR).mono ?_
    rintro e w' ⟨At',ct',rfl,hp,ht,hbb⟩
    refine ⟨At',ct',rfl,⟨?_,ht⟩,hbb⟩
    have hp:R.path=r.path:=hp
    rw [hp]
    exact Kd.V_mono (Kd.V_below hv.p hbb) (fun k hk=>.inl hk)
  rw [if_pos h1] at hR
  injection hR with e1 hR
  injection hR with e2 hR
  injection hR with e3 e4
  subst e1 e2 e3 e4
  have hu25:=Try.underlying25
  have hu51:=Try.underlying51
  have hu36:=Try.underlying36
  have HV:=Az.mk hv.bound
  clear hs hb hst hsp hv
  unfold rmC
  go_enter Try.func40,Try.ntmps40
  go_upto_region 1 with (first
    | ((with_reducible refine gate_dst (N:=2) rfl ?_)
       refine box_event ?hg (N:=2) ?hd (cs:=#[.slice A0 l0.length c0,.slice A1 l1.length c1,.slice Ap r.path.length cp,.int .i64 r.t.f0,.int .i64 r.t.f1,.slice At r.t.f2.length ct,.bool r.known,.int .i64 r.steps,.bool r.lost]) (t:=51) ?hr ?_
       (case hd=>rfl)
       (case hg=>rfl)
       (case hr=>first | (go_simp; done) | (go_simp; rfl))
       intro g2 hg2 w1 hbox hb1
       have S2:=Az.mk hbox
       have HB1:=Az.mk hb1
       have HG2:=Az.mk (show w.heap.size≤g2 from by omega)
       clear hbox hb1 hg2)
    | ((with_reducible refine gate_dst (N:=4) rfl ?_)
       refine box_event ?hg (N:=4) ?hd (cs:=#[.slice none 0 0,.slice none 0 0,.slice none 0 0,.int .i64 0,.int .i64 0,.slice none 0 0,.bool false,.int .i64 0,.bool false]) (t:=51) ?hr ?_
       (case hd=>rfl)
       (case hg=>rfl)
       (case hr=>first | (go_simp; done) | (go_simp; rfl))
       intro g4 hg4 w2 hbox hb2
       have S4:=Az.mk hbox
       have S22:=Az.mk (bkB S2.out hb2)
       have HB2:=Az.mk (bst HB1.out hb2)
       have HG4:=Az.mk (show w.heap.size≤g4 from by have:=HB1.out.size; omega)
       have HNE:=Az.mk (show g2≠g4 from by have:=blk_lt S2.out; omega)
       clear hbox hb2 hg4 S2))
  have HV2:=Az.mk (show RmV w2 (fun k=>ok k∧k≠g2∧k≠g4) r Ap cp At ct from (HV.out.below HB2.out).mono (fun k hk=>⟨hk.1,by have:=HG2.out; have:=hk.2; omega,by have:=HG4.out; have:=hk.2; omega⟩))
  have u0:w2.cell? ⟨g2,0,none⟩=some (.slice A0 l0.length c0):=(blk_cell S22.out 0).trans rfl
  have u1:w2.cell? ⟨g2,1,none⟩=some (.slice A1 l1.length c1):=(blk_cell S22.out 1).trans rfl
  have u2:w2.cell? ⟨g2,2,none⟩=some (.slice Ap r.path.length cp):=(blk_cell S22.out 2).trans rfl
  have u3:w2.cell? ⟨g2,3,none⟩=some (.int .i64 r.t.f0):=(blk_cell S22.out 3).trans rfl
  have u4:w2.cell? ⟨g2,4,none⟩=some (.int .i64 r.t.f1):=(blk_cell S22.out 4).trans rfl
  have u5:w2.cell? ⟨g2,5,none⟩=some (.slice At r.t.f2.length ct):=(blk_cell S22.out 5).trans rfl
  have u6:w2.cell? ⟨g2,6,none⟩=some (.bool r.known):=(blk_cell S22.out 6).trans rfl
  have u7:w2.cell? ⟨g2,7,none⟩=some (.int .i64 r.steps):=(blk_cell S22.out 7).trans rfl
  have u8:w2.cell? ⟨g2,8,none⟩=some (.bool r.lost):=(blk_cell S22.out 8).trans rfl
  have f0:w2.frozen? ⟨g2,0,none⟩=false:=bkF S22.out 0
  have f1:w2.frozen? ⟨g2,1,none⟩=false:=bkF S22.out 1
  have f2:w2.frozen? ⟨g2,2,none⟩=false:=bkF S22.out 2
  have f3:w2.frozen? ⟨g2,3,none⟩=false:=bkF S22.out 3
  have f4:w2.frozen? ⟨g2,4,none⟩=false:=bkF S22.out 4
  have f5:w2.frozen? ⟨g2,5,none⟩=false:=bkF S22.out 5
  have f6:w2.frozen? ⟨g2,6,none⟩=false:=bkF S22.out 6
  have f7:w2.frozen? ⟨g2,7,none⟩=false:=bkF S22.out 7
  have f8:w2.frozen? ⟨g2,8,none⟩=false:=bkF S22.out 8
  have z0:w2.cell? ⟨g4,0,none⟩=some (.slice none 0 0):=(blk_cell S4.out 0).trans rfl
  have z1:w2.cell? ⟨g4,1,none⟩=some (.slice none 0 0):=(blk_cell S4.out 1).trans rfl
  have z2:w2.cell? ⟨g4,2,none⟩=some (.slice none 0 0):=(blk_cell S4.out 2).trans rfl
  have z3:w2.cell? ⟨g4,3,none⟩=some (.int .i64 0):=(blk_cell S4.out 3).trans rfl
  have z4:w2.cell? ⟨g4,4,none⟩=some (.int .i64 0):=(blk_cell S4.out 4).trans rfl
  have z5:w2.cell? ⟨g4,5,none⟩=some (.slice none 0 0):=(blk_cell S4.out 5).trans rfl
  have z6:w2.cell? ⟨g4,6,none⟩=some (.bool false):=(blk_cell S4.out 6).trans rfl
  have z7:w2.cell? ⟨g4,7,none⟩=some (.int .i64 0):=(blk_cell S4.out 7).trans rfl
  have z8:w2.cell? ⟨g4,8,none⟩=some (.bool false):=(blk_cell S4.out 8).trans rfl
  have y0:w2.frozen? ⟨g4,0,none⟩=false:=bkF S4.out 0
  have y1:w2.frozen? ⟨g4,1,none⟩=false:=bkF S4.out 1
  have y2:w2.frozen? ⟨g4,2,none⟩=false:=bkF S4.out 2
  have y3:w2.frozen? ⟨g4,3,none⟩=false:=bkF S4.out 3
  have y4:w2.frozen? ⟨g4,4,none⟩=false:=bkF S4.out 4
  have y5:w2.frozen? ⟨g4,5,none⟩=false:=bkF S4.out 5
  have y6:w2.frozen? ⟨g4,6,none⟩=false:=bkF S4.out 6
  have y7:w2.frozen? ⟨g4,7,none⟩=false:=bkF S4.out 7
  have y8:w2.frozen? ⟨g4,8,none⟩=false:=bkF S4.out 8
  by_cases h0:fuel < 0
  · have q1:(fuel < 0)=True:=eq_true h0
    go_wp2_with fail
    refine bodyPost_ret (results_cttt rfl _ _ g4 51 _ (0,0) _ rfl (put9 S4.out _ _ _ _ _ _ _ _ _) Try.underlying51 rfl (by kernel_rfl)) rfl ?_
    refine ⟨At,ct,rfl,?_,below_set9 HB2.out HG4.out _ _ _ _ _ _ _ _ _⟩
    exact (HV2.out.far9 (fun k hk=>hk.2.2) _ _ _ _ _ _ _ _ _).mono (fun k hk=>.inl hk.1)
  · have q1:(fuel < 0)=False:=eq_false h0
    have q2:(1048576 < fuel)=True:=eq_true (by omega)
    go_wp2_with fail
    refine bodyPost_ret (results_cttt rfl _ _ g4 51 _ (0,0) _ rfl (put9 S4.out _ _ _ _ _ _ _ _ _) Try.underlying51 rfl (by kernel_rfl)) rfl ?_
    refine ⟨At,ct,rfl,?_,below_set9 HB2.out HG4.out _ _ _ _ _ _ _ _ _⟩
    exact (HV2.out.far9 (fun k hk=>hk.2.2) _ _ _ _ _ _ _ _ _).mono (fun k hk=>.inl hk.1)
variable {w w':World} {lo gm:Nat} {lq l1:List S41} {l0:List S84} {L:List (Nat × MS)} {X X':Nat→Prop} {s s':MS} {i:Nat}
theorem mp_parts (hL:L[i]?=some (gm,s)):∃ hi:i < L.length,L[i].1=gm∧L[i].2=s:=by
  obtain ⟨hi,he⟩:=List.getElem?_eq_some_iff.1 hL
  exact ⟨hi,by rw [he],by rw [he]⟩
theorem mp_go (hs:schB l0 l1=true) (hM:MsX w lo (l1.map ownF) L X) (hL:L[i]?=some (gm,s)) (hg:Good l0 l1 s) {fuel:Int} {k:Nat} {a n e:Int} (hr:goS l1 fuel k s=some (a,n,e,s')) :
    Calls Try.prog 12 #[.pointer (some ⟨gm,0,none⟩),.int .i64 fuel] w fun x w'=>x=.returned (.tuple #[.int .i64 a,.int .i64 n,.int .i64 e])∧MsX w' lo (l1.map ownF) (L.set i (gm,s')) (XL w w' X)∧(∀ k,X k→k < w.heap.size→w'.heap[k]?=w.heap[k]?)∧Below lo w w':=by
  obtain ⟨hi,e1,e2⟩:=mp_parts hL
  have:=mx_go (lq:=l1.map ownF) hs (sameF_own l1) hM hi (by rw [e2]; exact hg) fuel k a n e s' (by rw [e2]; exact hr)
  rw [e1] at this
  exact this
theorem mp_kid (hM:MsX w lo (l1.map ownF) L X) (hL:L[i]?=some (gm,s)) (hg:Good l0 l1 s) (j:Int) :
    Calls Try.prog 14 #[.pointer (some ⟨gm,0,none⟩),.int .i64 j] w fun x w'=>x=.returned (.int .i64 (kidE s j))∧MsX w' lo (l1.map ownF) (L.set i (gm,kidS s j)) (XL w w' X)∧(∀ k,X k→k < w.heap.size→w'.heap[k]?=w.heap[k]?)∧Below lo w w':=by
  obtain ⟨hi,e1,e2⟩:=mp_parts hL
  have:=mx_kid (lq:=l1.map ownF) (l0:=l0) (l1:=l1) hM hi (by rw [e2]; exact hg) j (kidE s j) (kidS s j) (by rw [e2]) (by rw [e2])
  rw [e1] at this
  exact this
theorem mp_path (hM:MsX w lo (l1.map ownF) L X) (hL:L[i]?=some (gm,s)) (hg:Good l0 l1 s) :
    Calls Try.prog 13 #[.pointer (some ⟨gm,0,none⟩)] w fun x w'=>∃ A c,x=.returned (.slice A s.path.length c)∧Kd.R (Kd.int .i64) 3 w' w.heap.size (fun _=>True) (.slice A s.path.length c) s.path∧MsX w' lo (l1.map ownF) L X∧Below w.heap.size w w':=by
  obtain ⟨hi,e1,e2⟩:=mp_parts hL
  have:=mx_path (lq:=l1.map ownF) (l0:=l0) (l1:=l1) hM hi (by rw [e2]; exact hg)
  rw [e1,e2] at this
  exact this
theorem mp_fork (hM:MsX w lo (l1.map ownF) L X) (hL:L[i]?=some (gm,s)) (hg:Good l0 l1 s) :
    Calls Try.prog 18 #[.pointer (some ⟨gm,0,none⟩)] w fun x w'=>∃ gn,x=.returned (.pointer (some ⟨gn,0,none⟩))∧MsX w' lo (l1.map ownF) (L ++ [(gn,s)]) (XL w w' X)∧Below w.heap.size w w':=by
  obtain ⟨hi,e1,e2⟩:=mp_parts hL
  have:=mx_fork (lq:=l1.map ownF) (l0:=l0) (l1:=l1) hM hi (by rw [e2]; exact hg)
  rw [e1,e2] at this
  exact this
theorem MsX.far9 {g:Nat} (h:MsX w lo lq L X) (hg:X g) (a0 a1 a2 a3 a4 a5 a6 a7 a8:Value):MsX (((((((((w.setCell ⟨g,0,none⟩ a0).setCell ⟨g,1,none⟩ a1).setCell ⟨g,2,none⟩ a2).setCell ⟨g,3,none⟩ a3).setCell ⟨g,4,none⟩ a4).setCell ⟨g,5,none⟩ a5).setCell ⟨g,6,none⟩ a6).setCell ⟨g,7,none⟩ a7).setCell ⟨g,8,none⟩ a8) lo lq L X :=
  ((((((((h.far (p:=⟨g,0,none⟩) hg a0).far (p:=⟨g,1,none⟩) hg a1).far (p:=⟨g,2,none⟩) hg a2).far (p:=⟨g,3,none⟩) hg a3).far (p:=⟨g,4,none⟩) hg a4).far (p:=⟨g,5,none⟩) hg a5).far (p:=⟨g,6,none⟩) hg a6).far (p:=⟨g,7,none⟩) hg a7).far (p:=⟨g,8,none⟩) hg a8
theorem below_set9b {w0 w:World} {b g:Nat} (h:Below b w0 w) (hg:b≤g) (a0 a1 a2 a3 a4 a5 a6 a7 a8:Value):Below b w0 (((((((((w.setCell ⟨g,0,none⟩ a0).setCell ⟨g,1,none⟩ a1).setCell ⟨g,2,none⟩ a2).setCell ⟨g,3,none⟩ a3).setCell ⟨g,4,none⟩ a4).setCell ⟨g,5,none⟩ a5).setCell ⟨g,6,none⟩ a6).setCell ⟨g,7,none⟩ a7).setCell ⟨g,8,none⟩ a8) :=
  ((((((((h.setCell (p:=⟨g,0,none⟩) hg a0).setCell (p:=⟨g,1,none⟩) hg a1).setCell (p:=⟨g,2,none⟩) hg a2).setCell (p:=⟨g,3,none⟩) hg a3).setCell (p:=⟨g,4,none⟩) hg a4).setCell (p:=⟨g,5,none⟩) hg a5).setCell (p:=⟨g,6,none⟩) hg a6).setCell (p:=⟨g,7,none⟩) hg a7).setCell (p:=⟨g,8,none⟩) hg a8
structure BothP (l0:List S84) (l1:List S41) (w w':World) (lo:Nat) (ok:Nat→Prop) (L:List (Nat × MS)) (X:Nat→Prop) (s':MS) (R:RM) (Ap:Option Addr) (cp:Nat) (At:Option Addr) (ct:Nat) (X':Nat→Prop):Prop where
  m:MsX w' lo (l1.map ownF) L X'
  up:∀ k,X k→k < w.heap.size→X' k
  new:∀ k,w'.heap.size≤k→X' k
  v:RmV w' (fun k=>ok k∨(w.heap.size≤k∧X' k)) R Ap cp At ct
  same:∀ k,X k→k < w.heap.size→w'.heap[k]?=w.heap[k]?
  bel:Below lo w w'
theorem both_fin {w3 w4 wq:World} {g:Nat} {ok:Nat→Prop} {R:RM} {Ap At:Option Addr} {cp ct:Nat} (h03:Below w.heap.size w w3) (hX:∀ k,w.heap.size≤k→X k) (hlo:lo≤w.heap.size) (hsame:∀ k,X k→k < w3.heap.size→w4.heap[k]?=w3.heap[k]?) (hbl:Below lo w3 w4) (hM:MsX w4 lo (l1.map ownF) L (XL w3 w4 X)) (h4q:Below w4.heap.size w4 wq) (hg:w.heap.size≤g) (hg':g < w3.heap.size) (hv:RmV wq (fun k=>(ok k∧k < w.heap.size)∨w4.heap.size≤k) R Ap cp At ct) (a0 a1 a2 a3 a4 a5 a6 a7 a8:Value) :
    BothP l0 l1 w (((((((((wq.setCell ⟨g,0,none⟩ a0).setCell ⟨g,1,none⟩ a1).setCell ⟨g,2,none⟩ a2).setCell ⟨g,3,none⟩ a3).setCell ⟨g,4,none⟩ a4).setCell ⟨g,5,none⟩ a5).setCell ⟨g,6,none⟩ a6).setCell ⟨g,7,none⟩ a7).setCell ⟨g,8,none⟩ a8) lo ok L X s' R Ap cp At ct (XL w3 w4 X):=by
  have z3:=h03.size
  have z4:=hbl.size
  have zq:=h4q.size
  have hF:Below w.heap.size w4 (((((((((wq.setCell ⟨g,0,none⟩ a0).setCell ⟨g,1,none⟩ a1).setCell ⟨g,2,none⟩ a2).setCell ⟨g,3,none⟩ a3).setCell ⟨g,4,none⟩ a4).setCell ⟨g,5,none⟩ a5).setCell ⟨g,6,none⟩ a6).setCell ⟨g,7,none⟩ a7).setCell ⟨g,8,none⟩ a8):=below_set9b (below_lo h4q (by omega)) hg _ _ _ _ _ _ _ _ _
  have zf:=hF.size
  refine ⟨(hM.below h4q).far9 (.inl ⟨hX g hg,hg'⟩) _ _ _ _ _ _ _ _ _,fun k hk hl=>.inl ⟨hk,by omega⟩,fun k hk=>.inr (by omega),(hv.far9 (fun k hk=>by omega) _ _ _ _ _ _ _ _ _).mono (fun k hk=>?_),fun k hk hl=>(hF.block k hl).trans ((hsame k hk (by omega)).trans (h03.block k hl)),below_tr (below_lo h03 hlo) (below_tr hbl (below_lo hF hlo))⟩
  rcases hk with hk | hk
  · exact .inl hk.1
  · exact .inr ⟨by omega,.inr hk⟩
end Go.Proofs.Ytkgknidogelffaa.I
namespace Go.Proofs.Ytkgknidogelffaa.I
open Go.RowKit Go.Proofs.YtkgknidogelffaaW.PrintWords Go.Proofs.YtkgknidogelffaaW.PrintLast Go.Proofs.YtkgknidogelffaaW.PrintMore
attribute [local go_sem] max2_int min2_int max_two min_two max_three min_three max_four min_four
set_option linter.unusedVariables false
set_option maxRecDepth 100000
set_option linter.unusedSimpArgs false
theorem set_same {α:Type} {L:List α} {i:Nat} {x:α} (h:L[i]?=some x):L.set i x=L:=by
  obtain ⟨hi,he⟩:=List.getElem?_eq_some_iff.1 h
  rw [← he,List.set_getElem_self]
def BothQ (A0:Option Addr) (c0:Nat) (l0:List S84) (A1:Option Addr) (c1:Nat) (l1:List S41) (w:World) (lo gm:Nat) (L:List (Nat × MS)) (X:Nat→Prop) (i:Nat) (ok:Nat→Prop) (e:Ending) (w':World):Prop:=∃ R Ap' cp' At' ct' s' X',e=.returned (.tuple #[.agg (rmC (.slice A0 l0.length c0) (.slice A1 l1.length c1) R Ap' cp' At' ct'),.bool true])∧(R.lost=true∨2000 < R.steps∨Pal l0 l1 s' R)∧Good l0 l1 s'∧BothP l0 l1 w w' lo ok (L.set i (gm,s')) X s' R Ap' cp' At' ct' X'
set_option maxHeartbeats 16000000 in
theorem both_calls {w0 w:World} {lo gm:Nat} {A0:Option Addr} {c0:Nat} {l0:List S84} {A1:Option Addr} {c1:Nat} {l1:List S41} {L:List (Nat × MS)} {X:Nat→Prop} {s:MS} {i:Nat} (hS:Sch w0 A0 c0 l0 A1 c1 l1) (hb:schB l0 l1=true) (hB0:Below w0.heap.size w0 w) (hlo0:w0.heap.size≤lo) (hlo:lo≤w.heap.size) (hM:MsX w lo (l1.map ownF) L X) (hX:∀ k,w.heap.size≤k→X k) (hL:L[i]?=some (gm,s)) (hg:Good l0 l1 s) {r:RM} (hp:Pal l0 l1 s r) {ok:Nat→Prop} (hok:∀ k,ok k→k < lo∨X k) {Ap At:Option Addr} {cp ct:Nat} (hv:RmV w ok r Ap cp At ct) (kd on n:Int) (hn:kd=0→n≤300∨1048576 < n) :
    Calls Try.prog 19 #[.pointer (some ⟨gm,0,none⟩),.agg (rmC (.slice A0 l0.length c0) (.slice A1 l1.length c1) r Ap cp At ct),.agg #[.int .i64 kd,.int .i64 on,.int .i64 n]] w fun e w'=>BothQ A0 c0 l0 A1 c1 l1 w lo gm L X i ok e w':=by
  have hu25:=Try.underlying25
  have hu51:=Try.underlying51
  have hu36:=Try.underlying36
  have hu57:=Try.underlying57
  have HS:=Az.mk hS
  have HB:=Az.mk hb
  have HB0:=Az.mk hB0
  have HLO:=Az.mk (And.intro hlo0 hlo)
  have HM:=Az.mk hM
  have HX:=Az.mk hX
  have HL:=Az.mk hL
  have HG:=Az.mk hg
  have HP:=Az.mk hp
  have HOK:=Az.mk hok
  have HV:=Az.mk hv.bound
  have HN:=Az.mk hn
  clear hS hb hB0 hlo0 hlo hM hX hL hg hp hok hv hn
  unfold rmC
  go_enter Try.func19,Try.ntmps19
  go_upto_region 1 with (first
    | ((with_reducible refine gate_dst (N:=4) rfl ?_)
       refine box_event ?hg (N:=4) ?hd (cs:=#[.slice A0 l0.length c0,.slice A1 l1.length c1,.slice Ap r.path.length cp,.int .i64 r.t.f0,.int .i64 r.t.f1,.slice At r.t.f2.length ct,.bool r.known,.int .i64 r.steps,.bool r.lost]) (t:=51) ?hr ?_
       (case hd=>rfl)
       (case hg=>rfl)
       (case hr=>first | (go_simp; done) | (go_simp; rfl))
       intro g4 hg4 w1 hbox hb1
       have S41:=Az.mk hbox
       have HB1:=Az.mk hb1
       have HG4:=Az.mk (show w.heap.size≤g4 from by omega)
       clear hbox hb1 hg4)
    | ((with_reducible refine gate_dst (N:=5) rfl ?_)
       refine box_event ?hg (N:=5) ?hd (cs:=#[.int .i64 kd,.int .i64 on,.int .i64 n]) (t:=57) ?hr ?_
       (case hd=>rfl)
       (case hg=>rfl)
       (case hr=>first | (go_simp; done) | (go_simp; rfl))
       intro g5 hg5 w2 hbox hb2
       have S52:=Az.mk hbox
       have S42:=Az.mk (bkB S41.out hb2)
       have HB2:=Az.mk (bst HB1.out hb2)
       have HG5:=Az.mk (show w.heap.size≤g5 from by have:=HB1.out.size; omega)
       clear hbox hb2 hg5 S41)
    | ((with_reducible refine gate_dst (N:=6) rfl ?_)
       refine box_event ?hg (N:=6) ?hd (cs:=#[.slice none 0 0,.slice none 0 0,.slice none 0 0,.int .i64 0,.int .i64 0,.slice none 0 0,.bool false,.int .i64 0,.bool false]) (t:=51) ?hr ?_
       (case hd=>rfl)
       (case hg=>rfl)
       (case hr=>first | (go_simp; done) | (go_simp; rfl))
       intro g6 hg6 w3 hbox hb3
       have S6:=Az.mk hbox
       have S4:=Az.mk (bkB S42.out hb3)
       have S5:=Az.mk (bkB S52.out hb3)
       have HB3:=Az.mk (bst HB2.out hb3)
       have HN46:=Az.mk (show g4≠g6∧g5≠g6 from ⟨by have:=blk_lt S42.out; omega,by have:=blk_lt S52.out; omega⟩)
       have HG6:=Az.mk (show w.heap.size≤g6 from by have:=HB2.out.size; omega)
       clear hbox hb3 hg6 S42 S52))
  have HM3:=Az.mk (HM.out.below HB3.out)
  have HV3:=Az.mk (HV.out.below HB3.out)
  have HZ3:=Az.mk (And.intro (blk_lt S4.out) (And.intro (blk_lt S5.out) (blk_lt S6.out)))
  have o0:w3.cell? ⟨g5,0,none⟩=some (.int .i64 kd):=(blk_cell S5.out 0).trans rfl
  have o1:w3.cell? ⟨g5,1,none⟩=some (.int .i64 on):=(blk_cell S5.out 1).trans rfl
  have o2:w3.cell? ⟨g5,2,none⟩=some (.int .i64 n):=(blk_cell S5.out 2).trans rfl
  by_cases hk0:kd=0
  · have hn:=HN.out hk0
    obtain ⟨k,a,m,e,s',hr⟩:=goS_total HB.out HG.out n
    obtain ⟨R,x,m',z,hRG,hdis⟩:=pal_go HB.out HG.out HP.out hn hr
    have HR:=Az.mk hr
    have HRG:=Az.mk hRG
    have HDIS:=Az.mk hdis
    have HG':=Az.mk (goS_good HB.out HG.out hr)
    have q0:(kd == 0)=true:=beq_iff_eq.2 hk0
    have q0':(kd=0)=True:=eq_true hk0
    clear hk0 hn hr hRG hdis
    go_wp2_with fail
    (with_reducible refine (mp_go HB.out HM3.out HL.out HG.out HR.out).mono ?_)
    rintro e9 w4 ⟨rfl,hM4,hsame,hbl⟩
    have HSAME:=Az.mk hsame
    have S44:=Az.mk ((hsame g4 (HX.out _ HG4.out) HZ3.out.1).trans S4.out)
    have S54:=Az.mk ((hsame g5 (HX.out _ HG5.out) HZ3.out.2.1).trans S5.out)
    have S64:=Az.mk ((hsame g6 (HX.out _ HG6.out) HZ3.out.2.2).trans S6.out)
    have HV4:=Az.mk (HV3.out.move (w':=w4) (fun k hk hl=>(HOK.out k hk.1).elim (fun h=>hbl.block k h) (fun h=>hsame k h hl)))
    have HB4:=Az.mk (below_tr (below_tr HB0.out (below_lo HB3.out (Nat.le_trans HLO.out.1 HLO.out.2))) (below_lo hbl HLO.out.1))
    have HBL:=Az.mk hbl
    have HM4:=Az.mk hM4
    have HZ43:=Az.mk hbl.size
    clear hsame hbl hM4 o0 o1 o2
    have u0:w4.cell? ⟨g4,0,none⟩=some (.slice A0 l0.length c0):=(blk_cell S44.out 0).trans rfl
    have u1:w4.cell? ⟨g4,1,none⟩=some (.slice A1 l1.length c1):=(blk_cell S44.out 1).trans rfl
    have u2:w4.cell? ⟨g4,2,none⟩=some (.slice Ap r.path.length cp):=(blk_cell S44.out 2).trans rfl
    have u3:w4.cell? ⟨g4,3,none⟩=some (.int .i64 r.t.f0):=(blk_cell S44.out 3).trans rfl
    have u4:w4.cell? ⟨g4,4,none⟩=some (.int .i64 r.t.f1):=(blk_cell S44.out 4).trans rfl
    have u5:w4.cell? ⟨g4,5,none⟩=some (.slice At r.t.f2.length ct):=(blk_cell S44.out 5).trans rfl
    have u6:w4.cell? ⟨g4,6,none⟩=some (.bool r.known):=(blk_cell S44.out 6).trans rfl
    have u7:w4.cell? ⟨g4,7,none⟩=some (.int .i64 r.steps):=(blk_cell S44.out 7).trans rfl
    have u8:w4.cell? ⟨g4,8,none⟩=some (.bool r.lost):=(blk_cell S44.out 8).trans rfl
    have o0:w4.cell? ⟨g5,0,none⟩=some (.int .i64 kd):=(blk_cell S54.out 0).trans rfl
    have o1:w4.cell? ⟨g5,1,none⟩=some (.int .i64 on):=(blk_cell S54.out 1).trans rfl
    have o2:w4.cell? ⟨g5,2,none⟩=some (.int .i64 n):=(blk_cell S54.out 2).trans rfl
    go_wp2_with fail
    refine (refgo_at (HS.out.below HB4.out) HB.out HV4.out HP.out.stb ⟨HP.out.steps.1,by have:=HP.out.steps.2; omega⟩ n R x m' z HRG.out).mono ?_
    unfold rmC
    rintro e9 w5 ⟨At',ct',rfl,hv5,hb5⟩
    have HV5:=Az.mk hv5
    have HB5:=Az.mk hb5
    have S65:=Az.mk (bkB S64.out hb5)
    clear hv5 hb5 u0 u1 u2 u3 u4 u5 u6 u7 u8 o0 o1 o2
    go_upto_region 5 with (
      ((with_reducible refine gate_dst (N:=11) rfl ?_)
       refine box_event ?hg (N:=11) ?hd (cs:=#[.slice none 0 0,.slice none 0 0,.slice none 0 0,.int .i64 0,.int .i64 0,.slice none 0 0,.bool false,.int .i64 0,.bool false]) (t:=51) ?hr ?_
       (case hd=>rfl)
       (case hg=>rfl)
       (case hr=>first | (go_simp; done) | (go_simp; rfl))
       intro g7 hg_ w6 hbox hbb
       have hgw_:=HB5.out.size
       have Hq:=Az.mk (below_set9b hbb (Nat.le_of_eq hg_.symm) (.slice A0 l0.length c0) (.slice A1 l1.length c1) (.slice Ap R.path.length cp) (.int .i64 R.t.f0) (.int .i64 R.t.f1) (.slice At' R.t.f2.length ct') (.bool R.known) (.int .i64 R.steps) (.bool R.lost))
       have Sq:=Az.mk (put9 hbox (.slice A0 l0.length c0) (.slice A1 l1.length c1) (.slice Ap R.path.length cp) (.int .i64 R.t.f0) (.int .i64 R.t.f1) (.slice At' R.t.f2.length ct') (.bool R.known) (.int .i64 R.steps) (.bool R.lost))
       have hcz0:=(blk_cell hbox 0).trans rfl
       have hcz1:=(blk_cell hbox 1).trans rfl
       have hcz2:=(blk_cell hbox 2).trans rfl
       have hcz3:=(blk_cell hbox 3).trans rfl
       have hcz4:=(blk_cell hbox 4).trans rfl
       have hcz5:=(blk_cell hbox 5).trans rfl
       have hcz6:=(blk_cell hbox 6).trans rfl
       have hcz7:=(blk_cell hbox 7).trans rfl
       have hcz8:=(blk_cell hbox 8).trans rfl
       have hfz0:=bkF hbox 0
       have hfz1:=bkF hbox 1
       have hfz2:=bkF hbox 2
       have hfz3:=bkF hbox 3
       have hfz4:=bkF hbox 4
       have hfz5:=bkF hbox 5
       have hfz6:=bkF hbox 6
       have hfz7:=bkF hbox 7
       have hfz8:=bkF hbox 8
       clear hgw_ hbox hbb hg_))
    generalize (((((((((w6.setCell ⟨g7,0,none⟩ (.slice A0 l0.length c0)).setCell ⟨g7,1,none⟩ (.slice A1 l1.length c1)).setCell ⟨g7,2,none⟩ (.slice Ap R.path.length cp)).setCell ⟨g7,3,none⟩ (.int .i64 R.t.f0)).setCell ⟨g7,4,none⟩ (.int .i64 R.t.f1)).setCell ⟨g7,5,none⟩ (.slice At' R.t.f2.length ct')).setCell ⟨g7,6,none⟩ (.bool R.known)).setCell ⟨g7,7,none⟩ (.int .i64 R.steps)).setCell ⟨g7,8,none⟩ (.bool R.lost))=wq at *
    clear hcz0 hcz1 hcz2 hcz3 hcz4 hcz5 hcz6 hcz7 hcz8 hfz0 hfz1 hfz2 hfz3 hfz4 hfz5 hfz6 hfz7 hfz8
    have S6q:=Az.mk (bkB S65.out Hq.out)
    have HV5q:=Az.mk (HV5.out.below Hq.out)
    have H4q:=Az.mk (bst HB5.out Hq.out)
    have u0:wq.cell? ⟨g7,0,none⟩=some (.slice A0 l0.length c0):=(blk_cell Sq.out 0).trans rfl
    have u1:wq.cell? ⟨g7,1,none⟩=some (.slice A1 l1.length c1):=(blk_cell Sq.out 1).trans rfl
    have u2:wq.cell? ⟨g7,2,none⟩=some (.slice Ap R.path.length cp):=(blk_cell Sq.out 2).trans rfl
    have u3:wq.cell? ⟨g7,3,none⟩=some (.int .i64 R.t.f0):=(blk_cell Sq.out 3).trans rfl
    have u4:wq.cell? ⟨g7,4,none⟩=some (.int .i64 R.t.f1):=(blk_cell Sq.out 4).trans rfl
    have u5:wq.cell? ⟨g7,5,none⟩=some (.slice At' R.t.f2.length ct'):=(blk_cell Sq.out 5).trans rfl
    have u6:wq.cell? ⟨g7,6,none⟩=some (.bool R.known):=(blk_cell Sq.out 6).trans rfl
    have u7:wq.cell? ⟨g7,7,none⟩=some (.int .i64 R.steps):=(blk_cell Sq.out 7).trans rfl
    have u8:wq.cell? ⟨g7,8,none⟩=some (.bool R.lost):=(blk_cell Sq.out 8).trans rfl
    have z0:wq.cell? ⟨g6,0,none⟩=some (.slice none 0 0):=(blk_cell S6q.out 0).trans rfl
    have z1:wq.cell? ⟨g6,1,none⟩=some (.slice none 0 0):=(blk_cell S6q.out 1).trans rfl
    have z2:wq.cell? ⟨g6,2,none⟩=some (.slice none 0 0):=(blk_cell S6q.out 2).trans rfl
    have z3:wq.cell? ⟨g6,3,none⟩=some (.int .i64 0):=(blk_cell S6q.out 3).trans rfl
    have z4:wq.cell? ⟨g6,4,none⟩=some (.int .i64 0):=(blk_cell S6q.out 4).trans rfl
    have z5:wq.cell? ⟨g6,5,none⟩=some (.slice none 0 0):=(blk_cell S6q.out 5).trans rfl
    have z6:wq.cell? ⟨g6,6,none⟩=some (.bool false):=(blk_cell S6q.out 6).trans rfl
    have z7:wq.cell? ⟨g6,7,none⟩=some (.int .i64 0):=(blk_cell S6q.out 7).trans rfl
    have z8:wq.cell? ⟨g6,8,none⟩=some (.bool false):=(blk_cell S6q.out 8).trans rfl
    have y0:wq.frozen? ⟨g6,0,none⟩=false:=bkF S6q.out 0
    have y1:wq.frozen? ⟨g6,1,none⟩=false:=bkF S6q.out 1
    have y2:wq.frozen? ⟨g6,2,none⟩=false:=bkF S6q.out 2
    have y3:wq.frozen? ⟨g6,3,none⟩=false:=bkF S6q.out 3
    have y4:wq.frozen? ⟨g6,4,none⟩=false:=bkF S6q.out 4
    have y5:wq.frozen? ⟨g6,5,none⟩=false:=bkF S6q.out 5
    have y6:wq.frozen? ⟨g6,6,none⟩=false:=bkF S6q.out 6
    have y7:wq.frozen? ⟨g6,7,none⟩=false:=bkF S6q.out 7
    have y8:wq.frozen? ⟨g6,8,none⟩=false:=bkF S6q.out 8
    have hdis:=HDIS.out
    clear HDIS
    by_cases hl:R.lost=true
    · rw [hl] at u8
      go_wp2_with fail
      refine bodyPost_ret (results_ct rfl _ _ g6 51 _ (0,0) _ rfl (put9 S6q.out _ _ _ _ _ _ _ _ _) Try.underlying51 rfl (by kernel_rfl)) rfl ?_
      unfold BothQ
      exact ⟨R,Ap,cp,At',ct',s',_,by (unfold rmC; rw [hl]; rfl),.inl hl,HG'.out,both_fin HB3.out HX.out HLO.out.2 HSAME.out HBL.out HM4.out H4q.out HG6.out HZ3.out.2.2 HV5q.out _ _ _ _ _ _ _ _ _⟩
    · have hl:R.lost=false:=by simpa using hl
      rw [hl] at u8
      by_cases h2:2000 < R.steps
      · have q1:(2000 < R.steps)=True:=eq_true h2
        go_wp2_with fail
        refine bodyPost_ret (results_ct rfl _ _ g6 51 _ (0,0) _ rfl (put9 S6q.out _ _ _ _ _ _ _ _ _) Try.underlying51 rfl (by kernel_rfl)) rfl ?_
        unfold BothQ
        exact ⟨R,Ap,cp,At',ct',s',_,by (unfold rmC; rw [hl]; rfl),.inr (.inl h2),HG'.out,both_fin HB3.out HX.out HLO.out.2 HSAME.out HBL.out HM4.out H4q.out HG6.out HZ3.out.2.2 HV5q.out _ _ _ _ _ _ _ _ _⟩
      · have q1:(2000 < R.steps)=False:=eq_false h2
        rcases hdis with h3 | h3 | ⟨e1,e2,e3,hpal⟩
        · rw [hl] at h3; cases h3
        · exact absurd h3 h2
        have HPAL:=Az.mk hpal
        have q2:(a == x)=true:=beq_iff_eq.2 e1
        have q3:(m == m')=true:=beq_iff_eq.2 e2
        have q4:(e == z)=true:=beq_iff_eq.2 e3
        clear hpal e1 e2 e3
        go_wp2_with fail
        refine bodyPost_ret (results_ct rfl _ _ g6 51 _ (0,0) _ rfl (put9 S6q.out _ _ _ _ _ _ _ _ _) Try.underlying51 rfl (by kernel_rfl)) rfl ?_
        unfold BothQ
        exact ⟨R,Ap,cp,At',ct',s',_,by (unfold rmC; rw [hl]; rfl),.inr (.inr HPAL.out),HG'.out,both_fin HB3.out HX.out HLO.out.2 HSAME.out HBL.out HM4.out H4q.out HG6.out HZ3.out.2.2 HV5q.out _ _ _ _ _ _ _ _ _⟩
  by_cases hk1:kd=1
  · have q0:(kd == 0)=false:=beq_eq_false_iff_ne.2 hk0
    have q1:(kd == 1)=true:=beq_iff_eq.2 hk1
    obtain ⟨R,hRK,hpal⟩:=pal_kid HB.out HG.out HP.out n
    obtain ⟨ke,hke⟩:∃ ke,kidE s n=ke:=⟨_,rfl⟩
    have HRK:=Az.mk hRK
    have HPAL:=Az.mk hpal
    have HG':=Az.mk (kidS_good HG.out n)
    have HKE:=Az.mk hke
    clear hRK hpal hk0 hk1 hke
    go_wp2_with fail
    (with_reducible refine (mp_kid HM3.out HL.out HG.out n).mono ?_)
    rintro e9 w4 ⟨rfl,hM4,hsame,hbl⟩
    have HSAME:=Az.mk hsame
    have S44:=Az.mk ((hsame g4 (HX.out _ HG4.out) HZ3.out.1).trans S4.out)
    have S54:=Az.mk ((hsame g5 (HX.out _ HG5.out) HZ3.out.2.1).trans S5.out)
    have S64:=Az.mk ((hsame g6 (HX.out _ HG6.out) HZ3.out.2.2).trans S6.out)
    have HV4:=Az.mk (HV3.out.move (w':=w4) (fun k hk hl=>(HOK.out k hk.1).elim (fun h=>hbl.block k h) (fun h=>hsame k h hl)))
    have HB4:=Az.mk (below_tr (below_tr HB0.out (below_lo HB3.out (Nat.le_trans HLO.out.1 HLO.out.2))) (below_lo hbl HLO.out.1))
    have HBL:=Az.mk hbl
    have HM4:=Az.mk hM4
    have HZ43:=Az.mk hbl.size
    clear hsame hbl hM4 o0 o1 o2
    have u0:w4.cell? ⟨g4,0,none⟩=some (.slice A0 l0.length c0):=(blk_cell S44.out 0).trans rfl
    have u1:w4.cell? ⟨g4,1,none⟩=some (.slice A1 l1.length c1):=(blk_cell S44.out 1).trans rfl
    have u2:w4.cell? ⟨g4,2,none⟩=some (.slice Ap r.path.length cp):=(blk_cell S44.out 2).trans rfl
    have u3:w4.cell? ⟨g4,3,none⟩=some (.int .i64 r.t.f0):=(blk_cell S44.out 3).trans rfl
    have u4:w4.cell? ⟨g4,4,none⟩=some (.int .i64 r.t.f1):=(blk_cell S44.out 4).trans rfl
    have u5:w4.cell? ⟨g4,5,none⟩=some (.slice At r.t.f2.length ct):=(blk_cell S44.out 5).trans rfl
    have u6:w4.cell? ⟨g4,6,none⟩=some (.bool r.known):=(blk_cell S44.out 6).trans rfl
    have u7:w4.cell? ⟨g4,7,none⟩=some (.int .i64 r.steps):=(blk_cell S44.out 7).trans rfl
    have u8:w4.cell? ⟨g4,8,none⟩=some (.bool r.lost):=(blk_cell S44.out 8).trans rfl
    have o0:w4.cell? ⟨g5,0,none⟩=some (.int .i64 kd):=(blk_cell S54.out 0).trans rfl
    have o1:w4.cell? ⟨g5,1,none⟩=some (.int .i64 on):=(blk_cell S54.out 1).trans rfl
    have o2:w4.cell? ⟨g5,2,none⟩=some (.int .i64 n):=(blk_cell S54.out 2).trans rfl
    rw [HKE.out]
    have hrk:=HRK.out
    rw [HKE.out] at hrk
    have HRK2:=Az.mk hrk
    clear hrk
    go_wp2_with fail
    refine (refkid_calls A0 l0.length c0 A1 l1.length c1 r Ap cp At ct n w4 _ HV4.out (by have h1:=HP.out.path; have:=HG.out.path; rw [h1]; exact this) (by have h1:=(stB_zero HP.out.stb).2.1; have:=tcnt_f2 r.t; omega) R ke HRK2.out).mono ?_
    unfold rmC
    rintro e9 w5 ⟨Ap',cp',At',ct',rfl,hv5,hb5⟩
    have HV5:=Az.mk hv5
    have HB5:=Az.mk hb5
    have S65:=Az.mk (bkB S64.out hb5)
    clear hv5 hb5 u0 u1 u2 u3 u4 u5 u6 u7 u8 o0 o1 o2
    go_upto_region 9 with (
      ((with_reducible refine gate_dst (N:=16) rfl ?_)
       refine box_event ?hg (N:=16) ?hd (cs:=#[.slice none 0 0,.slice none 0 0,.slice none 0 0,.int .i64 0,.int .i64 0,.slice none 0 0,.bool false,.int .i64 0,.bool false]) (t:=51) ?hr ?_
       (case hd=>rfl)
       (case hg=>rfl)
       (case hr=>first | (go_simp; done) | (go_simp; rfl))
       intro g7 hg_ w6 hbox hbb
       have hgw_:=HB5.out.size
       have Hq:=Az.mk (below_set9b hbb (Nat.le_of_eq hg_.symm) (.slice A0 l0.length c0) (.slice A1 l1.length c1) (.slice Ap' R.path.length cp') (.int .i64 R.t.f0) (.int .i64 R.t.f1) (.slice At' R.t.f2.length ct') (.bool R.known) (.int .i64 R.steps) (.bool R.lost))
       have Sq:=Az.mk (put9 hbox (.slice A0 l0.length c0) (.slice A1 l1.length c1) (.slice Ap' R.path.length cp') (.int .i64 R.t.f0) (.int .i64 R.t.f1) (.slice At' R.t.f2.length ct') (.bool R.known) (.int .i64 R.steps) (.bool R.lost))
       have hcz0:=(blk_cell hbox 0).trans rfl
       have hcz1:=(blk_cell hbox 1).trans rfl
       have hcz2:=(blk_cell hbox 2).trans rfl
       have hcz3:=(blk_cell hbox 3).trans rfl
       have hcz4:=(blk_cell hbox 4).trans rfl
       have hcz5:=(blk_cell hbox 5).trans rfl
       have hcz6:=(blk_cell hbox 6).trans rfl
       have hcz7:=(blk_cell hbox 7).trans rfl
       have hcz8:=(blk_cell hbox 8).trans rfl
       have hfz0:=bkF hbox 0
       have hfz1:=bkF hbox 1
       have hfz2:=bkF hbox 2
       have hfz3:=bkF hbox 3
       have hfz4:=bkF hbox 4
       have hfz5:=bkF hbox 5
       have hfz6:=bkF hbox 6
       have hfz7:=bkF hbox 7
       have hfz8:=bkF hbox 8
       clear hgw_ hbox hbb hg_))
    generalize (((((((((w6.setCell ⟨g7,0,none⟩ (.slice A0 l0.length c0)).setCell ⟨g7,1,none⟩ (.slice A1 l1.length c1)).setCell ⟨g7,2,none⟩ (.slice Ap' R.path.length cp')).setCell ⟨g7,3,none⟩ (.int .i64 R.t.f0)).setCell ⟨g7,4,none⟩ (.int .i64 R.t.f1)).setCell ⟨g7,5,none⟩ (.slice At' R.t.f2.length ct')).setCell ⟨g7,6,none⟩ (.bool R.known)).setCell ⟨g7,7,none⟩ (.int .i64 R.steps)).setCell ⟨g7,8,none⟩ (.bool R.lost))=wq at *
    clear hcz0 hcz1 hcz2 hcz3 hcz4 hcz5 hcz6 hcz7 hcz8 hfz0 hfz1 hfz2 hfz3 hfz4 hfz5 hfz6 hfz7 hfz8
    have S6q:=Az.mk (bkB S65.out Hq.out)
    have HV5q:=Az.mk (HV5.out.below Hq.out)
    have H4q:=Az.mk (bst HB5.out Hq.out)
    have u0:wq.cell? ⟨g7,0,none⟩=some (.slice A0 l0.length c0):=(blk_cell Sq.out 0).trans rfl
    have u1:wq.cell? ⟨g7,1,none⟩=some (.slice A1 l1.length c1):=(blk_cell Sq.out 1).trans rfl
    have u2:wq.cell? ⟨g7,2,none⟩=some (.slice Ap' R.path.length cp'):=(blk_cell Sq.out 2).trans rfl
    have u3:wq.cell? ⟨g7,3,none⟩=some (.int .i64 R.t.f0):=(blk_cell Sq.out 3).trans rfl
    have u4:wq.cell? ⟨g7,4,none⟩=some (.int .i64 R.t.f1):=(blk_cell Sq.out 4).trans rfl
    have u5:wq.cell? ⟨g7,5,none⟩=some (.slice At' R.t.f2.length ct'):=(blk_cell Sq.out 5).trans rfl
    have u6:wq.cell? ⟨g7,6,none⟩=some (.bool R.known):=(blk_cell Sq.out 6).trans rfl
    have u7:wq.cell? ⟨g7,7,none⟩=some (.int .i64 R.steps):=(blk_cell Sq.out 7).trans rfl
    have u8:wq.cell? ⟨g7,8,none⟩=some (.bool R.lost):=(blk_cell Sq.out 8).trans rfl
    have z0:wq.cell? ⟨g6,0,none⟩=some (.slice none 0 0):=(blk_cell S6q.out 0).trans rfl
    have z1:wq.cell? ⟨g6,1,none⟩=some (.slice none 0 0):=(blk_cell S6q.out 1).trans rfl
    have z2:wq.cell? ⟨g6,2,none⟩=some (.slice none 0 0):=(blk_cell S6q.out 2).trans rfl
    have z3:wq.cell? ⟨g6,3,none⟩=some (.int .i64 0):=(blk_cell S6q.out 3).trans rfl
    have z4:wq.cell? ⟨g6,4,none⟩=some (.int .i64 0):=(blk_cell S6q.out 4).trans rfl
    have z5:wq.cell? ⟨g6,5,none⟩=some (.slice none 0 0):=(blk_cell S6q.out 5).trans rfl
    have z6:wq.cell? ⟨g6,6,none⟩=some (.bool false):=(blk_cell S6q.out 6).trans rfl
    have z7:wq.cell? ⟨g6,7,none⟩=some (.int .i64 0):=(blk_cell S6q.out 7).trans rfl
    have z8:wq.cell? ⟨g6,8,none⟩=some (.bool false):=(blk_cell S6q.out 8).trans rfl
    have y0:wq.frozen? ⟨g6,0,none⟩=false:=bkF S6q.out 0
    have y1:wq.frozen? ⟨g6,1,none⟩=false:=bkF S6q.out 1
    have y2:wq.frozen? ⟨g6,2,none⟩=false:=bkF S6q.out 2
    have y3:wq.frozen? ⟨g6,3,none⟩=false:=bkF S6q.out 3
    have y4:wq.frozen? ⟨g6,4,none⟩=false:=bkF S6q.out 4
    have y5:wq.frozen? ⟨g6,5,none⟩=false:=bkF S6q.out 5
    have y6:wq.frozen? ⟨g6,6,none⟩=false:=bkF S6q.out 6
    have y7:wq.frozen? ⟨g6,7,none⟩=false:=bkF S6q.out 7
    have y8:wq.frozen? ⟨g6,8,none⟩=false:=bkF S6q.out 8
    go_wp2_with fail
    refine bodyPost_ret (results_ct rfl _ _ g6 51 _ (0,0) _ rfl (put9 S6q.out _ _ _ _ _ _ _ _ _) Try.underlying51 rfl (by kernel_rfl)) rfl ?_
    unfold BothQ
    exact ⟨R,Ap',cp',At',ct',kidS s n,_,by (unfold rmC; rfl),.inr (.inr HPAL.out),HG'.out,both_fin HB3.out HX.out HLO.out.2 HSAME.out HBL.out HM4.out H4q.out HG6.out HZ3.out.2.2 HV5q.out _ _ _ _ _ _ _ _ _⟩
  · have q0:(kd == 0)=false:=beq_eq_false_iff_ne.2 hk0
    have q1:(kd == 1)=false:=beq_eq_false_iff_ne.2 hk1
    clear hk0 hk1
    have u0:w3.cell? ⟨g4,0,none⟩=some (.slice A0 l0.length c0):=(blk_cell S4.out 0).trans rfl
    have u1:w3.cell? ⟨g4,1,none⟩=some (.slice A1 l1.length c1):=(blk_cell S4.out 1).trans rfl
    have u2:w3.cell? ⟨g4,2,none⟩=some (.slice Ap r.path.length cp):=(blk_cell S4.out 2).trans rfl
    have u3:w3.cell? ⟨g4,3,none⟩=some (.int .i64 r.t.f0):=(blk_cell S4.out 3).trans rfl
    have u4:w3.cell? ⟨g4,4,none⟩=some (.int .i64 r.t.f1):=(blk_cell S4.out 4).trans rfl
    have u5:w3.cell? ⟨g4,5,none⟩=some (.slice At r.t.f2.length ct):=(blk_cell S4.out 5).trans rfl
    have u6:w3.cell? ⟨g4,6,none⟩=some (.bool r.known):=(blk_cell S4.out 6).trans rfl
    have u7:w3.cell? ⟨g4,7,none⟩=some (.int .i64 r.steps):=(blk_cell S4.out 7).trans rfl
    have u8:w3.cell? ⟨g4,8,none⟩=some (.bool r.lost):=(blk_cell S4.out 8).trans rfl
    have z0:w3.cell? ⟨g6,0,none⟩=some (.slice none 0 0):=(blk_cell S6.out 0).trans rfl
    have z1:w3.cell? ⟨g6,1,none⟩=some (.slice none 0 0):=(blk_cell S6.out 1).trans rfl
    have z2:w3.cell? ⟨g6,2,none⟩=some (.slice none 0 0):=(blk_cell S6.out 2).trans rfl
    have z3:w3.cell? ⟨g6,3,none⟩=some (.int .i64 0):=(blk_cell S6.out 3).trans rfl
    have z4:w3.cell? ⟨g6,4,none⟩=some (.int .i64 0):=(blk_cell S6.out 4).trans rfl
    have z5:w3.cell? ⟨g6,5,none⟩=some (.slice none 0 0):=(blk_cell S6.out 5).trans rfl
    have z6:w3.cell? ⟨g6,6,none⟩=some (.bool false):=(blk_cell S6.out 6).trans rfl
    have z7:w3.cell? ⟨g6,7,none⟩=some (.int .i64 0):=(blk_cell S6.out 7).trans rfl
    have z8:w3.cell? ⟨g6,8,none⟩=some (.bool false):=(blk_cell S6.out 8).trans rfl
    have y0:w3.frozen? ⟨g6,0,none⟩=false:=bkF S6.out 0
    have y1:w3.frozen? ⟨g6,1,none⟩=false:=bkF S6.out 1
    have y2:w3.frozen? ⟨g6,2,none⟩=false:=bkF S6.out 2
    have y3:w3.frozen? ⟨g6,3,none⟩=false:=bkF S6.out 3
    have y4:w3.frozen? ⟨g6,4,none⟩=false:=bkF S6.out 4
    have y5:w3.frozen? ⟨g6,5,none⟩=false:=bkF S6.out 5
    have y6:w3.frozen? ⟨g6,6,none⟩=false:=bkF S6.out 6
    have y7:w3.frozen? ⟨g6,7,none⟩=false:=bkF S6.out 7
    have y8:w3.frozen? ⟨g6,8,none⟩=false:=bkF S6.out 8
    go_upto_region 10 with fail
    have hpe:=HP.out.path
    rw [hpe] at u2
    clear hpe
    have HPL:=Az.mk (show s.path.length≤1000000 from by have:=HG.out.path; omega)
    have HVP:=Az.mk (show Kd.C (Kd.int .i64) w3 Ap s.path.length s.path∧s.path.length≤cp from by have h1:=Kd.V_reads' HV3.out.p; rw [HP.out.path] at h1; exact ⟨h1.2.2,h1.2.1⟩)
    have nn1:=HN46.out.1
    have nn2:=Ne.symm HN46.out.1
    go_region_held3 (fun w'=>w'.cell? ⟨g4,0,none⟩=some (.slice A0 l0.length c0)∧w'.cell? ⟨g4,1,none⟩=some (.slice A1 l1.length c1)∧w'.cell? ⟨g4,2,none⟩=some (.slice Ap s.path.length cp)∧w'.cell? ⟨g4,3,none⟩=some (.int .i64 r.t.f0)∧w'.cell? ⟨g4,4,none⟩=some (.int .i64 r.t.f1)∧w'.cell? ⟨g4,5,none⟩=some (.slice At r.t.f2.length ct)∧w'.cell? ⟨g4,6,none⟩=some (.bool r.known)∧w'.cell? ⟨g4,7,none⟩=some (.int .i64 r.steps)∧w'.cell? ⟨g4,8,none⟩=some (.bool r.lost)) (go_keep)
      (first
        | (go_at_call 13
           (with_reducible refine (mp_path (HM3.out.below (by repeat (first | exact Below.refl _ _ | apply pwN | apply bd1))) HL.out HG.out).mono ?_)
           rintro e9 wA ⟨Aq,cq,rfl,hrq,hMq,hbq⟩
           have HRQ:=Az.mk (Kd.R_reads' hrq)
           have HMQ:=Az.mk hMq
           have HBQ:=Az.mk (bst (show Below w3.heap.size w3 _ from by repeat (first | exact Below.refl _ _ | apply pwN | apply bd1)) hbq)
           have n0:wA.cell? ⟨g4,0,none⟩=some (.slice A0 l0.length c0):=cell_up hbq (by go_keep)
           have n1:wA.cell? ⟨g4,1,none⟩=some (.slice A1 l1.length c1):=cell_up hbq (by go_keep)
           have n2:wA.cell? ⟨g4,2,none⟩=some (.slice Ap s.path.length cp):=cell_up hbq (by go_keep)
           have n3:wA.cell? ⟨g4,3,none⟩=some (.int .i64 r.t.f0):=cell_up hbq (by go_keep)
           have n4:wA.cell? ⟨g4,4,none⟩=some (.int .i64 r.t.f1):=cell_up hbq (by go_keep)
           have n5:wA.cell? ⟨g4,5,none⟩=some (.slice At r.t.f2.length ct):=cell_up hbq (by go_keep)
           have n6:wA.cell? ⟨g4,6,none⟩=some (.bool r.known):=cell_up hbq (by go_keep)
           have n7:wA.cell? ⟨g4,7,none⟩=some (.int .i64 r.steps):=cell_up hbq (by go_keep)
           have n8:wA.cell? ⟨g4,8,none⟩=some (.bool r.lost):=cell_up hbq (by go_keep)
           clear hrq hMq hbq u0 u1 u2 u3 u4 u5 u6 u7 u8)
        | (go_at_call 15
           (with_reducible refine (ints_at HPL.out (Kd.C_below HRQ.out.2.2 (by repeat (first | exact Below.refl _ _ | apply pwN | apply bd1))) HRQ.out.2.1 (Kd.C_below HVP.out.1 (by repeat (first | exact HBQ.out | apply pwN | apply bd1))) HVP.out.2).mono ?_)
           rintro e9 wB ⟨rfl,hbB⟩
           have HBB:=Az.mk (bst (show Below w3.heap.size w3 _ from by repeat (first | exact HBQ.out | apply pwN | apply bd1)) hbB)
           have m0:wB.cell? ⟨g4,0,none⟩=some (.slice A0 l0.length c0):=cell_up hbB (by go_keep)
           have m1:wB.cell? ⟨g4,1,none⟩=some (.slice A1 l1.length c1):=cell_up hbB (by go_keep)
           have m2:wB.cell? ⟨g4,2,none⟩=some (.slice Ap s.path.length cp):=cell_up hbB (by go_keep)
           have m3:wB.cell? ⟨g4,3,none⟩=some (.int .i64 r.t.f0):=cell_up hbB (by go_keep)
           have m4:wB.cell? ⟨g4,4,none⟩=some (.int .i64 r.t.f1):=cell_up hbB (by go_keep)
           have m5:wB.cell? ⟨g4,5,none⟩=some (.slice At r.t.f2.length ct):=cell_up hbB (by go_keep)
           have m6:wB.cell? ⟨g4,6,none⟩=some (.bool r.known):=cell_up hbB (by go_keep)
           have m7:wB.cell? ⟨g4,7,none⟩=some (.int .i64 r.steps):=cell_up hbB (by go_keep)
           have m8:wB.cell? ⟨g4,8,none⟩=some (.bool r.lost):=cell_up hbB (by go_keep)
           have S6B:=Az.mk (bkB S6.out HBB.out)
           have zb0:wB.cell? ⟨g6,0,none⟩=some (.slice none 0 0):=(blk_cell S6B.out 0).trans rfl
           have zb1:wB.cell? ⟨g6,1,none⟩=some (.slice none 0 0):=(blk_cell S6B.out 1).trans rfl
           have zb2:wB.cell? ⟨g6,2,none⟩=some (.slice none 0 0):=(blk_cell S6B.out 2).trans rfl
           have zb3:wB.cell? ⟨g6,3,none⟩=some (.int .i64 0):=(blk_cell S6B.out 3).trans rfl
           have zb4:wB.cell? ⟨g6,4,none⟩=some (.int .i64 0):=(blk_cell S6B.out 4).trans rfl
           have zb5:wB.cell? ⟨g6,5,none⟩=some (.slice none 0 0):=(blk_cell S6B.out 5).trans rfl
           have zb6:wB.cell? ⟨g6,6,none⟩=some (.bool false):=(blk_cell S6B.out 6).trans rfl
           have zb7:wB.cell? ⟨g6,7,none⟩=some (.int .i64 0):=(blk_cell S6B.out 7).trans rfl
           have zb8:wB.cell? ⟨g6,8,none⟩=some (.bool false):=(blk_cell S6B.out 8).trans rfl
           have yb0:wB.frozen? ⟨g6,0,none⟩=false:=bkF S6B.out 0
           have yb1:wB.frozen? ⟨g6,1,none⟩=false:=bkF S6B.out 1
           have yb2:wB.frozen? ⟨g6,2,none⟩=false:=bkF S6B.out 2
           have yb3:wB.frozen? ⟨g6,3,none⟩=false:=bkF S6B.out 3
           have yb4:wB.frozen? ⟨g6,4,none⟩=false:=bkF S6B.out 4
           have yb5:wB.frozen? ⟨g6,5,none⟩=false:=bkF S6B.out 5
           have yb6:wB.frozen? ⟨g6,6,none⟩=false:=bkF S6B.out 6
           have yb7:wB.frozen? ⟨g6,7,none⟩=false:=bkF S6B.out 7
           have yb8:wB.frozen? ⟨g6,8,none⟩=false:=bkF S6B.out 8
           clear hbB))
    go_wp2_with fail
    refine bodyPost_ret (results_ct rfl _ _ g6 51 _ (0,0) _ rfl (put9 S6B.out _ _ _ _ _ _ _ _ _) Try.underlying51 rfl (by kernel_rfl)) rfl ?_
    unfold BothQ
    have hms:MsX w3 lo (l1.map ownF) (L.set i (gm,s)) (XL w3 w3 X):=by
      rw [set_same HL.out]
      exact HM3.out.mono (fun k hk=>hk.elim (fun h=>h.1) (fun h=>HX.out k (by have:=HB3.out.size; omega)))
    exact ⟨r,Ap,cp,At,ct,s,_,by (unfold rmC; rw [HP.out.path]; rfl),.inr (.inr HP.out),HG.out,both_fin HB3.out HX.out HLO.out.2 (fun _ _ _=>rfl) (Below.refl _ _) hms HBB.out HG6.out HZ3.out.2.2 ((HV3.out.below HBB.out).mono (fun k hk=>.inl hk)) _ _ _ _ _ _ _ _ _⟩
end Go.Proofs.Ytkgknidogelffaa.I
namespace Go.Proofs.Ytkgknidogelffaa.I
open Go.RowKit Go.Proofs.YtkgknidogelffaaW.PrintWords Go.Proofs.YtkgknidogelffaaW.PrintLast Go.Proofs.YtkgknidogelffaaW.PrintMore
set_option linter.unusedVariables false
set_option maxRecDepth 100000
set_option linter.unusedSimpArgs false
structure S57 where
  f0:Int
  f1:Int
  f2:Int
def z57:S57:=⟨0,0,0⟩
def k57:Kd S57:=Kd.iso (Kd.pair (Kd.int .i64) (Kd.pair (Kd.int .i64) (Kd.int .i64))) (fun x:S57=>(x.f0,x.f1,x.f2))
theorem k57_open {w:World} {x:S57} {cs:List Value} (h:k57.K w x cs):cs=[.int .i64 x.f0,.int .i64 x.f1,.int .i64 x.f2]:=by
  obtain ⟨_,_,rfl,rfl,⟨_,_,rfl,rfl,rfl⟩⟩:=h
  exact rfl
theorem k57_mk (w:World) (x:S57):k57.K w x [.int .i64 x.f0,.int .i64 x.f1,.int .i64 x.f2]:=⟨[.int .i64 x.f0],[.int .i64 x.f1,.int .i64 x.f2],rfl,rfl,⟨[.int .i64 x.f1],[.int .i64 x.f2],rfl,rfl,rfl⟩⟩
def rd_T57 (xs:List S57) (i:Int):S57:=xs.getD i.toNat z57
theorem at_T57 {w:World} {A:Option Addr} {n:Nat} {xs:List S57} (h:Kd.C k57 w A n xs) (i:Int) (h0:0≤i) (h1:i < n):∃ ad , A=some ad∧w.cell? (ad.add (i.toNat*3))=some (.int .i64 (rd_T57 xs i).f0)∧w.cell? ⟨(ad.add (i.toNat*3)).block,(ad.add (i.toNat*3)).off+1,none⟩=some (.int .i64 (rd_T57 xs i).f1)∧w.cell? ⟨(ad.add (i.toNat*3)).block,(ad.add (i.toNat*3)).off+2,none⟩=some (.int .i64 (rd_T57 xs i).f2):=by
  obtain ⟨ad,c,e,_,hK,hc0⟩:=Kd.C_get h z57 i h0 h1
  have hc:∀ j u,c[j]?=some u→w.cell? (ad.add (i.toNat*3+j))=some u:=hc0
  obtain rfl:=k57_open hK
  exact ⟨ad,e,hc 0 _ rfl,by rw [← add_field _ _ 1 (by omega)]; exact hc 1 _ rfl,by rw [← add_field _ _ 2 (by omega)]; exact hc 2 _ rfl⟩
structure RX where
  r:RM
  Ap:Option Addr
  cp:Nat
  At:Option Addr
  ct:Nat
def rx0:RX:=⟨rm0,none,0,none,0⟩
def RX.cs (a0 a1:Value) (x:RX):List Value:=[a0,a1,.slice x.Ap x.r.path.length x.cp,.int .i64 x.r.t.f0,.int .i64 x.r.t.f1,.slice x.At x.r.t.f2.length x.ct,.bool x.r.known,.int .i64 x.r.steps,.bool x.r.lost]
def ptrC (p:Nat × MS):List Value:=[.pointer (some ⟨p.1,0,none⟩)]
structure PR (w:World) (base lo:Nat) (a0 a1:Value) (X:Nat→Prop) (ga ca gb cb:Nat) (L:List (Nat × MS)) (B:List RX):Prop where
  a:Kd.R (Kd.raw 1) 30 w base X (.slice (some ⟨ga,0,none⟩) L.length ca) (L.map ptrC)
  b:Kd.R (Kd.raw 9) 51 w base X (.slice (some ⟨gb,0,none⟩) B.length cb) (B.map (RX.cs a0 a1))
  v:∀ x,x ∈ B→RmV w (fun k=>(k < lo∨X k)∧k≠ga∧k≠gb∧k < w.heap.size) x.r x.Ap x.cp x.At x.ct
  lo_:lo≤w.heap.size
variable {w w':World} {base lo:Nat} {a0 a1:Value} {X X':Nat→Prop} {ga ca gb cb:Nat} {L L':List (Nat × MS)} {B:List RX}
theorem PR.xa (h:PR w base lo a0 a1 X ga ca gb cb L B):X ga∧base≤ga∧ga < w.heap.size:=by
  have:=Kd.R_bound h.a
  obtain ⟨h1,h2,h3,_⟩:=this.1 ga rfl
  exact ⟨h1,h2,h3⟩
theorem PR.xb (h:PR w base lo a0 a1 X ga ca gb cb L B):X gb∧base≤gb∧gb < w.heap.size:=by
  have:=Kd.R_bound h.b
  obtain ⟨h1,h2,h3,_⟩:=this.1 gb rfl
  exact ⟨h1,h2,h3⟩
theorem PR.nab (h:PR w base lo a0 a1 X ga ca gb cb L B):ga≠gb:=by
  obtain ⟨_,_,_,q,hq,c,hc⟩:=(Kd.R_bound h.a).1 ga rfl
  obtain ⟨_,_,_,q',hq',c',hc'⟩:=(Kd.R_bound h.b).1 gb rfl
  intro e
  rw [e,hc'] at hc
  injection hc with hc
  injection hc with _ hc
  have e1:q=30:=by rcases List.mem_cons.1 hq with h | h; exact h; exact absurd h (by simp [Kd.raw])
  have e2:q'=51:=by rcases List.mem_cons.1 hq' with h | h; exact h; exact absurd h (by simp [Kd.raw])
  rw [e1,e2] at hc
  exact absurd hc (by decide)
theorem PR.move (h:PR w base lo a0 a1 X ga ca gb cb L B) (hX:∀ k,X k→k < w.heap.size→X' k) (hs:∀ k,X k→k < w.heap.size→w'.heap[k]?=w.heap[k]?) (hb:Below lo w w'):PR w' base lo a0 a1 X' ga ca gb cb L B:=by
  have hz:=hb.size
  refine ⟨Kd.R_mono (Kd.R_move (Kd.R_bound h.a) (fun k hk=>hs k hk.1 hk.2.2.1)) (fun k hk=>hX k hk.1 hk.2.2.1),Kd.R_mono (Kd.R_move (Kd.R_bound h.b) (fun k hk=>hs k hk.1 hk.2.2.1)) (fun k hk=>hX k hk.1 hk.2.2.1),fun x hx=>?_,Nat.le_trans h.lo_ hz⟩
  refine ((h.v x hx).move (w':=w') (fun k hk hl=>?_)).mono (fun k hk=>⟨?_,hk.2.1,hk.2.2.1,by omega⟩)
  · rcases hk.1 with h1 | h1
    · exact hb.block k h1
    · exact hs k h1 hl
  · rcases hk.1 with h1 | h1
    · exact .inl h1
    · exact .inr (hX k h1 hk.2.2.2)
theorem PR.below (h:PR w base lo a0 a1 X ga ca gb cb L B) (hb:Below w.heap.size w w'):PR w' base lo a0 a1 X ga ca gb cb L B :=
  h.move (fun _ h _=>h) (fun k _ hl=>hb.block k hl) (below_lo hb h.lo_)
theorem PR.same (h:PR w base lo a0 a1 X ga ca gb cb L B) (hL:L'.map ptrC=L.map ptrC):PR w base lo a0 a1 X ga ca gb cb L' B:=by
  have hl:L'.length=L.length:=by have:=congrArg List.length hL; simpa using this
  exact ⟨by rw [hL,hl]; exact h.a,h.b,h.v,h.lo_⟩
theorem set_ptr {i gm:Nat} {s s':MS} (h:L[i]?=some (gm,s)):(L.set i (gm,s')).map ptrC=L.map ptrC:=by
  rw [List.map_set]
  refine set_same ?_
  rw [List.getElem?_map,h]
  rfl
theorem PR.at_a (h:PR w base lo a0 a1 X ga ca gb cb L B) {i gm:Nat} {s:MS} (hi:L[i]?=some (gm,s)):w.cell? ⟨ga,i,none⟩=some (.pointer (some ⟨gm,0,none⟩))∧i < L.length∧L.length≤ca:=by
  obtain ⟨hl,_⟩:=List.getElem?_eq_some_iff.1 hi
  obtain ⟨c,hc1,hc2,hc3,hc4⟩:=Kd.R_elem h.a [] (i:Int) (by omega) (by omega)
  have e:(L.map ptrC).getD (i:Int).toNat []=[.pointer (some ⟨gm,0,none⟩)]:=by
    rw [List.getD_eq_getElem?_getD,List.getElem?_map,Int.toNat_natCast,hi]
    rfl
  rw [e] at hc2
  obtain ⟨rfl,_,_⟩:=hc2
  have:=hc3 0 _ rfl
  rw [Int.toNat_natCast] at this
  have e2:i*(Kd.raw 1).sz+0=i:=by show i*1+0=i; omega
  rw [e2] at this
  exact ⟨this,hl,(Kd.R_reads' h.a).2.1⟩
theorem PR.at_b (h:PR w base lo a0 a1 X ga ca gb cb L B) {i:Nat} {x:RX} (hi:B[i]?=some x):(∀ j u,(RX.cs a0 a1 x)[j]?=some u→w.cell? ⟨gb,i*9+j,none⟩=some u)∧(∀ j,w.frozen? ⟨gb,i*9+j,none⟩=false)∧i < B.length∧B.length≤cb:=by
  obtain ⟨hl,_⟩:=List.getElem?_eq_some_iff.1 hi
  obtain ⟨c,hc1,hc2,hc3,hc4⟩:=Kd.R_elem h.b [] (i:Int) (by omega) (by omega)
  have e:(B.map (RX.cs a0 a1)).getD (i:Int).toNat []=RX.cs a0 a1 x:=by
    rw [List.getD_eq_getElem?_getD,List.getElem?_map,Int.toNat_natCast,hi]
    rfl
  rw [e] at hc2
  obtain ⟨rfl,_,_⟩:=hc2
  rw [Int.toNat_natCast] at hc3 hc4
  exact ⟨fun j u hu=>hc3 j u hu,fun j=>hc4 j,hl,(Kd.R_reads' h.b).2.1⟩
theorem rb_at {n:Nat} {x:RX} (h:Kd.R (Kd.raw 9) 51 w base X (.slice (some ⟨gb,0,none⟩) n cb) (B.map (RX.cs a0 a1))) {i:Nat} (hi:B[i]?=some x):(∀ j u,(RX.cs a0 a1 x)[j]?=some u→w.cell? ⟨gb,i*9+j,none⟩=some u)∧(∀ j,w.frozen? ⟨gb,i*9+j,none⟩=false):=by
  obtain ⟨hl,_⟩:=List.getElem?_eq_some_iff.1 hi
  have hn:n=(B.map (RX.cs a0 a1)).length:=(Kd.R_reads' h).1
  rw [List.length_map] at hn
  obtain ⟨c,hc1,hc2,hc3,hc4⟩:=Kd.R_elem h [] (i:Int) (by omega) (by omega)
  have e:(B.map (RX.cs a0 a1)).getD (i:Int).toNat []=RX.cs a0 a1 x:=by
    rw [List.getD_eq_getElem?_getD,List.getElem?_map,Int.toNat_natCast,hi]
    rfl
  rw [e] at hc2
  obtain ⟨rfl,_,_⟩:=hc2
  rw [Int.toNat_natCast] at hc3 hc4
  exact ⟨fun j u hu=>hc3 j u hu,fun j=>hc4 j⟩
theorem cs_one (x:RX) (A0:Option Addr) (n0 c0:Nat) (A1:Option Addr) (n1 c1:Nat):∀ u ∈ RX.cs (.slice A0 n0 c0) (.slice A1 n1 c1) x,u.oneCell'=true:=by
  intro u hu
  simp only [RX.cs,List.mem_cons,List.not_mem_nil,or_false] at hu
  rcases hu with rfl | rfl | rfl | rfl | rfl | rfl | rfl | rfl | rfl <;> rfl
end Go.Proofs.Ytkgknidogelffaa.I
namespace Go.Proofs.Ytkgknidogelffaa.VOpen
open Go.RowKit Go.Proofs.YtkgknidogelffaaW.PrintWords
set_option linter.unusedVariables false
set_option linter.unusedSimpArgs false
section
variable {H:Type} {enc:TypeId × Value→H} {P:Program} {w:World} {base:Nat} {sp:Nat→Bool} {held:Bool} {n:Nat} {t:TypeId} {cs:List Value} {x:DataW H × List MemPlace} {α:Type}
theorem list_of (len:Nat) (Q:Nat→α→Prop) (h:∀ i,i < len→∃ y,Q i y):∃ l:List α,l.length=len∧∀ i y,l[i]?=some y→Q i y:=by
  induction len with
  | zero=>exact ⟨[],rfl,fun i y hy=>by simp at hy⟩
  | succ k ih =>
    obtain ⟨l,hl,hq⟩:=ih (fun i hi=>h i (by omega))
    obtain ⟨y,hy⟩:=h k (by omega)
    refine ⟨l ++ [y],by simp [hl],fun i z hz=>?_⟩
    rcases Nat.lt_or_ge i l.length with hi | hi
    · rw [List.getElem?_append_left hi] at hz
      exact hq i z hz
    · have he:i=l.length:=by
        have:=(List.getElem?_eq_some_iff.1 hz).1
        simp at this
        omega
      subst he
      have:y=z:=by simpa using hz
      subst this
      rw [hl]
      exact hy
theorem slice_open (d:Kd α) (Wf:α→Prop) {e:TypeId} (ht:P.underlying t=some (.slice e)) (hc:P.cellsOf e=d.sz)
    (ih:∀ m,m < n→∀ cs x,DataW.trod enc P w base sp held m e cs=some x→∃ y,d.K w y cs∧Wf y)
    (h:DataW.trod enc P w base sp held n t cs=some x) :
    ∃ A c l,cs=[.slice A l.length c]∧l.length≤c∧d.C w A l.length l∧l.length≤9223372036854775807∧∀ y ∈ l,Wf y:=by
  rcases DataW.trod_slice ht h with ⟨rfl,_⟩ | ⟨a,len,cap,elems,rest,m,rfl,rfl,_,hb,hl,hm,hel,hat,_⟩
  · exact ⟨none,0,[],rfl,Nat.le_refl _,Kd.C_nil d w,by simp,fun y hy=>by simp at hy⟩
  · obtain ⟨l,hll,hq⟩:=list_of len (fun i y=>Wf y∧∃ csi,csi.length=d.sz∧d.K w y csi∧∀ j u,csi[j]?=some u→w.cell? (a.add (i*d.sz+j))=some u) (fun i hi=>by
      have h1:=hat i hi
      rw [List.getElem?_eq_getElem (by omega:i < elems.length),Option.bind_eq_some_iff] at h1
      obtain ⟨csi,h2,h3⟩:=h1
      obtain ⟨y,hk,hw⟩:=ih m (by omega) csi _ h3
      refine ⟨y,hw,csi,d.K_len hk,hk,fun j u hu=>?_⟩
      have hlen:=d.K_len hk
      have hj:j < csi.length:=(List.getElem?_eq_some_iff.1 hu).1
      unfold World.cells? at h2
      split at h2
      · have h4:=mapM_some_get h2 j j (by rw [hc,← hlen]; simp [hj])
        rw [hu] at h4
        rw [← Addr.add_add,← hc]
        exact h4
      · cases h2)
    refine ⟨some a,cap,l,by rw [hll],by omega,⟨rfl,by simp only [maxLen] at hm; omega,fun _=>⟨a,rfl,fun j p hj=>?_⟩⟩,by simp only [maxLen] at hm; omega,fun y hy=>?_⟩
    · obtain ⟨_,csi,h1,h2,h3⟩:=hq j p hj
      exact ⟨csi,h1,h2,h3⟩
    · obtain ⟨i,hi,rfl⟩:=List.getElem_of_mem hy
      exact (hq i _ (List.getElem?_eq_getElem hi)).1
theorem int_open {k:IntKind} (ht:P.underlying t=some (.int k)) (h:DataW.trod enc P w base sp held n t cs=some x):∃ a,cs=[.int k a]∧(Lit.int k a).wf=true:=by
  obtain ⟨a,h1,_,h2⟩:=DataW.trod_int ht h
  exact ⟨a,h1,h2⟩
theorem str_open (ht:P.underlying t=some .string) (h:DataW.trod enc P w base sp held n t cs=some x):∃ a:ByteArray,cs=[.string a]∧a.size≤9223372036854775807:=by
  obtain ⟨a,h1,_,h2⟩:=DataW.trod_string ht h
  exact ⟨a,h1,by simpa [maxLen] using h2⟩
theorem field_open {fs:Array Field} (ht:P.underlying t=some (.struct fs)) (h:DataW.trod enc P w base sp held n t cs=some x) :
    ∃ m,n=m+1∧cs.length=P.cellsOf t∧∀ (i:Nat) (f:Field),fs[i]?=some f→∃ y,DataW.trod enc P w base sp held m f.type ((cs.drop f.offset).take (P.cellsOf f.type))=some y:=by
  obtain ⟨xs,m,h1,_,h3,h4,h5⟩:=DataW.trod_struct ht h
  refine ⟨m,h1,h3,fun i f hf=>?_⟩
  have h6:=h5 i f hf
  have hi:i < xs.length:=by rw [h4]; exact (Array.getElem?_eq_some_iff.1 hf).1
  rw [List.getElem?_eq_getElem hi] at h6
  exact ⟨_,h6⟩
end
end Go.Proofs.Ytkgknidogelffaa.VOpen
namespace Go.Proofs.Ytkgknidogelffaa.I
open Go.RowKit Go.Proofs.YtkgknidogelffaaW.PrintWords Go.Proofs.Ytkgknidogelffaa.VOpen
set_option linter.unusedVariables false
set_option linter.unusedSimpArgs false
def wf84 (x:S84):Prop:=x.f0.size≤9223372036854775807∧(Lit.int .i64 x.f1).wf=true
def Opened84 (w:World) (cs:List Value) (y:S84):Prop:=cs=[.string y.f0,.int .i64 y.f1]
theorem K84 {w:World} {cs:List Value} (h:∃ y,Opened84 w cs y∧wf84 y):∃ y,k84.K w y cs∧wf84 y:=by
  obtain ⟨y,h,hw⟩:=h
  obtain rfl:=h
  exact ⟨y,k84_mk w y , hw⟩
set_option maxRecDepth 10000 in
theorem open84 {H:Type} {enc:TypeId × Value→H} {w:World} {base:Nat} {sp:Nat→Bool} {held:Bool} (n:Nat):∀ (cs:List Value) (x:DataW H × List MemPlace),DataW.trod enc Try.prog w base sp held n 84 cs=some x→∃ y:S84,Opened84 w cs y∧wf84 y:=by
  intro cs x h
  obtain ⟨m,rfl,hl,hf⟩:=field_open Try.underlying84 h
  have hl2:cs.length=2:=hl.trans (by kernel_rfl)
  obtain ⟨z0,z1,rfl⟩:∃ z0 z1,cs=[z0,z1]:=by
    match cs,hl2 with
    | [z0,z1],_=>exact ⟨z0,z1,rfl⟩
  clear hl hl2 h
  obtain ⟨y0,h0⟩:=hf 0 _ rfl
  have h0':DataW.trod enc Try.prog w base sp held m 9 [z0]=some y0:=h0
  obtain ⟨a0,e0,w0⟩:=str_open Try.underlying9 h0'
  injection e0 with e0 _; subst e0
  obtain ⟨y1,h1⟩:=hf 1 _ rfl
  have h1':DataW.trod enc Try.prog w base sp held m 3 [z1]=some y1:=h1
  obtain ⟨a1,e1,w1⟩:=int_open Try.underlying3 h1'
  injection e1 with e1 _; subst e1
  exact ⟨⟨a0,a1⟩,rfl,⟨w0,w1⟩⟩
mutual
def wf39:S39→Prop
  | ⟨f0⟩=>f0.length≤9223372036854775807∧wf39L f0
def wf39L:List S39→Prop
  | []=>True
  | x :: xs=>wf39 x∧wf39L xs
end
theorem wf39L_of:∀ {l:List S39},(∀ y,y ∈ l→wf39 y)→wf39L l
  | [],_=>trivial
  | x :: xs,h=>⟨h x (by simp),wf39L_of (fun y hy=>h y (by simp [hy]))⟩
def Opened39 (w:World) (cs:List Value) (y:S39):Prop:=∃ A0 c0,cs=[.slice A0 y.f0.length c0]∧y.f0.length≤c0∧Kd.C k39 w A0 y.f0.length y.f0
theorem K39 {w:World} {cs:List Value} (h:∃ y,Opened39 w cs y∧wf39 y):∃ y,k39.K w y cs∧wf39 y:=by
  obtain ⟨y,h,hw⟩:=h
  obtain ⟨A0,c0,rfl,l0,g0⟩:=h
  exact ⟨y,k39_mk w y l0 g0,hw⟩
set_option maxRecDepth 10000 in
theorem open39 {H:Type} {enc:TypeId × Value→H} {w:World} {base:Nat} {sp:Nat→Bool} {held:Bool} (n:Nat):∀ (cs:List Value) (x:DataW H × List MemPlace),DataW.trod enc Try.prog w base sp held n 39 cs=some x→∃ y:S39,Opened39 w cs y∧wf39 y:=by
  induction n using Nat.strongRecOn with
  | _ n ih =>
    intro cs x h
    obtain ⟨m,rfl,hl,hf⟩:=field_open Try.underlying39 h
    have hl2:cs.length=1:=hl.trans (by kernel_rfl)
    obtain ⟨z0,rfl⟩:∃ z0,cs=[z0]:=by
      match cs,hl2 with
      | [z0],_=>exact ⟨z0,rfl⟩
    clear hl hl2 h
    obtain ⟨y0,h0⟩:=hf 0 _ rfl
    have h0':DataW.trod enc Try.prog w base sp held m 37 [z0]=some y0:=h0
    obtain ⟨A0_,c0_,a0,e0,lc0,g0,hl0,hw0⟩:=slice_open k39 (fun y_=>wf39 y_) Try.underlying37 (by kernel_rfl) (fun m_ hm_ cs_ x_ h_=>K39 (ih m_ (by omega) cs_ x_ h_)) h0'
    injection e0 with e0 _; subst e0
    exact ⟨⟨a0⟩,⟨A0_,c0_,rfl,lc0,g0⟩,⟨hl0,wf39L_of hw0⟩⟩
mutual
def wf36:S36→Prop
  | ⟨f0,f1,f2⟩=>(Lit.int .i64 f0).wf=true∧(Lit.int .i64 f1).wf=true∧f2.length≤9223372036854775807∧wf36L f2
def wf36L:List S36→Prop
  | []=>True
  | x :: xs=>wf36 x∧wf36L xs
end
theorem wf36L_of:∀ {l:List S36},(∀ y,y ∈ l→wf36 y)→wf36L l
  | [],_=>trivial
  | x :: xs,h=>⟨h x (by simp),wf36L_of (fun y hy=>h y (by simp [hy]))⟩
def Opened36 (w:World) (cs:List Value) (y:S36):Prop:=∃ A2 c2,cs=[.int .i64 y.f0,.int .i64 y.f1,.slice A2 y.f2.length c2]∧y.f2.length≤c2∧Kd.C k36 w A2 y.f2.length y.f2
theorem K36 {w:World} {cs:List Value} (h:∃ y,Opened36 w cs y∧wf36 y):∃ y,k36.K w y cs∧wf36 y:=by
  obtain ⟨y,h,hw⟩:=h
  obtain ⟨A2,c2,rfl,l2,g2⟩:=h
  exact ⟨y,k36_mk w y l2 g2,hw⟩
set_option maxRecDepth 10000 in
theorem open36 {H:Type} {enc:TypeId × Value→H} {w:World} {base:Nat} {sp:Nat→Bool} {held:Bool} (n:Nat):∀ (cs:List Value) (x:DataW H × List MemPlace),DataW.trod enc Try.prog w base sp held n 36 cs=some x→∃ y:S36,Opened36 w cs y∧wf36 y:=by
  induction n using Nat.strongRecOn with
  | _ n ih =>
    intro cs x h
    obtain ⟨m,rfl,hl,hf⟩:=field_open Try.underlying36 h
    have hl2:cs.length=3:=hl.trans (by kernel_rfl)
    obtain ⟨z0,z1,z2,rfl⟩:∃ z0 z1 z2,cs=[z0,z1,z2]:=by
      match cs,hl2 with
      | [z0,z1,z2],_=>exact ⟨z0,z1,z2,rfl⟩
    clear hl hl2 h
    obtain ⟨y0,h0⟩:=hf 0 _ rfl
    have h0':DataW.trod enc Try.prog w base sp held m 3 [z0]=some y0:=h0
    obtain ⟨a0,e0,w0⟩:=int_open Try.underlying3 h0'
    injection e0 with e0 _; subst e0
    obtain ⟨y1,h1⟩:=hf 1 _ rfl
    have h1':DataW.trod enc Try.prog w base sp held m 3 [z1]=some y1:=h1
    obtain ⟨a1,e1,w1⟩:=int_open Try.underlying3 h1'
    injection e1 with e1 _; subst e1
    obtain ⟨y2,h2⟩:=hf 2 _ rfl
    have h2':DataW.trod enc Try.prog w base sp held m 34 [z2]=some y2:=h2
    obtain ⟨A2_,c2_,a2,e2,lc2,g2,hl2,hw2⟩:=slice_open k36 (fun y_=>wf36 y_) Try.underlying34 (by kernel_rfl) (fun m_ hm_ cs_ x_ h_=>K36 (ih m_ (by omega) cs_ x_ h_)) h2'
    injection e2 with e2 _; subst e2
    exact ⟨⟨a0,a1,a2⟩,⟨A2_,c2_,rfl,lc2,g2⟩,⟨w0,w1,hl2,wf36L_of hw2⟩⟩
def wf41 (x:S41):Prop:=x.f0.size≤9223372036854775807∧wf39 x.f1∧wf36 x.f2
def Opened41 (w:World) (cs:List Value) (y:S41):Prop:=∃ A1 c1 A4 c4,cs=[.string y.f0,.slice A1 y.f1.f0.length c1,.int .i64 y.f2.f0,.int .i64 y.f2.f1,.slice A4 y.f2.f2.length c4]∧y.f1.f0.length≤c1∧Kd.C k39 w A1 y.f1.f0.length y.f1.f0∧y.f2.f2.length≤c4∧Kd.C k36 w A4 y.f2.f2.length y.f2.f2
theorem K41 {w:World} {cs:List Value} (h:∃ y,Opened41 w cs y∧wf41 y):∃ y,k41.K w y cs∧wf41 y:=by
  obtain ⟨y,h,hw⟩:=h
  obtain ⟨A1,c1,A4,c4,rfl,l1,g1,l4,g4⟩:=h
  exact ⟨y,k41_mk w y l1 g1 l4 g4,hw⟩
set_option maxRecDepth 10000 in
theorem open41 {H:Type} {enc:TypeId × Value→H} {w:World} {base:Nat} {sp:Nat→Bool} {held:Bool} (n:Nat):∀ (cs:List Value) (x:DataW H × List MemPlace),DataW.trod enc Try.prog w base sp held n 41 cs=some x→∃ y:S41,Opened41 w cs y∧wf41 y:=by
  intro cs x h
  obtain ⟨m,rfl,hl,hf⟩:=field_open Try.underlying41 h
  have hl2:cs.length=5:=hl.trans (by kernel_rfl)
  obtain ⟨z0,z1,z2,z3,z4,rfl⟩:∃ z0 z1 z2 z3 z4,cs=[z0,z1,z2,z3,z4]:=by
    match cs,hl2 with
    | [z0,z1,z2,z3,z4],_=>exact ⟨z0,z1,z2,z3,z4,rfl⟩
  clear hl hl2 h
  obtain ⟨y0,h0⟩:=hf 0 _ rfl
  have h0':DataW.trod enc Try.prog w base sp held m 9 [z0]=some y0:=h0
  obtain ⟨a0,e0,w0⟩:=str_open Try.underlying9 h0'
  injection e0 with e0 _; subst e0
  obtain ⟨y1,h1⟩:=hf 1 _ rfl
  have h1':DataW.trod enc Try.prog w base sp held m 39 [z1]=some y1:=h1
  obtain ⟨a1,o1,w1⟩:=open39 m _ _ h1'
  obtain ⟨A1_0,c1_0,e1,lc1_0,g1_0⟩:=o1
  obtain rfl:=(by simpa using e1:z1=.slice A1_0 a1.f0.length c1_0)
  obtain ⟨y2,h2⟩:=hf 2 _ rfl
  have h2':DataW.trod enc Try.prog w base sp held m 36 [z2,z3,z4]=some y2:=h2
  obtain ⟨a2,o2,w2⟩:=open36 m _ _ h2'
  obtain ⟨A2_2,c2_2,e2,lc2_2,g2_2⟩:=o2
  obtain ⟨rfl,rfl,rfl⟩:=(by simpa using e2:z2=.int .i64 a2.f0∧z3=.int .i64 a2.f1∧z4=.slice A2_2 a2.f2.length c2_2)
  exact ⟨⟨a0,a1,a2⟩,⟨A1_0,c1_0,A2_2,c2_2,rfl,lc1_0,g1_0,lc2_2,g2_2⟩,⟨w0,w1,w2⟩⟩
def wf25 (x:S25):Prop:=x.f0.length≤9223372036854775807∧(∀ y_,y_ ∈ x.f0→wf84 y_)∧x.f1.length≤9223372036854775807∧(∀ y_,y_ ∈ x.f1→wf41 y_)
def Opened25 (w:World) (cs:List Value) (y:S25):Prop:=∃ A0 c0 A1 c1,cs=[.slice A0 y.f0.length c0,.slice A1 y.f1.length c1]∧y.f0.length≤c0∧Kd.C k84 w A0 y.f0.length y.f0∧y.f1.length≤c1∧Kd.C k41 w A1 y.f1.length y.f1
set_option maxRecDepth 10000 in
theorem open25 {H:Type} {enc:TypeId × Value→H} {w:World} {base:Nat} {sp:Nat→Bool} {held:Bool} (n:Nat):∀ (cs:List Value) (x:DataW H × List MemPlace),DataW.trod enc Try.prog w base sp held n 25 cs=some x→∃ y:S25,Opened25 w cs y∧wf25 y:=by
  intro cs x h
  obtain ⟨m,rfl,hl,hf⟩:=field_open Try.underlying25 h
  have hl2:cs.length=2:=hl.trans (by kernel_rfl)
  obtain ⟨z0,z1,rfl⟩:∃ z0 z1,cs=[z0,z1]:=by
    match cs,hl2 with
    | [z0,z1],_=>exact ⟨z0,z1,rfl⟩
  clear hl hl2 h
  obtain ⟨y0,h0⟩:=hf 0 _ rfl
  have h0':DataW.trod enc Try.prog w base sp held m 22 [z0]=some y0:=h0
  obtain ⟨A0_,c0_,a0,e0,lc0,g0,hl0,hw0⟩:=slice_open k84 (fun y_=>wf84 y_) Try.underlying22 (by kernel_rfl) (fun m_ hm_ cs_ x_ h_=>K84 (open84 m_ cs_ x_ h_)) h0'
  injection e0 with e0 _; subst e0
  obtain ⟨y1,h1⟩:=hf 1 _ rfl
  have h1':DataW.trod enc Try.prog w base sp held m 23 [z1]=some y1:=h1
  obtain ⟨A1_,c1_,a1,e1,lc1,g1,hl1,hw1⟩:=slice_open k41 (fun y_=>wf41 y_) Try.underlying23 (by kernel_rfl) (fun m_ hm_ cs_ x_ h_=>K41 (open41 m_ cs_ x_ h_)) h1'
  injection e1 with e1 _; subst e1
  exact ⟨⟨a0,a1⟩,⟨A0_,c0_,A1_,c1_,rfl,lc0,g0,lc1,g1⟩,⟨hl0,hw0,hl1,hw1⟩⟩
def wf57 (x:S57):Prop:=(Lit.int .i64 x.f0).wf=true∧(Lit.int .i64 x.f1).wf=true∧(Lit.int .i64 x.f2).wf=true
def Opened57 (w:World) (cs:List Value) (y:S57):Prop:=cs=[.int .i64 y.f0,.int .i64 y.f1,.int .i64 y.f2]
theorem K57 {w:World} {cs:List Value} (h:∃ y,Opened57 w cs y∧wf57 y):∃ y,k57.K w y cs∧wf57 y:=by
  obtain ⟨y,h,hw⟩:=h
  obtain rfl:=h
  exact ⟨y,k57_mk w y , hw⟩
set_option maxRecDepth 10000 in
theorem open57 {H:Type} {enc:TypeId × Value→H} {w:World} {base:Nat} {sp:Nat→Bool} {held:Bool} (n:Nat):∀ (cs:List Value) (x:DataW H × List MemPlace),DataW.trod enc Try.prog w base sp held n 57 cs=some x→∃ y:S57,Opened57 w cs y∧wf57 y:=by
  intro cs x h
  obtain ⟨m,rfl,hl,hf⟩:=field_open Try.underlying57 h
  have hl2:cs.length=3:=hl.trans (by kernel_rfl)
  obtain ⟨z0,z1,z2,rfl⟩:∃ z0 z1 z2,cs=[z0,z1,z2]:=by
    match cs,hl2 with
    | [z0,z1,z2],_=>exact ⟨z0,z1,z2,rfl⟩
  clear hl hl2 h
  obtain ⟨y0,h0⟩:=hf 0 _ rfl
  have h0':DataW.trod enc Try.prog w base sp held m 3 [z0]=some y0:=h0
  obtain ⟨a0,e0,w0⟩:=int_open Try.underlying3 h0'
  injection e0 with e0 _; subst e0
  obtain ⟨y1,h1⟩:=hf 1 _ rfl
  have h1':DataW.trod enc Try.prog w base sp held m 3 [z1]=some y1:=h1
  obtain ⟨a1,e1,w1⟩:=int_open Try.underlying3 h1'
  injection e1 with e1 _; subst e1
  obtain ⟨y2,h2⟩:=hf 2 _ rfl
  have h2':DataW.trod enc Try.prog w base sp held m 3 [z2]=some y2:=h2
  obtain ⟨a2,e2,w2⟩:=int_open Try.underlying3 h2'
  injection e2 with e2 _; subst e2
  exact ⟨⟨a0,a1,a2⟩,rfl,⟨w0,w1,w2⟩⟩
end Go.Proofs.Ytkgknidogelffaa.I
namespace Go.Proofs.Ytkgknidogelffaa.I
open Go.RowKit Go.Proofs.YtkgknidogelffaaW.PrintWords Go.Proofs.YtkgknidogelffaaW.PrintLast Go.Proofs.YtkgknidogelffaaW.PrintMore
attribute [local go_sem] max2_int min2_int max_two min_two max_three min_three max_four min_four
set_option linter.unusedVariables false
set_option maxRecDepth 100000
set_option linter.unusedSimpArgs false
set_option maxHeartbeats 8000000 in
theorem refnew_err (A0:Option Addr) (c0:Nat) (l0:List S84) (A1:Option Addr) (c1:Nat) (l1:List S41) (w:World) (hs:Sch w A0 c0 l0 A1 c1 l1) (hb:¬ schB l0 l1=true) :
    Calls Try.prog 17 #[.agg #[.slice A0 l0.length c0,.slice A1 l1.length c1]] w fun e w'=>e=.returned (.tuple #[.agg #[.slice none 0 0,.slice none 0 0,.slice none 0 0,.int .i64 0,.int .i64 0,.slice none 0 0,.bool false,.int .i64 0,.bool false],.int .i64 7])∧Below w.heap.size w w':=by
  have hu25:=Try.underlying25
  have hu51:=Try.underlying51
  have hu36:=Try.underlying36
  have HS:=Az.mk hs
  have HB:=Az.mk (show schB l0 l1=false from by simpa using hb)
  clear hs hb
  go_enter Try.func17,Try.ntmps17
  go_wp2_with (first
    | ((with_reducible refine gate_dst (N:=1) rfl ?_)
       refine box_event ?hg (N:=1) ?hd (cs:=#[.slice A0 l0.length c0,.slice A1 l1.length c1]) (t:=25) ?hr ?_
       (case hd=>rfl)
       (case hg=>rfl)
       (case hr=>first | (go_simp; done) | (go_simp; rfl))
       intro g1 hg1 w1 hbox hb1
       have S1:=Az.mk hbox
       have HB1:=Az.mk hb1
       clear hbox hb1 hg1)
    | ((with_reducible refine gate_dst (N:=2) rfl ?_)
       refine box_event ?hg (N:=2) ?hd (cs:=#[.slice none 0 0,.slice none 0 0,.slice none 0 0,.int .i64 0,.int .i64 0,.slice none 0 0,.bool false,.int .i64 0,.bool false]) (t:=51) ?hr ?_
       (case hd=>rfl)
       (case hg=>rfl)
       (case hr=>first | (go_simp; done) | (go_simp; rfl))
       intro g2 hg2 w2 hbox hb2
       have S2:=Az.mk hbox
       have S12:=Az.mk (bkB S1.out hb2)
       have HB2:=Az.mk (bst HB1.out hb2)
       have HG2:=Az.mk (show w.heap.size≤g2 from by have:=HB1.out.size; omega)
       have e0:w2.cell? ⟨g1,0,none⟩=some (.slice A0 l0.length c0):=(blk_cell S12.out 0).trans rfl
       have e1:w2.cell? ⟨g1,1,none⟩=some (.slice A1 l1.length c1):=(blk_cell S12.out 1).trans rfl
       clear hbox hb2 hg2 S1))
  (with_reducible refine (refis_calls A0 c0 l0 A1 c1 l1 w2 (HS.out.below HB2.out).r0 HS.out.h0 (HS.out.below HB2.out).r1 HS.out.h1).mono ?_)
  rintro x w3 ⟨rfl,hb3⟩
  rw [HB.out]
  have HB3:=Az.mk (bst HB2.out hb3)
  have S13:=Az.mk (bkB S12.out hb3)
  have S23:=Az.mk (bkB S2.out hb3)
  have f0:w3.cell? ⟨g1,0,none⟩=some (.slice A0 l0.length c0):=(blk_cell S13.out 0).trans rfl
  have f1:w3.cell? ⟨g1,1,none⟩=some (.slice A1 l1.length c1):=(blk_cell S13.out 1).trans rfl
  have hcz0:w3.cell? ⟨g2,0,none⟩=some (.slice none 0 0):=(blk_cell S23.out 0).trans rfl
  have hfz0:w3.frozen? ⟨g2,0,none⟩=false:=bkF S23.out 0
  have hcz1:w3.cell? ⟨g2,1,none⟩=some (.slice none 0 0):=(blk_cell S23.out 1).trans rfl
  have hfz1:w3.frozen? ⟨g2,1,none⟩=false:=bkF S23.out 1
  have hcz2:w3.cell? ⟨g2,2,none⟩=some (.slice none 0 0):=(blk_cell S23.out 2).trans rfl
  have hfz2:w3.frozen? ⟨g2,2,none⟩=false:=bkF S23.out 2
  have hcz3:w3.cell? ⟨g2,3,none⟩=some (.int .i64 0):=(blk_cell S23.out 3).trans rfl
  have hfz3:w3.frozen? ⟨g2,3,none⟩=false:=bkF S23.out 3
  have hcz4:w3.cell? ⟨g2,4,none⟩=some (.int .i64 0):=(blk_cell S23.out 4).trans rfl
  have hfz4:w3.frozen? ⟨g2,4,none⟩=false:=bkF S23.out 4
  have hcz5:w3.cell? ⟨g2,5,none⟩=some (.slice none 0 0):=(blk_cell S23.out 5).trans rfl
  have hfz5:w3.frozen? ⟨g2,5,none⟩=false:=bkF S23.out 5
  have hcz6:w3.cell? ⟨g2,6,none⟩=some (.bool false):=(blk_cell S23.out 6).trans rfl
  have hfz6:w3.frozen? ⟨g2,6,none⟩=false:=bkF S23.out 6
  have hcz7:w3.cell? ⟨g2,7,none⟩=some (.int .i64 0):=(blk_cell S23.out 7).trans rfl
  have hfz7:w3.frozen? ⟨g2,7,none⟩=false:=bkF S23.out 7
  have hcz8:w3.cell? ⟨g2,8,none⟩=some (.bool false):=(blk_cell S23.out 8).trans rfl
  have hfz8:w3.frozen? ⟨g2,8,none⟩=false:=bkF S23.out 8
  clear hb3 e0 e1 S12 S2 HB2
  go_wp2_with fail
  have hbox:=S23.out
  refine bodyPost_ret (results_ct rfl _ _ g2 51 _ (0,0) _ rfl (put9 S23.out _ _ _ _ _ _ _ _ _) Try.underlying51 rfl (by kernel_rfl)) rfl ?_
  exact ⟨rfl,below_set9 HB3.out HG2.out _ _ _ _ _ _ _ _ _⟩
structure PI (l0:List S84) (l1:List S41) (w0 w:World) (lo:Nat) (a0 a1:Value) (L:List (Nat × MS)) (B:List RX) (X:Nat→Prop) (ga ca gb cb:Nat):Prop where
  m:MsX w lo (l1.map ownF) L X
  pr:PR w w0.heap.size lo a0 a1 X ga ca gb cb L B
  new:∀ k,w.heap.size≤k→X k
  len:L.length=B.length
  pos:0 < L.length
  pal:∀ (i gm:Nat) (s:MS) (x:RX),L[i]?=some (gm,s)→B[i]?=some x→Pal l0 l1 s x.r
  good:∀ (i gm:Nat) (s:MS),L[i]?=some (gm,s)→Good l0 l1 s
  bel:Below w0.heap.size w0 w
  low:w0.heap.size≤lo
variable {l0:List S84} {l1:List S41} {w0 w w':World} {lo:Nat} {a0 a1:Value} {X X':Nat→Prop} {ga ca gb cb ga' ca' gb' cb':Nat} {L L':List (Nat × MS)} {B B':List RX}
theorem PI.below (h:PI l0 l1 w0 w lo a0 a1 L B X ga ca gb cb) (hb:Below w.heap.size w w'):PI l0 l1 w0 w' lo a0 a1 L B X ga ca gb cb :=
  ⟨h.m.below hb,h.pr.below hb,fun k hk=>h.new k (Nat.le_trans hb.size hk),h.len,h.pos,h.pal,h.good,bst h.bel hb,h.low⟩
theorem PI.at (h:PI l0 l1 w0 w lo a0 a1 L B X ga ca gb cb) {i:Nat} (hi:i < L.length):∃ gm s x,L[i]?=some (gm,s)∧B[i]?=some x:=by
  have h1:L[i]?=some L[i]:=List.getElem?_eq_getElem hi
  have h2:B[i]?=some (B[i]'(by have:=h.len; omega)):=List.getElem?_eq_getElem (by have:=h.len; omega)
  exact ⟨L[i].1,L[i].2,_,h1,h2⟩
theorem lt_of_some {α:Type} {L:List α} {i:Nat} {x:α} (h:L[i]?=some x):i < L.length:=(List.getElem?_eq_some_iff.1 h).1
theorem set_get {α:Type} {L:List α} {i j:Nat} {x y:α} (h:(L.set i x)[j]?=some y):(j=i∧y=x)∨(j≠i∧L[j]?=some y):=by
  rw [List.getElem?_set] at h
  by_cases hj:i=j
  · rw [if_pos hj] at h
    split at h
    · injection h with h
      exact .inl ⟨hj.symm,h.symm⟩
    · cases h
  · rw [if_neg hj] at h
    exact .inr ⟨fun e=>hj e.symm,h⟩
theorem PI.store {i gm:Nat} {s s':MS} {x x':RX} {w2:World} (h:PI l0 l1 w0 w lo a0 a1 L B X ga ca gb cb) (hi:L[i]?=some (gm,s)) (hx:B[i]?=some x) (hp:Pal l0 l1 s' x'.r) (hg:Good l0 l1 s')
    (hm:MsX w' lo (l1.map ownF) (L.set i (gm,s')) X') (hpr:PR w' w0.heap.size lo a0 a1 X' ga ca gb cb (L.set i (gm,s')) B) (hv:RmV w' (fun k=>(k < lo∨X' k)∧k≠ga∧k≠gb∧k < w'.heap.size) x'.r x'.Ap x'.cp x'.At x'.ct)
    (hnew:∀ k,w'.heap.size≤k→X' k) (hbel:Below w0.heap.size w0 w')
    (hr:Kd.R (Kd.raw 9) 51 w2 w0.heap.size X' (.slice (some ⟨gb,0,none⟩) B.length cb) ((B.map (RX.cs a0 a1)).set i (RX.cs a0 a1 x'))) (hgr:w'.grownBy w2 (some gb)) (hb2:Below w0.heap.size w0 w2) :
    PI l0 l1 w0 w2 lo a0 a1 (L.set i (gm,s')) (B.set i x') X' ga ca gb cb:=by
  have hz:=hgr.size
  have hne:=hpr.nab
  have hxb:=hpr.xb
  have hi':=lt_of_some hi
  refine ⟨hm.keep (fun k hk _ hl=>hgr.block k hl (fun e=>by injection e with e; subst e; exact hk hxb.1)) hz,⟨?_,?_,fun y hy=>?_,Nat.le_trans hpr.lo_ hz⟩,fun k hk=>hnew k (by omega),by rw [List.length_set,List.length_set]; exact h.len,by rw [List.length_set]; exact h.pos,fun j g t y hj hy=>?_,fun j g t hj=>?_,hb2,h.low⟩
  · exact Kd.R_grown1 hpr.a rfl hgr (fun e=>by injection e with e; exact hne e.symm)
  · rw [List.length_set,List.map_set]
    exact hr
  · have hy2:RmV w' (fun k=>(k < lo∨X' k)∧k≠ga∧k≠gb∧k < w'.heap.size) y.r y.Ap y.cp y.At y.ct:=by
      rcases List.mem_or_eq_of_mem_set hy with hy | rfl
      · exact hpr.v y hy
      · exact hv
    exact (hy2.move (w':=w2) (fun k hk hl=>hgr.block k hl (fun e=>by injection e with e; exact hk.2.2.1 e))).mono (fun k hk=>⟨hk.1,hk.2.1,hk.2.2.1,by omega⟩)
  · rcases set_get hj with ⟨e1,e2⟩ | ⟨e1,e2⟩
    · rcases set_get hy with ⟨_,e4⟩ | ⟨e3,_⟩
      · injection e2 with _ e2
        rw [e2,e4]
        exact hp
      · exact absurd e1 e3
    · rcases set_get hy with ⟨e3,_⟩ | ⟨_,e4⟩
      · exact absurd e3 e1
      · exact h.pal j g t y e2 e4
  · rcases set_get hj with ⟨e1,e2⟩ | ⟨e1,e2⟩
    · injection e2 with _ e2
      rw [e2]
      exact hg
    · exact h.good j g t e2
theorem PI.fork {i gm gn:Nat} {s:MS} {x:RX} {w1 w2 w3:World} (h:PI l0 l1 w0 w lo a0 a1 L B X ga ca gb cb) (hi:L[i]?=some (gm,s)) (hx:B[i]?=some x)
    (hm:MsX w1 lo (l1.map ownF) (L ++ [(gn,s)]) (XL w w1 X)) (hb1:Below w.heap.size w w1)
    (hra:Kd.R (Kd.raw 1) 30 w2 w0.heap.size (XL w w1 X) (.slice (some ⟨ga',0,none⟩) (L.length+1) ca') (L.map ptrC ++ [ptrC (gn,s)])) (hga:w1.grownBy w2 (some ga)) (hat:ga'=ga∨w1.heap.size≤ga')
    (hrb:Kd.R (Kd.raw 9) 51 w3 w0.heap.size (XL w w1 X) (.slice (some ⟨gb',0,none⟩) (B.length+1) cb') (B.map (RX.cs a0 a1) ++ [RX.cs a0 a1 x])) (hgb:w2.grownBy w3 (some gb)) (hbt:gb'=gb∨w2.heap.size≤gb') (hb3:Below w0.heap.size w0 w3) :
    PI l0 l1 w0 w3 lo a0 a1 (L ++ [(gn,s)]) (B ++ [x]) (XL w w1 X) ga' ca' gb' cb':=by
  have h1:=h.pr.move (X':=XL w w1 X) (w':=w1) (fun k hk hl=>.inl ⟨hk,hl⟩) (fun k _ hl=>hb1.block k hl) (below_lo hb1 h.pr.lo_)
  have z1:=hb1.size
  have z2:=hga.size
  have z3:=hgb.size
  have xa:=h1.xa
  have xb:=h1.xb
  have hne:=h1.nab
  have hab:ga≠gb:=hne
  have hga'b:ga'≠gb:=by rcases hat with e | e; rw [e]; exact hne; omega
  have hgb'a:gb'≠ga:=by rcases hbt with e | e; rw [e]; exact hne.symm; omega
  have hla:ga' < w2.heap.size:=by
    obtain ⟨_,_,h3,_⟩:=(Kd.R_bound hra).1 ga' rfl
    exact h3
  have hab':ga'≠gb':=by rcases hbt with e | e; rw [e]; exact hga'b; omega
  refine ⟨hm.keep (fun k hk _ hl=>?_) (by omega),⟨?_,?_,fun y hy=>?_,by have:=h1.lo_; omega⟩,fun k hk=>.inr (by omega),by rw [List.length_append,List.length_append,h.len]; rfl,by rw [List.length_append]; exact Nat.succ_pos _,fun j g t y hj hy=>?_,fun j g t hj=>?_,hb3,h.low⟩
  · exact (hgb.block k (by omega) (fun e=>by injection e with e; subst e; exact hk xb.1)).trans (hga.block k hl (fun e=>by injection e with e; subst e; exact hk xa.1))
  · rw [List.map_append,List.length_append]
    exact Kd.R_grown1 hra rfl hgb (fun e=>by injection e with e; exact hga'b e.symm)
  · rw [List.map_append,List.length_append]
    exact hrb
  · have hy2:RmV w1 (fun k=>(k < lo∨XL w w1 X k)∧k≠ga∧k≠gb∧k < w1.heap.size) y.r y.Ap y.cp y.At y.ct:=by
      rcases List.mem_append.1 hy with hy | hy
      · exact h1.v y hy
      · rw [List.mem_singleton.1 hy]
        exact h1.v x (List.mem_of_getElem? hx)
    refine (hy2.move (w':=w3) (fun k hk hl=>(hgb.block k (by omega) (fun e=>by injection e with e; exact hk.2.2.1 e)).trans (hga.block k hl (fun e=>by injection e with e; exact hk.2.1 e)))).mono (fun k hk=>⟨hk.1,?_,?_,by omega⟩)
    · rcases hat with e | e
      · rw [e]; exact hk.2.1
      · omega
    · rcases hbt with e | e
      · rw [e]; exact hk.2.2.1
      · omega
  · rcases Nat.lt_or_ge j L.length with hjl | hjl
    · rw [List.getElem?_append_left hjl] at hj
      rw [List.getElem?_append_left (by rw [← h.len]; exact hjl)] at hy
      exact h.pal j g t y hj hy
    · rw [List.getElem?_append_right hjl] at hj
      rw [List.getElem?_append_right (by rw [← h.len]; exact hjl),← h.len] at hy
      have e0:j - L.length=0:=by have:=lt_of_some hj; simpa using this
      rw [e0] at hj hy
      injection hj with hj
      injection hj with _ hj
      injection hy with hy
      rw [← hj,← hy]
      exact h.pal i gm s x hi hx
  · rcases Nat.lt_or_ge j L.length with hjl | hjl
    · rw [List.getElem?_append_left hjl] at hj
      exact h.good j g t hj
    · rw [List.getElem?_append_right hjl] at hj
      have e0:j - L.length=0:=by have:=lt_of_some hj; simpa using this
      rw [e0] at hj
      injection hj with hj
      injection hj with _ hj
      rw [← hj]
      exact h.good i gm s hi
theorem PI.start {A0:Option Addr} {n0 c0:Nat} {A1:Option Addr} {n1 c1:Nat} {gm:Nat} (hs:schB l0 l1=true) (hm:MsX w lo (l1.map ownF) [(gm,ms0)] X) (hX:∀ k,w.heap.size≤k→X k) (hb:Below w0.heap.size w0 w) (hlo:lo≤w.heap.size) (hlow:w0.heap.size≤lo) :
    PI l0 l1 w0 ((w.alloc (.cells #[.pointer (some ⟨gm,0,none⟩)] 30)).alloc (.cells #[.slice A0 n0 c0,.slice A1 n1 c1,.slice none 0 0,.int .i64 1,.int .i64 0,.slice none 0 0,.bool false,.int .i64 0,.bool false] 51)) lo (.slice A0 n0 c0) (.slice A1 n1 c1) [(gm,ms0)] [rx0] X w.heap.size 1 (w.alloc (.cells #[.pointer (some ⟨gm,0,none⟩)] 30)).heap.size 1:=by
  have hz:(w.alloc (.cells #[.pointer (some ⟨gm,0,none⟩)] 30)).heap.size=w.heap.size+1:=by simp
  have hbz:=hb.size
  have h1:Below w.heap.size w (w.alloc (.cells #[.pointer (some ⟨gm,0,none⟩)] 30)):=bal (Below.refl _ _) _
  have h2:Below w.heap.size w ((w.alloc (.cells #[.pointer (some ⟨gm,0,none⟩)] 30)).alloc (.cells #[.slice A0 n0 c0,.slice A1 n1 c1,.slice none 0 0,.int .i64 1,.int .i64 0,.slice none 0 0,.bool false,.int .i64 0,.bool false] 51)):=bal h1 _
  have hra:Kd.R (Kd.raw 1) 30 (w.alloc (.cells #[.pointer (some ⟨gm,0,none⟩)] 30)) w0.heap.size X (.slice (some ⟨w.heap.size,0,none⟩) 1 1) [ptrC (gm,ms0)] :=
    ⟨fun k hk=>hX k (by have hk:some w.heap.size=some k:=hk; injection hk with hk; omega),OwnRow.lit w w0.heap.size (inner:=[.pointer (some ⟨gm,0,none⟩)]) ((Reps.none _ _).snoc (ps:=[]) (p:=ptrC (gm,ms0)) ⟨rfl,rfl,fun u hu=>by rw [List.mem_singleton.1 hu]; rfl⟩ rfl) hbz (by simp)⟩
  have hrb:Kd.R (Kd.raw 9) 51 ((w.alloc (.cells #[.pointer (some ⟨gm,0,none⟩)] 30)).alloc (.cells #[.slice A0 n0 c0,.slice A1 n1 c1,.slice none 0 0,.int .i64 1,.int .i64 0,.slice none 0 0,.bool false,.int .i64 0,.bool false] 51)) w0.heap.size X (.slice (some ⟨(w.alloc (.cells #[.pointer (some ⟨gm,0,none⟩)] 30)).heap.size,0,none⟩) 1 1) [RX.cs (.slice A0 n0 c0) (.slice A1 n1 c1) rx0] :=
    ⟨fun k hk=>hX k (by have hk:some (w.alloc (.cells #[.pointer (some ⟨gm,0,none⟩)] 30)).heap.size=some k:=hk; injection hk with hk; omega),OwnRow.lit _ w0.heap.size (inner:=RX.cs (.slice A0 n0 c0) (.slice A1 n1 c1) rx0) ((Reps.none _ _).snoc (ps:=[]) (p:=RX.cs (.slice A0 n0 c0) (.slice A1 n1 c1) rx0) ⟨rfl,rfl,cs_one rx0 A0 n0 c0 A1 n1 c1⟩ rfl) (by omega) (by simp)⟩
  refine ⟨hm.below h2,⟨Kd.R_below hra (bal (Below.refl _ _) _),hrb,fun x hx=>?_,Nat.le_trans hlo h2.size⟩,fun k hk=>hX k (Nat.le_trans h2.size hk),rfl,Nat.zero_lt_one,fun i g s x hi hx=>?_,fun i g s hi=>?_,bst hb h2,hlow⟩
  · rw [List.mem_singleton.1 hx]
    exact ⟨Kd.V_nil _ _ _ _ _,Kd.V_nil _ _ _ _ _⟩
  · have e0:i=0:=by have:=lt_of_some hi; simpa using this
    subst e0
    injection hi with hi
    injection hi with _ hi
    injection hx with hx
    rw [← hi,← hx]
    exact pal0 hs
  · have e0:i=0:=by have:=lt_of_some hi; simpa using this
    subst e0
    injection hi with hi
    injection hi with _ hi
    rw [← hi]
    exact good0 hs
structure PJ (l1:List S41) (w0 w:World) (lo:Nat) (a0 a1:Value) (L:List (Nat × MS)) (B:List RX) (X:Nat→Prop) (ga ca gb cb:Nat) (x:RX):Prop where
  m:MsX w lo (l1.map ownF) L X
  pr:PR w w0.heap.size lo a0 a1 X ga ca gb cb L B
  v:RmV w (fun k=>(k < lo∨X k)∧k≠ga∧k≠gb∧k < w.heap.size) x.r x.Ap x.cp x.At x.ct
  new:∀ k,w.heap.size≤k→X k
  bel:Below w0.heap.size w0 w
theorem PJ.below {x:RX} (h:PJ l1 w0 w lo a0 a1 L B X ga ca gb cb x) (hb:Below w.heap.size w w'):PJ l1 w0 w' lo a0 a1 L B X ga ca gb cb x :=
  ⟨h.m.below hb,h.pr.below hb,(h.v.below hb).mono (fun k hk=>⟨hk.1,hk.2.1,hk.2.2.1,Nat.lt_of_lt_of_le hk.2.2.2 hb.size⟩),fun k hk=>h.new k (Nat.le_trans hb.size hk),bst h.bel hb⟩
theorem set9_same {g k:Nat} (hk:k≠g) (p0 p1 p2 p3 p4 p5 p6 p7 p8:Value):(((((((((w.setCell ⟨g,0,none⟩ p0).setCell ⟨g,1,none⟩ p1).setCell ⟨g,2,none⟩ p2).setCell ⟨g,3,none⟩ p3).setCell ⟨g,4,none⟩ p4).setCell ⟨g,5,none⟩ p5).setCell ⟨g,6,none⟩ p6).setCell ⟨g,7,none⟩ p7).setCell ⟨g,8,none⟩ p8).heap[k]?=w.heap[k]? :=
  (Below.heap_setCell _ ⟨g,8,none⟩ _ k hk).trans ((Below.heap_setCell _ ⟨g,7,none⟩ _ k hk).trans ((Below.heap_setCell _ ⟨g,6,none⟩ _ k hk).trans ((Below.heap_setCell _ ⟨g,5,none⟩ _ k hk).trans ((Below.heap_setCell _ ⟨g,4,none⟩ _ k hk).trans ((Below.heap_setCell _ ⟨g,3,none⟩ _ k hk).trans ((Below.heap_setCell _ ⟨g,2,none⟩ _ k hk).trans ((Below.heap_setCell _ ⟨g,1,none⟩ _ k hk).trans (Below.heap_setCell _ ⟨g,0,none⟩ _ k hk))))))))
theorem both_pj {W:World} {A0:Option Addr} {c0:Nat} {A1:Option Addr} {c1:Nat} {i gm:Nat} {s:MS} {x:RX} (h:PI l0 l1 w0 w lo (.slice A0 l0.length c0) (.slice A1 l1.length c1) L B X ga ca gb cb) (hW:Below w.heap.size w W) (hS:Sch w0 A0 c0 l0 A1 c1 l1) (hs:schB l0 l1=true) (hi:L[i]?=some (gm,s)) (hx:B[i]?=some x) (kd on n:Int) (hn:kd=0→n≤300∨1048576 < n) :
    Calls Try.prog 19 #[.pointer (some ⟨gm,0,none⟩),.agg #[.slice A0 l0.length c0,.slice A1 l1.length c1,.slice x.Ap x.r.path.length x.cp,.int .i64 x.r.t.f0,.int .i64 x.r.t.f1,.slice x.At x.r.t.f2.length x.ct,.bool x.r.known,.int .i64 x.r.steps,.bool x.r.lost],.agg #[.int .i64 kd,.int .i64 on,.int .i64 n]] W fun e w'=>∃ s' X' x',e=.returned (.tuple #[.agg #[.slice A0 l0.length c0,.slice A1 l1.length c1,.slice x'.Ap x'.r.path.length x'.cp,.int .i64 x'.r.t.f0,.int .i64 x'.r.t.f1,.slice x'.At x'.r.t.f2.length x'.ct,.bool x'.r.known,.int .i64 x'.r.steps,.bool x'.r.lost],.bool true])∧(x'.r.lost=true∨2000 < x'.r.steps∨Pal l0 l1 s' x'.r)∧Good l0 l1 s'∧PJ l1 w0 w' lo (.slice A0 l0.length c0) (.slice A1 l1.length c1) (L.set i (gm,s')) B X' ga ca gb cb x'∧W.heap.size≤w'.heap.size∧(∀ k,X k→k < W.heap.size→w'.heap[k]?=W.heap[k]?)∧∀ g,w.heap.size≤g→g < W.heap.size→∀ (p0 p1 p2 p3 p4 p5 p6 p7 p8:Value),PJ l1 w0 (((((((((w'.setCell ⟨g,0,none⟩ p0).setCell ⟨g,1,none⟩ p1).setCell ⟨g,2,none⟩ p2).setCell ⟨g,3,none⟩ p3).setCell ⟨g,4,none⟩ p4).setCell ⟨g,5,none⟩ p5).setCell ⟨g,6,none⟩ p6).setCell ⟨g,7,none⟩ p7).setCell ⟨g,8,none⟩ p8) lo (.slice A0 l0.length c0) (.slice A1 l1.length c1) (L.set i (gm,s')) B X' ga ca gb cb x':=by
  have zW:=hW.size
  have hPW:=h.below hW
  have hv:RmV W (fun k=>((k < lo∨X k)∧k≠ga∧k≠gb)∧k < w.heap.size) x.r x.Ap x.cp x.At x.ct:=((h.pr.v x (List.mem_of_getElem? hx)).below hW).mono (fun k hk=>⟨⟨hk.1,hk.2.1,hk.2.2.1⟩,hk.2.2.2⟩)
  refine (both_calls hS hs hPW.bel h.low hPW.pr.lo_ hPW.m hPW.new hi (h.good i gm s hi) (h.pal i gm s x hi hx) (fun k hk=>hk.1.1) hv kd on n hn).mono ?_
  rintro e w' hq
  unfold BothQ at hq
  obtain ⟨R,Ap',cp',At',ct',s',X',rfl,hd,hg,hb⟩:=hq
  have hz:=hb.bel.size
  have ha:=h.pr.xa.2.2
  have hbb:=h.pr.xb.2.2
  have hpr:=(hPW.pr.move hb.up hb.same hb.bel).same (set_ptr (s':=s') hi)
  have hvB:∀ y,y ∈ B→RmV w' (fun k=>((k < lo∨X' k)∧k≠ga∧k≠gb)∧k < w.heap.size) y.r y.Ap y.cp y.At y.ct:=fun y hy=>by
    refine (((h.pr.v y hy).below hW).move (w':=w') (fun k hk hl=>?_)).mono (fun k hk=>⟨⟨?_,hk.2.1,hk.2.2.1⟩,hk.2.2.2⟩)
    · rcases hk.1 with h1 | h1
      · exact hb.bel.block k h1
      · exact hb.same k h1 hl
    · rcases hk.1 with h1 | h1
      · exact .inl h1
      · exact .inr (hb.up k h1 (by omega))
  have hvx:RmV w' (fun k=>((k < lo∨X' k)∧k≠ga∧k≠gb∧k < w'.heap.size)∧(k < w.heap.size∨W.heap.size≤k)) R Ap' cp' At' ct':=(hb.v.bound).mono (fun k hk=>by
    obtain ⟨hk,hl⟩:=hk
    rcases hk with hk | hk
    · obtain ⟨⟨h1,h2,h3⟩,h4⟩:=hk
      refine ⟨⟨?_,h2,h3,hl⟩,.inl h4⟩
      rcases h1 with h1 | h1
      · exact .inl h1
      · exact .inr (hb.up k h1 (by omega))
    · exact ⟨⟨.inr hk.2,by omega,by omega,hl⟩,.inr hk.1⟩)
  refine ⟨s',X',⟨R,Ap',cp',At',ct'⟩,rfl,hd,hg,⟨hb.m,hpr,hvx.mono (fun k hk=>hk.1),hb.new,below_tr hPW.bel (below_lo hb.bel h.low)⟩,hb.bel.size,hb.same,fun g hg1 hg2 p0 p1 p2 p3 p4 p5 p6 p7 p8=>?_⟩
  have hXg:X' g:=hb.up g (h.new g hg1) hg2
  have zF:(((((((((w'.setCell ⟨g,0,none⟩ p0).setCell ⟨g,1,none⟩ p1).setCell ⟨g,2,none⟩ p2).setCell ⟨g,3,none⟩ p3).setCell ⟨g,4,none⟩ p4).setCell ⟨g,5,none⟩ p5).setCell ⟨g,6,none⟩ p6).setCell ⟨g,7,none⟩ p7).setCell ⟨g,8,none⟩ p8).heap.size=w'.heap.size:=by simp
  have hlo:=h.pr.lo_
  refine ⟨hb.m.far9 hXg _ _ _ _ _ _ _ _ _,⟨?_,?_,fun y hy=>?_,by rw [zF]; exact hpr.lo_⟩,?_,fun k hk=>hb.new k (by omega),?_⟩
  · exact Kd.R_mono (Kd.R_step (Kd.R_far1 (g:=g) hpr.a rfl (fun e=>by injection e with e; have e:g=ga:=e; omega)) (fun k hk _=>set9_same hk.2 _ _ _ _ _ _ _ _ _)) (fun k hk=>hk.1)
  · exact Kd.R_mono (Kd.R_step (Kd.R_far1 (g:=g) hpr.b rfl (fun e=>by injection e with e; have e:g=gb:=e; omega)) (fun k hk _=>set9_same hk.2 _ _ _ _ _ _ _ _ _)) (fun k hk=>hk.1)
  · exact ((hvB y hy).far9 (fun k hk=>by have:=hk.2; omega) _ _ _ _ _ _ _ _ _).mono (fun k hk=>⟨hk.1.1,hk.1.2.1,hk.1.2.2,by have:=hk.2; omega⟩)
  · exact (hvx.far9 (fun k hk=>by have:=hk.2; omega) _ _ _ _ _ _ _ _ _).mono (fun k hk=>⟨hk.1.1,hk.1.2.1,hk.1.2.2.1,by have:=hk.1.2.2.2; omega⟩)
  · exact below_set9b (below_tr hPW.bel (below_lo hb.bel h.low)) (by have:=h.bel.size; omega) _ _ _ _ _ _ _ _ _
end Go.Proofs.Ytkgknidogelffaa.I
namespace Go.Proofs.Ytkgknidogelffaa.I
open Go.RowKit Go.Proofs.YtkgknidogelffaaW.PrintWords Go.Proofs.YtkgknidogelffaaW.PrintLast Go.Proofs.YtkgknidogelffaaW.PrintMore
attribute [local go_sem] max2_int min2_int max_two min_two max_three min_three max_four min_four
set_option linter.unusedVariables false
set_option maxRecDepth 100000
set_option linter.unusedSimpArgs false
theorem cutp {P Q:Prop} (h:P) (k:P→Q):Q:=k h
theorem refnew_ok2 (A0:Option Addr) (c0:Nat) (l0:List S84) (A1:Option Addr) (c1:Nat) (l1:List S41) (w:World) (hs:Sch w A0 c0 l0 A1 c1 l1) (hb:schB l0 l1=true) :
    Calls Try.prog 17 #[.agg #[.slice A0 l0.length c0,.slice A1 l1.length c1]] w fun e w'=>e=.returned (.tuple #[.agg #[.slice A0 l0.length c0,.slice A1 l1.length c1,.slice none 0 0,.int .i64 1,.int .i64 0,.slice none 0 0,.bool false,.int .i64 0,.bool false],.int .i64 0])∧Below w.heap.size w w':=refnew_ok A0 c0 l0 A1 c1 l1 w hs hb
set_option maxHeartbeats 16000000 in
theorem plays_calls (A0:Option Addr) (c0:Nat) (l0:List S84) (A1:Option Addr) (c1:Nat) (l1:List S41) (A2:Option Addr) (c2:Nat) (l2:List S57) (w:World) (hr0:Kd.C k84 w A0 l0.length l0) (hc0:l0.length≤c0) (hr1:Kd.C k41 w A1 l1.length l1) (hc1:l1.length≤c1) (hr2:Kd.C k57 w A2 l2.length l2) (hc2:l2.length≤c2) :
    Calls Try.prog 4 #[.agg #[.slice A0 l0.length c0,.slice A1 l1.length c1],.slice A2 l2.length c2] w fun e w'=>e=.returned (.bool true)∧Below w.heap.size w w':=by
  have hu25:=Try.underlying25
  have hu51:=Try.underlying51
  have hu57:=Try.underlying57
  have hu54:=Try.underlying54
  have hu55:=Try.underlying55
  have hu49:=Try.underlying49
  have hl2:l2.length≤9223372036854775807:=hr2.2.1
  have HSch:=Az.mk (show Sch w A0 c0 l0 A1 c1 l1 from ⟨hr0,hc0,hr1,hc1⟩)
  have HR2:=Az.mk hr2
  have HC2:=Az.mk hc2
  clear hr0 hr1 hr2 hc0 hc1 hc2
  by_cases hs:schB l0 l1=true
  rotate_left
  · have HS:=Az.mk hs
    clear hs
    go_enter Try.func4,Try.ntmps4
    go_upto_region 1 with (
      ((with_reducible refine gate_dst (N:=2) rfl ?_)
       refine box_event ?hg (N:=2) ?hd (cs:=#[.slice A0 l0.length c0,.slice A1 l1.length c1]) (t:=25) ?hr ?_
       (case hd=>rfl)
       (case hg=>rfl)
       (case hr=>first | (go_simp; done) | (go_simp; rfl))
       intro g2 hg2 w1 hbox hb1
       have S2:=Az.mk hbox
       have HB1:=Az.mk hb1
       clear hbox hb1 hg2))
    have e0:w1.cell? ⟨g2,0,none⟩=some (.slice A0 l0.length c0):=(blk_cell S2.out 0).trans rfl
    have e1:w1.cell? ⟨g2,1,none⟩=some (.slice A1 l1.length c1):=(blk_cell S2.out 1).trans rfl
    go_wp2_with fail
    (with_reducible refine (new_err A0 c0 l0 A1 c1 l1 w1 (HSch.out.below HB1.out).r0 HSch.out.h0 (HSch.out.below HB1.out).r1 HSch.out.h1 HS.out).mono ?_)
    rintro e9 w2 ⟨rfl,hb2⟩
    have HB2:=Az.mk (bst HB1.out hb2)
    have S22:=Az.mk (bkB S2.out hb2)
    clear hb2 e0 e1
    have e0:w2.cell? ⟨g2,0,none⟩=some (.slice A0 l0.length c0):=(blk_cell S22.out 0).trans rfl
    have e1:w2.cell? ⟨g2,1,none⟩=some (.slice A1 l1.length c1):=(blk_cell S22.out 1).trans rfl
    go_wp2_with fail
    (with_reducible refine (refnew_err A0 c0 l0 A1 c1 l1 w2 (HSch.out.below HB2.out) HS.out).mono ?_)
    rintro e9 w3 ⟨rfl,hb3⟩
    have HB3:=Az.mk (bst HB2.out hb3)
    clear hb3 e0 e1
    go_upto_region 3 with (
      ((with_reducible refine gate_dst (N:=7) rfl ?_)
       refine box_event ?hg (N:=7) ?hd (cs:=#[.slice none 0 0,.slice none 0 0,.slice none 0 0,.int .i64 0,.int .i64 0,.slice none 0 0,.bool false,.int .i64 0,.bool false]) (t:=51) ?hr ?_
       (case hd=>rfl)
       (case hg=>rfl)
       (case hr=>first | (go_simp; done) | (go_simp; rfl))
       intro g7 hg_ w4 hbox hbb
       have hgw_:=HB3.out.size
       have Hq:=Az.mk (below_set9b hbb (Nat.le_of_eq hg_.symm) (.slice none 0 0) (.slice none 0 0) (.slice none 0 0) (.int .i64 0) (.int .i64 0) (.slice none 0 0) (.bool false) (.int .i64 0) (.bool false))
       have Sq:=Az.mk (put9 hbox (.slice none 0 0) (.slice none 0 0) (.slice none 0 0) (.int .i64 0) (.int .i64 0) (.slice none 0 0) (.bool false) (.int .i64 0) (.bool false))
       have hcz0:=(blk_cell hbox 0).trans rfl
       have hcz1:=(blk_cell hbox 1).trans rfl
       have hcz2:=(blk_cell hbox 2).trans rfl
       have hcz3:=(blk_cell hbox 3).trans rfl
       have hcz4:=(blk_cell hbox 4).trans rfl
       have hcz5:=(blk_cell hbox 5).trans rfl
       have hcz6:=(blk_cell hbox 6).trans rfl
       have hcz7:=(blk_cell hbox 7).trans rfl
       have hcz8:=(blk_cell hbox 8).trans rfl
       have hfz0:=bkF hbox 0
       have hfz1:=bkF hbox 1
       have hfz2:=bkF hbox 2
       have hfz3:=bkF hbox 3
       have hfz4:=bkF hbox 4
       have hfz5:=bkF hbox 5
       have hfz6:=bkF hbox 6
       have hfz7:=bkF hbox 7
       have hfz8:=bkF hbox 8
       clear hgw_ hbox hbb hg_))
    generalize (((((((((w4.setCell ⟨g7,0,none⟩ (.slice none 0 0)).setCell ⟨g7,1,none⟩ (.slice none 0 0)).setCell ⟨g7,2,none⟩ (.slice none 0 0)).setCell ⟨g7,3,none⟩ (.int .i64 0)).setCell ⟨g7,4,none⟩ (.int .i64 0)).setCell ⟨g7,5,none⟩ (.slice none 0 0)).setCell ⟨g7,6,none⟩ (.bool false)).setCell ⟨g7,7,none⟩ (.int .i64 0)).setCell ⟨g7,8,none⟩ (.bool false))=wq at *
    clear hcz0 hcz1 hcz2 hcz3 hcz4 hcz5 hcz6 hcz7 hcz8 hfz0 hfz1 hfz2 hfz3 hfz4 hfz5 hfz6 hfz7 hfz8
    have HBq:=Az.mk (bst HB3.out Hq.out)
    go_wp2_with fail
    (with_reducible refine (alive_calls _).mono ?_)
    rintro e9 wZ ⟨rfl,hbZ⟩
    have HZ:=Az.mk (bst HBq.out hbZ)
    clear hbZ
    go_wp2_with fail
    go_ret
    exact ⟨rfl,HZ.out⟩
  have HS:=Az.mk hs
  clear hs
  by_cases h40:40 < l2.length
  · have q40:((40:Int) < (l2.length:Int))=True:=eq_true (by omega)
    go_enter Try.func4,Try.ntmps4
    go_upto_region 1 with (
      ((with_reducible refine gate_dst (N:=2) rfl ?_)
       refine box_event ?hg (N:=2) ?hd (cs:=#[.slice A0 l0.length c0,.slice A1 l1.length c1]) (t:=25) ?hr ?_
       (case hd=>rfl)
       (case hg=>rfl)
       (case hr=>first | (go_simp; done) | (go_simp; rfl))
       intro g2 hg2 w1 hbox hb1
       have S2:=Az.mk hbox
       have HB1:=Az.mk hb1
       clear hbox hb1 hg2))
    have e0:w1.cell? ⟨g2,0,none⟩=some (.slice A0 l0.length c0):=(blk_cell S2.out 0).trans rfl
    have e1:w1.cell? ⟨g2,1,none⟩=some (.slice A1 l1.length c1):=(blk_cell S2.out 1).trans rfl
    go_wp2_with fail
    (with_reducible refine (mx_new A0 c0 A1 c1 (HSch.out.below HB1.out).r0 HSch.out.h0 (HSch.out.below HB1.out).r1 HSch.out.h1 HS.out).mono ?_)
    rintro e9 w2 ⟨gm,rfl,hM,hb2⟩
    have HB2:=Az.mk (bst HB1.out hb2)
    have S22:=Az.mk (bkB S2.out hb2)
    clear hb2 e0 e1 hM
    have e0:w2.cell? ⟨g2,0,none⟩=some (.slice A0 l0.length c0):=(blk_cell S22.out 0).trans rfl
    have e1:w2.cell? ⟨g2,1,none⟩=some (.slice A1 l1.length c1):=(blk_cell S22.out 1).trans rfl
    go_wp2_with fail
    (with_reducible refine (refnew_ok2 A0 c0 l0 A1 c1 l1 w2 (HSch.out.below HB2.out) HS.out).mono ?_)
    rintro e9 w3 ⟨rfl,hb3⟩
    have HB3:=Az.mk (bst HB2.out hb3)
    clear hb3 e0 e1
    go_upto_region 3 with (
      ((with_reducible refine gate_dst (N:=7) rfl ?_)
       refine box_event ?hg (N:=7) ?hd (cs:=#[.slice none 0 0,.slice none 0 0,.slice none 0 0,.int .i64 0,.int .i64 0,.slice none 0 0,.bool false,.int .i64 0,.bool false]) (t:=51) ?hr ?_
       (case hd=>rfl)
       (case hg=>rfl)
       (case hr=>first | (go_simp; done) | (go_simp; rfl))
       intro g7 hg_ w4 hbox hbb
       have hgw_:=HB3.out.size
       have Hq:=Az.mk (below_set9b hbb (Nat.le_of_eq hg_.symm) (.slice A0 l0.length c0) (.slice A1 l1.length c1) (.slice none 0 0) (.int .i64 1) (.int .i64 0) (.slice none 0 0) (.bool false) (.int .i64 0) (.bool false))
       have Sq:=Az.mk (put9 hbox (.slice A0 l0.length c0) (.slice A1 l1.length c1) (.slice none 0 0) (.int .i64 1) (.int .i64 0) (.slice none 0 0) (.bool false) (.int .i64 0) (.bool false))
       have hcz0:=(blk_cell hbox 0).trans rfl
       have hcz1:=(blk_cell hbox 1).trans rfl
       have hcz2:=(blk_cell hbox 2).trans rfl
       have hcz3:=(blk_cell hbox 3).trans rfl
       have hcz4:=(blk_cell hbox 4).trans rfl
       have hcz5:=(blk_cell hbox 5).trans rfl
       have hcz6:=(blk_cell hbox 6).trans rfl
       have hcz7:=(blk_cell hbox 7).trans rfl
       have hcz8:=(blk_cell hbox 8).trans rfl
       have hfz0:=bkF hbox 0
       have hfz1:=bkF hbox 1
       have hfz2:=bkF hbox 2
       have hfz3:=bkF hbox 3
       have hfz4:=bkF hbox 4
       have hfz5:=bkF hbox 5
       have hfz6:=bkF hbox 6
       have hfz7:=bkF hbox 7
       have hfz8:=bkF hbox 8
       clear hgw_ hbox hbb hg_))
    generalize (((((((((w4.setCell ⟨g7,0,none⟩ (.slice A0 l0.length c0)).setCell ⟨g7,1,none⟩ (.slice A1 l1.length c1)).setCell ⟨g7,2,none⟩ (.slice none 0 0)).setCell ⟨g7,3,none⟩ (.int .i64 1)).setCell ⟨g7,4,none⟩ (.int .i64 0)).setCell ⟨g7,5,none⟩ (.slice none 0 0)).setCell ⟨g7,6,none⟩ (.bool false)).setCell ⟨g7,7,none⟩ (.int .i64 0)).setCell ⟨g7,8,none⟩ (.bool false))=wq at *
    clear hcz0 hcz1 hcz2 hcz3 hcz4 hcz5 hcz6 hcz7 hcz8 hfz0 hfz1 hfz2 hfz3 hfz4 hfz5 hfz6 hfz7 hfz8
    have HBq:=Az.mk (bst HB3.out Hq.out)
    go_wp2_with fail
    (with_reducible refine (alive_calls _).mono ?_)
    rintro e9 wZ ⟨rfl,hbZ⟩
    have HZ:=Az.mk (bst HBq.out hbZ)
    clear hbZ
    go_wp2_with fail
    go_ret
    exact ⟨rfl,HZ.out⟩
  have q40:((40:Int) < (l2.length:Int))=False:=eq_false (by omega)
  go_enter Try.func4,Try.ntmps4
  go_upto_region 1 with (
      ((with_reducible refine gate_dst (N:=2) rfl ?_)
       refine box_event ?hg (N:=2) ?hd (cs:=#[.slice A0 l0.length c0,.slice A1 l1.length c1]) (t:=25) ?hr ?_
       (case hd=>rfl)
       (case hg=>rfl)
       (case hr=>first | (go_simp; done) | (go_simp; rfl))
       intro g2 hg2 w1 hbox hb1
       have S2:=Az.mk hbox
       have HB1:=Az.mk hb1
       clear hbox hb1 hg2))
  have e0:w1.cell? ⟨g2,0,none⟩=some (.slice A0 l0.length c0):=(blk_cell S2.out 0).trans rfl
  have e1:w1.cell? ⟨g2,1,none⟩=some (.slice A1 l1.length c1):=(blk_cell S2.out 1).trans rfl
  go_wp2_with fail
  (with_reducible refine (mx_new A0 c0 A1 c1 (HSch.out.below HB1.out).r0 HSch.out.h0 (HSch.out.below HB1.out).r1 HSch.out.h1 HS.out).mono ?_)
  rintro e9 w2 ⟨gm,rfl,hM,hb2⟩
  have HB2:=Az.mk (bst HB1.out hb2)
  have S22:=Az.mk (bkB S2.out hb2)
  have HM2:=Az.mk hM
  have HLO:=Az.mk (And.intro HB1.out.size hb2.size)
  clear hb2 e0 e1 hM
  have e0:w2.cell? ⟨g2,0,none⟩=some (.slice A0 l0.length c0):=(blk_cell S22.out 0).trans rfl
  have e1:w2.cell? ⟨g2,1,none⟩=some (.slice A1 l1.length c1):=(blk_cell S22.out 1).trans rfl
  go_wp2_with fail
  (with_reducible refine (refnew_ok2 A0 c0 l0 A1 c1 l1 w2 (HSch.out.below HB2.out) HS.out).mono ?_)
  rintro e9 w3 ⟨rfl,hb3⟩
  have HB3:=Az.mk (bst HB2.out hb3)
  have HW3:=Az.mk hb3
  clear hb3 e0 e1
  go_upto_region 3 with (
      ((with_reducible refine gate_dst (N:=7) rfl ?_)
       refine box_event ?hg (N:=7) ?hd (cs:=#[.slice none 0 0,.slice none 0 0,.slice none 0 0,.int .i64 0,.int .i64 0,.slice none 0 0,.bool false,.int .i64 0,.bool false]) (t:=51) ?hr ?_
       (case hd=>rfl)
       (case hg=>rfl)
       (case hr=>first | (go_simp; done) | (go_simp; rfl))
       intro g7 hg_ w4 hbox hbb
       have hgw_:=HB3.out.size
       have Hq:=Az.mk (below_set9b hbb (Nat.le_of_eq hg_.symm) (.slice A0 l0.length c0) (.slice A1 l1.length c1) (.slice none 0 0) (.int .i64 1) (.int .i64 0) (.slice none 0 0) (.bool false) (.int .i64 0) (.bool false))
       have Sq:=Az.mk (put9 hbox (.slice A0 l0.length c0) (.slice A1 l1.length c1) (.slice none 0 0) (.int .i64 1) (.int .i64 0) (.slice none 0 0) (.bool false) (.int .i64 0) (.bool false))
       have hcz0:=(blk_cell hbox 0).trans rfl
       have hcz1:=(blk_cell hbox 1).trans rfl
       have hcz2:=(blk_cell hbox 2).trans rfl
       have hcz3:=(blk_cell hbox 3).trans rfl
       have hcz4:=(blk_cell hbox 4).trans rfl
       have hcz5:=(blk_cell hbox 5).trans rfl
       have hcz6:=(blk_cell hbox 6).trans rfl
       have hcz7:=(blk_cell hbox 7).trans rfl
       have hcz8:=(blk_cell hbox 8).trans rfl
       have hfz0:=bkF hbox 0
       have hfz1:=bkF hbox 1
       have hfz2:=bkF hbox 2
       have hfz3:=bkF hbox 3
       have hfz4:=bkF hbox 4
       have hfz5:=bkF hbox 5
       have hfz6:=bkF hbox 6
       have hfz7:=bkF hbox 7
       have hfz8:=bkF hbox 8
       clear hgw_ hbox hbb hg_))
  generalize (((((((((w4.setCell ⟨g7,0,none⟩ (.slice A0 l0.length c0)).setCell ⟨g7,1,none⟩ (.slice A1 l1.length c1)).setCell ⟨g7,2,none⟩ (.slice none 0 0)).setCell ⟨g7,3,none⟩ (.int .i64 1)).setCell ⟨g7,4,none⟩ (.int .i64 0)).setCell ⟨g7,5,none⟩ (.slice none 0 0)).setCell ⟨g7,6,none⟩ (.bool false)).setCell ⟨g7,7,none⟩ (.int .i64 0)).setCell ⟨g7,8,none⟩ (.bool false))=wq at *
  clear hcz0 hcz1 hcz2 hcz3 hcz4 hcz5 hcz6 hcz7 hcz8 hfz0 hfz1 hfz2 hfz3 hfz4 hfz5 hfz6 hfz7 hfz8
  have HBq:=Az.mk (bst HB3.out Hq.out)
  have HMq:=Az.mk (HM2.out.below (bst HW3.out Hq.out))
  have HLq:=Az.mk (Nat.le_trans HLO.out.2 (bst HW3.out Hq.out).size)
  have HXq:=Az.mk (show ∀ k,wq.heap.size≤k→(k < w1.heap.size∨w2.heap.size≤k) from fun k hk=>.inr (Nat.le_trans (bst HW3.out Hq.out).size hk))
  have u0:wq.cell? ⟨g7,0,none⟩=some (.slice A0 l0.length c0):=(blk_cell Sq.out 0).trans rfl
  have u1:wq.cell? ⟨g7,1,none⟩=some (.slice A1 l1.length c1):=(blk_cell Sq.out 1).trans rfl
  have u2:wq.cell? ⟨g7,2,none⟩=some (.slice none 0 0):=(blk_cell Sq.out 2).trans rfl
  have u3:wq.cell? ⟨g7,3,none⟩=some (.int .i64 1):=(blk_cell Sq.out 3).trans rfl
  have u4:wq.cell? ⟨g7,4,none⟩=some (.int .i64 0):=(blk_cell Sq.out 4).trans rfl
  have u5:wq.cell? ⟨g7,5,none⟩=some (.slice none 0 0):=(blk_cell Sq.out 5).trans rfl
  have u6:wq.cell? ⟨g7,6,none⟩=some (.bool false):=(blk_cell Sq.out 6).trans rfl
  have u7:wq.cell? ⟨g7,7,none⟩=some (.int .i64 0):=(blk_cell Sq.out 7).trans rfl
  have u8:wq.cell? ⟨g7,8,none⟩=some (.bool false):=(blk_cell Sq.out 8).trans rfl
  go_upto_region 8 with fail
  have u0a:=cell_up (bal (Below.refl wq.heap.size wq) (Obj.cells #[.pointer (some ⟨gm,0,none⟩)] 30)) u0
  have u1a:=cell_up (bal (Below.refl wq.heap.size wq) (Obj.cells #[.pointer (some ⟨gm,0,none⟩)] 30)) u1
  have u2a:=cell_up (bal (Below.refl wq.heap.size wq) (Obj.cells #[.pointer (some ⟨gm,0,none⟩)] 30)) u2
  have u3a:=cell_up (bal (Below.refl wq.heap.size wq) (Obj.cells #[.pointer (some ⟨gm,0,none⟩)] 30)) u3
  have u4a:=cell_up (bal (Below.refl wq.heap.size wq) (Obj.cells #[.pointer (some ⟨gm,0,none⟩)] 30)) u4
  have u5a:=cell_up (bal (Below.refl wq.heap.size wq) (Obj.cells #[.pointer (some ⟨gm,0,none⟩)] 30)) u5
  have u6a:=cell_up (bal (Below.refl wq.heap.size wq) (Obj.cells #[.pointer (some ⟨gm,0,none⟩)] 30)) u6
  have u7a:=cell_up (bal (Below.refl wq.heap.size wq) (Obj.cells #[.pointer (some ⟨gm,0,none⟩)] 30)) u7
  have u8a:=cell_up (bal (Below.refl wq.heap.size wq) (Obj.cells #[.pointer (some ⟨gm,0,none⟩)] 30)) u8
  go_wp2_with fail
  have HPI0:=Az.mk (PI.start (A0:=A0) (n0:=l0.length) (c0:=c0) (A1:=A1) (n1:=l1.length) (c1:=c1) HS.out HMq.out HXq.out HBq.out HLq.out HLO.out.1)
  clear u0 u1 u2 u3 u4 u5 u6 u7 u8 u0a u1a u2a u3a u4a u5a u6a u7a u8a HMq HXq HBq HLq Hq Sq HB3 HW3 HM2 HB2 S22 S2
  go_loopg [9,10,52] l2.length (fun kq v9 v10 v52 wr=>∃ (j ga ca gb cb:Nat) (L:List (Nat × MS)) (B:List RX) (X:Nat→Prop),v9=.slice (some ⟨ga,0,none⟩) L.length ca∧v10=.slice (some ⟨gb,0,none⟩) B.length cb∧v52=.int .i64 (j:Int)∧Az (j+kq=l2.length)∧Az (L.length≤j+1)∧Az (PI l0 l1 w wr w1.heap.size (.slice A0 l0.length c0) (.slice A1 l1.length c1) L B X ga ca gb cb))
  case atStart=>exact ⟨0,_,1,_,1,[(gm,ms0)],[rx0],_,rfl,by first | rfl | simp,rfl,⟨by omega⟩,⟨Nat.le_refl _⟩,HPI0⟩
  case round =>
    clear HPI0
    obtain ⟨j,ga,ca,gb,cb,L,B,X,rfl,rfl,rfl,Hj,HLj,HP⟩:=hrel
    cases gk with
    | zero =>
      have p2:((j:Int) < (l2.length:Int))=False:=eq_false (by have:=Hj.out; omega)
      have p3:(j < l2.length)=False:=eq_false (by have:=Hj.out; omega)
      have hLb:L.length≤41:=by have:=HLj.out; have:=Hj.out; omega
      go_wp2_with fail
      go_loopg [131] L.length (fun kq v131 wz=>∃ i:Nat,v131=.int .i64 (i:Int)∧Az (i+kq=L.length)∧Az (PI l0 l1 w wz w1.heap.size (.slice A0 l0.length c0) (.slice A1 l1.length c1) L B X ga ca gb cb))
      case atStart=>exact ⟨0,rfl,⟨by omega⟩,HP⟩
      case round =>
        clear HP p2 p3
        obtain ⟨i,rfl,Hi,HPz⟩:=hrel
        cases gk with
        | zero =>
          have p2:((i:Int) < (L.length:Int))=False:=eq_false (by have:=Hi.out; omega)
          have p3:(i < L.length)=False:=eq_false (by have:=Hi.out; omega)
          go_wp2_with fail
          (with_reducible refine (alive_calls _).mono ?_)
          rintro e9 wZ ⟨rfl,hbZ⟩
          have HZ:=Az.mk (bst HPz.out.bel hbZ)
          clear hbZ
          go_wp2_with fail
          go_ret
          exact ⟨rfl,HZ.out⟩
        | succ k2 =>
          have hil:i < L.length:=by have:=Hi.out; omega
          obtain ⟨gn,s,x,hi,hx⟩:=HPz.out.at hil
          obtain ⟨n0,_,n1⟩:=HPz.out.pr.at_a hi
          obtain ⟨m0,_,_,m1⟩:=HPz.out.pr.at_b hx
          have m2:=m0 2 _ rfl
          have HPL:=HPz.out.pal i gn s x hi hx
          have HGD:=HPz.out.good i gn s hi
          rw [HPL.path] at m2
          have hb0:i < B.length:=lt_of_some hx
          have HPATH:=Az.mk (show s.path.length≤1000000 from by have:=HGD.path; omega)
          have HGDA:=Az.mk HGD
          have hvp:=Kd.V_reads' (HPz.out.pr.v x (List.mem_of_getElem? hx)).p
          rw [HPL.path] at hvp
          have HVP:=Az.mk (And.intro hvp.2.1 hvp.2.2)
          have HI:=Az.mk hi
          have HI2:=Az.mk (show i+1+k2=L.length from by have:=Hi.out; omega)
          have p1:(0≤(i:Int))=True:=eq_true (by omega)
          have p2:((i:Int) < (L.length:Int))=True:=eq_true (by omega)
          have p3:(i < L.length)=True:=eq_true hil
          have p4:((i:Int) < (B.length:Int))=True:=eq_true (by omega)
          have p5:(i < B.length)=True:=eq_true hb0
          clear hi hx m0 HPL HGD hvp Hi hil hb0
          go_upto_region 31 with fail
          go_region_held3 (fun w'=>w'.cell? ⟨ga,i,none⟩=some (.pointer (some ⟨gn,0,none⟩))∧w'.cell? ⟨gb,i*9+2,none⟩=some (.slice x.Ap s.path.length x.cp)) (go_keep)
            (first
              | (go_at_call 13
                 (with_reducible refine (mp_path (HPz.out.m.below (by repeat (first | exact Below.refl _ _ | apply pwN | apply bd1))) HI.out HGDA.out).mono ?_)
                 rintro e9 wA ⟨Aq,cq,rfl,hrq,hMq,hbq⟩
                 have HRQ:=Az.mk (Kd.R_reads' hrq)
                 have HBQ:=Az.mk (bst (show Below wr.heap.size wr _ from by repeat (first | exact Below.refl _ _ | apply pwN | apply bd1)) hbq)
                 have n0A:wA.cell? ⟨ga,i,none⟩=some (.pointer (some ⟨gn,0,none⟩)):=cell_up hbq (by go_keep)
                 have m2A:wA.cell? ⟨gb,i*9+2,none⟩=some (.slice x.Ap s.path.length x.cp):=cell_up hbq (by go_keep)
                 clear hrq hMq hbq n0 m2)
              | (go_at_call 15
                 (with_reducible refine (ints_at HPATH.out (Kd.C_below HRQ.out.2.2 (by repeat (first | exact Below.refl _ _ | apply pwN | apply bd1))) HRQ.out.2.1 (Kd.C_below HVP.out.2 (by repeat (first | exact HBQ.out | apply pwN | apply bd1))) HVP.out.1).mono ?_)
                 rintro e9 wB ⟨rfl,hbB⟩
                 have HBB:=Az.mk (bst (show Below wr.heap.size wr _ from by repeat (first | exact HBQ.out | apply pwN | apply bd1)) hbB)
                 have n0B:wB.cell? ⟨ga,i,none⟩=some (.pointer (some ⟨gn,0,none⟩)):=cell_up hbB (by go_keep)
                 have m2B:wB.cell? ⟨gb,i*9+2,none⟩=some (.slice x.Ap s.path.length x.cp):=cell_up hbB (by go_keep)
                 clear hbB))
          go_wp2_with fail
          go_roundg k2
          case measure=>omega
          case rel=>exact ⟨i+1,by go_num,HI2,⟨HPz.out.below (by repeat (first | exact HBB.out | apply pwN | apply bd1))⟩⟩
    | succ k1 =>
      have hjl:j < l2.length:=by have:=Hj.out; omega
      have hj40:(j:Int)≤40:=by have:=q40.mp; omega
      obtain ⟨ad,he,hx0,hx1,hx2⟩:=at_T57 HR2.out (j:Int) (by omega) (by omega)
      cases he
      replace hx0:=cell_up HP.out.bel hx0
      replace hx1:=cell_up HP.out.bel hx1
      replace hx2:=cell_up HP.out.bel hx2
      rw [Int.toNat_natCast] at hx0 hx1 hx2
      have HJ2:=Az.mk (show j+1+k1=l2.length from by have:=Hj.out; omega)
      have HJ40:=Az.mk hj40
      have p1:(0≤(j:Int))=True:=eq_true (by omega)
      have p2:((j:Int) < (l2.length:Int))=True:=eq_true (by omega)
      have p3:(j < l2.length)=True:=eq_true hjl
      generalize rd_T57 l2 (j:Int)=op at *
      obtain ⟨kd,on,n⟩:=op
      have hx0:wr.cell? (ad.add (j*3))=some (.int .i64 kd):=hx0
      have hx1:wr.cell? ⟨(ad.add (j*3)).block,(ad.add (j*3)).off+1,none⟩=some (.int .i64 on):=hx1
      have hx2:wr.cell? ⟨(ad.add (j*3)).block,(ad.add (j*3)).off+2,none⟩=some (.int .i64 n):=hx2
      clear Hj hjl
      go_upto_region 12 with (
        ((with_reducible refine gate_dst (N:=12) rfl ?_)
         refine box_event ?hg (N:=12) ?hd (cs:=#[.int .i64 0,.int .i64 0,.int .i64 0]) (t:=57) ?hr ?_
         (case hd=>rfl)
         (case hg=>rfl)
         (case hr=>first | (go_simp; done) | (go_simp; rfl))
         intro g12 hg_ w12 hbox hbb
         have hgw_:=HP.out.bel.size
         have Hg12:=Az.mk (show wr.heap.size≤g12 from by omega)
         have Hq:=Az.mk (below_set3 hbb (Nat.le_of_eq hg_.symm) (.int .i64 kd) (.int .i64 on) (.int .i64 n))
         have Sq:=Az.mk (blk_set3 hbox (.int .i64 kd) (.int .i64 on) (.int .i64 n))
         have hcz0:=(blk_cell hbox 0).trans rfl
         have hcz1:=(blk_cell hbox 1).trans rfl
         have hcz2:=(blk_cell hbox 2).trans rfl
         have hfz0:=bkF hbox 0
         have hfz1:=bkF hbox 1
         have hfz2:=bkF hbox 2
         clear hgw_ hbox hbb hg_))
      generalize ((w12.setCell ⟨g12,0,none⟩ (.int .i64 kd)).setCell ⟨g12,1,none⟩ (.int .i64 on)).setCell ⟨g12,2,none⟩ (.int .i64 n)=wq at *
      clear hcz0 hcz1 hcz2 hfz0 hfz1 hfz2 hx0 hx1 hx2 p1 p2 p3
      have HPq:=Az.mk (HP.out.below Hq.out)
      have o0:wq.cell? ⟨g12,0,none⟩=some (.int .i64 kd):=(blk_cell Sq.out 0).trans rfl
      have o1:wq.cell? ⟨g12,1,none⟩=some (.int .i64 on):=(blk_cell Sq.out 1).trans rfl
      have o2:wq.cell? ⟨g12,2,none⟩=some (.int .i64 n):=(blk_cell Sq.out 2).trans rfl
      have hpos:0 < L.length:=HP.out.pos
      have hll:(L.length:Int)≤41:=by have:=HLj.out; omega
      have hpos2:(0:Int) < (L.length:Int):=by omega
      by_cases hbad:(kd=0∧300 < n∧n≤1048576)∨on < 0
      · rcases (show ((kd == 0)=true∧(300 < n)=True∧(n≤1048576)=True)∨((kd == 0)=false∧(on < 0)=True)∨((kd == 0)=true∧(300 < n)=False∧(on < 0)=True)∨((kd == 0)=true∧(300 < n)=True∧(n≤1048576)=False∧(on < 0)=True) from by
          simp only [eq_iff_iff,iff_true,iff_false,beq_iff_eq,beq_eq_false_iff_ne,ne_eq]
          omega) with ⟨q0,q1,q2⟩ | ⟨q0,q1⟩ | ⟨q0,q1,q2⟩ | ⟨q0,q1,q2,q3⟩
        all_goals (
          clear hbad
          go_wp2_with fail
          (with_reducible refine (alive_calls _).mono ?_)
          rintro e9 wZ ⟨rfl,hbZ⟩
          have HZ:=Az.mk (bst HPq.out.bel hbZ)
          clear hbZ
          go_wp2_with fail
          go_ret
          exact ⟨rfl,HZ.out⟩
          )
      have hon:0≤on:=by omega
      have HN:=Az.mk (show kd=0→n≤300∨1048576 < n from by omega)
      obtain ⟨i,hi1,hi2⟩:∃ i:Nat,on % (L.length:Int)=(i:Int)∧i < L.length:=⟨(on % (L.length:Int)).toNat,by have:=Int.emod_nonneg on (show (L.length:Int)≠0 by omega); omega,by have:=Int.emod_lt_of_pos on hpos2; have:=Int.emod_nonneg on (show (L.length:Int)≠0 by omega); omega⟩
      by_cases h3:kd=3
      · have q0:(kd == 0)=false:=beq_eq_false_iff_ne.2 (by omega)
        have q3:(kd == 3)=true:=beq_iff_eq.2 h3
        have q1:(on < 0)=False:=eq_false (by omega)
        clear hbad h3
        go_upto_region 15 with fail
        rw [hi1]
        obtain ⟨gn,s,x,hi,hx⟩:=HPq.out.at hi2
        have HI:=Az.mk hi
        have HXI:=Az.mk hx
        have HGD:=Az.mk (HPq.out.good i gn s hi)
        obtain ⟨n0,_,n1⟩:=HPq.out.pr.at_a hi
        have hib:i < B.length:=lt_of_some hx
        have p1:(0≤(i:Int))=True:=eq_true (by omega)
        have p2:((i:Int) < (L.length:Int))=True:=eq_true (by omega)
        have p3:(i < L.length)=True:=eq_true hi2
        have p4:((i:Int) < (B.length:Int))=True:=eq_true (by omega)
        have p5:(i < B.length)=True:=eq_true hib
        clear hi hx hi1
        go_wp2_with fail
        (with_reducible refine (mp_fork HPq.out.m HI.out HGD.out).mono ?_)
        rintro e9 wA ⟨gf,rfl,hMf,hbf⟩
        have HMF:=Az.mk hMf
        have HBF:=Az.mk hbf
        have HPRF:=Az.mk (HPq.out.pr.move (X':=XL wq wA X) (fun k hk hl=>.inl ⟨hk,hl⟩) (fun k _ hl=>hbf.block k hl) (below_lo hbf HPq.out.pr.lo_))
        have HBA:=Az.mk (bst HPq.out.bel hbf)
        clear hMf hbf n0 o0 o1 o2
        go_wp2_with (at_builtin; refine holdK ?_)
        unfold HoldK
        refine Kd.R_append (Kd.raw 1) (w0:=w) w.heap.size rfl (.tmp 90) (.tmp 92) 54 30 (.pointer none) 8 rfl Try.underlying54 (by kernel_rfl) rfl (by decide) (by omega) (.slice (some ⟨ga,0,none⟩) L.length ca) (L.map ptrC) (ptrC (gf,s)) [.pointer (some ⟨gf,0,none⟩)] (XL wq wA X) (fun _=>False) rfl rfl ⟨rfl,rfl,fun u hu=>by rw [List.mem_singleton.1 hu]; rfl⟩ (fun _ hk=>hk.elim) (fun k hk=>.inr hk) HPRF.out.a HBA.out HBA.out.size (by rw [List.length_map]; omega) ?_
        intro v1 wF hra hba hga hata
        obtain ⟨ad1,ca',e1⟩:=Kd.R_slice1 hra (by simp)
        have hls:(L.map ptrC ++ [ptrC (gf,s)]).length=L.length+1:=by simp
        rw [hls] at e1
        subst e1
        obtain ⟨ga',rfl⟩:=Kd.R_head hra
        have HRA:=Az.mk hra
        have HGA:=Az.mk hga
        have HAT:=Az.mk (show ga'=ga∨wA.heap.size≤ga' from by
          rcases hata with h | ⟨b,h,hb⟩
          · injection h with h; exact .inl h
          · injection h with h; subst h; exact .inr hb)
        have HNAB:=Az.mk HPRF.out.nab
        have HRB:=Az.mk (Kd.R_grown1 HPRF.out.b rfl hga (fun e=>by injection e with e; exact HNAB.out e))
        have HBF2:=Az.mk hba
        obtain ⟨m0_,_⟩:=rb_at HRB.out HXI.out
        have v0:wF.cell? ⟨gb,i*9,none⟩=some (.slice A0 l0.length c0):=m0_ 0 _ rfl
        have v1:wF.cell? ⟨gb,i*9+1,none⟩=some (.slice A1 l1.length c1):=m0_ 1 _ rfl
        have v2:wF.cell? ⟨gb,i*9+2,none⟩=some (.slice x.Ap x.r.path.length x.cp):=m0_ 2 _ rfl
        have v3:wF.cell? ⟨gb,i*9+3,none⟩=some (.int .i64 x.r.t.f0):=m0_ 3 _ rfl
        have v4:wF.cell? ⟨gb,i*9+4,none⟩=some (.int .i64 x.r.t.f1):=m0_ 4 _ rfl
        have v5:wF.cell? ⟨gb,i*9+5,none⟩=some (.slice x.At x.r.t.f2.length x.ct):=m0_ 5 _ rfl
        have v6:wF.cell? ⟨gb,i*9+6,none⟩=some (.bool x.r.known):=m0_ 6 _ rfl
        have v7:wF.cell? ⟨gb,i*9+7,none⟩=some (.int .i64 x.r.steps):=m0_ 7 _ rfl
        have v8:wF.cell? ⟨gb,i*9+8,none⟩=some (.bool x.r.lost):=m0_ 8 _ rfl
        have hcb:=(Kd.R_reads' HRB.out).2.1
        clear hra hba hga hata m0_ hls
        go_wp2_with (at_builtin; refine holdK ?_)
        unfold HoldK
        refine Kd.R_append (Kd.raw 9) (w0:=w) w.heap.size rfl (.tmp 94) (.tmp 99) 55 51 (.agg #[.slice none 0 0,.slice none 0 0,.slice none 0 0,.int .i64 0,.int .i64 0,.slice none 0 0,.bool false,.int .i64 0,.bool false]) 136 rfl Try.underlying55 (by kernel_rfl) rfl (by decide) (by omega) (.slice (some ⟨gb,0,none⟩) B.length cb) (B.map (RX.cs (.slice A0 l0.length c0) (.slice A1 l1.length c1))) (RX.cs (.slice A0 l0.length c0) (.slice A1 l1.length c1) x) [.slice A0 l0.length c0,.slice A1 l1.length c1,.slice x.Ap x.r.path.length x.cp,.int .i64 x.r.t.f0,.int .i64 x.r.t.f1,.slice x.At x.r.t.f2.length x.ct,.bool x.r.known,.int .i64 x.r.steps,.bool x.r.lost] (XL wq wA X) (fun _=>False) rfl rfl ⟨rfl,rfl,cs_one x _ _ _ _ _ _⟩ (fun _ hk=>hk.elim) (fun k hk=>.inr (Nat.le_trans HGA.out.size hk)) HRB.out HBF2.out HBF2.out.size (by rw [List.length_map]; have:=HPq.out.len; omega) ?_
        intro v2 wG hrb hbb hgb hatb
        obtain ⟨ad2,cb',e2⟩:=Kd.R_slice1 hrb (by simp)
        have hls:(B.map (RX.cs (.slice A0 l0.length c0) (.slice A1 l1.length c1)) ++ [RX.cs (.slice A0 l0.length c0) (.slice A1 l1.length c1) x]).length=B.length+1:=by simp
        rw [hls] at e2
        subst e2
        obtain ⟨gb',rfl⟩:=Kd.R_head hrb
        have HPN:=Az.mk (PI.fork HPq.out HI.out HXI.out HMF.out HBF.out HRA.out HGA.out HAT.out hrb hgb (by
          rcases hatb with h | ⟨b,h,hb⟩
          · injection h with h; exact .inl h
          · injection h with h; subst h; exact .inr hb) hbb)
        clear hrb hbb hgb hatb hls v0 v1 v2 v3 v4 v5 v6 v7 v8
        go_wp2_with fail
        go_roundg k1
        case measure=>omega
        case rel=>exact ⟨j+1,ga',ca',gb',cb',L ++ [(gf,s)],B ++ [x],_,by rw [List.length_append]; rfl,by rw [List.length_append]; rfl,by go_num,HJ2,⟨by rw [List.length_append]; have:=HLj.out; simp; omega⟩,HPN⟩
      · have q3:(kd == 3)=false:=beq_eq_false_iff_ne.2 h3
        rcases (show ((kd == 0)=false∧(on < 0)=False)∨((kd == 0)=true∧(300 < n)=False∧(on < 0)=False)∨((kd == 0)=true∧(300 < n)=True∧(n≤1048576)=False∧(on < 0)=False) from by
          simp only [eq_iff_iff,iff_true,iff_false,beq_iff_eq,beq_eq_false_iff_ne,ne_eq]
          omega) with ⟨q0,q1⟩ | ⟨q0,q1,q2⟩ | ⟨q0,q1,q2,q4⟩
        all_goals (
          clear hbad h3
          go_upto_region 15 with fail
          rw [hi1]
          obtain ⟨gn,s,x,hi,hx⟩:=HPq.out.at hi2
          have HI:=Az.mk hi
          have HXI:=Az.mk hx
          obtain ⟨n0,_,n1⟩:=HPq.out.pr.at_a hi
          obtain ⟨m0_,mf_,_,m1⟩:=HPq.out.pr.at_b hx
          have v0:wq.cell? ⟨gb,i*9,none⟩=some (.slice A0 l0.length c0):=m0_ 0 _ rfl
          have v1:wq.cell? ⟨gb,i*9+1,none⟩=some (.slice A1 l1.length c1):=m0_ 1 _ rfl
          have v2:wq.cell? ⟨gb,i*9+2,none⟩=some (.slice x.Ap x.r.path.length x.cp):=m0_ 2 _ rfl
          have v3:wq.cell? ⟨gb,i*9+3,none⟩=some (.int .i64 x.r.t.f0):=m0_ 3 _ rfl
          have v4:wq.cell? ⟨gb,i*9+4,none⟩=some (.int .i64 x.r.t.f1):=m0_ 4 _ rfl
          have v5:wq.cell? ⟨gb,i*9+5,none⟩=some (.slice x.At x.r.t.f2.length x.ct):=m0_ 5 _ rfl
          have v6:wq.cell? ⟨gb,i*9+6,none⟩=some (.bool x.r.known):=m0_ 6 _ rfl
          have v7:wq.cell? ⟨gb,i*9+7,none⟩=some (.int .i64 x.r.steps):=m0_ 7 _ rfl
          have v8:wq.cell? ⟨gb,i*9+8,none⟩=some (.bool x.r.lost):=m0_ 8 _ rfl
          have hib:i < B.length:=lt_of_some hx
          have p1:(0≤(i:Int))=True:=eq_true (by omega)
          have p2:((i:Int) < (L.length:Int))=True:=eq_true (by omega)
          have p3:(i < L.length)=True:=eq_true hi2
          have p4:((i:Int) < (B.length:Int))=True:=eq_true (by omega)
          have p5:(i < B.length)=True:=eq_true hib
          clear hi hx m0_ mf_ hi1
          go_upto_region 21 with fail
          try simp only [Act.put,List.setIfInBounds_toArray,List.set_cons_succ,List.set_cons_zero]
          have HG12:=Az.mk (HP.out.new g12 Hg12.out)
          have w0_:=World.new_ne wq _ n0
          have w1_:=World.new_ne wq _ v0
          have w2_:=World.new_ne wq _ o0
          go_cut [15,16] from 101 to 114 (fun v15 v16 wc=>∃ (g15:Nat) (s':MS) (X':Nat→Prop) (x':RX),v15=.pointer (some ⟨g15,0,none⟩)∧v16=.bool true∧Az (wc.heap[g15]?=some (.cells #[.slice A0 l0.length c0,.slice A1 l1.length c1,.slice x'.Ap x'.r.path.length x'.cp,.int .i64 x'.r.t.f0,.int .i64 x'.r.t.f1,.slice x'.At x'.r.t.f2.length x'.ct,.bool x'.r.known,.int .i64 x'.r.steps,.bool x'.r.lost] 51 (0,0)))∧Az (x'.r.lost=true∨2000 < x'.r.steps∨Pal l0 l1 s' x'.r)∧Az (Good l0 l1 s')∧Az (PJ l1 w wc w1.heap.size (.slice A0 l0.length c0) (.slice A1 l1.length c1) (L.set i (gn,s')) B X' ga ca gb cb x'))
          case first =>
            go_region_held3 (fun w'=>w'.cell? ⟨ga,i,none⟩=some (.pointer (some ⟨gn,0,none⟩))∧w'.cell? ⟨gb,i*9,none⟩=some (.slice A0 l0.length c0)∧w'.cell? ⟨gb,i*9+1,none⟩=some (.slice A1 l1.length c1)∧w'.cell? ⟨gb,i*9+2,none⟩=some (.slice x.Ap x.r.path.length x.cp)∧w'.cell? ⟨gb,i*9+3,none⟩=some (.int .i64 x.r.t.f0)∧w'.cell? ⟨gb,i*9+4,none⟩=some (.int .i64 x.r.t.f1)∧w'.cell? ⟨gb,i*9+5,none⟩=some (.slice x.At x.r.t.f2.length x.ct)∧w'.cell? ⟨gb,i*9+6,none⟩=some (.bool x.r.known)∧w'.cell? ⟨gb,i*9+7,none⟩=some (.int .i64 x.r.steps)∧w'.cell? ⟨gb,i*9+8,none⟩=some (.bool x.r.lost)∧w'.cell? ⟨g12,0,none⟩=some (.int .i64 kd)∧w'.cell? ⟨g12,1,none⟩=some (.int .i64 on)∧w'.cell? ⟨g12,2,none⟩=some (.int .i64 n)) (go_keep)
              (first
              | (go_at_call 19
                 (with_reducible refine (both_pj HPq.out (by repeat (first | exact Below.refl _ _ | apply bal | apply pwN | apply bd1)) HSch.out HS.out HI.out HXI.out kd on n HN.out).mono ?_)
                 rintro e9 wA ⟨s',X',x',rfl,hd,hg,hj,hsz,hsame,hset⟩
                 have HD:=Az.mk hd
                 have HGA:=Az.mk hg
                 have HJ:=Az.mk hj
                 have HSZ:=Az.mk hsz
                 obtain ⟨n0A,_,_⟩:=hj.pr.at_a (i:=i) (gm:=gn) (s:=s') (by rw [List.getElem?_set,if_pos rfl,if_pos hi2])
                 obtain ⟨m0_,_,_,_⟩:=hj.pr.at_b HXI.out
                 have va0:wA.cell? ⟨gb,i*9,none⟩=some (.slice A0 l0.length c0):=m0_ 0 _ rfl
                 have va1:wA.cell? ⟨gb,i*9+1,none⟩=some (.slice A1 l1.length c1):=m0_ 1 _ rfl
                 have va2:wA.cell? ⟨gb,i*9+2,none⟩=some (.slice x.Ap x.r.path.length x.cp):=m0_ 2 _ rfl
                 have va3:wA.cell? ⟨gb,i*9+3,none⟩=some (.int .i64 x.r.t.f0):=m0_ 3 _ rfl
                 have va4:wA.cell? ⟨gb,i*9+4,none⟩=some (.int .i64 x.r.t.f1):=m0_ 4 _ rfl
                 have va5:wA.cell? ⟨gb,i*9+5,none⟩=some (.slice x.At x.r.t.f2.length x.ct):=m0_ 5 _ rfl
                 have va6:wA.cell? ⟨gb,i*9+6,none⟩=some (.bool x.r.known):=m0_ 6 _ rfl
                 have va7:wA.cell? ⟨gb,i*9+7,none⟩=some (.int .i64 x.r.steps):=m0_ 7 _ rfl
                 have va8:wA.cell? ⟨gb,i*9+8,none⟩=some (.bool x.r.lost):=m0_ 8 _ rfl
                 have SqA:=Az.mk ((hsame g12 HG12.out (blk_lt (bkB Sq.out (by repeat (first | exact Below.refl _ _ | apply bal | apply pwN | apply bd1))))).trans (bkB Sq.out (by repeat (first | exact Below.refl _ _ | apply bal | apply pwN | apply bd1))))
                 first
                 | (refine cutp (P:=wA.heap[wq.heap.size]?=some (.cells #[.slice none 0 0,.slice none 0 0,.slice none 0 0,.int .i64 0,.int .i64 0,.slice none 0 0,.bool false,.int .i64 0,.bool false] 51 (0,0))) ?hP (fun hG=>?_)
                    (case hP =>
                      refine Eq.trans (hsame wq.heap.size (HPq.out.new _ (Nat.le_refl _)) ?hl) ?he
                      (case he=>(repeat (with_reducible first | exact blk_new wq (.cells #[.slice none 0 0,.slice none 0 0,.slice none 0 0,.int .i64 0,.int .i64 0,.slice none 0 0,.bool false,.int .i64 0,.bool false] 51) | apply blk_drew)))
                      (case hl =>
                        refine blk_lt (o:=.cells #[.slice none 0 0,.slice none 0 0,.slice none 0 0,.int .i64 0,.int .i64 0,.slice none 0 0,.bool false,.int .i64 0,.bool false] 51 (0,0)) ?hm
                        (case hm=>(repeat (with_reducible first | exact blk_new wq (.cells #[.slice none 0 0,.slice none 0 0,.slice none 0 0,.int .i64 0,.int .i64 0,.slice none 0 0,.bool false,.int .i64 0,.bool false] 51) | apply blk_drew)))))
                    have HG0:=Az.mk hG
                    have HSET:=Az.mk (hset wq.heap.size (Nat.le_refl _) (blk_lt (blk_drew (blk_new wq (.cells #[.slice none 0 0,.slice none 0 0,.slice none 0 0,.int .i64 0,.int .i64 0,.slice none 0 0,.bool false,.int .i64 0,.bool false] 51)))))
                    have k0:=(blk_cell hG 0).trans rfl
                    have kf0:=bkF hG 0
                    have k1:=(blk_cell hG 1).trans rfl
                    have kf1:=bkF hG 1
                    have k2:=(blk_cell hG 2).trans rfl
                    have kf2:=bkF hG 2
                    have k3:=(blk_cell hG 3).trans rfl
                    have kf3:=bkF hG 3
                    have k4:=(blk_cell hG 4).trans rfl
                    have kf4:=bkF hG 4
                    have k5:=(blk_cell hG 5).trans rfl
                    have kf5:=bkF hG 5
                    have k6:=(blk_cell hG 6).trans rfl
                    have kf6:=bkF hG 6
                    have k7:=(blk_cell hG 7).trans rfl
                    have kf7:=bkF hG 7
                    have k8:=(blk_cell hG 8).trans rfl
                    have kf8:=bkF hG 8
                    clear hG)
                 | skip
                 have oa0:wA.cell? ⟨g12,0,none⟩=some (.int .i64 kd):=(blk_cell SqA.out 0).trans rfl
                 have oa1:wA.cell? ⟨g12,1,none⟩=some (.int .i64 on):=(blk_cell SqA.out 1).trans rfl
                 have oa2:wA.cell? ⟨g12,2,none⟩=some (.int .i64 n):=(blk_cell SqA.out 2).trans rfl
                 clear hd hg hj hsz hsame hset m0_ n0 v0 v1 v2 v3 v4 v5 v6 v7 v8 o0 o1 o2))
            all_goals (
              go_wp2_with fail
              go_meet
              first
              | exact ⟨_,s',X',x',rfl,rfl,⟨put9 HG0.out _ _ _ _ _ _ _ _ _⟩,HD,HGA,⟨HSET.out _ _ _ _ _ _ _ _ _⟩⟩
              | exact ⟨_,s',X',x',rfl,rfl,⟨blk_new _ _⟩,HD,HGA,⟨HJ.out.below (bal (Below.refl _ _) _)⟩⟩)
          case rest =>
            obtain ⟨g15,s',X',x',rfl,rfl,S15,HD,HGS,HJ⟩:=hcut
            clear n0 v0 v1 v2 v3 v4 v5 v6 v7 v8 o0 o1 o2 w0_ w1_ w2_
            have z0:wc.cell? ⟨g15,0,none⟩=some (.slice A0 l0.length c0):=(blk_cell S15.out 0).trans rfl
            have z1:wc.cell? ⟨g15,1,none⟩=some (.slice A1 l1.length c1):=(blk_cell S15.out 1).trans rfl
            have z2:wc.cell? ⟨g15,2,none⟩=some (.slice x'.Ap x'.r.path.length x'.cp):=(blk_cell S15.out 2).trans rfl
            have z3:wc.cell? ⟨g15,3,none⟩=some (.int .i64 x'.r.t.f0):=(blk_cell S15.out 3).trans rfl
            have z4:wc.cell? ⟨g15,4,none⟩=some (.int .i64 x'.r.t.f1):=(blk_cell S15.out 4).trans rfl
            have z5:wc.cell? ⟨g15,5,none⟩=some (.slice x'.At x'.r.t.f2.length x'.ct):=(blk_cell S15.out 5).trans rfl
            have z6:wc.cell? ⟨g15,6,none⟩=some (.bool x'.r.known):=(blk_cell S15.out 6).trans rfl
            have z7:wc.cell? ⟨g15,7,none⟩=some (.int .i64 x'.r.steps):=(blk_cell S15.out 7).trans rfl
            have z8:wc.cell? ⟨g15,8,none⟩=some (.bool x'.r.lost):=(blk_cell S15.out 8).trans rfl
            have hd:=HD.out
            clear HD
            by_cases hl:x'.r.lost=true
            · rw [hl] at z8
              go_wp2_with fail
              (with_reducible refine (alive_calls _).mono ?_)
              rintro e9 wZ ⟨rfl,hbZ⟩
              have HZ:=Az.mk (bst HJ.out.bel hbZ)
              clear hbZ
              go_wp2_with fail
              go_ret
              exact ⟨rfl,HZ.out⟩
            have hl0:x'.r.lost=false:=by simpa using hl
            rw [hl0] at z8
            by_cases hst:2000 < x'.r.steps
            · have q9:(2000 < x'.r.steps)=True:=eq_true hst
              go_wp2_with fail
              (with_reducible refine (alive_calls _).mono ?_)
              rintro e9 wZ ⟨rfl,hbZ⟩
              have HZ:=Az.mk (bst HJ.out.bel hbZ)
              clear hbZ
              go_wp2_with fail
              go_ret
              exact ⟨rfl,HZ.out⟩
            have q9:(2000 < x'.r.steps)=False:=eq_false hst
            have HPL:=Az.mk (show Pal l0 l1 s' x'.r from by
              rcases hd with h | h | h
              · exact absurd h hl
              · exact absurd h hst
              · exact h)
            clear hd hl hst
            obtain ⟨mB_,_,_,_⟩:=HJ.out.pr.at_b HXI.out
            have HMB:=Az.mk mB_
            clear mB_
            go_wp2_with ((with_reducible refine gate_ (.store 51 (.tmp 127) (.tmp 126)) rfl ?_); refine holdK ?_)
            unfold HoldK
            have hcs:RX.cs (.slice A0 l0.length c0) (.slice A1 l1.length c1) x'=[.slice A0 l0.length c0,.slice A1 l1.length c1,.slice x'.Ap x'.r.path.length x'.cp,.int .i64 x'.r.t.f0,.int .i64 x'.r.t.f1,.slice x'.At x'.r.t.f2.length x'.ct,.bool x'.r.known,.int .i64 x'.r.steps,.bool false]:=by unfold RX.cs; rw [hl0]
            have hone:=cs_one x' A0 l0.length c0 A1 l1.length c1
            rw [hcs] at hone
            refine Kd.R_store (Kd.raw 9) (w0:=w) w.heap.size rfl rfl 51 (.tmp 127) (.tmp 126) rfl 51 (g:=gb) (n:=B.length) (cap:=cb) (o':=i*9) (i:Int) 0 (B.map (RX.cs (.slice A0 l0.length c0) (.slice A1 l1.length c1))) (RX.cs (.slice A0 l0.length c0) (.slice A1 l1.length c1) x') (.agg #[.slice A0 l0.length c0,.slice A1 l1.length c1,.slice x'.Ap x'.r.path.length x'.cp,.int .i64 x'.r.t.f0,.int .i64 x'.r.t.f1,.slice x'.At x'.r.t.f2.length x'.ct,.bool x'.r.known,.int .i64 x'.r.steps,.bool false]) [.slice A0 l0.length c0,.slice A1 l1.length c1,.slice x'.Ap x'.r.path.length x'.cp,.int .i64 x'.r.t.f0,.int .i64 x'.r.t.f1,.slice x'.At x'.r.t.f2.length x'.ct,.bool x'.r.known,.int .i64 x'.r.steps,.bool false] (RX.cs (.slice A0 l0.length c0) (.slice A1 l1.length c1) x) X' (fun _=>False) rfl (by rw [Int.toNat_natCast]; rfl) ?sx rfl (by kernel_rfl) ?s1 HJ.out.pr.b (by omega) (by omega) rfl ?sc (Nat.le_refl 9) ?sM (fun _ hk=>hk.elim) HJ.out.bel ?_
            (case sx=>rfl)
            (case s1=>exact hone)
            (case sc=>rw [Int.toNat_natCast]; exact HMB.out)
            (case sM=>exact ⟨hcs.symm,rfl,hone⟩)
            intro wS hrS hbS hgS
            rw [Int.toNat_natCast] at hrS
            have HPN:=Az.mk (PI.store HPq.out HI.out HXI.out HPL.out HGS.out HJ.out.m HJ.out.pr HJ.out.v HJ.out.new HJ.out.bel hrS hgS hbS)
            clear hrS hbS hgS z0 z1 z2 z3 z4 z5 z6 z7 z8 hl0 hcs hone
            go_wp2_with fail
            go_roundg k1
            case measure=>omega
            case rel=>exact ⟨j+1,ga,ca,gb,cb,L.set i (gn,s'),B.set i x',X',by rw [List.length_set],by rw [List.length_set],by go_num,HJ2,⟨by rw [List.length_set]; have:=HLj.out; omega⟩,HPN⟩)
end Go.Proofs.Ytkgknidogelffaa.I
namespace Go.Proofs.Ytkgknidogelffaa.I
open Go.RowKit Go.Proofs.YtkgknidogelffaaW.PrintWords Go.Proofs.Ytkgknidogelffaa.VOpen
set_option linter.unusedVariables false
def virgationlaw08_ClosurePlays.f (k:Nat) (l0:List S84) (l1:List S41) (l2:List S57):Option Bool:=some true
theorem virgationlaw08_ClosurePlays.calls (k:Nat) (A0:Option Addr) (c0:Nat) (l0:List S84) (A1:Option Addr) (c1:Nat) (l1:List S41) (A2:Option Addr) (c2:Nat) (l2:List S57) (r:Bool) (w:World) (hr0:Kd.C k84 w A0 l0.length l0) (hc0:l0.length≤c0) (hr1:Kd.C k41 w A1 l1.length l1) (hc1:l1.length≤c1) (hr2:Kd.C k57 w A2 l2.length l2) (hc2:l2.length≤c2) (h:virgationlaw08_ClosurePlays.f k l0 l1 l2=some r) :
    Calls Try.prog 4 #[.agg #[.slice A0 l0.length c0,.slice A1 l1.length c1],.slice A2 l2.length c2] w fun e w'=>e=.returned (.bool r)∧Below w.heap.size w w':=by
  injection h with h
  subst h
  exact plays_calls A0 c0 l0 A1 c1 l1 A2 c2 l2 w hr0 hc0 hr1 hc1 hr2 hc2
theorem pure_ClosurePlays:∀ (x0:S25) (x1:(List S57)),(wf25 x0)→(x1.length≤9223372036854775807∧(∀ y_,y_ ∈ x1→wf57 y_))→∃ k,virgationlaw08_ClosurePlays.f k x0.f0 x0.f1 x1=some true:=by
  intros
  exact ⟨0,rfl⟩
end Go.Proofs.Ytkgknidogelffaa.I
