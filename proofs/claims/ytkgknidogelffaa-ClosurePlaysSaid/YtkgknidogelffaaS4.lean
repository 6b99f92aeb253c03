/- Texts of this session's proof, laid together: IMd, IMe, IMf, IMg, IMh, IMi, IMj, IMk, IMn. -/
import Derived.Deep.RegionLaw
import Derived.Deep.CutBlock
import Derived.Test.YtkgknidogelffaaS3
namespace Go.Proofs.Ytkgknidogelffaa.I
open Go.RowKit Go.Proofs.YtkgknidogelffaaW.PrintWords Go.Proofs.YtkgknidogelffaaW.PrintLast Go.Proofs.YtkgknidogelffaaW.PrintMore
attribute [local go_sem] max2_int min2_int max_two min_two max_three min_three max_four min_four
set_option linter.unusedVariables false
set_option maxRecDepth 100000
set_option linter.unusedSimpArgs false
theorem Gr.keep {w w':World} {lo:Nat} {ok ok':Nat→Prop} {l1:List S41} {s:MS} {p p':MP} (g:Gr w w' lo ok ok' p p') (h:MM w lo ok l1 s p):∀ k,ok k→k < w.heap.size→w'.heap[k]?=w.heap[k]?:=fun k hk hl=>g.blk k hl (fun ho=>h.apt k ho hk)
theorem newC_ge:∀ l:List S36,0≤newC l∧newC l≤(l.length:Int)
  | []=>by rw [newC]; exact ⟨Int.le_refl _,Int.le_refl _⟩
  | a :: l=>by
    have:=newC_ge l
    rw [newC,List.length_cons]
    split <;> omega
theorem getL {l:List S36} {i:Nat} (h:i < l.length):l.drop i=l[i] :: l.drop (i+1):=List.drop_eq_getElem_cons h
theorem Gr.drew {w w':World} {lo:Nat} {ok ok':Nat→Prop} {p p':MP} (g:Gr w w' lo ok ok' p p'):Gr w w'.drew lo ok ok' p p' :=
  ⟨g.up,g.new,g.lt,g.own,g.gm,g.gS,g.blk,below_drew g.bel⟩
theorem TmAt_ok {w:World} {ok:Nat→Prop} {t:S36} {ad:Addr} (h:TmAt w ok t ad):ok ad.block:=by
  obtain ⟨ad9,cs9,e9,_,_,_,ho9⟩:=Kd.F_get (show Kd.F k36 w ok (some ad) 1 [t] from h) z36 0 (by omega) (by omega)
  injection e9 with e9
  subst e9
  exact ho9 (by decide)
set_option maxHeartbeats 4000000 in
theorem push_calls {w:World} {lo:Nat} {ok:Nat→Prop} {l1:List S41} {s:MS} {p:MP} (h:MM w lo ok l1 s p) (hok:∀ k,ok k→k < w.heap.size) (hws:okT (s.c.vs.length:Int) s.c.t=true) (hlen:s.c.t.f2.length+s.st.length≤1000000) (hu0:0≤s.used) (hu:s.used≤4000000000) :
    Calls Try.prog 34 #[.pointer (some ⟨p.gm,0,none⟩)] w fun e w'=>e=.returned (.tuple #[])∧∃ ok' p',Gr w w' lo ok ok' p p'∧p'.vn=p.vn∧MM w' lo ok' l1 { s with st:=pushC s.c s.st,used:=s.used+newC s.c.t.f2 } p':=by
  have hu93:=Try.underlying93
  have hu91:=Try.underlying91
  have hu89:=Try.underlying89
  have hu36:=Try.underlying36
  have hu34:=Try.underlying34
  have hu87:=Try.underlying87
  obtain ⟨c,st,used,path,known,full⟩:=s
  obtain ⟨t,vs⟩:=c
  obtain ⟨t0,t1,l⟩:=t
  have hl1:l.length+st.length≤1000000:=hlen
  have hws:okT (vs.length:Int) ⟨t0,t1,l⟩=true:=hws
  have hu0:0≤used:=hu0
  have hu:used≤4000000000:=hu
  clear hlen
  have hnow:=h.now
  have hnow:CM w ok (.mk ⟨t0,t1,l⟩ vs) p.vn:=hnow
  unfold CM at hnow
  obtain ⟨g,ad,a,us,hvn,hog,hcg,hta,hrow,hcl⟩:=hnow
  obtain ⟨A,ca,t0c,t1c,t2c,hle,hF⟩:=TmAt_cells hta
  dsimp only at t0c t1c t2c hle hF
  have hrow':=hrow
  obtain ⟨Av,cv,eav,_⟩:=hrow'
  rw [List.length_map] at eav
  subst eav
  have d1:w.cell? ⟨p.gm,1,none⟩=some (.pointer (some ⟨g,0,none⟩)):=by rw [← hvn]; exact (blk_cell h.cel 1).trans rfl
  have d2:w.cell? ⟨g,0,none⟩=some (.pointer (some ad)):=(blk_cell hcg 0).trans rfl
  have hll:(l.length:Int)≤1000000:=by omega
  have H:=Az.mk h
  have HOK:=Az.mk hok
  have HCG:=Az.mk hcg
  have HOG:=Az.mk hog
  have HTA:=Az.mk hta
  have HRW:=Az.mk hrow
  have HCL:=Az.mk hcl
  have HWS:=Az.mk hws
  have HF:=Az.mk hF
  have HVN:=Az.mk hvn
  have HL1:=Az.mk hl1
  have HU:=Az.mk (And.intro hu0 hu)
  clear h hok hcg hog hta hrow hcl hws hF hvn hl1 hu0 hu t0c t1c
  go_enter Try.func34,Try.ntmps34
  go_wp2_with fail
  go_loopg [3] l.length (fun kq v3 wr=>∃ (i:Int) (okj:Nat→Prop) (pj:MP),v3=.int .i64 i∧Az (i=(kq:Int) - 1∧kq≤l.length)∧Az (MM wr lo okj l1 ⟨.mk ⟨t0,t1,l⟩ vs,(l.drop kq).map (bindC vs) ++ st,used+newC (l.drop kq),path,known,full⟩ pj)∧Az (Gr w wr lo ok okj p pj)∧Az (pj.vn=p.vn))
  case atStart=>exact ⟨(l.length:Int) - 1,ok,p,rfl,⟨rfl,Nat.le_refl _⟩,⟨by rw [List.drop_length]; show MM w lo ok l1 ⟨_,[] ++ st,used+newC [],path,known,full⟩ p; rw [newC,Int.add_zero]; exact H.out⟩,⟨Gr.refl HOK.out⟩,⟨rfl⟩⟩
  case round =>
    obtain ⟨i,okj,pj,rfl,Hi,HM,HG,HV⟩:=hrel
    obtain ⟨gm',gS',vn',As,cs,sv,Ap,cp⟩:=pj
    have e1:gm'=p.gm:=HG.out.gm
    have e2:vn'=.pointer (some ⟨g,0,none⟩):=(HV.out).trans HVN.out
    subst e1 e2
    cases gk with
    | zero =>
      have hi:i = -1:=Hi.out.1
      subst hi
      clear d1 d2 t2c
      go_wp2_with fail
      go_end0
      exact ⟨rfl,okj,_,HG.out,HV.out,HM.out⟩
    | succ m =>
    have hi:i=(m:Int):=by have:=Hi.out.1; omega
    subst hi
    have hm:m < l.length:=Hi.out.2
    have HMl:=Az.mk hm
    obtain ⟨ae,_,hae,_⟩:=Kd.F_get HF.out z36 (m:Int) (by omega) (by omega)
    subst hae
    have hkeep:=HG.out.keep H.out
    have hTr:=TmAt_imp (args_at HF.out hm) hkeep (fun _ h=>h)
    have HT0:=Az.mk (args_at HF.out hm)
    have HD:=Az.mk (getL hm)
    have HOX:=Az.mk (okL_mem l (okT_at HWS.out).2 l[m] (List.getElem_mem hm))
    generalize l[m]=x at *
    obtain ⟨x0,x1,xl⟩:=x
    obtain ⟨A2,c2,b0,b1,b2,hle2,_⟩:=TmAt_cells hTr
    dsimp only at b0 b1 b2 hle2
    have hcgr:=(hkeep g HOG.out (blk_lt HCG.out)).trans HCG.out
    have n0:wr.cell? ⟨g,0,none⟩=some (.pointer (some ad)):=(blk_cell hcgr 0).trans rfl
    have n1:wr.cell? ⟨g,1,none⟩=some (.slice Av us.length cv):=(blk_cell hcgr 1).trans rfl
    have hTa:=TmAt_imp HTA.out hkeep (fun _ h=>h)
    have m1:wr.cell? ⟨p.gm,1,none⟩=some (.pointer (some ⟨g,0,none⟩)):=(blk_cell HM.out.cel 1).trans rfl
    have t2:wr.cell? ⟨ad.block,ad.off+2,none⟩=some (.slice (some ae) l.length ca):=by
      have hlt:=World.block_lt_of_cell? w _ t2c
      have hb:ok ad.block:=TmAt_ok HTA.out
      have:=hkeep ad.block hb hlt
      simpa [World.cell?,this] using t2c
    have m2:wr.cell? ⟨p.gm,2,none⟩=some (.slice As ((l.drop (m+1)).map (bindC vs) ++ st).length cs):=(blk_cell HM.out.cel 2).trans rfl
    have m3:wr.cell? ⟨p.gm,3,none⟩=some (.int .i64 (used+newC (l.drop (m+1)))):=(blk_cell HM.out.cel 3).trans rfl
    have f2:wr.frozen? ⟨p.gm,2,none⟩=false:=bkF HM.out.cel 2
    have f3:wr.frozen? ⟨p.gm,3,none⟩=false:=bkF HM.out.cel 3
    clear d1 d2 t2c hTr hTa
    have HS:=Az.mk (show ((l.drop (m+1)).map (bindC vs) ++ st).length≤1000000 from by have:=HL1.out; rw [List.length_append,List.length_map,List.length_drop]; omega)
    have hnc:=newC_ge (l.drop (m+1))
    rw [List.length_drop] at hnc
    have HUS:=Az.mk (show 0≤used+newC (l.drop (m+1))∧used+newC (l.drop (m+1))≤4001000000 from by have:=HU.out; have:=HL1.out; omega)
    have HNC:=Az.mk (show newC (l.drop m)=(if x0=0∧xl.length=0 then 0 else 1)+newC (l.drop (m+1)) from by rw [HD.out,newC])
    have HMP:=Az.mk (show (l.drop m).map (bindC vs) ++ st=bindC vs ⟨x0,x1,xl⟩ :: ((l.drop (m+1)).map (bindC vs) ++ st) from by rw [HD.out,List.map_cons]; rfl)
    generalize hSS:(l.drop (m+1)).map (bindC vs) ++ st=S at *
    generalize hUU:used+newC (l.drop (m+1))=U at *
    have HUU:=Az.mk hUU
    clear hSS hUU hnc HD hws hnow
    have hmb:(m:Int)≤1000000:=by omega
    have p1:(0≤(m:Int))=True:=eq_true (by omega)
    have p2:((m:Int) < (l.length:Int))=True:=eq_true (by omega)
    have p3:(m < l.length)=True:=eq_true (by omega)
    clear hm
    go_upto_block 1 with fail
    try simp only [Act.put,List.setIfInBounds_toArray,List.set_cons_succ,List.set_cons_zero]
    go_cut [3,4] from 19 to 97 (fun v3 v4 wc=>∃ (okn:Nat→Prop) (pn:MP),v3=.int .i64 (m:Int)∧Az (MM wc lo okn l1 ⟨.mk ⟨t0,t1,l⟩ vs,(l.drop m).map (bindC vs) ++ st,used+newC (l.drop m),path,known,full⟩ pn)∧Az (Gr w wc lo ok okn p pn)∧Az (pn.vn=p.vn))
    case first =>
      by_cases hb:x0=0∧xl.length=0
      · obtain ⟨h0,h1⟩:=hb
        have h1:xl=[]:=List.eq_nil_of_length_eq_zero h1
        subst h0 h1
        have hv:=ok_var HOX.out rfl
        have hv:0≤x1∧x1 < (vs.length:Int):=hv
        have hul:=CML_len _ _ HCL.out
        obtain ⟨_,_,_,hr4⟩:=row_get HRW.out
        obtain ⟨av,hav,hy⟩:=hr4 x1.toNat (by omega)
        subst hav
        have hcm:=CML_at _ _ HCL.out x1.toNat (by omega) (by omega)
        generalize us[x1.toNat]'(by omega)=v at *
        obtain ⟨gv,rfl⟩:=CM_ptr hcm
        have hrd:vs[x1.toNat]'(by omega)=rdC vs x1:=by unfold rdC; rw [List.getD_eq_getElem?_getD,List.getElem?_eq_getElem (by omega)]; rfl
        rw [hrd] at hcm
        have hyb:ok av.block:=by
          obtain ⟨a9,c9,e9,_,_,_,ho9⟩:=Kd.F_get (Kd.V_F HRW.out) [] 0 (by omega) (by omega)
          injection e9 with e9
          subst e9
          exact ho9 (by decide)
        have y1:wr.cell? (av.add x1.toNat)=some (.pointer (some ⟨gv,0,none⟩)):=by
          have hlt:=World.block_lt_of_cell? w _ hy
          rw [add_block] at hlt
          have:=hkeep av.block hyb hlt
          have hbk:(av.add x1.toNat).block=av.block:=add_block _ _
          simpa [World.cell?,this,hbk] using hy
        have HCM:=Az.mk (CM_imp hkeep (fun k hk _=>HG.out.up k hk) _ _ hcm)
        have r1:(0≤x1)=True:=eq_true hv.1
        have r2:(x1 < (us.length:Int))=True:=eq_true (by omega)
        have HV1:=Az.mk hv
        clear hcm hy hr4 hul hv hyb hrd
        have HR:=Az.mk (own_Rr HM.out.row HM.out.len (CML_ptr _ _ HM.out.stk))
        have HLN:=Az.mk (show S.length=sv.length from HM.out.len)
        have HLO:=Az.mk (show lo≤wr.heap.size from by have:=HM.out.low; have:=blk_lt HM.out.cel; omega)
        have g2:∀ o:Obj,(wr.alloc o).cell? ⟨p.gm,2,none⟩=some (.slice As S.length cs):=fun o=>(blk_cell (bkA HM.out.cel o) 2).trans rfl
        have g2d:∀ o:Obj,(wr.drew.alloc o).cell? ⟨p.gm,2,none⟩=some (.slice As S.length cs):=g2
        go_upto_region 6 with fail
        go_region_law ((
          have q1:=Kd.R_drew HR.out
          have q2:(sv.map (fun v=>[v])).length*8+8≤140737488355328:=by rw [List.length_map]; have:=HS.out; have:=HLN.out; omega
          refine Kd.R_append_step (Kd.raw 1) (w0:=wr.drew) (W:=wr.drew) lo rfl (.tmp 47) (.tmp 62) 87 85 (.pointer none) 8 rfl Try.underlying87 ?a1 rfl ?a2 ?a3 (.slice As S.length cs) (sv.map (fun v=>[v])) [.pointer (some ⟨gv,0,none⟩)] [.pointer (some ⟨gv,0,none⟩)] (fun _=>True) (fun _=>False) ?a4 ?a5 ?a6 (fun _ hk=>hk.elim) (fun _ _=>trivial) q1 (Below.refl lo _) HLO.out ?a7 ?_
          (case a1=>kernel_rfl)
          (case a2=>decide)
          (case a3=>omega)
          (case a4=>rfl)
          (case a5=>rfl)
          (case a6=>exact ⟨rfl,rfl,fun u hu=>by rw [List.mem_singleton.1 hu]; rfl⟩)
          (case a7=>omega)
          intro v2 w7 hrf hb7 hg7 hat
          have hsn:(sv.map (fun v=>[v])) ++ [[Value.pointer (some ⟨gv,0,none⟩)]]=(sv ++ [Value.pointer (some ⟨gv,0,none⟩)]).map (fun v=>[v]):=by rw [List.map_append]; rfl
          rw [hsn] at hrf
          obtain ⟨A5,c5,e5⟩:=Kd.R_slice hrf
          rw [List.length_map,List.length_append,← HLN.out] at e5
          replace e5:v2=.slice A5 (S.length+1) c5:=e5
          subst e5
          have HP:=Az.mk ((HM.out.below (below_drew (Below.refl _ _))).put HG.out.lt (CM_below (below_drew (Below.refl _ _)) HCM.out) hrf hb7 hg7 hat)
          have hne:=own_ne HM.out.row HM.out.cel (by decide)
          have hc7:=blk_grown (w:=wr.drew) HM.out.cel hg7 hne
          have m7:w7.cell? ⟨p.gm,2,none⟩=some (.slice As S.length cs):=(blk_cell hc7 2).trans rfl
          have f7:w7.frozen? ⟨p.gm,2,none⟩=false:=bkF hc7 2
          clear hrf hb7 hg7 hat hsn hc7 hne q1 q2))
        all_goals (
          clear m7 f7 m2 m1 m3 n0 n1 b0 b1 b2 y1 t2 f2 f3
          have HM8:=Az.mk (show MM (w7.setCell ⟨p.gm,2,none⟩ (.slice A5 (S.length+1) c5)) lo okj l1 ⟨.mk ⟨t0,t1,l⟩ vs,(l.drop m).map (bindC vs) ++ st,used+newC (l.drop m),path,known,full⟩ _ from by
            rw [HMP.out,HNC.out,if_pos ⟨rfl,rfl⟩,Int.zero_add,HUU.out]
            have e:bindC vs ⟨0,x1,[]⟩=rdC vs x1:=by unfold bindC; rw [if_pos ⟨rfl,rfl⟩]
            rw [e]
            exact HP.out.1)
          have HG8:=Az.mk (HG.out.drew.trans HP.out.2)
          clear HP HM HG
          generalize w7.setCell ⟨p.gm,2,none⟩ (.slice A5 (S.length+1) c5)=w8 at *
          go_wp2_with fail
          go_meet
          exact ⟨_,_,rfl,HM8,HG8,HV⟩)
      · have hq:(x0 == 0)=false∨x0=0∧((xl.length:Int) == 0)=false:=by
          by_cases h0:x0=0
          · exact .inr ⟨h0,beq_eq_false_iff_ne.2 (fun h=>hb ⟨h0,by omega⟩)⟩
          · exact .inl (beq_eq_false_iff_ne.2 h0)
        have HNB:=Az.mk hb
        have HMPN:=Az.mk (show (l.drop m).map (bindC vs) ++ st=.mk ⟨x0,x1,xl⟩ vs :: S from by rw [HMP.out]; unfold bindC; rw [if_neg hb])
        clear hb
        have hu2:=HUS.out
        have HMU:=Az.mk (HM.out.sets 3 (.int .i64 (U+1)) (s':=⟨.mk ⟨t0,t1,l⟩ vs,S,U+1,path,known,full⟩) (p':=⟨p.gm,gS',.pointer (some ⟨g,0,none⟩),As,cs,sv,Ap,cp⟩) rfl rfl rfl HM.out.now HM.out.stk HM.out.row HM.out.pth (fun _ h=>h))
        have HG1:=Az.mk (HG.out.trans (HMU.out.2 HG.out.lt))
        have HK1:=Az.mk (HG1.out.keep H.out)
        have HT1:=Az.mk (TmAt_imp HT0.out HK1.out (fun _ h=>h))
        have HC1:=Az.mk (CML_imp HK1.out (fun _ h _=>h) _ _ HCL.out)
        have HR1:=Az.mk (show Row _ ok (.slice Av us.length cv) us from Kd.V_step HRW.out HK1.out)
        have HS1:=Az.mk ((HK1.out g HOG.out (blk_lt HCG.out)).trans HCG.out)
        have HM1:=Az.mk HMU.out.1
        clear HMU hkeep hcgr HM HG
        rcases hq with hq | ⟨h0,hq⟩
        rotate_left
        (subst h0)
        all_goals (
          go_upto_region 8 with fail
          clear b0 b1 b2 m1 m2 m3 n0 n1 t2 f2 f3
          generalize wr.setCell ⟨p.gm,3,none⟩ (.int .i64 (U+1))=wu at *
          have m1:wu.cell? ⟨p.gm,1,none⟩=some (.pointer (some ⟨g,0,none⟩)):=(blk_cell HM1.out.cel 1).trans rfl
          have m2:wu.cell? ⟨p.gm,2,none⟩=some (.slice As S.length cs):=(blk_cell HM1.out.cel 2).trans rfl
          have n1:wu.cell? ⟨g,1,none⟩=some (.slice Av us.length cv):=(blk_cell HS1.out 1).trans rfl
          have f2:wu.frozen? ⟨p.gm,2,none⟩=false:=bkF HM1.out.cel 2
          have g2:∀ o:Obj,(wu.alloc o).cell? ⟨p.gm,2,none⟩=some (.slice As S.length cs):=fun o=>(blk_cell (bkA HM1.out.cel o) 2).trans rfl
          have g22:∀ o o':Obj,((wu.alloc o).alloc o').cell? ⟨p.gm,2,none⟩=some (.slice As S.length cs):=fun o o'=>(blk_cell (bkA (bkA HM1.out.cel o) o') 2).trans rfl
          have HLN:=Az.mk (show S.length=sv.length from HM1.out.len)
          have HLO:=Az.mk (show lo≤wu.heap.size from by have:=HM1.out.low; have:=blk_lt HM1.out.cel; omega)
          have HBA:=Az.mk (below_drew (bal (Below.refl wu.heap.size wu) (.cells #[.pointer (some (ae.add (m*3))),.slice Av us.length cv] 89)))
          have HM2:=Az.mk (HM1.out.more (ok':=fun k=>okj k∨k=wu.heap.size) HBA.out (fun _ h=>.inl h) (fun k h=>h.imp id (fun e=>by omega)))
          have HG2:=Az.mk (HG1.out.trans (Gr.of_below (ok':=fun k=>okj k∨k=wu.heap.size) HLO.out HBA.out (fun _ h=>.inl h) (fun k h=>h.imp id (fun e=>by omega)) (fun k h=>by
            have h2:(wu.alloc (.cells #[.pointer (some (ae.add (m*3))),.slice Av us.length cv] 89)).drew.heap.size=wu.heap.size+1:=by rw [World.size_drew,World.size_alloc]
            rcases h with h | h
            · have:=HG1.out.lt k h
              omega
            · omega)))
          have HCN:=Az.mk (show CM (wu.alloc (.cells #[.pointer (some (ae.add (m*3))),.slice Av us.length cv] 89)).drew (fun k=>okj k∨k=wu.heap.size) (.mk ⟨_,x1,xl⟩ vs) (.pointer (some ⟨wu.heap.size,0,none⟩)) from by
            unfold CM
            have hup:∀ k,ok k→okj k∨k=wu.heap.size:=fun k hk=>.inl (HG1.out.up k hk)
            have hst:∀ k,ok k→k < wu.heap.size→(wu.alloc (.cells #[.pointer (some (ae.add (m*3))),.slice Av us.length cv] 89)).drew.heap[k]?=wu.heap[k]?:=fun k _ hk=>HBA.out.block k hk
            exact ⟨wu.heap.size,ae.add (m*3),.slice Av us.length cv,us,rfl,.inr rfl,blk_new wu _,TmAt_imp HT1.out hst hup,Kd.V_mono (Kd.V_step HR1.out hst) hup,CML_imp hst (fun k hk _=>hup k hk) _ _ HC1.out⟩)
          have HR:=Az.mk (own_Rr HM2.out.row HM2.out.len (CML_ptr _ _ HM2.out.stk))
          clear HM1 HG1 HK1 HT1 HC1 HR1 HS1
          go_region_law ((
            have q1:=HR.out
            have q2:(sv.map (fun v=>[v])).length*8+8≤140737488355328:=by rw [List.length_map]; have:=HS.out; have:=HLN.out; omega
            refine Kd.R_append_step (Kd.raw 1) (w0:=(wu.alloc (.cells #[.pointer (some (ae.add (m*3))),.slice Av us.length cv] 89)).drew) (W:=(wu.alloc (.cells #[.pointer (some (ae.add (m*3))),.slice Av us.length cv] 89)).drew) lo rfl (.tmp 81) (.tmp 93) 87 85 (.pointer none) 8 rfl Try.underlying87 ?a1 rfl ?a2 ?a3 (.slice As S.length cs) (sv.map (fun v=>[v])) [.pointer (some ⟨wu.heap.size,0,none⟩)] [.pointer (some ⟨wu.heap.size,0,none⟩)] (fun _=>True) (fun _=>False) ?a4 ?a5 ?a6 (fun _ hk=>hk.elim) (fun _ _=>trivial) q1 (Below.refl lo _) ?a8 ?a7 ?_
            (case a1=>kernel_rfl)
            (case a2=>decide)
            (case a3=>omega)
            (case a4=>rfl)
            (case a5=>(simp only [World.size_alloc,World.size_drew]; rfl))
            (case a6=>exact ⟨rfl,rfl,fun u hu=>by rw [List.mem_singleton.1 hu]; rfl⟩)
            (case a7=>omega)
            (case a8=>exact Nat.le_trans HLO.out HBA.out.size)
            intro v2 w7 hrf hb7 hg7 hat
            have hsn:(sv.map (fun v=>[v])) ++ [[Value.pointer (some ⟨wu.heap.size,0,none⟩)]]=(sv ++ [Value.pointer (some ⟨wu.heap.size,0,none⟩)]).map (fun v=>[v]):=by rw [List.map_append]; rfl
            rw [hsn] at hrf
            obtain ⟨A5,c5,e5⟩:=Kd.R_slice hrf
            rw [List.length_map,List.length_append,← HLN.out] at e5
            replace e5:v2=.slice A5 (S.length+1) c5:=e5
            subst e5
            have HP:=Az.mk (HM2.out.put HG2.out.lt HCN.out hrf hb7 hg7 hat)
            have hne:=own_ne HM2.out.row HM2.out.cel (by decide)
            have hc7:=blk_grown HM2.out.cel hg7 hne
            have m7:w7.cell? ⟨p.gm,2,none⟩=some (.slice As S.length cs):=(blk_cell hc7 2).trans rfl
            have f7:w7.frozen? ⟨p.gm,2,none⟩=false:=bkF hc7 2
            clear hrf hb7 hg7 hat hsn hc7 hne q1 q2))
          all_goals (
            clear m7 f7 m2 m1 n1 f2 g2 g22
            have HM8:=Az.mk (show MM (w7.setCell ⟨p.gm,2,none⟩ (.slice A5 (S.length+1) c5)) lo (fun k=>okj k∨k=wu.heap.size) l1 ⟨.mk ⟨t0,t1,l⟩ vs,(l.drop m).map (bindC vs) ++ st,used+newC (l.drop m),path,known,full⟩ _ from by
              rw [HMPN.out,HNC.out,if_neg HNB.out,show ∀ y:Int,used+(1+y)=used+y+1 from fun y=>by omega,HUU.out]
              exact HP.out.1)
            have HG8:=Az.mk (HG2.out.trans HP.out.2)
            clear HP HM2 HG2 HCN HR HBA
            generalize w7.setCell ⟨p.gm,2,none⟩ (.slice A5 (S.length+1) c5)=w8 at *
            go_wp2_with fail
            go_meet
            exact ⟨_,_,rfl,HM8,HG8,HV⟩))
    case rest =>
      obtain ⟨okn,pn,rfl,HM8,HG8,HV8⟩:=hcut
      clear b0 b1 b2 m1 m2 m3 n0 n1 t2 f2 f3
      go_wp2_with fail
      go_roundg m
      case measure=>omega
      case rel=>exact ⟨(m:Int) - 1,okn,pn,by go_num,⟨rfl,by have:=HMl.out; omega⟩,HM8,HG8,HV8⟩
end Go.Proofs.Ytkgknidogelffaa.I
namespace Go.Proofs.Ytkgknidogelffaa.I
open Go.RowKit Go.Proofs.YtkgknidogelffaaW.PrintWords Go.Proofs.YtkgknidogelffaaW.PrintLast Go.Proofs.YtkgknidogelffaaW.PrintMore
attribute [local go_sem] max2_int min2_int max_two min_two max_three min_three max_four min_four
set_option linter.unusedVariables false
set_option maxRecDepth 100000
set_option linter.unusedSimpArgs false
theorem own_take {w:World} {B n m c:Nat} {A:Option Addr} {sv:List Value} (h:w.ownsRow B 85 1 (.slice A n c) n sv) (hn:n=sv.length) (hm:m≤n) (h1:∀ v ∈ sv,v.oneCell'=true):w.ownsRow B 85 1 (.slice A m c) m (sv.take m):=by
  have h2:=Kd.R_take (own_Rr h hn h1) (m:=m) (by rw [List.length_map]; omega)
  rw [← List.map_take] at h2
  have h3:=Rr_own h2
  rw [List.length_take,Nat.min_eq_left (by omega)] at h3
  exact h3
theorem MM.aside {w wr w7:World} {lo:Nat} {ok:Nat→Prop} {l1:List S41} {s:MS} {q:MP} (h:MM wr lo ok l1 s q) (hok:∀ k,ok k→k < w.heap.size) (ho:∀ k,q.own k→k < w.heap.size) (hb:Below w.heap.size wr w7):MM w7 lo ok l1 s q :=
  h.frame (fun k hk _=>hb.block k (hk.elim (hok k) (ho k))) hb.size
theorem Gr.aside {w wr w7:World} {lo:Nat} {ok ok':Nat→Prop} {p p':MP} (g:Gr w wr lo ok ok' p p') (hlo:lo≤w.heap.size) (hb:Below w.heap.size wr w7):Gr w w7 lo ok ok' p p' where
  up:=g.up
  new:=g.new
  lt:=fun k h=>Nat.lt_of_lt_of_le (g.lt k h) hb.size
  own:=g.own
  gm:=g.gm
  gS:=g.gS
  blk:=fun k hk hn=>(hb.block k hk).trans (g.blk k hk hn)
  bel:=⟨hb.os.trans g.bel.os,hb.tape.trans g.bel.tape,hb.output.trans g.bel.output,Nat.le_trans g.bel.size hb.size,fun k hk=>(hb.block k (Nat.lt_of_lt_of_le hk hlo)).trans (g.bel.block k hk)⟩
theorem MM.drew {w:World} {lo:Nat} {ok:Nat→Prop} {l1:List S41} {s:MS} {p:MP} (h:MM w lo ok l1 s p):MM w.drew lo ok l1 s p:=h.below (below_drew (Below.refl _ _))
theorem MM.up {w:World} {lo:Nat} {ok ok':Nat→Prop} {l1:List S41} {s:MS} {p:MP} (h:MM w lo ok l1 s p) (hu:∀ k,ok k→ok' k) (ha:∀ k,p.own k→¬ ok' k):MM w lo ok' l1 s p:=by
  obtain ⟨A0,n0,c0,A1,c1,hS,hV⟩:=h.sch
  exact ⟨h.cel,CM_imp (fun _ _ _=>rfl) (fun k hk _=>hu k hk) _ _ h.now,CML_imp (fun _ _ _=>rfl) (fun k hk _=>hu k hk) _ _ h.stk,h.row,h.pth,⟨A0,n0,c0,A1,c1,hS,Kd.V_mono hV hu⟩,hu _ h.oS,h.low,ha⟩
set_option maxHeartbeats 4000000 in
theorem pop_calls {w:World} {lo:Nat} {ok:Nat→Prop} {l1:List S41} {s:MS} {p:MP} (h:MM w lo ok l1 s p) (hok:∀ k,ok k→k < w.heap.size) (n:Nat) (hn:n≤s.st.length) (hlen:s.st.length≤1000000) :
    Calls Try.prog 35 #[.pointer (some ⟨p.gm,0,none⟩),.int .i64 (n:Int)] w fun e w'=>∃ v us ok' p',e=.returned v∧Row w' ok' v us∧CML w' ok' (s.st.take n) us∧Gr w w' lo ok ok' p p'∧p'.vn=p.vn∧MM w' lo ok' l1 { s with st:=s.st.drop n } p':=by
  have hu93:=Try.underlying93
  have hu91:=Try.underlying91
  have hu89:=Try.underlying89
  have hu87:=Try.underlying87
  have hlow:lo≤w.heap.size:=by have:=h.low; have:=blk_lt h.cel; omega
  have hsl:=h.len
  obtain ⟨c,st,used,path,known,full⟩:=s
  obtain ⟨gm,gS,vn,As,cs,sv,Ap,cp⟩:=p
  have hlen:st.length≤1000000:=hlen
  have hn:n≤st.length:=hn
  have hnb:(n:Int)≤1000000:=by omega
  have H:=Az.mk h
  have HOK:=Az.mk hok
  have HN:=Az.mk hn
  have HLN:=Az.mk hlen
  have HLW:=Az.mk hlow
  have HSL:=Az.mk (show st.length=sv.length from hsl)
  have HOW:=Az.mk (fun (m:Nat)=>show ∀ k,(⟨gm,gS,vn,As,cs,sv.take m,Ap,cp⟩:MP).own k→k < w.heap.size from fun k hk=>(h.lt k (by
    rcases hk with hk | hk | hk
    · exact .inl hk
    · exact .inr (.inl (by rw [← hk]; exact own_block_n))
    · exact .inr (.inr hk))).1)
  clear h hok hn hlen hlow hsl
  go_enter Try.func35,Try.ntmps35
  go_wp2_with fail
  go_loopg [5,7] n (fun kq v5 v7 wr=>∃ (i:Nat) (Ao:Option Addr) (co:Nat) (outs:List Value),v5=.slice Ao i co∧v7=.int .i64 (i:Int)∧Az (i+kq=n)∧Az (outs.length=i)∧Az (Kd.R (Kd.raw 1) 85 wr w.heap.size (fun _=>True) (.slice Ao i co) (outs.map (fun v=>[v])))∧Az (CML wr ok (st.take i) outs)∧Az (MM wr lo ok l1 ⟨c,st.drop i,used,path,known,full⟩ ⟨gm,gS,vn,As,cs,sv.take (st.length - i),Ap,cp⟩)∧Az (Gr w wr lo ok ok ⟨gm,gS,vn,As,cs,sv,Ap,cp⟩ ⟨gm,gS,vn,As,cs,sv.take (st.length - i),Ap,cp⟩))
  case atStart =>
    have e:sv.take (st.length - 0)=sv:=by rw [Nat.sub_zero,HSL.out,List.take_length]
    exact ⟨0,none,0,[],rfl,rfl,⟨by omega⟩,⟨rfl⟩,⟨Kd.R_nil _ _ _ _ _⟩,⟨CML_nil⟩,⟨by rw [e]; exact H.out⟩,⟨by rw [e]; exact Gr.refl HOK.out⟩⟩
  case round =>
    obtain ⟨i,Ao,co,outs,rfl,rfl,Hi,HO,HR,HC,HM,HG⟩:=hrel
    cases gk with
    | zero =>
      have hi:i=n:=by have:=Hi.out; omega
      subst hi
      have p1:((i:Int) < (i:Int))=False:=eq_false (by omega)
      go_wp2_with fail
      go_ret
      have hob:∀ k,(Value.slice Ao i co).ownBlock=some k→w.heap.size≤k∧k < wr.heap.size:=fun k hk=>⟨Kd.R_base HR.out k hk,Kd.R_lt HR.out k hk⟩
      refine ⟨_,outs,fun k=>ok k∨(Value.slice Ao i co).ownBlock=some k,_,rfl,Kd.R_V (Kd.R_mono (Kd.R_tight rfl HR.out) (fun k hk=>.inr hk.symm)),CML_imp (fun _ _ _=>rfl) (fun k hk _=>.inl hk) _ _ HC.out,⟨fun k hk=>.inl hk,fun k hk=>hk.imp id (fun e=>(hob k e).1),fun k hk=>?_,HG.out.own,rfl,rfl,HG.out.blk,HG.out.bel⟩,rfl,HM.out.up (fun k hk=>.inl hk) (fun k hk ho=>?_)⟩
      · rcases hk with hk | hk
        · exact HG.out.lt k hk
        · exact (hob k hk).2
      · rcases ho with ho | ho
        · exact HM.out.apt k hk ho
        · have:=HOW.out _ k hk
          have:=(hob k ho).1
          omega
    | succ k1 =>
    have hi:i < n:=by have:=Hi.out; omega
    have hil:i < st.length:=by have:=HN.out; omega
    have HIL:=Az.mk hil
    have HK1:=Az.mk (show i+1+k1=n from by have:=Hi.out; omega)
    have p1:((i:Int) < (n:Int))=True:=eq_true (by omega)
    have HP1:=Az.mk hi
    have hib:(i:Int)+1≤1000000:=by omega
    clear hi hil
    obtain ⟨M,hM⟩:∃ M,M=st.length - i:=⟨_,rfl⟩
    have hdl:(st.drop i).length=M:=by rw [hM,List.length_drop]
    have hM1:1≤M:=by have:=HIL.out; omega
    have hM2:M≤1000000:=by have:=HLN.out; omega
    rw [← hM] at HM HG
    have hrow:wr.ownsRow lo 85 1 (.slice As (st.drop i).length cs) (st.drop i).length (sv.take M):=HM.out.row
    rw [hdl] at hrow
    obtain ⟨gst,hA,hl,hv⟩:=row_at hrow (j:=M - 1) (show M - 1 < M from by omega)
    subst hA
    have hcap:M≤cs:=own_cap hrow
    have c2:wr.cell? ⟨gm,2,none⟩=some (.slice (some ⟨gst,0,none⟩) M cs):=by rw [← hdl]; exact (blk_cell HM.out.cel 2).trans rfl
    have f2:wr.frozen? ⟨gm,2,none⟩=false:=bkF HM.out.cel 2
    have hcm:CM wr ok ((st.drop i).reverse[M - 1]'(by rw [List.length_reverse,hdl]; omega)) ((sv.take M)[M - 1]'hl):=CML_at _ _ HM.out.stk (M - 1) (show M - 1 < (st.drop i).reverse.length from by rw [List.length_reverse,hdl]; omega) hl
    have hst:(st.drop i).reverse[M - 1]'(by rw [List.length_reverse,hdl]; omega)=st[i]'(HIL.out):=by
      rw [List.getElem_reverse]
      simp only [hdl,List.getElem_drop]
      congr 1
      omega
    rw [hst] at hcm
    have HROW:=Az.mk hrow
    generalize (sv.take M)[M - 1]'hl=v at *
    obtain ⟨gv,rfl⟩:=CM_ptr hcm
    have HCM:=Az.mk hcm
    have hw1:IntKind.i64.wrap ((M:Int) - 1)=(M:Int) - 1:=(i64_w _).trans (by unfold wrap64; omega)
    have hw3:wrap64 ((M:Int) - 1)=(M:Int) - 1:=by unfold wrap64; omega
    have b1:(0≤(M:Int) - 1)=True:=eq_true (by omega)
    have b2:((M:Int) - 1 < (M:Int))=True:=eq_true (by omega)
    have b3:((M:Int) - 1).toNat=M - 1:=by omega
    have b4:((M:Int) - 1≤(cs:Int))=True:=eq_true (by omega)
    have hb1:(0:Int)≤(M:Int) - 1:=by omega
    have hb2:(M:Int) - 1 < (M:Int):=by omega
    have HMM:=Az.mk (And.intro hM (And.intro hM1 hcap))
    have b5:(1≤(M:Int))=True:=eq_true (by omega)
    have b6:(1≤M)=True:=eq_true (by omega)
    have b7:(0 < M)=True:=eq_true (by omega)
    have hz1:(1:Int)≤(M:Int):=by omega
    clear hcm hst hl hrow hM hM1 hdl
    go_upto_region 4 with fail
    go_region_held3 (fun w'=>w'.cell? ⟨gm,2,none⟩=some (.slice (some ⟨gst,0,none⟩) M cs)∧w'.cell? ⟨gst,M - 1,none⟩=some (.pointer (some ⟨gv,0,none⟩))) (go_keep) ((
      have q1:=Kd.R_drew HR.out
      have q2:(outs.map (fun v=>[v])).length*8+8≤140737488355328:=by rw [List.length_map,HO.out]; have:=HIL.out; have:=HLN.out; omega
      refine Kd.R_append_step (Kd.raw 1) (w0:=wr.drew) (W:=wr.drew) w.heap.size rfl (.tmp 9) (.tmp 24) 87 85 (.pointer none) 8 rfl Try.underlying87 ?a1 rfl ?a2 ?a3 (.slice Ao i co) (outs.map (fun v=>[v])) [.pointer (some ⟨gv,0,none⟩)] [.pointer (some ⟨gv,0,none⟩)] (fun _=>True) (fun _=>False) ?a4 ?a5 ?a6 (fun _ hk=>hk.elim) (fun _ _=>trivial) q1 (Below.refl _ _) ?a8 ?a7 ?_
      (case a1=>kernel_rfl)
      (case a2=>decide)
      (case a3=>omega)
      (case a4=>rfl)
      (case a5=>rfl)
      (case a6=>exact ⟨rfl,rfl,fun u hu=>by rw [List.mem_singleton.1 hu]; rfl⟩)
      (case a7=>omega)
      (case a8=>exact HG.out.bel.size)
      intro v2 w7 hrf hb7 hg7 hat
      have hsn:(outs.map (fun v=>[v])) ++ [[Value.pointer (some ⟨gv,0,none⟩)]]=(outs ++ [Value.pointer (some ⟨gv,0,none⟩)]).map (fun v=>[v]):=by rw [List.map_append]; rfl
      rw [hsn] at hrf
      obtain ⟨A5,c5,e5⟩:=Kd.R_slice hrf
      rw [List.length_map,List.length_append,HO.out] at e5
      replace e5:v2=.slice A5 (i+1) c5:=e5
      subst e5
      have HR7:=Az.mk hrf
      have hb7:Below w.heap.size wr w7:=⟨hb7.os,hb7.tape,hb7.output,hb7.size,hb7.block⟩
      have m7:w7.cell? ⟨gm,2,none⟩=some (.slice (some ⟨gst,0,none⟩) M cs):=(hb7.cell (HOW.out M gm (.inl rfl))).trans c2
      have t7:w7.cell? ⟨gst,M - 1,none⟩=some (.pointer (some ⟨gv,0,none⟩)):=(hb7.cell (HOW.out M gst (.inr (.inl rfl)))).trans hv
      have HM7:=Az.mk (HM.out.aside HOK.out (HOW.out M) hb7)
      have HG7:=Az.mk (HG.out.aside HLW.out hb7)
      have HC7:=Az.mk (CML_imp (w1:=w7) (fun k hk _=>hb7.block k (HOK.out k hk)) (fun _ h _=>h) _ _ HC.out)
      have HX7:=Az.mk (CM_imp (w1:=w7) (fun k hk _=>hb7.block k (HOK.out k hk)) (fun _ h _=>h) _ _ HCM.out)
      clear hrf hb7 hg7 hat hsn q1 q2))
    have f7:w7.frozen? ⟨gm,2,none⟩=false:=bkF HM7.out.cel 2
    clear c2 f2 hv hb7 HCM HR HC HM HG
    go_upto_region 5 with fail
    go_region
    have hM:=HMM.out.1
    have hM1:=HMM.out.2.1
    have hcap:=HMM.out.2.2
    have hL1:(st.drop (i+1)).length=M - 1:=by rw [List.length_drop]; omega
    have hT1:sv.take (st.length - (i+1))=(sv.take M).take (M - 1):=by rw [List.take_take]; congr 1; omega
    have hLs:M=(sv.take M).length:=by rw [List.length_take]; have:=HSL.out; have:=HIL.out; omega
    have hdr:(st.drop i).reverse.take (M - 1)=(st.drop (i+1)).reverse:=by
      have e:st.drop i=st[i]'(HIL.out) :: st.drop (i+1):=List.drop_eq_getElem_cons HIL.out
      rw [e,List.reverse_cons,List.take_append_of_le_length (by rw [List.length_reverse,hL1]; omega),List.take_of_length_le (by rw [List.length_reverse,hL1]; omega)]
    have hrw:w7.ownsRow lo 85 1 (.slice (some ⟨gst,0,none⟩) M cs) M (sv.take M):=by
      have:=HM7.out.row
      have e:(st.drop i).length=M:=by rw [List.length_drop]; omega
      rw [show (⟨c,st.drop i,used,path,known,full⟩:MS).st.length=M from e] at this
      exact this
    have hck:CML w7 ok (st.drop i).reverse (sv.take M):=HM7.out.stk
    have HMS:=Az.mk (HM7.out.sets 2 (.slice (some ⟨gst,0,none⟩) (M - 1) cs) (s':=⟨c,st.drop (i+1),used,path,known,full⟩) (p':=⟨gm,gS,vn,some ⟨gst,0,none⟩,cs,sv.take (st.length - (i+1)),Ap,cp⟩) (by simp only [hL1]; rfl) rfl rfl HM7.out.now
      (by show CML w7 ok (st.drop (i+1)).reverse (sv.take (st.length - (i+1))); rw [hT1,← hdr]; exact CML_take _ _ _ hck)
      (by
        show w7.ownsRow lo 85 1 (.slice (some ⟨gst,0,none⟩) (st.drop (i+1)).length cs) (st.drop (i+1)).length (sv.take (st.length - (i+1)))
        rw [hL1,hT1]
        exact own_take hrw hLs (by omega) (CML_ptr _ _ hck))
      HM7.out.pth
      (fun k hk=>by
        rcases hk with hk | hk | hk
        · exact .inl hk
        · exact .inr (.inl (by rw [← hk]; exact own_block_n))
        · exact .inr (.inr hk)))
    have HMN:=Az.mk (HMS.out.1.drew)
    have HGN:=Az.mk ((HG7.out.trans (HMS.out.2 HG7.out.lt)).drew)
    have hko:∀ k,ok k→k < w7.heap.size→(w7.setCell ⟨gm,2,none⟩ (.slice (some ⟨gst,0,none⟩) (M - 1) cs)).drew.heap[k]?=w7.heap[k]?:=fun k hk _=>Below.heap_setCell w7 ⟨gm,2,none⟩ _ k (fun he=>HM7.out.apt k (.inl he) hk)
    have HCN:=Az.mk (show CML (w7.setCell ⟨gm,2,none⟩ (.slice (some ⟨gst,0,none⟩) (M - 1) cs)).drew ok (st.take (i+1)) (outs ++ [.pointer (some ⟨gv,0,none⟩)]) from by
      rw [List.take_add_one,List.getElem?_eq_getElem HIL.out]
      exact CML_imp hko (fun _ h _=>h) _ _ (CML_snoc HC7.out HX7.out))
    have HRN:=Az.mk (Kd.R_drew (Kd.R_set HR7.out HM7.out.cel (by decide) 2 (.slice (some ⟨gst,0,none⟩) (M - 1) cs)))
    have HON:=Az.mk (show (outs ++ [Value.pointer (some ⟨gv,0,none⟩)]).length=i+1 from by rw [List.length_append,HO.out]; rfl)
    clear HMS HM7 HG7 HC7 HX7 HR7 hko hck hrw hdr hLs hT1 hL1 hM hM1 hcap f7 m7 t7 hw1 hw3 b1 b2 b3 b4 b5 b6 b7 hz1 hb1 hb2
    generalize (w7.setCell ⟨gm,2,none⟩ (.slice (some ⟨gst,0,none⟩) (M - 1) cs)).drew=w8 at *
    go_wp2_with fail
    go_roundg k1
    case measure=>omega
    case rel=>exact ⟨i+1,A5,c5,_,rfl,by go_num,HK1,HON,HRN,HCN,HMN,HGN⟩
end Go.Proofs.Ytkgknidogelffaa.I
namespace Go.Proofs.Ytkgknidogelffaa.I
open Go.RowKit Go.Proofs.YtkgknidogelffaaW.PrintWords Go.Proofs.YtkgknidogelffaaW.PrintLast Go.Proofs.YtkgknidogelffaaW.PrintMore
set_option linter.unusedVariables false
set_option maxRecDepth 100000
theorem closed_len {l0:List S84} {l1:List S41} (hs:schB l0 l1=true) {t:S36} (h:closedB l0 l1 t=true):t.f2.length≤59:=by
  obtain ⟨k,n,l⟩:=t
  rw [closed_iff] at h
  obtain ⟨s0,h0,h1,_⟩:=ofT_parts h
  have h2:=hdF_cnt (sch_parts hs).1 h0
  have h3:=cntL_ge s0
  show l.length≤59
  omega
theorem den_len (c:Clo):c.t.f2.length≤(den c).f2.length:=by
  obtain ⟨t,vs⟩:=c
  obtain ⟨k,n,l⟩:=t
  show l.length≤_
  rw [den,subT]
  split
  · show _≤((rd_T36 (denL vs) n).f2 ++ subL (denL vs) l).length
    rw [List.length_append,subL_len]
    omega
  · show _≤(subL (denL vs) l).length
    rw [subL_len]
    omega
theorem snd_len {l0:List S84} {l1:List S41} (hs:schB l0 l1=true) {c:Clo} {st:List Clo} (h:Snd l0 l1 c st):c.t.f2.length+st.length≤59:=by
  have h1:=closed_len hs h.d
  have h2:=den_len c
  have h3:((den c).f2 ++ denL st).length≤59:=h1
  rw [List.length_append,denL_len] at h3
  omega
theorem push_len {c:Clo} {st:List Clo}:(pushC c st).length=c.t.f2.length+st.length:=by unfold pushC; rw [List.length_append,List.length_map]
theorem Gr.cell {w w':World} {lo:Nat} {ok ok':Nat→Prop} {l1:List S41} {s:MS} {p p':MP} (g:Gr w w' lo ok ok' p p') (h:MM w lo ok l1 s p) {a:Addr} {v:Value} (hb:ok a.block) (hc:w.cell? a=some v):w'.cell? a=some v:=by
  have hlt:=World.block_lt_of_cell? w _ hc
  have:=g.keep h a.block hb hlt
  simpa [World.cell?,this] using hc
theorem row_ok {w:World} {ok:Nat→Prop} {av:Addr} {n c:Nat} {us:List Value} (h:Row w ok (.slice (some av) n c) us) (hn:0 < us.length):ok av.block:=by
  obtain ⟨h1,_⟩:=row_get h
  obtain ⟨a9,c9,e9,_,_,_,ho9⟩:=Kd.F_get (Kd.V_F h) [] 0 (by omega) (by omega)
  injection e9 with e9
  subst e9
  exact ho9 (by decide)
theorem now_cells {w:World} {ok:Nat→Prop} {t0 t1:Int} {l:List S36} {vs:List Clo} {v:Value} (h:CM w ok (.mk ⟨t0,t1,l⟩ vs) v) :
    ∃ (g:Nat) (ad:Addr) (Av:Option Addr) (cv:Nat) (us:List Value),v=.pointer (some ⟨g,0,none⟩)∧ok g∧ok ad.block∧w.cell? ⟨g,0,none⟩=some (.pointer (some ad))∧w.cell? ⟨g,1,none⟩=some (.slice Av us.length cv)∧w.cell? ad=some (.int .i64 t0)∧w.cell? ⟨ad.block,ad.off+1,none⟩=some (.int .i64 t1)∧us.length=vs.length∧us.length≤9223372036854775807∧CML w ok vs us ∧
      ∀ j (hj:j < us.length),∃ av,Av=some av∧ok av.block∧w.cell? (av.add j)=some us[j]:=by
  unfold CM at h
  obtain ⟨g,ad,a,us,e,hg,hc,ht,hr,hl⟩:=h
  obtain ⟨A,ca,t0c,t1c,_⟩:=TmAt_cells ht
  have hr':=hr
  obtain ⟨Av,cv,eav,_⟩:=hr'
  rw [List.length_map] at eav
  subst eav
  obtain ⟨_,_,hm,hrg⟩:=row_get hr
  refine ⟨g,ad,Av,cv,us,e,hg,TmAt_ok ht,(blk_cell hc 0).trans rfl,(blk_cell hc 1).trans rfl,t0c,t1c,(CML_len _ _ hl).symm,hm,hl,fun j hj=>?_⟩
  obtain ⟨av,e1,e2⟩:=hrg j hj
  subst e1
  exact ⟨av,rfl,row_ok hr (by omega),e2⟩
theorem body_at {w:World} {ok:Nat→Prop} {l:List S41} {af:Addr} (h:Kd.F k41 w ok (some af) l.length l) {j:Nat} (hj:j < l.length) :
    ∃ A3 c3,w.cell? ⟨(af.add (j*5)).block,(af.add (j*5)).off+1,none⟩=some (.slice A3 l[j].f1.f0.length c3)∧ok af.block∧TmAt w ok l[j].f2 ⟨(af.add (j*5)).block,(af.add (j*5)).off+2,none⟩:=by
  have e0:∀ (W:World),Kd.C k41 W (some af) l.length l→∃ c:List Value,k41.K W l[j] c∧∀ i u,c[i]?=some u→W.cell? (af.add (j*5+i))=some u:=fun W hC=>by
    obtain ⟨ad,c,e,_,hK,hc⟩:=Kd.C_get hC z41 (j:Int) (by omega) (by omega)
    injection e with e
    subst e
    rw [Int.toNat_natCast] at hK hc
    rw [List.getD_eq_getElem?_getD,List.getElem?_eq_getElem hj] at hK
    exact ⟨c,hK,hc⟩
  have ea:∀ i,0 < i→af.add (j*5+i)=⟨(af.add (j*5)).block,(af.add (j*5)).off+i,none⟩:=fun i hi=>by
    rw [← add_add]
    unfold Addr.add
    rw [if_neg (by omega)]
  obtain ⟨c,hK,hc⟩:=e0 w (Kd.F_now h)
  obtain ⟨A1,c1,A4,c4,rfl,_⟩:=k41_open hK
  have h1:=hc 1 _ rfl
  rw [ea 1 (by decide)] at h1
  obtain ⟨a9,_,e9,_,_,_,ho9⟩:=Kd.F_get h z41 (j:Int) (by omega) (by omega)
  injection e9 with e9
  subst e9
  refine ⟨A1,c1,h1,ho9 (by decide),fun W' hW=>?_⟩
  obtain ⟨c',hK',hc'⟩:=e0 W' (h W' hW)
  obtain ⟨A1',c1',A4',c4',rfl,_,_,hl4,hC4⟩:=k41_open hK'
  refine ⟨rfl,by decide,fun _=>⟨_,rfl,fun i p hp=>?_⟩⟩
  have hi:i=0:=by
    rcases i with _ | i
    · rfl
    · simp at hp
  subst hi
  have hp:l[j].f2=p:=by simpa using hp
  subst hp
  refine ⟨_,rfl,k36_mk W' l[j].f2 hl4 hC4,fun i u hu=>?_⟩
  rw [show 0*k36.sz+i=i from by omega]
  have e2:(⟨(af.add (j*5)).block,(af.add (j*5)).off+2,none⟩:Addr).add i=af.add (j*5+(2+i)):=by
    rw [ea (2+i) (by omega),add_at,Nat.add_assoc]
  rw [e2]
  exact hc' (2+i) u (by
    rw [Nat.add_comm 2 i]
    simpa using hu)
end Go.Proofs.Ytkgknidogelffaa.I
namespace Go.Proofs.Ytkgknidogelffaa.I
open Go.RowKit Go.Proofs.YtkgknidogelffaaW.PrintWords Go.Proofs.YtkgknidogelffaaW.PrintLast Go.Proofs.YtkgknidogelffaaW.PrintMore
attribute [local go_sem] max2_int min2_int max_two min_two max_three min_three max_four min_four
set_option linter.unusedVariables false
set_option maxRecDepth 100000
set_option linter.unusedSimpArgs false
def SameF (lq l1:List S41):Prop:=lq.length=l1.length∧∀ n:Int,0≤n→n < (l1.length:Int)→(rd_T41 lq n).f1.f0.length=(rd_T41 l1 n).f1.f0.length∧(rd_T41 lq n).f2=(rd_T41 l1 n).f2
theorem rd41_at {l:List S41} {n:Int} (h0:0≤n) (h:n < (l.length:Int)):rd_T41 l n=l[n.toNat]'(by omega):=by
  unfold rd_T41
  rw [List.getD_eq_getElem?_getD,List.getElem?_eq_getElem (by omega)]
  rfl
theorem push_at {w:World} {lo:Nat} {ok:Nat→Prop} {lq:List S41} {t:S36} {vs st:List Clo} {used:Int} {path:List Int} {kn fu:Bool} {gm gS g:Nat} {As Ap:Option Addr} {cs cp:Nat} {sv:List Value} (h:MM w lo ok lq ⟨.mk t vs,st,used,path,kn,fu⟩ ⟨gm,gS,.pointer (some ⟨g,0,none⟩),As,cs,sv,Ap,cp⟩) (hok:∀ k,ok k→k < w.heap.size) (hws:okT (vs.length:Int) t=true) (hlen:t.f2.length+st.length≤59) (hu:0≤used∧used≤1050000) :
    Calls Try.prog 34 #[.pointer (some ⟨gm,0,none⟩)] w fun e w'=>e=.returned (.tuple #[])∧∃ (ok':Nat→Prop) (As':Option Addr) (cs':Nat) (sv':List Value) (Ap':Option Addr) (cp':Nat),Gr w w' lo ok ok' ⟨gm,gS,.pointer (some ⟨g,0,none⟩),As,cs,sv,Ap,cp⟩ ⟨gm,gS,.pointer (some ⟨g,0,none⟩),As',cs',sv',Ap',cp'⟩∧MM w' lo ok' lq ⟨.mk t vs,pushC (.mk t vs) st,used+newC t.f2,path,kn,fu⟩ ⟨gm,gS,.pointer (some ⟨g,0,none⟩),As',cs',sv',Ap',cp'⟩:=by
  refine (push_calls h hok hws (show t.f2.length+st.length≤1000000 from by omega) hu.1 (show used≤4000000000 from by omega)).mono ?_
  rintro e w2 ⟨rfl,ok2,p2,hg,hv,hm⟩
  obtain ⟨gm2,gS2,vn2,As2,cs2,sv2,Ap2,cp2⟩:=p2
  have e1:gm2=gm:=hg.gm
  have e2:gS2=gS:=hg.gS
  have e3:vn2=.pointer (some ⟨g,0,none⟩):=hv
  subst e1 e2 e3
  exact ⟨rfl,ok2,As2,cs2,sv2,Ap2,cp2,hg,hm⟩
theorem pop_at {w:World} {lo:Nat} {ok:Nat→Prop} {lq:List S41} {c:Clo} {st:List Clo} {used:Int} {path:List Int} {kn fu:Bool} {gm gS g:Nat} {As Ap:Option Addr} {cs cp:Nat} {sv:List Value} (h:MM w lo ok lq ⟨c,st,used,path,kn,fu⟩ ⟨gm,gS,.pointer (some ⟨g,0,none⟩),As,cs,sv,Ap,cp⟩) (hok:∀ k,ok k→k < w.heap.size) (n:Nat) (hn:n≤st.length) (hlen:st.length≤59) :
    Calls Try.prog 35 #[.pointer (some ⟨gm,0,none⟩),.int .i64 (n:Int)] w fun e w'=>∃ (Av:Option Addr) (cv:Nat) (us:List Value) (ok':Nat→Prop) (As':Option Addr) (cs':Nat) (sv':List Value) (Ap':Option Addr) (cp':Nat),e=.returned (.slice Av us.length cv)∧Row w' ok' (.slice Av us.length cv) us∧CML w' ok' (st.take n) us∧Gr w w' lo ok ok' ⟨gm,gS,.pointer (some ⟨g,0,none⟩),As,cs,sv,Ap,cp⟩ ⟨gm,gS,.pointer (some ⟨g,0,none⟩),As',cs',sv',Ap',cp'⟩∧MM w' lo ok' lq ⟨c,st.drop n,used,path,kn,fu⟩ ⟨gm,gS,.pointer (some ⟨g,0,none⟩),As',cs',sv',Ap',cp'⟩:=by
  refine (pop_calls h hok n hn (show st.length≤1000000 from by omega)).mono ?_
  rintro e w2 ⟨v,us,ok2,p2,rfl,hr,hc,hg,hv,hm⟩
  obtain ⟨gm2,gS2,vn2,As2,cs2,sv2,Ap2,cp2⟩:=p2
  have e1:gm2=gm:=hg.gm
  have e2:gS2=gS:=hg.gS
  have e3:vn2=.pointer (some ⟨g,0,none⟩):=hv
  subst e1 e2 e3
  have hr':=hr
  obtain ⟨Av,cv,eav,_⟩:=hr'
  rw [List.length_map] at eav
  subst eav
  exact ⟨Av,cv,us,ok2,As2,cs2,sv2,Ap2,cp2,rfl,hr,hc,hg,hm⟩
theorem goM_mk (l1:List S41) (fuel:Int) (k:Nat) (n used t0 t1:Int) (l:List S36) (vs st:List Clo):goM l1 fuel (k+1) n used (.mk ⟨t0,t1,l⟩ vs) st=if 1048576 < used then some ⟨0,0,3,.mk ⟨t0,t1,l⟩ vs,st,used,false,true⟩
    else if t0=0 then goM l1 fuel k n (used+newC l) (rdC vs t1) (pushC (.mk ⟨t0,t1,l⟩ vs) st)
    else if t0=1 then (if n=fuel then some ⟨0,0,8,.mk ⟨t0,t1,l⟩ vs,st,used,false,false⟩
      else goM l1 fuel k (n+1) (used+newC l+1) (.mk (rd_T41 l1 t1).f2 ((pushC (.mk ⟨t0,t1,l⟩ vs) st).take (rd_T41 l1 t1).f1.f0.length)) ((pushC (.mk ⟨t0,t1,l⟩ vs) st).drop (rd_T41 l1 t1).f1.f0.length))
    else some ⟨t1,n,0,.mk ⟨t0,t1,l⟩ vs,pushC (.mk ⟨t0,t1,l⟩ vs) st,used+newC l,true,false⟩:=by
  rw [goM]
  rfl
set_option maxHeartbeats 4000000 in
theorem go_calls {w:World} {lo:Nat} {ok:Nat→Prop} {l0:List S84} {lq l1:List S41} {s:MS} {p:MP} (hs:schB l0 l1=true) (hq:SameF lq l1) (h:MM w lo ok lq s p) (hok:∀ k,ok k→k < w.heap.size) (hsnd:Snd l0 l1 s.c s.st) (hk:s.known=false) (hf:s.full=false) (hu0:0≤s.used) (hu:s.used≤1050000) (fuel:Int) (hf0:0≤fuel) (hf1:fuel≤1048576) (k:Nat) (r:GoR) (hr:goM l1 fuel k 0 s.used s.c s.st=some r) :
    Calls Try.prog 12 #[.pointer (some ⟨p.gm,0,none⟩),.int .i64 fuel] w fun e w'=>e=.returned (.tuple #[.int .i64 r.a,.int .i64 r.n,.int .i64 r.e])∧∃ ok' p',Gr w w' lo ok ok' p p'∧MM w' lo ok' lq ⟨r.c,r.st,r.used,s.path,r.known,r.full⟩ p':=by
  have hu93:=Try.underlying93
  have hu91:=Try.underlying91
  have hu89:=Try.underlying89
  have hu36:=Try.underlying36
  have hu34:=Try.underlying34
  have hu87:=Try.underlying87
  have hu41:=Try.underlying41
  have hu39:=Try.underlying39
  have hu25:=Try.underlying25
  have hu23:=Try.underlying23
  obtain ⟨c,st,used,path,known,full⟩:=s
  have hk:known=false:=hk
  have hf:full=false:=hf
  subst hk hf
  have HS:=Az.mk hs
  have HQ:=Az.mk hq
  have H:=Az.mk h
  have HOK:=Az.mk hok
  have HSN:=Az.mk (show Snd l0 l1 c st from hsnd)
  have HU:=Az.mk (show 0≤used∧used≤1050000 from ⟨hu0,hu⟩)
  have HR:=Az.mk (show goM l1 fuel k 0 used c st=some r from hr)
  have HF:=Az.mk (And.intro hf0 hf1)
  have q1:(fuel < 0)=False:=eq_false (by omega)
  have q2:(1048576 < fuel)=False:=eq_false (by omega)
  have c5:w.cell? ⟨p.gm,5,none⟩=some (.bool false):=(blk_cell h.cel 5).trans rfl
  have c6:w.cell? ⟨p.gm,6,none⟩=some (.bool false):=(blk_cell h.cel 6).trans rfl
  clear hs hq h hok hsnd hu0 hu hr hf0 hf1
  go_enter Try.func12,Try.ntmps12
  go_wp2_with fail
  go_loopg [7] k (fun kq v7 wr=>∃ (n:Int) (okj:Nat→Prop) (pj:MP) (c:Clo) (st:List Clo) (used:Int),v7=.int .i64 n∧Az (goM l1 fuel kq n used c st=some r)∧Az (0≤n∧n≤fuel)∧Az (Snd l0 l1 c st)∧Az (0≤used∧used≤1050000)∧Az (MM wr lo okj lq ⟨c,st,used,path,false,false⟩ pj)∧Az (Gr w wr lo ok okj p pj))
  case atStart=>exact ⟨0,ok,p,c,st,used,rfl,HR,⟨Int.le_refl _,HF.out.1⟩,HSN,HU,H,⟨Gr.refl HOK.out⟩⟩
  case round =>
    clear c5 c6 HR HSN HU
    obtain ⟨n,okj,pj,c,st,used,rfl,HR,HN,HSN,HU,HM,HG⟩:=hrel
    obtain ⟨gm',gS',vn',As,cs,sv,Ap,cp⟩:=pj
    have e1:gm'=p.gm:=HG.out.gm
    subst e1
    have hm:=HR.out
    cases gk with
    | zero=>rw [goM] at hm; cases hm
    | succ k1 =>
    obtain ⟨t,vs⟩:=c
    obtain ⟨t0,t1,l⟩:=t
    rw [goM_mk] at hm
    obtain ⟨g,ad,Av,cv,us,evn,hog,hoa,n0,n1,b0,b1,hul,hum,hcl,hus⟩:=now_cells HM.out.now
    have evn:vn'=.pointer (some ⟨g,0,none⟩):=evn
    subst evn
    have m1:wr.cell? ⟨p.gm,1,none⟩=some (.pointer (some ⟨g,0,none⟩)):=(blk_cell HM.out.cel 1).trans rfl
    have m3:wr.cell? ⟨p.gm,3,none⟩=some (.int .i64 used):=(blk_cell HM.out.cel 3).trans rfl
    have m5:wr.cell? ⟨p.gm,5,none⟩=some (.bool false):=(blk_cell HM.out.cel 5).trans rfl
    have m6:wr.cell? ⟨p.gm,6,none⟩=some (.bool false):=(blk_cell HM.out.cel 6).trans rfl
    have f3:wr.frozen? ⟨p.gm,3,none⟩=false:=bkF HM.out.cel 3
    have f5:wr.frozen? ⟨p.gm,5,none⟩=false:=bkF HM.out.cel 5
    have f6:wr.frozen? ⟨p.gm,6,none⟩=false:=bkF HM.out.cel 6
    have HCU:=Az.mk hcl
    have HUS:=Az.mk hus
    have HUL:=Az.mk hul
    have HOA:=Az.mk (And.intro hog hoa)
    clear hcl hus hul hog hoa
    have hlen:=snd_len HS.out HSN.out
    have hlen:l.length+st.length≤59:=hlen
    have hws:okT (vs.length:Int) ⟨t0,t1,l⟩=true:=(wsC_parts HSN.out.c).1
    have HWS:=Az.mk hws
    have HLE:=Az.mk hlen
    clear hws hlen
    by_cases hu1:1048576 < used
    · rw [if_pos hu1] at hm
      injection hm with hm
      subst hm
      have q3:(1048576 < used)=True:=eq_true hu1
      have HMF:=Az.mk (HM.out.sets 6 (.bool true) (s':=⟨.mk ⟨t0,t1,l⟩ vs,st,used,path,false,true⟩) (p':=⟨p.gm,gS',.pointer (some ⟨g,0,none⟩),As,cs,sv,Ap,cp⟩) rfl rfl rfl HM.out.now HM.out.stk HM.out.row HM.out.pth (fun _ h=>h))
      clear hu1
      go_wp2_with fail
      refine bodyPost_ret (results_tmp3 rfl _ _ _) rfl ?_
      exact ⟨rfl,okj,_,HG.out.trans (HMF.out.2 HG.out.lt),HMF.out.1⟩
    rw [if_neg hu1] at hm
    have q3:(1048576 < used)=False:=eq_false hu1
    have HUB:=Az.mk hu1
    clear hu1
    have HPU:=Az.mk (push_at HM.out HG.out.lt HWS.out HLE.out HU.out)
    by_cases h0:t0=0
    · subst h0
      rw [if_pos rfl] at hm
      have HMM:=Az.mk hm
      have hv:=ok_var HWS.out rfl
      have hv:0≤t1∧t1 < (vs.length:Int):=hv
      obtain ⟨av,eav,hoav,y0⟩:=HUS.out t1.toNat (by have:=HUL.out; omega)
      subst eav
      have hcm:=CML_at _ _ HCU.out t1.toNat (by omega) (by have:=HUL.out; omega)
      have hrd:vs[t1.toNat]'(by omega)=rdC vs t1:=by unfold rdC; rw [List.getD_eq_getElem?_getD,List.getElem?_eq_getElem (by omega)]; rfl
      rw [hrd] at hcm
      generalize us[t1.toNat]'(by have:=HUL.out; omega)=v at *
      obtain ⟨gv,rfl⟩:=CM_ptr hcm
      have r1:(0≤t1)=True:=eq_true hv.1
      have r2:(t1 < (us.length:Int))=True:=eq_true (by have:=HUL.out; omega)
      have HCM:=Az.mk hcm
      have HVV:=Az.mk (snd_var HSN.out rfl)
      clear hm HR hcm hrd hv
      go_wp2_with fail
      (with_reducible refine HPU.out.mono ?_)
      rintro e w2 ⟨rfl,ok2,As2,cs2,sv2,Ap2,cp2,hg2,hm2⟩
      have N0:=hg2.cell (a:=⟨g,0,none⟩) HM.out HOA.out.1 n0
      have N1:=hg2.cell (a:=⟨g,1,none⟩) HM.out HOA.out.1 n1
      have B1:=hg2.cell (a:=⟨ad.block,ad.off+1,none⟩) HM.out HOA.out.2 b1
      have Y0:=hg2.cell HM.out (show okj (av.add t1.toNat).block from by rw [add_block]; exact hoav) y0
      have M1:w2.cell? ⟨p.gm,1,none⟩=some (.pointer (some ⟨g,0,none⟩)):=(blk_cell hm2.cel 1).trans rfl
      have F1:w2.frozen? ⟨p.gm,1,none⟩=false:=bkF hm2.cel 1
      have HMS:=Az.mk (hm2.sets 1 (.pointer (some ⟨gv,0,none⟩)) (s':=⟨rdC vs t1,pushC (.mk ⟨0,t1,l⟩ vs) st,used+newC l,path,false,false⟩) (p':=⟨p.gm,gS',.pointer (some ⟨gv,0,none⟩),As2,cs2,sv2,Ap2,cp2⟩) rfl rfl rfl (CM_imp (hg2.keep HM.out) (fun k hk _=>hg2.up k hk) _ _ HCM.out) hm2.stk hm2.row hm2.pth (fun _ h=>h))
      have HG2:=Az.mk (HG.out.trans hg2)
      clear m1 m3 m5 m6 f3 f5 f6 n0 n1 b0 b1 y0 hg2 hm2 hoav
      go_upto_region 20 with fail
      go_region
      have hub:=newC_ge l
      have HM4:=Az.mk HMS.out.1.drew
      have HG4:=Az.mk (HG2.out.trans (HMS.out.2 HG2.out.lt)).drew
      have HU4:=Az.mk (show 0≤used+newC l∧used+newC l≤1050000 from by have:=HU.out; have:=HUB.out; have:=HLE.out; omega)
      clear HMS HG2 HM HG hub N0 N1 B1 Y0 M1 F1
      generalize (w2.setCell ⟨p.gm,1,none⟩ (.pointer (some ⟨gv,0,none⟩))).drew=w4 at *
      go_wp2_with fail
      go_roundg k1
      case measure=>omega
      case rel=>exact ⟨n,ok2,_,rdC vs t1,pushC (.mk ⟨0,t1,l⟩ vs) st,used+newC l,rfl,HMM,HN,⟨HVV.out.2.2.1⟩,HU4,HM4,HG4⟩
    have q4:(t0 == 0)=false:=beq_eq_false_iff_ne.2 h0
    rw [if_neg h0] at hm
    by_cases h1:t0=1
    rotate_left
    · rw [if_neg h1] at hm
      injection hm with hm
      subst hm
      have q5:(t0 == 1)=false:=beq_eq_false_iff_ne.2 h1
      have HMS:=Az.mk (HM.out.sets 5 (.bool true) (s':=⟨.mk ⟨t0,t1,l⟩ vs,st,used,path,true,false⟩) (p':=⟨p.gm,gS',.pointer (some ⟨g,0,none⟩),As,cs,sv,Ap,cp⟩) rfl rfl rfl HM.out.now HM.out.stk HM.out.row HM.out.pth (fun _ h=>h))
      have HG1:=Az.mk (HMS.out.2 HG.out.lt)
      have HP1:=Az.mk (push_at HMS.out.1 HG1.out.lt HWS.out HLE.out HU.out)
      clear HR h0 h1
      go_wp2_with fail
      (with_reducible refine HP1.out.mono ?_)
      rintro e w2 ⟨rfl,ok2,As2,cs2,sv2,Ap2,cp2,hg2,hm2⟩
      have B1:=(HG1.out.trans hg2).cell (a:=⟨ad.block,ad.off+1,none⟩) HM.out HOA.out.2 b1
      have HG2:=Az.mk (HG.out.trans (HG1.out.trans hg2))
      have HM2:=Az.mk hm2
      clear m1 m3 m5 m6 f3 f5 f6 n0 n1 b0 b1 hg2 hm2
      go_wp2_with fail
      refine bodyPost_ret (results_tmp3 rfl _ _ _) rfl ?_
      exact ⟨rfl,ok2,_,HG2.out,HM2.out⟩
    subst h1
    rw [if_pos rfl] at hm
    by_cases hnf:n=fuel
    · rw [if_pos hnf] at hm
      injection hm with hm
      subst hm
      subst hnf
      have HM2:=Az.mk HM.out
      clear HR h0 HPU
      go_wp2_with fail
      refine bodyPost_ret (results_tmp3 rfl _ _ _) rfl ?_
      exact ⟨rfl,okj,_,HG.out,HM.out⟩
    rw [if_neg hnf] at hm
    have q6:(n == fuel)=false:=beq_eq_false_iff_ne.2 hnf
    have hnb:n < 1048576:=by have:=HN.out; have:=HF.out; omega
    have hn0:0≤n:=HN.out.1
    have hsf:=snd_fun HS.out HSN.out rfl
    have hsf:0≤t1∧t1 < (l1.length:Int)∧(pushC (.mk ⟨1,t1,l⟩ vs) st).length=(rd_T41 l1 t1).f1.f0.length∧Snd l0 l1 (.mk (rd_T41 l1 t1).f2 (pushC (.mk ⟨1,t1,l⟩ vs) st)) []∧_:=hsf
    obtain ⟨z0,z1,z2,z3,_⟩:=hsf
    have hqq:=HQ.out.2 t1 z0 z1
    obtain ⟨A0,nn0,c0,A1,c1,hSS,hV⟩:=HM.out.sch
    have hF:=Kd.V_F hV
    have hlq:t1 < (lq.length:Int):=by have:=HQ.out.1; omega
    obtain ⟨af,_,haf,_⟩:=Kd.F_get hF z41 t1 z0 hlq
    subst haf
    obtain ⟨A3,c3,sA,hoaf,hbody⟩:=body_at hF (j:=t1.toNat) (by omega)
    rw [← rd41_at z0 hlq] at sA hbody
    rw [hqq.1] at sA
    rw [hqq.2] at hbody
    have hpl:=push_len (c:=.mk ⟨1,t1,l⟩ vs) (st:=st)
    have hpl:(pushC (.mk ⟨1,t1,l⟩ vs) st).length=l.length+st.length:=hpl
    have HAR:=Az.mk (show (rd_T41 l1 t1).f1.f0.length≤59 from by have:=HLE.out; omega)
    rw [← z2,List.take_of_length_le (Nat.le_refl _),List.drop_eq_nil_of_le (Nat.le_refl _)] at hm
    have HZ:=Az.mk (And.intro z2 z3)
    have HBD:=Az.mk hbody
    have HMM:=Az.mk hm
    have s0:wr.cell? ⟨gS',1,none⟩=some (.slice (some af) lq.length c1):=(blk_cell hSS 1).trans rfl
    have r1:(0≤t1)=True:=eq_true z0
    have r2:(t1 < (lq.length:Int))=True:=eq_true hlq
    have HPLB:=Az.mk (show (pushC (.mk ⟨1,t1,l⟩ vs) st).length≤59 from by have:=HLE.out; omega)
    generalize hST:pushC (.mk ⟨1,t1,l⟩ vs) st=ST at *
    generalize (rd_T41 l1 t1).f2=B at *
    generalize (rd_T41 l1 t1).f1.f0.length=m at *
    have hHOAF:=Az.mk hoaf
    have HOS:=Az.mk HM.out.oS
    clear hm HR hnf h0 hSS hV hF hqq hbody hpl z2 z3 z0 z1 hoaf hlq
    go_wp2_with fail
    (with_reducible refine HPU.out.mono ?_)
    rintro e w2 ⟨rfl,ok2,As2,cs2,sv2,Ap2,cp2,hg2,hm2⟩
    have S0:=hg2.cell (a:=⟨gS',1,none⟩) HM.out HOS.out s0
    have SA:=hg2.cell (a:=⟨(af.add (t1.toNat*5)).block,(af.add (t1.toNat*5)).off+1,none⟩) HM.out (show okj (af.add (t1.toNat*5)).block from by rw [add_block]; exact hHOAF.out) sA
    have B1:=hg2.cell (a:=⟨ad.block,ad.off+1,none⟩) HM.out HOA.out.2 b1
    have G0:w2.cell? ⟨p.gm,0,none⟩=some (.pointer (some ⟨gS',0,none⟩)):=(blk_cell hm2.cel 0).trans rfl
    have M3:w2.cell? ⟨p.gm,3,none⟩=some (.int .i64 (used+newC l)):=(blk_cell hm2.cel 3).trans rfl
    have F3:w2.frozen? ⟨p.gm,3,none⟩=false:=bkF hm2.cel 3
    have hub:=newC_ge l
    have hu4:0≤used+newC l∧used+newC l≤1049000:=by have:=HU.out; have:=HUB.out; have:=HLE.out; omega
    have hu41:=hu4.1
    have hu42:=hu4.2
    have HM2:=Az.mk hm2
    have HG2:=Az.mk hg2
    have HBD2:=Az.mk (TmAt_imp HBD.out (hg2.keep HM.out) (fun k hk=>hg2.up k hk))
    clear m1 m3 m5 m6 f3 f5 f6 n0 n1 b0 b1 s0 sA hm2 hg2 hub hu4 HBD HPU
    go_upto_region 26 with fail
    go_region
    have HM3:=Az.mk (HM2.out.sets 3 (.int .i64 (used+newC l+1)) (s':=⟨.mk ⟨1,t1,l⟩ vs,ST,used+newC l+1,path,false,false⟩) (p':=⟨p.gm,gS',.pointer (some ⟨g,0,none⟩),As2,cs2,sv2,Ap2,cp2⟩) rfl rfl rfl HM2.out.now HM2.out.stk HM2.out.row HM2.out.pth (fun _ h=>h))
    have HG3:=Az.mk ((HG.out.trans HG2.out).trans (HM3.out.2 HG2.out.lt)).drew
    have HKK:=Az.mk (show ∀ k,ok2 k→k < w2.heap.size→(w2.setCell ⟨p.gm,3,none⟩ (.int .i64 (used+newC l+1))).drew.heap[k]?=w2.heap[k]? from fun k hk _=>Below.heap_setCell w2 ⟨p.gm,3,none⟩ _ k (fun he=>HM2.out.apt k (.inl he) hk))
    have HBD3:=Az.mk (TmAt_imp HBD2.out HKK.out (fun _ h=>h))
    have HSA:=Az.mk (show ok2 (af.add (t1.toNat*5)).block from by rw [add_block]; exact HG2.out.up _ hHOAF.out)
    have SA3:(w2.setCell ⟨p.gm,3,none⟩ (.int .i64 (used+newC l+1))).drew.cell? ⟨(af.add (t1.toNat*5)).block,(af.add (t1.toNat*5)).off+1,none⟩=some (.slice A3 m c3):=by
      have hlt:(⟨(af.add (t1.toNat*5)).block,(af.add (t1.toNat*5)).off+1,none⟩:Addr).block < w2.heap.size:=World.block_lt_of_cell? w2 _ SA
      have:=HKK.out _ HSA.out hlt
      simpa [World.cell?,this] using SA
    have HM4:=Az.mk HM3.out.1.drew
    clear HM3 HKK SA HM HG HM2 HG2 HBD2
    go_upto_region 28 with fail
    clear S0 B1 G0 M3 F3
    generalize (w2.setCell ⟨p.gm,3,none⟩ (.int .i64 (used+newC l+1))).drew=w3 at *
    have HPOP:=Az.mk (pop_at HM4.out.drew HG3.out.lt m (by rw [HZ.out.1]; exact Nat.le_refl _) HPLB.out)
    go_region_law ((
      go_simp
      go_at_call 35
      (with_reducible refine HPOP.out.mono ?_)
      rintro e w4 ⟨Av4,cv4,us4,ok4,As4,cs4,sv4,Ap4,cp4,rfl,hr4,hc4,hg4,hm4⟩
      have HR4:=Az.mk hr4
      have HC4:=Az.mk hc4
      have HG4:=Az.mk (HG3.out.drew.trans hg4)
      have HGP:=Az.mk hg4
      have HM5:=Az.mk hm4
      have M4:∀ o,(w4.alloc o).cell? ⟨p.gm,1,none⟩=some (.pointer (some ⟨g,0,none⟩)):=fun o=>(blk_cell (bkA hm4.cel o) 1).trans rfl
      have F4:∀ o,(w4.alloc o).frozen? ⟨p.gm,1,none⟩=false:=fun o=>bkF (bkA hm4.cel o) 1
      clear hr4 hc4 hg4 hm4))
    have hlo4:lo≤w4.heap.size:=by have:=HM5.out.low; have:=blk_lt HM5.out.cel; omega
    have HBA:=Az.mk (bal (Below.refl w4.heap.size w4) (.cells #[.pointer (some ⟨(af.add (t1.toNat*5)).block,(af.add (t1.toNat*5)).off+2,none⟩),.slice Av4 us4.length cv4] 89))
    have hst:∀ k,ok4 k→k < w4.heap.size→(w4.alloc (.cells #[.pointer (some ⟨(af.add (t1.toNat*5)).block,(af.add (t1.toNat*5)).off+2,none⟩),.slice Av4 us4.length cv4] 89)).heap[k]?=w4.heap[k]?:=fun k _ hk=>HBA.out.block k hk
    have HM6:=Az.mk (HM5.out.more (ok':=fun k=>ok4 k∨k=w4.heap.size) HBA.out (fun _ h=>.inl h) (fun k h=>h.imp id (fun e=>by omega)))
    have HG6:=Az.mk (HG4.out.trans (Gr.of_below (ok':=fun k=>ok4 k∨k=w4.heap.size) hlo4 HBA.out (fun _ h=>.inl h) (fun k h=>h.imp id (fun e=>by omega)) (fun k h=>by
      rw [World.size_alloc]
      rcases h with h | h
      · have:=HG4.out.lt k h
        omega
      · omega)))
    have hTb:=TmAt_imp (TmAt_imp HBD3.out (HGP.out.keep HM4.out.drew) (fun k hk=>HGP.out.up k hk)) hst (fun k hk=>(show ok4 k∨k=w4.heap.size from .inl hk))
    have hRb:Row (w4.alloc (.cells #[.pointer (some ⟨(af.add (t1.toNat*5)).block,(af.add (t1.toNat*5)).off+2,none⟩),.slice Av4 us4.length cv4] 89)) (fun k=>ok4 k∨k=w4.heap.size) (.slice Av4 us4.length cv4) us4:=Kd.V_mono (Kd.V_step HR4.out hst) (fun k hk=>.inl hk)
    have hCb:=CML_imp (ok1:=fun k=>ok4 k∨k=w4.heap.size) hst (fun k hk _=>.inl hk) _ _ HC4.out
    rw [List.take_of_length_le (Nat.le_of_eq HZ.out.1)] at hCb
    have hCN:CM (w4.alloc (.cells #[.pointer (some ⟨(af.add (t1.toNat*5)).block,(af.add (t1.toNat*5)).off+2,none⟩),.slice Av4 us4.length cv4] 89)) (fun k=>ok4 k∨k=w4.heap.size) (.mk B ST) (.pointer (some ⟨w4.heap.size,0,none⟩)):=by
      unfold CM
      exact ⟨w4.heap.size,_,_,us4,rfl,.inr rfl,blk_new w4 _,hTb,hRb,hCb⟩
    have hdr:ST.drop m=[]:=List.drop_eq_nil_of_le (Nat.le_of_eq HZ.out.1)
    rw [hdr] at HM6
    have HM7:=Az.mk (HM6.out.sets 1 (.pointer (some ⟨w4.heap.size,0,none⟩)) (s':=⟨.mk B ST,[],used+newC l+1,path,false,false⟩) (p':=⟨p.gm,gS',.pointer (some ⟨w4.heap.size,0,none⟩),As4,cs4,sv4,Ap4,cp4⟩) rfl rfl rfl hCN HM6.out.stk HM6.out.row HM6.out.pth (fun _ h=>h))
    have HM8:=Az.mk HM7.out.1
    have HG8:=Az.mk (HG6.out.trans (HM7.out.2 HG6.out.lt))
    have HU8:=Az.mk (show 0≤used+newC l+1∧used+newC l+1≤1050000 from by omega)
    have HN8:=Az.mk (show 0≤n+1∧n+1≤fuel from by have:=HN.out; have h:n≠fuel:=beq_eq_false_iff_ne.1 q6; omega)
    clear HM7 HM6 HG6 hCN hCb hRb hTb hst HBA HM5 HG4 HGP HR4 HC4 M4 F4 SA3 hdr hlo4 HPOP HM4 HG3
    generalize (w4.alloc (.cells #[.pointer (some ⟨(af.add (t1.toNat*5)).block,(af.add (t1.toNat*5)).off+2,none⟩),.slice Av4 us4.length cv4] 89)).setCell ⟨p.gm,1,none⟩ (.pointer (some ⟨w4.heap.size,0,none⟩))=w8 at *
    go_wp2_with fail
    go_roundg k1
    case measure=>omega
    case rel=>exact ⟨n+1,_,_,.mk B ST,[],used+newC l+1,rfl,HMM,HN8,⟨HZ.out.2⟩,HU8,HM8,HG8⟩
end Go.Proofs.Ytkgknidogelffaa.I
namespace Go.Proofs.Ytkgknidogelffaa.I
open Go.RowKit Go.Proofs.YtkgknidogelffaaW.PrintWords Go.Proofs.YtkgknidogelffaaW.PrintLast Go.Proofs.YtkgknidogelffaaW.PrintMore
attribute [local go_sem] max2_int min2_int max_two min_two max_three min_three max_four min_four
set_option linter.unusedVariables false
set_option maxRecDepth 100000
set_option linter.unusedSimpArgs false
def ownF (x:S41):S41:=⟨⟨#[]⟩,⟨List.replicate x.f1.f0.length z39⟩,x.f2⟩
theorem sameF_own (l1:List S41):SameF (l1.map ownF) l1:=by
  refine ⟨by rw [List.length_map],fun n h0 h=>?_⟩
  rw [rd41_at h0 h,rd41_at h0 (by rw [List.length_map]; exact h),List.getElem_map]
  exact ⟨by show (List.replicate _ z39).length=_; rw [List.length_replicate],rfl⟩
theorem ownF_snoc {l:List S41} {i:Nat} (h:i < l.length):(l.take i).map ownF ++ [ownF (rd_T41 l (i:Int))]=(l.take (i+1)).map ownF:=by
  rw [rd41_at (by omega) (by omega),List.take_add_one,List.getElem?_eq_getElem (by omega),List.map_append]
  rfl
theorem tm_new {w:World} {ok:Nat→Prop} {g:Nat} {a b:Int} (h:w.heap[g]?=some (.cells #[.int .i64 a,.int .i64 b,.slice none 0 0] 36 (0,0))) (hg:ok g):TmAt w ok ⟨a,b,[]⟩ ⟨g,0,none⟩:=fun W' hW=>by
  have h2:=(hW g hg (blk_lt h)).trans h
  refine ⟨rfl,by decide,fun _=>⟨_,rfl,fun i p hp=>?_⟩⟩
  have hi:i=0:=by
    rcases i with _ | i
    · rfl
    · simp at hp
  subst hi
  have hp:(⟨a,b,[]⟩:S36)=p:=by simpa using hp
  subst hp
  refine ⟨[.int .i64 a,.int .i64 b,.slice none 0 0],rfl,k36_mk W' ⟨a,b,[]⟩ (c2:=0) (Nat.zero_le _) (Kd.C_nil k36 W'),fun j u hu=>?_⟩
  rw [show 0*k36.sz+j=j from by omega,add_at,Nat.zero_add,blk_cell h2 j]
  simpa using hu
set_option maxHeartbeats 4000000 in
theorem new_err (A0:Option Addr) (c0:Nat) (l0:List S84) (A1:Option Addr) (c1:Nat) (l1:List S41) (w:World) (hr0:Kd.C k84 w A0 l0.length l0) (hc0:l0.length≤c0) (hr1:Kd.C k41 w A1 l1.length l1) (hc1:l1.length≤c1) (hb:¬ schB l0 l1=true) :
    Calls Try.prog 11 #[.agg #[.slice A0 l0.length c0,.slice A1 l1.length c1]] w fun e w'=>e=.returned (.tuple #[.pointer none,.int .i64 7])∧Below w.heap.size w w':=by
  have hu25:=Try.underlying25
  have HR0:=Az.mk hr0
  have HR1:=Az.mk hr1
  have HC:=Az.mk (And.intro hc0 hc1)
  have HB:=Az.mk hb
  clear hr0 hr1 hc0 hc1 hb
  go_enter Try.func11,Try.ntmps11
  go_wp2_with (
      ((with_reducible refine gate_dst (N:=1) rfl ?_)
       refine box_event ?hg (N:=1) ?hd (cs:=#[.slice A0 l0.length c0,.slice A1 l1.length c1]) (t:=25) ?hr ?_
       (case hd=>rfl)
       (case hg=>rfl)
       (case hr=>first | (go_simp; done) | (go_simp; rfl))
       intro g1 hg1 w1 hbox hb1
       have S1:=Az.mk hbox
       have HB1:=Az.mk hb1
       have e0:w1.cell? ⟨g1,0,none⟩=some (.slice A0 l0.length c0):=(blk_cell hbox 0).trans rfl
       have e1:w1.cell? ⟨g1,1,none⟩=some (.slice A1 l1.length c1):=(blk_cell hbox 1).trans rfl
       clear hbox hb1 hg1))
  (with_reducible refine (schk_calls A0 c0 l0 A1 c1 l1 w1 (Kd.C_below HR0.out HB1.out) HC.out.1 (Kd.C_below HR1.out HB1.out) HC.out.2).mono ?_)
  rintro e w2 ⟨rfl,hb2⟩
  rw [if_neg HB.out]
  have HB2:=Az.mk (bst HB1.out hb2)
  clear hb2 e0 e1
  go_wp2_with fail
  refine bodyPost_ret (results_tmp2 rfl _ _ _) rfl ?_
  exact ⟨rfl,HB2.out⟩
set_option maxHeartbeats 16000000 in
theorem new_ok (A0:Option Addr) (c0:Nat) (l0:List S84) (A1:Option Addr) (c1:Nat) (l1:List S41) (w:World) (hr0:Kd.C k84 w A0 l0.length l0) (hc0:l0.length≤c0) (hr1:Kd.C k41 w A1 l1.length l1) (hc1:l1.length≤c1) (hb:schB l0 l1=true) :
    Calls Try.prog 11 #[.agg #[.slice A0 l0.length c0,.slice A1 l1.length c1]] w fun e w'=>∃ p:MP,e=.returned (.tuple #[.pointer (some ⟨p.gm,0,none⟩),.int .i64 0])∧MM w' w.heap.size (fun k=>w.heap.size≤k∧k < w'.heap.size∧k≠p.gm) (l1.map ownF) ⟨.mk ⟨1,0,[]⟩ [],[],1,[],false,false⟩ p∧Below w.heap.size w w'∧∀ k,p.own k→w.heap.size≤k:=by
  have hu25:=Try.underlying25
  have hu41:=Try.underlying41
  have hu39:=Try.underlying39
  have hu36:=Try.underlying36
  have hu23:=Try.underlying23
  have hu37:=Try.underlying37
  have h64:=(sch_parts hb).2.2
  have hlen0:l0.length≤9223372036854775807:=hr0.2.1
  have hsy:l0.length≤4000000000:=by
    have h:=hb
    rw [schB_eq] at h
    simp only [Bool.and_eq_true,decide_eq_true_eq] at h
    have:=h.1.2
    omega
  have HSM:=Az.mk (show ∀ x ∈ l1,x.f1.f0.length≤59∧tcntL x.f2.f2≤1000 from fun x hx=>by
    have h1:=(sch_parts hb).1.2.1 x.f1 (List.mem_map_of_mem hx)
    have h2:=cntL_ge x.f1.f0
    have h3:=(sch_bodies hb).2 x hx
    have h4:=tcnt_f2 x.f2
    omega)
  have HR0:=Az.mk hr0
  have HR1:=Az.mk hr1
  have HC:=Az.mk (And.intro hc0 hc1)
  have HB:=Az.mk hb
  have H64:=Az.mk h64
  have HSY:=Az.mk hsy
  have hlb:(l1.length:Int)≤64:=by omega
  clear hr0 hr1 hc0 hc1 hb h64 hsy
  go_enter Try.func11,Try.ntmps11
  go_wp2_with (
      ((with_reducible refine gate_dst (N:=1) rfl ?_)
       refine box_event ?hg (N:=1) ?hd (cs:=#[.slice A0 l0.length c0,.slice A1 l1.length c1]) (t:=25) ?hr ?_
       (case hd=>rfl)
       (case hg=>rfl)
       (case hr=>first | (go_simp; done) | (go_simp; rfl))
       intro g1 hg1 w1 hbox hb1
       have S1:=Az.mk hbox
       have HB1:=Az.mk hb1
       have e0:w1.cell? ⟨g1,0,none⟩=some (.slice A0 l0.length c0):=(blk_cell hbox 0).trans rfl
       have e1:w1.cell? ⟨g1,1,none⟩=some (.slice A1 l1.length c1):=(blk_cell hbox 1).trans rfl
       clear hbox hb1 hg1))
  (with_reducible refine (schk_calls A0 c0 l0 A1 c1 l1 w1 (Kd.C_below HR0.out HB1.out) HC.out.1 (Kd.C_below HR1.out HB1.out) HC.out.2).mono ?_)
  rintro e w2 ⟨rfl,hb2⟩
  rw [if_pos HB.out]
  have HB2:=Az.mk (bst HB1.out hb2)
  have S12:=Az.mk (bkB S1.out hb2)
  have d0:w2.cell? ⟨g1,0,none⟩=some (.slice A0 l0.length c0):=(blk_cell S12.out 0).trans rfl
  clear hb2 e0 e1 S1 HB1
  go_wp2_with fail
  (with_reducible refine (cloneS A0 c0 l0 w2 (Kd.C_below HR0.out HB2.out) HSY.out).mono ?_)
  rintro e w3 ⟨vs,rfl,hrs,hb3⟩
  obtain ⟨As,cs,rfl⟩:=Kd.R_slice hrs
  have HB3:=Az.mk (bst HB2.out hb3)
  have S13:=Az.mk (bkB S12.out hb3)
  clear hb3 hrs d0 S12 HB2
  go_wp2_with (
      ((with_reducible refine gate_dst (N:=17) rfl ?_)
       refine box_event ?hg (N:=17) ?hd (cs:=#[.slice As l0.length cs,.slice none 0 0]) (t:=25) ?hr ?_
       (case hd=>rfl)
       (case hg=>rfl)
       (case hr=>first | (go_simp; done) | (go_simp; rfl))
       intro g5 hg5 w4 hbox hb4
       have S5:=Az.mk hbox
       have HB4:=Az.mk (bst HB3.out hb4)
       have S14:=Az.mk (bkB S13.out hb4)
       have HG5:=Az.mk (show w.heap.size≤g5 from by have:=HB3.out.size; omega)
       have e1:w4.cell? ⟨g1,1,none⟩=some (.slice A1 l1.length c1):=(blk_cell S14.out 1).trans rfl
       clear hbox hb4 hg5))
  clear S13 HB3
  go_loopg [21] l1.length (fun kq v21 wr=>∃ (i:Nat) (Af:Option Addr) (cf:Nat),v21=.int .i64 (i:Int)∧Az (i+kq=l1.length)∧Az (Kd.R k41 41 wr w.heap.size (fun _=>True) (.slice Af i cf) ((l1.take i).map ownF))∧Az (wr.heap[g5]?=some (.cells #[.slice As l0.length cs,.slice Af i cf] 25 (0,0)))∧Az (Below w.heap.size w wr))
  case atStart=>exact ⟨0,none,0,rfl,⟨by omega⟩,⟨Kd.R_nil _ _ _ _ _⟩,S5,HB4⟩
  case round =>
    clear S5 HB4
    obtain ⟨i,Af,cf,rfl,Hi,HRf,S5,HB⟩:=hrel
    cases gk with
    | zero =>
      have hie:i=l1.length:=by have:=Hi.out; omega
      subst hie
      have HRx:=HRf.out
      rw [List.take_length] at HRx
      have HF:=Az.mk HRx
      clear HRx HRf Hi S14
      go_wp2_with (first
        | ((with_reducible refine gate_dst (N:=47) rfl ?_)
           refine box_event ?hg (N:=47) ?hd (cs:=#[.int .i64 1,.int .i64 0,.slice none 0 0]) (t:=36) ?hr ?_
           (case hd=>rfl)
           (case hg=>rfl)
           (case hr=>first | (go_simp; done) | (go_simp; rfl))
           intro g7 hg7 w7 hbox hb7
           have S7:=Az.mk hbox
           have HB7:=Az.mk (bst HB.out hb7)
           have S57:=Az.mk (bkB S5.out hb7)
           have HF7:=Az.mk (Kd.R_below HF.out hb7)
           have HG7:=Az.mk (show w.heap.size≤g7 from by have:=HB.out.size; omega)
           clear hbox hb7 hg7)
        | ((with_reducible refine gate_dst (N:=49) rfl ?_)
           refine box_event ?hg (N:=49) ?hd (cs:=#[.pointer (some ⟨g7,0,none⟩),.slice none 0 0]) (t:=89) ?hr ?_
           (case hd=>rfl)
           (case hg=>rfl)
           (case hr=>first | (go_simp; done) | (go_simp; rfl))
           intro g9 hg9 w9 hbox hb9
           have S9:=Az.mk hbox
           have HB9:=Az.mk (bst HB7.out hb9)
           have S59:=Az.mk (bkB S57.out hb9)
           have S79:=Az.mk (bkB S7.out hb9)
           have HF9:=Az.mk (Kd.R_below HF7.out hb9)
           have HG9:=Az.mk (show w.heap.size≤g9 from by have:=HB7.out.size; omega)
           clear hbox hb9 hg9)
        | ((with_reducible refine gate_dst (N:=52) rfl ?_)
           refine box_event ?hg (N:=52) ?hd (cs:=#[.pointer (some ⟨g5,0,none⟩),.pointer (some ⟨g9,0,none⟩),.slice none 0 0,.int .i64 1,.slice none 0 0,.bool false,.bool false]) (t:=93) ?hr ?_
           (case hd=>rfl)
           (case hg=>rfl)
           (case hr=>first | (go_simp; done) | (go_simp; rfl))
           intro gm hgm w10 hbox hb10
           have S10:=Az.mk hbox
           have HB10:=Az.mk (bst HB9.out hb10)
           have S510:=Az.mk (bkB S59.out hb10)
           have S710:=Az.mk (bkB S79.out hb10)
           have S910:=Az.mk (bkB S9.out hb10)
           have HF10:=Az.mk (Kd.R_below (Kd.R_bound HF9.out) hb10)
           have HGM:=Az.mk hgm
           have HSZ10:=Az.mk hb10.size
           have HSZ9:=Az.mk HB9.out.size
           have L5:=Az.mk (blk_lt S59.out)
           have L7:=Az.mk (blk_lt S79.out)
           have L9:=Az.mk (blk_lt S9.out)
           clear hbox hb10 hgm))
      refine bodyPost_ret (results_tmp2 rfl _ _ _) rfl ?_
      have hlt10:=blk_lt S10.out
      have hg:=HGM.out
      have h9:=HSZ9.out
      have l5:=L5.out
      have l7:=L7.out
      have l9:=L9.out
      have hokn:∀ k,w.heap.size≤k→k < w9.heap.size→(w.heap.size≤k∧k < w10.heap.size∧k≠gm):=fun k h1 h2=>⟨h1,by omega,by omega⟩
      refine ⟨⟨gm,g5,.pointer (some ⟨g9,0,none⟩),none,0,[],none,0⟩,rfl,⟨S10.out,?_,CML_nil,World.ownsRow_nil ..,World.ownsRow_nil ..,⟨As,l0.length,cs,Af,cf,?_,?_⟩,hokn _ HG5.out l5,by show w.heap.size≤gm; omega,fun k hk ho=>?_⟩,HB10.out,fun k hk=>?_⟩
      · unfold CM
        exact ⟨g9,⟨g7,0,none⟩,.slice none 0 0,[],rfl,hokn _ HG9.out l9,S910.out,tm_new S710.out (hokn _ HG7.out l7),Kd.V_nil _ _ _ _ _,CML_nil⟩
      · rw [List.length_map]; exact S510.out
      · rw [List.length_map]
        exact Kd.R_V (Kd.R_mono HF10.out (fun k hk=>hokn k hk.2.1 hk.2.2.1))
      · rcases hk with hk | hk | hk
        · exact ho.2.2 hk
        · cases hk
        · cases hk
      · rcases hk with hk | hk | hk
        · rw [hk]; show w.heap.size≤gm; omega
        · cases hk
        · cases hk
    | succ k1 =>
    have hlt:i < l1.length:=by have:=Hi.out; omega
    obtain ⟨ad0,A3,c3,A4,c4,he,hx0,hx1,hx2,hx3,hx4,_,_,hl4,hC4⟩:=at_T41 HR1.out (i:Int) (by omega) (by omega)
    cases he
    replace hx0:=cell_up HB.out hx0
    replace hx1:=cell_up HB.out hx1
    replace hx2:=cell_up HB.out hx2
    replace hx3:=cell_up HB.out hx3
    replace hx4:=cell_up HB.out hx4
    rw [Int.toNat_natCast] at hx0 hx1 hx2 hx3 hx4
    have HC4:=Az.mk (Kd.C_below hC4 HB.out)
    have Hl4:=Az.mk hl4
    have HSN:=Az.mk (ownF_snoc hlt)
    have hmem:rd_T41 l1 (i:Int) ∈ l1:=by rw [rd41_at (by omega) (by omega)]; exact List.getElem_mem _
    have HSZ:=Az.mk (HSM.out _ hmem)
    have Hlt:=Az.mk hlt
    have HK1:=Az.mk (show i+1+k1=l1.length from by have:=Hi.out; omega)
    have q1:(0≤(i:Int))=True:=eq_true (by omega)
    have q2:((i:Int) < (l1.length:Int))=True:=eq_true (by omega)
    have q3:(i < l1.length)=True:=eq_true hlt
    have q4:(i:Int)≤64:=by omega
    clear hl4 hC4 hmem hlt
    generalize rd_T41 l1 (i:Int)=x at *
    obtain ⟨ob,hmk,hobR⟩:=make_sorts x.f1.f0.length (by have:=HSZ.out.1; omega)
    have hmr:∀ w:World,(Instr.makeSlice 37 (.int .i64 (x.f1.f0.length:Int)) (.int .i64 (x.f1.f0.length:Int))).run Try.prog w=.ok (.slice (some ⟨w.heap.size,0,none⟩) x.f1.f0.length x.f1.f0.length) (w.alloc ob):=hmk
    have HOB:=Az.mk hobR
    clear hmk hobR
    have HCP:=Az.mk (fun (W:World) (h:Kd.C k36 W A4 x.f2.f2.length x.f2.f2)=>copied_calls (SizeOf.sizeOf x.f2.f2+1) x.f2.f0 x.f2.f1 x.f2.f2 A4 c4 W (Nat.lt_succ_self _) HSZ.out.2 h Hl4.out)
    go_upto_block 1 with fail
    try simp only [Act.put,List.setIfInBounds_toArray,List.set_cons_succ,List.set_cons_zero]
    go_cut [7,21] from 22 to 44 (fun v7 v21 wc=>∃ (A5:Option Addr) (c5:Nat),v21=.int .i64 (i:Int)∧Az (Kd.R k41 41 wc w.heap.size (fun _=>True) (.slice A5 (i+1) c5) ((l1.take (i+1)).map ownF))∧Az (wc.heap[g5]?=some (.cells #[.slice As l0.length cs,.slice A5 (i+1) c5] 25 (0,0)))∧Az (Below w.heap.size w wc))
    case rest =>
      obtain ⟨A5,c5,rfl,HR8,S8,HB8⟩:=hcut
      clear hx0 hx1 hx2 hx3 hx4
      go_wp2_with fail
      go_roundg k1
      case measure=>omega
      case rel=>exact ⟨i+1,A5,c5,by go_num,HK1,HR8,S8,HB8⟩
    case first =>
    go_upto_region 8 with (
      ((with_reducible refine gate_dst (N:=7) rfl ?_)
       refine box_event ?hg (N:=7) ?hd (cs:=#[.string (⟨#[]⟩:ByteArray),.slice none 0 0,.int .i64 0,.int .i64 0,.slice none 0 0]) (t:=41) ?hr ?_
       (case hd=>rfl)
       (case hg=>rfl)
       (case hr=>first | (go_simp; done) | (go_simp; rfl))
       intro gi hgi w6 hbox hbb
       have hgw:wr.heap.size≤gi:=by omega
       have Hbw:=Az.mk (bset (g:=gi) (j:=4) (v:=.slice A4 x.f2.f2.length c4) (bset (g:=gi) (j:=3) (v:=.int .i64 x.f2.f1) (bset (g:=gi) (j:=2) (v:=.int .i64 x.f2.f0) (bset (g:=gi) (j:=1) (v:=.slice A3 x.f1.f0.length c3) (bset (g:=gi) (j:=0) (v:=.string x.f0) hbb hgw) hgw) hgw) hgw) hgw)
       have Sgi:=Az.mk (blk_put (cs':=#[.string x.f0,.slice A3 x.f1.f0.length c3,.int .i64 x.f2.f0,.int .i64 x.f2.f1,.slice A4 x.f2.f2.length c4]) (blk_put (cs':=#[.string x.f0,.slice A3 x.f1.f0.length c3,.int .i64 x.f2.f0,.int .i64 x.f2.f1,.slice none 0 0]) (blk_put (cs':=#[.string x.f0,.slice A3 x.f1.f0.length c3,.int .i64 x.f2.f0,.int .i64 0,.slice none 0 0]) (blk_put (cs':=#[.string x.f0,.slice A3 x.f1.f0.length c3,.int .i64 0,.int .i64 0,.slice none 0 0]) (blk_put (cs':=#[.string x.f0,.slice none 0 0,.int .i64 0,.int .i64 0,.slice none 0 0]) hbox 0 (.string x.f0) rfl) 1 (.slice A3 x.f1.f0.length c3) rfl) 2 (.int .i64 x.f2.f0) rfl) 3 (.int .i64 x.f2.f1) rfl) 4 (.slice A4 x.f2.f2.length c4) rfl)
       have hczgi0:=(blk_cell hbox 0).trans rfl
       have hfzgi0:=bkF hbox 0
       have hczgi1:=(blk_cell hbox 1).trans rfl
       have hfzgi1:=bkF hbox 1
       have hczgi2:=(blk_cell hbox 2).trans rfl
       have hfzgi2:=bkF hbox 2
       have hczgi3:=(blk_cell hbox 3).trans rfl
       have hfzgi3:=bkF hbox 3
       have hczgi4:=(blk_cell hbox 4).trans rfl
       have hfzgi4:=bkF hbox 4
       clear hbox hbb hgi hgw))
    clear hczgi0 hfzgi0 hczgi1 hfzgi1 hczgi2 hfzgi2 hczgi3 hfzgi3 hczgi4 hfzgi4 hx0 hx1 hx2 hx3 hx4
    generalize (((((w6.setCell ⟨gi,0,none⟩ (.string x.f0)).setCell ⟨gi,1,none⟩ (.slice A3 x.f1.f0.length c3)).setCell ⟨gi,2,none⟩ (.int .i64 x.f2.f0)).setCell ⟨gi,3,none⟩ (.int .i64 x.f2.f1)).setCell ⟨gi,4,none⟩ (.slice A4 x.f2.f2.length c4))=wq at *
    have HBq:=Az.mk (bst HB.out Hbw.out)
    have HRfq:=Az.mk (Kd.R_below HRf.out Hbw.out)
    have S5q:=Az.mk (bkB S5.out Hbw.out)
    have HCq:=Az.mk (Kd.C_below HC4.out Hbw.out)
    have n1:wq.cell? ⟨gi,1,none⟩=some (.slice A3 x.f1.f0.length c3):=(blk_cell Sgi.out 1).trans rfl
    have n2:wq.cell? ⟨gi,2,none⟩=some (.int .i64 x.f2.f0):=(blk_cell Sgi.out 2).trans rfl
    have n3:wq.cell? ⟨gi,3,none⟩=some (.int .i64 x.f2.f1):=(blk_cell Sgi.out 3).trans rfl
    have n4:wq.cell? ⟨gi,4,none⟩=some (.slice A4 x.f2.f2.length c4):=(blk_cell Sgi.out 4).trans rfl
    have m1:wq.cell? ⟨g5,1,none⟩=some (.slice Af i cf):=(blk_cell S5q.out 1).trans rfl
    have n2':∀ o:Obj,(wq.alloc o).cell? ⟨gi,2,none⟩=some (.int .i64 x.f2.f0):=fun o=>(blk_cell (bkA Sgi.out o) 2).trans rfl
    have n3':∀ o:Obj,(wq.alloc o).cell? ⟨gi,3,none⟩=some (.int .i64 x.f2.f1):=fun o=>(blk_cell (bkA Sgi.out o) 3).trans rfl
    have n4':∀ o:Obj,(wq.alloc o).cell? ⟨gi,4,none⟩=some (.slice A4 x.f2.f2.length c4):=fun o=>(blk_cell (bkA Sgi.out o) 4).trans rfl
    have m1':∀ o:Obj,(wq.alloc o).cell? ⟨g5,1,none⟩=some (.slice Af i cf):=fun o=>(blk_cell (bkA S5q.out o) 1).trans rfl
    clear HB HRf S5 HC4 Hbw
    go_region_law
      (first
        | (
           refine Kd.R_append_step k41 (w0:=w) (W:=wA) w.heap.size rfl (.tmp 29) (.tmp 40) 23 41 (.agg #[.string ⟨#[]⟩,.slice none 0 0,.int .i64 0,.int .i64 0,.slice none 0 0]) 80 rfl Try.underlying23 ?a1 rfl ?a2 ?a3 (.slice Af i cf) ((l1.take i).map ownF) (ownF x) [.string ⟨#[]⟩,.slice (some ⟨wq.heap.size,0,none⟩) x.f1.f0.length x.f1.f0.length,.int .i64 x.f2.f0,.int .i64 x.f2.f1,v4] (fun _=>True) (fun k=>∃ q cells,q≠41∧wA.heap[k]?=some (.cells cells q (0,0))) ?a4 ?a5 ?a6 ?a7 (fun _ _=>trivial) HRfA.out HBA.out ?a8 ?a9 ?_
           (case a1=>kernel_rfl)
           (case a2=>decide)
           (case a3=>omega)
           (case a4=>rfl)
           (case a5=>first | rfl | (simp only [World.size_alloc,World.size_drew]; rfl))
           (case a6=>exact k41_mkM _ _ _ (ownF x) (Kd.R_mono (Kd.R_bound HRMA.out) (fun k hk=>by obtain ⟨_,_,_,q,hq,cells,hc⟩:=hk; refine ⟨q,cells,?_,hc⟩; rcases List.mem_cons.1 hq with rfl | hq; decide; rw [List.mem_singleton.1 hq]; decide)) (Kd.R_mono (Kd.R_bound HR4A.out) (fun k hk=>by obtain ⟨_,_,_,q,hq,cells,hc⟩:=hk; refine ⟨q,cells,?_,hc⟩; rcases List.mem_cons.1 hq with rfl | hq; decide; rw [List.mem_singleton.1 hq]; decide)))
           (case a7=>exact fun k hk=>⟨trivial,fun he=>by obtain ⟨q,cells,hq,hc⟩:=hk; obtain ⟨c2,h2⟩:=Kd.R_typed HRfA.out k he.symm; exact hq (blk_type hc h2)⟩)
           (case a8=>exact (HBA.out).size)
           (case a9=>(rw [List.length_map,List.length_take]; have:=H64.out; omega))
           intro v2 w7 hrf hb7 hg7 hat
           rw [HSN.out] at hrf
           obtain ⟨A5,c5,e5⟩:=Kd.R_slice hrf
           rw [List.length_map,List.length_take,Nat.min_eq_left (by have:=Hlt.out; omega)] at e5
           subst e5
           have tf:=Kd.R_typed HRfA.out
           have HRf7:=Az.mk hrf
           have HB7:=Az.mk hb7
           have S57:=Az.mk (grownT S5A.out hg7 (fun k hk=>by obtain ⟨c,hc⟩:=tf k hk; exact ⟨41,c,by decide,hc⟩))
           have m7:w7.cell? ⟨g5,1,none⟩=some (.slice Af i cf):=(blk_cell S57.out 1).trans rfl
           have f7:w7.frozen? ⟨g5,1,none⟩=false:=bkF S57.out 1
           clear hrf hb7 hg7 hat tf a0)
        | (
           refine Kd.R_append_step k41 (w0:=w) (W:=(wA.alloc ob)) w.heap.size rfl (.tmp 29) (.tmp 40) 23 41 (.agg #[.string ⟨#[]⟩,.slice none 0 0,.int .i64 0,.int .i64 0,.slice none 0 0]) 80 rfl Try.underlying23 ?a1 rfl ?a2 ?a3 (.slice Af i cf) ((l1.take i).map ownF) (ownF x) [.string ⟨#[]⟩,.slice (some ⟨wA.heap.size,0,none⟩) x.f1.f0.length x.f1.f0.length,.int .i64 x.f2.f0,.int .i64 x.f2.f1,v4] (fun _=>True) (fun k=>∃ q cells,q≠41∧(wA.alloc ob).heap[k]?=some (.cells cells q (0,0))) ?a4 ?a5 ?a6 ?a7 (fun _ _=>trivial) (Kd.R_alloc HRfA.out ob) (bal HBA.out ob) ?a8 ?a9 ?_
           (case a1=>kernel_rfl)
           (case a2=>decide)
           (case a3=>omega)
           (case a4=>rfl)
           (case a5=>first | rfl | (simp only [World.size_alloc,World.size_drew]; rfl))
           (case a6=>exact k41_mkM _ _ _ (ownF x) (Kd.R_mono (Kd.R_bound (HOB.out wA w.heap.size HBA.out.size)) (fun k hk=>by obtain ⟨_,_,_,q,hq,cells,hc⟩:=hk; refine ⟨q,cells,?_,hc⟩; rcases List.mem_cons.1 hq with rfl | hq; decide; rw [List.mem_singleton.1 hq]; decide)) (Kd.R_mono (Kd.R_bound (Kd.R_alloc HR4A.out ob)) (fun k hk=>by obtain ⟨_,_,_,q,hq,cells,hc⟩:=hk; refine ⟨q,cells,?_,hc⟩; rcases List.mem_cons.1 hq with rfl | hq; decide; rw [List.mem_singleton.1 hq]; decide)))
           (case a7=>exact fun k hk=>⟨trivial,fun he=>by obtain ⟨q,cells,hq,hc⟩:=hk; obtain ⟨c2,h2⟩:=Kd.R_typed (Kd.R_alloc HRfA.out ob) k he.symm; exact hq (blk_type hc h2)⟩)
           (case a8=>exact ((bal HBA.out ob)).size)
           (case a9=>(rw [List.length_map,List.length_take]; have:=H64.out; omega))
           intro v2 w7 hrf hb7 hg7 hat
           rw [HSN.out] at hrf
           obtain ⟨A5,c5,e5⟩:=Kd.R_slice hrf
           rw [List.length_map,List.length_take,Nat.min_eq_left (by have:=Hlt.out; omega)] at e5
           subst e5
           have tf:=Kd.R_typed (Kd.R_alloc HRfA.out ob)
           have HRf7:=Az.mk hrf
           have HB7:=Az.mk hb7
           have S57:=Az.mk (grownT (bkA S5A.out ob) hg7 (fun k hk=>by obtain ⟨c,hc⟩:=tf k hk; exact ⟨41,c,by decide,hc⟩))
           have m7:w7.cell? ⟨g5,1,none⟩=some (.slice Af i cf):=(blk_cell S57.out 1).trans rfl
           have f7:w7.frozen? ⟨g5,1,none⟩=false:=bkF S57.out 1
           clear hrf hb7 hg7 hat tf a0)
        | (go_simp
           go_at_call 33
           first
           | (
              (with_reducible refine (HCP.out (wq.alloc ob).drew (Kd.C_below HCq.out (below_drew (bal (Below.refl wq.heap.size wq) ob)))).mono ?_)
              rintro e9 wA ⟨v4,rfl,hR4,hbA⟩
              have hwq:Below wq.heap.size wq wA:=bst (below_drew (bal (Below.refl wq.heap.size wq) ob)) hbA
              have HR4A:=Az.mk (Kd.R_lower (show Kd.R k36 36 wA ((wq.alloc ob).drew).heap.size (fun _=>True) v4 x.f2.f2 from hR4) (show w.heap.size≤((wq.alloc ob).drew).heap.size from (bst HBq.out (below_drew (bal (Below.refl wq.heap.size wq) ob))).size))
              have HRfA:=Az.mk (Kd.R_below HRfq.out hwq)
              have HBA:=Az.mk (bst HBq.out hwq)
              have S5A:=Az.mk (bkB S5q.out hwq)
              have SgiA:=Az.mk (bkB Sgi.out hwq)
              have a0:wA.cell? ⟨g5,1,none⟩=some (.slice Af i cf):=(blk_cell S5A.out 1).trans rfl
              have a1:wA.cell? ⟨gi,1,none⟩=some (.slice A3 x.f1.f0.length c3):=(blk_cell SgiA.out 1).trans rfl
              have b0:∀ o:Obj,(wA.alloc o).cell? ⟨g5,1,none⟩=some (.slice Af i cf):=fun o=>(blk_cell (bkA S5A.out o) 1).trans rfl
              have b1:∀ o o':Obj,((wA.alloc o).alloc o').cell? ⟨g5,1,none⟩=some (.slice Af i cf):=fun o o'=>(blk_cell (bkA (bkA S5A.out o) o') 1).trans rfl
              have HRMA:=Az.mk (Kd.R_below (Kd.R_drew (HOB.out wq w.heap.size HBq.out.size)) hbA)
              clear hR4 hwq hbA)
           | (
              (with_reducible refine (HCP.out wq.drew (Kd.C_below HCq.out (below_drew (Below.refl wq.heap.size wq)))).mono ?_)
              rintro e9 wA ⟨v4,rfl,hR4,hbA⟩
              have hwq:Below wq.heap.size wq wA:=bst (below_drew (Below.refl wq.heap.size wq)) hbA
              have HR4A:=Az.mk (Kd.R_lower (show Kd.R k36 36 wA (wq.drew).heap.size (fun _=>True) v4 x.f2.f2 from hR4) (show w.heap.size≤(wq.drew).heap.size from (bst HBq.out (below_drew (Below.refl wq.heap.size wq))).size))
              have HRfA:=Az.mk (Kd.R_below HRfq.out hwq)
              have HBA:=Az.mk (bst HBq.out hwq)
              have S5A:=Az.mk (bkB S5q.out hwq)
              have SgiA:=Az.mk (bkB Sgi.out hwq)
              have a0:wA.cell? ⟨g5,1,none⟩=some (.slice Af i cf):=(blk_cell S5A.out 1).trans rfl
              have a1:wA.cell? ⟨gi,1,none⟩=some (.slice A3 x.f1.f0.length c3):=(blk_cell SgiA.out 1).trans rfl
              have b0:∀ o:Obj,(wA.alloc o).cell? ⟨g5,1,none⟩=some (.slice Af i cf):=fun o=>(blk_cell (bkA S5A.out o) 1).trans rfl
              have b1:∀ o o':Obj,((wA.alloc o).alloc o').cell? ⟨g5,1,none⟩=some (.slice Af i cf):=fun o o'=>(blk_cell (bkA (bkA S5A.out o) o') 1).trans rfl
              clear hR4 hwq hbA)))
    all_goals (
      have HR8:=Az.mk (Kd.R_set HRf7.out S57.out (by decide) 1 (.slice A5 (i+1) c5))
      have S8:=Az.mk (blk_put (cs':=#[.slice As l0.length cs,.slice A5 (i+1) c5]) S57.out 1 (.slice A5 (i+1) c5) rfl)
      have HB8:=Az.mk (bset (j:=1) (v:=.slice A5 (i+1) c5) HB7.out HG5.out)
      clear m7 f7 n1 n2 n3 n4 m1 n2' n3' n4' m1' hmr HRf7 S57 HB7
      generalize w7.setCell ⟨g5,1,none⟩ (.slice A5 (i+1) c5)=w8 at *
      go_wp2_with fail
      go_meet
      exact ⟨A5,c5,rfl,HR8,S8,HB8⟩)
end Go.Proofs.Ytkgknidogelffaa.I
namespace Go.Proofs.Ytkgknidogelffaa.I
open Go.RowKit Go.Proofs.YtkgknidogelffaaW.PrintWords Go.Proofs.YtkgknidogelffaaW.PrintLast Go.Proofs.YtkgknidogelffaaW.PrintMore
attribute [local go_sem] max2_int min2_int max_two min_two max_three min_three max_four min_four
set_option linter.unusedVariables false
set_option maxRecDepth 100000
set_option linter.unusedSimpArgs false
set_option maxHeartbeats 4000000 in
theorem kid_at {w:World} {lo:Nat} {ok:Nat→Prop} {l1:List S41} {s:MS} {p:MP} (h:MM w lo ok l1 s p) (hok:∀ k,ok k→k < w.heap.size) (i:Nat) (hk:s.known=true) (hi:i < s.st.length) (hp:s.path.length < 200) :
    Calls Try.prog 14 #[.pointer (some ⟨p.gm,0,none⟩),.int .i64 (i:Int)] w fun e w'=>e=.returned (.int .i64 0)∧∃ p',Gr w w' lo ok ok p p'∧MM w' lo ok l1 ⟨s.st.getD i zClo,[],s.used,s.path ++ [(i:Int)],false,s.full⟩ p':=by
  have hu93:=Try.underlying93
  have hu91:=Try.underlying91
  have hlen:=h.len
  obtain ⟨c,st,used,path,known,full⟩:=s
  have hk:known=true:=hk
  have hi:i < st.length:=hi
  have hp:path.length < 200:=hp
  subst hk
  have hl1:st.length≤9223372036854775807:=own_max h.row
  obtain ⟨gst,hA,hl,hv⟩:=row_at h.row (j:=st.length - 1 - i) (show st.length - 1 - i < st.length from by omega)
  have c1:w.cell? ⟨p.gm,1,none⟩=some p.vn:=(blk_cell h.cel 1).trans rfl
  have c2:w.cell? ⟨p.gm,2,none⟩=some (.slice (some ⟨gst,0,none⟩) st.length p.cs):=by rw [← hA]; exact (blk_cell h.cel 2).trans rfl
  have c4:w.cell? ⟨p.gm,4,none⟩=some (.slice p.Ap path.length p.cp):=(blk_cell h.cel 4).trans rfl
  have c5:w.cell? ⟨p.gm,5,none⟩=some (.bool true):=(blk_cell h.cel 5).trans rfl
  have f1:=bkF h.cel 1
  have f2:=bkF h.cel 2
  have f4:=bkF h.cel 4
  have f5:=bkF h.cel 5
  have q1:((i:Int) < 0)=False:=eq_false (by omega)
  have q2:((st.length:Int)≤(i:Int))=False:=eq_false (by omega)
  have q3:((path.length:Int) == 200)=false:=beq_eq_false_iff_ne.2 (by omega)
  have H:=Az.mk h
  have HOK:=Az.mk hok
  clear hok
  have hcm:=CML_at _ _ h.stk (st.length - 1 - i) (show st.length - 1 - i < st.reverse.length from by rw [List.length_reverse]; omega) hl
  generalize p.sv[st.length - 1 - i]=v at *
  obtain ⟨gv,rfl⟩:=CM_ptr hcm
  have HCM:=Az.mk hcm
  clear hcm
  clear h hlen hA
  go_enter Try.func14,Try.ntmps14
  go_upto_region 9 with fail
  have hw1:IntKind.i64.wrap ((st.length:Int) - 1)=(st.length:Int) - 1:=(i64_w _).trans (by unfold wrap64; omega)
  have hw2:IntKind.i64.wrap ((st.length:Int) - 1 - (i:Int))=(st.length:Int) - 1 - (i:Int):=(i64_w _).trans (by unfold wrap64; omega)
  have hw3:wrap64 ((st.length:Int) - 1)=(st.length:Int) - 1:=by unfold wrap64; omega
  have hw4:wrap64 ((st.length:Int) - 1 - (i:Int))=(st.length:Int) - 1 - (i:Int):=by unfold wrap64; omega
  have b1:(0≤(st.length:Int) - 1 - (i:Int))=True:=eq_true (by omega)
  have b2:((st.length:Int) - 1 - (i:Int) < (st.length:Int))=True:=eq_true (by omega)
  have b3:((st.length:Int) - 1 - (i:Int)).toNat=st.length - 1 - i:=by omega
  have b4:((i:Int)≤(st.length:Int) - 1)=True:=eq_true (by omega)
  go_region
  have HK:=Az.mk (H.out.kid HCM.out)
  have HLO:=Az.mk H.out.low
  have HBQ:=Az.mk (below_drew ((((Below.refl lo w).setCell (p:=⟨p.gm,1,none⟩) HLO.out (.pointer (some ⟨gv,0,none⟩))).setCell (p:=⟨p.gm,2,none⟩) HLO.out (.slice none 0 0)).setCell (p:=⟨p.gm,5,none⟩) HLO.out (.bool false)))
  have HKQ:=Az.mk (show ∀ k,k≠p.gm→(((w.setCell ⟨p.gm,1,none⟩ (.pointer (some ⟨gv,0,none⟩))).setCell ⟨p.gm,2,none⟩ (.slice none 0 0)).setCell ⟨p.gm,5,none⟩ (.bool false)).drew.heap[k]?=w.heap[k]? from fun k hn=>(Below.heap_setCell _ ⟨p.gm,5,none⟩ _ k hn).trans ((Below.heap_setCell _ ⟨p.gm,2,none⟩ _ k hn).trans (Below.heap_setCell _ ⟨p.gm,1,none⟩ _ k hn)))
  have HSZ:=Az.mk (show (((w.setCell ⟨p.gm,1,none⟩ (.pointer (some ⟨gv,0,none⟩))).setCell ⟨p.gm,2,none⟩ (.slice none 0 0)).setCell ⟨p.gm,5,none⟩ (.bool false)).drew.heap.size=w.heap.size from by simp [World.setCell,World.drew])
  generalize (((w.setCell ⟨p.gm,1,none⟩ (.pointer (some ⟨gv,0,none⟩))).setCell ⟨p.gm,2,none⟩ (.slice none 0 0)).setCell ⟨p.gm,5,none⟩ (.bool false)).drew=wq at *
  have n4:wq.cell? ⟨p.gm,4,none⟩=some (.slice p.Ap path.length p.cp):=(blk_cell HK.out.cel 4).trans rfl
  clear c1 c2 c4 c5 f1 f2 f4 f5 hw1 hw2 hw3 hw4 b1 b2 b3 b4 hv q1 q2 q3
  go_wp2_with (at_builtin; refine holdC ?_)
  unfold HoldC
  have hlo:lo≤wq.heap.size:=by have:=H.out.low; have:=blk_lt HK.out.cel; have:p.gm < wq.heap.size:=this; omega
  have HPW:=Az.mk (show wq.ownsRow lo 3 1 (.slice p.Ap path.length p.cp) path.length (path.map (Value.int .i64)) from HK.out.pth)
  have hp2:path.length < 200:=by assumption
  refine Kd.R_append (Kd.int .i64) (w0:=wq) lo rfl (.tmp 69) (.tmp 71) 26 3 (.int .i64 0) 8 rfl Try.underlying26 (by kernel_rfl) rfl (by decide) (by omega) (.slice p.Ap path.length p.cp) path (i:Int) [.int .i64 (i:Int)] (fun _=>True) (fun _=>False) rfl rfl rfl (fun _ hk=>hk.elim) (fun _ _=>trivial) (own_R HPW.out) (Below.refl lo wq) hlo (by omega) ?_
  intro v1 w1 hr hb1 hg1 hat
  obtain ⟨A5,c5,e5⟩:=Kd.R_slice hr
  rw [List.length_append,List.length_singleton] at e5
  subst e5
  have hgw:=hg1
  have HAT:=Az.mk hat
  have hne:=own_ne HPW.out HK.out.cel (by decide)
  have hc1:=blk_grown HK.out.cel hgw hne
  have n5:w1.cell? ⟨p.gm,4,none⟩=some (.slice p.Ap path.length p.cp):=(blk_cell hc1 4).trans rfl
  have f5:w1.frozen? ⟨p.gm,4,none⟩=false:=bkF hc1 4
  have HW:=Az.mk (HK.out.walk (fun k hk=>by have:=HOK.out k hk; have:=HSZ.out; omega) hr hgw (by
    rcases hat with e | ⟨b,e,hb⟩
    · exact .inl e
    · exact .inr ⟨b,e,hb⟩))
  have HBW:=Az.mk (hb1.setCell (p:=⟨p.gm,4,none⟩) HLO.out (.slice A5 (path.length+1) c5))
  have HKW:=Az.mk (show ∀ k,k < w.heap.size→¬ p.own k→(w1.setCell ⟨p.gm,4,none⟩ (.slice A5 (path.length+1) c5)).heap[k]?=w.heap[k]? from fun k hk hn =>
    (Below.heap_setCell w1 ⟨p.gm,4,none⟩ _ k (fun he=>hn (.inl he))).trans ((hgw.block k (by have:=HSZ.out; omega) (fun he=>hn (.inr (.inr (by rw [he]; exact own_block_n))))).trans (HKQ.out k (fun he=>hn (.inl he)))))
  clear hr hb1 hg1 hat hgw hc1 hne n4
  go_wp2_with fail
  go_ret
  refine ⟨rfl,⟨p.gm,p.gS,.pointer (some ⟨gv,0,none⟩),none,0,[],A5,c5⟩,⟨fun _ h=>h,fun _ h=>.inl h,fun k hk=>?_,fun k hk=>?_,rfl,rfl,HKW.out,⟨HBW.out.os.trans HBQ.out.os,HBW.out.tape.trans HBQ.out.tape,HBW.out.output.trans HBQ.out.output,Nat.le_trans HBQ.out.size HBW.out.size,fun k hk=>(HBW.out.block k hk).trans (HBQ.out.block k hk)⟩⟩,?_⟩
  · exact Nat.lt_of_lt_of_le (HOK.out k hk) (Nat.le_trans HBQ.out.size HBW.out.size)
  · rcases hk with hk | hk | hk
    · exact .inl (.inl hk)
    · cases hk
    · have hk:(Value.slice A5 0 c5).ownBlock=some k:=hk
      have h2:(Value.slice A5 (path.length+1) c5).ownBlock=some k:=by rw [← hk]; exact own_block_n
      rcases HAT.out with e | ⟨b,e,hb⟩
      · exact .inl (.inr (.inr (by rw [← h2,e]; exact own_block_n)))
      · rw [e] at h2
        injection h2 with h2
        exact .inr (by have:=HSZ.out; omega)
  have e:st.getD i zClo=st.reverse[st.length - 1 - i]'(by rw [List.length_reverse]; omega):=by
    rw [List.getElem_reverse,List.getD_eq_getElem?_getD,List.getElem?_eq_getElem hi]
    simp only [Option.getD_some]
    congr 1
    omega
  show MM _ lo ok l1 ⟨st.getD i zClo,[],used,path ++ [(i:Int)],false,full⟩ _
  rw [e]
  exact HW.out
set_option maxHeartbeats 4000000 in
theorem go_arg {w:World} (gm:Nat) (fuel:Int) (hf:fuel < 0∨1048576 < fuel) :
    Calls Try.prog 12 #[.pointer (some ⟨gm,0,none⟩),.int .i64 fuel] w fun e w'=>e=.returned (.tuple #[.int .i64 0,.int .i64 0,.int .i64 2])∧Below w.heap.size w w':=by
  rcases hf with hf | hf
  · have q1:(fuel < 0)=True:=eq_true hf
    clear hf
    go_enter Try.func12,Try.ntmps12
    go_wp2_with fail
    refine bodyPost_ret (results_tmp3 rfl _ _ _) rfl ?_
    exact ⟨rfl,Below.refl _ _⟩
  · have q1:(fuel < 0)=False:=eq_false (by omega)
    have q2:(1048576 < fuel)=True:=eq_true hf
    clear hf
    go_enter Try.func12,Try.ntmps12
    go_wp2_with fail
    refine bodyPost_ret (results_tmp3 rfl _ _ _) rfl ?_
    exact ⟨rfl,Below.refl _ _⟩
set_option maxHeartbeats 4000000 in
theorem go_full {w:World} {lo:Nat} {ok:Nat→Prop} {lq:List S41} {s:MS} {p:MP} (h:MM w lo ok lq s p) (fuel:Int) (h0:0≤fuel) (h1:fuel≤1048576) (hf:s.full=true) :
    Calls Try.prog 12 #[.pointer (some ⟨p.gm,0,none⟩),.int .i64 fuel] w fun e w'=>e=.returned (.tuple #[.int .i64 0,.int .i64 0,.int .i64 3])∧Below w.heap.size w w':=by
  have hu93:=Try.underlying93
  have hu91:=Try.underlying91
  have c6:w.cell? ⟨p.gm,6,none⟩=some (.bool s.full):=(blk_cell h.cel 6).trans rfl
  rw [hf] at c6
  have q1:(fuel < 0)=False:=eq_false (by omega)
  have q2:(1048576 < fuel)=False:=eq_false (by omega)
  clear h hf h0 h1
  go_enter Try.func12,Try.ntmps12
  go_wp2_with fail
  refine bodyPost_ret (results_tmp3 rfl _ _ _) rfl ?_
  exact ⟨rfl,Below.refl _ _⟩
set_option maxHeartbeats 4000000 in
theorem go_known {w:World} {lo:Nat} {ok:Nat→Prop} {lq:List S41} {s:MS} {p:MP} (h:MM w lo ok lq s p) (fuel:Int) (h0:0≤fuel) (h1:fuel≤1048576) (hf:s.full=false) (hk:s.known=true) :
    Calls Try.prog 12 #[.pointer (some ⟨p.gm,0,none⟩),.int .i64 fuel] w fun e w'=>e=.returned (.tuple #[.int .i64 s.c.t.f1,.int .i64 0,.int .i64 0])∧Below w.heap.size w w':=by
  have hu93:=Try.underlying93
  have hu91:=Try.underlying91
  have hu89:=Try.underlying89
  have hu36:=Try.underlying36
  obtain ⟨c,st,used,path,known,full⟩:=s
  obtain ⟨t,vs⟩:=c
  obtain ⟨t0,t1,l⟩:=t
  have hf:full=false:=hf
  have hk:known=true:=hk
  subst hf hk
  obtain ⟨g,ad,Av,cv,us,evn,hog,hoa,n0,n1,b0,b1,hul,hum,hcl,hus⟩:=now_cells h.now
  have c1:w.cell? ⟨p.gm,1,none⟩=some p.vn:=(blk_cell h.cel 1).trans rfl
  rw [evn] at c1
  have c5:w.cell? ⟨p.gm,5,none⟩=some (.bool true):=(blk_cell h.cel 5).trans rfl
  have c6:w.cell? ⟨p.gm,6,none⟩=some (.bool false):=(blk_cell h.cel 6).trans rfl
  have q1:(fuel < 0)=False:=eq_false (by omega)
  have q2:(1048576 < fuel)=False:=eq_false (by omega)
  clear h h0 h1 hcl hus hul hum hog hoa evn
  go_enter Try.func12,Try.ntmps12
  go_wp2_with fail
  refine bodyPost_ret (results_tmp3 rfl _ _ _) rfl ?_
  exact ⟨rfl,Below.refl _ _⟩
end Go.Proofs.Ytkgknidogelffaa.I
namespace Go.Proofs.Ytkgknidogelffaa.I
open Go.RowKit Go.Proofs.YtkgknidogelffaaW.PrintWords Go.Proofs.YtkgknidogelffaaW.PrintLast Go.Proofs.YtkgknidogelffaaW.PrintMore
set_option linter.unusedVariables false
set_option maxRecDepth 100000
set_option linter.unusedSimpArgs false
theorem ofL_rep {sy:List S84} {fu:List S39}:∀ (l:List S36) (n:Nat),ofL sy fu [] l (List.replicate n z39)=true→l.length≤n→∀ x ∈ l,ofT sy fu [] x=some []
  | [],_,_,_,x,hx=>by cases hx
  | y :: ys,0,_,h,_,_=>by simp at h
  | y :: ys,n+1,h,hl,x,hx=>by
    rw [List.replicate_succ] at h
    obtain ⟨h1,h2⟩:=ofL_cons h
    rcases List.mem_cons.1 hx with rfl | hx
    · exact h1
    · exact ofL_rep ys n h2 (by simpa using hl) x hx
theorem mem_denL:∀ (l:List Clo) (x:Clo),x ∈ l→den x ∈ denL l
  | [],x,h=>by cases h
  | y :: ys,x,h=>by
    rw [denL]
    rcases List.mem_cons.1 h with rfl | h
    · exact List.mem_cons_self
    · exact List.mem_cons_of_mem _ (mem_denL ys x h)
theorem denS_nil (c:Clo):denS c []=den c:=by
  unfold denS
  rw [denL,List.append_nil]
  cases den c
  rfl
theorem closed_sym {l0:List S84} {l1:List S41} {k n:Int} {l:List S36} (h:closedB l0 l1 ⟨k,n,l⟩=true) (h1:k≠1):k=2∧0≤n∧n < (l0.length:Int)∧((rd_T84 l0 n).f1.toNat=l.length)∧∀ x ∈ l,closedB l0 l1 x=true:=by
  rw [closed_iff] at h
  obtain ⟨s0,e0,e1,e2,e3⟩:=ofT_parts h
  unfold hdF at e0
  split at e0
  · cases e0
  rename_i hn
  split at e0
  · rw [if_neg (by show ¬ n < (([]:List S39).length:Int); simp; omega)] at e0
    cases e0
  try rw [if_neg h1] at e0
  split at e0
  · rename_i hk
    split at e0
    · rename_i hm
      injection e0 with e0
      subst e0
      have hl:=congrArg List.length e3
      simp only [List.length_drop,List.length_replicate,List.length_nil] at hl e1
      refine ⟨hk,by omega,hm,by omega,fun x hx=>closed_iff.2 (ofL_rep l _ e2 (by omega) x hx)⟩
    · cases e0
  · cases e0
theorem snd_sym {l0:List S84} {l1:List S41} {c:Clo} {st:List Clo} (h:Snd l0 l1 c st) (h0:c.t.f0≠0) (h1:c.t.f0≠1):c.t.f0=2∧0≤c.t.f1∧∀ x ∈ pushC c st,Snd l0 l1 x []:=by
  have hp:=denS_parts (st:=st) h0 h.c
  have hd:=h.d
  rw [hp] at hd
  obtain ⟨e1,e2,_,_,e3⟩:=closed_sym hd h1
  refine ⟨e1,e2,fun x hx=>⟨push_ws h.c h.s x hx,fun y hy=>(by cases hy),?_⟩⟩
  rw [denS_nil]
  exact e3 _ (mem_denL _ x hx)
theorem snd0 {l0:List S84} {l1:List S41} (hs:schB l0 l1=true):Snd l0 l1 (.mk ⟨1,0,[]⟩ []) []:=by
  refine ⟨?_,fun x hx=>(by cases hx),?_⟩
  · rw [wsC]
    refine ⟨?_,by rw [wsL]; trivial⟩
    rw [okT,okL]
    rfl
  · have e:denS (.mk ⟨1,0,[]⟩ []) []=⟨1,0,[]⟩:=by
      rw [denS_nil,den,subT,if_neg (by decide),subL]
    rw [e,closed_iff,ofT]
    have h1:=(sch_parts hs).2.1
    rw [schB_eq] at hs
    simp only [Bool.and_eq_true,decide_eq_true_eq] at hs
    have h2:=hs.2.2.1
    have e1:rd_T39 (l1.map (·.f1)) 0=(rd_T41 l1 0).f1:=by
      cases l1 with
      | nil=>simp at h1
      | cons a b=>rfl
    have e2:hdF l0 (l1.map (·.f1)) [] 1 0=some []:=by
      unfold hdF
      rw [if_neg (by decide),if_neg (by decide),if_pos rfl,if_pos (by rw [List.length_map]; omega),e1,List.eq_nil_of_length_eq_zero h2]
    rw [e2]
    rfl
structure GoP (l0:List S84) (l1:List S41) (fuel n:Int) (r:GoR):Prop where
  used:0≤r.used∧r.used≤1050000
  kind:(r.e=0∧r.known=true∧r.full=false∧r.c.t.f0=2∧r.a=r.c.t.f1∧n≤r.n∧r.n≤fuel∧0≤r.a∧∀ x ∈ r.st,Snd l0 l1 x [])∨(r.e=8∧r.known=false∧r.full=false∧r.a=0∧r.n=0∧Snd l0 l1 r.c r.st)∨(r.e=3∧r.known=false∧r.full=true∧r.a=0∧r.n=0∧Snd l0 l1 r.c r.st)
theorem goM_post {l0:List S84} {l1:List S41} (hs:schB l0 l1=true) (fuel:Int):∀ (k:Nat) (n used:Int) (c:Clo) (st:List Clo) (r:GoR),Snd l0 l1 c st→n≤fuel→0≤used→used≤1050000→goM l1 fuel k n used c st=some r→GoP l0 l1 fuel n r
  | 0,n,used,c,st,r,h,hn,hu0,hu,hr=>by rw [goM] at hr; cases hr
  | k+1,n,used,c,st,r,h,hn,hu0,hu,hr=>by
    have hl:=snd_len hs h
    have hc:=newC_ge c.t.f2
    rw [goM] at hr
    by_cases h1:1048576 < used
    · rw [if_pos h1] at hr
      injection hr with hr
      subst hr
      exact ⟨⟨hu0,hu⟩,.inr (.inr ⟨rfl,rfl,rfl,rfl,rfl,h⟩)⟩
    rw [if_neg h1] at hr
    by_cases h0:c.t.f0=0
    · rw [if_pos h0] at hr
      exact goM_post hs fuel k _ _ _ _ r (snd_var h h0).2.2.1 hn (by omega) (by omega) hr
    rw [if_neg h0] at hr
    by_cases hf:c.t.f0=1
    · rw [if_pos hf] at hr
      by_cases hq:n=fuel
      · rw [if_pos hq] at hr
        injection hr with hr
        subst hr
        exact ⟨⟨hu0,hu⟩,.inr (.inl ⟨rfl,rfl,rfl,rfl,rfl,h⟩)⟩
      rw [if_neg hq] at hr
      obtain ⟨_,_,e1,e2,_⟩:=snd_fun hs h hf
      rw [← e1,List.take_of_length_le (Nat.le_refl _),List.drop_eq_nil_of_le (Nat.le_refl _)] at hr
      have:=goM_post hs fuel k _ _ _ _ r e2 (by omega) (by omega) (by omega) hr
      refine ⟨this.used,?_⟩
      rcases this.kind with ⟨a1,a2,a3,a4,a5,a6,a7⟩ | h2 | h2
      · exact .inl ⟨a1,a2,a3,a4,a5,by omega,a7⟩
      · exact .inr (.inl h2)
      · exact .inr (.inr h2)
    · rw [if_neg hf] at hr
      injection hr with hr
      subst hr
      obtain ⟨e1,e2,e3⟩:=snd_sym h h0 hf
      exact ⟨⟨show 0≤used+newC c.t.f2 by omega,show used+newC c.t.f2≤1050000 by omega⟩,.inl ⟨rfl,rfl,rfl,e1,rfl,Int.le_refl _,hn,e2,e3⟩⟩
structure Good (l0:List S84) (l1:List S41) (s:MS):Prop where
  used:0≤s.used∧s.used≤1050000
  path:s.path.length≤200
  open_:s.known=false→Snd l0 l1 s.c s.st
  shut:s.known=true→s.c.t.f0=2∧∀ x ∈ s.st,Snd l0 l1 x []
  len:s.st.length≤59
def ms0:MS:=⟨.mk ⟨1,0,[]⟩ [],[],1,[],false,false⟩
theorem good0 {l0:List S84} {l1:List S41} (hs:schB l0 l1=true):Good l0 l1 ms0:=⟨by decide,by decide,fun _=>snd0 hs,fun h=>(by cases h),by decide⟩
def goS (l1:List S41) (fuel:Int) (k:Nat) (s:MS):Option (Int × Int × Int × MS) :=
  if fuel < 0∨1048576 < fuel then some (0,0,2,s) else if s.full=true then some (0,0,3,s) else if s.known=true then some (s.c.t.f1,0,0,s)
  else (goM l1 fuel k 0 s.used s.c s.st).map (fun r=>(r.a,r.n,r.e,⟨r.c,r.st,r.used,s.path,r.known,r.full⟩))
theorem goS_total {l0:List S84} {l1:List S41} (hs:schB l0 l1=true) {s:MS} (h:Good l0 l1 s) (fuel:Int):∃ k a n e s',goS l1 fuel k s=some (a,n,e,s'):=by
  by_cases h1:fuel < 0∨1048576 < fuel
  · exact ⟨0,_,_,_,_,by unfold goS; rw [if_pos h1]⟩
  by_cases h2:s.full=true
  · exact ⟨0,_,_,_,_,by unfold goS; rw [if_neg h1,if_pos h2]⟩
  by_cases h3:s.known=true
  · exact ⟨0,_,_,_,_,by unfold goS; rw [if_neg h1,if_neg h2,if_pos h3]⟩
  obtain ⟨k,r,hr⟩:=goM_total hs fuel fuel.toNat _ 0 s.used s.c s.st (h.open_ (by simpa using h3)) (by omega) (by omega) (Nat.le_refl _)
  exact ⟨k,_,_,_,_,by unfold goS; rw [if_neg h1,if_neg h2,if_neg h3,hr]; rfl⟩
theorem push_snd_len {l0:List S84} {l1:List S41} (hs:schB l0 l1=true) (fuel:Int):∀ (k:Nat) (n used:Int) (c:Clo) (st:List Clo) (r:GoR),Snd l0 l1 c st→goM l1 fuel k n used c st=some r→r.st.length≤59
  | 0,n,used,c,st,r,h,hr=>by rw [goM] at hr; cases hr
  | k+1,n,used,c,st,r,h,hr=>by
    have hl:=snd_len hs h
    rw [goM] at hr
    by_cases h1:1048576 < used
    · rw [if_pos h1] at hr
      injection hr with hr
      subst hr
      show st.length≤59
      omega
    rw [if_neg h1] at hr
    by_cases h0:c.t.f0=0
    · rw [if_pos h0] at hr
      exact push_snd_len hs fuel k _ _ _ _ r (snd_var h h0).2.2.1 hr
    rw [if_neg h0] at hr
    by_cases hf:c.t.f0=1
    · rw [if_pos hf] at hr
      by_cases hq:n=fuel
      · rw [if_pos hq] at hr
        injection hr with hr
        subst hr
        show st.length≤59
        omega
      rw [if_neg hq] at hr
      obtain ⟨_,_,e1,e2,_⟩:=snd_fun hs h hf
      rw [← e1,List.take_of_length_le (Nat.le_refl _),List.drop_eq_nil_of_le (Nat.le_refl _)] at hr
      exact push_snd_len hs fuel k _ _ _ _ r e2 hr
    · rw [if_neg hf] at hr
      injection hr with hr
      subst hr
      show (pushC c st).length≤59
      rw [push_len]
      omega
theorem goS_good {l0:List S84} {l1:List S41} (hs:schB l0 l1=true) {s s':MS} (h:Good l0 l1 s) {fuel a n e:Int} {k:Nat} (hg:goS l1 fuel k s=some (a,n,e,s')):Good l0 l1 s':=by
  unfold goS at hg
  split at hg
  · injection hg with hg; injection hg with _ hg; injection hg with _ hg; injection hg with _ hg; rw [← hg]; exact h
  rename_i h1
  split at hg
  · injection hg with hg; injection hg with _ hg; injection hg with _ hg; injection hg with _ hg; rw [← hg]; exact h
  split at hg
  · injection hg with hg; injection hg with _ hg; injection hg with _ hg; injection hg with _ hg; rw [← hg]; exact h
  rename_i h3
  have hk:s.known=false:=by simpa using h3
  cases hr:goM l1 fuel k 0 s.used s.c s.st with
  | none=>rw [hr] at hg; cases hg
  | some r =>
  rw [hr] at hg
  injection hg with hg; injection hg with _ hg; injection hg with _ hg; injection hg with _ hg
  subst hg
  have hp:=goM_post hs fuel k 0 s.used s.c s.st r (h.open_ hk) (by omega) h.used.1 h.used.2 hr
  refine ⟨hp.used,h.path,fun hk2=>?_,fun hk2=>?_,push_snd_len hs fuel k 0 s.used s.c s.st r (h.open_ hk) hr⟩
  · have hk2:r.known=false:=hk2
    rcases hp.kind with h4 | h4 | h4
    · rw [h4.2.1] at hk2; cases hk2
    · exact h4.2.2.2.2.2
    · exact h4.2.2.2.2.2
  · have hk2:r.known=true:=hk2
    rcases hp.kind with h4 | h4 | h4
    · exact ⟨h4.2.2.2.1,h4.2.2.2.2.2.2.2.2⟩
    · rw [h4.2.1] at hk2; cases hk2
    · rw [h4.2.1] at hk2; cases hk2
def kidS (s:MS) (i:Int):MS:=if kidE s i=0 then ⟨s.st.getD i.toNat zClo,[],s.used,s.path ++ [i],false,s.full⟩ else s
theorem kid_zero {s:MS} {i:Int} (h:kidE s i=0):s.known=true∧0≤i∧i < (s.st.length:Int)∧s.path.length≠200:=by
  unfold kidE at h
  split at h
  · cases h
  rename_i h1
  split at h
  · cases h
  rename_i h2
  split at h
  · cases h
  rename_i h3
  exact ⟨by simpa using h1,by omega,by omega,h3⟩
theorem kidS_good {l0:List S84} {l1:List S41} {s:MS} (h:Good l0 l1 s) (i:Int):Good l0 l1 (kidS s i):=by
  unfold kidS
  split
  · rename_i h1
    obtain ⟨e1,e2,e3,e4⟩:=kid_zero h1
    have hm:s.st.getD i.toNat zClo ∈ s.st:=by
      rw [List.getD_eq_getElem?_getD,List.getElem?_eq_getElem (by omega)]
      exact List.getElem_mem _
    refine ⟨h.used,?_,fun _=>(h.shut e1).2 _ hm,fun hk=>(by cases hk),Nat.zero_le _⟩
    show (s.path ++ [i]).length≤200
    have:=h.path
    rw [List.length_append,List.length_singleton]
    omega
  · exact h
variable {w:World} {lo:Nat} {ok:Nat→Prop} {l0:List S84} {lq l1:List S41} {s:MS} {p:MP}
theorem MM.stay {w':World} (h:MM w lo ok lq s p) (hok:∀ k,ok k→k < w.heap.size) (hb:Below w.heap.size w w'):Gr w w' lo ok ok p p∧MM w' lo ok lq s p :=
  ⟨Gr.of_below (by have:=h.low; have:=blk_lt h.cel; omega) hb (fun _ h=>h) (fun _ h=>.inl h) (fun k hk=>Nat.lt_of_lt_of_le (hok k hk) hb.size),h.below hb⟩
theorem goS_calls (hs:schB l0 l1=true) (hq:SameF lq l1) (h:MM w lo ok lq s p) (hok:∀ k,ok k→k < w.heap.size) (hg:Good l0 l1 s) (fuel:Int) (k:Nat) (a n e:Int) (s':MS) (hr:goS l1 fuel k s=some (a,n,e,s')) :
    Calls Try.prog 12 #[.pointer (some ⟨p.gm,0,none⟩),.int .i64 fuel] w fun x w'=>x=.returned (.tuple #[.int .i64 a,.int .i64 n,.int .i64 e])∧∃ ok' p',Gr w w' lo ok ok' p p'∧MM w' lo ok' lq s' p':=by
  unfold goS at hr
  split at hr
  · rename_i h1
    injection hr with hr; injection hr with e1 hr; injection hr with e2 hr; injection hr with e3 e4
    subst e1 e2 e3 e4
    refine (go_arg p.gm fuel h1).mono ?_
    rintro x w' ⟨rfl,hb⟩
    exact ⟨rfl,ok,p,h.stay hok hb⟩
  rename_i h1
  split at hr
  · rename_i h2
    injection hr with hr; injection hr with e1 hr; injection hr with e2 hr; injection hr with e3 e4
    subst e1 e2 e3 e4
    refine (go_full h fuel (by omega) (by omega) h2).mono ?_
    rintro x w' ⟨rfl,hb⟩
    exact ⟨rfl,ok,p,h.stay hok hb⟩
  rename_i h2
  split at hr
  · rename_i h3
    injection hr with hr; injection hr with e1 hr; injection hr with e2 hr; injection hr with e3 e4
    subst e1 e2 e3 e4
    refine (go_known h fuel (by omega) (by omega) (by simpa using h2) h3).mono ?_
    rintro x w' ⟨rfl,hb⟩
    exact ⟨rfl,ok,p,h.stay hok hb⟩
  rename_i h3
  cases hm:goM l1 fuel k 0 s.used s.c s.st with
  | none=>rw [hm] at hr; cases hr
  | some r =>
  rw [hm] at hr
  injection hr with hr; injection hr with e1 hr; injection hr with e2 hr; injection hr with e3 e4
  subst e1 e2 e3 e4
  exact go_calls hs hq h hok (hg.open_ (by simpa using h3)) (by simpa using h3) (by simpa using h2) hg.used.1 hg.used.2 fuel (by omega) (by omega) k r hm
theorem kidS_calls (h:MM w lo ok lq s p) (hok:∀ k,ok k→k < w.heap.size) (hg:Good l0 l1 s) (i:Int) (e:Int) (s':MS) (he:kidE s i=e) (hs':kidS s i=s') :
    Calls Try.prog 14 #[.pointer (some ⟨p.gm,0,none⟩),.int .i64 i] w fun x w'=>x=.returned (.int .i64 e)∧∃ ok' p',Gr w w' lo ok ok' p p'∧MM w' lo ok' lq s' p':=by
  subst he hs'
  by_cases h0:kidE s i=0
  · obtain ⟨e1,e2,e3,e4⟩:=kid_zero h0
    have hi:((i.toNat:Nat):Int)=i:=by omega
    have hc:=kid_at h hok i.toNat e1 (by omega) (by have:=hg.path; omega)
    rw [hi] at hc
    refine hc.mono ?_
    rintro x w' ⟨rfl,p',hgr,hm⟩
    refine ⟨by rw [h0],ok,p',hgr,?_⟩
    unfold kidS
    rw [if_pos h0]
    exact hm
  · refine (kid_no h i h0).mono ?_
    rintro x w' ⟨rfl,hb⟩
    refine ⟨rfl,ok,p,?_⟩
    unfold kidS
    rw [if_neg h0]
    exact h.stay hok hb
theorem pathS_calls (h:MM w lo ok lq s p) (hok:∀ k,ok k→k < w.heap.size) (hg:Good l0 l1 s) :
    Calls Try.prog 13 #[.pointer (some ⟨p.gm,0,none⟩)] w fun x w'=>∃ A c,x=.returned (.slice A s.path.length c)∧Kd.R (Kd.int .i64) 3 w' w.heap.size (fun _=>True) (.slice A s.path.length c) s.path∧Below w.heap.size w w':=by
  refine (path_calls h (by have:=hg.path; omega)).mono ?_
  rintro x w' ⟨v,rfl,hr,hb⟩
  obtain ⟨A,c,rfl⟩:=Kd.R_slice hr
  exact ⟨A,c,rfl,hr,hb⟩
end Go.Proofs.Ytkgknidogelffaa.I
namespace Go.Proofs.Ytkgknidogelffaa.I
open Go.RowKit Go.Proofs.YtkgknidogelffaaW.PrintWords Go.Proofs.YtkgknidogelffaaW.PrintLast Go.Proofs.YtkgknidogelffaaW.PrintMore
attribute [local go_sem] max2_int min2_int max_two min_two max_three min_three max_four min_four
set_option linter.unusedVariables false
set_option maxRecDepth 100000
set_option linter.unusedSimpArgs false
theorem V_C {α:Type} {d:Kd α} {e:Nat} {w:World} {B:Nat} {ok:Nat→Prop} {A:Option Addr} {n c:Nat} {xs:List α} (h:Kd.R d e w B ok (.slice A n c) xs):Kd.C d w A xs.length xs:=(Kd.R_reads' h).2.2
set_option maxHeartbeats 8000000 in
theorem fork_calls {w:World} {lo:Nat} {ok:Nat→Prop} {lq:List S41} {s:MS} {p:MP} (h:MM w lo ok lq s p) (hok:∀ k,ok k→k < w.heap.size) (hp:s.path.length≤200) (hst:s.st.length≤59) :
    Calls Try.prog 18 #[.pointer (some ⟨p.gm,0,none⟩)] w fun x w'=>∃ p',x=.returned (.pointer (some ⟨p'.gm,0,none⟩))∧MM w' lo ok lq s p'∧Below w.heap.size w w'∧∀ k,p'.own k→w.heap.size≤k:=by
  have hu93:=Try.underlying93
  have hu91:=Try.underlying91
  obtain ⟨g,hvn⟩:∃ g,p.vn=.pointer (some ⟨g,0,none⟩):=CM_ptr h.now
  have hc:=h.cel
  rw [hvn] at hc
  have c0:w.cell? ⟨p.gm,0,none⟩=some (.pointer (some ⟨p.gS,0,none⟩)):=(blk_cell hc 0).trans rfl
  have c1:w.cell? ⟨p.gm,1,none⟩=some (.pointer (some ⟨g,0,none⟩)):=(blk_cell hc 1).trans rfl
  have c2:w.cell? ⟨p.gm,2,none⟩=some (.slice p.As s.st.length p.cs):=(blk_cell hc 2).trans rfl
  have c3:w.cell? ⟨p.gm,3,none⟩=some (.int .i64 s.used):=(blk_cell hc 3).trans rfl
  have c4:w.cell? ⟨p.gm,4,none⟩=some (.slice p.Ap s.path.length p.cp):=(blk_cell hc 4).trans rfl
  have c5:w.cell? ⟨p.gm,5,none⟩=some (.bool s.known):=(blk_cell hc 5).trans rfl
  have c6:w.cell? ⟨p.gm,6,none⟩=some (.bool s.full):=(blk_cell hc 6).trans rfl
  have hsl:=h.len
  have HC1:=Az.mk (own_Rr h.row hsl (CML_ptr _ _ h.stk))
  have HC2:=Az.mk (own_R h.pth)
  have H:=Az.mk h
  have HOK:=Az.mk hok
  have HP:=Az.mk hp
  have HS:=Az.mk hst
  have HSL:=Az.mk hsl
  have HVN:=Az.mk hvn
  have HCE:=Az.mk hc
  clear h hok hp hst hsl hc hvn
  go_enter Try.func18,Try.ntmps18
  go_upto_region 4 with (
      ((with_reducible refine gate_dst (N:=3) rfl ?_)
       refine box_event ?hg (N:=3) ?hd (cs:=#[.pointer none,.pointer none,.slice none 0 0,.int .i64 0,.slice none 0 0,.bool false,.bool false]) (t:=93) ?hr ?_
       (case hd=>rfl)
       (case hg=>rfl)
       (case hr=>first | (go_simp; done) | (go_simp; rfl))
       intro gi hgi w6 hbox hbb
       have hgw:w.heap.size≤gi:=by omega
       have HGW:=Az.mk hgw
       have Hbw:=Az.mk (bset (g:=gi) (j:=6) (v:=.bool s.full) (bset (g:=gi) (j:=5) (v:=.bool s.known) (bset (g:=gi) (j:=4) (v:=.slice p.Ap s.path.length p.cp) (bset (g:=gi) (j:=3) (v:=.int .i64 s.used) (bset (g:=gi) (j:=2) (v:=.slice p.As s.st.length p.cs) (bset (g:=gi) (j:=1) (v:=.pointer (some ⟨g,0,none⟩)) (bset (g:=gi) (j:=0) (v:=.pointer (some ⟨p.gS,0,none⟩)) hbb hgw) hgw) hgw) hgw) hgw) hgw) hgw)
       have Sgi:=Az.mk (blk_put (cs':=#[.pointer (some ⟨p.gS,0,none⟩),.pointer (some ⟨g,0,none⟩),.slice p.As s.st.length p.cs,.int .i64 s.used,.slice p.Ap s.path.length p.cp,.bool s.known,.bool s.full]) (blk_put (cs':=#[.pointer (some ⟨p.gS,0,none⟩),.pointer (some ⟨g,0,none⟩),.slice p.As s.st.length p.cs,.int .i64 s.used,.slice p.Ap s.path.length p.cp,.bool s.known,.bool false]) (blk_put (cs':=#[.pointer (some ⟨p.gS,0,none⟩),.pointer (some ⟨g,0,none⟩),.slice p.As s.st.length p.cs,.int .i64 s.used,.slice p.Ap s.path.length p.cp,.bool false,.bool false]) (blk_put (cs':=#[.pointer (some ⟨p.gS,0,none⟩),.pointer (some ⟨g,0,none⟩),.slice p.As s.st.length p.cs,.int .i64 s.used,.slice none 0 0,.bool false,.bool false]) (blk_put (cs':=#[.pointer (some ⟨p.gS,0,none⟩),.pointer (some ⟨g,0,none⟩),.slice p.As s.st.length p.cs,.int .i64 0,.slice none 0 0,.bool false,.bool false]) (blk_put (cs':=#[.pointer (some ⟨p.gS,0,none⟩),.pointer (some ⟨g,0,none⟩),.slice none 0 0,.int .i64 0,.slice none 0 0,.bool false,.bool false]) (blk_put (cs':=#[.pointer (some ⟨p.gS,0,none⟩),.pointer none,.slice none 0 0,.int .i64 0,.slice none 0 0,.bool false,.bool false]) (hbox) 0 (.pointer (some ⟨p.gS,0,none⟩)) rfl) 1 (.pointer (some ⟨g,0,none⟩)) rfl) 2 (.slice p.As s.st.length p.cs) rfl) 3 (.int .i64 s.used) rfl) 4 (.slice p.Ap s.path.length p.cp) rfl) 5 (.bool s.known) rfl) 6 (.bool s.full) rfl)
       have hcz0:=(blk_cell hbox 0).trans rfl
       have hfz0:=bkF hbox 0
       have hcz1:=(blk_cell hbox 1).trans rfl
       have hfz1:=bkF hbox 1
       have hcz2:=(blk_cell hbox 2).trans rfl
       have hfz2:=bkF hbox 2
       have hcz3:=(blk_cell hbox 3).trans rfl
       have hfz3:=bkF hbox 3
       have hcz4:=(blk_cell hbox 4).trans rfl
       have hfz4:=bkF hbox 4
       have hcz5:=(blk_cell hbox 5).trans rfl
       have hfz5:=bkF hbox 5
       have hcz6:=(blk_cell hbox 6).trans rfl
       have hfz6:=bkF hbox 6
       clear hbox hbb hgi hgw))
  clear hcz0 hfz0 hcz1 hfz1 hcz2 hfz2 hcz3 hfz3 hcz4 hfz4 hcz5 hfz5 hcz6 hfz6 c0 c1 c2 c3 c4 c5 c6
  generalize (((((((w6.setCell ⟨gi,0,none⟩ (.pointer (some ⟨p.gS,0,none⟩))).setCell ⟨gi,1,none⟩ (.pointer (some ⟨g,0,none⟩))).setCell ⟨gi,2,none⟩ (.slice p.As s.st.length p.cs)).setCell ⟨gi,3,none⟩ (.int .i64 s.used)).setCell ⟨gi,4,none⟩ (.slice p.Ap s.path.length p.cp)).setCell ⟨gi,5,none⟩ (.bool s.known)).setCell ⟨gi,6,none⟩ (.bool s.full))=wq at *
  have HEQ:=Az.mk (bkB HCE.out Hbw.out)
  have n2:wq.cell? ⟨p.gm,2,none⟩=some (.slice p.As s.st.length p.cs):=(blk_cell HEQ.out 2).trans rfl
  have n4:wq.cell? ⟨p.gm,4,none⟩=some (.slice p.Ap s.path.length p.cp):=(blk_cell HEQ.out 4).trans rfl
  go_region_law (first
      | (go_simp
         go_at_call 39
         have hcl:=cloneC p.As p.cs (p.sv.map (fun v=>[v])) wq.drew (Kd.C_below (V_C HC1.out) (below_drew Hbw.out)) (by rw [List.length_map,← HSL.out]; have:=HS.out; omega)
         rw [List.length_map,← HSL.out] at hcl
         (with_reducible refine hcl.mono ?_)
         rintro e wA ⟨vA,rfl,hrA,hbA⟩
         obtain ⟨A5,c5,e5⟩:=Kd.R_slice hrA
         rw [List.length_map,← HSL.out] at e5
         subst e5
         have HRA:=Az.mk hrA
         have HBA:=Az.mk (bst (below_drew (Below.refl wq.heap.size wq)) hbA)
         have a4:wA.cell? ⟨p.gm,4,none⟩=some (.slice p.Ap s.path.length p.cp):=(blk_cell (bkB HEQ.out HBA.out) 4).trans rfl
         clear hcl hrA hbA)
      | (go_simp
         go_at_call 36
         (with_reducible refine (cloneI p.Ap p.cp s.path wA (Kd.C_below (V_C HC2.out) (bst Hbw.out HBA.out)) (by have:=HP.out; omega)).mono ?_)
         rintro e wB ⟨vB,rfl,hrB,hbB⟩
         obtain ⟨A6,c6,rfl⟩:=Kd.R_slice hrB
         have HRB:=Az.mk hrB
         have HBB:=Az.mk hbB
         have SgB:=Az.mk (bkB (bkB Sgi.out HBA.out) hbB)
         have b2:wB.cell? ⟨gi,2,none⟩=some (.slice p.As s.st.length p.cs):=(blk_cell SgB.out 2).trans rfl
         have b4:wB.cell? ⟨gi,4,none⟩=some (.slice p.Ap s.path.length p.cp):=(blk_cell SgB.out 4).trans rfl
         have y2:wB.frozen? ⟨gi,2,none⟩=false:=bkF SgB.out 2
         have y4:wB.frozen? ⟨gi,4,none⟩=false:=bkF SgB.out 4
         clear hrB hbB))
  all_goals (
    have HBW:=Az.mk (bset (j:=4) (v:=.slice A6 s.path.length c6) (bset (j:=2) (v:=.slice A5 s.st.length c5) (bst Hbw.out (bst HBA.out HBB.out)) HGW.out) HGW.out)
    have HS8:=Az.mk (blk_put (cs':=#[.pointer (some ⟨p.gS,0,none⟩),.pointer (some ⟨g,0,none⟩),.slice A5 s.st.length c5,.int .i64 s.used,.slice A6 s.path.length c6,.bool s.known,.bool s.full]) (blk_put (cs':=#[.pointer (some ⟨p.gS,0,none⟩),.pointer (some ⟨g,0,none⟩),.slice A5 s.st.length c5,.int .i64 s.used,.slice p.Ap s.path.length p.cp,.bool s.known,.bool s.full]) SgB.out 2 (.slice A5 s.st.length c5) rfl) 4 (.slice A6 s.path.length c6) rfl)
    have SgB2:=blk_put (cs':=#[.pointer (some ⟨p.gS,0,none⟩),.pointer (some ⟨g,0,none⟩),.slice A5 s.st.length c5,.int .i64 s.used,.slice p.Ap s.path.length p.cp,.bool s.known,.bool s.full]) SgB.out 2 (.slice A5 s.st.length c5) rfl
    have HR8:=Az.mk (Kd.R_set (Kd.R_set (Kd.R_below HRA.out HBB.out) SgB.out (by decide) 2 (.slice A5 s.st.length c5)) SgB2 (by decide) 4 (.slice A6 s.path.length c6))
    have HQ8:=Az.mk (Kd.R_set (Kd.R_set HRB.out SgB.out (by decide) 2 (.slice A5 s.st.length c5)) SgB2 (by decide) 4 (.slice A6 s.path.length c6))
    have HZ:=Az.mk (And.intro Hbw.out.size (show wq.heap.size≤wA.heap.size from HBA.out.size))
    clear b2 b4 y2 y4 a4 n2 n4 SgB2 HRA HRB SgB HBA HBB Hbw Sgi HEQ
    generalize ((wB.setCell ⟨gi,2,none⟩ (.slice A5 s.st.length c5)).setCell ⟨gi,4,none⟩ (.slice A6 s.path.length c6))=w8 at *
    go_wp2_with fail
    go_ret
    have hlo:lo≤w.heap.size:=by have:=H.out.low; have:=blk_lt H.out.cel; omega
    have hko:∀ k,ok k→k < w.heap.size→w8.heap[k]?=w.heap[k]?:=fun k _ hk=>HBW.out.block k hk
    obtain ⟨B0,n0,d0,B1,d1,hS,hV⟩:=H.out.sch
    have hrow:=Rr_own HR8.out
    rw [← HSL.out] at hrow
    have hpth:=R_own HQ8.out
    have hz:=HZ.out
    have hz1:=hz.1
    have hz2:=hz.2
    have hrb:∀ k,(Value.slice A5 s.st.length c5).ownBlock=some k→w.heap.size≤k:=fun k hk=>by have h1:wq.heap.size≤k:=Kd.R_base HR8.out k hk; omega
    have hpb:∀ k,(Value.slice A6 s.path.length c6).ownBlock=some k→w.heap.size≤k:=fun k hk=>by have h1:wA.heap.size≤k:=Kd.R_base HQ8.out k hk; omega
    have hown:∀ k,(⟨gi,p.gS,.pointer (some ⟨g,0,none⟩),A5,c5,p.sv,A6,c6⟩:MP).own k→w.heap.size≤k:=fun k hk=>by
      rcases hk with hk | hk | hk
      · rw [hk]; exact HGW.out
      · exact hrb k (by rw [← hk]; exact own_block_n)
      · exact hpb k (by rw [← hk]; exact own_block_n)
    refine ⟨⟨gi,p.gS,.pointer (some ⟨g,0,none⟩),A5,c5,p.sv,A6,c6⟩,rfl,⟨HS8.out,?_,CML_imp hko (fun _ h _=>h) _ _ H.out.stk,own_less hrow (by show lo≤wq.heap.size; omega),own_less hpth (by show lo≤wA.heap.size; omega),⟨B0,n0,d0,B1,d1,(hko _ H.out.oS (blk_lt hS)).trans hS,Kd.V_step hV hko⟩,H.out.oS,by show lo≤gi; have:=HGW.out; omega,fun k hk ho=>?_⟩,HBW.out,hown⟩
    · have:=CM_imp hko (fun _ h _=>h) _ _ H.out.now
      rw [HVN.out] at this
      exact this
    · have:=hown k hk
      have:=HOK.out k ho
      omega)
end Go.Proofs.Ytkgknidogelffaa.I
namespace Go.Proofs.Ytkgknidogelffaa.I
open Go.RowKit Go.Proofs.YtkgknidogelffaaW.PrintWords Go.Proofs.YtkgknidogelffaaW.PrintLast Go.Proofs.YtkgknidogelffaaW.PrintMore
set_option linter.unusedVariables false
set_option maxRecDepth 100000
set_option linter.unusedSimpArgs false
theorem below_tr {b:Nat} {w w1 w2:World} (h1:Below b w w1) (h2:Below b w1 w2):Below b w w2 :=
  ⟨h2.os.trans h1.os,h2.tape.trans h1.tape,h2.output.trans h1.output,Nat.le_trans h1.size h2.size,fun k hk=>(h2.block k hk).trans (h1.block k hk)⟩
theorem below_lo {b c:Nat} {w w1:World} (h:Below b w w1) (hc:c≤b):Below c w w1:=⟨h.os,h.tape,h.output,h.size,fun k hk=>h.block k (Nat.lt_of_lt_of_le hk hc)⟩
def Ms (w:World) (lo:Nat) (lq:List S41) (L:List (Nat × MS)):Prop:=lo≤w.heap.size∧∃ (ok:Nat→Nat→Prop) (p:Nat→MP),
  (∀ i (h:i < L.length),(p i).gm=L[i].1∧(∀ k,ok i k→lo≤k∧k < w.heap.size)∧MM w lo (ok i) lq L[i].2 (p i)) ∧
  (∀ i j,i < L.length→j < L.length→i≠j→∀ k,(p i).own k→¬ (p j).own k∧¬ ok j k)
theorem Ms.nil {w:World} {lo:Nat} {lq:List S41} (h:lo≤w.heap.size):Ms w lo lq []:=⟨h,fun _ _=>False,fun _=>⟨0,0,.pointer none,none,0,[],none,0⟩,fun i h=>absurd h (by simp),fun i j h=>absurd h (by simp)⟩
theorem Ms.keep {w w':World} {lo:Nat} {lq:List S41} {L:List (Nat × MS)} (h:Ms w lo lq L) (hk:∀ k,lo≤k→k < w.heap.size→w'.heap[k]?=w.heap[k]?) (hz:w.heap.size≤w'.heap.size):Ms w' lo lq L:=by
  obtain ⟨h0,ok,p,h1,h2⟩:=h
  refine ⟨by omega,ok,p,fun i hi=>?_,h2⟩
  obtain ⟨e1,e2,e3⟩:=h1 i hi
  refine ⟨e1,fun k hk=>⟨(e2 k hk).1,by have:=(e2 k hk).2; omega⟩,e3.frame (fun k ho hl=>?_) hz⟩
  rcases ho with ho | ho
  · exact hk k (e2 k ho).1 hl
  · exact hk k (e3.lt k ho).2 hl
theorem Ms.below {w w':World} {lo:Nat} {lq:List S41} {L:List (Nat × MS)} (h:Ms w lo lq L) (hb:Below w.heap.size w w'):Ms w' lo lq L:=h.keep (fun k _ hl=>hb.block k hl) hb.size
theorem Ms.op {w:World} {lo:Nat} {lq:List S41} {L:List (Nat × MS)} (h:Ms w lo lq L) {i:Nat} (hi:i < L.length) :
    ∃ (ok:Nat→Prop) (p:MP),p.gm=L[i].1∧(∀ k,ok k→k < w.heap.size)∧MM w lo ok lq L[i].2 p∧∀ (w':World) (ok':Nat→Prop) (p':MP) (s':MS),Gr w w' lo ok ok' p p'→MM w' lo ok' lq s' p'→Ms w' lo lq (L.set i (L[i].1,s')):=by
  obtain ⟨h0,ok,p,h1,h2⟩:=h
  obtain ⟨e1,e2,e3⟩:=h1 i hi
  refine ⟨ok i,p i,e1,fun k hk=>(e2 k hk).2,e3,fun w' ok' p' s' hg hm=>⟨Nat.le_trans h0 hg.bel.size,fun j=>if j=i then ok' else ok j,fun j=>if j=i then p' else p j,fun j hj=>?_,fun a b ha hb hab k hk=>?_⟩⟩
  · rw [List.length_set] at hj
    by_cases hji:j=i
    · subst hji
      simp only [if_pos,List.getElem_set_self]
      refine ⟨hg.gm.trans e1,fun k hk=>⟨?_,hg.lt k hk⟩,hm⟩
      rcases hg.new k hk with h3 | h3
      · exact (e2 k h3).1
      · omega
    · simp only [if_neg hji,List.getElem_set_ne (fun e=>hji e.symm)]
      obtain ⟨f1,f2,f3⟩:=h1 j hj
      refine ⟨f1,fun k hk=>⟨(f2 k hk).1,Nat.lt_of_lt_of_le (f2 k hk).2 hg.bel.size⟩,f3.frame (fun k ho hl=>hg.blk k hl (fun hpi=>?_)) hg.bel.size⟩
      have h4:=h2 i j hi hj (fun e=>hji e.symm) k hpi
      rcases ho with ho | ho
      · exact h4.2 ho
      · exact h4.1 ho
  · rw [List.length_set] at ha hb
    by_cases hai:a=i
    · subst hai
      have hbi:b≠a:=fun e=>hab e.symm
      simp only [if_pos,if_neg hbi] at hk ⊢
      obtain ⟨f1,f2,f3⟩:=h1 b hb
      rcases hg.own k hk with h3 | h3
      · exact h2 a b ha hb hab k h3
      · exact ⟨fun h4=>by have:=(f3.lt k h4).1; omega,fun h4=>by have:=(f2 k h4).2; omega⟩
    · simp only [if_neg hai] at hk
      obtain ⟨f1,f2,f3⟩:=h1 a ha
      by_cases hbi:b=i
      · subst hbi
        simp only [if_pos]
        have h4:=h2 a b ha hb hab k hk
        have hl:=(f3.lt k hk).1
        refine ⟨fun h5=>?_,fun h5=>?_⟩
        · rcases hg.own k h5 with h6 | h6
          · exact h4.1 h6
          · omega
        · rcases hg.new k h5 with h6 | h6
          · exact h4.2 h6
          · omega
      · simp only [if_neg hbi]
        exact h2 a b ha hb hab k hk
theorem MM.low_ {w:World} {lo lo':Nat} {ok:Nat→Prop} {lq:List S41} {s:MS} {p:MP} (h:MM w lo ok lq s p) (hl:lo'≤lo):MM w lo' ok lq s p :=
  ⟨h.cel,h.now,h.stk,own_less h.row hl,own_less h.pth hl,h.sch,h.oS,Nat.le_trans hl h.low,h.apt⟩
theorem Ms.push {w w':World} {lo:Nat} {lq:List S41} {L:List (Nat × MS)} {ok:Nat→Nat→Prop} {p:Nat→MP} (h0:lo≤w.heap.size)
    (h1:∀ i (h:i < L.length),(p i).gm=L[i].1∧(∀ k,ok i k→lo≤k∧k < w.heap.size)∧MM w lo (ok i) lq L[i].2 (p i))
    (h2:∀ i j,i < L.length→j < L.length→i≠j→∀ k,(p i).own k→¬ (p j).own k∧¬ ok j k)
    (hb:Below w.heap.size w w') {okn:Nat→Prop} {s:MS} {q:MP} (hm:MM w' lo okn lq s q) (hown:∀ k,q.own k→w.heap.size≤k)
    (hok:∀ k,okn k→(w.heap.size≤k∧k < w'.heap.size)∨∃ i,i < L.length∧ok i k):Ms w' lo lq (L ++ [(q.gm,s)]):=by
  have hz:=hb.size
  refine ⟨by omega,fun j=>if j < L.length then ok j else okn,fun j=>if j < L.length then p j else q,fun j hj=>?_,fun a b ha hb' hab k hk=>?_⟩
  · by_cases hl:j < L.length
    · obtain ⟨f1,f2,f3⟩:=h1 j hl
      simp only [if_pos hl,List.getElem_append_left hl]
      exact ⟨f1,fun k hk=>⟨(f2 k hk).1,by have:=(f2 k hk).2; omega⟩,f3.below hb⟩
    · have hj2:j=L.length:=by rw [List.length_append,List.length_singleton] at hj; omega
      subst hj2
      simp only [if_neg hl,List.getElem_append_right (Nat.le_refl _),Nat.sub_self,List.getElem_cons_zero]
      refine ⟨trivial,fun k hk=>?_,hm⟩
      rcases hok k hk with h3 | ⟨i,hi,h3⟩
      · omega
      · have:=(h1 i hi).2.1 k h3
        omega
  · rw [List.length_append,List.length_singleton] at ha hb'
    by_cases hla:a < L.length
    · simp only [if_pos hla] at hk
      have hlt:=((h1 a hla).2.2.lt k hk).1
      by_cases hlb:b < L.length
      · simp only [if_pos hlb]
        exact h2 a b hla hlb hab k hk
      · simp only [if_neg hlb]
        refine ⟨fun h3=>by have:=hown k h3; omega,fun h3=>?_⟩
        rcases hok k h3 with h4 | ⟨i,hi,h4⟩
        · omega
        · by_cases hia:a=i
          · subst hia
            exact (h1 a hla).2.2.apt k hk h4
          · exact (h2 a i hla hi hia k hk).2 h4
    · simp only [if_neg hla] at hk
      have hn:=hown k hk
      have hlb:b < L.length:=by omega
      simp only [if_pos hlb]
      obtain ⟨f1,f2,f3⟩:=h1 b hlb
      exact ⟨fun h3=>by have:=(f3.lt k h3).1; omega,fun h3=>by have:=(f2 k h3).2; omega⟩
variable {w:World} {lo:Nat} {l0:List S84} {lq l1:List S41} {L:List (Nat × MS)}
theorem ms_go (hs:schB l0 l1=true) (hq:SameF lq l1) (hM:Ms w lo lq L) {i:Nat} (hi:i < L.length) (hg:Good l0 l1 L[i].2) (fuel:Int) (k:Nat) (a n e:Int) (s':MS) (hr:goS l1 fuel k L[i].2=some (a,n,e,s')) :
    Calls Try.prog 12 #[.pointer (some ⟨L[i].1,0,none⟩),.int .i64 fuel] w fun x w'=>x=.returned (.tuple #[.int .i64 a,.int .i64 n,.int .i64 e])∧Ms w' lo lq (L.set i (L[i].1,s'))∧Below lo w w':=by
  obtain ⟨ok,p,e1,e2,e3,e4⟩:=hM.op hi
  rw [← e1]
  refine (goS_calls hs hq e3 e2 hg fuel k a n e s' hr).mono ?_
  rintro x w' ⟨rfl,ok',p',h1,h2⟩
  refine ⟨rfl,?_,h1.bel⟩
  have:=e4 w' ok' p' s' h1 h2
  rw [← e1] at this
  exact this
theorem ms_kid (hM:Ms w lo lq L) {i:Nat} (hi:i < L.length) (hg:Good l0 l1 L[i].2) (j:Int) (e:Int) (s':MS) (he:kidE L[i].2 j=e) (hs':kidS L[i].2 j=s') :
    Calls Try.prog 14 #[.pointer (some ⟨L[i].1,0,none⟩),.int .i64 j] w fun x w'=>x=.returned (.int .i64 e)∧Ms w' lo lq (L.set i (L[i].1,s'))∧Below lo w w':=by
  obtain ⟨ok,p,e1,e2,e3,e4⟩:=hM.op hi
  rw [← e1]
  refine (kidS_calls e3 e2 hg j e s' he hs').mono ?_
  rintro x w' ⟨rfl,ok',p',h1,h2⟩
  refine ⟨rfl,?_,h1.bel⟩
  have:=e4 w' ok' p' s' h1 h2
  rw [← e1] at this
  exact this
theorem ms_path (hM:Ms w lo lq L) {i:Nat} (hi:i < L.length) (hg:Good l0 l1 L[i].2) :
    Calls Try.prog 13 #[.pointer (some ⟨L[i].1,0,none⟩)] w fun x w'=>∃ A c,x=.returned (.slice A L[i].2.path.length c)∧Kd.R (Kd.int .i64) 3 w' w.heap.size (fun _=>True) (.slice A L[i].2.path.length c) L[i].2.path∧Ms w' lo lq L∧Below w.heap.size w w':=by
  obtain ⟨ok,p,e1,e2,e3,e4⟩:=hM.op hi
  rw [← e1]
  refine (pathS_calls e3 e2 hg).mono ?_
  rintro x w' ⟨A,c,rfl,h1,h2⟩
  exact ⟨A,c,rfl,h1,hM.below h2,h2⟩
theorem ms_new (hM:Ms w lo (l1.map ownF) L) (A0:Option Addr) (c0:Nat) (A1:Option Addr) (c1:Nat) (hr0:Kd.C k84 w A0 l0.length l0) (hc0:l0.length≤c0) (hr1:Kd.C k41 w A1 l1.length l1) (hc1:l1.length≤c1) (hb:schB l0 l1=true) :
    Calls Try.prog 11 #[.agg #[.slice A0 l0.length c0,.slice A1 l1.length c1]] w fun x w'=>∃ gm,x=.returned (.tuple #[.pointer (some ⟨gm,0,none⟩),.int .i64 0])∧Ms w' lo (l1.map ownF) (L ++ [(gm,ms0)])∧Below w.heap.size w w':=by
  obtain ⟨h0,ok,p,h1,h2⟩:=hM
  refine (new_ok A0 c0 l0 A1 c1 l1 w hr0 hc0 hr1 hc1 hb).mono ?_
  rintro x w' ⟨q,rfl,hm,hb,hown⟩
  exact ⟨q.gm,rfl,Ms.push h0 h1 h2 hb (hm.low_ h0) hown (fun k hk=>.inl ⟨hk.1,hk.2.1⟩),hb⟩
end Go.Proofs.Ytkgknidogelffaa.I
