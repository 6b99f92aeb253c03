/- Texts of this session's proof, laid together: IB8, IB3, IB4, IMo, IMq, IMr, IMs, I9, I10. -/
import Derived.Deep.RegionLaw
import Derived.Deep.RegionHeld3
import Derived.Test.YtkgknidogelffaaS5
namespace Go.Proofs.Ytkgknidogelffaa.I
open Go.RowKit Go.Proofs.YtkgknidogelffaaW.PrintWords Go.Proofs.YtkgknidogelffaaW.PrintLast Go.Proofs.YtkgknidogelffaaW.PrintMore
attribute [local go_sem] max2_int min2_int max_two min_two max_three min_three max_four min_four
set_option linter.unusedVariables false
set_option maxRecDepth 100000
set_option linter.unusedSimpArgs false
def PHead (K:Nat) (tx:ByteArray) (sy:List S84) (fu:List S41) (a k n a2:Int):Prop :=
  (virgationref03_begins.f tx a (⟨#[36]⟩:ByteArray)=some true∧k=0∧∃ b,wrap64 (a+1)=b∧virgationref03_number.f K tx b=some (n,a2,true)) ∨
  (virgationref03_begins.f tx a (⟨#[36]⟩:ByteArray)=some false∧virgationref03_begins.f tx a (⟨#[35]⟩:ByteArray)=some true∧k=2∧∃ (b:Int) (m:Nat),wrap64 (a+1)=b∧n=(m:Int)∧virgationref03_word.f K tx b=some a2∧(0≤b∧b≤a2∧a2≤(tx.size:Int))∧m < sy.length∧(∀ j:Nat,j < m→((rd_T84 sy (j:Int)).f0.toList == (tx.extract b.toNat a2.toNat).toList)=false)∧((rd_T84 sy (m:Int)).f0.toList == (tx.extract b.toNat a2.toNat).toList)=true) ∨
  (virgationref03_begins.f tx a (⟨#[36]⟩:ByteArray)=some false∧virgationref03_begins.f tx a (⟨#[35]⟩:ByteArray)=some false∧k=1∧∃ (b:Int) (m:Nat),a=b∧n=(m:Int)∧virgationref03_word.f K tx b=some a2∧(0≤b∧b≤a2∧a2≤(tx.size:Int))∧m < fu.length∧(∀ j:Nat,j < m→((rd_T41 fu (j:Int)).f0.toList == (tx.extract b.toNat a2.toNat).toList)=false)∧((rd_T41 fu (m:Int)).f0.toList == (tx.extract b.toNat a2.toNat).toList)=true)
theorem tmhead_calls (K:Nat) (tx:ByteArray) (A0:Option Addr) (c0:Nat) (sy:List S84) (A1:Option Addr) (c1:Nat) (fu:List S41) (a k n a2:Int) (w:World) (hr0:Kd.C k84 w A0 sy.length sy) (hr1:Kd.C k41 w A1 fu.length fu) (h:PHead K tx sy fu a k n a2) :
    Calls Try.prog 64 #[.agg #[.slice A0 sy.length c0,.slice A1 fu.length c1],.string tx,.int .i64 a] w fun e w'=>e=.returned (.tuple #[.agg #[.int .i64 k,.int .i64 n,.slice none 0 0],.int .i64 a2,.bool true])∧Below w.heap.size w w':=by
  rcases h with ⟨h1,rfl,b,h2,h3⟩ | ⟨h1,h2,rfl,b,m,h3,rfl,h4,h5,h6,h7,h8⟩ | ⟨h1,h2,rfl,b,m,h3,rfl,h4,h5,h6,h7,h8⟩
  · exact head_var K tx A0 c0 sy A1 c1 fu a b a2 n w hr0 hr1 h1 h2 h3
  · exact head_sym K tx A0 c0 sy A1 c1 fu a b a2 m w hr0 hr1 h1 h2 h3 h4 h5 h6 h7 h8
  · exact head_fun K tx A0 c0 sy A1 c1 fu a b a2 m w hr0 hr1 h1 h2 h3 h4 h5 h6 h7 h8
def PTail (K:Nat) (tx:ByteArray) (sy:List S84) (fu:List S41):Nat→Int→List S36→Int→Prop
  | 0,_,_,_=>False
  | N+1,a,[],a2=>virgationref03_begins.f tx a (⟨#[32]⟩:ByteArray)=some false∧a2=a
  | N + 1,a,x :: xs,a2=>virgationref03_begins.f tx a (⟨#[32]⟩:ByteArray)=some true ∧
      ((virgationref03_begins.f tx a (⟨#[32,40]⟩:ByteArray)=some true∧∃ c b0 b d,wrap64 (a+2)=c∧PHead K tx sy fu c x.f0 x.f1 b0∧PTail K tx sy fu N b0 x.f2 b∧0 < x.f2.length∧virgationref03_begins.f tx b (⟨#[41]⟩:ByteArray)=some true∧wrap64 (b+1)=d∧PTail K tx sy fu N d xs a2) ∨
       (virgationref03_begins.f tx a (⟨#[32,40]⟩:ByteArray)=some false∧∃ c b,wrap64 (a+1)=c∧PHead K tx sy fu c x.f0 x.f1 b∧x.f2=[]∧PTail K tx sy fu N b xs a2))
theorem PTail.len {K:Nat} {tx:ByteArray} {sy:List S84} {fu:List S41}:∀ {N:Nat} {a:Int} {l:List S36} {a2:Int},PTail K tx sy fu N a l a2→l.length < N
  | 0,_,_,_,h=>by unfold PTail at h; exact h.elim
  | N+1,a,[],a2,_=>by simp
  | N+1,a,x :: xs,a2,h=>by
    unfold PTail at h
    rcases h.2 with ⟨_,_,_,_,_,_,_,_,_,_,_,h⟩ | ⟨_,_,_,_,_,_,h⟩
    · have:=PTail.len h; simp; omega
    · have:=PTail.len h; simp; omega
def PS (w0:World) (g3 g6 g9:Nat) (A0:Option Addr) (c0:Nat) (sy:List S84) (A1:Option Addr) (c1:Nat) (fu:List S41) (k n:Int) (Ax:Option Addr) (cx:Nat) (dn:List S36) (w:World):Prop :=
  w.heap[g3]?=some (.cells #[.slice A0 sy.length c0,.slice A1 fu.length c1] 25 (0,0))∧w.heap[g6]?=some (.cells #[.int .i64 0,.int .i64 0,.slice none 0 0] 36 (0,0))∧w.heap[g9]?=some (.cells #[.int .i64 k,.int .i64 n,.slice Ax dn.length cx] 36 (0,0))∧Kd.R k36 36 w w0.heap.size (fun k=>k≠g6∧k≠g9) (.slice Ax dn.length cx) dn∧Below w0.heap.size w0 w
theorem PS.below {w0:World} {g3 g6 g9:Nat} {A0:Option Addr} {c0:Nat} {sy:List S84} {A1:Option Addr} {c1:Nat} {fu:List S41} {k n:Int} {Ax:Option Addr} {cx:Nat} {dn:List S36} {w w1:World} (h:PS w0 g3 g6 g9 A0 c0 sy A1 c1 fu k n Ax cx dn w) (hb:Below w.heap.size w w1):PS w0 g3 g6 g9 A0 c0 sy A1 c1 fu k n Ax cx dn w1:=by
  obtain ⟨h1,h2,h3,h4,h5⟩:=h
  exact ⟨bkB h1 hb,bkB h2 hb,bkB h3 hb,Kd.R_below h4 hb,bst h5 hb⟩
set_option maxHeartbeats 16000000 in
theorem pterm_calls (K:Nat) (tx:ByteArray) (A0:Option Addr) (c0:Nat) (sy:List S84) (A1:Option Addr) (c1:Nat) (fu:List S41) (N:Nat):∀ (a b0:Int) (t:S36) (a2:Int) (w:World),N≤1000→Kd.C k84 w A0 sy.length sy→Kd.C k41 w A1 fu.length fu→PHead K tx sy fu a t.f0 t.f1 b0→PTail K tx sy fu N b0 t.f2 a2 →
    Calls Try.prog 50 #[.agg #[.slice A0 sy.length c0,.slice A1 fu.length c1],.string tx,.int .i64 a] w fun e w'=>∃ v,e=.returned (.tuple #[.agg #[.int .i64 t.f0,.int .i64 t.f1,v],.int .i64 a2,.bool true])∧Kd.R k36 36 w' w.heap.size (fun _=>True) v t.f2∧Below w.heap.size w w':=by
  have hu25:=Try.underlying25
  have hu36:=Try.underlying36
  have hu34:=Try.underlying34
  induction N using Nat.strongRecOn with
  | _ N ih =>
  intro a b0 t a2 w hN hr0 hr1 hph hpt
  have HR0:=Az.mk hr0
  have HR1:=Az.mk hr1
  have HPH:=Az.mk hph
  have HPT:=Az.mk hpt
  have HN:=Az.mk hN
  have HLT:=Az.mk hpt.len
  have IH:=Az.mk ih
  clear hr0 hr1 hph hpt hN ih
  go_enter Try.func50,Try.ntmps50
  go_upto_region 1 with (first
    | ((with_reducible refine gate_dst (N:=3) rfl ?_)
       refine box_event ?hg (N:=3) ?hd (cs:=#[.slice A0 sy.length c0,.slice A1 fu.length c1]) (t:=25) ?hr ?_
       (case hd=>rfl)
       (case hg=>rfl)
       (case hr=>first | (go_simp; done) | (go_simp; rfl))
       intro g3 hg_g3 w2 hbox hbb
       have S32:=Az.mk hbox
       have HB2:=Az.mk hbb
       clear hbox hbb hg_g3)
    | ((with_reducible refine gate_dst (N:=6) rfl ?_)
       refine box_event ?hg (N:=6) ?hd (cs:=#[.int .i64 0,.int .i64 0,.slice none 0 0]) (t:=36) ?hr ?_
       (case hd=>rfl)
       (case hg=>rfl)
       (case hr=>first | (go_simp; done) | (go_simp; rfl))
       intro g6 hg_g6 w3 hbox hbb
       have S3:=Az.mk (bkB S32.out hbb)
       have S6:=Az.mk hbox
       have HB3:=Az.mk (bst HB2.out hbb)
       have HG6:=Az.mk (show w.heap.size≤g6 from by have:=HB2.out.size; omega)
       have e0:w3.cell? ⟨g3,0,none⟩=some (.slice A0 sy.length c0):=(blk_cell S3.out 0).trans rfl
       have e1:w3.cell? ⟨g3,1,none⟩=some (.slice A1 fu.length c1):=(blk_cell S3.out 1).trans rfl
       clear S32 HB2
       clear hbox hbb hg_g6))
  go_upto_region 2 with (first
    | (go_at_call 64
       (with_reducible refine (tmhead_calls K tx A0 c0 sy A1 c1 fu a t.f0 t.f1 b0 w3 (Kd.C_below HR0.out HB3.out) (Kd.C_below HR1.out HB3.out) HPH.out).mono ?_)
       rintro e9 w4 ⟨rfl,hb4⟩
       have HB4:=Az.mk (bst HB3.out hb4)
       have S34:=Az.mk (bkB S3.out hb4)
       have S64:=Az.mk (bkB S6.out hb4)
       clear hb4 S3 S6 HB3
       skip)
    | ((with_reducible refine gate_dst (N:=9) rfl ?_)
       refine box_event ?hg (N:=9) ?hd (cs:=#[.int .i64 0,.int .i64 0,.slice none 0 0]) (t:=36) ?hr ?_
       (case hd=>rfl)
       (case hg=>rfl)
       (case hr=>first | (go_simp; done) | (go_simp; rfl))
       intro g9 hg_g9 w5 hbox hbb
       have hgw_:=HB4.out.size
       have Hg9g:=Az.mk (Nat.le_of_eq hg_g9.symm)
       have Hg9b:=Az.mk (below_set3 (bst HB4.out hbb) (show w.heap.size≤g9 from by omega) (.int .i64 t.f0) (.int .i64 t.f1) (.slice none 0 0))
       have Hg9w:=Az.mk (below_set3 hbb (Nat.le_of_eq hg_g9.symm) (.int .i64 t.f0) (.int .i64 t.f1) (.slice none 0 0))
       have Hg9s:=Az.mk (blk_set3 hbox (.int .i64 t.f0) (.int .i64 t.f1) (.slice none 0 0))
       have hcz0:=(blk_cell hbox 0).trans rfl
       have hcz1:=(blk_cell hbox 1).trans rfl
       have hcz2:=(blk_cell hbox 2).trans rfl
       have hfz0:=bkF hbox 0
       have hfz1:=bkF hbox 1
       have hfz2:=bkF hbox 2
       clear hgw_
       clear hbox hbb hg_g9))
  clear hcz0 hcz1 hcz2 hfz0 hfz1 hfz2 e0 e1
  generalize (((w5.setCell ⟨g9,0,none⟩ (.int .i64 t.f0)).setCell ⟨g9,1,none⟩ (.int .i64 t.f1)).setCell ⟨g9,2,none⟩ (.slice none 0 0))=wp at *
  have HN69:=Az.mk (show g6≠g9 from by have:=blk_lt S64.out; have:=Hg9g.out; omega)
  have HN39:=Az.mk (show g3≠g9 from by have:=blk_lt S34.out; have:=Hg9g.out; omega)
  have HG9:=Az.mk (show w.heap.size≤g9 from by have:=HB4.out.size; have:=Hg9g.out; omega)
  have HPS:=Az.mk (show PS w g3 g6 g9 A0 c0 sy A1 c1 fu t.f0 t.f1 none 0 [] wp from ⟨bkB S34.out Hg9w.out,bkB S64.out Hg9w.out,Hg9s.out,Kd.R_nil _ _ _ _ _,Hg9b.out⟩)
  have HL69:=Az.mk (show g6 < wp.heap.size∧g9 < wp.heap.size from ⟨blk_lt HPS.out.2.1,blk_lt HPS.out.2.2.1⟩)
  clear S34 S64 HB4 Hg9b Hg9w Hg9s Hg9g
  go_loopg [2,10] N (fun kq v2 v10 wr=>∃ (a':Int) (dn xs:List S36) (Ax:Option Addr) (cx:Nat),v2=.int .i64 a'∧v10=.bool true∧Az (kq≤N)∧Az (t.f2=dn ++ xs)∧Az (PTail K tx sy fu kq a' xs a2)∧Az (PS w g3 g6 g9 A0 c0 sy A1 c1 fu t.f0 t.f1 Ax cx dn wr)∧Az (wp.heap.size≤wr.heap.size))
  case atStart=>exact ⟨b0,[],t.f2,none,0,rfl,rfl,⟨Nat.le_refl _⟩,⟨rfl⟩,HPT,HPS,⟨Nat.le_refl _⟩⟩
  case round =>
    clear HPS HPT HPH
    obtain ⟨a',dn,xs,Ax,cx,rfl,rfl,HK,HD,HPT,HPS,HWP⟩:=hrel
    cases gk with
    | zero=>have h:=HPT.out; unfold PTail at h; exact h.elim
    | succ k1 =>
    cases xs with
    | nil =>
      have h:=HPT.out
      unfold PTail at h
      obtain ⟨h1,rfl⟩:=h
      have H1:=Az.mk h1
      have hdn:=HD.out
      rw [List.append_nil] at hdn
      clear h1 HPT HD
      go_upto_region 10 with (
        go_at_call 51
        (with_reducible refine (virgationref03_begins.calls tx a2 (⟨#[32]⟩:ByteArray) false wr H1.out).mono ?_)
        rintro e9 w9 ⟨rfl,hd9⟩
        have HPS9:=Az.mk (HPS.out.below hd9.below)
        clear hd9
        skip)
      obtain ⟨s3,s6,s9,hR,hb⟩:=HPS9.out
      rw [← hdn] at s9 hR
      have S6:=Az.mk s6
      have S9:=Az.mk s9
      have HR:=Az.mk hR
      have HB:=Az.mk hb
      clear s3 s6 s9 hR hb HPS HPS9 hdn
      have m0:w9.cell? ⟨g9,0,none⟩=some (.int .i64 t.f0):=(blk_cell S9.out 0).trans rfl
      have m1:w9.cell? ⟨g9,1,none⟩=some (.int .i64 t.f1):=(blk_cell S9.out 1).trans rfl
      have m2:w9.cell? ⟨g9,2,none⟩=some (.slice Ax t.f2.length cx):=(blk_cell S9.out 2).trans rfl
      have z0:w9.cell? ⟨g6,0,none⟩=some (.int .i64 0):=(blk_cell S6.out 0).trans rfl
      have z1:w9.cell? ⟨g6,1,none⟩=some (.int .i64 0):=(blk_cell S6.out 1).trans rfl
      have z2:w9.cell? ⟨g6,2,none⟩=some (.slice none 0 0):=(blk_cell S6.out 2).trans rfl
      have f0:=bkF S6.out 0
      have f1:=bkF S6.out 1
      have f2:=bkF S6.out 2
      go_wp2_with fail
      refine bodyPost_ret (results_ctt rfl _ _ g6 36 #[.int .i64 t.f0,.int .i64 t.f1,.slice Ax t.f2.length cx] (0,0) _ rfl (blk_set3 S6.out _ _ _) Try.underlying36 rfl (by kernel_rfl)) rfl ?_
      exact ⟨_,rfl,Kd.R_mono (Kd.R_far (p:=⟨g6,2,none⟩) (Kd.R_far (p:=⟨g6,1,none⟩) (Kd.R_far (p:=⟨g6,0,none⟩) HR.out (fun k hk=>hk.1) _) (fun k hk=>hk.1) _) (fun k hk=>hk.1) _) (fun _ _=>trivial),below_set3 HB.out HG6.out _ _ _⟩
    | cons x xs =>
    have h:=HPT.out
    unfold PTail at h
    obtain ⟨h1,h2⟩:=h
    have H1:=Az.mk h1
    have HDL:=Az.mk (show dn.length+1≤1000 from by have h1:=HLT.out; have h2:=HN.out; rw [HD.out,List.length_append,List.length_cons] at h1; omega)
    have HDN:=Az.mk (show t.f2=(dn ++ [x]) ++ xs from by rw [HD.out,List.append_assoc]; rfl)
    have HNk:=Az.mk (show k1 < N∧k1≤1000 from by have h1:=HK.out; have h2:=HN.out; omega)
    clear h1 HPT HD
    go_upto_region 4 with (first
      | (go_at_call 51
         (with_reducible refine (virgationref03_begins.calls tx a' (⟨#[32]⟩:ByteArray) true wr H1.out).mono ?_)
         rintro e9 w6 ⟨rfl,hd9⟩
         have HPS6:=Az.mk (HPS.out.below hd9.below)
         have HW6:=Az.mk hd9.below.size
         clear hd9
         skip)
      | ((with_reducible refine gate_dst (N:=11) rfl ?_)
         refine box_event ?hg (N:=11) ?hd (cs:=#[.int .i64 0,.int .i64 0,.slice none 0 0]) (t:=36) ?hr ?_
         (case hd=>rfl)
         (case hg=>rfl)
         (case hr=>first | (go_simp; done) | (go_simp; rfl))
         intro gx hg_gx w7 hbox hbb
         have HPS7:=Az.mk (HPS6.out.below hbb)
         have Sx:=Az.mk hbox
         have HW7:=Az.mk hbb.size
         have HGx:=Az.mk (show w.heap.size≤gx from by have:=HPS6.out.2.2.2.2.size; omega)
         have HRW:=Az.mk (Kd.R_below (Kd.R_mono (ok':=fun k=>(k≠g6∧k≠g9)∧k≠gx) (Kd.R_bound HPS6.out.2.2.2.1) (fun k hk=>⟨hk.1,by have:=hk.2.2.1; omega⟩)) hbb)
         have HN3x:=Az.mk (show g3≠gx from by have:=blk_lt HPS6.out.1; omega)
         have HNx:=Az.mk (show gx≠g9∧gx≠g6 from by have:=blk_lt HPS6.out.2.1; have:=blk_lt HPS6.out.2.2.1; omega)
         clear hbox hbb hg_gx))
    clear HPS HPS6
    rcases h2 with ⟨h2,c,b1,b,d,h3,h4,h5,h6,h7,h8,h9⟩ | ⟨h2,c,b,h3,h4,h5,h6⟩
    · have H2:=Az.mk h2
      have H4:=Az.mk h4
      have H5:=Az.mk h5
      have H7:=Az.mk h7
      have HT2:=Az.mk h9
      have h3w:IntKind.i64.wrap (a'+2)=c:=(i64_w _).trans h3
      have h8w:IntKind.i64.wrap (b+1)=d:=(i64_w _).trans h8
      have q6:((x.f2.length:Int) > 0)=True:=eq_true (by omega)
      have q7:(0 < (x.f2.length:Int))=True:=eq_true (by omega)
      have q8:(0 < x.f2.length)=True:=eq_true h6
      clear h2 h4 h5 h6 h7 h9
      go_upto_region 5 with (
        go_at_call 51
        (with_reducible refine (virgationref03_begins.calls tx a' (⟨#[32,40]⟩:ByteArray) true w7 H2.out).mono ?_)
        rintro e9 wq ⟨rfl,hd9⟩
        have HPSq:=Az.mk (HPS7.out.below hd9.below)
        have Sxq:=Az.mk (bkB Sx.out hd9.below)
        have HRWq:=Az.mk (Kd.R_below HRW.out hd9.below)
        have HWQ:=Az.mk (show wp.heap.size≤wq.heap.size from by have:=HWP.out; have:=HW6.out; have:=HW7.out; have:=hd9.below.size; omega)
        clear hd9
        skip)
      have HRq:=Az.mk HPSq.out.2.2.2.1
      have HBQ:=Az.mk HPSq.out.2.2.2.2
      have e0:wq.cell? ⟨g3,0,none⟩=some (.slice A0 sy.length c0):=(blk_cell HPSq.out.1 0).trans rfl
      have e1:wq.cell? ⟨g3,1,none⟩=some (.slice A1 fu.length c1):=(blk_cell HPSq.out.1 1).trans rfl
      clear HPS7 Sx
      go_upto_region 6 with (
        go_at_call 50
        (with_reducible refine (IH.out k1 HNk.out.1 c b1 x b wq HNk.out.2 (Kd.C_below HR0.out HBQ.out) (Kd.C_below HR1.out HBQ.out) H4.out H5.out).mono ?_)
        rintro e9 wA ⟨v,rfl,hRx,hbA⟩
        obtain ⟨A11,c11,rfl⟩:=Kd.R_slice hRx
        have HRX:=Az.mk (Kd.R_lower (Kd.R_mono (Kd.R_bound hRx) (fun k hk=>(show wq.heap.size≤k from hk.2.1))) (HPSq.out.2.2.2.2.size))
        have HPSA:=Az.mk (HPSq.out.below hbA)
        have SxA:=Az.mk (bkB Sxq.out hbA)
        have HRWA:=Az.mk (Kd.R_below HRWq.out hbA)
        have HLx:=Az.mk (blk_lt Sxq.out)
        have HWA:=Az.mk (show wp.heap.size≤wA.heap.size from by have:=HWQ.out; have:=hbA.size; omega)
        have z0:=(blk_cell SxA.out 0).trans rfl
        have z1:=(blk_cell SxA.out 1).trans rfl
        have z2:=(blk_cell SxA.out 2).trans rfl
        have f0:=bkF SxA.out 0
        have f1:=bkF SxA.out 1
        have f2:=bkF SxA.out 2
        clear hRx hbA
        skip)
      clear e0 e1 z0 z1 z2 f0 f1 f2 HPSq Sxq
      have Sx2:=Az.mk (blk_set3 SxA.out (.int .i64 x.f0) (.int .i64 x.f1) (.slice A11 x.f2.length c11))
      have HPSB:=Az.mk (show PS w g3 g6 g9 A0 c0 sy A1 c1 fu t.f0 t.f1 Ax cx dn _ from ⟨blk_far3 HPSA.out.1 (fun he=>HN3x.out he) (.int .i64 x.f0) (.int .i64 x.f1) (.slice A11 x.f2.length c11),blk_far3 HPSA.out.2.1 (fun he=>HNx.out.2 he.symm) _ _ _,blk_far3 HPSA.out.2.2.1 (fun he=>HNx.out.1 he.symm) _ _ _,Kd.R_mono (Kd.R_far (p:=⟨gx,2,none⟩) (Kd.R_far (p:=⟨gx,1,none⟩) (Kd.R_far (p:=⟨gx,0,none⟩) HRWA.out (fun k hk=>hk.2) _) (fun k hk=>hk.2) _) (fun k hk=>hk.2) _) (fun k hk=>hk.1),below_set3 HPSA.out.2.2.2.2 HGx.out _ _ _⟩)
      have HRX2:=Az.mk (Kd.R_far (p:=⟨gx,2,none⟩) (Kd.R_far (p:=⟨gx,1,none⟩) (Kd.R_far (p:=⟨gx,0,none⟩) HRX.out (fun k hk=>by have:=HLx.out; have:wq.heap.size≤k:=hk; show k≠gx; omega) (.int .i64 x.f0)) (fun k hk=>by have:=HLx.out; have:wq.heap.size≤k:=hk; show k≠gx; omega) (.int .i64 x.f1)) (fun k hk=>by have:=HLx.out; have:wq.heap.size≤k:=hk; show k≠gx; omega) (.slice A11 x.f2.length c11))
      clear HPSA SxA HRX HRWA
      have HWA1:=Az.mk (show wp.heap.size≤(((wA.setCell ⟨gx,0,none⟩ (.int .i64 x.f0)).setCell ⟨gx,1,none⟩ (.int .i64 x.f1)).setCell ⟨gx,2,none⟩ (.slice A11 x.f2.length c11)).heap.size from by simp only [World.size_setCell]; exact HWA.out)
      clear HWA
      generalize (((wA.setCell ⟨gx,0,none⟩ (.int .i64 x.f0)).setCell ⟨gx,1,none⟩ (.int .i64 x.f1)).setCell ⟨gx,2,none⟩ (.slice A11 x.f2.length c11))=wB at *
      have HWA:=Az.mk (show wp.heap.size≤wB.heap.size from HWA1.out)
      have y0:wB.cell? ⟨gx,0,none⟩=some (.int .i64 x.f0):=(blk_cell Sx2.out 0).trans rfl
      have y1:wB.cell? ⟨gx,1,none⟩=some (.int .i64 x.f1):=(blk_cell Sx2.out 1).trans rfl
      have y2:wB.cell? ⟨gx,2,none⟩=some (.slice A11 x.f2.length c11):=(blk_cell Sx2.out 2).trans rfl
      have HWB:=Az.mk (show wp.heap.size≤wB.heap.size from by have h:=HWA.out; omega)
      clear HWA
      go_upto_region 9 with (
        go_at_call 51
        (with_reducible refine (virgationref03_begins.calls tx b (⟨#[41]⟩:ByteArray) true wB H7.out).mono ?_)
        rintro e9 wC ⟨rfl,hd9⟩
        have HPSA:=Az.mk (HPSB.out.below hd9.below)
        have SxA:=Az.mk (bkB Sx2.out hd9.below)
        have HRX:=Az.mk (Kd.R_below HRX2.out hd9.below)
        have HWA:=Az.mk (show wp.heap.size≤wC.heap.size from by have:=HWB.out; have:=hd9.below.size; omega)
        clear hd9
        skip)
      clear y0 y1 y2 HPSB Sx2 HRX2
      have n0:wC.cell? ⟨gx,0,none⟩=some (.int .i64 x.f0):=(blk_cell SxA.out 0).trans rfl
      have n1:wC.cell? ⟨gx,1,none⟩=some (.int .i64 x.f1):=(blk_cell SxA.out 1).trans rfl
      have n2:wC.cell? ⟨gx,2,none⟩=some (.slice A11 x.f2.length c11):=(blk_cell SxA.out 2).trans rfl
      have m2:wC.cell? ⟨g9,2,none⟩=some (.slice Ax dn.length cx):=(blk_cell HPSA.out.2.2.1 2).trans rfl
      go_wp2_with (at_builtin; refine holdX ?_)
      unfold HoldX
      clear n0 n1 n2 m2
      obtain ⟨s3,s6,s9,hR,hb⟩:=HPSA.out
      have hbr:=Kd.R_lt HRq.out
      refine Kd.R_append k36 (w0:=w) w.heap.size rfl (.tmp 62) (.tmp 64) 34 36 (.agg #[.int .i64 0,.int .i64 0,.slice none 0 0]) 40 rfl Try.underlying34 (by kernel_rfl) rfl (by decide) (by omega) (.slice Ax dn.length cx) dn x [.int .i64 x.f0,.int .i64 x.f1,.slice A11 x.f2.length c11] (fun k=>k≠g6∧k≠g9) (fun k=>wq.heap.size≤k) rfl rfl (k36_mkM _ _ _ x HRX.out) (fun k hk=>⟨⟨by have:=HL69.out; have:=HWQ.out; omega,by have:=HL69.out; have:=HWQ.out; omega⟩,fun e=>by have:=hbr k e.symm; omega⟩) (fun k hk=>⟨by have:=blk_lt s6; omega,by have:=blk_lt s9; omega⟩) hR hb hb.size (by have:=HDL.out; omega) ?_
      intro v2 w9 hrf hb9 hg9 hat9
      obtain ⟨A5,c5,e5⟩:=Kd.R_slice hrf
      have hdl:(dn ++ [x]).length=dn.length+1:=by rw [List.length_append]; rfl
      rw [hdl] at e5
      subst e5
      have S39:=Az.mk (blk_grown s3 hg9 (fun he=>by obtain ⟨q,hq⟩:=Kd.R_typed hR g3 he.symm; exact absurd (blk_type hq s3) (by decide)))
      have S69:=Az.mk (blk_grown s6 hg9 (Kd.R_away hR (fun k hk=>hk.1)))
      have S99:=Az.mk (blk_grown s9 hg9 (Kd.R_away hR (fun k hk=>hk.2)))
      have HR9:=Az.mk hrf
      have HB9:=Az.mk hb9
      have HW9:=Az.mk (show wp.heap.size≤w9.heap.size from by have:=hg9.size; have:=HWA.out; omega)
      clear s3 s6 s9 hR hb hrf hb9 hg9 hat9 hbr HPSA SxA
      have m9:w9.cell? ⟨g9,2,none⟩=some (.slice Ax dn.length cx):=(blk_cell S99.out 2).trans rfl
      have f9:=bkF S99.out 2
      go_wp2_with fail
      have HPSn:=Az.mk (show PS w g3 g6 g9 A0 c0 sy A1 c1 fu t.f0 t.f1 A5 c5 (dn ++ [x]) (w9.setCell ⟨g9,2,none⟩ (.slice A5 (dn.length+1) c5)) from by
        unfold PS
        rw [hdl]
        exact ⟨blk_far (p:=⟨g9,2,none⟩) S39.out (fun he=>HN39.out he) _,blk_far (p:=⟨g9,2,none⟩) S69.out (fun he=>HN69.out he) _,blk_put S99.out 2 _ rfl,Kd.R_far (p:=⟨g9,2,none⟩) HR9.out (fun k hk=>hk.2) _,bset HB9.out HG9.out⟩)
      go_roundg k1
      case measure=>omega
      case rel=>exact ⟨_,dn ++ [x],xs,A5,c5,by first | rfl | (refine congrArg _ ?_; omega),rfl,⟨by have:=HK.out; omega⟩,HDN,HT2,HPSn,⟨by have:=HW9.out; have e:=World.size_setCell w9 ⟨g9,2,none⟩ (.slice A5 (dn.length+1) c5); omega⟩⟩
    · cases x with
      | mk xk xn xl =>
      have h5:xl=[]:=h5
      subst h5
      have H2:=Az.mk h2
      have H4:=Az.mk (show PHead K tx sy fu c xk xn b from h4)
      have HT2:=Az.mk h6
      have h3w:IntKind.i64.wrap (a'+1)=c:=(i64_w _).trans h3
      clear h2 h4 h6
      go_upto_region 8 with (
        go_at_call 51
        (with_reducible refine (virgationref03_begins.calls tx a' (⟨#[32,40]⟩:ByteArray) false w7 H2.out).mono ?_)
        rintro e9 wq ⟨rfl,hd9⟩
        have HPSq:=Az.mk (HPS7.out.below hd9.below)
        have Sxq:=Az.mk (bkB Sx.out hd9.below)
        have HRWq:=Az.mk (Kd.R_below HRW.out hd9.below)
        have HWQ:=Az.mk (show wp.heap.size≤wq.heap.size from by have:=HWP.out; have:=HW6.out; have:=HW7.out; have:=hd9.below.size; omega)
        clear hd9
        skip)
      have HRq:=Az.mk HPSq.out.2.2.2.1
      have HBQ:=Az.mk HPSq.out.2.2.2.2
      have e0:wq.cell? ⟨g3,0,none⟩=some (.slice A0 sy.length c0):=(blk_cell HPSq.out.1 0).trans rfl
      have e1:wq.cell? ⟨g3,1,none⟩=some (.slice A1 fu.length c1):=(blk_cell HPSq.out.1 1).trans rfl
      clear HPS7 Sx
      go_upto_region 9 with (
        go_at_call 64
        (with_reducible refine (tmhead_calls K tx A0 c0 sy A1 c1 fu c xk xn b wq (Kd.C_below HR0.out HBQ.out) (Kd.C_below HR1.out HBQ.out) H4.out).mono ?_)
        rintro e9 wA ⟨rfl,hbA⟩
        have HPSD:=Az.mk (HPSq.out.below hbA)
        have SxD:=Az.mk (bkB Sxq.out hbA)
        have HRWD:=Az.mk (Kd.R_below HRWq.out hbA)
        have HWD:=Az.mk (show wp.heap.size≤wA.heap.size from by have:=HWQ.out; have:=hbA.size; omega)
        have z0:=(blk_cell SxD.out 0).trans rfl
        have z1:=(blk_cell SxD.out 1).trans rfl
        have z2:=(blk_cell SxD.out 2).trans rfl
        have f0:=bkF SxD.out 0
        have f1:=bkF SxD.out 1
        have f2:=bkF SxD.out 2
        clear hbA
        skip)
      clear e0 e1 z0 z1 z2 f0 f1 f2 HPSq Sxq
      have SxA:=Az.mk (blk_set3 SxD.out (.int .i64 xk) (.int .i64 xn) (.slice none 0 0))
      have HPSA:=Az.mk (show PS w g3 g6 g9 A0 c0 sy A1 c1 fu t.f0 t.f1 Ax cx dn _ from ⟨blk_far3 HPSD.out.1 (fun he=>HN3x.out he) (.int .i64 xk) (.int .i64 xn) (.slice none 0 0),blk_far3 HPSD.out.2.1 (fun he=>HNx.out.2 he.symm) _ _ _,blk_far3 HPSD.out.2.2.1 (fun he=>HNx.out.1 he.symm) _ _ _,Kd.R_mono (Kd.R_far (p:=⟨gx,2,none⟩) (Kd.R_far (p:=⟨gx,1,none⟩) (Kd.R_far (p:=⟨gx,0,none⟩) HRWD.out (fun k hk=>hk.2) _) (fun k hk=>hk.2) _) (fun k hk=>hk.2) _) (fun k hk=>hk.1),below_set3 HPSD.out.2.2.2.2 HGx.out _ _ _⟩)
      have HWA0:=Az.mk (show wp.heap.size≤(((wA.setCell ⟨gx,0,none⟩ (.int .i64 xk)).setCell ⟨gx,1,none⟩ (.int .i64 xn)).setCell ⟨gx,2,none⟩ (.slice none 0 0)).heap.size from by simp only [World.size_setCell]; exact HWD.out)
      clear HPSD SxD HRWD HWD
      generalize (((wA.setCell ⟨gx,0,none⟩ (.int .i64 xk)).setCell ⟨gx,1,none⟩ (.int .i64 xn)).setCell ⟨gx,2,none⟩ (.slice none 0 0))=wB at *
      have HWA:=Az.mk (show wp.heap.size≤wB.heap.size from HWA0.out)
      have HRX:=Az.mk (show Kd.R k36 36 wB w.heap.size (fun k=>wq.heap.size≤k) (.slice none 0 0) [] from Kd.R_nil _ _ _ _ _)
      have n0:wB.cell? ⟨gx,0,none⟩=some (.int .i64 xk):=(blk_cell SxA.out 0).trans rfl
      have n1:wB.cell? ⟨gx,1,none⟩=some (.int .i64 xn):=(blk_cell SxA.out 1).trans rfl
      have n2:wB.cell? ⟨gx,2,none⟩=some (.slice none 0 0):=(blk_cell SxA.out 2).trans rfl
      have m2:wB.cell? ⟨g9,2,none⟩=some (.slice Ax dn.length cx):=(blk_cell HPSA.out.2.2.1 2).trans rfl
      go_wp2_with (at_builtin; refine holdX ?_)
      unfold HoldX
      clear n0 n1 n2 m2
      obtain ⟨s3,s6,s9,hR,hb⟩:=HPSA.out
      have hbr:=Kd.R_lt HRq.out
      refine Kd.R_append k36 (w0:=w) w.heap.size rfl (.tmp 62) (.tmp 64) 34 36 (.agg #[.int .i64 0,.int .i64 0,.slice none 0 0]) 40 rfl Try.underlying34 (by kernel_rfl) rfl (by decide) (by omega) (.slice Ax dn.length cx) dn (⟨xk,xn,[]⟩:S36) [.int .i64 xk,.int .i64 xn,.slice none 0 0] (fun k=>k≠g6∧k≠g9) (fun k=>wq.heap.size≤k) rfl rfl (k36_mkM _ _ _ (⟨xk,xn,[]⟩:S36) HRX.out) (fun k hk=>⟨⟨by have:=HL69.out; have:=HWQ.out; omega,by have:=HL69.out; have:=HWQ.out; omega⟩,fun e=>by have:=hbr k e.symm; omega⟩) (fun k hk=>⟨by have:=blk_lt s6; omega,by have:=blk_lt s9; omega⟩) hR hb hb.size (by have:=HDL.out; omega) ?_
      intro v2 w9 hrf hb9 hg9 hat9
      obtain ⟨A5,c5,e5⟩:=Kd.R_slice hrf
      have hdl:(dn ++ [(⟨xk,xn,[]⟩:S36)]).length=dn.length+1:=by rw [List.length_append]; rfl
      rw [hdl] at e5
      subst e5
      have S39:=Az.mk (blk_grown s3 hg9 (fun he=>by obtain ⟨q,hq⟩:=Kd.R_typed hR g3 he.symm; exact absurd (blk_type hq s3) (by decide)))
      have S69:=Az.mk (blk_grown s6 hg9 (Kd.R_away hR (fun k hk=>hk.1)))
      have S99:=Az.mk (blk_grown s9 hg9 (Kd.R_away hR (fun k hk=>hk.2)))
      have HR9:=Az.mk hrf
      have HB9:=Az.mk hb9
      have HW9:=Az.mk (show wp.heap.size≤w9.heap.size from by have:=hg9.size; have:=HWA.out; omega)
      clear s3 s6 s9 hR hb hrf hb9 hg9 hat9 hbr HPSA SxA
      have m9:w9.cell? ⟨g9,2,none⟩=some (.slice Ax dn.length cx):=(blk_cell S99.out 2).trans rfl
      have f9:=bkF S99.out 2
      go_wp2_with fail
      have HPSn:=Az.mk (show PS w g3 g6 g9 A0 c0 sy A1 c1 fu t.f0 t.f1 A5 c5 (dn ++ [(⟨xk,xn,[]⟩:S36)]) (w9.setCell ⟨g9,2,none⟩ (.slice A5 (dn.length+1) c5)) from by
        unfold PS
        rw [hdl]
        exact ⟨blk_far (p:=⟨g9,2,none⟩) S39.out (fun he=>HN39.out he) _,blk_far (p:=⟨g9,2,none⟩) S69.out (fun he=>HN69.out he) _,blk_put S99.out 2 _ rfl,Kd.R_far (p:=⟨g9,2,none⟩) HR9.out (fun k hk=>hk.2) _,bset HB9.out HG9.out⟩)
      go_roundg k1
      case measure=>omega
      case rel=>exact ⟨_,dn ++ [(⟨xk,xn,[]⟩:S36)],xs,A5,c5,by first | rfl | (refine congrArg _ ?_; omega),rfl,⟨by have:=HK.out; omega⟩,HDN,HT2,HPSn,⟨by have:=HW9.out; have e:=World.size_setCell w9 ⟨g9,2,none⟩ (.slice A5 (dn.length+1) c5); omega⟩⟩
end Go.Proofs.Ytkgknidogelffaa.I
namespace Go.Proofs.Ytkgknidogelffaa.I
open Go.RowKit Go.Proofs.YtkgknidogelffaaW.PrintWords Go.Proofs.YtkgknidogelffaaW.PrintLast Go.Proofs.YtkgknidogelffaaW.PrintMore
attribute [local go_sem] max2_int min2_int max_two min_two max_three min_three max_four min_four
set_option linter.unusedVariables false
set_option maxRecDepth 100000
set_option linter.unusedSimpArgs false
theorem V_at84 {w:World} {B n c:Nat} {P:Nat→Prop} {A:Option Addr} {l:List S41} (h:Kd.V k41 41 w B P (.slice A n c) l) {i:Nat} (h1:i < n) :
    ∃ ad A3 c3 A4 c4,A=some ad∧w.cell? (ad.add (i*5))=some (.string (rd_T41 l (i:Int)).f0)∧w.cell? ⟨(ad.add (i*5)).block,(ad.add (i*5)).off+1,none⟩=some (.slice A3 (rd_T41 l (i:Int)).f1.f0.length c3)∧w.cell? ⟨(ad.add (i*5)).block,(ad.add (i*5)).off+2,none⟩=some (.int .i64 (rd_T41 l (i:Int)).f2.f0)∧w.cell? ⟨(ad.add (i*5)).block,(ad.add (i*5)).off+3,none⟩=some (.int .i64 (rd_T41 l (i:Int)).f2.f1)∧w.cell? ⟨(ad.add (i*5)).block,(ad.add (i*5)).off+4,none⟩=some (.slice A4 (rd_T41 l (i:Int)).f2.f2.length c4)∧(rd_T41 l (i:Int)).f1.f0.length≤c3∧Kd.F k39 w P A3 (rd_T41 l (i:Int)).f1.f0.length (rd_T41 l (i:Int)).f1.f0:=by
  obtain ⟨ad,A3,c3,A4,c4,rfl,x0,x1,x2,x3,x4,l3,C3,l4,C4⟩:=at_T41 (Kd.V_reads' h).2.2 (i:Int) (by omega) (by have:=(Kd.V_reads' h).1; omega)
  obtain ⟨ce,hce,hM,hcc⟩:=Kd.V_get h z41 (i:Int) (by omega) (by omega)
  obtain ⟨B3,d3,B4,d4,rfl,m3,f3,m4,f4⟩:=k41_openF hM
  have hv:=hcc 1 _ rfl
  rw [Int.toNat_natCast] at x0 x1 x2 x3 x4 hv
  rw [show (k41).sz=5 from rfl,add_field ad (i*5) 1 (by omega)] at hv
  have e:=Option.some.inj (hv.symm.trans x1)
  injection e with ea _ ec
  rw [ea] at f3
  exact ⟨ad,A3,c3,A4,c4,rfl,x0,x1,x2,x3,x4,l3,f3⟩
theorem take84s {l:List S41} {i:Nat} (h:i < l.length):l.take (i+1)=l.take i ++ [rd_T41 l (i:Int)]:=by
  have e2:rd_T41 l (i:Int)=l[i]:=by unfold rd_T41; rw [Int.toNat_natCast,List.getD_eq_getElem?_getD,List.getElem?_eq_getElem h]; rfl
  rw [List.take_add_one,List.getElem?_eq_getElem h,e2]; rfl
def GtS (w4:World) (g2 g4:Nat) (A0:Option Addr) (c0:Nat) (A1:Option Addr) (c1:Nat) (Ab:Option Addr) (cb:Nat) (Ao:Option Addr) (co:Nat) (sy:List S84) (fu:List S41) (bo:List Int) (dn:List S41) (w:World):Prop :=
  Kd.V k84 84 w 0 (fun k=>g2 < k∧k < g4) (.slice A0 sy.length c0) sy∧Kd.V k41 41 w 0 (fun k=>g2 < k∧k < g4) (.slice A1 fu.length c1) fu∧Kd.V (Kd.int .i64) 3 w 0 (fun k=>g2 < k∧k < g4) (.slice Ab bo.length cb) bo∧Kd.N k41 41 w w4.heap.size (fun k=>k≠g2∧k≠g4) (.slice Ao dn.length co) dn∧w.heap[g4]?=some (.cells #[.slice A0 sy.length c0,.slice A1 fu.length c1] 25 (0,0))∧w.heap[g2]?=some (.cells #[.slice none 0 0,.slice none 0 0] 25 (0,0))∧Below w4.heap.size w4 w
theorem GtS.below {w4:World} {g2 g4:Nat} {A0:Option Addr} {c0:Nat} {A1:Option Addr} {c1:Nat} {Ab:Option Addr} {cb:Nat} {Ao:Option Addr} {co:Nat} {sy:List S84} {fu:List S41} {bo:List Int} {dn:List S41} {w w1:World} (h:GtS w4 g2 g4 A0 c0 A1 c1 Ab cb Ao co sy fu bo dn w) (hb:Below w.heap.size w w1):GtS w4 g2 g4 A0 c0 A1 c1 Ab cb Ao co sy fu bo dn w1:=by
  obtain ⟨h1,h2,h3,h4,h5,h6,h7⟩:=h
  exact ⟨Kd.V_below h1 hb,Kd.V_below h2 hb,Kd.V_below h3 hb,Kd.N_below h4 hb,bkB h5 hb,bkB h6 hb,bst h7 hb⟩
set_option maxHeartbeats 16000000 in
theorem get_calls (K N:Nat) (tx:ByteArray) (a1:Int) (sy:List S84) (fu:List S41) (bo:List Int) (out:List S41) (w:World) (hsy:Syms tx sy 0 a1) (hfu:Funs tx fu bo a1) (hl1:sy.length≤1000) (hl2:fu.length≤1000) (hbl:bo.length=fu.length) (hol:out.length=fu.length) (hsz:tx.size≤65536)
    (hN:N≤1000) (hp:∀ i:Nat,i < fu.length→∃ b0 at_,PHead K tx sy fu (rd bo (i:Int)) (rd_T41 out (i:Int)).f2.f0 (rd_T41 out (i:Int)).f2.f1 b0∧PTail K tx sy fu N b0 (rd_T41 out (i:Int)).f2.f2 at_∧virgationref03_begins.f tx at_ (⟨#[10]⟩:ByteArray)=some true∧(rd_T41 out (i:Int)).f0=(rd_T41 fu (i:Int)).f0∧(rd_T41 out (i:Int)).f1=(rd_T41 fu (i:Int)).f1) (hs:schB sy out=true) :
    Calls Try.prog 28 #[.string tx] w fun e w'=>∃ A0 c0 A1 c1,e=.returned (.tuple #[.agg #[.slice A0 sy.length c0,.slice A1 out.length c1],.int .i64 0])∧Kd.C k84 w' A0 sy.length sy∧sy.length≤c0∧Kd.C k41 w' A1 out.length out∧out.length≤c1∧Below w.heap.size w w':=by
  have hu25:=Try.underlying25
  have hu41:=Try.underlying41
  have hu39:=Try.underlying39
  have hu36:=Try.underlying36
  have HSY:=Az.mk hsy
  have HFU:=Az.mk hfu
  have HL1:=Az.mk hl1
  have HL2:=Az.mk hl2
  have HBL:=Az.mk hbl
  have HOL:=Az.mk hol
  have HP:=Az.mk hp
  have HNN:=Az.mk hN
  have HS:=Az.mk hs
  have HSZ:=Az.mk hsz
  have p0:(65536 < tx.size)=False:=eq_false (by omega)
  have p1:((65536:Int) < (tx.size:Int))=False:=eq_false (by omega)
  clear hsy hfu hl1 hl2 hbl hol hp hs hsz hN
  go_enter Try.func28,Try.ntmps28
  go_wp2_with (first
    | ((with_reducible refine gate_dst (N:=2) rfl ?_)
       refine box_event ?hg (N:=2) ?hd (cs:=#[.slice none 0 0,.slice none 0 0]) (t:=25) ?hr ?_
       (case hd=>rfl)
       (case hg=>rfl)
       (case hr=>first | (go_simp; done) | (go_simp; rfl))
       intro g2 hg2 w2 hbox hb2
       have S2:=Az.mk hbox
       have HB2:=Az.mk hb2
       have HG2:=Az.mk (show w.heap.size≤g2 from by omega)
       have HL2g:=Az.mk (show g2 < w2.heap.size from blk_lt hbox)
       clear hbox hb2 hg2)
    | (go_at_call 49
       (with_reducible refine (names_calls tx a1 sy fu bo w2 HSY.out HFU.out HL1.out HL2.out (by have:=HBL.out; have:=HL2.out; omega) (by have:=HSZ.out; omega)).mono ?_)
       rintro e9 w3 ⟨A0,c0,A1,c1,Ab,cb,rfl,r1,r2,r3,hb3⟩
       have R1:=Az.mk (Kd.R_bound r1)
       have R2:=Az.mk (Kd.R_bound r2)
       have R3:=Az.mk (Kd.R_bound r3)
       have S23:=Az.mk (bkB S2.out hb3)
       have HB3:=Az.mk (bst HB2.out hb3)
       have H23:=Az.mk hb3.size
       clear r1 r2 r3 hb3 HSY HFU S2 HB2)
    | ((with_reducible refine gate_dst (N:=4) rfl ?_)
       refine box_event ?hg (N:=4) ?hd (cs:=#[.slice none 0 0,.slice none 0 0]) (t:=25) ?hr ?_
       (case hd=>rfl)
       (case hg=>rfl)
       (case hr=>first | (go_simp; done) | (go_simp; rfl))
       intro g4 hg4 w4 hbox hb4
       have hgw:w3.heap.size≤g4:=by omega
       have Hbw:=Az.mk (bset (g:=g4) (j:=1) (v:=.slice A1 fu.length c1) (bset (g:=g4) (j:=0) (v:=.slice A0 sy.length c0) hb4 hgw) hgw)
       have S4:=Az.mk (blk_put (cs':=#[.slice A0 sy.length c0,.slice A1 fu.length c1]) (blk_put (cs':=#[.slice A0 sy.length c0,.slice none 0 0]) hbox 0 (.slice A0 sy.length c0) rfl) 1 (.slice A1 fu.length c1) rfl)
       have S24:=Az.mk (bkB S23.out Hbw.out)
       have HB4:=Az.mk (bst HB3.out Hbw.out)
       have HG24:=Az.mk (show g2 < g4 from by have:=HL2g.out; have:=H23.out; omega)
       have V1:=Az.mk (Kd.V_below (Kd.V_mono (ok':=fun k=>g2 < k∧k < g4) (Kd.R_V (base':=0) R1.out) (fun k hk=>⟨by have:=HL2g.out; have:=hk.2.1; omega,by have:=hk.2.2.1; omega⟩)) Hbw.out)
       have V2:=Az.mk (Kd.V_below (Kd.V_mono (ok':=fun k=>g2 < k∧k < g4) (Kd.R_V (base':=0) R2.out) (fun k hk=>⟨by have:=HL2g.out; have:=hk.2.1; omega,by have:=hk.2.2.1; omega⟩)) Hbw.out)
       have V3:=Az.mk (Kd.V_below (Kd.V_mono (ok':=fun k=>g2 < k∧k < g4) (Kd.R_V (base':=0) R3.out) (fun k hk=>⟨by have:=HL2g.out; have:=hk.2.1; omega,by have:=hk.2.2.1; omega⟩)) Hbw.out)
       have hcz0:=(blk_cell hbox 0).trans rfl
       have hcz1:=(blk_cell hbox 1).trans rfl
       have hfz0:=bkF hbox 0
       have hfz1:=bkF hbox 1
       have e1:=(blk_cell S4.out 1).trans rfl
       clear hbox hb4 hg4 hgw R1 R2 R3 S23 HB3 H23 HL2g))
  clear hcz0 hcz1 hfz0 hfz1 e1 Hbw p0 p1
  generalize ((w4.setCell ⟨g4,0,none⟩ (.slice A0 sy.length c0)).setCell ⟨g4,1,none⟩ (.slice A1 fu.length c1))=wp at *
  have ST:=Az.mk (show GtS wp g2 g4 A0 c0 A1 c1 Ab cb none 0 sy fu bo [] wp from ⟨V1.out,V2.out,V3.out,Kd.N_nil _ _ _ _ _,S4.out,S24.out,Below.refl _ _⟩)
  have HL4:=Az.mk (blk_lt S4.out)
  clear V1 V2 V3 S4 S24
  go_loopg [7,29] fu.length (fun kq v7 v29 wr=>∃ (i:Nat) (Ao:Option Addr) (co:Nat),v7=.slice Ao i co∧v29=.int .i64 (i:Int)∧Az (i+kq=fu.length)∧Az (GtS wp g2 g4 A0 c0 A1 c1 Ab cb Ao co sy fu bo (out.take i) wr))
  case atStart=>exact ⟨0,none,0,rfl,rfl,⟨by omega⟩,ST⟩
  case round =>
    clear ST
    obtain ⟨i,Ao,co,rfl,rfl,Hi,ST⟩:=hrel
    by_cases hlt:i < fu.length
    rotate_left
    · have hie:i=out.length:=by have:=Hi.out; have:=HOL.out; omega
      have hST:=ST.out
      rw [hie,List.take_length] at hST
      have ST2:=Az.mk hST
      clear hST ST hlt Hi
      subst hie
      have q0:((out.length:Int) < (fu.length:Int))=False:=eq_false (by have:=HOL.out; omega)
      have q1:(out.length < fu.length)=False:=eq_false (by have:=HOL.out; omega)
      have c41:wr.cell? ⟨g4,1,none⟩=some (.slice A1 fu.length c1):=(blk_cell ST2.out.2.2.2.2.1 1).trans rfl
      have f41:=bkF ST2.out.2.2.2.2.1 1
      have c40:wr.cell? ⟨g4,0,none⟩=some (.slice A0 sy.length c0):=(blk_cell ST2.out.2.2.2.2.1 0).trans rfl
      go_wp2_with fail
      obtain ⟨v1,v2,v3,v4,s4,s2,hb⟩:=ST2.out
      have S4x:=blk_put (cs':=#[.slice A0 sy.length c0,.slice Ao out.length co]) s4 1 (.slice Ao out.length co) rfl
      have S2x:=blk_far (p:=⟨g4,1,none⟩) s2 (show g2≠g4 from by have:=HG24.out; omega) (.slice Ao out.length co)
      have V1x:=Kd.V_far (p:=⟨g4,1,none⟩) v1 (fun k hk=>by have:=hk.2; show k≠g4; omega) (.slice Ao out.length co)
      have V4x:=Kd.N_V (base':=0) (Kd.N_far (p:=⟨g4,1,none⟩) v4 (fun k hk=>hk.2) (.slice Ao out.length co))
      have HBx:=Az.mk (bset (g:=g4) (j:=1) (v:=.slice Ao out.length co) (bst HB4.out hb) (by have:=HG2.out; have:=HG24.out; omega))
      (with_reducible refine (refis_calls A0 c0 sy Ao co out _ (Kd.V_reads' V1x).2.2 (Kd.V_reads' V1x).2.1 (Kd.V_reads' V4x).2.2 (Kd.V_reads' V4x).2.1).mono ?_)
      rintro e w5 ⟨rfl,hb5⟩
      rw [HS.out]
      have S45:=Az.mk (bkB S4x hb5)
      have S25:=Az.mk (bkB S2x hb5)
      have V15:=Az.mk (Kd.V_below V1x hb5)
      have V45:=Az.mk (Kd.V_below V4x hb5)
      have HB5:=Az.mk (bst HBx.out hb5)
      clear hb5 c41 f41 c40 v1 v2 v3 v4 s4 s2 hb S4x S2x V1x V4x HBx ST2
      have d0:w5.cell? ⟨g4,0,none⟩=some (.slice A0 sy.length c0):=(blk_cell S45.out 0).trans rfl
      have d1:w5.cell? ⟨g4,1,none⟩=some (.slice Ao out.length co):=(blk_cell S45.out 1).trans rfl
      have z0:w5.cell? ⟨g2,0,none⟩=some (.slice none 0 0):=(blk_cell S25.out 0).trans rfl
      have z1:w5.cell? ⟨g2,1,none⟩=some (.slice none 0 0):=(blk_cell S25.out 1).trans rfl
      have f0:=bkF S25.out 0
      have f1:=bkF S25.out 1
      go_wp2_with fail
      have Sz:=blk_put (cs':=#[.slice A0 sy.length c0,.slice Ao out.length co]) (blk_put (cs':=#[.slice A0 sy.length c0,.slice none 0 0]) S25.out 0 (.slice A0 sy.length c0) rfl) 1 (.slice Ao out.length co) rfl
      refine bodyPost_ret (results_ct rfl _ _ g2 25 #[.slice A0 sy.length c0,.slice Ao out.length co] (0,0) _ rfl Sz Try.underlying25 rfl (by kernel_rfl)) rfl ?_
      have V1z:=Kd.V_far (p:=⟨g2,1,none⟩) (Kd.V_far (p:=⟨g2,0,none⟩) V15.out (fun k hk=>by have:=hk.1; show k≠g2; omega) (.slice A0 sy.length c0)) (fun k hk=>by have:=hk.1; show k≠g2; omega) (.slice Ao out.length co)
      have V4z:=Kd.V_far (p:=⟨g2,1,none⟩) (Kd.V_far (p:=⟨g2,0,none⟩) V45.out (fun k hk=>hk.1) (.slice A0 sy.length c0)) (fun k hk=>hk.1) (.slice Ao out.length co)
      exact ⟨A0,c0,Ao,co,rfl,(Kd.V_reads' V1z).2.2,(Kd.V_reads' V1z).2.1,(Kd.V_reads' V4z).2.2,(Kd.V_reads' V4z).2.1,bset (bset HB5.out HG2.out) HG2.out⟩
    have hk:=Hi.out
    obtain ⟨k1,rfl⟩:∃ k1,gk=k1+1:=⟨gk - 1,by omega⟩
    clear hk
    obtain ⟨b0,at_,hp0,hp1,hp2,hp3,hp4⟩:=HP.out i hlt
    have HP0:=Az.mk hp0
    have HP1:=Az.mk hp1
    have HP2:=Az.mk hp2
    have HSN:=Az.mk (take84s (l:=out) (i:=i) (by have:=HOL.out; omega))
    obtain ⟨ad,A3,c3,A4,c4,he,hx0,hx1,hx2,hx3,hx4,hl3,hF3⟩:=V_at84 ST.out.2.1 hlt
    obtain ⟨adb,heb,hxb⟩:=Kd.at_int (Kd.V_reads' ST.out.2.2.1).2.2 (i:Int) (by omega) (by have:=HBL.out; omega)
    subst he
    subst heb
    rw [Int.toNat_natCast] at hxb
    rw [← hp3] at hx0
    rw [← hp4] at hx1 hl3 hF3
    have q1:(0≤(i:Int))=True:=eq_true (by omega)
    have q2:((i:Int) < (fu.length:Int))=True:=eq_true (by omega)
    have q3:(i < fu.length)=True:=eq_true (by omega)
    have q4:((i:Int) < (bo.length:Int))=True:=eq_true (by have:=HBL.out; omega)
    have q5:(i < bo.length)=True:=eq_true (by have:=HBL.out; omega)
    have Hl3:=Az.mk hl3
    have HF3:=Az.mk hF3
    clear hp0 hp1 hp2 hp3 hp4 hl3 hF3
    generalize rd bo (i:Int)=b at *
    generalize rd_T41 fu (i:Int)=x at *
    generalize rd_T41 out (i:Int)=y at *
    go_upto_region 10 with (
      (with_reducible refine gate_dst (N:=9) rfl ?_)
      refine box_event ?hg (N:=9) ?hd (cs:=#[.string (⟨#[]⟩:ByteArray),.slice none 0 0,.int .i64 0,.int .i64 0,.slice none 0 0]) (t:=41) ?hr ?_
      (case hd=>rfl)
      (case hg=>rfl)
      (case hr=>first | (go_simp; done) | (go_simp; rfl))
      intro gi hgi w6 hbox hbb
      have hgw:wr.heap.size≤gi:=by omega
      have Hbwgi:=Az.mk (bset (g:=gi) (j:=4) (v:=.slice A4 x.f2.f2.length c4) (bset (g:=gi) (j:=3) (v:=.int .i64 x.f2.f1) (bset (g:=gi) (j:=2) (v:=.int .i64 x.f2.f0) (bset (g:=gi) (j:=1) (v:=.slice A3 y.f1.f0.length c3) (bset (g:=gi) (j:=0) (v:=.string y.f0) hbb hgw) hgw) hgw) hgw) hgw)
      have Sgi:=Az.mk (blk_put (cs':=#[.string y.f0,.slice A3 y.f1.f0.length c3,.int .i64 x.f2.f0,.int .i64 x.f2.f1,.slice A4 x.f2.f2.length c4]) (blk_put (cs':=#[.string y.f0,.slice A3 y.f1.f0.length c3,.int .i64 x.f2.f0,.int .i64 x.f2.f1,.slice none 0 0]) (blk_put (cs':=#[.string y.f0,.slice A3 y.f1.f0.length c3,.int .i64 x.f2.f0,.int .i64 0,.slice none 0 0]) (blk_put (cs':=#[.string y.f0,.slice A3 y.f1.f0.length c3,.int .i64 0,.int .i64 0,.slice none 0 0]) (blk_put (cs':=#[.string y.f0,.slice none 0 0,.int .i64 0,.int .i64 0,.slice none 0 0]) hbox 0 (.string y.f0) rfl) 1 (.slice A3 y.f1.f0.length c3) rfl) 2 (.int .i64 x.f2.f0) rfl) 3 (.int .i64 x.f2.f1) rfl) 4 (.slice A4 x.f2.f2.length c4) rfl)
      have hczgi0:=(blk_cell hbox 0).trans rfl
      have hfzgi0:=bkF hbox 0
      have hczgi1:=(blk_cell hbox 1).trans rfl
      have hfzgi1:=bkF hbox 1
      have hczgi2:=(blk_cell hbox 2).trans rfl
      have hfzgi2:=bkF hbox 2
      have hczgi3:=(blk_cell hbox 3).trans rfl
      have hfzgi3:=bkF hbox 3
      have hczgi4:=(blk_cell hbox 4).trans rfl
      have hfzgi4:=bkF hbox 4
      clear hbox hbb hgi hgw)
    have hxb2:=Az.mk (cell_up Hbwgi.out hxb)
    have HF3q:=Az.mk (Kd.F_below HF3.out Hbwgi.out)
    clear hczgi0 hfzgi0 hczgi1 hfzgi1 hczgi2 hfzgi2 hczgi3 hfzgi3 hczgi4 hfzgi4 hx0 hx1 hx2 hx3 hx4 hxb
    generalize (((((w6.setCell ⟨gi,0,none⟩ (.string y.f0)).setCell ⟨gi,1,none⟩ (.slice A3 y.f1.f0.length c3)).setCell ⟨gi,2,none⟩ (.int .i64 x.f2.f0)).setCell ⟨gi,3,none⟩ (.int .i64 x.f2.f1)).setCell ⟨gi,4,none⟩ (.slice A4 x.f2.f2.length c4))=wq at *
    have STq:=Az.mk (ST.out.below Hbwgi.out)
    have e0:wq.cell? ⟨g4,0,none⟩=some (.slice A0 sy.length c0):=(blk_cell STq.out.2.2.2.2.1 0).trans rfl
    have e1:wq.cell? ⟨g4,1,none⟩=some (.slice (some ad) fu.length c1):=(blk_cell STq.out.2.2.2.2.1 1).trans rfl
    have e2:=hxb2.out
    have e0':=cel1 e0
    have e1':=cel1 e1
    have e2':=cel1 e2
    clear ST Hbwgi hxb2
    have HPT:=Az.mk (show ∀ w',Below wq.heap.size wq w'→Calls Try.prog 50 #[.agg #[.slice A0 sy.length c0,.slice (some ad) fu.length c1],.string tx,.int .i64 b] w' fun e w''=>∃ Av cv,e=.returned (.tuple #[.agg #[.int .i64 y.f2.f0,.int .i64 y.f2.f1,.slice Av y.f2.f2.length cv],.int .i64 at_,.bool true])∧Kd.V k36 36 w'' 0 (fun k=>w'.heap.size≤k) (.slice Av y.f2.f2.length cv) y.f2.f2∧Below w'.heap.size w' w'' from by
      intro w' hb
      have S:=STq.out.below hb
      refine (pterm_calls K tx A0 c0 sy (some ad) c1 fu N b b0 y.f2 at_ w' HNN.out (Kd.V_reads' S.1).2.2 (Kd.V_reads' S.2.1).2.2 HP0.out HP1.out).mono ?_
      rintro e w'' ⟨v,rfl,hR,hb2⟩
      obtain ⟨Av,cv,rfl⟩:=Kd.R_slice hR
      exact ⟨Av,cv,rfl,Kd.V_mono (Kd.R_V (base':=0) (Kd.R_bound hR)) (fun k hk=>hk.2.1),hb2⟩)
    try simp only [Act.put,List.setIfInBounds_toArray,List.set_cons_succ,List.set_cons_zero]
    go_cut [10,11,12] from 35 to 44 (fun v10 v11 v12 wc=>∃ (g:Nat) (Av:Option Addr) (cv:Nat),v10=.pointer (some ⟨g,0,none⟩)∧v11=.int .i64 at_∧v12=.bool true∧Az (wc.heap[g]?=some (.cells #[.int .i64 y.f2.f0,.int .i64 y.f2.f1,.slice Av y.f2.f2.length cv] 36 (0,0)))∧Az (Kd.V k36 36 wc 0 (fun k=>wq.heap.size≤k) (.slice Av y.f2.f2.length cv) y.f2.f2)∧Az (Below wq.heap.size wq wc))
    case first =>
      go_region_law
        (go_simp
         go_at_call 50
         first
         | ((with_reducible refine (HPT.out wq.drew (below_drew (Below.refl _ _))).mono ?_)
            rintro e9 wA ⟨Av,cv,rfl,hV,hbA⟩
            have HVA:=Az.mk hV
            have HBA:=Az.mk (bst (below_drew (Below.refl wq.heap.size wq)) hbA)
            clear hV hbA)
         | ((with_reducible refine (HPT.out (wq.alloc (.cells #[.int .i64 0,.int .i64 0,.slice none 0 0] 36)).drew (below_drew (bal (Below.refl _ _) _))).mono ?_)
            rintro e9 wA ⟨Av,cv,rfl,hV,hbA⟩
            have HVA:=Az.mk hV
            have HBA:=Az.mk (bst (below_drew (bal (Below.refl wq.heap.size wq) _)) hbA)
            have G:=bkB (blk_drew (blk_new wq (.cells #[.int .i64 0,.int .i64 0,.slice none 0 0] 36))) hbA
            have k120:=(blk_cell G 0).trans rfl
            have k67:=(blk_cell G 1).trans rfl
            have k121:=(blk_cell G 2).trans rfl
            have f90:=bkF G 0
            have f91:=bkF G 1
            have f92:=bkF G 2
            have HG9:=Az.mk G
            clear G hV hbA))
      all_goals (
        go_wp2_with fail
        go_meet
        first
        | exact ⟨_,Av,cv,rfl,rfl,rfl,⟨blk_new _ _⟩,⟨Kd.V_alloc HVA.out _⟩,⟨bal HBA.out _⟩⟩
        | exact ⟨_,Av,cv,rfl,rfl,rfl,⟨blk_put (cs':=#[.int .i64 y.f2.f0,.int .i64 y.f2.f1,.slice Av y.f2.f2.length cv]) (blk_put (cs':=#[.int .i64 y.f2.f0,.int .i64 y.f2.f1,.slice none 0 0]) (blk_put (cs':=#[.int .i64 y.f2.f0,.int .i64 0,.slice none 0 0]) HG9.out 0 _ rfl) 1 _ rfl) 2 _ rfl⟩,⟨Kd.V_mono (Kd.V_far (p:=⟨wq.heap.size,2,none⟩) (Kd.V_far (p:=⟨wq.heap.size,1,none⟩) (Kd.V_far (p:=⟨wq.heap.size,0,none⟩) (Kd.V_mono (ok':=fun k=>wq.heap.size+1≤k) HVA.out (fun k hk=>by have e:(wq.alloc (.cells #[.int .i64 0,.int .i64 0,.slice none 0 0] 36)).heap.size=wq.heap.size+1:=Array.size_push _; have:(wq.alloc (.cells #[.int .i64 0,.int .i64 0,.slice none 0 0] 36)).heap.size≤k:=hk; omega)) (fun k hk=>by show k≠wq.heap.size; omega) _) (fun k hk=>by show k≠wq.heap.size; omega) _) (fun k hk=>by show k≠wq.heap.size; omega) _) (fun k hk=>by omega)⟩,⟨bset (bset (bset HBA.out (Nat.le_refl _)) (Nat.le_refl _)) (Nat.le_refl _)⟩⟩)
    case rest =>
      obtain ⟨g,Av,cv,rfl,rfl,rfl,S10,HV,HBc⟩:=hcut
      clear e0 e1 e2 e0' e1' e2' HPT
      have STc:=Az.mk (STq.out.below HBc.out)
      have Sgc:=Az.mk (bkB Sgi.out HBc.out)
      have Hq:=Az.mk (show ∀ k,(Value.slice Ao i co).ownBlock=some k→k < wq.heap.size from by
        have h:=STq.out.2.2.2.1
        rw [show (out.take i).length=i from by rw [List.length_take]; have:=HOL.out; omega] at h
        exact Kd.N_lt h)
      have Hwq:=Az.mk (STq.out.2.2.2.2.2.2.size)
      clear Sgi STq
      go_upto_region 13 with (
        go_at_call 51
        (with_reducible refine (virgationref03_begins.calls tx at_ (⟨#[10]⟩:ByteArray) true _ HP2.out).mono ?_)
        rintro e9 w9 ⟨rfl,hd9⟩
        have ST9:=Az.mk (STc.out.below hd9.below)
        have Sg9:=Az.mk (bkB Sgc.out hd9.below)
        have S109:=Az.mk (bkB S10.out hd9.below)
        have HV9:=Az.mk (Kd.V_below HV.out hd9.below)
        have HB9:=Az.mk (bst HBc.out hd9.below)
        clear hd9 STc Sgc S10 HV HBc)
      have n0:w9.cell? ⟨gi,0,none⟩=some (.string y.f0):=(blk_cell Sg9.out 0).trans rfl
      have n1:w9.cell? ⟨gi,1,none⟩=some (.slice A3 y.f1.f0.length c3):=(blk_cell Sg9.out 1).trans rfl
      have m0:w9.cell? ⟨g,0,none⟩=some (.int .i64 y.f2.f0):=(blk_cell S109.out 0).trans rfl
      have m1:w9.cell? ⟨g,1,none⟩=some (.int .i64 y.f2.f1):=(blk_cell S109.out 1).trans rfl
      have m2:w9.cell? ⟨g,2,none⟩=some (.slice Av y.f2.f2.length cv):=(blk_cell S109.out 2).trans rfl
      go_wp2_with (at_builtin; refine holdX ?_)
      unfold HoldX
      clear n0 n1 m0 m1 m2
      obtain ⟨v1,v2,v3,v4,s4,s2,hb⟩:=ST9.out
      have hdl:(out.take i).length=i:=by rw [List.length_take]; have:=HOL.out; omega
      rw [hdl] at v4
      have hbs:=Kd.N_base v4
      have h4:=HL4.out
      have h24:=HG24.out
      have hwq:=Hwq.out
      refine Kd.N_append k41 (w0:=wp) wp.heap.size rfl (.tmp 54) (.tmp 61) 23 41 (.agg #[.string ⟨#[]⟩,.slice none 0 0,.int .i64 0,.int .i64 0,.slice none 0 0]) 80 rfl Try.underlying23 (by kernel_rfl) rfl (by decide) (by omega) (.slice Ao i co) (out.take i) y [.string y.f0,.slice A3 y.f1.f0.length c3,.int .i64 y.f2.f0,.int .i64 y.f2.f1,.slice Av y.f2.f2.length cv] (fun k=>k≠g2∧k≠g4) (fun k=>(g2 < k∧k < g4)∨wq.heap.size≤k) rfl rfl (k41_mkF _ _ y Hl3.out (Kd.F_mono (Kd.F_below HF3q.out HB9.out) (fun k hk=>.inl hk)) (Kd.V_at HV9.out).2.1 (Kd.F_mono (Kd.V_at HV9.out).2.2 (fun k hk=>.inr hk))) (fun k hk=>by
          rcases hk with ⟨h1,h2⟩ | h1
          · exact ⟨⟨by omega,by omega⟩,fun e=>by have:=hbs k e.symm; omega⟩
          · exact ⟨⟨by omega,by omega⟩,fun e=>by have:=Hq.out k e.symm; omega⟩) (fun k hk=>by have:=hb.size; exact ⟨by omega,by omega⟩) v4 hb hb.size (by rw [hdl]; have:=HL2.out; omega) ?_
      intro v5 w7 hn7 hb7 hg7 hat
      rw [← HSN.out] at hn7
      obtain ⟨A5,c5,e5⟩:=Kd.N_slice hn7
      rw [List.length_take,Nat.min_eq_left (by have:=HOL.out; omega)] at e5
      subst e5
      have ST7:=Az.mk (show GtS wp g2 g4 A0 c0 (some ad) c1 (some adb) cb A5 c5 sy fu bo (out.take (i+1)) w7 from by
        refine ⟨Kd.V_grown v1 hg7 (fun k hk e=>by have:=hbs k e.symm; omega),Kd.V_grown v2 hg7 (fun k hk e=>by have:=hbs k e.symm; omega),Kd.V_grown v3 hg7 (fun k hk e=>by have:=hbs k e.symm; omega),?_,blk_grown s4 hg7 (Kd.N_away v4 (fun k hk=>hk.2)),blk_grown s2 hg7 (Kd.N_away v4 (fun k hk=>hk.1)),hb7⟩
        rw [show (out.take (i+1)).length=i+1 from by rw [List.length_take]; have:=HOL.out; omega]
        exact hn7)
      clear hn7 hb7 hg7 hat v1 v2 v3 v4 s4 s2 hb hbs h4 h24 hwq hdl ST9 Sg9 S109 HV9 HB9
      go_wp2_with fail
      go_roundg k1
      case measure=>omega
      case rel=>have hl:=HL2.out; exact ⟨i+1,A5,c5,by first | rfl | (simp; done) | (simp [*]; done),by first | rfl | (refine congrArg _ ?_; unfold wrap64; omega),⟨by have:=Hi.out; omega⟩,ST7⟩
end Go.Proofs.Ytkgknidogelffaa.I
namespace Go.Proofs.Ytkgknidogelffaa.I
open Go.RowKit Go.Proofs.YtkgknidogelffaaW.PrintWords
set_option maxRecDepth 100000
def exT:ByteArray:={ data:=(List.append [115,121,109,98,111,108,32,97,32,50,10,115,121,109,98,111,108,32,98,32,49,10,115,121,109,98,111,108,32,99,32,48,10,102,117,110,32,115,32,58,32,111] [32,61,32,102,32,35,99,10,102,117,110,32,102,32,58,32,111,32,62,32,111,32,61,32,35,97,32,36,48,32,40,102,32,40,35,98,32,36,48,41,41,10]).toArray }
def x0:S36:=⟨0,0,[]⟩
def x1:S36:=⟨2,1,[x0]⟩
def x2:S36:=⟨1,1,[x1]⟩
def x3:S36:=⟨2,0,[x0,x2]⟩
def xc:S36:=⟨2,2,[]⟩
def xs:S36:=⟨1,1,[xc]⟩
def exSy:List S84:=[⟨⟨#[97]⟩,2⟩,⟨⟨#[98]⟩,1⟩,⟨⟨#[99]⟩,0⟩]
def exFu:List S41:=[⟨⟨#[115]⟩,⟨[]⟩,⟨0,0,[]⟩⟩,⟨⟨#[102]⟩,⟨[⟨[]⟩]⟩,⟨0,0,[]⟩⟩]
def exOut:List S41:=[⟨⟨#[115]⟩,⟨[]⟩,xs⟩,⟨⟨#[102]⟩,⟨[⟨[]⟩]⟩,x3⟩]
def exBo:List Int:=[45,66]
theorem ex_syms:Syms exT exSy 0 33:=by
  refine ⟨11,⟨20,7,8,9,10,by kernel_rfl,by kernel_rfl,by kernel_rfl,⟨by decide,by decide,by decide +kernel⟩,by kernel_rfl,by kernel_rfl,by kernel_rfl,by kernel_rfl,by kernel_rfl,by kernel_rfl,by kernel_rfl⟩,?_⟩
  refine ⟨22,⟨20,18,19,20,21,by kernel_rfl,by kernel_rfl,by kernel_rfl,⟨by decide,by decide,by decide +kernel⟩,by kernel_rfl,by kernel_rfl,by kernel_rfl,by kernel_rfl,by kernel_rfl,by kernel_rfl,by kernel_rfl⟩,?_⟩
  refine ⟨33,⟨20,29,30,31,32,by kernel_rfl,by kernel_rfl,by kernel_rfl,⟨by decide,by decide,by decide +kernel⟩,by kernel_rfl,by kernel_rfl,by kernel_rfl,by kernel_rfl,by kernel_rfl,by kernel_rfl,by kernel_rfl⟩,?_⟩
  exact ⟨rfl,by kernel_rfl⟩
theorem ex_quiet1:∀ j:Nat,j < 49→42≤j→bt exT (j:Int)≠10:=by decide +kernel
theorem ex_quiet2:∀ j:Nat,j < 83→63≤j→bt exT (j:Int)≠10:=by decide +kernel
theorem ex_funs:Funs exT exFu exBo 33:=by
  refine ⟨45,[66],50,rfl,⟨40,37,38,41,42,42,49,by kernel_rfl,by kernel_rfl,by kernel_rfl,⟨by decide,by decide,by decide +kernel⟩,by kernel_rfl,by kernel_rfl,by kernel_rfl,by kernel_rfl,by kernel_rfl,by kernel_rfl,by kernel_rfl,⟨rfl,by decide,by decide +kernel,by decide⟩,fun j h1 h2=>ex_quiet1 j h2 h1,by kernel_rfl,rfl,rfl⟩,?_⟩
  refine ⟨66,[],84,rfl,⟨40,54,55,58,63,63,83,by kernel_rfl,by kernel_rfl,by kernel_rfl,⟨by decide,by decide,by decide +kernel⟩,by kernel_rfl,by kernel_rfl,by kernel_rfl,by kernel_rfl,by kernel_rfl,by kernel_rfl,by kernel_rfl,⟨rfl,by decide,by decide +kernel,by decide⟩,fun j h1 h2=>ex_quiet2 j h2 h1,by kernel_rfl,rfl,rfl⟩,?_⟩
  exact ⟨rfl,by kernel_rfl,by kernel_rfl⟩
theorem hS0 (a b a2:Int) (h1:virgationref03_begins.f exT a (⟨#[36]⟩:ByteArray)=some false) (h2:virgationref03_begins.f exT a (⟨#[35]⟩:ByteArray)=some true) (h3:wrap64 (a+1)=b) (h4:virgationref03_word.f 20 exT b=some a2) (h5:0≤b∧b≤a2∧a2≤(exT.size:Int)) (m:Nat) (h6:m < exSy.length) (h7:∀ j:Nat,j < m→((rd_T84 exSy (j:Int)).f0.toList == (exT.extract b.toNat a2.toNat).toList)=false) (h8:((rd_T84 exSy (m:Int)).f0.toList == (exT.extract b.toNat a2.toNat).toList)=true):PHead 20 exT exSy exFu a 2 (m:Int) a2 :=
  .inr (.inl ⟨h1,h2,rfl,b,m,h3,rfl,h4,h5,h6,h7,h8⟩)
theorem hF0 (a a2:Int) (h1:virgationref03_begins.f exT a (⟨#[36]⟩:ByteArray)=some false) (h2:virgationref03_begins.f exT a (⟨#[35]⟩:ByteArray)=some false) (h4:virgationref03_word.f 20 exT a=some a2) (h5:0≤a∧a≤a2∧a2≤(exT.size:Int)) (m:Nat) (h6:m < exFu.length) (h7:∀ j:Nat,j < m→((rd_T41 exFu (j:Int)).f0.toList == (exT.extract a.toNat a2.toNat).toList)=false) (h8:((rd_T41 exFu (m:Int)).f0.toList == (exT.extract a.toNat a2.toNat).toList)=true):PHead 20 exT exSy exFu a 1 (m:Int) a2 :=
  .inr (.inr ⟨h1,h2,rfl,a,m,rfl,rfl,h4,h5,h6,h7,h8⟩)
theorem hV0 (a b a2:Int) (h1:virgationref03_begins.f exT a (⟨#[36]⟩:ByteArray)=some true) (h3:wrap64 (a+1)=b) (h4:virgationref03_number.f 20 exT b=some (0,a2,true)):PHead 20 exT exSy exFu a 0 0 a2:=.inl ⟨h1,rfl,b,h3,h4⟩
theorem hC (a b a2:Int) (h1:virgationref03_begins.f exT a (⟨#[36]⟩:ByteArray)=some false) (h2:virgationref03_begins.f exT a (⟨#[35]⟩:ByteArray)=some true) (h3:wrap64 (a+1)=b) (h4:virgationref03_word.f 20 exT b=some a2) (h5:0≤b∧b≤a2∧a2≤(exT.size:Int)) (h7:∀ j:Nat,j < 2→((rd_T84 exSy (j:Int)).f0.toList == (exT.extract b.toNat a2.toNat).toList)=false) (h8:((rd_T84 exSy (2:Int)).f0.toList == (exT.extract b.toNat a2.toNat).toList)=true):PHead 20 exT exSy exFu a 2 2 a2:=hS0 a b a2 h1 h2 h3 h4 h5 2 (by decide) h7 h8
theorem pt_nil (N:Nat) (a:Int) (h:virgationref03_begins.f exT a (⟨#[32]⟩:ByteArray)=some false):PTail 20 exT exSy exFu (N+1) a [] a:=⟨h,rfl⟩
theorem two_no {p:Nat→Prop} (h0:p 0) (h1:p 1):∀ j:Nat,j < 2→p j
  | 0,_=>h0
  | 1,_=>h1
  | j+2,h=>absurd h (by omega)
theorem one_no {p:Nat→Prop} (h0:p 0):∀ j:Nat,j < 1→p j
  | 0,_=>h0
  | j+1,h=>absurd h (by omega)
theorem zer_no {p:Nat→Prop}:∀ j:Nat,j < 0→p j:=fun j h=>absurd h (by omega)
theorem pt_1:PTail 20 exT exSy exFu 8 46 [xc] 49 :=
  ⟨by kernel_rfl,.inr ⟨by kernel_rfl,47,49,by kernel_rfl,hC 47 48 49 (by kernel_rfl) (by kernel_rfl) (by kernel_rfl) (by kernel_rfl) ⟨by decide,by decide,by decide +kernel⟩ (two_no (by kernel_rfl) (by kernel_rfl)) (by kernel_rfl),rfl,pt_nil 6 49 (by kernel_rfl)⟩⟩
theorem pt_b:PTail 20 exT exSy exFu 5 78 [x0] 81 :=
  ⟨by kernel_rfl,.inr ⟨by kernel_rfl,79,81,by kernel_rfl,hV0 79 80 81 (by kernel_rfl) (by kernel_rfl) (by kernel_rfl),rfl,pt_nil 3 81 (by kernel_rfl)⟩⟩
theorem pt_f:PTail 20 exT exSy exFu 6 74 [x1] 82 :=
  ⟨by kernel_rfl,.inl ⟨by kernel_rfl,76,78,81,82,by kernel_rfl,hS0 76 77 78 (by kernel_rfl) (by kernel_rfl) (by kernel_rfl) (by kernel_rfl) ⟨by decide,by decide,by decide +kernel⟩ 1 (by decide) (one_no (by kernel_rfl)) (by kernel_rfl),pt_b,by decide,by kernel_rfl,by kernel_rfl,pt_nil 4 82 (by kernel_rfl)⟩⟩
theorem pt_a2:PTail 20 exT exSy exFu 7 71 [x2] 83 :=
  ⟨by kernel_rfl,.inl ⟨by kernel_rfl,73,74,82,83,by kernel_rfl,hF0 73 74 (by kernel_rfl) (by kernel_rfl) (by kernel_rfl) ⟨by decide,by decide,by decide +kernel⟩ 1 (by decide) (one_no (by kernel_rfl)) (by kernel_rfl),pt_f,by decide,by kernel_rfl,by kernel_rfl,pt_nil 5 83 (by kernel_rfl)⟩⟩
theorem pt_2:PTail 20 exT exSy exFu 8 68 [x0,x2] 83 :=
  ⟨by kernel_rfl,.inr ⟨by kernel_rfl,69,71,by kernel_rfl,hV0 69 70 71 (by kernel_rfl) (by kernel_rfl) (by kernel_rfl),rfl,pt_a2⟩⟩
theorem ex_parse:∀ i:Nat,i < exFu.length→∃ b0 at_,PHead 20 exT exSy exFu (rd exBo (i:Int)) (rd_T41 exOut (i:Int)).f2.f0 (rd_T41 exOut (i:Int)).f2.f1 b0∧PTail 20 exT exSy exFu 8 b0 (rd_T41 exOut (i:Int)).f2.f2 at_∧virgationref03_begins.f exT at_ (⟨#[10]⟩:ByteArray)=some true∧(rd_T41 exOut (i:Int)).f0=(rd_T41 exFu (i:Int)).f0∧(rd_T41 exOut (i:Int)).f1=(rd_T41 exFu (i:Int)).f1
  | 0,_=>⟨46,49,hF0 45 46 (by kernel_rfl) (by kernel_rfl) (by kernel_rfl) ⟨by decide,by decide,by decide +kernel⟩ 1 (by decide) (one_no (by kernel_rfl)) (by kernel_rfl),pt_1,by kernel_rfl,rfl,rfl⟩
  | 1,_=>⟨68,83,hS0 66 67 68 (by kernel_rfl) (by kernel_rfl) (by kernel_rfl) (by kernel_rfl) ⟨by decide,by decide,by decide +kernel⟩ 0 (by decide) zer_no (by kernel_rfl),pt_2,by kernel_rfl,rfl,rfl⟩
  | i+2,h=>absurd h (by show ¬ (i+2 < 2); omega)
theorem ex_sch:schB exSy exOut=true:=by kernel_rfl
theorem get_ex (d:Array UInt8) (hd:d=exT.data) (w:World) :
    Calls Try.prog 28 #[.string { data:=d }] w fun e w'=>∃ A0 c0 A1 c1,e=.returned (.tuple #[.agg #[.slice A0 3 c0,.slice A1 2 c1],.int .i64 0])∧Kd.C k84 w' A0 exSy.length exSy∧exSy.length≤c0∧Kd.C k41 w' A1 exOut.length exOut∧exOut.length≤c1∧Below w.heap.size w w':=by
  subst hd
  exact get_calls 20 8 exT 33 exSy exFu exBo exOut w ex_syms ex_funs (by decide) (by decide) rfl rfl (by decide +kernel) (by decide) ex_parse ex_sch
end Go.Proofs.Ytkgknidogelffaa.I
namespace Go.Proofs.Ytkgknidogelffaa.I
open Go.RowKit Go.Proofs.YtkgknidogelffaaW.PrintWords Go.Proofs.YtkgknidogelffaaW.PrintLast Go.Proofs.YtkgknidogelffaaW.PrintMore
attribute [local go_sem] max2_int min2_int max_two min_two max_three min_three max_four min_four
set_option linter.unusedVariables false
set_option maxRecDepth 100000
set_option linter.unusedSimpArgs false
def msOf (o:Option (Int × Int × Int × MS)):MS:=match o with
  | some (_,_,_,s)=>s
  | none=>ms0
def exS1:MS:=msOf (goS exOut 9 20 ms0)
def exS2:MS:=kidS exS1 1
def exS3:MS:=msOf (goS exOut 9 20 exS2)
def exS4:MS:=kidS exS3 0
def exS5:MS:=msOf (goS exOut 9 20 exS4)
theorem ex_g1:goS exOut 9 20 ms0=some (0,2,0,exS1):=by kernel_rfl
theorem ex_k1:kidE exS1 1=0:=by kernel_rfl
theorem ex_g2:goS exOut 9 20 exS2=some (0,1,0,exS3):=by kernel_rfl
theorem ex_k2:kidE exS3 0=0:=by kernel_rfl
theorem ex_g3:goS exOut 9 20 exS4=some (1,0,0,exS5):=by kernel_rfl
theorem ex_s2:kidS exS1 1=exS2:=rfl
theorem ex_s4:kidS exS3 0=exS4:=rfl
theorem ex_path:exS5.path=[1,0]:=by kernel_rfl
theorem ex_good1:Good exSy exOut exS1:=goS_good ex_sch (good0 ex_sch) ex_g1
theorem ex_good2:Good exSy exOut exS2:=kidS_good ex_good1 1
theorem ex_good3:Good exSy exOut exS3:=goS_good ex_sch ex_good2 ex_g2
theorem ex_good4:Good exSy exOut exS4:=kidS_good ex_good3 0
theorem ex_good5:Good exSy exOut exS5:=goS_good ex_sch ex_good4 ex_g3
theorem ex_go {w:World} {lo gm:Nat} {s s':MS} {a n e:Int} (hM:Ms w lo (exOut.map ownF) [(gm,s)]) (hg:Good exSy exOut s) (hr:goS exOut 9 20 s=some (a,n,e,s')) :
    Calls Try.prog 12 #[.pointer (some ⟨gm,0,none⟩),.int .i64 9] w fun x w'=>x=.returned (.tuple #[.int .i64 a,.int .i64 n,.int .i64 e])∧Ms w' lo (exOut.map ownF) [(gm,s')]∧Below lo w w' :=
  ms_go (L:=[(gm,s)]) (i:=0) ex_sch (sameF_own exOut) hM (Nat.zero_lt_one) hg 9 20 a n e s' hr
theorem ex_kid {w:World} {lo gm:Nat} {s s':MS} {j e:Int} (hM:Ms w lo (exOut.map ownF) [(gm,s)]) (hg:Good exSy exOut s) (he:kidE s j=e) (hs:kidS s j=s') :
    Calls Try.prog 14 #[.pointer (some ⟨gm,0,none⟩),.int .i64 j] w fun x w'=>x=.returned (.int .i64 e)∧Ms w' lo (exOut.map ownF) [(gm,s')]∧Below lo w w' :=
  ms_kid (l0:=exSy) (l1:=exOut) (L:=[(gm,s)]) (i:=0) hM (Nat.zero_lt_one) hg j e s' he hs
theorem ex_pathc {w:World} {lo gm:Nat} (hM:Ms w lo (exOut.map ownF) [(gm,exS5)]) :
    Calls Try.prog 13 #[.pointer (some ⟨gm,0,none⟩)] w fun x w'=>∃ A c,x=.returned (.slice A 2 c)∧Below w.heap.size w w':=by
  refine (ms_path (l0:=exSy) (l1:=exOut) (L:=[(gm,exS5)]) (i:=0) hM (Nat.zero_lt_one) ex_good5).mono ?_
  rintro x w' ⟨A,c,rfl,_,_,hb⟩
  have e:([(gm,exS5)][0]'(Nat.zero_lt_one)).2.path.length=2:=by show exS5.path.length=2; rw [ex_path]; rfl
  rw [e]
  exact ⟨A,c,rfl,hb⟩
theorem ex_new {w:World} (A0:Option Addr) (c0:Nat) (A1:Option Addr) (c1:Nat) (hr0:Kd.C k84 w A0 exSy.length exSy) (hc0:exSy.length≤c0) (hr1:Kd.C k41 w A1 exOut.length exOut) (hc1:exOut.length≤c1) :
    Calls Try.prog 11 #[.agg #[.slice A0 3 c0,.slice A1 2 c1]] w fun x w'=>∃ gm,x=.returned (.tuple #[.pointer (some ⟨gm,0,none⟩),.int .i64 0])∧Ms w' w.heap.size (exOut.map ownF) [(gm,ms0)]∧Below w.heap.size w w' :=
  ms_new (l0:=exSy) (l1:=exOut) (L:=[]) (Ms.nil (Nat.le_refl _)) A0 c0 A1 c1 hr0 hc0 hr1 hc1 ex_sch
set_option maxHeartbeats 16000000 in
theorem alive_calls (w:World):Calls Try.prog 9 #[] w fun e w'=>e=.returned (.bool true)∧Below w.heap.size w w':=by
  have hu25:=Try.underlying25
  go_enter Try.func9,Try.ntmps9
  go_upto_region 2 with (first
    | (go_at_call 28
       (with_reducible refine (get_ex _ (by kernel_rfl) _).mono ?_)
       rintro e9 w2 ⟨A0,c0,A1,c1,rfl,hr0,hc0,hr1,hc1,hb2⟩
       have HR0:=Az.mk hr0
       have HC0:=Az.mk hc0
       have HR1:=Az.mk hr1
       have HC1:=Az.mk hc1
       have HB2:=Az.mk hb2
       clear hr0 hc0 hr1 hc1 hb2)
    | ((with_reducible refine gate_dst (N:=1) rfl ?_)
       refine box_event ?hg (N:=1) ?hd (cs:=#[.slice none 0 0,.slice none 0 0]) (t:=25) ?hr ?_
       (case hd=>rfl)
       (case hg=>rfl)
       (case hr=>first | (go_simp; done) | (go_simp; rfl))
       intro g1 hg1 w3 hbox hb3
       have hgw:w2.heap.size≤g1:=by omega
       have Hbw:=Az.mk (bset (g:=g1) (j:=1) (v:=.slice A1 2 c1) (bset (g:=g1) (j:=0) (v:=.slice A0 3 c0) hb3 hgw) hgw)
       have S1:=Az.mk (blk_put (cs':=#[.slice A0 3 c0,.slice A1 2 c1]) (blk_put (cs':=#[.slice A0 3 c0,.slice none 0 0]) hbox 0 (.slice A0 3 c0) rfl) 1 (.slice A1 2 c1) rfl)
       have hcz0:=(blk_cell hbox 0).trans rfl
       have hcz1:=(blk_cell hbox 1).trans rfl
       have hfz0:=bkF hbox 0
       have hfz1:=bkF hbox 1
       clear hbox hb3 hg1 hgw))
  clear hcz0 hcz1 hfz0 hfz1
  generalize ((w3.setCell ⟨g1,0,none⟩ (.slice A0 3 c0)).setCell ⟨g1,1,none⟩ (.slice A1 2 c1))=wq at *
  have HBq:=Az.mk (bst HB2.out Hbw.out)
  have HR0q:=Az.mk (Kd.C_below HR0.out Hbw.out)
  have HR1q:=Az.mk (Kd.C_below HR1.out Hbw.out)
  clear HR0 HR1 Hbw HB2
  have e0:wq.cell? ⟨g1,0,none⟩=some (.slice A0 3 c0):=(blk_cell S1.out 0).trans rfl
  have e1:wq.cell? ⟨g1,1,none⟩=some (.slice A1 2 c1):=(blk_cell S1.out 1).trans rfl
  go_wp2_with fail
  (with_reducible refine (ex_new A0 c0 A1 c1 HR0q.out HC0.out HR1q.out HC1.out).mono ?_)
  rintro e w4 ⟨gm,rfl,hM,hb4⟩
  have HM4:=Az.mk hM
  have HB4:=Az.mk hb4
  clear hM hb4 e0 e1
  go_wp2_with fail
  (with_reducible refine (ex_go HM4.out (good0 ex_sch) ex_g1).mono ?_)
  rintro e w5 ⟨rfl,hM,hb⟩
  have HM5:=Az.mk hM
  have HB5:=Az.mk (below_tr HB4.out hb)
  clear hM hb HM4 HB4
  go_wp2_with fail
  (with_reducible refine (ex_kid HM5.out ex_good1 ex_k1 ex_s2).mono ?_)
  rintro e w6 ⟨rfl,hM,hb⟩
  have HM6:=Az.mk hM
  have HB6:=Az.mk (below_tr HB5.out hb)
  clear hM hb HM5 HB5
  go_wp2_with fail
  (with_reducible refine (ex_go HM6.out ex_good2 ex_g2).mono ?_)
  rintro e w7 ⟨rfl,hM,hb⟩
  have HM7:=Az.mk hM
  have HB7:=Az.mk (below_tr HB6.out hb)
  clear hM hb HM6 HB6
  go_wp2_with fail
  (with_reducible refine (ex_kid HM7.out ex_good3 ex_k2 ex_s4).mono ?_)
  rintro e w8 ⟨rfl,hM,hb⟩
  have HM8:=Az.mk hM
  have HB8:=Az.mk (below_tr HB7.out hb)
  clear hM hb HM7 HB7
  go_wp2_with fail
  (with_reducible refine (ex_go HM8.out ex_good4 ex_g3).mono ?_)
  rintro e w9 ⟨rfl,hM,hb⟩
  have HM9:=Az.mk hM
  have HB9:=Az.mk (below_tr HB8.out hb)
  clear hM hb HM8 HB8
  go_wp2_with fail
  (with_reducible refine (ex_pathc HM9.out).mono ?_)
  rintro e w10 ⟨Ap,cp,rfl,hb⟩
  have HB10:=Az.mk (bst HBq.out (below_tr HB9.out (below_lo hb (show wq.heap.size≤w9.heap.size from HB9.out.size))))
  clear hb HM9 HB9 HBq
  go_wp2_with fail
  go_ret
  exact ⟨rfl,HB10.out⟩
end Go.Proofs.Ytkgknidogelffaa.I
namespace Go.Proofs.Ytkgknidogelffaa.I
open Go.RowKit Go.Proofs.YtkgknidogelffaaW.PrintWords Go.Proofs.YtkgknidogelffaaW.PrintLast Go.Proofs.YtkgknidogelffaaW.PrintMore
attribute [local go_sem] max2_int min2_int max_two min_two max_three min_three max_four min_four
set_option linter.unusedVariables false
set_option linter.unusedSimpArgs false
def virgationlaw08_ints.l0:Nat→List Int→List Int→Int→Int→Option (Bool)
  | 0,_,_,_,_=>none
  | k+1,x0,x1,x12,x13=>if x13 < x12 then (if 0≤x13 then (if x13 < (x0.length:Int) then (if x13 < (x1.length:Int) then (if (rd x0 x13)=(rd x1 x13) then (virgationlaw08_ints.l0 k x0 x1 x12 (wrap64 (x13+1))) else (some false)) else (none)) else (none)) else (none)) else (some true)
def virgationlaw08_ints.f (k:Nat) (l0:List Int) (l1:List Int):Option (Bool):=if (l0.length:Int)=(l1.length:Int) then (virgationlaw08_ints.l0 k l0 l1 (l0.length:Int) 0) else (some false)
set_option maxHeartbeats 8000000 in
set_option maxRecDepth 100000 in
theorem virgationlaw08_ints.calls (k:Nat) (A0:Option Addr) (c0:Nat) (l0:List Int) (A1:Option Addr) (c1:Nat) (l1:List Int) (r:Bool) (w:World) (hr0:Kd.C (Kd.int .i64) w A0 l0.length l0) (hc0:l0.length≤c0) (hr1:Kd.C (Kd.int .i64) w A1 l1.length l1) (hc1:l1.length≤c1) (h:virgationlaw08_ints.f k l0 l1=some r) :
    Calls Try.prog 15 #[.slice A0 l0.length c0,.slice A1 l1.length c1] w fun e w'=>e=.returned (.bool r)∧Drawn0 w w':=by
  have HR0:=Az.mk hr0
  have HC0:=Az.mk hc0
  clear hr0 hc0
  have HR1:=Az.mk hr1
  have HC1:=Az.mk hc1
  clear hr1 hc1
  have H:(if (l0.length:Int)=(l1.length:Int) then (virgationlaw08_ints.l0 k l0 l1 (l0.length:Int) 0) else (some false))=some r:=h
  clear h
  by_cases c3:(l0.length:Int)=(l1.length:Int)
  · rw [if_pos c3] at H
    have c3b0:((l0.length:Int) == (l1.length:Int))=true:=beq_iff_eq.mpr c3
    have c3b1:((l0.length:Int) != (l1.length:Int))=false:=bne_eq_false_iff_eq.mpr c3
    have c3b2:(l0.length == l1.length)=true:=by first | simpa using c3 | (simp at c3 ⊢; omega)
    clear c3
    have H':=Az.mk H
    clear H
    go_enter Try.func15,Try.ntmps15
    go_wp2
    repeat (go_quiet (fail); try go_wp2)
    go_loopg [13] k (fun kq v13 w'=>∃ (x13_1:Int),v13=.int .i64 x13_1∧Az (virgationlaw08_ints.l0 kq l0 l1 (l0.length:Int) x13_1=some r)∧Az (kq≤k)∧Drawn0 w w')
    case atStart=>exact ⟨(0),(by first | rfl | (simp; done) | (simp [*]; done)),H',⟨Nat.le_refl _⟩,by repeat (first | exact Drawn0.refl _ | apply Drawn0.step)⟩
    case round =>
      clear H'
      try clear c1
      try clear p2
      try clear c3
      try clear c3b0
      try clear c3b1
      try clear c3b2
      obtain ⟨x13_1,rfl,HA,HK1,⟨m1,rfl⟩⟩:=hrel
      cases gk with
      | zero=>exact absurd HA.out (by simp [virgationlaw08_ints.l0])
      | succ k1 =>
        have H:=HA.out
        clear HA
        simp only [virgationlaw08_ints.l0] at H
        by_cases c4:x13_1 < (l0.length:Int)
        · rw [if_pos c4] at H
          have c4b0:decide (x13_1 < (l0.length:Int))=true:=decide_eq_true c4
          clear c4
          by_cases c5:0≤x13_1
          · rw [if_pos c5] at H
            have c5b0:decide (0≤x13_1)=true:=decide_eq_true c5
            clear c5
            by_cases c6:x13_1 < (l0.length:Int)
            · rw [if_pos c6] at H
              have c6b0:decide (x13_1 < (l0.length:Int))=true:=decide_eq_true c6
              clear c6
              by_cases c7:x13_1 < (l1.length:Int)
              · rw [if_pos c7] at H
                have c7b0:decide (x13_1 < (l1.length:Int))=true:=decide_eq_true c7
                clear c7
                by_cases c8:(rd l0 x13_1)=(rd l1 x13_1)
                · rw [if_pos c8] at H
                  have c8b0:((rd l0 x13_1) == (rd l1 x13_1))=true:=beq_iff_eq.mpr c8
                  have c8b1:((rd l0 x13_1) != (rd l1 x13_1))=false:=bne_eq_false_iff_eq.mpr c8
                  clear c8
                  have H':=Az.mk H
                  clear H
                  have p291:0≤(x13_1:Int):=of_decide_eq_true (by first | (with_reducible assumption) | assumption)
                  have q291:x13_1 < (l0.length:Int):=of_decide_eq_true (by first | (with_reducible assumption) | assumption)
                  obtain ⟨ad291,e291,hx291_0⟩:=Kd.at_int HR0.out x13_1 p291 q291
                  cases e291
                  replace p291:=eq_true p291
                  replace q291:=eq_true q291
                  have p292:0≤(x13_1:Int):=of_decide_eq_true (by first | (with_reducible assumption) | assumption)
                  have q292:x13_1 < (l1.length:Int):=of_decide_eq_true (by first | (with_reducible assumption) | assumption)
                  obtain ⟨ad292,e292,hx292_0⟩:=Kd.at_int HR1.out x13_1 p292 q292
                  cases e292
                  replace p292:=eq_true p292
                  replace q292:=eq_true q292
                  go_wp2
                  repeat (go_quiet (fail); try go_wp2)
                  go_roundg k1
                  case measure=>have:=HK1.out; omega
                  case rel=>exact ⟨(wrap64 (x13_1+1)),(by first | rfl | (simp; done) | (simp [*]; done)),H',⟨by have:=HK1.out; omega⟩,by repeat (first | exact Drawn0.refl _ | apply Drawn0.step)⟩
                · rw [if_neg c8] at H
                  have c8b0:((rd l0 x13_1) == (rd l1 x13_1))=false:=beq_eq_false_iff_ne.mpr c8
                  have c8b1:((rd l0 x13_1) != (rd l1 x13_1))=true:=bne_iff_ne.mpr c8
                  obtain rfl:=Option.some.inj H
                  have p291:0≤(x13_1:Int):=of_decide_eq_true (by first | (with_reducible assumption) | assumption)
                  have q291:x13_1 < (l0.length:Int):=of_decide_eq_true (by first | (with_reducible assumption) | assumption)
                  obtain ⟨ad291,e291,hx291_0⟩:=Kd.at_int HR0.out x13_1 p291 q291
                  cases e291
                  replace p291:=eq_true p291
                  replace q291:=eq_true q291
                  have p292:0≤(x13_1:Int):=of_decide_eq_true (by first | (with_reducible assumption) | assumption)
                  have q292:x13_1 < (l1.length:Int):=of_decide_eq_true (by first | (with_reducible assumption) | assumption)
                  obtain ⟨ad292,e292,hx292_0⟩:=Kd.at_int HR1.out x13_1 p292 q292
                  cases e292
                  replace p292:=eq_true p292
                  replace q292:=eq_true q292
                  go_wp2
                  repeat (go_quiet (fail); try go_wp2)
                  go_ret
                  exact ⟨by first | rfl | (simp; done) | (simp [*]; done),by repeat (first | exact Drawn0.refl _ | apply Drawn0.step)⟩
              · rw [if_neg c7] at H
                exact absurd H (by simp)
            · rw [if_neg c6] at H
              exact absurd H (by simp)
          · rw [if_neg c5] at H
            exact absurd H (by simp)
        · rw [if_neg c4] at H
          have c4b0:decide (x13_1 < (l0.length:Int))=false:=decide_eq_false c4
          clear c4
          obtain rfl:=Option.some.inj H
          go_wp2
          repeat (go_quiet (fail); try go_wp2)
          go_ret
          exact ⟨by first | rfl | (simp; done) | (simp [*]; done),by repeat (first | exact Drawn0.refl _ | apply Drawn0.step)⟩
  · rw [if_neg c3] at H
    have c3b0:((l0.length:Int) == (l1.length:Int))=false:=beq_eq_false_iff_ne.mpr c3
    have c3b1:((l0.length:Int) != (l1.length:Int))=true:=bne_iff_ne.mpr c3
    have c3b2:(l0.length == l1.length)=false:=by first | simpa using c3 | (simp at c3 ⊢; omega)
    obtain rfl:=Option.some.inj H
    go_enter Try.func15,Try.ntmps15
    go_wp2
    repeat (go_quiet (fail); try go_wp2)
    go_ret
    exact ⟨by first | rfl | (simp; done) | (simp [*]; done),by repeat (first | exact Drawn0.refl _ | apply Drawn0.step)⟩
theorem ints_l0 (l:List Int) (hl:l.length≤1000000):∀ (m i:Nat),i+m=l.length→virgationlaw08_ints.l0 (m+1) l l (l.length:Int) (i:Int)=some true
  | 0,i,h=>by
    unfold virgationlaw08_ints.l0
    rw [if_neg (by omega)]
  | m+1,i,h=>by
    unfold virgationlaw08_ints.l0
    rw [if_pos (by omega),if_pos (by omega),if_pos (by omega),if_pos (by omega),if_pos rfl]
    have e:wrap64 ((i:Int)+1)=((i+1:Nat):Int):=by unfold wrap64; omega
    rw [e]
    exact ints_l0 l hl m (i+1) (by omega)
theorem ints_true {l:List Int} (hl:l.length≤1000000):virgationlaw08_ints.f (l.length+1) l l=some true:=by
  unfold virgationlaw08_ints.f
  rw [if_pos rfl]
  exact ints_l0 l hl l.length 0 (by omega)
theorem ints_at {l:List Int} (hl:l.length≤1000000) {w:World} {A A':Option Addr} {c c':Nat} (h:Kd.C (Kd.int .i64) w A l.length l) (hc:l.length≤c) (h':Kd.C (Kd.int .i64) w A' l.length l) (hc':l.length≤c') :
    Calls Try.prog 15 #[.slice A l.length c,.slice A' l.length c'] w fun e w'=>e=.returned (.bool true)∧Below w.heap.size w w':=by
  refine (virgationlaw08_ints.calls (l.length+1) A c l A' c' l true w h hc h' hc' (ints_true hl)).mono ?_
  rintro e w' ⟨rfl,m,rfl⟩
  exact ⟨rfl,pwN (Below.refl _ _) m⟩
end Go.Proofs.Ytkgknidogelffaa.I
namespace Go.Proofs.Ytkgknidogelffaa.I
open Go.RowKit Go.Proofs.YtkgknidogelffaaW.PrintWords Go.Proofs.YtkgknidogelffaaW.PrintLast Go.Proofs.YtkgknidogelffaaW.PrintMore
attribute [local go_sem] max2_int min2_int max_two min_two max_three min_three max_four min_four
set_option linter.unusedVariables false
set_option maxRecDepth 100000
set_option linter.unusedSimpArgs false
theorem goS_open {l1:List S41} {s s':MS} {fuel a n e:Int} {k:Nat} (hk:s.known=false) (hf:s.full=false) (h0:0≤fuel) (h1:fuel≤1048576) (h:goS l1 fuel k s=some (a,n,e,s')) :
    ∃ r,goM l1 fuel k 0 s.used s.c s.st=some r∧a=r.a∧n=r.n∧e=r.e∧s'=⟨r.c,r.st,r.used,s.path,r.known,r.full⟩:=by
  unfold goS at h
  rw [if_neg (by omega),if_neg (by rw [hf]; decide),if_neg (by rw [hk]; decide)] at h
  cases hr:goM l1 fuel k 0 s.used s.c s.st with
  | none=>rw [hr] at h; cases h
  | some r =>
    rw [hr] at h
    injection h with h; injection h with e1 h; injection h with e2 h; injection h with e3 e4
    exact ⟨r,rfl,e1.symm,e2.symm,e3.symm,e4.symm⟩
variable {w:World} {lo gm gu:Nat} {l0:List S84} {l1:List S41} {s s' u:MS} {a n e fuel:Int} {k:Nat}
theorem one_new (A0:Option Addr) (c0:Nat) (A1:Option Addr) (c1:Nat) (hr0:Kd.C k84 w A0 l0.length l0) (hc0:l0.length≤c0) (hr1:Kd.C k41 w A1 l1.length l1) (hc1:l1.length≤c1) (hs:schB l0 l1=true) :
    Calls Try.prog 11 #[.agg #[.slice A0 l0.length c0,.slice A1 l1.length c1]] w fun x w'=>∃ gm,x=.returned (.tuple #[.pointer (some ⟨gm,0,none⟩),.int .i64 0])∧Ms w' w.heap.size (l1.map ownF) [(gm,ms0)]∧Below w.heap.size w w' :=
  ms_new (l0:=l0) (l1:=l1) (L:=[]) (Ms.nil (Nat.le_refl _)) A0 c0 A1 c1 hr0 hc0 hr1 hc1 hs
end Go.Proofs.Ytkgknidogelffaa.I
namespace Go.Proofs.Ytkgknidogelffaa.I
open Go.RowKit Go.Proofs.YtkgknidogelffaaW.PrintWords Go.Proofs.YtkgknidogelffaaW.PrintLast Go.Proofs.YtkgknidogelffaaW.PrintMore
attribute [local go_sem] max2_int min2_int max_two min_two max_three min_three max_four min_four
set_option linter.unusedVariables false
set_option maxRecDepth 100000
set_option linter.unusedSimpArgs false
theorem beqT {a b:Int} (h:a=b):(a == b)=true:=beq_iff_eq.2 h
theorem beqF {a b:Int} (h:a≠b):(a == b)=false:=beq_eq_false_iff_ne.2 h
end Go.Proofs.Ytkgknidogelffaa.I
namespace Go.Proofs.Ytkgknidogelffaa.I
open Go.RowKit Go.Proofs.YtkgknidogelffaaW.PrintWords Go.Proofs.YtkgknidogelffaaW.PrintLast Go.Proofs.YtkgknidogelffaaW.PrintMore
attribute [local go_sem] max2_int min2_int max_two min_two max_three min_three max_four min_four   -- for this text's walks alone
set_option linter.unusedVariables false
set_option linter.unusedSimpArgs false
def virgationref02_Large.f (k:Nat) (a0_0:Int) (a0_1:Int) (l0_2:List (S36)):Option (Bool):=(virgationref02_Nodes.f k a0_0 a0_1 l0_2 100000).bind fun t340=>(some (decide (t340 > 100000)))
set_option maxHeartbeats 8000000 in
set_option maxRecDepth 100000 in
theorem virgationref02_Large.calls (k:Nat) (a0_0:Int) (a0_1:Int) (A0_2:Option Addr) (c0_2:Nat) (l0_2:List (S36)) (r:Bool) (w:World) (hr0_2:Kd.C k36 w A0_2 l0_2.length l0_2) (hc0_2:l0_2.length≤c0_2) (h:virgationref02_Large.f k a0_0 a0_1 l0_2=some r) :
    Calls Try.prog 76 #[.agg #[.int .i64 a0_0,.int .i64 a0_1,.slice A0_2 l0_2.length c0_2]] w fun e w'=>e=.returned (.bool r)∧Below w.heap.size w w':=by
  have hu36:=Try.underlying36
  have HR0_2:=Az.mk hr0_2
  have HC0_2:=Az.mk hc0_2
  clear hr0_2 hc0_2
  have HB:=Az.mk (Below.refl w.heap.size w)
  have H:((virgationref02_Nodes.f k a0_0 a0_1 l0_2 100000).bind fun t340=>(some (decide (t340 > 100000))))=some r:=h
  clear h
  replace H:=Option.bind_eq_some_iff.mp H
  obtain ⟨t340,A20,H⟩:=H
  replace H:(some (decide (t340 > 100000)))=some r:=H
  have A2:=Az.mk A20
  clear A20
  obtain rfl:=Option.some.inj H
  go_enter Try.func76,Try.ntmps76
  go_wp2_with (first | ((with_reducible refine gate_dst (N:=1) rfl ?_); refine box_event ?hg (N:=1) ?hd (cs:=#[.int .i64 a0_0,.int .i64 a0_1,.slice A0_2 l0_2.length c0_2]) (t:=36) ?hr ?_; (case hd=>rfl); (case hg=>rfl); (case hr=>first | (go_simp; done) | (go_simp; rfl)); intro gb339 hg w3 hbox hb; have n0_:=Az.mk (bst (by repeat (first | (with_reducible first | exact HB.out | apply bal | apply pwN | apply bd1) | exact HB.out)) hb); have n1_:=Az.mk (hbox); have n2_:=Az.mk ((by rw [hg]; exact (below_size (by repeat (first | (with_reducible first | exact HB.out | apply bal | apply pwN | apply bd1) | exact HB.out))):w.heap.size≤gb339)); have n3_:=Az.mk ((by rw [hg]; exact (below_size (by repeat (first | (with_reducible first | exact HB.out | apply bal | apply pwN | apply bd1) | exact HB.out))):w.heap.size≤gb339)); clear HB; have HB:=n0_; have BK339:=n1_; have GW339:=n2_; have GE339:=n3_; clear n0_ n1_ n2_ n3_; clear hb hbox hg; have hcz4_0:w3.cell? ⟨gb339,0,none⟩=some (.int .i64 a0_0):=(blk_cell BK339.out 0).trans rfl; have hcz4_1:w3.cell? ⟨gb339,1,none⟩=some (.int .i64 a0_1):=(blk_cell BK339.out 1).trans rfl; have hcz4_2:w3.cell? ⟨gb339,2,none⟩=some (.slice A0_2 l0_2.length c0_2):=(blk_cell BK339.out 2).trans rfl; have hfz4_0:=bkF BK339.out 0; have hfz4_1:=bkF BK339.out 1; have hfz4_2:=bkF BK339.out 2) | ((with_reducible refine gate_callee (f:=24) rfl ?_); refine goesL_ (some 4) rfl rfl Try.func24 (by kernel_rfl) rfl #[.agg #[.int .i64 a0_0,.int .i64 a0_1,.slice A0_2 l0_2.length c0_2],.int .i64 100000] rfl (by (try simp only [List.map_toArray,List.map_cons,List.map_nil]); first | done | rfl | (simp only [List.length_drop,List.length_take]; rfl)) ?_; (with_reducible refine (virgationref02_Nodes.calls k a0_0 a0_1 _ _ l0_2 100000 t340 _ ?side1 ?side2 A2.out).mono ?_); (case side1=>repeat (first | exact (Kd.C_below HR0_2.out HB.out) | (with_reducible refine Kd.C_alloc ?_ _) | (with_reducible refine Kd.C_drewN ?_ _) | (with_reducible refine Kd.C_drew ?_))); (case side2=>exact HC0_2.out); rintro e w5 ⟨rfl,hb⟩; refine ⟨_,rfl,?_⟩; have n0_:=Az.mk (bkB (g:=gb339) (o:=.cells #[.int .i64 a0_0,.int .i64 a0_1,.slice A0_2 l0_2.length c0_2] 36 (0,0)) (by (with_reducible repeat (first | refine bdN ?_ _ | refine blk_drew ?_ | refine bkA ?_ _)); exact BK339.out) hb); have n1_:=Az.mk (bst (by repeat (first | (with_reducible first | exact HB.out | apply bal | apply pwN | apply bd1 | refine bset ?_ GE339.out) | exact HB.out)) hb); clear BK339; clear HB; have BK339:=n0_; have HB:=n1_; clear n0_ n1_; (try clear hb); (try clear hb2); (try clear hk); (try clear hi)))
  go_ret
  exact ⟨by first | rfl | (simp [errW_none,errW_some] <;> rfl) | (simp [*,errW_none,errW_some] <;> rfl),by repeat (first | (with_reducible first | exact HB.out | apply bal | apply pwN | apply bd1 | refine bset ?_ GE339.out) | exact HB.out)⟩
end Go.Proofs.Ytkgknidogelffaa.I
namespace Go.Proofs.Ytkgknidogelffaa.I
open Go.RowKit Go.Proofs.YtkgknidogelffaaW.PrintWords Go.Proofs.YtkgknidogelffaaW.PrintLast Go.Proofs.YtkgknidogelffaaW.PrintMore
attribute [local go_sem] max2_int min2_int max_two min_two max_three min_three max_four min_four   -- for this text's walks alone
set_option linter.unusedVariables false
set_option linter.unusedSimpArgs false
def virgationref02_insert.l0:Nat→List Int→Int→List Int→Int→Option (List Int)
  | 0,_,_,_,_=>none
  | k+1,x0,x1,x5,x6=>if x6 < (x0.length:Int) then (if 0≤x6 then (if (rd x0 x6) < x1 then (if x5.length < 17592186044416 then (virgationref02_insert.l0 k x0 x1 (x5 ++ [rd x0 x6]) (wrap64 (x6+1))) else (none)) else (if x5.length < 17592186044416 then ((some (x5 ++ [x1]:List Int)).bind fun y346=>(if (rd x0 x6)=x1 then (if 0≤(wrap64 (x6+1)) then (if (wrap64 (x6+1))≤(x0.length:Int) then (if y346.length+(x0.drop ((wrap64 (x6+1)):Int).toNat).length < 17592186044416 then (some (y346 ++ (x0.drop ((wrap64 (x6+1)):Int).toNat))) else (none)) else (none)) else (none)) else (if x6≤(x0.length:Int) then (if y346.length+(x0.drop (x6:Int).toNat).length < 17592186044416 then (some (y346 ++ (x0.drop (x6:Int).toNat))) else (none)) else (none)))) else (none))) else (none)) else (if x5.length < 17592186044416 then ((some (x5 ++ [x1]:List Int)).bind fun y358=>(if 0≤x6 then (if x6≤(x0.length:Int) then (if y358.length+(x0.drop (x6:Int).toNat).length < 17592186044416 then (some (y358 ++ (x0.drop (x6:Int).toNat))) else (none)) else (none)) else (none))) else (none))
def virgationref02_insert.f (k:Nat) (l0:List Int) (a1:Int):Option (List Int):=virgationref02_insert.l0 k l0 a1 ([]:List Int) 0
set_option maxHeartbeats 8000000 in
set_option maxRecDepth 100000 in
theorem virgationref02_insert.calls (k:Nat) (A0:Option Addr) (c0:Nat) (l0:List Int) (a1:Int) (r:List Int) (w:World) (hr0:Kd.C (Kd.int .i64) w A0 l0.length l0) (hc0:l0.length≤c0) (h:virgationref02_insert.f k l0 a1=some r) :
    Calls Try.prog 81 #[.slice A0 l0.length c0,.int .i64 a1] w fun e w'=>∃ v0_:Value,e=.returned (v0_)∧Kd.R (Kd.int .i64) 3 w' w.heap.size (fun _=>True) v0_ r∧Below w.heap.size w w':=by
  have HR0:=Az.mk hr0
  have HC0:=Az.mk hc0
  clear hr0 hc0
  have HB:=Az.mk (Below.refl w.heap.size w)
  have H:(virgationref02_insert.l0 k l0 a1 ([]:List Int) 0)=some r:=h
  clear h
  have H':=Az.mk H
  clear H
  go_enter Try.func81,Try.ntmps81
  go_wp2
  go_loopg [5,6] k (fun kq v5 v6 w'=>∃ (x5_1:List Int) (x6_1:Int),v6=.int .i64 x6_1∧Az (virgationref02_insert.l0 kq l0 a1 x5_1 x6_1=some r)∧Az (kq≤k)∧Az (Kd.R (Kd.int .i64) 3 w' w.heap.size (fun _=>True) v5 x5_1)∧Az (Below w.heap.size w w'))
  case atStart=>exact ⟨(([]:List Int)),(0),(by first | rfl | (simp; done) | (simp [*]; done)),H',⟨Nat.le_refl _⟩,⟨by first | exact Kd.R_nil _ _ _ _ _ | exact Kd.N_nil _ _ _ _ _ | exact Kd.V_nil _ _ _ _ _ | exact Kd.Q_nil _ _ _ _ _ | exact Kd.S_nil _ _ _ _ _⟩,⟨by repeat (first | (with_reducible first | exact HB.out | apply bal | apply pwN | apply bd1) | exact HB.out)⟩⟩
  case round =>
    clear H'
    try clear p2
    obtain ⟨x5_1,x6_1,rfl,HA,HK1,HO_5,HB⟩:=hrel
    cases gk with
    | zero=>exact absurd HA.out (by simp [virgationref02_insert.l0])
    | succ k1 =>
      have H:=HA.out
      clear HA
      simp only [virgationref02_insert.l0] at H
      by_cases c3:x6_1 < (l0.length:Int)
      · rw [if_pos c3] at H
        have c3b0:decide (x6_1 < (l0.length:Int))=true:=decide_eq_true c3
        clear c3
        by_cases c4:0≤x6_1
        · rw [if_pos c4] at H
          have c4b0:decide (0≤x6_1)=true:=decide_eq_true c4
          clear c4
          by_cases c5:(rd l0 x6_1) < a1
          · rw [if_pos c5] at H
            have c5b0:decide ((rd l0 x6_1) < a1)=true:=decide_eq_true c5
            clear c5
            by_cases c6:x5_1.length < 17592186044416
            · rw [if_pos c6] at H
              have LMc6:=Az.mk c6
              clear c6
              obtain ⟨y343,hy343⟩:∃ y_:List Int,y_=(x5_1 ++ [rd l0 x6_1]):=⟨_,rfl⟩
              replace H:(virgationref02_insert.l0 k1 l0 a1 y343 (wrap64 (x6_1+1)))=some r:=by first | (rw [hy343]; with_reducible exact H) | (have H2_:=(Option.bind_some _ _).symm.trans H; rw [hy343]; with_reducible exact H2_) | (have H2_:=(Option.bind_some _ _).symm.trans H; with_reducible exact H2_) | with_reducible exact H | (rw [hy343]; exact H) | exact H
              have Ny343:=Az.mk hy343
              clear hy343
              have H':=Az.mk H
              clear H
              have p341:0≤(x6_1:Int):=of_decide_eq_true (by first | (with_reducible assumption) | assumption)
              have q341:x6_1 < (l0.length:Int):=of_decide_eq_true (by first | (with_reducible assumption) | assumption)
              obtain ⟨ad341,e341,hx341_0⟩:=Kd.at_int HR0.out x6_1 p341 q341
              cases e341
              replace hx341_0:=(HB.out.cell (World.block_lt_of_cell? w _ hx341_0)).trans hx341_0
              replace p341:=eq_true p341
              replace q341:=eq_true q341
              have p342:0≤(x6_1:Int):=of_decide_eq_true (by first | (with_reducible assumption) | assumption)
              have q342:x6_1 < (l0.length:Int):=of_decide_eq_true (by first | (with_reducible assumption) | assumption)
              obtain ⟨ad342,e342,hx342_0⟩:=Kd.at_int HR0.out x6_1 p342 q342
              obtain rfl:ad341=ad342:=(by injection e342)
              replace hx342_0:=(HB.out.cell (World.block_lt_of_cell? w _ hx342_0)).trans hx342_0
              replace p342:=eq_true p342
              replace q342:=eq_true q342
              go_wp2_with (first | ((with_reducible refine gate_builtin (b:=.append) (xs:=#[.tmp 19,.tmp 24]) rfl ?_); at_builtin; refine Kd.R_append (Kd.int .i64) (w0:=w) w.heap.size rfl (.tmp 19) (.tmp 24) 26 3 (.int .i64 0) 8 rfl Try.underlying26 info3 rfl (by decide) (by omega) u5 x5_1 (rd l0 x6_1) [.int .i64 (rd l0 x6_1)] (fun _=>True) (fun _=>False) rfl rfl ?aP (fun _ hk=>hk.elim) ?aF ?aO ?aB ?aS ?aL ?_; (case aP=>exact rfl); (case aB=>exact (by repeat (first | (with_reducible first | exact HB.out | apply bal | apply pwN | apply bd1) | exact HB.out))); (case aF=>exact (fun _ _=>trivial)); (case aO=>exact (by (with_reducible repeat (first | apply Kd.R_alloc | apply Kd.R_drewN | apply Kd.R_drew)); exact HO_5.out)); (case aS=>exact (below_size (by repeat (first | (with_reducible first | exact HB.out | apply bal | apply pwN | apply bd1) | exact HB.out)))); (case aL=>have:=LMc6.out; omega); intro v344 w7 ho hb hg hat; rw [← Ny343.out] at ho; have n0_:=Az.mk (hb); have n1_:=Az.mk (ho); clear HB; clear HO_5; have HB:=n0_; have HO345:=n1_; clear n0_ n1_; clear ho hb hg hat))
              go_roundg k1
              case measure=>have:=HK1.out; omega
              case rel=>exact ⟨(y343),(wrap64 (x6_1+1)),(by first | rfl | (simp; done) | (simp [*]; done)),H',⟨by have:=HK1.out; omega⟩,⟨by (with_reducible repeat (first | apply Kd.R_alloc | apply Kd.R_drewN | apply Kd.R_drew)); exact HO345.out⟩,⟨by repeat (first | (with_reducible first | exact HB.out | apply bal | apply pwN | apply bd1) | exact HB.out)⟩⟩
            · rw [if_neg c6] at H
              exact absurd H (by simp)
          · rw [if_neg c5] at H
            have c5b0:decide ((rd l0 x6_1) < a1)=false:=decide_eq_false c5
            clear c5
            by_cases c8:x5_1.length < 17592186044416
            · rw [if_pos c8] at H
              have LMc8:=Az.mk c8
              clear c8
              obtain ⟨y346,hy346⟩:∃ y_:List Int,y_=(x5_1 ++ [a1]):=⟨_,rfl⟩
              replace H:(if (rd l0 x6_1)=a1 then (if 0≤(wrap64 (x6_1+1)) then (if (wrap64 (x6_1+1))≤(l0.length:Int) then (if y346.length+(l0.drop ((wrap64 (x6_1+1)):Int).toNat).length < 17592186044416 then (some (y346 ++ (l0.drop ((wrap64 (x6_1+1)):Int).toNat))) else (none)) else (none)) else (none)) else (if x6_1≤(l0.length:Int) then (if y346.length+(l0.drop (x6_1:Int).toNat).length < 17592186044416 then (some (y346 ++ (l0.drop (x6_1:Int).toNat))) else (none)) else (none)))=some r:=by first | (rw [hy346]; with_reducible exact H) | (have H2_:=(Option.bind_some _ _).symm.trans H; rw [hy346]; with_reducible exact H2_) | (have H2_:=(Option.bind_some _ _).symm.trans H; with_reducible exact H2_) | with_reducible exact H | (rw [hy346]; exact H) | exact H
              have Ny346:=Az.mk hy346
              clear hy346
              by_cases c9:(rd l0 x6_1)=a1
              · rw [if_pos c9] at H
                have c9b0:((rd l0 x6_1) == a1)=true:=beq_iff_eq.mpr c9
                have c9b1:((rd l0 x6_1) != a1)=false:=bne_eq_false_iff_eq.mpr c9
                clear c9
                obtain ⟨ji10,hji10⟩:∃ j_:Int,(wrap64 (x6_1+1))=j_:=⟨_,rfl⟩
                replace H:(if 0≤(ji10) then (if (ji10)≤(l0.length:Int) then (if y346.length+(l0.drop ((ji10):Int).toNat).length < 17592186044416 then (some (y346 ++ (l0.drop ((ji10):Int).toNat))) else (none)) else (none)) else (none))=some r:=by first | (rw [hji10] at H; exact H) | (simp only [hji10] at H ⊢; exact H)
                have hji10w:(IntKind.i64.wrap (x6_1+1))=ji10:=(i64_w _).trans hji10
                by_cases c11:0≤(ji10)
                · rw [if_pos c11] at H
                  have c11b0:=eq_true c11
                  have c11b1:decide (0≤(ji10))=true:=decide_eq_true c11
                  clear c11
                  by_cases c12:(ji10)≤(l0.length:Int)
                  · rw [if_pos c12] at H
                    have c12b0:=eq_true c12
                    have c12b1:decide ((ji10)≤(l0.length:Int))=true:=decide_eq_true c12
                    clear c12
                    by_cases c13:y346.length+(l0.drop ((ji10):Int).toNat).length < 17592186044416
                    · rw [if_pos c13] at H
                      have LMc13:=Az.mk c13
                      clear c13
                      obtain ⟨y351,hy351⟩:∃ y_:List Int,y_=(y346 ++ (l0.drop ((ji10):Int).toNat)):=⟨_,rfl⟩
                      replace H:(some y351)=some r:=by first | (rw [hy351]; with_reducible exact H) | (have H2_:=(Option.bind_some _ _).symm.trans H; rw [hy351]; with_reducible exact H2_) | (have H2_:=(Option.bind_some _ _).symm.trans H; with_reducible exact H2_) | with_reducible exact H | (rw [hy351]; exact H) | exact H
                      have Ny351:=Az.mk hy351
                      clear hy351
                      obtain rfl:=Option.some.inj H
                      have p341:0≤(x6_1:Int):=of_decide_eq_true (by first | (with_reducible assumption) | assumption)
                      have q341:x6_1 < (l0.length:Int):=of_decide_eq_true (by first | (with_reducible assumption) | assumption)
                      obtain ⟨ad341,e341,hx341_0⟩:=Kd.at_int HR0.out x6_1 p341 q341
                      cases e341
                      replace hx341_0:=(HB.out.cell (World.block_lt_of_cell? w _ hx341_0)).trans hx341_0
                      replace p341:=eq_true p341
                      replace q341:=eq_true q341
                      go_wp2_with (first | ((with_reducible refine gate_builtin (b:=.append) (xs:=#[.tmp 28,.tmp 30]) rfl ?_); at_builtin; refine Kd.R_append (Kd.int .i64) (w0:=w) w.heap.size rfl (.tmp 28) (.tmp 30) 26 3 (.int .i64 0) 8 rfl Try.underlying26 info3 rfl (by decide) (by omega) u5 x5_1 a1 [.int .i64 a1] (fun _=>True) (fun _=>False) rfl rfl ?aP (fun _ hk=>hk.elim) ?aF ?aO ?aB ?aS ?aL ?_; (case aP=>exact rfl); (case aB=>exact (by repeat (first | (with_reducible first | exact HB.out | apply bal | apply pwN | apply bd1) | exact HB.out))); (case aF=>exact (fun _ _=>trivial)); (case aO=>exact (by (with_reducible repeat (first | apply Kd.R_alloc | apply Kd.R_drewN | apply Kd.R_drew)); exact HO_5.out)); (case aS=>exact (below_size (by repeat (first | (with_reducible first | exact HB.out | apply bal | apply pwN | apply bd1) | exact HB.out)))); (case aL=>have:=LMc8.out; omega); intro v347 w14 ho hb hg hat; rw [← Ny346.out] at ho; have n0_:=Az.mk (hb); have n1_:=Az.mk (ho); clear HB; clear HO_5; have HB:=n0_; have HO348:=n1_; clear n0_ n1_; clear ho hb hg hat; have p349:0≤(x6_1:Int):=of_decide_eq_true (by first | (with_reducible assumption) | assumption); have q349:x6_1 < (l0.length:Int):=of_decide_eq_true (by first | (with_reducible assumption) | assumption); obtain ⟨ad349,e349,hx349_0⟩:=Kd.at_int HR0.out x6_1 p349 q349; obtain rfl:ad341=ad349:=(by injection e349); replace hx349_0:=(HB.out.cell (World.block_lt_of_cell? w _ hx349_0)).trans hx349_0; replace p349:=eq_true p349; replace q349:=eq_true q349; obtain ⟨i015,hi015,_,hsz15,_⟩:=info_parts info3; obtain ⟨A15,hcut15,hA15,hC15⟩:=print_drop_of (P:=Try.prog) (Value.int .i64) 0 26 3 .i64 Try.underlying26 hi015 hsz15 (some ad341) c0 l0 (ji10) (of_decide_eq_true (by first | (with_reducible assumption) | assumption)) (of_decide_eq_true (by first | (with_reducible assumption) | assumption)) HC0.out; have HR350:=Az.mk (Kd.C_of_reads (h1:=fun _=>rfl) (hA15 _ (Kd.reads_of_C HR0.out))); have HC350:=Az.mk hC15; clear hA15 hC15 hi015 hsz15) | ((with_reducible refine gate_builtin (b:=.append) (xs:=#[.tmp 46,.tmp 49]) rfl ?_); at_builtin; refine Kd.R_append_rows (Kd.int .i64) (w0:=w) w.heap.size rfl (.tmp 46) (.tmp 49) 26 3 (.int .i64 0) 8 rfl Try.underlying26 info3 rfl (by decide) (by omega) v347 y346 (l0.drop ((ji10):Int).toNat) _ _ _ (fun _=>True) (fun _=>False) rfl rfl ?aO ?aR (fun _ _ h=>h) (fun _ h=>h.elim) ?aF ?aB ?aS ?aL ?_; (case aR=>first | (rw [← show (l0.drop ((ji10):Int).toNat).length=(l0.length - (ji10).toNat) from List.length_drop]; repeat (first | exact (Kd.C_below HR350.out HB.out) | (with_reducible refine Kd.C_alloc ?_ _) | (with_reducible refine Kd.C_drewN ?_ _) | (with_reducible refine Kd.C_drew ?_))) | (repeat (first | exact (Kd.C_below HR350.out HB.out) | (with_reducible refine Kd.C_alloc ?_ _) | (with_reducible refine Kd.C_drewN ?_ _) | (with_reducible refine Kd.C_drew ?_)))); (case aB=>exact (by repeat (first | (with_reducible first | exact HB.out | apply bal | apply pwN | apply bd1) | exact HB.out))); (case aF=>exact (fun _ _=>trivial)); (case aO=>exact (by (with_reducible repeat (first | apply Kd.R_alloc | apply Kd.R_drewN | apply Kd.R_drew)); exact HO348.out)); (case aS=>exact (below_size (by repeat (first | (with_reducible first | exact HB.out | apply bal | apply pwN | apply bd1) | exact HB.out)))); (case aL=>have:=LMc13.out; have hlx_:=(show (l0.drop ((ji10):Int).toNat).length=(l0.length - (ji10).toNat) from List.length_drop); omega); intro v352 w16 ho hb hg hat; rw [← Ny351.out] at ho; have n0_:=Az.mk (hb); have n1_:=Az.mk (ho); clear HB; clear HO348; have HB:=n0_; have HO353:=n1_; clear n0_ n1_; clear ho hb hg hat))
                      go_ret
                      exact ⟨_,by first | rfl | (simp [errW_none,errW_some] <;> rfl) | (simp only [← hji10]; first | rfl | (simp [errW_none,errW_some] <;> rfl)) | (simp [*,errW_none,errW_some] <;> rfl),by (with_reducible repeat (first | apply Kd.R_alloc | apply Kd.R_drewN | apply Kd.R_drew)); exact HO353.out,by repeat (first | (with_reducible first | exact HB.out | apply bal | apply pwN | apply bd1) | exact HB.out)⟩
                    · rw [if_neg c13] at H
                      exact absurd H (by simp)
                  · rw [if_neg c12] at H
                    exact absurd H (by simp)
                · rw [if_neg c11] at H
                  exact absurd H (by simp)
              · rw [if_neg c9] at H
                have c9b0:((rd l0 x6_1) == a1)=false:=beq_eq_false_iff_ne.mpr c9
                have c9b1:((rd l0 x6_1) != a1)=true:=bne_iff_ne.mpr c9
                have c17b0:=eq_true (of_decide_eq_true (by first | (with_reducible assumption) | assumption):0≤x6_1)
                by_cases c18:x6_1≤(l0.length:Int)
                · rw [if_pos c18] at H
                  have c18b0:=eq_true c18
                  have c18b1:decide (x6_1≤(l0.length:Int))=true:=decide_eq_true c18
                  clear c18
                  by_cases c19:y346.length+(l0.drop (x6_1:Int).toNat).length < 17592186044416
                  · rw [if_pos c19] at H
                    have LMc19:=Az.mk c19
                    clear c19
                    obtain ⟨y355,hy355⟩:∃ y_:List Int,y_=(y346 ++ (l0.drop (x6_1:Int).toNat)):=⟨_,rfl⟩
                    replace H:(some y355)=some r:=by first | (rw [hy355]; with_reducible exact H) | (have H2_:=(Option.bind_some _ _).symm.trans H; rw [hy355]; with_reducible exact H2_) | (have H2_:=(Option.bind_some _ _).symm.trans H; with_reducible exact H2_) | with_reducible exact H | (rw [hy355]; exact H) | exact H
                    have Ny355:=Az.mk hy355
                    clear hy355
                    obtain rfl:=Option.some.inj H
                    have p341:0≤(x6_1:Int):=of_decide_eq_true (by first | (with_reducible assumption) | assumption)
                    have q341:x6_1 < (l0.length:Int):=of_decide_eq_true (by first | (with_reducible assumption) | assumption)
                    obtain ⟨ad341,e341,hx341_0⟩:=Kd.at_int HR0.out x6_1 p341 q341
                    cases e341
                    replace hx341_0:=(HB.out.cell (World.block_lt_of_cell? w _ hx341_0)).trans hx341_0
                    replace p341:=eq_true p341
                    replace q341:=eq_true q341
                    go_wp2_with (first | ((with_reducible refine gate_builtin (b:=.append) (xs:=#[.tmp 28,.tmp 30]) rfl ?_); at_builtin; refine Kd.R_append (Kd.int .i64) (w0:=w) w.heap.size rfl (.tmp 28) (.tmp 30) 26 3 (.int .i64 0) 8 rfl Try.underlying26 info3 rfl (by decide) (by omega) u5 x5_1 a1 [.int .i64 a1] (fun _=>True) (fun _=>False) rfl rfl ?aP (fun _ hk=>hk.elim) ?aF ?aO ?aB ?aS ?aL ?_; (case aP=>exact rfl); (case aB=>exact (by repeat (first | (with_reducible first | exact HB.out | apply bal | apply pwN | apply bd1) | exact HB.out))); (case aF=>exact (fun _ _=>trivial)); (case aO=>exact (by (with_reducible repeat (first | apply Kd.R_alloc | apply Kd.R_drewN | apply Kd.R_drew)); exact HO_5.out)); (case aS=>exact (below_size (by repeat (first | (with_reducible first | exact HB.out | apply bal | apply pwN | apply bd1) | exact HB.out)))); (case aL=>have:=LMc8.out; omega); intro v347 w20 ho hb hg hat; rw [← Ny346.out] at ho; have n0_:=Az.mk (hb); have n1_:=Az.mk (ho); clear HB; clear HO_5; have HB:=n0_; have HO348:=n1_; clear n0_ n1_; clear ho hb hg hat; have p349:0≤(x6_1:Int):=of_decide_eq_true (by first | (with_reducible assumption) | assumption); have q349:x6_1 < (l0.length:Int):=of_decide_eq_true (by first | (with_reducible assumption) | assumption); obtain ⟨ad349,e349,hx349_0⟩:=Kd.at_int HR0.out x6_1 p349 q349; obtain rfl:ad341=ad349:=(by injection e349); replace hx349_0:=(HB.out.cell (World.block_lt_of_cell? w _ hx349_0)).trans hx349_0; replace p349:=eq_true p349; replace q349:=eq_true q349; obtain ⟨i021,hi021,_,hsz21,_⟩:=info_parts info3; obtain ⟨A21,hcut21,hA21,hC21⟩:=print_drop_of (P:=Try.prog) (Value.int .i64) 0 26 3 .i64 Try.underlying26 hi021 hsz21 (some ad341) c0 l0 x6_1 (of_decide_eq_true (by first | (with_reducible assumption) | assumption)) (of_decide_eq_true (by first | (with_reducible assumption) | assumption)) HC0.out; have HR354:=Az.mk (Kd.C_of_reads (h1:=fun _=>rfl) (hA21 _ (Kd.reads_of_C HR0.out))); have HC354:=Az.mk hC21; clear hA21 hC21 hi021 hsz21) | ((with_reducible refine gate_builtin (b:=.append) (xs:=#[.tmp 46,.tmp 49]) rfl ?_); at_builtin; refine Kd.R_append_rows (Kd.int .i64) (w0:=w) w.heap.size rfl (.tmp 46) (.tmp 49) 26 3 (.int .i64 0) 8 rfl Try.underlying26 info3 rfl (by decide) (by omega) v347 y346 (l0.drop (x6_1:Int).toNat) _ _ _ (fun _=>True) (fun _=>False) rfl rfl ?aO ?aR (fun _ _ h=>h) (fun _ h=>h.elim) ?aF ?aB ?aS ?aL ?_; (case aR=>first | (rw [← show (l0.drop (x6_1:Int).toNat).length=(l0.length - x6_1.toNat) from List.length_drop]; repeat (first | exact (Kd.C_below HR354.out HB.out) | (with_reducible refine Kd.C_alloc ?_ _) | (with_reducible refine Kd.C_drewN ?_ _) | (with_reducible refine Kd.C_drew ?_))) | (repeat (first | exact (Kd.C_below HR354.out HB.out) | (with_reducible refine Kd.C_alloc ?_ _) | (with_reducible refine Kd.C_drewN ?_ _) | (with_reducible refine Kd.C_drew ?_)))); (case aB=>exact (by repeat (first | (with_reducible first | exact HB.out | apply bal | apply pwN | apply bd1) | exact HB.out))); (case aF=>exact (fun _ _=>trivial)); (case aO=>exact (by (with_reducible repeat (first | apply Kd.R_alloc | apply Kd.R_drewN | apply Kd.R_drew)); exact HO348.out)); (case aS=>exact (below_size (by repeat (first | (with_reducible first | exact HB.out | apply bal | apply pwN | apply bd1) | exact HB.out)))); (case aL=>have:=LMc19.out; have hlx_:=(show (l0.drop (x6_1:Int).toNat).length=(l0.length - x6_1.toNat) from List.length_drop); omega); intro v356 w22 ho hb hg hat; rw [← Ny355.out] at ho; have n0_:=Az.mk (hb); have n1_:=Az.mk (ho); clear HB; clear HO348; have HB:=n0_; have HO357:=n1_; clear n0_ n1_; clear ho hb hg hat))
                    go_ret
                    exact ⟨_,by first | rfl | (simp [errW_none,errW_some] <;> rfl) | (simp [*,errW_none,errW_some] <;> rfl),by (with_reducible repeat (first | apply Kd.R_alloc | apply Kd.R_drewN | apply Kd.R_drew)); exact HO357.out,by repeat (first | (with_reducible first | exact HB.out | apply bal | apply pwN | apply bd1) | exact HB.out)⟩
                  · rw [if_neg c19] at H
                    exact absurd H (by simp)
                · rw [if_neg c18] at H
                  exact absurd H (by simp)
            · rw [if_neg c8] at H
              exact absurd H (by simp)
        · rw [if_neg c4] at H
          exact absurd H (by simp)
      · rw [if_neg c3] at H
        have c3b0:decide (x6_1 < (l0.length:Int))=false:=decide_eq_false c3
        clear c3
        by_cases c23:x5_1.length < 17592186044416
        · rw [if_pos c23] at H
          have LMc23:=Az.mk c23
          clear c23
          obtain ⟨y358,hy358⟩:∃ y_:List Int,y_=(x5_1 ++ [a1]):=⟨_,rfl⟩
          replace H:(if 0≤x6_1 then (if x6_1≤(l0.length:Int) then (if y358.length+(l0.drop (x6_1:Int).toNat).length < 17592186044416 then (some (y358 ++ (l0.drop (x6_1:Int).toNat))) else (none)) else (none)) else (none))=some r:=by first | (rw [hy358]; with_reducible exact H) | (have H2_:=(Option.bind_some _ _).symm.trans H; rw [hy358]; with_reducible exact H2_) | (have H2_:=(Option.bind_some _ _).symm.trans H; with_reducible exact H2_) | with_reducible exact H | (rw [hy358]; exact H) | exact H
          have Ny358:=Az.mk hy358
          clear hy358
          by_cases c24:0≤x6_1
          · rw [if_pos c24] at H
            have c24b0:=eq_true c24
            have c24b1:decide (0≤x6_1)=true:=decide_eq_true c24
            clear c24
            by_cases c25:x6_1≤(l0.length:Int)
            · rw [if_pos c25] at H
              have c25b0:=eq_true c25
              have c25b1:decide (x6_1≤(l0.length:Int))=true:=decide_eq_true c25
              clear c25
              by_cases c26:y358.length+(l0.drop (x6_1:Int).toNat).length < 17592186044416
              · rw [if_pos c26] at H
                have LMc26:=Az.mk c26
                clear c26
                obtain ⟨y362,hy362⟩:∃ y_:List Int,y_=(y358 ++ (l0.drop (x6_1:Int).toNat)):=⟨_,rfl⟩
                replace H:(some y362)=some r:=by first | (rw [hy362]; with_reducible exact H) | (have H2_:=(Option.bind_some _ _).symm.trans H; rw [hy362]; with_reducible exact H2_) | (have H2_:=(Option.bind_some _ _).symm.trans H; with_reducible exact H2_) | with_reducible exact H | (rw [hy362]; exact H) | exact H
                have Ny362:=Az.mk hy362
                clear hy362
                obtain rfl:=Option.some.inj H
                go_wp2_with (first | ((with_reducible refine gate_builtin (b:=.append) (xs:=#[.tmp 28,.tmp 30]) rfl ?_); at_builtin; refine Kd.R_append (Kd.int .i64) (w0:=w) w.heap.size rfl (.tmp 28) (.tmp 30) 26 3 (.int .i64 0) 8 rfl Try.underlying26 info3 rfl (by decide) (by omega) u5 x5_1 a1 [.int .i64 a1] (fun _=>True) (fun _=>False) rfl rfl ?aP (fun _ hk=>hk.elim) ?aF ?aO ?aB ?aS ?aL ?_; (case aP=>exact rfl); (case aB=>exact (by repeat (first | (with_reducible first | exact HB.out | apply bal | apply pwN | apply bd1) | exact HB.out))); (case aF=>exact (fun _ _=>trivial)); (case aO=>exact (by (with_reducible repeat (first | apply Kd.R_alloc | apply Kd.R_drewN | apply Kd.R_drew)); exact HO_5.out)); (case aS=>exact (below_size (by repeat (first | (with_reducible first | exact HB.out | apply bal | apply pwN | apply bd1) | exact HB.out)))); (case aL=>have:=LMc23.out; omega); intro v359 w27 ho hb hg hat; rw [← Ny358.out] at ho; have n0_:=Az.mk (hb); have n1_:=Az.mk (ho); clear HB; clear HO_5; have HB:=n0_; have HO360:=n1_; clear n0_ n1_; clear ho hb hg hat; obtain ⟨i028,hi028,_,hsz28,_⟩:=info_parts info3; obtain ⟨A28,hcut28,hA28,hC28⟩:=print_drop_of (P:=Try.prog) (Value.int .i64) 0 26 3 .i64 Try.underlying26 hi028 hsz28 A0 c0 l0 x6_1 (of_decide_eq_true (by first | (with_reducible assumption) | assumption)) (of_decide_eq_true (by first | (with_reducible assumption) | assumption)) HC0.out; have HR361:=Az.mk (Kd.C_of_reads (h1:=fun _=>rfl) (hA28 _ (Kd.reads_of_C HR0.out))); have HC361:=Az.mk hC28; clear hA28 hC28 hi028 hsz28) | ((with_reducible refine gate_builtin (b:=.append) (xs:=#[.tmp 46,.tmp 49]) rfl ?_); at_builtin; refine Kd.R_append_rows (Kd.int .i64) (w0:=w) w.heap.size rfl (.tmp 46) (.tmp 49) 26 3 (.int .i64 0) 8 rfl Try.underlying26 info3 rfl (by decide) (by omega) v359 y358 (l0.drop (x6_1:Int).toNat) _ _ _ (fun _=>True) (fun _=>False) rfl rfl ?aO ?aR (fun _ _ h=>h) (fun _ h=>h.elim) ?aF ?aB ?aS ?aL ?_; (case aR=>first | (rw [← show (l0.drop (x6_1:Int).toNat).length=(l0.length - x6_1.toNat) from List.length_drop]; repeat (first | exact (Kd.C_below HR361.out HB.out) | (with_reducible refine Kd.C_alloc ?_ _) | (with_reducible refine Kd.C_drewN ?_ _) | (with_reducible refine Kd.C_drew ?_))) | (repeat (first | exact (Kd.C_below HR361.out HB.out) | (with_reducible refine Kd.C_alloc ?_ _) | (with_reducible refine Kd.C_drewN ?_ _) | (with_reducible refine Kd.C_drew ?_)))); (case aB=>exact (by repeat (first | (with_reducible first | exact HB.out | apply bal | apply pwN | apply bd1) | exact HB.out))); (case aF=>exact (fun _ _=>trivial)); (case aO=>exact (by (with_reducible repeat (first | apply Kd.R_alloc | apply Kd.R_drewN | apply Kd.R_drew)); exact HO360.out)); (case aS=>exact (below_size (by repeat (first | (with_reducible first | exact HB.out | apply bal | apply pwN | apply bd1) | exact HB.out)))); (case aL=>have:=LMc26.out; have hlx_:=(show (l0.drop (x6_1:Int).toNat).length=(l0.length - x6_1.toNat) from List.length_drop); omega); intro v363 w29 ho hb hg hat; rw [← Ny362.out] at ho; have n0_:=Az.mk (hb); have n1_:=Az.mk (ho); clear HB; clear HO360; have HB:=n0_; have HO364:=n1_; clear n0_ n1_; clear ho hb hg hat))
                go_ret
                exact ⟨_,by first | rfl | (simp [errW_none,errW_some] <;> rfl) | (simp [*,errW_none,errW_some] <;> rfl),by (with_reducible repeat (first | apply Kd.R_alloc | apply Kd.R_drewN | apply Kd.R_drew)); exact HO364.out,by repeat (first | (with_reducible first | exact HB.out | apply bal | apply pwN | apply bd1) | exact HB.out)⟩
              · rw [if_neg c26] at H
                exact absurd H (by simp)
            · rw [if_neg c25] at H
              exact absurd H (by simp)
          · rw [if_neg c24] at H
            exact absurd H (by simp)
        · rw [if_neg c23] at H
          exact absurd H (by simp)
mutual
def virgationref02_grown.j0:Nat→List Int→Int→Int→Int→List (S36)→Option (Int)
  | 0,_,_,_,_,_=>none
  | k+1,x1,x5,x375000,x375001,x375002=>virgationref02_grown.l0 k x1 x5 x375002 (x375002.length:Int) 0
def virgationref02_grown.l0:Nat→List Int→Int→List (S36)→Int→Int→Option (Int)
  | 0,_,_,_,_,_=>none
  | k+1,x1,x5,x17,x18,x19=>if x19 < x18 then (if 0≤x19 then (if x19 < (x17.length:Int) then ((virgationref02_grown.f k ((rd_T36 x17 x19).f0) ((rd_T36 x17 x19).f1) ((rd_T36 x17 x19).f2) x1).bind fun t378=>(virgationref02_grown.l0 k x1 (mn (wrap64 (x5+t378)) 100001) x17 x18 (wrap64 (x19+1)))) else (none)) else (none)) else (some x5)
def virgationref02_grown.f:Nat→Int→Int→List (S36)→List Int→Option (Int)
  | 0,_,_,_,_=>none
  | k+1,a0_0,a0_1,l0_2,l1=>if a0_0=0 then (if 0≤a0_1 then (if a0_1 < (l1.length:Int) then (virgationref02_grown.j0 k l1 (rd l1 a0_1) a0_0 a0_1 l0_2) else (none)) else (none)) else (virgationref02_grown.j0 k l1 1 a0_0 a0_1 l0_2)
end
set_option maxHeartbeats 8000000 in
set_option maxRecDepth 100000 in
theorem virgationref02_grown.calls (k:Nat):∀ (a0_0:Int) (a0_1:Int) (A0_2:Option Addr) (c0_2:Nat) (l0_2:List (S36)) (A1:Option Addr) (c1:Nat) (l1:List Int) (r:Int) (w:World) (hr0_2:Kd.C k36 w A0_2 l0_2.length l0_2) (hc0_2:l0_2.length≤c0_2) (hr1:Kd.C (Kd.int .i64) w A1 l1.length l1) (hc1:l1.length≤c1) (h:virgationref02_grown.f k a0_0 a0_1 l0_2 l1=some r),
    Calls Try.prog 78 #[.agg #[.int .i64 a0_0,.int .i64 a0_1,.slice A0_2 l0_2.length c0_2],.slice A1 l1.length c1] w fun e w'=>e=.returned (.int .i64 r)∧Below w.heap.size w w':=by
  induction k using Nat.strongRecOn with
  | _ k ih =>
  intro a0_0 a0_1 A0_2 c0_2 l0_2 A1 c1 l1 r w hr0_2 hc0_2 hr1 hc1 h
  cases k with
  | zero=>exact absurd h (by simp [virgationref02_grown.f])
  | succ k =>
  simp only [virgationref02_grown.f] at h
  have hu36:=Try.underlying36
  have HR0_2:=Az.mk hr0_2
  have HC0_2:=Az.mk hc0_2
  clear hr0_2 hc0_2
  have HR1:=Az.mk hr1
  have HC1:=Az.mk hc1
  clear hr1 hc1
  have HB:=Az.mk (Below.refl w.heap.size w)
  have H:(if a0_0=0 then (if 0≤a0_1 then (if a0_1 < (l1.length:Int) then (virgationref02_grown.j0 k l1 (rd l1 a0_1) a0_0 a0_1 l0_2) else (none)) else (none)) else (virgationref02_grown.j0 k l1 1 a0_0 a0_1 l0_2))=some r:=h
  clear h
  have HC3:=Az.mk H
  clear H
  go_enter Try.func78,Try.ntmps78
  go_upto_if 10 with (first | ((with_reducible refine gate_dst (N:=2) rfl ?_); refine box_event ?hg (N:=2) ?hd (cs:=#[.int .i64 a0_0,.int .i64 a0_1,.slice A0_2 l0_2.length c0_2]) (t:=36) ?hr ?_; (case hd=>rfl); (case hg=>rfl); (case hr=>first | (go_simp; done) | (go_simp; rfl)); intro gb374 hg w4 hbox hb; have n0_:=Az.mk (bst (by repeat (first | (with_reducible first | exact HB.out | apply bal | apply pwN | apply bd1) | exact HB.out)) hb); have n1_:=Az.mk (hbox); have n2_:=Az.mk ((by rw [hg]; exact (below_size (by repeat (first | (with_reducible first | exact HB.out | apply bal | apply pwN | apply bd1) | exact HB.out))):w.heap.size≤gb374)); have n3_:=Az.mk ((by rw [hg]; exact (below_size (by repeat (first | (with_reducible first | exact HB.out | apply bal | apply pwN | apply bd1) | exact HB.out))):w.heap.size≤gb374)); clear HB; have HB:=n0_; have BK374:=n1_; have GW374:=n2_; have GE374:=n3_; clear n0_ n1_ n2_ n3_; clear hb hbox hg; have hcz5_0:w4.cell? ⟨gb374,0,none⟩=some (.int .i64 a0_0):=(blk_cell BK374.out 0).trans rfl; have hcz5_1:w4.cell? ⟨gb374,1,none⟩=some (.int .i64 a0_1):=(blk_cell BK374.out 1).trans rfl; have hcz5_2:w4.cell? ⟨gb374,2,none⟩=some (.slice A0_2 l0_2.length c0_2):=(blk_cell BK374.out 2).trans rfl; have hfz5_0:=bkF BK374.out 0; have hfz5_1:=bkF BK374.out 1; have hfz5_2:=bkF BK374.out 2))
  (try simp only [Act.put,List.setIfInBounds_toArray,List.set_cons_zero,List.set_cons_succ])
  go_cut [5] (fun v5 wc=>∃ (kq:Nat) (x5_2:Int),v5=.int .i64 x5_2∧Az (virgationref02_grown.j0 kq l1 x5_2 a0_0 a0_1 l0_2=some r)∧Az (kq≤k)∧Az (wc.heap[gb374]?=some (.cells #[.int .i64 a0_0,.int .i64 a0_1,(.slice A0_2 l0_2.length c0_2)] 36 (0,0)))∧Az (Below w.heap.size w wc))
  case first =>
    have H:=HC3.out
    clear HC3
    by_cases c6:a0_0=0
    · rw [if_pos c6] at H
      have c6b0:(a0_0 == 0)=true:=beq_iff_eq.mpr c6
      have c6b1:(a0_0 != 0)=false:=bne_eq_false_iff_eq.mpr c6
      clear c6
      (first | rw [c6b0] | (simp only [i64_w,i32_w]; rw [c6b0]) | skip)
      by_cases c7:0≤a0_1
      · rw [if_pos c7] at H
        have c7b0:decide (0≤a0_1)=true:=decide_eq_true c7
        clear c7
        by_cases c8:a0_1 < (l1.length:Int)
        · rw [if_pos c8] at H
          have c8b0:decide (a0_1 < (l1.length:Int))=true:=decide_eq_true c8
          clear c8
          have H':=Az.mk H
          clear H
          have hcz9_0:w4.cell? ⟨gb374,0,none⟩=some (.int .i64 a0_0):=(blk_cell BK374.out 0).trans rfl
          have hcz9_1:w4.cell? ⟨gb374,1,none⟩=some (.int .i64 a0_1):=(blk_cell BK374.out 1).trans rfl
          have hcz9_2:w4.cell? ⟨gb374,2,none⟩=some (.slice A0_2 l0_2.length c0_2):=(blk_cell BK374.out 2).trans rfl
          have hfz9_0:=bkF BK374.out 0
          have hfz9_1:=bkF BK374.out 1
          have hfz9_2:=bkF BK374.out 2
          have p375:0≤(a0_1:Int):=of_decide_eq_true (by first | (with_reducible assumption) | assumption)
          have q375:a0_1 < (l1.length:Int):=of_decide_eq_true (by first | (with_reducible assumption) | assumption)
          obtain ⟨ad375,e375,hx375_0⟩:=Kd.at_int HR1.out a0_1 p375 q375
          cases e375
          replace hx375_0:=(HB.out.cell (World.block_lt_of_cell? w _ hx375_0)).trans hx375_0
          replace p375:=eq_true p375
          replace q375:=eq_true q375
          go_wp2
          go_meet
          case rel=>exact ⟨_,(rd l1 a0_1),(by first | rfl | (simp; done) | (simp [*]; done)),H',⟨by first | omega | exact Nat.le_refl _⟩,⟨by (with_reducible repeat (first | refine bdN ?_ _ | refine blk_drew ?_ | refine bkA ?_ _)); exact BK374.out⟩,⟨by repeat (first | (with_reducible first | exact HB.out | apply bal | apply pwN | apply bd1 | refine bset ?_ GE374.out) | exact HB.out)⟩⟩
        · rw [if_neg c8] at H
          exact absurd H (by simp)
      · rw [if_neg c7] at H
        exact absurd H (by simp)
    · rw [if_neg c6] at H
      have c6b0:(a0_0 == 0)=false:=beq_eq_false_iff_ne.mpr c6
      have c6b1:(a0_0 != 0)=true:=bne_iff_ne.mpr c6
      (first | rw [c6b0] | (simp only [i64_w,i32_w]; rw [c6b0]) | skip)
      have H':=Az.mk H
      clear H
      go_wp2
      go_meet
      case rel=>exact ⟨_,(1),(by first | rfl | (simp; done) | (simp [*]; done)),H',⟨by first | omega | exact Nat.le_refl _⟩,⟨by (with_reducible repeat (first | refine bdN ?_ _ | refine blk_drew ?_ | refine bkA ?_ _)); exact BK374.out⟩,⟨by repeat (first | (with_reducible first | exact HB.out | apply bal | apply pwN | apply bd1 | refine bset ?_ GE374.out) | exact HB.out)⟩⟩
  case rest =>
    clear HC3
    try clear c1
    try clear p2
    try clear p3
    try clear q3
    try clear hx3
    try clear c6
    try clear c6b0
    try clear c6b1
    try clear c7
    try clear c7b0
    try clear c8
    try clear c8b0
    try clear hcz5_0
    try clear hcz5_1
    try clear hcz5_2
    try clear hcz9_0
    try clear hcz9_1
    try clear hcz9_2
    try clear hfz5_0
    try clear hfz5_1
    try clear hfz5_2
    try clear hfz9_0
    try clear hfz9_1
    try clear hfz9_2
    try clear hx375_0
    try clear p375
    try clear q375
    obtain ⟨kq,x5_2,rfl,HA,HJ2,BK374,HB⟩:=hcut
    cases kq with
    | zero=>exact absurd HA.out (by simp [virgationref02_grown.j0])
    | succ kj2 =>
      have H:=HA.out
      clear HA
      simp only [virgationref02_grown.j0] at H
      have H':=Az.mk H
      clear H
      have hcz10_0:wc.cell? ⟨gb374,0,none⟩=some (.int .i64 a0_0):=(blk_cell BK374.out 0).trans rfl
      have hcz10_1:wc.cell? ⟨gb374,1,none⟩=some (.int .i64 a0_1):=(blk_cell BK374.out 1).trans rfl
      have hcz10_2:wc.cell? ⟨gb374,2,none⟩=some (.slice A0_2 l0_2.length c0_2):=(blk_cell BK374.out 2).trans rfl
      have hfz10_0:=bkF BK374.out 0
      have hfz10_1:=bkF BK374.out 1
      have hfz10_2:=bkF BK374.out 2
      go_wp2
      go_loopg [5,19] kj2 (fun kq v5 v19 w'=>∃ (x5_2:Int) (x19_2:Int),v5=.int .i64 x5_2∧v19=.int .i64 x19_2∧Az (virgationref02_grown.l0 kq l1 x5_2 l0_2 (l0_2.length:Int) x19_2=some r)∧Az (kq≤kj2)∧Az (w'.heap[gb374]?=some (.cells #[.int .i64 a0_0,.int .i64 a0_1,(.slice A0_2 l0_2.length c0_2)] 36 (0,0)))∧Az (Below w.heap.size w w'))
      case atStart=>exact ⟨(x5_2),(0),(by first | rfl | (simp; done) | (simp [*]; done)),(by first | rfl | (simp; done) | (simp [*]; done)),H',⟨Nat.le_refl _⟩,⟨by (with_reducible repeat (first | refine bdN ?_ _ | refine blk_drew ?_ | refine bkA ?_ _)); exact BK374.out⟩,⟨by repeat (first | (with_reducible first | exact HB.out | apply bal | apply pwN | apply bd1 | refine bset ?_ GE374.out) | exact HB.out)⟩⟩
      case round =>
        clear H'
        try clear c1
        try clear p2
        try clear p3
        try clear q3
        try clear hx3
        try clear c6
        try clear c6b0
        try clear c6b1
        try clear c7
        try clear c7b0
        try clear c8
        try clear c8b0
        try clear hcz10_0
        try clear hcz10_1
        try clear hcz10_2
        try clear hcz5_0
        try clear hcz5_1
        try clear hcz5_2
        try clear hcz9_0
        try clear hcz9_1
        try clear hcz9_2
        try clear hfz10_0
        try clear hfz10_1
        try clear hfz10_2
        try clear hfz5_0
        try clear hfz5_1
        try clear hfz5_2
        try clear hfz9_0
        try clear hfz9_1
        try clear hfz9_2
        try clear hx375_0
        try clear p2
        try clear p3
        try clear p375
        try clear q3
        try clear q375
        obtain ⟨x5_2,x19_2,rfl,rfl,HA,HK2,BK374,HB⟩:=hrel
        cases gk with
        | zero=>exact absurd HA.out (by simp [virgationref02_grown.l0])
        | succ k2 =>
          have H:=HA.out
          clear HA
          simp only [virgationref02_grown.l0] at H
          by_cases c11:x19_2 < (l0_2.length:Int)
          · rw [if_pos c11] at H
            have c11b0:decide (x19_2 < (l0_2.length:Int))=true:=decide_eq_true c11
            clear c11
            by_cases c12:0≤x19_2
            · rw [if_pos c12] at H
              have c12b0:decide (0≤x19_2)=true:=decide_eq_true c12
              clear c12
              by_cases c13:x19_2 < (l0_2.length:Int)
              · rw [if_pos c13] at H
                have c13b0:decide (x19_2 < (l0_2.length:Int))=true:=decide_eq_true c13
                clear c13
                replace H:=Option.bind_eq_some_iff.mp H
                obtain ⟨t378,A140,H⟩:=H
                replace H:(virgationref02_grown.l0 k2 l1 (mn (wrap64 (x5_2+t378)) 100001) l0_2 (l0_2.length:Int) (wrap64 (x19_2+1)))=some r:=H
                have A14:=Az.mk A140
                clear A140
                obtain ⟨ji15,hji15⟩:∃ j_:Int,(mn (wrap64 (x5_2+t378)) 100001)=j_:=⟨_,rfl⟩
                replace H:(virgationref02_grown.l0 k2 l1 ji15 l0_2 (l0_2.length:Int) (wrap64 (x19_2+1)))=some r:=by first | (rw [hji15] at H; exact H) | (simp only [hji15] at H ⊢; exact H)
                (try rw [hji15] at A14)
                have hji15_:(if 100001 < (wrap64 (x5_2+t378)) then 100001 else (wrap64 (x5_2+t378)))=ji15:=hji15
                have H':=Az.mk H
                clear H
                have p376:0≤(x19_2:Int):=of_decide_eq_true (by first | (with_reducible assumption) | assumption)
                have q376:x19_2 < (l0_2.length:Int):=of_decide_eq_true (by first | (with_reducible assumption) | assumption)
                obtain ⟨ad376,A376_2,c376_2,e376,hx376_0,hx376_1,hx376_2,hl376_2,hi376_2⟩:=at_T36 HR0_2.out x19_2 p376 q376
                cases e376
                replace hx376_0:=(HB.out.cell (World.block_lt_of_cell? w _ hx376_0)).trans hx376_0
                replace hx376_1:=(HB.out.cell (World.block_lt_of_cell? w _ hx376_1)).trans hx376_1
                replace hx376_2:=(HB.out.cell (World.block_lt_of_cell? w _ hx376_2)).trans hx376_2
                have HR376_2:=Az.mk hi376_2
                have HC376_2:=Az.mk hl376_2
                clear hi376_2 hl376_2
                replace p376:=eq_true p376
                replace q376:=eq_true q376
                go_wp2_with (first | ((with_reducible refine gate_dst (N:=7) rfl ?_); refine box_event ?hg (N:=7) ?hd (cs:=#[.int .i64 0,.int .i64 0,.slice none 0 0]) (t:=36) ?hr ?_; (case hd=>rfl); (case hg=>rfl); (case hr=>first | (go_simp; done) | (go_simp; rfl)); intro gb377 hg w16 hbox hb; have n0_:=Az.mk (bkB (g:=gb374) (o:=.cells #[.int .i64 a0_0,.int .i64 a0_1,.slice (some ad376) l0_2.length c0_2] 36 (0,0)) (by (with_reducible repeat (first | refine bdN ?_ _ | refine blk_drew ?_ | refine bkA ?_ _)); exact BK374.out) hb); have n1_:=Az.mk (bst (by repeat (first | (with_reducible first | exact HB.out | apply bal | apply pwN | apply bd1 | refine bset ?_ GE374.out) | exact HB.out)) hb); have n2_:=Az.mk (hbox); have n3_:=Az.mk ((by rw [hg]; exact (below_size (by repeat (first | (with_reducible first | exact HB.out | apply bal | apply pwN | apply bd1 | refine bset ?_ GE374.out) | exact HB.out))):w.heap.size≤gb377)); have n4_:=Az.mk ((by rw [hg]; exact (below_size (by repeat (first | (with_reducible first | exact HB.out | apply bal | apply pwN | apply bd1 | refine bset ?_ GE374.out) | exact HB.out))):w.heap.size≤gb377)); have n5_:=Az.mk ((by rw [hg]; exact Nat.ne_of_lt (blk_lt (g:=gb374) (o:=.cells #[.int .i64 a0_0,.int .i64 a0_1,.slice (some ad376) l0_2.length c0_2] 36 (0,0)) (by (with_reducible repeat (first | refine bdN ?_ _ | refine blk_drew ?_ | refine bkA ?_ _)); exact BK374.out)):gb374≠gb377)); have n6_:=Az.mk ((by rw [hg]; exact Nat.ne_of_gt (blk_lt (g:=gb374) (o:=.cells #[.int .i64 a0_0,.int .i64 a0_1,.slice (some ad376) l0_2.length c0_2] 36 (0,0)) (by (with_reducible repeat (first | refine bdN ?_ _ | refine blk_drew ?_ | refine bkA ?_ _)); exact BK374.out)):gb377≠gb374)); clear BK374; clear HB; have BK374:=n0_; have HB:=n1_; have BK377:=n2_; have GW377:=n3_; have GE377:=n4_; have NB374_377:=n5_; have NB377_374:=n6_; clear n0_ n1_ n2_ n3_ n4_ n5_ n6_; clear hb hbox hg; have hnb17:=NB377_374.out; have hnc17:=NB374_377.out; have hcz18_0:w16.cell? ⟨gb377,0,none⟩=some (.int .i64 0):=(blk_cell BK377.out 0).trans rfl; have hcz18_1:w16.cell? ⟨gb377,1,none⟩=some (.int .i64 0):=(blk_cell BK377.out 1).trans rfl; have hcz18_2:w16.cell? ⟨gb377,2,none⟩=some (.slice none 0 0):=(blk_cell BK377.out 2).trans rfl; have hfz18_0:=bkF BK377.out 0; have hfz18_1:=bkF BK377.out 1; have hfz18_2:=bkF BK377.out 2) | ((with_reducible refine gate_callee (f:=78) rfl ?_); refine goesL_ (some 26) rfl rfl Try.func78 (by kernel_rfl) rfl #[.agg #[.int .i64 ((rd_T36 l0_2 x19_2).f0),.int .i64 ((rd_T36 l0_2 x19_2).f1),.slice A376_2 ((rd_T36 l0_2 x19_2).f2).length c376_2],.slice A1 l1.length c1] rfl (by (try simp only [List.map_toArray,List.map_cons,List.map_nil]); first | done | rfl | (simp only [List.length_drop,List.length_take]; rfl)) ?_; (with_reducible refine (ih k2 (by have:=HJ2.out; have:=HK2.out; omega) ((rd_T36 l0_2 x19_2).f0) ((rd_T36 l0_2 x19_2).f1) _ _ ((rd_T36 l0_2 x19_2).f2) _ _ l1 t378 _ ?side1 ?side2 ?side3 ?side4 A14.out).mono ?_); (case side1=>exact Kd.C_below HR376_2.out (by repeat (first | (with_reducible first | exact HB.out | apply bal | apply pwN | apply bd1 | refine bset ?_ GE374.out | refine bset ?_ GE377.out) | exact HB.out))); (case side2=>exact HC376_2.out); (case side3=>exact Kd.C_below HR1.out (by repeat (first | (with_reducible first | exact HB.out | apply bal | apply pwN | apply bd1 | refine bset ?_ GE374.out | refine bset ?_ GE377.out) | exact HB.out))); (case side4=>exact HC1.out); rintro e w19 ⟨rfl,hb⟩; refine ⟨_,rfl,?_⟩; have n0_:=Az.mk (bkB (g:=gb374) (o:=.cells #[.int .i64 a0_0,.int .i64 a0_1,.slice (some ad376) l0_2.length c0_2] 36 (0,0)) (by (with_reducible repeat (first | refine bdN ?_ _ | refine blk_drew ?_ | refine bkA ?_ _)); refine blk_far ?_ NB374_377.out _; (with_reducible repeat (first | refine bdN ?_ _ | refine blk_drew ?_ | refine bkA ?_ _)); refine blk_far ?_ NB374_377.out _; (with_reducible repeat (first | refine bdN ?_ _ | refine blk_drew ?_ | refine bkA ?_ _)); refine blk_far ?_ NB374_377.out _; (with_reducible repeat (first | refine bdN ?_ _ | refine blk_drew ?_ | refine bkA ?_ _)); exact BK374.out) hb); have n1_:=Az.mk (bkB (g:=gb377) (o:=.cells #[.int .i64 ((rd_T36 l0_2 x19_2).f0),.int .i64 ((rd_T36 l0_2 x19_2).f1),.slice A376_2 ((rd_T36 l0_2 x19_2).f2).length c376_2] 36 (0,0)) (by (with_reducible repeat (first | refine bdN ?_ _ | refine blk_drew ?_ | refine bkA ?_ _)); refine blk_put (cs:=#[.int .i64 ((rd_T36 l0_2 x19_2).f0),.int .i64 ((rd_T36 l0_2 x19_2).f1),.slice none 0 0]) ?_ 2 _ rfl; (with_reducible repeat (first | refine bdN ?_ _ | refine blk_drew ?_ | refine bkA ?_ _)); refine blk_put (cs:=#[.int .i64 ((rd_T36 l0_2 x19_2).f0),.int .i64 0,.slice none 0 0]) ?_ 1 _ rfl; (with_reducible repeat (first | refine bdN ?_ _ | refine blk_drew ?_ | refine bkA ?_ _)); refine blk_put (cs:=#[.int .i64 0,.int .i64 0,.slice none 0 0]) ?_ 0 _ rfl; (with_reducible repeat (first | refine bdN ?_ _ | refine blk_drew ?_ | refine bkA ?_ _)); exact BK377.out) hb); have n2_:=Az.mk (bst (by repeat (first | (with_reducible first | exact HB.out | apply bal | apply pwN | apply bd1 | refine bset ?_ GE374.out | refine bset ?_ GE377.out) | exact HB.out)) hb); clear BK374; clear BK377; clear HB; have BK374:=n0_; have BK377:=n1_; have HB:=n2_; clear n0_ n1_ n2_; (try clear hb); (try clear hb2); (try clear hk); (try clear hi)))
                go_roundg k2
                case measure=>have:=HJ2.out; have:=HK2.out; omega
                case rel=>exact ⟨(ji15),(wrap64 (x19_2+1)),(by first | rfl | (simp; done) | (simp only [← hji15] <;> (first | rfl | simp)) | (simp [*]; done)),(by first | rfl | (simp; done) | (simp [*]; done)),H',⟨by have:=HJ2.out; have:=HK2.out; omega⟩,⟨by (with_reducible repeat (first | refine bdN ?_ _ | refine blk_drew ?_ | refine bkA ?_ _)); exact BK374.out⟩,⟨by repeat (first | (with_reducible first | exact HB.out | apply bal | apply pwN | apply bd1 | refine bset ?_ GE374.out | refine bset ?_ GE377.out) | exact HB.out)⟩⟩
              · rw [if_neg c13] at H
                exact absurd H (by simp)
            · rw [if_neg c12] at H
              exact absurd H (by simp)
          · rw [if_neg c11] at H
            have c11b0:decide (x19_2 < (l0_2.length:Int))=false:=decide_eq_false c11
            clear c11
            obtain rfl:=Option.some.inj H
            go_wp2
            go_ret
            exact ⟨by first | rfl | (simp [errW_none,errW_some] <;> rfl) | (simp [*,errW_none,errW_some] <;> rfl),by repeat (first | (with_reducible first | exact HB.out | apply bal | apply pwN | apply bd1 | refine bset ?_ GE374.out) | exact HB.out)⟩
end Go.Proofs.Ytkgknidogelffaa.I
