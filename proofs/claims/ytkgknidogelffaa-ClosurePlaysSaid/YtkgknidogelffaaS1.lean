/- Texts of this session's proof, laid together: I0, I3, I4, I5, IH1, IH3. -/
import Derived.Test.YtkgknidogelffaaProg
import Derived.Below
import Derived.Deep.Draws
import Derived.Deep.AppendLies
import Derived.Maps.AppendAt
import Derived.OwnWalk
import Derived.Laws.BytesArg
import Derived.Laws.MakeOwn
import Derived.Laws.OwnMore
import Derived.Deep.OwnRows
import Derived.Tactics
import Derived.Lib.ConvBytes
import Derived.Laws.Slices
import Derived.WalkKit
import Derived.KernelRfl
import Derived.RowKit3
import Derived.Deep.LoopGhost
import Derived.Deep.QuietTactic
import Derived.BigQuiet
import Derived.WideLaws
import Derived.Deep.DeepCutAuto
import Derived.Deep.CutBlock
import Derived.Deep.RegionHeld3
import Derived.Laws.Rows
import Derived.Lib.AppendStr
import Derived.ArgAppend
import Derived.Laws.IdiomCopy
import Derived.OrdersHeld
import Derived.Laws.BitsLemmas
import Derived.RowKit
import Derived.Test.YtkgknidogelffaaS0
namespace Go.Proofs.Ytkgknidogelffaa.I
open Go.RowKit Go.Proofs.YtkgknidogelffaaW.PrintWords Go.Proofs.YtkgknidogelffaaW.PrintLast Go.Proofs.YtkgknidogelffaaW.PrintMore
attribute [local go_sem] max2_int min2_int max_two min_two max_three min_three max_four min_four   -- for this text's walks alone
set_option linter.unusedVariables false
set_option linter.unusedSimpArgs false
def errW:Option Int→Value
  | none=>.nilIface
  | some c=>.iface 0 (.int .i64 c)
theorem errW_none:errW none=.nilIface:=rfl
theorem errW_some (c:Int):errW (some c)=.iface 0 (.int .i64 c):=rfl
theorem info3:(Try.prog.info? 3).map (fun i=>(i.zero,i.size,i.bytes))=some (some (.int .i64 0),1,8):=by kernel_rfl
theorem info36:(Try.prog.info? 36).map (fun i=>(i.zero,i.size,i.bytes))=some (some (.agg #[(.int .i64 0),(.int .i64 0),(.slice none 0 0)]),3,40):=by kernel_rfl
theorem info39:(Try.prog.info? 39).map (fun i=>(i.zero,i.size,i.bytes))=some (some (.agg #[(.slice none 0 0)]),1,24):=by kernel_rfl
theorem info84:(Try.prog.info? 84).map (fun i=>(i.zero,i.size,i.bytes))=some (some (.agg #[(.string ⟨#[]⟩),(.int .i64 0)]),2,24):=by kernel_rfl
structure S39 where
  f0:(List S39)
def z39:S39:=⟨([]:List S39)⟩
def F39 (d:Kd S39):Kd S39:=Kd.iso (Kd.slice 39 d) (fun x:S39=>x.f0)
theorem mono39:Kd.Mono F39:=Kd.mono_iso _ (Kd.mono_slice 39 Kd.mono_id)
theorem sub39:Kd.Sub F39 [39]:=Kd.sub_iso _ (Kd.sub_slice 39 (by decide) Kd.sub_id)
theorem sz39:∀ n,(Kd.upto F39 1 [39] n).sz=1:=Kd.upto_sz (fun _=>rfl)
def k39:Kd S39:=Kd.fix F39 1 [39] sz39 (Kd.upto_E sub39)
theorem k39_open {w:World} {x:S39} {cs:List Value} (h:k39.K w x cs):∃ A0 c0,cs=[.slice A0 x.f0.length c0]∧x.f0.length≤c0∧k39.C w A0 x.f0.length x.f0:=by
  obtain ⟨n,h⟩:=h
  cases n with
  | zero=>exact h.elim
  | succ n =>
    obtain ⟨A0,c0,rfl,l0,g0⟩:=h
    exact ⟨A0,c0,rfl,l0,Kd.fix_C g0⟩
theorem k39_mk (w:World) (x:S39) {A0:Option Addr} {c0:Nat} (l0:x.f0.length≤c0) (g0:k39.C w A0 x.f0.length x.f0):k39.K w x [.slice A0 x.f0.length c0]:=by
  obtain ⟨n0,q0⟩:=Kd.fix_C_back mono39 g0
  have r0:=Kd.upto_C_le mono39 sz39 (show n0≤n0 by omega) q0
  exact ⟨n0+1,⟨A0,c0,rfl,l0,r0⟩⟩
theorem k39_mkM (w:World) (base:Nat) (ok:Nat→Prop) (x:S39) {v0:Value} (g0:k39.R 39 w base ok v0 x.f0):k39.M w base ok x [v0]:=by
  obtain ⟨n0,q0⟩:=Kd.fix_R_back mono39 g0
  have r0:=Kd.upto_R_le mono39 sz39 (show n0≤n0 by omega) q0
  exact ⟨n0+1,⟨v0,rfl,r0⟩⟩
theorem k39_openF {W:World} {ok:Nat→Prop} {x:S39} {cs:List Value} (h:Kd.FK k39 W ok x cs):∃ A0 c0,cs=[.slice A0 x.f0.length c0]∧x.f0.length≤c0∧Kd.F k39 W ok A0 x.f0.length x.f0:=by
  obtain ⟨A0,c0,rfl,l0,_⟩:=k39_open (Kd.FK_now h)
  exact ⟨A0,c0,rfl,l0,(fun W' hW=>by obtain ⟨A0_,c0_,he,l0_,g0_⟩:=k39_open (h W' hW); injection (Option.some.inj (show some (Value.slice A0 x.f0.length c0)=some (Value.slice A0_ x.f0.length c0_) from congrArg (fun l=>l[0]?) he)) with ha_ _ _; rw [ha_]; exact g0_)⟩
theorem k39_mkF (W:World) (ok:Nat→Prop) (x:S39) {A0:Option Addr} {c0:Nat} (l0:x.f0.length≤c0) (g0:Kd.F k39 W ok A0 x.f0.length x.f0):Kd.FK k39 W ok x [.slice A0 x.f0.length c0]:=fun W2 hW=>k39_mk W2 x l0 (g0 W2 hW)
def rd_T39 (xs:List S39) (i:Int):S39:=xs.getD i.toNat z39
theorem at_T39 {w:World} {A:Option Addr} {n:Nat} {xs:List S39} (h:Kd.C k39 w A n xs) (i:Int) (h0:0≤i) (h1:i < n):∃ ad A0 c0,A=some ad∧w.cell? (ad.add i.toNat)=some (.slice A0 (rd_T39 xs i).f0.length c0)∧(rd_T39 xs i).f0.length≤c0∧k39.C w A0 (rd_T39 xs i).f0.length (rd_T39 xs i).f0:=by
  obtain ⟨ad,c,e,_,hK,hc0⟩:=Kd.C_get h z39 i h0 h1
  have hc:∀ j u,c[j]?=some u→w.cell? (ad.add (i.toNat*1+j))=some u:=hc0
  obtain ⟨A0,c0,rfl,l0,g0⟩:=k39_open hK
  exact ⟨ad,A0,c0,e,by have hq:=hc 0 _ rfl; rwa [Nat.mul_one,Nat.add_zero] at hq,l0,g0⟩
structure S36 where
  f0:Int
  f1:Int
  f2:(List S36)
def z36:S36:=⟨(0:Int),(0:Int),([]:List S36)⟩
def F36 (d:Kd S36):Kd S36:=Kd.iso (Kd.pair (Kd.int .i64) (Kd.pair (Kd.int .i64) (Kd.slice 36 d))) (fun x:S36=>(x.f0,x.f1,x.f2))
theorem mono36:Kd.Mono F36:=Kd.mono_iso _ (Kd.mono_pair (Kd.mono_const _) (Kd.mono_pair (Kd.mono_const _) (Kd.mono_slice 36 Kd.mono_id)))
theorem sub36:Kd.Sub F36 [36]:=Kd.sub_iso _ (Kd.sub_pair (Kd.sub_const _ (by decide)) (Kd.sub_pair (Kd.sub_const _ (by decide)) (Kd.sub_slice 36 (by decide) Kd.sub_id)))
theorem sz36:∀ n,(Kd.upto F36 3 [36] n).sz=3:=Kd.upto_sz (fun _=>rfl)
def k36:Kd S36:=Kd.fix F36 3 [36] sz36 (Kd.upto_E sub36)
theorem k36_open {w:World} {x:S36} {cs:List Value} (h:k36.K w x cs):∃ A2 c2,cs=[.int .i64 x.f0,.int .i64 x.f1,.slice A2 x.f2.length c2]∧x.f2.length≤c2∧k36.C w A2 x.f2.length x.f2:=by
  obtain ⟨n,h⟩:=h
  cases n with
  | zero=>exact h.elim
  | succ n =>
    obtain ⟨_,_,rfl,rfl,⟨_,_,rfl,rfl,⟨A2,c2,rfl,l2,g2⟩⟩⟩:=h
    exact ⟨A2,c2,rfl,l2,Kd.fix_C g2⟩
theorem k36_mk (w:World) (x:S36) {A2:Option Addr} {c2:Nat} (l2:x.f2.length≤c2) (g2:k36.C w A2 x.f2.length x.f2):k36.K w x [.int .i64 x.f0,.int .i64 x.f1,.slice A2 x.f2.length c2]:=by
  obtain ⟨n2,q2⟩:=Kd.fix_C_back mono36 g2
  have r2:=Kd.upto_C_le mono36 sz36 (show n2≤n2 by omega) q2
  exact ⟨n2+1,⟨[.int .i64 x.f0],[.int .i64 x.f1,.slice A2 x.f2.length c2],rfl,rfl,⟨[.int .i64 x.f1],[.slice A2 x.f2.length c2],rfl,rfl,⟨A2,c2,rfl,l2,r2⟩⟩⟩⟩
theorem k36_mkM (w:World) (base:Nat) (ok:Nat→Prop) (x:S36) {v2:Value} (g2:k36.R 36 w base ok v2 x.f2):k36.M w base ok x [.int .i64 x.f0,.int .i64 x.f1,v2]:=by
  obtain ⟨n2,q2⟩:=Kd.fix_R_back mono36 g2
  have r2:=Kd.upto_R_le mono36 sz36 (show n2≤n2 by omega) q2
  exact ⟨n2+1,⟨[.int .i64 x.f0],[.int .i64 x.f1,v2],rfl,rfl,⟨[.int .i64 x.f1],[v2],rfl,rfl,⟨v2,rfl,r2⟩⟩⟩⟩
theorem k36_openF {W:World} {ok:Nat→Prop} {x:S36} {cs:List Value} (h:Kd.FK k36 W ok x cs):∃ A2 c2,cs=[.int .i64 x.f0,.int .i64 x.f1,.slice A2 x.f2.length c2]∧x.f2.length≤c2∧Kd.F k36 W ok A2 x.f2.length x.f2:=by
  obtain ⟨A2,c2,rfl,l2,_⟩:=k36_open (Kd.FK_now h)
  exact ⟨A2,c2,rfl,l2,(fun W' hW=>by obtain ⟨A2_,c2_,he,l2_,g2_⟩:=k36_open (h W' hW); injection (Option.some.inj (show some (Value.slice A2 x.f2.length c2)=some (Value.slice A2_ x.f2.length c2_) from congrArg (fun l=>l[2]?) he)) with ha_ _ _; rw [ha_]; exact g2_)⟩
def rd_T36 (xs:List S36) (i:Int):S36:=xs.getD i.toNat z36
theorem at_T36 {w:World} {A:Option Addr} {n:Nat} {xs:List S36} (h:Kd.C k36 w A n xs) (i:Int) (h0:0≤i) (h1:i < n):∃ ad A2 c2,A=some ad∧w.cell? (ad.add (i.toNat*3))=some (.int .i64 (rd_T36 xs i).f0)∧w.cell? ⟨(ad.add (i.toNat*3)).block,(ad.add (i.toNat*3)).off+1,none⟩=some (.int .i64 (rd_T36 xs i).f1)∧w.cell? ⟨(ad.add (i.toNat*3)).block,(ad.add (i.toNat*3)).off+2,none⟩=some (.slice A2 (rd_T36 xs i).f2.length c2)∧(rd_T36 xs i).f2.length≤c2∧k36.C w A2 (rd_T36 xs i).f2.length (rd_T36 xs i).f2:=by
  obtain ⟨ad,c,e,_,hK,hc0⟩:=Kd.C_get h z36 i h0 h1
  have hc:∀ j u,c[j]?=some u→w.cell? (ad.add (i.toNat*3+j))=some u:=hc0
  obtain ⟨A2,c2,rfl,l2,g2⟩:=k36_open hK
  exact ⟨ad,A2,c2,e,hc 0 _ rfl,by rw [← add_field _ _ 1 (by omega)]; exact hc 1 _ rfl,by rw [← add_field _ _ 2 (by omega)]; exact hc 2 _ rfl,l2,g2⟩
structure S84 where
  f0:ByteArray
  f1:Int
def z84:S84:=⟨(⟨#[]⟩:ByteArray),(0:Int)⟩
def k84:Kd S84:=Kd.iso (Kd.pair Kd.string (Kd.int .i64)) (fun x:S84=>(x.f0,x.f1))
theorem k84_open {w:World} {x:S84} {cs:List Value} (h:k84.K w x cs):cs=[.string x.f0,.int .i64 x.f1]:=by
  obtain ⟨_,_,rfl,rfl,rfl⟩:=h
  exact rfl
theorem k84_mk (w:World) (x:S84)  : k84.K w x [.string x.f0,.int .i64 x.f1]:=⟨[.string x.f0],[.int .i64 x.f1],rfl,rfl,rfl⟩
theorem k84_mkM (w:World) (base:Nat) (ok:Nat→Prop) (x:S84)  : k84.M w base ok x [.string x.f0,.int .i64 x.f1]:=⟨[.string x.f0],[.int .i64 x.f1],rfl,rfl,rfl⟩
def rd_T84 (xs:List S84) (i:Int):S84:=xs.getD i.toNat z84
theorem at_T84 {w:World} {A:Option Addr} {n:Nat} {xs:List S84} (h:Kd.C k84 w A n xs) (i:Int) (h0:0≤i) (h1:i < n):∃ ad , A=some ad∧w.cell? (ad.add (i.toNat*2))=some (.string (rd_T84 xs i).f0)∧w.cell? ⟨(ad.add (i.toNat*2)).block,(ad.add (i.toNat*2)).off+1,none⟩=some (.int .i64 (rd_T84 xs i).f1):=by
  obtain ⟨ad,c,e,_,hK,hc0⟩:=Kd.C_get h z84 i h0 h1
  have hc:∀ j u,c[j]?=some u→w.cell? (ad.add (i.toNat*2+j))=some u:=hc0
  obtain rfl:=k84_open hK
  exact ⟨ad,e,hc 0 _ rfl,by rw [← add_field _ _ 1 (by omega)]; exact hc 1 _ rfl⟩
structure S41 where
  f0:ByteArray
  f1:S39
  f2:S36
def z41:S41:=⟨(⟨#[]⟩:ByteArray),z39,z36⟩
def k41:Kd S41:=Kd.iso (Kd.pair Kd.string (Kd.pair k39 k36)) (fun x:S41=>(x.f0,x.f1,x.f2))
theorem k41_open {w:World} {x:S41} {cs:List Value} (h:k41.K w x cs):∃ A1 c1 A4 c4,cs=[.string x.f0,.slice A1 x.f1.f0.length c1,.int .i64 x.f2.f0,.int .i64 x.f2.f1,.slice A4 x.f2.f2.length c4]∧x.f1.f0.length≤c1∧k39.C w A1 x.f1.f0.length x.f1.f0∧x.f2.f2.length≤c4∧k36.C w A4 x.f2.f2.length x.f2.f2:=by
  obtain ⟨_,_,rfl,rfl,⟨_,_,rfl,s1,s2⟩⟩:=h
  obtain ⟨A1,c1,rfl,l1,g1⟩:=k39_open s1
  obtain ⟨A4,c4,rfl,l4,g4⟩:=k36_open s2
  exact ⟨A1,c1,A4,c4,rfl,l1,g1,l4,g4⟩
theorem k41_mk (w:World) (x:S41) {A1:Option Addr} {c1:Nat} (l1:x.f1.f0.length≤c1) (g1:k39.C w A1 x.f1.f0.length x.f1.f0) {A4:Option Addr} {c4:Nat} (l4:x.f2.f2.length≤c4) (g4:k36.C w A4 x.f2.f2.length x.f2.f2):k41.K w x [.string x.f0,.slice A1 x.f1.f0.length c1,.int .i64 x.f2.f0,.int .i64 x.f2.f1,.slice A4 x.f2.f2.length c4]:=⟨[.string x.f0],[.slice A1 x.f1.f0.length c1,.int .i64 x.f2.f0,.int .i64 x.f2.f1,.slice A4 x.f2.f2.length c4],rfl,rfl,⟨[.slice A1 x.f1.f0.length c1],[.int .i64 x.f2.f0,.int .i64 x.f2.f1,.slice A4 x.f2.f2.length c4],rfl,(k39_mk w x.f1 l1 g1),(k36_mk w x.f2 l4 g4)⟩⟩
theorem k41_mkM (w:World) (base:Nat) (ok:Nat→Prop) (x:S41) {v1:Value} (g1:k39.R 39 w base ok v1 x.f1.f0) {v4:Value} (g4:k36.R 36 w base ok v4 x.f2.f2):k41.M w base ok x [.string x.f0,v1,.int .i64 x.f2.f0,.int .i64 x.f2.f1,v4]:=⟨[.string x.f0],[v1,.int .i64 x.f2.f0,.int .i64 x.f2.f1,v4],rfl,rfl,⟨[v1],[.int .i64 x.f2.f0,.int .i64 x.f2.f1,v4],rfl,(k39_mkM w base ok x.f1 g1),(k36_mkM w base ok x.f2 g4)⟩⟩
theorem k41_openF {W:World} {ok:Nat→Prop} {x:S41} {cs:List Value} (h:Kd.FK k41 W ok x cs):∃ A1 c1 A4 c4,cs=[.string x.f0,.slice A1 x.f1.f0.length c1,.int .i64 x.f2.f0,.int .i64 x.f2.f1,.slice A4 x.f2.f2.length c4]∧x.f1.f0.length≤c1∧Kd.F k39 W ok A1 x.f1.f0.length x.f1.f0∧x.f2.f2.length≤c4∧Kd.F k36 W ok A4 x.f2.f2.length x.f2.f2:=by
  obtain ⟨A1,c1,A4,c4,rfl,l1,_,l4,_⟩:=k41_open (Kd.FK_now h)
  exact ⟨A1,c1,A4,c4,rfl,l1,(fun W' hW=>by obtain ⟨A1_,c1_,A4_,c4_,he,l1_,g1_,l4_,g4_⟩:=k41_open (h W' hW); injection (Option.some.inj (show some (Value.slice A1 x.f1.f0.length c1)=some (Value.slice A1_ x.f1.f0.length c1_) from congrArg (fun l=>l[1]?) he)) with ha_ _ _; rw [ha_]; exact g1_),l4,(fun W' hW=>by obtain ⟨A1_,c1_,A4_,c4_,he,l1_,g1_,l4_,g4_⟩:=k41_open (h W' hW); injection (Option.some.inj (show some (Value.slice A4 x.f2.f2.length c4)=some (Value.slice A4_ x.f2.f2.length c4_) from congrArg (fun l=>l[4]?) he)) with ha_ _ _; rw [ha_]; exact g4_)⟩
theorem k41_mkF (W:World) (ok:Nat→Prop) (x:S41) {A1:Option Addr} {c1:Nat} (l1:x.f1.f0.length≤c1) (g1:Kd.F k39 W ok A1 x.f1.f0.length x.f1.f0) {A4:Option Addr} {c4:Nat} (l4:x.f2.f2.length≤c4) (g4:Kd.F k36 W ok A4 x.f2.f2.length x.f2.f2):Kd.FK k41 W ok x [.string x.f0,.slice A1 x.f1.f0.length c1,.int .i64 x.f2.f0,.int .i64 x.f2.f1,.slice A4 x.f2.f2.length c4]:=fun W2 hW=>k41_mk W2 x l1 (g1 W2 hW) l4 (g4 W2 hW)
def rd_T41 (xs:List S41) (i:Int):S41:=xs.getD i.toNat z41
theorem at_T41 {w:World} {A:Option Addr} {n:Nat} {xs:List S41} (h:Kd.C k41 w A n xs) (i:Int) (h0:0≤i) (h1:i < n):∃ ad A1 c1 A4 c4,A=some ad∧w.cell? (ad.add (i.toNat*5))=some (.string (rd_T41 xs i).f0)∧w.cell? ⟨(ad.add (i.toNat*5)).block,(ad.add (i.toNat*5)).off+1,none⟩=some (.slice A1 (rd_T41 xs i).f1.f0.length c1)∧w.cell? ⟨(ad.add (i.toNat*5)).block,(ad.add (i.toNat*5)).off+2,none⟩=some (.int .i64 (rd_T41 xs i).f2.f0)∧w.cell? ⟨(ad.add (i.toNat*5)).block,(ad.add (i.toNat*5)).off+3,none⟩=some (.int .i64 (rd_T41 xs i).f2.f1)∧w.cell? ⟨(ad.add (i.toNat*5)).block,(ad.add (i.toNat*5)).off+4,none⟩=some (.slice A4 (rd_T41 xs i).f2.f2.length c4)∧(rd_T41 xs i).f1.f0.length≤c1∧k39.C w A1 (rd_T41 xs i).f1.f0.length (rd_T41 xs i).f1.f0∧(rd_T41 xs i).f2.f2.length≤c4∧k36.C w A4 (rd_T41 xs i).f2.f2.length (rd_T41 xs i).f2.f2:=by
  obtain ⟨ad,c,e,_,hK,hc0⟩:=Kd.C_get h z41 i h0 h1
  have hc:∀ j u,c[j]?=some u→w.cell? (ad.add (i.toNat*5+j))=some u:=hc0
  obtain ⟨A1,c1,A4,c4,rfl,l1,g1,l4,g4⟩:=k41_open hK
  exact ⟨ad,A1,c1,A4,c4,e,hc 0 _ rfl,by rw [← add_field _ _ 1 (by omega)]; exact hc 1 _ rfl,by rw [← add_field _ _ 2 (by omega)]; exact hc 2 _ rfl,by rw [← add_field _ _ 3 (by omega)]; exact hc 3 _ rfl,by rw [← add_field _ _ 4 (by omega)]; exact hc 4 _ rfl,l1,g1,l4,g4⟩
structure S25 where
  f0:(List S84)
  f1:(List S41)
end Go.Proofs.Ytkgknidogelffaa.I
namespace Go.Proofs.Ytkgknidogelffaa.I
open Go.RowKit Go.Proofs.YtkgknidogelffaaW.PrintWords Go.Proofs.YtkgknidogelffaaW.PrintLast Go.Proofs.YtkgknidogelffaaW.PrintMore
attribute [local go_sem] max2_int min2_int max_two min_two max_three min_three max_four min_four   -- for this text's walks alone
set_option linter.unusedVariables false
set_option linter.unusedSimpArgs false
mutual
def virgationref02_Name.j0:Nat→ByteArray→Bool→Option (Bool)
  | 0,_,_=>none
  | k+1,x0,x21=>if x21=true then (some false) else (virgationref02_Name.l0 k x0 0)
def virgationref02_Name.l0:Nat→ByteArray→Int→Option (Bool)
  | 0,_,_=>none
  | k+1,x0,x3=>if x3 < (x0.size:Int) then (if 0≤x3 then (if (bt x0 x3) < 97 then (if (bt x0 x3) < 48 then (if (bt x0 x3)=95 then (virgationref02_Name.l0 k x0 (wrap64 (x3+1))) else (some false)) else (if (bt x0 x3) > 57 then (if (bt x0 x3)=95 then (virgationref02_Name.l0 k x0 (wrap64 (x3+1))) else (some false)) else (virgationref02_Name.l0 k x0 (wrap64 (x3+1))))) else (if (bt x0 x3) > 122 then (if (bt x0 x3) < 48 then (if (bt x0 x3)=95 then (virgationref02_Name.l0 k x0 (wrap64 (x3+1))) else (some false)) else (if (bt x0 x3) > 57 then (if (bt x0 x3)=95 then (virgationref02_Name.l0 k x0 (wrap64 (x3+1))) else (some false)) else (virgationref02_Name.l0 k x0 (wrap64 (x3+1))))) else (virgationref02_Name.l0 k x0 (wrap64 (x3+1))))) else (none)) else (some true)
end
def virgationref02_Name.f (k:Nat) (a0:ByteArray):Option (Bool):=if (a0.size:Int) < 1 then (virgationref02_Name.j0 k a0 true) else (if (a0.size:Int) > 24 then (virgationref02_Name.j0 k a0 true) else (if 0 < (a0.size:Int) then (if (bt a0 0) < 97 then (virgationref02_Name.j0 k a0 true) else (virgationref02_Name.j0 k a0 (decide ((bt a0 0) > 122)))) else (none)))
set_option maxHeartbeats 8000000 in
set_option maxRecDepth 100000 in
theorem virgationref02_Name.calls (k:Nat) (a0:ByteArray) (r:Bool) (w:World) (h:virgationref02_Name.f k a0=some r) :
    Calls Try.prog 22 #[.string a0] w fun e w'=>e=.returned (.bool r)∧Drawn0 w w':=by
  have H:(if (a0.size:Int) < 1 then (virgationref02_Name.j0 k a0 true) else (if (a0.size:Int) > 24 then (virgationref02_Name.j0 k a0 true) else (if 0 < (a0.size:Int) then (if (bt a0 0) < 97 then (virgationref02_Name.j0 k a0 true) else (virgationref02_Name.j0 k a0 (decide ((bt a0 0) > 122)))) else (none))))=some r:=h
  clear h
  have HC2:=Az.mk H
  clear H
  go_enter Try.func22,Try.ntmps22
  go_upto_region 1 with (fail)
  go_cut [21] (fun v21 wc=>∃ (kq:Nat) (x21_1:Bool),v21=.bool x21_1∧Az (virgationref02_Name.j0 kq a0 x21_1=some r)∧Az (kq≤k)∧Drawn0 w wc)
  case first =>
    have H:=HC2.out
    clear HC2
    by_cases c3:(a0.size:Int) < 1
    · rw [if_pos c3] at H
      have c3b0:decide ((a0.size:Int) < 1)=true:=decide_eq_true c3
      have c3b1:decide (a0.size < 1)=true:=decide_eq_true (by omega)
      clear c3
      (first | rw [c3b0] | (simp only [i64_w,i32_w]; rw [c3b0]) | skip)
      have H':=Az.mk H
      clear H
      go_wp2
      go_meet
      case rel=>exact ⟨_,(true),(by first | rfl | (simp; done) | (simp [*]; done)),H',⟨by first | omega | exact Nat.le_refl _⟩,by repeat (first | exact Drawn0.refl _ | apply Drawn0.step)⟩
    · rw [if_neg c3] at H
      have c3b0:decide ((a0.size:Int) < 1)=false:=decide_eq_false c3
      have c3b1:decide (a0.size < 1)=false:=decide_eq_false (by omega)
      clear c3
      (first | rw [c3b0] | (simp only [i64_w,i32_w]; rw [c3b0]) | skip)
      by_cases c4:(a0.size:Int) > 24
      · rw [if_pos c4] at H
        have c4b0:decide (24 < (a0.size:Int))=true:=decide_eq_true c4
        have c4b1:decide (24 < a0.size)=true:=decide_eq_true (by omega)
        clear c4
        have H':=Az.mk H
        clear H
        go_wp2
        go_meet
        case rel=>exact ⟨_,(true),(by first | rfl | (simp; done) | (simp [*]; done)),H',⟨by first | omega | exact Nat.le_refl _⟩,by repeat (first | exact Drawn0.refl _ | apply Drawn0.step)⟩
      · rw [if_neg c4] at H
        have c4b0:decide (24 < (a0.size:Int))=false:=decide_eq_false c4
        have c4b1:decide (24 < a0.size)=false:=decide_eq_false (by omega)
        clear c4
        by_cases c5:0 < (a0.size:Int)
        · rw [if_pos c5] at H
          have c5b0:decide (0 < (a0.size:Int))=true:=decide_eq_true c5
          have c5b1:decide (0 < a0.size)=true:=decide_eq_true (by omega)
          clear c5
          by_cases c7:(bt a0 0) < 97
          · rw [if_pos c7] at H
            have c7b0:decide ((bt a0 0) < 97)=true:=decide_eq_true c7
            clear c7
            have H':=Az.mk H
            clear H
            have p6:0≤(0:Int):=(by omega)
            have q6:0 < a0.size:=(by have:(0:Int) < (a0.size:Int):=of_decide_eq_true (by first | (with_reducible assumption) | assumption); omega)
            have hx6:∀ h:0 < a0.size,((a0[0]'h).toNat:Int)=bt a0 0:=bt_at a0 0
            clear p6
            have qi6:(0 < (a0.size:Int))=True:=eq_true (of_decide_eq_true (by first | (with_reducible assumption) | assumption))
            replace q6:=eq_true q6
            go_wp2
            go_meet
            case rel=>exact ⟨_,(true),(by first | rfl | (simp; done) | (simp [*]; done)),H',⟨by first | omega | exact Nat.le_refl _⟩,by repeat (first | exact Drawn0.refl _ | apply Drawn0.step)⟩
          · rw [if_neg c7] at H
            have c7b0:decide ((bt a0 0) < 97)=false:=decide_eq_false c7
            clear c7
            have H':=Az.mk H
            clear H
            have p6:0≤(0:Int):=(by omega)
            have q6:0 < a0.size:=(by have:(0:Int) < (a0.size:Int):=of_decide_eq_true (by first | (with_reducible assumption) | assumption); omega)
            have hx6:∀ h:0 < a0.size,((a0[0]'h).toNat:Int)=bt a0 0:=bt_at a0 0
            clear p6
            have qi6:(0 < (a0.size:Int))=True:=eq_true (of_decide_eq_true (by first | (with_reducible assumption) | assumption))
            replace q6:=eq_true q6
            have p8:0≤(0:Int):=(by omega)
            have q8:0 < a0.size:=(by have:(0:Int) < (a0.size:Int):=of_decide_eq_true (by first | (with_reducible assumption) | assumption); omega)
            have hx8:∀ h:0 < a0.size,((a0[0]'h).toNat:Int)=bt a0 0:=bt_at a0 0
            clear p8
            have qi8:(0 < (a0.size:Int))=True:=eq_true (of_decide_eq_true (by first | (with_reducible assumption) | assumption))
            replace q8:=eq_true q8
            go_wp2
            go_meet
            case rel=>exact ⟨_,(decide ((bt a0 0) > 122)),(by first | rfl | (simp; done) | (simp [*]; done)),H',⟨by first | omega | exact Nat.le_refl _⟩,by repeat (first | exact Drawn0.refl _ | apply Drawn0.step)⟩
        · rw [if_neg c5] at H
          exact absurd H (by simp)
  case rest =>
    clear HC2
    try clear c2
    try clear p2
    try clear c3
    try clear c3b0
    try clear c3b1
    try clear c4
    try clear c4b0
    try clear c4b1
    try clear c5
    try clear c5b0
    try clear c5b1
    try clear p6
    try clear q6
    try clear hx6
    try clear qi6
    try clear c7
    try clear c7b0
    try clear p8
    try clear q8
    try clear hx8
    try clear qi8
    try clear p6
    try clear p8
    try clear q6
    try clear q8
    obtain ⟨kq,x21_1,rfl,HA,HJ1,⟨mc1,rfl⟩⟩:=hcut
    cases kq with
    | zero=>exact absurd HA.out (by simp [virgationref02_Name.j0])
    | succ kj1 =>
      have H:=HA.out
      clear HA
      simp only [virgationref02_Name.j0] at H
      by_cases c9:x21_1=true
      · subst c9
        have H1:(some false)=some r:=by rw [if_pos rfl] at H; exact H
        clear H
        have H:=H1
        clear H1
        obtain rfl:=Option.some.inj H
        go_wp2
        go_ret
        exact ⟨by first | rfl | (simp; done) | (simp [*]; done),by repeat (first | exact Drawn0.refl _ | apply Drawn0.step)⟩
      · replace c9:=Bool.eq_false_iff.mpr c9
        subst c9
        have H1:(virgationref02_Name.l0 kj1 a0 0)=some r:=by rw [if_neg (show ¬ (false=true) by decide)] at H; exact H
        clear H
        have H:=H1
        clear H1
        have H':=Az.mk H
        clear H
        go_wp2
        go_loopg [3] kj1 (fun kq v3 w'=>∃ (x3_2:Int),v3=.int .i64 x3_2∧Az (virgationref02_Name.l0 kq a0 x3_2=some r)∧Az (kq≤kj1)∧Drawn0 w w')
        case atStart=>exact ⟨(0),(by first | rfl | (simp; done) | (simp [*]; done)),H',⟨Nat.le_refl _⟩,by repeat (first | exact Drawn0.refl _ | apply Drawn0.step)⟩
        case round =>
          clear H'
          try clear c1
          try clear c2
          try clear p2
          try clear c3
          try clear c3b0
          try clear c3b1
          try clear c4
          try clear c4b0
          try clear c4b1
          try clear c5
          try clear c5b0
          try clear c5b1
          try clear p6
          try clear q6
          try clear hx6
          try clear qi6
          try clear c7
          try clear c7b0
          try clear p8
          try clear q8
          try clear hx8
          try clear qi8
          try clear c9
          try clear p2
          try clear p6
          try clear p8
          try clear q6
          try clear q8
          obtain ⟨x3_2,rfl,HA,HK2,⟨m2,rfl⟩⟩:=hrel
          cases gk with
          | zero=>exact absurd HA.out (by simp [virgationref02_Name.l0])
          | succ k2 =>
            have H:=HA.out
            clear HA
            simp only [virgationref02_Name.l0] at H
            by_cases c10:x3_2 < (a0.size:Int)
            · rw [if_pos c10] at H
              have c10b0:decide (x3_2 < (a0.size:Int))=true:=decide_eq_true c10
              clear c10
              by_cases c11:0≤x3_2
              · rw [if_pos c11] at H
                have c11b0:decide (0≤x3_2)=true:=decide_eq_true c11
                clear c11
                by_cases c13:(bt a0 x3_2) < 97
                · rw [if_pos c13] at H
                  have c13b0:decide ((bt a0 x3_2) < 97)=true:=decide_eq_true c13
                  clear c13
                  by_cases c15:(bt a0 x3_2) < 48
                  · rw [if_pos c15] at H
                    have c15b0:decide ((bt a0 x3_2) < 48)=true:=decide_eq_true c15
                    clear c15
                    by_cases c17:(bt a0 x3_2)=95
                    · rw [if_pos c17] at H
                      have c17b0:((bt a0 x3_2) == 95)=true:=beq_iff_eq.mpr c17
                      have c17b1:((bt a0 x3_2) != 95)=false:=bne_eq_false_iff_eq.mpr c17
                      clear c17
                      have H':=Az.mk H
                      clear H
                      have p12:0≤(x3_2:Int):=of_decide_eq_true (by first | (with_reducible assumption) | assumption)
                      have q12:x3_2 < (a0.size:Int):=of_decide_eq_true (by first | (with_reducible assumption) | assumption)
                      have hx12:=bt_at a0 x3_2
                      replace p12:=eq_true p12
                      replace q12:=eq_true q12
                      have p14:0≤(x3_2:Int):=of_decide_eq_true (by first | (with_reducible assumption) | assumption)
                      have q14:x3_2 < (a0.size:Int):=of_decide_eq_true (by first | (with_reducible assumption) | assumption)
                      have hx14:=bt_at a0 x3_2
                      replace p14:=eq_true p14
                      replace q14:=eq_true q14
                      have p16:0≤(x3_2:Int):=of_decide_eq_true (by first | (with_reducible assumption) | assumption)
                      have q16:x3_2 < (a0.size:Int):=of_decide_eq_true (by first | (with_reducible assumption) | assumption)
                      have hx16:=bt_at a0 x3_2
                      replace p16:=eq_true p16
                      replace q16:=eq_true q16
                      go_wp2
                      go_roundg k2
                      case measure=>have:=HJ1.out; have:=HK2.out; omega
                      case rel=>exact ⟨(wrap64 (x3_2+1)),(by first | rfl | (simp; done) | (simp [*]; done)),H',⟨by have:=HJ1.out; have:=HK2.out; omega⟩,by repeat (first | exact Drawn0.refl _ | apply Drawn0.step)⟩
                    · rw [if_neg c17] at H
                      have c17b0:((bt a0 x3_2) == 95)=false:=beq_eq_false_iff_ne.mpr c17
                      have c17b1:((bt a0 x3_2) != 95)=true:=bne_iff_ne.mpr c17
                      obtain rfl:=Option.some.inj H
                      have p12:0≤(x3_2:Int):=of_decide_eq_true (by first | (with_reducible assumption) | assumption)
                      have q12:x3_2 < (a0.size:Int):=of_decide_eq_true (by first | (with_reducible assumption) | assumption)
                      have hx12:=bt_at a0 x3_2
                      replace p12:=eq_true p12
                      replace q12:=eq_true q12
                      have p14:0≤(x3_2:Int):=of_decide_eq_true (by first | (with_reducible assumption) | assumption)
                      have q14:x3_2 < (a0.size:Int):=of_decide_eq_true (by first | (with_reducible assumption) | assumption)
                      have hx14:=bt_at a0 x3_2
                      replace p14:=eq_true p14
                      replace q14:=eq_true q14
                      have p16:0≤(x3_2:Int):=of_decide_eq_true (by first | (with_reducible assumption) | assumption)
                      have q16:x3_2 < (a0.size:Int):=of_decide_eq_true (by first | (with_reducible assumption) | assumption)
                      have hx16:=bt_at a0 x3_2
                      replace p16:=eq_true p16
                      replace q16:=eq_true q16
                      go_wp2
                      go_ret
                      exact ⟨by first | rfl | (simp; done) | (simp [*]; done),by repeat (first | exact Drawn0.refl _ | apply Drawn0.step)⟩
                  · rw [if_neg c15] at H
                    have c15b0:decide ((bt a0 x3_2) < 48)=false:=decide_eq_false c15
                    clear c15
                    by_cases c19:(bt a0 x3_2) > 57
                    · rw [if_pos c19] at H
                      have c19b0:decide (57 < (bt a0 x3_2))=true:=decide_eq_true c19
                      clear c19
                      by_cases c21:(bt a0 x3_2)=95
                      · rw [if_pos c21] at H
                        have c21b0:((bt a0 x3_2) == 95)=true:=beq_iff_eq.mpr c21
                        have c21b1:((bt a0 x3_2) != 95)=false:=bne_eq_false_iff_eq.mpr c21
                        clear c21
                        have H':=Az.mk H
                        clear H
                        have p12:0≤(x3_2:Int):=of_decide_eq_true (by first | (with_reducible assumption) | assumption)
                        have q12:x3_2 < (a0.size:Int):=of_decide_eq_true (by first | (with_reducible assumption) | assumption)
                        have hx12:=bt_at a0 x3_2
                        replace p12:=eq_true p12
                        replace q12:=eq_true q12
                        have p14:0≤(x3_2:Int):=of_decide_eq_true (by first | (with_reducible assumption) | assumption)
                        have q14:x3_2 < (a0.size:Int):=of_decide_eq_true (by first | (with_reducible assumption) | assumption)
                        have hx14:=bt_at a0 x3_2
                        replace p14:=eq_true p14
                        replace q14:=eq_true q14
                        have p18:0≤(x3_2:Int):=of_decide_eq_true (by first | (with_reducible assumption) | assumption)
                        have q18:x3_2 < (a0.size:Int):=of_decide_eq_true (by first | (with_reducible assumption) | assumption)
                        have hx18:=bt_at a0 x3_2
                        replace p18:=eq_true p18
                        replace q18:=eq_true q18
                        have p20:0≤(x3_2:Int):=of_decide_eq_true (by first | (with_reducible assumption) | assumption)
                        have q20:x3_2 < (a0.size:Int):=of_decide_eq_true (by first | (with_reducible assumption) | assumption)
                        have hx20:=bt_at a0 x3_2
                        replace p20:=eq_true p20
                        replace q20:=eq_true q20
                        go_wp2
                        go_roundg k2
                        case measure=>have:=HJ1.out; have:=HK2.out; omega
                        case rel=>exact ⟨(wrap64 (x3_2+1)),(by first | rfl | (simp; done) | (simp [*]; done)),H',⟨by have:=HJ1.out; have:=HK2.out; omega⟩,by repeat (first | exact Drawn0.refl _ | apply Drawn0.step)⟩
                      · rw [if_neg c21] at H
                        have c21b0:((bt a0 x3_2) == 95)=false:=beq_eq_false_iff_ne.mpr c21
                        have c21b1:((bt a0 x3_2) != 95)=true:=bne_iff_ne.mpr c21
                        obtain rfl:=Option.some.inj H
                        have p12:0≤(x3_2:Int):=of_decide_eq_true (by first | (with_reducible assumption) | assumption)
                        have q12:x3_2 < (a0.size:Int):=of_decide_eq_true (by first | (with_reducible assumption) | assumption)
                        have hx12:=bt_at a0 x3_2
                        replace p12:=eq_true p12
                        replace q12:=eq_true q12
                        have p14:0≤(x3_2:Int):=of_decide_eq_true (by first | (with_reducible assumption) | assumption)
                        have q14:x3_2 < (a0.size:Int):=of_decide_eq_true (by first | (with_reducible assumption) | assumption)
                        have hx14:=bt_at a0 x3_2
                        replace p14:=eq_true p14
                        replace q14:=eq_true q14
                        have p18:0≤(x3_2:Int):=of_decide_eq_true (by first | (with_reducible assumption) | assumption)
                        have q18:x3_2 < (a0.size:Int):=of_decide_eq_true (by first | (with_reducible assumption) | assumption)
                        have hx18:=bt_at a0 x3_2
                        replace p18:=eq_true p18
                        replace q18:=eq_true q18
                        have p20:0≤(x3_2:Int):=of_decide_eq_true (by first | (with_reducible assumption) | assumption)
                        have q20:x3_2 < (a0.size:Int):=of_decide_eq_true (by first | (with_reducible assumption) | assumption)
                        have hx20:=bt_at a0 x3_2
                        replace p20:=eq_true p20
                        replace q20:=eq_true q20
                        go_wp2
                        go_ret
                        exact ⟨by first | rfl | (simp; done) | (simp [*]; done),by repeat (first | exact Drawn0.refl _ | apply Drawn0.step)⟩
                    · rw [if_neg c19] at H
                      have c19b0:decide (57 < (bt a0 x3_2))=false:=decide_eq_false c19
                      clear c19
                      have H':=Az.mk H
                      clear H
                      have p12:0≤(x3_2:Int):=of_decide_eq_true (by first | (with_reducible assumption) | assumption)
                      have q12:x3_2 < (a0.size:Int):=of_decide_eq_true (by first | (with_reducible assumption) | assumption)
                      have hx12:=bt_at a0 x3_2
                      replace p12:=eq_true p12
                      replace q12:=eq_true q12
                      have p14:0≤(x3_2:Int):=of_decide_eq_true (by first | (with_reducible assumption) | assumption)
                      have q14:x3_2 < (a0.size:Int):=of_decide_eq_true (by first | (with_reducible assumption) | assumption)
                      have hx14:=bt_at a0 x3_2
                      replace p14:=eq_true p14
                      replace q14:=eq_true q14
                      have p18:0≤(x3_2:Int):=of_decide_eq_true (by first | (with_reducible assumption) | assumption)
                      have q18:x3_2 < (a0.size:Int):=of_decide_eq_true (by first | (with_reducible assumption) | assumption)
                      have hx18:=bt_at a0 x3_2
                      replace p18:=eq_true p18
                      replace q18:=eq_true q18
                      go_wp2
                      go_roundg k2
                      case measure=>have:=HJ1.out; have:=HK2.out; omega
                      case rel=>exact ⟨(wrap64 (x3_2+1)),(by first | rfl | (simp; done) | (simp [*]; done)),H',⟨by have:=HJ1.out; have:=HK2.out; omega⟩,by repeat (first | exact Drawn0.refl _ | apply Drawn0.step)⟩
                · rw [if_neg c13] at H
                  have c13b0:decide ((bt a0 x3_2) < 97)=false:=decide_eq_false c13
                  clear c13
                  by_cases c23:(bt a0 x3_2) > 122
                  · rw [if_pos c23] at H
                    have c23b0:decide (122 < (bt a0 x3_2))=true:=decide_eq_true c23
                    clear c23
                    by_cases c25:(bt a0 x3_2) < 48
                    · rw [if_pos c25] at H
                      have c25b0:decide ((bt a0 x3_2) < 48)=true:=decide_eq_true c25
                      clear c25
                      by_cases c27:(bt a0 x3_2)=95
                      · rw [if_pos c27] at H
                        have c27b0:((bt a0 x3_2) == 95)=true:=beq_iff_eq.mpr c27
                        have c27b1:((bt a0 x3_2) != 95)=false:=bne_eq_false_iff_eq.mpr c27
                        clear c27
                        have H':=Az.mk H
                        clear H
                        have p12:0≤(x3_2:Int):=of_decide_eq_true (by first | (with_reducible assumption) | assumption)
                        have q12:x3_2 < (a0.size:Int):=of_decide_eq_true (by first | (with_reducible assumption) | assumption)
                        have hx12:=bt_at a0 x3_2
                        replace p12:=eq_true p12
                        replace q12:=eq_true q12
                        have p22:0≤(x3_2:Int):=of_decide_eq_true (by first | (with_reducible assumption) | assumption)
                        have q22:x3_2 < (a0.size:Int):=of_decide_eq_true (by first | (with_reducible assumption) | assumption)
                        have hx22:=bt_at a0 x3_2
                        replace p22:=eq_true p22
                        replace q22:=eq_true q22
                        have p24:0≤(x3_2:Int):=of_decide_eq_true (by first | (with_reducible assumption) | assumption)
                        have q24:x3_2 < (a0.size:Int):=of_decide_eq_true (by first | (with_reducible assumption) | assumption)
                        have hx24:=bt_at a0 x3_2
                        replace p24:=eq_true p24
                        replace q24:=eq_true q24
                        have p26:0≤(x3_2:Int):=of_decide_eq_true (by first | (with_reducible assumption) | assumption)
                        have q26:x3_2 < (a0.size:Int):=of_decide_eq_true (by first | (with_reducible assumption) | assumption)
                        have hx26:=bt_at a0 x3_2
                        replace p26:=eq_true p26
                        replace q26:=eq_true q26
                        go_wp2
                        go_roundg k2
                        case measure=>have:=HJ1.out; have:=HK2.out; omega
                        case rel=>exact ⟨(wrap64 (x3_2+1)),(by first | rfl | (simp; done) | (simp [*]; done)),H',⟨by have:=HJ1.out; have:=HK2.out; omega⟩,by repeat (first | exact Drawn0.refl _ | apply Drawn0.step)⟩
                      · rw [if_neg c27] at H
                        have c27b0:((bt a0 x3_2) == 95)=false:=beq_eq_false_iff_ne.mpr c27
                        have c27b1:((bt a0 x3_2) != 95)=true:=bne_iff_ne.mpr c27
                        obtain rfl:=Option.some.inj H
                        have p12:0≤(x3_2:Int):=of_decide_eq_true (by first | (with_reducible assumption) | assumption)
                        have q12:x3_2 < (a0.size:Int):=of_decide_eq_true (by first | (with_reducible assumption) | assumption)
                        have hx12:=bt_at a0 x3_2
                        replace p12:=eq_true p12
                        replace q12:=eq_true q12
                        have p22:0≤(x3_2:Int):=of_decide_eq_true (by first | (with_reducible assumption) | assumption)
                        have q22:x3_2 < (a0.size:Int):=of_decide_eq_true (by first | (with_reducible assumption) | assumption)
                        have hx22:=bt_at a0 x3_2
                        replace p22:=eq_true p22
                        replace q22:=eq_true q22
                        have p24:0≤(x3_2:Int):=of_decide_eq_true (by first | (with_reducible assumption) | assumption)
                        have q24:x3_2 < (a0.size:Int):=of_decide_eq_true (by first | (with_reducible assumption) | assumption)
                        have hx24:=bt_at a0 x3_2
                        replace p24:=eq_true p24
                        replace q24:=eq_true q24
                        have p26:0≤(x3_2:Int):=of_decide_eq_true (by first | (with_reducible assumption) | assumption)
                        have q26:x3_2 < (a0.size:Int):=of_decide_eq_true (by first | (with_reducible assumption) | assumption)
                        have hx26:=bt_at a0 x3_2
                        replace p26:=eq_true p26
                        replace q26:=eq_true q26
                        go_wp2
                        go_ret
                        exact ⟨by first | rfl | (simp; done) | (simp [*]; done),by repeat (first | exact Drawn0.refl _ | apply Drawn0.step)⟩
                    · rw [if_neg c25] at H
                      have c25b0:decide ((bt a0 x3_2) < 48)=false:=decide_eq_false c25
                      clear c25
                      by_cases c29:(bt a0 x3_2) > 57
                      · rw [if_pos c29] at H
                        have c29b0:decide (57 < (bt a0 x3_2))=true:=decide_eq_true c29
                        clear c29
                        by_cases c31:(bt a0 x3_2)=95
                        · rw [if_pos c31] at H
                          have c31b0:((bt a0 x3_2) == 95)=true:=beq_iff_eq.mpr c31
                          have c31b1:((bt a0 x3_2) != 95)=false:=bne_eq_false_iff_eq.mpr c31
                          clear c31
                          have H':=Az.mk H
                          clear H
                          have p12:0≤(x3_2:Int):=of_decide_eq_true (by first | (with_reducible assumption) | assumption)
                          have q12:x3_2 < (a0.size:Int):=of_decide_eq_true (by first | (with_reducible assumption) | assumption)
                          have hx12:=bt_at a0 x3_2
                          replace p12:=eq_true p12
                          replace q12:=eq_true q12
                          have p22:0≤(x3_2:Int):=of_decide_eq_true (by first | (with_reducible assumption) | assumption)
                          have q22:x3_2 < (a0.size:Int):=of_decide_eq_true (by first | (with_reducible assumption) | assumption)
                          have hx22:=bt_at a0 x3_2
                          replace p22:=eq_true p22
                          replace q22:=eq_true q22
                          have p24:0≤(x3_2:Int):=of_decide_eq_true (by first | (with_reducible assumption) | assumption)
                          have q24:x3_2 < (a0.size:Int):=of_decide_eq_true (by first | (with_reducible assumption) | assumption)
                          have hx24:=bt_at a0 x3_2
                          replace p24:=eq_true p24
                          replace q24:=eq_true q24
                          have p28:0≤(x3_2:Int):=of_decide_eq_true (by first | (with_reducible assumption) | assumption)
                          have q28:x3_2 < (a0.size:Int):=of_decide_eq_true (by first | (with_reducible assumption) | assumption)
                          have hx28:=bt_at a0 x3_2
                          replace p28:=eq_true p28
                          replace q28:=eq_true q28
                          have p30:0≤(x3_2:Int):=of_decide_eq_true (by first | (with_reducible assumption) | assumption)
                          have q30:x3_2 < (a0.size:Int):=of_decide_eq_true (by first | (with_reducible assumption) | assumption)
                          have hx30:=bt_at a0 x3_2
                          replace p30:=eq_true p30
                          replace q30:=eq_true q30
                          go_wp2
                          go_roundg k2
                          case measure=>have:=HJ1.out; have:=HK2.out; omega
                          case rel=>exact ⟨(wrap64 (x3_2+1)),(by first | rfl | (simp; done) | (simp [*]; done)),H',⟨by have:=HJ1.out; have:=HK2.out; omega⟩,by repeat (first | exact Drawn0.refl _ | apply Drawn0.step)⟩
                        · rw [if_neg c31] at H
                          have c31b0:((bt a0 x3_2) == 95)=false:=beq_eq_false_iff_ne.mpr c31
                          have c31b1:((bt a0 x3_2) != 95)=true:=bne_iff_ne.mpr c31
                          obtain rfl:=Option.some.inj H
                          have p12:0≤(x3_2:Int):=of_decide_eq_true (by first | (with_reducible assumption) | assumption)
                          have q12:x3_2 < (a0.size:Int):=of_decide_eq_true (by first | (with_reducible assumption) | assumption)
                          have hx12:=bt_at a0 x3_2
                          replace p12:=eq_true p12
                          replace q12:=eq_true q12
                          have p22:0≤(x3_2:Int):=of_decide_eq_true (by first | (with_reducible assumption) | assumption)
                          have q22:x3_2 < (a0.size:Int):=of_decide_eq_true (by first | (with_reducible assumption) | assumption)
                          have hx22:=bt_at a0 x3_2
                          replace p22:=eq_true p22
                          replace q22:=eq_true q22
                          have p24:0≤(x3_2:Int):=of_decide_eq_true (by first | (with_reducible assumption) | assumption)
                          have q24:x3_2 < (a0.size:Int):=of_decide_eq_true (by first | (with_reducible assumption) | assumption)
                          have hx24:=bt_at a0 x3_2
                          replace p24:=eq_true p24
                          replace q24:=eq_true q24
                          have p28:0≤(x3_2:Int):=of_decide_eq_true (by first | (with_reducible assumption) | assumption)
                          have q28:x3_2 < (a0.size:Int):=of_decide_eq_true (by first | (with_reducible assumption) | assumption)
                          have hx28:=bt_at a0 x3_2
                          replace p28:=eq_true p28
                          replace q28:=eq_true q28
                          have p30:0≤(x3_2:Int):=of_decide_eq_true (by first | (with_reducible assumption) | assumption)
                          have q30:x3_2 < (a0.size:Int):=of_decide_eq_true (by first | (with_reducible assumption) | assumption)
                          have hx30:=bt_at a0 x3_2
                          replace p30:=eq_true p30
                          replace q30:=eq_true q30
                          go_wp2
                          go_ret
                          exact ⟨by first | rfl | (simp; done) | (simp [*]; done),by repeat (first | exact Drawn0.refl _ | apply Drawn0.step)⟩
                      · rw [if_neg c29] at H
                        have c29b0:decide (57 < (bt a0 x3_2))=false:=decide_eq_false c29
                        clear c29
                        have H':=Az.mk H
                        clear H
                        have p12:0≤(x3_2:Int):=of_decide_eq_true (by first | (with_reducible assumption) | assumption)
                        have q12:x3_2 < (a0.size:Int):=of_decide_eq_true (by first | (with_reducible assumption) | assumption)
                        have hx12:=bt_at a0 x3_2
                        replace p12:=eq_true p12
                        replace q12:=eq_true q12
                        have p22:0≤(x3_2:Int):=of_decide_eq_true (by first | (with_reducible assumption) | assumption)
                        have q22:x3_2 < (a0.size:Int):=of_decide_eq_true (by first | (with_reducible assumption) | assumption)
                        have hx22:=bt_at a0 x3_2
                        replace p22:=eq_true p22
                        replace q22:=eq_true q22
                        have p24:0≤(x3_2:Int):=of_decide_eq_true (by first | (with_reducible assumption) | assumption)
                        have q24:x3_2 < (a0.size:Int):=of_decide_eq_true (by first | (with_reducible assumption) | assumption)
                        have hx24:=bt_at a0 x3_2
                        replace p24:=eq_true p24
                        replace q24:=eq_true q24
                        have p28:0≤(x3_2:Int):=of_decide_eq_true (by first | (with_reducible assumption) | assumption)
                        have q28:x3_2 < (a0.size:Int):=of_decide_eq_true (by first | (with_reducible assumption) | assumption)
                        have hx28:=bt_at a0 x3_2
                        replace p28:=eq_true p28
                        replace q28:=eq_true q28
                        go_wp2
                        go_roundg k2
                        case measure=>have:=HJ1.out; have:=HK2.out; omega
                        case rel=>exact ⟨(wrap64 (x3_2+1)),(by first | rfl | (simp; done) | (simp [*]; done)),H',⟨by have:=HJ1.out; have:=HK2.out; omega⟩,by repeat (first | exact Drawn0.refl _ | apply Drawn0.step)⟩
                  · rw [if_neg c23] at H
                    have c23b0:decide (122 < (bt a0 x3_2))=false:=decide_eq_false c23
                    clear c23
                    have H':=Az.mk H
                    clear H
                    have p12:0≤(x3_2:Int):=of_decide_eq_true (by first | (with_reducible assumption) | assumption)
                    have q12:x3_2 < (a0.size:Int):=of_decide_eq_true (by first | (with_reducible assumption) | assumption)
                    have hx12:=bt_at a0 x3_2
                    replace p12:=eq_true p12
                    replace q12:=eq_true q12
                    have p22:0≤(x3_2:Int):=of_decide_eq_true (by first | (with_reducible assumption) | assumption)
                    have q22:x3_2 < (a0.size:Int):=of_decide_eq_true (by first | (with_reducible assumption) | assumption)
                    have hx22:=bt_at a0 x3_2
                    replace p22:=eq_true p22
                    replace q22:=eq_true q22
                    go_wp2
                    go_roundg k2
                    case measure=>have:=HJ1.out; have:=HK2.out; omega
                    case rel=>exact ⟨(wrap64 (x3_2+1)),(by first | rfl | (simp; done) | (simp [*]; done)),H',⟨by have:=HJ1.out; have:=HK2.out; omega⟩,by repeat (first | exact Drawn0.refl _ | apply Drawn0.step)⟩
              · rw [if_neg c11] at H
                exact absurd H (by simp)
            · rw [if_neg c10] at H
              have c10b0:decide (x3_2 < (a0.size:Int))=false:=decide_eq_false c10
              clear c10
              obtain rfl:=Option.some.inj H
              go_wp2
              go_ret
              exact ⟨by first | rfl | (simp; done) | (simp [*]; done),by repeat (first | exact Drawn0.refl _ | apply Drawn0.step)⟩
end Go.Proofs.Ytkgknidogelffaa.I
namespace Go.Proofs.Ytkgknidogelffaa.I
open Go.RowKit Go.Proofs.YtkgknidogelffaaW.PrintWords Go.Proofs.YtkgknidogelffaaW.PrintLast Go.Proofs.YtkgknidogelffaaW.PrintMore
attribute [local go_sem] max2_int min2_int max_two min_two max_three min_three max_four min_four   -- for this text's walks alone
set_option linter.unusedVariables false
set_option linter.unusedSimpArgs false
mutual
def virgationref02_Symbols.l0:Nat→List (S84)→List (S84)→Int→Int→Option (Bool)
  | 0,_,_,_,_=>none
  | k+1,x0,x10,x11,x12=>if x12 < x11 then (if 0≤x12 then (if x12 < (x10.length:Int) then ((virgationref02_Name.f k ((rd_T84 x10 x12).f0)).bind fun t128=>(if t128=true then (if ((rd_T84 x10 x12).f1) < 0 then (virgationref02_Symbols.j1 k x0 x12 x10 x11 x12 true ((rd_T84 x10 x12).f0) ((rd_T84 x10 x12).f1)) else (virgationref02_Symbols.j1 k x0 x12 x10 x11 x12 (decide (((rd_T84 x10 x12).f1) > 4)) ((rd_T84 x10 x12).f0) ((rd_T84 x10 x12).f1))) else (virgationref02_Symbols.j1 k x0 x12 x10 x11 x12 true ((rd_T84 x10 x12).f0) ((rd_T84 x10 x12).f1)))) else (none)) else (none)) else (some true)
def virgationref02_Symbols.j1:Nat→List (S84)→Int→List (S84)→Int→Int→Bool→ByteArray→Int→Option (Bool)
  | 0,_,_,_,_,_,_,_,_=>none
  | k+1,x0,x3,x10,x11,x12,x30,x128000,x128001=>if x30=true then (some false) else (if 0≤x3 then (if x3≤(x0.length:Int) then ((some (x0.take (x3:Int).toNat:List (S84))).bind fun y129=>(virgationref02_Symbols.l1 k x0 x10 x11 x12 y129 (y129.length:Int) 0 x128000 x128001)) else (none)) else (none))
def virgationref02_Symbols.l1:Nat→List (S84)→List (S84)→Int→Int→List (S84)→Int→Int→ByteArray→Int→Option (Bool)
  | 0,_,_,_,_,_,_,_,_,_=>none
  | k+1,x0,x10,x11,x12,x33,x34,x35,x128000,x128001=>if x35 < x34 then (if 0≤x35 then (if x35 < (x33.length:Int) then (if x128000.toList=((rd_T84 x33 x35).f0).toList then (some false) else (virgationref02_Symbols.l1 k x0 x10 x11 x12 x33 x34 (wrap64 (x35+1)) x128000 x128001)) else (none)) else (none)) else (virgationref02_Symbols.l0 k x0 x10 x11 (wrap64 (x12+1)))
end
def virgationref02_Symbols.f (k:Nat) (l0:List (S84)):Option (Bool):=if (l0.length:Int) > 24 then (some false) else (virgationref02_Symbols.l0 k l0 l0 (l0.length:Int) 0)
set_option maxHeartbeats 8000000 in
set_option maxRecDepth 100000 in
theorem virgationref02_Symbols.calls (k:Nat) (A0:Option Addr) (c0:Nat) (l0:List (S84)) (r:Bool) (w:World) (hr0:Kd.C k84 w A0 l0.length l0) (hc0:l0.length≤c0) (h:virgationref02_Symbols.f k l0=some r) :
    Calls Try.prog 21 #[.slice A0 l0.length c0] w fun e w'=>e=.returned (.bool r)∧Below w.heap.size w w':=by
  have hu84:=Try.underlying84
  have HR0:=Az.mk hr0
  have HC0:=Az.mk hc0
  clear hr0 hc0
  have HB:=Az.mk (Below.refl w.heap.size w)
  have H:(if (l0.length:Int) > 24 then (some false) else (virgationref02_Symbols.l0 k l0 l0 (l0.length:Int) 0))=some r:=h
  clear h
  by_cases c2:(l0.length:Int) > 24
  · rw [if_pos c2] at H
    have c2b0:decide (24 < (l0.length:Int))=true:=decide_eq_true c2
    have c2b1:decide (24 < l0.length)=true:=decide_eq_true (by omega)
    clear c2
    obtain rfl:=Option.some.inj H
    go_enter Try.func21,Try.ntmps21
    go_wp2
    go_ret
    exact ⟨by first | rfl | (simp [errW_none,errW_some] <;> rfl) | (simp [*,errW_none,errW_some] <;> rfl),by repeat (first | (with_reducible first | exact HB.out | apply bal | apply pwN | apply bd1) | exact HB.out)⟩
  · rw [if_neg c2] at H
    have c2b0:decide (24 < (l0.length:Int))=false:=decide_eq_false c2
    have c2b1:decide (24 < l0.length)=false:=decide_eq_false (by omega)
    clear c2
    have H':=Az.mk H
    clear H
    go_enter Try.func21,Try.ntmps21
    go_wp2
    go_loopg [12] k (fun kq v12 w'=>∃ (x12_1:Int),v12=.int .i64 x12_1∧Az (virgationref02_Symbols.l0 kq l0 l0 (l0.length:Int) x12_1=some r)∧Az (kq≤k)∧Az (Below w.heap.size w w'))
    case atStart=>exact ⟨(0),(by first | rfl | (simp; done) | (simp [*]; done)),H',⟨Nat.le_refl _⟩,⟨by repeat (first | (with_reducible first | exact HB.out | apply bal | apply pwN | apply bd1) | exact HB.out)⟩⟩
    case round =>
      clear H'
      try clear c2
      try clear c2b0
      try clear c2b1
      try clear p2
      obtain ⟨x12_1,rfl,HA,HK1,HB⟩:=hrel
      cases gk with
      | zero=>exact absurd HA.out (by simp [virgationref02_Symbols.l0])
      | succ k1 =>
        have H:=HA.out
        clear HA
        simp only [virgationref02_Symbols.l0] at H
        by_cases c3:x12_1 < (l0.length:Int)
        · rw [if_pos c3] at H
          have c3b0:decide (x12_1 < (l0.length:Int))=true:=decide_eq_true c3
          clear c3
          by_cases c4:0≤x12_1
          · rw [if_pos c4] at H
            have c4b0:decide (0≤x12_1)=true:=decide_eq_true c4
            clear c4
            by_cases c5:x12_1 < (l0.length:Int)
            · rw [if_pos c5] at H
              have c5b0:decide (x12_1 < (l0.length:Int))=true:=decide_eq_true c5
              clear c5
              have HC6:=Az.mk H
              clear H
              have p126:0≤(x12_1:Int):=of_decide_eq_true (by first | (with_reducible assumption) | assumption)
              have q126:x12_1 < (l0.length:Int):=of_decide_eq_true (by first | (with_reducible assumption) | assumption)
              obtain ⟨ad126,e126,hx126_0,hx126_1⟩:=at_T84 HR0.out x12_1 p126 q126
              cases e126
              replace hx126_0:=(HB.out.cell (World.block_lt_of_cell? w _ hx126_0)).trans hx126_0
              replace hx126_1:=(HB.out.cell (World.block_lt_of_cell? w _ hx126_1)).trans hx126_1
              replace p126:=eq_true p126
              replace q126:=eq_true q126
              go_upto_region 6 with (first | ((with_reducible refine gate_dst (N:=4) rfl ?_); refine box_event ?hg (N:=4) ?hd (cs:=#[.string (⟨#[]⟩:ByteArray),.int .i64 0]) (t:=84) ?hr ?_; (case hd=>rfl); (case hg=>rfl); (case hr=>first | (go_simp; done) | (go_simp; rfl)); intro gb127 hg w7 hbox hb; have n0_:=Az.mk (bst (by repeat (first | (with_reducible first | exact HB.out | apply bal | apply pwN | apply bd1) | exact HB.out)) hb); have n1_:=Az.mk (hbox); have n2_:=Az.mk ((by rw [hg]; exact (below_size (by repeat (first | (with_reducible first | exact HB.out | apply bal | apply pwN | apply bd1) | exact HB.out))):w.heap.size≤gb127)); have n3_:=Az.mk ((by rw [hg]; exact (below_size (by repeat (first | (with_reducible first | exact HB.out | apply bal | apply pwN | apply bd1) | exact HB.out))):w.heap.size≤gb127)); clear HB; have HB:=n0_; have BK127:=n1_; have GW127:=n2_; have GE127:=n3_; clear n0_ n1_ n2_ n3_; clear hb hbox hg; have hcz8_0:w7.cell? ⟨gb127,0,none⟩=some (.string (⟨#[]⟩:ByteArray)):=(blk_cell BK127.out 0).trans rfl; have hcz8_1:w7.cell? ⟨gb127,1,none⟩=some (.int .i64 0):=(blk_cell BK127.out 1).trans rfl; have hfz8_0:=bkF BK127.out 0; have hfz8_1:=bkF BK127.out 1))
              (try simp only [Act.put,List.setIfInBounds_toArray,List.set_cons_zero,List.set_cons_succ])
              go_cut [30] (fun v30 wc=>∃ (kq:Nat) (x30_5:Bool),v30=.bool x30_5∧Az (virgationref02_Symbols.j1 kq l0 x12_1 l0 (l0.length:Int) x12_1 x30_5 ((rd_T84 l0 x12_1).f0) ((rd_T84 l0 x12_1).f1)=some r)∧Az (kq≤k1)∧Az (wc.heap[gb127]?=some (.cells #[.string ((rd_T84 l0 x12_1).f0),.int .i64 ((rd_T84 l0 x12_1).f1)] 84 (0,0)))∧Az (Below w.heap.size w wc))
              case first =>
                have H:=HC6.out
                clear HC6
                replace H:=Option.bind_eq_some_iff.mp H
                obtain ⟨t128,A90,H⟩:=H
                replace H:(if t128=true then (if ((rd_T84 l0 x12_1).f1) < 0 then (virgationref02_Symbols.j1 k1 l0 x12_1 l0 (l0.length:Int) x12_1 true ((rd_T84 l0 x12_1).f0) ((rd_T84 l0 x12_1).f1)) else (virgationref02_Symbols.j1 k1 l0 x12_1 l0 (l0.length:Int) x12_1 (decide (((rd_T84 l0 x12_1).f1) > 4)) ((rd_T84 l0 x12_1).f0) ((rd_T84 l0 x12_1).f1))) else (virgationref02_Symbols.j1 k1 l0 x12_1 l0 (l0.length:Int) x12_1 true ((rd_T84 l0 x12_1).f0) ((rd_T84 l0 x12_1).f1)))=some r:=H
                have A9:=Az.mk A90
                clear A90
                by_cases c10:t128=true
                · subst c10
                  have H1:(if ((rd_T84 l0 x12_1).f1) < 0 then (virgationref02_Symbols.j1 k1 l0 x12_1 l0 (l0.length:Int) x12_1 true ((rd_T84 l0 x12_1).f0) ((rd_T84 l0 x12_1).f1)) else (virgationref02_Symbols.j1 k1 l0 x12_1 l0 (l0.length:Int) x12_1 (decide (((rd_T84 l0 x12_1).f1) > 4)) ((rd_T84 l0 x12_1).f0) ((rd_T84 l0 x12_1).f1)))=some r:=by rw [if_pos rfl] at H; exact H
                  clear H
                  have H:=H1
                  clear H1
                  by_cases c11:((rd_T84 l0 x12_1).f1) < 0
                  · rw [if_pos c11] at H
                    have c11b0:decide (((rd_T84 l0 x12_1).f1) < 0)=true:=decide_eq_true c11
                    clear c11
                    (first | rw [c11b0] | (simp only [i64_w,i32_w]; rw [c11b0]) | skip)
                    have H':=Az.mk H
                    clear H
                    have hcz12_0:w7.cell? ⟨gb127,0,none⟩=some (.string (⟨#[]⟩:ByteArray)):=(blk_cell BK127.out 0).trans rfl
                    have hcz12_1:w7.cell? ⟨gb127,1,none⟩=some (.int .i64 0):=(blk_cell BK127.out 1).trans rfl
                    have hfz12_0:=bkF BK127.out 0
                    have hfz12_1:=bkF BK127.out 1
                    go_wp2_with (first | ((with_reducible refine gate_callee (f:=22) rfl ?_); refine goesL_ (some 19) rfl rfl Try.func22 (by kernel_rfl) rfl #[.string ((rd_T84 l0 x12_1).f0)] rfl (by (try simp only [List.map_toArray,List.map_cons,List.map_nil]); first | done | rfl | (simp only [List.length_drop,List.length_take]; rfl)) ?_; (with_reducible refine (virgationref02_Name.calls k1 ((rd_T84 l0 x12_1).f0) true _ A9.out).mono ?_); rintro e w' ⟨rfl,⟨nd,rfl⟩⟩; refine ⟨_,rfl,?_⟩))
                    go_meet
                    case rel=>exact ⟨_,(true),(by first | rfl | (simp; done) | (simp [*]; done)),H',⟨by have:=HK1.out; first | omega | exact Nat.le_refl _⟩,⟨by (with_reducible repeat (first | refine bdN ?_ _ | refine blk_drew ?_ | refine bkA ?_ _)); refine blk_put (cs:=#[.string ((rd_T84 l0 x12_1).f0),.int .i64 0]) ?_ 1 _ rfl; (with_reducible repeat (first | refine bdN ?_ _ | refine blk_drew ?_ | refine bkA ?_ _)); refine blk_put (cs:=#[.string (⟨#[]⟩:ByteArray),.int .i64 0]) ?_ 0 _ rfl; (with_reducible repeat (first | refine bdN ?_ _ | refine blk_drew ?_ | refine bkA ?_ _)); exact BK127.out⟩,⟨by repeat (first | (with_reducible first | exact HB.out | apply bal | apply pwN | apply bd1 | refine bset ?_ GE127.out) | exact HB.out)⟩⟩
                  · rw [if_neg c11] at H
                    have c11b0:decide (((rd_T84 l0 x12_1).f1) < 0)=false:=decide_eq_false c11
                    clear c11
                    (first | rw [c11b0] | (simp only [i64_w,i32_w]; rw [c11b0]) | skip)
                    have H':=Az.mk H
                    clear H
                    have hcz13_0:w7.cell? ⟨gb127,0,none⟩=some (.string (⟨#[]⟩:ByteArray)):=(blk_cell BK127.out 0).trans rfl
                    have hcz13_1:w7.cell? ⟨gb127,1,none⟩=some (.int .i64 0):=(blk_cell BK127.out 1).trans rfl
                    have hfz13_0:=bkF BK127.out 0
                    have hfz13_1:=bkF BK127.out 1
                    go_wp2_with (first | ((with_reducible refine gate_callee (f:=22) rfl ?_); refine goesL_ (some 19) rfl rfl Try.func22 (by kernel_rfl) rfl #[.string ((rd_T84 l0 x12_1).f0)] rfl (by (try simp only [List.map_toArray,List.map_cons,List.map_nil]); first | done | rfl | (simp only [List.length_drop,List.length_take]; rfl)) ?_; (with_reducible refine (virgationref02_Name.calls k1 ((rd_T84 l0 x12_1).f0) true _ A9.out).mono ?_); rintro e w' ⟨rfl,⟨nd,rfl⟩⟩; refine ⟨_,rfl,?_⟩))
                    go_meet
                    case rel=>exact ⟨_,(decide (((rd_T84 l0 x12_1).f1) > 4)),(by first | rfl | (simp; done) | (simp [*]; done)),H',⟨by have:=HK1.out; first | omega | exact Nat.le_refl _⟩,⟨by (with_reducible repeat (first | refine bdN ?_ _ | refine blk_drew ?_ | refine bkA ?_ _)); refine blk_put (cs:=#[.string ((rd_T84 l0 x12_1).f0),.int .i64 0]) ?_ 1 _ rfl; (with_reducible repeat (first | refine bdN ?_ _ | refine blk_drew ?_ | refine bkA ?_ _)); refine blk_put (cs:=#[.string (⟨#[]⟩:ByteArray),.int .i64 0]) ?_ 0 _ rfl; (with_reducible repeat (first | refine bdN ?_ _ | refine blk_drew ?_ | refine bkA ?_ _)); exact BK127.out⟩,⟨by repeat (first | (with_reducible first | exact HB.out | apply bal | apply pwN | apply bd1 | refine bset ?_ GE127.out) | exact HB.out)⟩⟩
                · replace c10:=Bool.eq_false_iff.mpr c10
                  subst c10
                  have H1:(virgationref02_Symbols.j1 k1 l0 x12_1 l0 (l0.length:Int) x12_1 true ((rd_T84 l0 x12_1).f0) ((rd_T84 l0 x12_1).f1))=some r:=by rw [if_neg (show ¬ (false=true) by decide)] at H; exact H
                  clear H
                  have H:=H1
                  clear H1
                  have H':=Az.mk H
                  clear H
                  have hcz14_0:w7.cell? ⟨gb127,0,none⟩=some (.string (⟨#[]⟩:ByteArray)):=(blk_cell BK127.out 0).trans rfl
                  have hcz14_1:w7.cell? ⟨gb127,1,none⟩=some (.int .i64 0):=(blk_cell BK127.out 1).trans rfl
                  have hfz14_0:=bkF BK127.out 0
                  have hfz14_1:=bkF BK127.out 1
                  go_wp2_with (first | ((with_reducible refine gate_callee (f:=22) rfl ?_); refine goesL_ (some 19) rfl rfl Try.func22 (by kernel_rfl) rfl #[.string ((rd_T84 l0 x12_1).f0)] rfl (by (try simp only [List.map_toArray,List.map_cons,List.map_nil]); first | done | rfl | (simp only [List.length_drop,List.length_take]; rfl)) ?_; (with_reducible refine (virgationref02_Name.calls k1 ((rd_T84 l0 x12_1).f0) false _ A9.out).mono ?_); rintro e w' ⟨rfl,⟨nd,rfl⟩⟩; refine ⟨_,rfl,?_⟩))
                  go_meet
                  case rel=>exact ⟨_,(true),(by first | rfl | (simp; done) | (simp [*]; done)),H',⟨by have:=HK1.out; first | omega | exact Nat.le_refl _⟩,⟨by (with_reducible repeat (first | refine bdN ?_ _ | refine blk_drew ?_ | refine bkA ?_ _)); refine blk_put (cs:=#[.string ((rd_T84 l0 x12_1).f0),.int .i64 0]) ?_ 1 _ rfl; (with_reducible repeat (first | refine bdN ?_ _ | refine blk_drew ?_ | refine bkA ?_ _)); refine blk_put (cs:=#[.string (⟨#[]⟩:ByteArray),.int .i64 0]) ?_ 0 _ rfl; (with_reducible repeat (first | refine bdN ?_ _ | refine blk_drew ?_ | refine bkA ?_ _)); exact BK127.out⟩,⟨by repeat (first | (with_reducible first | exact HB.out | apply bal | apply pwN | apply bd1 | refine bset ?_ GE127.out) | exact HB.out)⟩⟩
              case rest =>
                clear HC6
                try clear c1
                try clear p1
                try clear q1
                try clear hx1
                try clear c2
                try clear c2b0
                try clear c2b1
                try clear p2
                try clear c3
                try clear c3b0
                try clear c4
                try clear c4b0
                try clear c5
                try clear c5b0
                try clear c10
                try clear c11
                try clear c11b0
                try clear p12
                try clear q12
                try clear hx12
                try clear hcz12_0
                try clear hcz12_1
                try clear hcz13_0
                try clear hcz13_1
                try clear hcz14_0
                try clear hcz14_1
                try clear hcz8_0
                try clear hcz8_1
                try clear hfz12_0
                try clear hfz12_1
                try clear hfz13_0
                try clear hfz13_1
                try clear hfz14_0
                try clear hfz14_1
                try clear hfz8_0
                try clear hfz8_1
                try clear hx126_0
                try clear hx126_1
                try clear p126
                try clear p2
                try clear q126
                obtain ⟨kq,x30_5,rfl,HA,HJ5,BK127,HB⟩:=hcut
                cases kq with
                | zero=>exact absurd HA.out (by simp [virgationref02_Symbols.j1])
                | succ kj5 =>
                  have H:=HA.out
                  clear HA
                  simp only [virgationref02_Symbols.j1] at H
                  by_cases c15:x30_5=true
                  · subst c15
                    have H1:(some false)=some r:=by rw [if_pos rfl] at H; exact H
                    clear H
                    have H:=H1
                    clear H1
                    obtain rfl:=Option.some.inj H
                    go_wp2
                    go_ret
                    exact ⟨by first | rfl | (simp [errW_none,errW_some] <;> rfl) | (simp [*,errW_none,errW_some] <;> rfl),by repeat (first | (with_reducible first | exact HB.out | apply bal | apply pwN | apply bd1 | refine bset ?_ GE127.out) | exact HB.out)⟩
                  · replace c15:=Bool.eq_false_iff.mpr c15
                    subst c15
                    have H1:(if 0≤x12_1 then (if x12_1≤(l0.length:Int) then ((some (l0.take (x12_1:Int).toNat:List (S84))).bind fun y129=>(virgationref02_Symbols.l1 kj5 l0 l0 (l0.length:Int) x12_1 y129 (y129.length:Int) 0 ((rd_T84 l0 x12_1).f0) ((rd_T84 l0 x12_1).f1))) else (none)) else (none))=some r:=by rw [if_neg (show ¬ (false=true) by decide)] at H; exact H
                    clear H
                    have H:=H1
                    clear H1
                    by_cases c16:0≤x12_1
                    · rw [if_pos c16] at H
                      have c16b0:=eq_true c16
                      have c16b1:decide (0≤x12_1)=true:=decide_eq_true c16
                      clear c16
                      by_cases c17:x12_1≤(l0.length:Int)
                      · rw [if_pos c17] at H
                        have c17b0:=eq_true c17
                        have c17b1:decide (x12_1≤(l0.length:Int))=true:=decide_eq_true c17
                        clear c17
                        obtain ⟨y129,hy129⟩:∃ y_:List (S84),y_=(l0.take (x12_1:Int).toNat):=⟨_,rfl⟩
                        replace H:(virgationref02_Symbols.l1 kj5 l0 l0 (l0.length:Int) x12_1 y129 (y129.length:Int) 0 ((rd_T84 l0 x12_1).f0) ((rd_T84 l0 x12_1).f1))=some r:=by first | (rw [hy129]; with_reducible exact H) | (have H2_:=(Option.bind_some _ _).symm.trans H; rw [hy129]; with_reducible exact H2_) | (have H2_:=(Option.bind_some _ _).symm.trans H; with_reducible exact H2_) | with_reducible exact H | (rw [hy129]; exact H) | exact H
                        have Ny129:=Az.mk hy129
                        clear hy129
                        have H':=Az.mk H
                        clear H
                        have q18:(x12_1:Int)≤((l0.length:Int):Int):=of_decide_eq_true (by first | (with_reducible assumption) | assumption)
                        obtain ⟨i018,hi018,_,hsz18,_⟩:=info_parts info84
                        have hroom18:l0.length≤c0:=HC0.out
                        have hC18:Kd.C k84 _ (some ad126) l0.length l0:=HR0.out
                        have hcut18:=cut_to (P:=Try.prog) 22 84 .i64 Try.underlying22 hi018 (some ad126) l0.length c0 x12_1 (of_decide_eq_true (by first | (with_reducible assumption) | assumption)) q18 hroom18
                        have hr18:=Kd.C_take (m:=(x12_1:Int).toNat) hC18 (by omega)
                        have hy18:y129.length=(x12_1:Int).toNat:=(by rw [Ny129.out,List.length_take]; omega)
                        rw [← Ny129.out] at hr18
                        rw [← hy18] at hcut18
                        have HR132:=Az.mk hr18
                        have HC132:=Az.mk (show y129.length≤c0 from by omega)
                        clear hr18 hC18 hroom18 hi018 hsz18
                        have KY18:=Az.mk hy18
                        clear hy18
                        replace q18:=eq_true q18
                        go_wp2
                        go_loopg [35] kj5 (fun kq v35 w'=>∃ (x35_3:Int),v35=.int .i64 x35_3∧Az (virgationref02_Symbols.l1 kq l0 l0 (l0.length:Int) x12_1 y129 (y129.length:Int) x35_3 ((rd_T84 l0 x12_1).f0) ((rd_T84 l0 x12_1).f1)=some r)∧Az (kq≤kj5)∧Az (w'.heap[gb127]?=some (.cells #[.string ((rd_T84 l0 x12_1).f0),.int .i64 ((rd_T84 l0 x12_1).f1)] 84 (0,0)))∧Az (Below w.heap.size w w'))
                        case atStart=>exact ⟨(0),(by first | rfl | (simp; done) | (simp [*]; done)),H',⟨Nat.le_refl _⟩,⟨by (with_reducible repeat (first | refine bdN ?_ _ | refine blk_drew ?_ | refine bkA ?_ _)); exact BK127.out⟩,⟨by repeat (first | (with_reducible first | exact HB.out | apply bal | apply pwN | apply bd1 | refine bset ?_ GE127.out) | exact HB.out)⟩⟩
                        case round =>
                          clear H'
                          try clear c1
                          try clear p1
                          try clear q1
                          try clear hx1
                          try clear c2
                          try clear c2b0
                          try clear c2b1
                          try clear p2
                          try clear c3
                          try clear c3b0
                          try clear c4
                          try clear c4b0
                          try clear c5
                          try clear c5b0
                          try clear c10
                          try clear c11
                          try clear c11b0
                          try clear p12
                          try clear q12
                          try clear hx12
                          try clear c15
                          try clear c16
                          try clear c16b0
                          try clear c16b1
                          try clear c17
                          try clear c17b0
                          try clear c17b1
                          try clear q18
                          try clear hcz12_0
                          try clear hcz12_1
                          try clear hcz13_0
                          try clear hcz13_1
                          try clear hcz14_0
                          try clear hcz14_1
                          try clear hcz8_0
                          try clear hcz8_1
                          try clear hfz12_0
                          try clear hfz12_1
                          try clear hfz13_0
                          try clear hfz13_1
                          try clear hfz14_0
                          try clear hfz14_1
                          try clear hfz8_0
                          try clear hfz8_1
                          try clear hx126_0
                          try clear hx126_1
                          try clear p1
                          try clear p12
                          try clear p126
                          try clear p2
                          try clear q1
                          try clear q12
                          try clear q126
                          try clear q18
                          obtain ⟨x35_3,rfl,HA,HK3,BK127,HB⟩:=hrel
                          cases gk with
                          | zero=>exact absurd HA.out (by simp [virgationref02_Symbols.l1])
                          | succ k3 =>
                            have H:=HA.out
                            clear HA
                            simp only [virgationref02_Symbols.l1] at H
                            by_cases c19:x35_3 < (y129.length:Int)
                            · rw [if_pos c19] at H
                              have c19b0:decide (x35_3 < (y129.length:Int))=true:=decide_eq_true c19
                              clear c19
                              by_cases c20:0≤x35_3
                              · rw [if_pos c20] at H
                                have c20b0:decide (0≤x35_3)=true:=decide_eq_true c20
                                clear c20
                                by_cases c21:x35_3 < (y129.length:Int)
                                · rw [if_pos c21] at H
                                  have c21b0:decide (x35_3 < (y129.length:Int))=true:=decide_eq_true c21
                                  clear c21
                                  by_cases c22:((rd_T84 l0 x12_1).f0).toList=((rd_T84 y129 x35_3).f0).toList
                                  · rw [if_pos c22] at H
                                    have c22b0:(((rd_T84 l0 x12_1).f0).toList == ((rd_T84 y129 x35_3).f0).toList)=true:=beq_iff_eq.mpr c22
                                    have c22b1:(((rd_T84 l0 x12_1).f0).toList != ((rd_T84 y129 x35_3).f0).toList)=false:=bne_eq_false_iff_eq.mpr c22
                                    clear c22
                                    obtain rfl:=Option.some.inj H
                                    have p133:0≤(x35_3:Int):=of_decide_eq_true (by first | (with_reducible assumption) | assumption)
                                    have q133:x35_3 < (y129.length:Int):=of_decide_eq_true (by first | (with_reducible assumption) | assumption)
                                    obtain ⟨ad133,e133,hx133_0,hx133_1⟩:=at_T84 HR132.out x35_3 p133 q133
                                    obtain rfl:ad126=ad133:=(by injection e133)
                                    replace hx133_0:=(HB.out.cell (World.block_lt_of_cell? w _ hx133_0)).trans hx133_0
                                    replace hx133_1:=(HB.out.cell (World.block_lt_of_cell? w _ hx133_1)).trans hx133_1
                                    replace p133:=eq_true p133
                                    replace q133:=eq_true q133
                                    go_wp2_with (first | ((with_reducible refine gate_dst (N:=6) rfl ?_); refine box_event ?hg (N:=6) ?hd (cs:=#[.string (⟨#[]⟩:ByteArray),.int .i64 0]) (t:=84) ?hr ?_; (case hd=>rfl); (case hg=>rfl); (case hr=>first | (go_simp; done) | (go_simp; rfl)); intro gb134 hg w23 hbox hb; have n0_:=Az.mk (bkB (g:=gb127) (o:=.cells #[.string ((rd_T84 l0 x12_1).f0),.int .i64 ((rd_T84 l0 x12_1).f1)] 84 (0,0)) (by (with_reducible repeat (first | refine bdN ?_ _ | refine blk_drew ?_ | refine bkA ?_ _)); exact BK127.out) hb); have n1_:=Az.mk (bst (by repeat (first | (with_reducible first | exact HB.out | apply bal | apply pwN | apply bd1 | refine bset ?_ GE127.out) | exact HB.out)) hb); have n2_:=Az.mk (hbox); have n3_:=Az.mk ((by rw [hg]; exact (below_size (by repeat (first | (with_reducible first | exact HB.out | apply bal | apply pwN | apply bd1 | refine bset ?_ GE127.out) | exact HB.out))):w.heap.size≤gb134)); have n4_:=Az.mk ((by rw [hg]; exact (below_size (by repeat (first | (with_reducible first | exact HB.out | apply bal | apply pwN | apply bd1 | refine bset ?_ GE127.out) | exact HB.out))):w.heap.size≤gb134)); have n5_:=Az.mk ((by rw [hg]; exact Nat.ne_of_lt (blk_lt (g:=gb127) (o:=.cells #[.string ((rd_T84 l0 x12_1).f0),.int .i64 ((rd_T84 l0 x12_1).f1)] 84 (0,0)) (by (with_reducible repeat (first | refine bdN ?_ _ | refine blk_drew ?_ | refine bkA ?_ _)); exact BK127.out)):gb127≠gb134)); have n6_:=Az.mk ((by rw [hg]; exact Nat.ne_of_gt (blk_lt (g:=gb127) (o:=.cells #[.string ((rd_T84 l0 x12_1).f0),.int .i64 ((rd_T84 l0 x12_1).f1)] 84 (0,0)) (by (with_reducible repeat (first | refine bdN ?_ _ | refine blk_drew ?_ | refine bkA ?_ _)); exact BK127.out)):gb134≠gb127)); clear BK127; clear HB; have BK127:=n0_; have HB:=n1_; have BK134:=n2_; have GW134:=n3_; have GE134:=n4_; have NB127_134:=n5_; have NB134_127:=n6_; clear n0_ n1_ n2_ n3_ n4_ n5_ n6_; clear hb hbox hg; have hnb24:=NB134_127.out; have hnc24:=NB127_134.out; have hcz25_0:w23.cell? ⟨gb134,0,none⟩=some (.string (⟨#[]⟩:ByteArray)):=(blk_cell BK134.out 0).trans rfl; have hcz25_1:w23.cell? ⟨gb134,1,none⟩=some (.int .i64 0):=(blk_cell BK134.out 1).trans rfl; have hfz25_0:=bkF BK134.out 0; have hfz25_1:=bkF BK134.out 1; have hcz26_0:w23.cell? ⟨gb127,0,none⟩=some (.string ((rd_T84 l0 x12_1).f0)):=(blk_cell BK127.out 0).trans rfl; have hcz26_1:w23.cell? ⟨gb127,1,none⟩=some (.int .i64 ((rd_T84 l0 x12_1).f1)):=(blk_cell BK127.out 1).trans rfl; have hfz26_0:=bkF BK127.out 0; have hfz26_1:=bkF BK127.out 1))
                                    go_ret
                                    exact ⟨by first | rfl | (simp [errW_none,errW_some] <;> rfl) | (simp [*,errW_none,errW_some] <;> rfl),by repeat (first | (with_reducible first | exact HB.out | apply bal | apply pwN | apply bd1 | refine bset ?_ GE127.out | refine bset ?_ GE134.out) | exact HB.out)⟩
                                  · rw [if_neg c22] at H
                                    have c22b0:(((rd_T84 l0 x12_1).f0).toList == ((rd_T84 y129 x35_3).f0).toList)=false:=beq_eq_false_iff_ne.mpr c22
                                    have c22b1:(((rd_T84 l0 x12_1).f0).toList != ((rd_T84 y129 x35_3).f0).toList)=true:=bne_iff_ne.mpr c22
                                    have H':=Az.mk H
                                    clear H
                                    have p133:0≤(x35_3:Int):=of_decide_eq_true (by first | (with_reducible assumption) | assumption)
                                    have q133:x35_3 < (y129.length:Int):=of_decide_eq_true (by first | (with_reducible assumption) | assumption)
                                    obtain ⟨ad133,e133,hx133_0,hx133_1⟩:=at_T84 HR132.out x35_3 p133 q133
                                    obtain rfl:ad126=ad133:=(by injection e133)
                                    replace hx133_0:=(HB.out.cell (World.block_lt_of_cell? w _ hx133_0)).trans hx133_0
                                    replace hx133_1:=(HB.out.cell (World.block_lt_of_cell? w _ hx133_1)).trans hx133_1
                                    replace p133:=eq_true p133
                                    replace q133:=eq_true q133
                                    go_wp2_with (first | ((with_reducible refine gate_dst (N:=6) rfl ?_); refine box_event ?hg (N:=6) ?hd (cs:=#[.string (⟨#[]⟩:ByteArray),.int .i64 0]) (t:=84) ?hr ?_; (case hd=>rfl); (case hg=>rfl); (case hr=>first | (go_simp; done) | (go_simp; rfl)); intro gb134 hg w27 hbox hb; have n0_:=Az.mk (bkB (g:=gb127) (o:=.cells #[.string ((rd_T84 l0 x12_1).f0),.int .i64 ((rd_T84 l0 x12_1).f1)] 84 (0,0)) (by (with_reducible repeat (first | refine bdN ?_ _ | refine blk_drew ?_ | refine bkA ?_ _)); exact BK127.out) hb); have n1_:=Az.mk (bst (by repeat (first | (with_reducible first | exact HB.out | apply bal | apply pwN | apply bd1 | refine bset ?_ GE127.out) | exact HB.out)) hb); have n2_:=Az.mk (hbox); have n3_:=Az.mk ((by rw [hg]; exact (below_size (by repeat (first | (with_reducible first | exact HB.out | apply bal | apply pwN | apply bd1 | refine bset ?_ GE127.out) | exact HB.out))):w.heap.size≤gb134)); have n4_:=Az.mk ((by rw [hg]; exact (below_size (by repeat (first | (with_reducible first | exact HB.out | apply bal | apply pwN | apply bd1 | refine bset ?_ GE127.out) | exact HB.out))):w.heap.size≤gb134)); have n5_:=Az.mk ((by rw [hg]; exact Nat.ne_of_lt (blk_lt (g:=gb127) (o:=.cells #[.string ((rd_T84 l0 x12_1).f0),.int .i64 ((rd_T84 l0 x12_1).f1)] 84 (0,0)) (by (with_reducible repeat (first | refine bdN ?_ _ | refine blk_drew ?_ | refine bkA ?_ _)); exact BK127.out)):gb127≠gb134)); have n6_:=Az.mk ((by rw [hg]; exact Nat.ne_of_gt (blk_lt (g:=gb127) (o:=.cells #[.string ((rd_T84 l0 x12_1).f0),.int .i64 ((rd_T84 l0 x12_1).f1)] 84 (0,0)) (by (with_reducible repeat (first | refine bdN ?_ _ | refine blk_drew ?_ | refine bkA ?_ _)); exact BK127.out)):gb134≠gb127)); clear BK127; clear HB; have BK127:=n0_; have HB:=n1_; have BK134:=n2_; have GW134:=n3_; have GE134:=n4_; have NB127_134:=n5_; have NB134_127:=n6_; clear n0_ n1_ n2_ n3_ n4_ n5_ n6_; clear hb hbox hg; have hnb28:=NB134_127.out; have hnc28:=NB127_134.out; have hcz29_0:w27.cell? ⟨gb134,0,none⟩=some (.string (⟨#[]⟩:ByteArray)):=(blk_cell BK134.out 0).trans rfl; have hcz29_1:w27.cell? ⟨gb134,1,none⟩=some (.int .i64 0):=(blk_cell BK134.out 1).trans rfl; have hfz29_0:=bkF BK134.out 0; have hfz29_1:=bkF BK134.out 1; have hcz30_0:w27.cell? ⟨gb127,0,none⟩=some (.string ((rd_T84 l0 x12_1).f0)):=(blk_cell BK127.out 0).trans rfl; have hcz30_1:w27.cell? ⟨gb127,1,none⟩=some (.int .i64 ((rd_T84 l0 x12_1).f1)):=(blk_cell BK127.out 1).trans rfl; have hfz30_0:=bkF BK127.out 0; have hfz30_1:=bkF BK127.out 1))
                                    go_roundg k3
                                    case measure=>have:=HK1.out; have:=HJ5.out; have:=HK3.out; omega
                                    case rel=>exact ⟨(wrap64 (x35_3+1)),(by first | rfl | (simp; done) | (simp [*]; done)),H',⟨by have:=HK1.out; have:=HJ5.out; have:=HK3.out; omega⟩,⟨by (with_reducible repeat (first | refine bdN ?_ _ | refine blk_drew ?_ | refine bkA ?_ _)); refine blk_far ?_ NB127_134.out _; (with_reducible repeat (first | refine bdN ?_ _ | refine blk_drew ?_ | refine bkA ?_ _)); refine blk_far ?_ NB127_134.out _; (with_reducible repeat (first | refine bdN ?_ _ | refine blk_drew ?_ | refine bkA ?_ _)); exact BK127.out⟩,⟨by repeat (first | (with_reducible first | exact HB.out | apply bal | apply pwN | apply bd1 | refine bset ?_ GE127.out | refine bset ?_ GE134.out) | exact HB.out)⟩⟩
                                · rw [if_neg c21] at H
                                  exact absurd H (by simp)
                              · rw [if_neg c20] at H
                                exact absurd H (by simp)
                            · rw [if_neg c19] at H
                              have c19b0:decide (x35_3 < (y129.length:Int))=false:=decide_eq_false c19
                              clear c19
                              have H':=Az.mk H
                              clear H
                              go_wp2
                              go_roundg k3
                              case measure=>have:=HK1.out; have:=HJ5.out; have:=HK3.out; omega
                              case rel=>exact ⟨(wrap64 (x12_1+1)),(by first | rfl | (simp; done) | (simp [*]; done)),H',⟨by have:=HK1.out; have:=HJ5.out; have:=HK3.out; omega⟩,⟨by repeat (first | (with_reducible first | exact HB.out | apply bal | apply pwN | apply bd1 | refine bset ?_ GE127.out) | exact HB.out)⟩⟩
                      · rw [if_neg c17] at H
                        exact absurd H (by simp)
                    · rw [if_neg c16] at H
                      exact absurd H (by simp)
            · rw [if_neg c5] at H
              exact absurd H (by simp)
          · rw [if_neg c4] at H
            exact absurd H (by simp)
        · rw [if_neg c3] at H
          have c3b0:decide (x12_1 < (l0.length:Int))=false:=decide_eq_false c3
          clear c3
          obtain rfl:=Option.some.inj H
          go_wp2
          go_ret
          exact ⟨by first | rfl | (simp [errW_none,errW_some] <;> rfl) | (simp [*,errW_none,errW_some] <;> rfl),by repeat (first | (with_reducible first | exact HB.out | apply bal | apply pwN | apply bd1) | exact HB.out)⟩
mutual
def virgationref01_Nodes.l0:Nat→Int→Int→Int→List (S39)→Option (Int)
  | 0,_,_,_,_=>none
  | k+1,x1,x5,x6,x136000=>if x6 < (x136000.length:Int) then (if x5≤x1 then (if 0≤x6 then ((virgationref01_Nodes.f k ((rd_T39 x136000 x6).f0) (wrap64 (x1 - x5))).bind fun t137=>(virgationref01_Nodes.l0 k x1 (wrap64 (x5+t137)) (wrap64 (x6+1)) x136000)) else (none)) else (some x5)) else (some x5)
def virgationref01_Nodes.f:Nat→List (S39)→Int→Option (Int)
  | 0,_,_=>none
  | k+1,l0_0,a1=>virgationref01_Nodes.l0 k a1 1 0 l0_0
end
set_option maxHeartbeats 8000000 in
set_option maxRecDepth 100000 in
theorem virgationref01_Nodes.calls (k:Nat):∀ (A0_0:Option Addr) (c0_0:Nat) (l0_0:List (S39)) (a1:Int) (r:Int) (w:World) (hr0_0:Kd.C k39 w A0_0 l0_0.length l0_0) (hc0_0:l0_0.length≤c0_0) (h:virgationref01_Nodes.f k l0_0 a1=some r),
    Calls Try.prog 45 #[.agg #[.slice A0_0 l0_0.length c0_0],.int .i64 a1] w fun e w'=>e=.returned (.int .i64 r)∧Below w.heap.size w w':=by
  induction k using Nat.strongRecOn with
  | _ k ih =>
  intro A0_0 c0_0 l0_0 a1 r w hr0_0 hc0_0 h
  cases k with
  | zero=>exact absurd h (by simp [virgationref01_Nodes.f])
  | succ k =>
  simp only [virgationref01_Nodes.f] at h
  have hu39:=Try.underlying39
  have HR0_0:=Az.mk hr0_0
  have HC0_0:=Az.mk hc0_0
  clear hr0_0 hc0_0
  have HB:=Az.mk (Below.refl w.heap.size w)
  have H:(virgationref01_Nodes.l0 k a1 1 0 l0_0)=some r:=h
  clear h
  have H':=Az.mk H
  clear H
  go_enter Try.func45,Try.ntmps45
  go_wp2_with (first | ((with_reducible refine gate_dst (N:=2) rfl ?_); refine box_event ?hg (N:=2) ?hd (cs:=#[.slice A0_0 l0_0.length c0_0]) (t:=39) ?hr ?_; (case hd=>rfl); (case hg=>rfl); (case hr=>first | (go_simp; done) | (go_simp; rfl)); intro gb135 hg w3 hbox hb; have n0_:=Az.mk (bst (by repeat (first | (with_reducible first | exact HB.out | apply bal | apply pwN | apply bd1) | exact HB.out)) hb); have n1_:=Az.mk (hbox); have n2_:=Az.mk ((by rw [hg]; exact (below_size (by repeat (first | (with_reducible first | exact HB.out | apply bal | apply pwN | apply bd1) | exact HB.out))):w.heap.size≤gb135)); have n3_:=Az.mk ((by rw [hg]; exact (below_size (by repeat (first | (with_reducible first | exact HB.out | apply bal | apply pwN | apply bd1) | exact HB.out))):w.heap.size≤gb135)); clear HB; have HB:=n0_; have BK135:=n1_; have GW135:=n2_; have GE135:=n3_; clear n0_ n1_ n2_ n3_; clear hb hbox hg))
  go_loopg [5,6] k (fun kq v5 v6 w'=>∃ (x5_1:Int) (x6_1:Int),v5=.int .i64 x5_1∧v6=.int .i64 x6_1∧Az (virgationref01_Nodes.l0 kq a1 x5_1 x6_1 l0_0=some r)∧Az (kq≤k)∧Az (w'.heap[gb135]?=some (.cells #[(.slice A0_0 l0_0.length c0_0)] 39 (0,0)))∧Az (Below w.heap.size w w'))
  case atStart=>exact ⟨(1),(0),(by first | rfl | (simp; done) | (simp [*]; done)),(by first | rfl | (simp; done) | (simp [*]; done)),H',⟨Nat.le_refl _⟩,⟨by (with_reducible repeat (first | refine bdN ?_ _ | refine blk_drew ?_ | refine bkA ?_ _)); exact BK135.out⟩,⟨by repeat (first | (with_reducible first | exact HB.out | apply bal | apply pwN | apply bd1 | refine bset ?_ GE135.out) | exact HB.out)⟩⟩
  case round =>
    clear H'
    try clear p2
    obtain ⟨x5_1,x6_1,rfl,rfl,HA,HK1,BK135,HB⟩:=hrel
    cases gk with
    | zero=>exact absurd HA.out (by simp [virgationref01_Nodes.l0])
    | succ k1 =>
      have H:=HA.out
      clear HA
      simp only [virgationref01_Nodes.l0] at H
      by_cases c4:x6_1 < (l0_0.length:Int)
      · rw [if_pos c4] at H
        have c4b0:decide (x6_1 < (l0_0.length:Int))=true:=decide_eq_true c4
        clear c4
        by_cases c5:x5_1≤a1
        · rw [if_pos c5] at H
          have c5b0:decide (x5_1≤a1)=true:=decide_eq_true c5
          clear c5
          by_cases c6:0≤x6_1
          · rw [if_pos c6] at H
            have c6b0:decide (0≤x6_1)=true:=decide_eq_true c6
            clear c6
            replace H:=Option.bind_eq_some_iff.mp H
            obtain ⟨t137,A70,H⟩:=H
            replace H:(virgationref01_Nodes.l0 k1 a1 (wrap64 (x5_1+t137)) (wrap64 (x6_1+1)) l0_0)=some r:=H
            have A7:=Az.mk A70
            clear A70
            have H':=Az.mk H
            clear H
            have hcz8_0:wr.cell? ⟨gb135,0,none⟩=some (.slice A0_0 l0_0.length c0_0):=(blk_cell BK135.out 0).trans rfl
            have hfz8_0:=bkF BK135.out 0
            have p136:0≤(x6_1:Int):=of_decide_eq_true (by first | (with_reducible assumption) | assumption)
            have q136:x6_1 < (l0_0.length:Int):=of_decide_eq_true (by first | (with_reducible assumption) | assumption)
            obtain ⟨ad136,A136_0,c136_0,e136,hx136_0,hl136_0,hi136_0⟩:=at_T39 HR0_0.out x6_1 p136 q136
            cases e136
            replace hx136_0:=(HB.out.cell (World.block_lt_of_cell? w _ hx136_0)).trans hx136_0
            have HR136_0:=Az.mk hi136_0
            have HC136_0:=Az.mk hl136_0
            clear hi136_0 hl136_0
            replace p136:=eq_true p136
            replace q136:=eq_true q136
            go_wp2_with (first | ((with_reducible refine gate_callee (f:=45) rfl ?_); refine goesL_ (some 28) rfl rfl Try.func45 (by kernel_rfl) rfl #[.agg #[.slice A136_0 ((rd_T39 l0_0 x6_1).f0).length c136_0],.int .i64 (wrap64 (a1 - x5_1))] rfl (by (try simp only [List.map_toArray,List.map_cons,List.map_nil]); first | done | rfl | (simp only [List.length_drop,List.length_take]; rfl)) ?_; (with_reducible refine (ih k1 (by have:=HK1.out; omega) _ _ ((rd_T39 l0_0 x6_1).f0) (wrap64 (a1 - x5_1)) t137 _ ?side1 ?side2 A7.out).mono ?_); (case side1=>repeat (first | exact (Kd.C_below HR136_0.out HB.out) | (with_reducible refine Kd.C_alloc ?_ _) | (with_reducible refine Kd.C_drewN ?_ _) | (with_reducible refine Kd.C_drew ?_))); (case side2=>exact HC136_0.out); rintro e w9 ⟨rfl,hb⟩; refine ⟨_,rfl,?_⟩; have n0_:=Az.mk (bkB (g:=gb135) (o:=.cells #[.slice (some ad136) l0_0.length c0_0] 39 (0,0)) (by (with_reducible repeat (first | refine bdN ?_ _ | refine blk_drew ?_ | refine bkA ?_ _)); exact BK135.out) hb); have n1_:=Az.mk (bst (by repeat (first | (with_reducible first | exact HB.out | apply bal | apply pwN | apply bd1 | refine bset ?_ GE135.out) | exact HB.out)) hb); clear BK135; clear HB; have BK135:=n0_; have HB:=n1_; clear n0_ n1_; (try clear hb); (try clear hb2); (try clear hk); (try clear hi)))
            go_roundg k1
            case measure=>have:=HK1.out; omega
            case rel=>exact ⟨(wrap64 (x5_1+t137)),(wrap64 (x6_1+1)),(by first | rfl | (simp; done) | (simp [*]; done)),(by first | rfl | (simp; done) | (simp [*]; done)),H',⟨by have:=HK1.out; omega⟩,⟨by (with_reducible repeat (first | refine bdN ?_ _ | refine blk_drew ?_ | refine bkA ?_ _)); exact BK135.out⟩,⟨by repeat (first | (with_reducible first | exact HB.out | apply bal | apply pwN | apply bd1 | refine bset ?_ GE135.out) | exact HB.out)⟩⟩
          · rw [if_neg c6] at H
            exact absurd H (by simp)
        · rw [if_neg c5] at H
          have c5b0:decide (x5_1≤a1)=false:=decide_eq_false c5
          clear c5
          obtain rfl:=Option.some.inj H
          have hcz10_0:wr.cell? ⟨gb135,0,none⟩=some (.slice A0_0 l0_0.length c0_0):=(blk_cell BK135.out 0).trans rfl
          have hfz10_0:=bkF BK135.out 0
          go_wp2
          go_ret
          exact ⟨by first | rfl | (simp [errW_none,errW_some] <;> rfl) | (simp [*,errW_none,errW_some] <;> rfl),by repeat (first | (with_reducible first | exact HB.out | apply bal | apply pwN | apply bd1 | refine bset ?_ GE135.out) | exact HB.out)⟩
      · rw [if_neg c4] at H
        have c4b0:decide (x6_1 < (l0_0.length:Int))=false:=decide_eq_false c4
        clear c4
        obtain rfl:=Option.some.inj H
        have hcz11_0:wr.cell? ⟨gb135,0,none⟩=some (.slice A0_0 l0_0.length c0_0):=(blk_cell BK135.out 0).trans rfl
        have hfz11_0:=bkF BK135.out 0
        go_wp2
        go_ret
        exact ⟨by first | rfl | (simp [errW_none,errW_some] <;> rfl) | (simp [*,errW_none,errW_some] <;> rfl),by repeat (first | (with_reducible first | exact HB.out | apply bal | apply pwN | apply bd1 | refine bset ?_ GE135.out) | exact HB.out)⟩
mutual
def virgationref01_depth.l0:Nat→Int→List (S39)→Int→Int→Option (Int)
  | 0,_,_,_,_=>none
  | k+1,x3,x7,x8,x9=>if x9 < x8 then (if 0≤x9 then (if x9 < (x7.length:Int) then ((virgationref01_depth.f k ((rd_T39 x7 x9).f0)).bind fun t141=>(virgationref01_depth.l0 k (mx x3 t141) x7 x8 (wrap64 (x9+1)))) else (none)) else (none)) else (some (wrap64 (x3+1)))
def virgationref01_depth.f:Nat→List (S39)→Option (Int)
  | 0,_=>none
  | k+1,l0_0=>virgationref01_depth.l0 k 0 l0_0 (l0_0.length:Int) 0
end
set_option maxHeartbeats 8000000 in
set_option maxRecDepth 100000 in
theorem virgationref01_depth.calls (k:Nat):∀ (A0_0:Option Addr) (c0_0:Nat) (l0_0:List (S39)) (r:Int) (w:World) (hr0_0:Kd.C k39 w A0_0 l0_0.length l0_0) (hc0_0:l0_0.length≤c0_0) (h:virgationref01_depth.f k l0_0=some r),
    Calls Try.prog 46 #[.agg #[.slice A0_0 l0_0.length c0_0]] w fun e w'=>e=.returned (.int .i64 r)∧Below w.heap.size w w':=by
  induction k using Nat.strongRecOn with
  | _ k ih =>
  intro A0_0 c0_0 l0_0 r w hr0_0 hc0_0 h
  cases k with
  | zero=>exact absurd h (by simp [virgationref01_depth.f])
  | succ k =>
  simp only [virgationref01_depth.f] at h
  have hu39:=Try.underlying39
  have HR0_0:=Az.mk hr0_0
  have HC0_0:=Az.mk hc0_0
  clear hr0_0 hc0_0
  have HB:=Az.mk (Below.refl w.heap.size w)
  have H:(virgationref01_depth.l0 k 0 l0_0 (l0_0.length:Int) 0)=some r:=h
  clear h
  have H':=Az.mk H
  clear H
  go_enter Try.func46,Try.ntmps46
  go_wp2_with (first | ((with_reducible refine gate_dst (N:=1) rfl ?_); refine box_event ?hg (N:=1) ?hd (cs:=#[.slice A0_0 l0_0.length c0_0]) (t:=39) ?hr ?_; (case hd=>rfl); (case hg=>rfl); (case hr=>first | (go_simp; done) | (go_simp; rfl)); intro gb138 hg w2 hbox hb; have n0_:=Az.mk (bst (by repeat (first | (with_reducible first | exact HB.out | apply bal | apply pwN | apply bd1) | exact HB.out)) hb); have n1_:=Az.mk (hbox); have n2_:=Az.mk ((by rw [hg]; exact (below_size (by repeat (first | (with_reducible first | exact HB.out | apply bal | apply pwN | apply bd1) | exact HB.out))):w.heap.size≤gb138)); have n3_:=Az.mk ((by rw [hg]; exact (below_size (by repeat (first | (with_reducible first | exact HB.out | apply bal | apply pwN | apply bd1) | exact HB.out))):w.heap.size≤gb138)); clear HB; have HB:=n0_; have BK138:=n1_; have GW138:=n2_; have GE138:=n3_; clear n0_ n1_ n2_ n3_; clear hb hbox hg; have hcz3_0:w2.cell? ⟨gb138,0,none⟩=some (.slice A0_0 l0_0.length c0_0):=(blk_cell BK138.out 0).trans rfl; have hfz3_0:=bkF BK138.out 0))
  go_loopg [3,9] k (fun kq v3 v9 w'=>∃ (x3_1:Int) (x9_1:Int),v3=.int .i64 x3_1∧v9=.int .i64 x9_1∧Az (virgationref01_depth.l0 kq x3_1 l0_0 (l0_0.length:Int) x9_1=some r)∧Az (kq≤k)∧Az (w'.heap[gb138]?=some (.cells #[(.slice A0_0 l0_0.length c0_0)] 39 (0,0)))∧Az (Below w.heap.size w w'))
  case atStart=>exact ⟨(0),(0),(by first | rfl | (simp; done) | (simp [*]; done)),(by first | rfl | (simp; done) | (simp [*]; done)),H',⟨Nat.le_refl _⟩,⟨by (with_reducible repeat (first | refine bdN ?_ _ | refine blk_drew ?_ | refine bkA ?_ _)); exact BK138.out⟩,⟨by repeat (first | (with_reducible first | exact HB.out | apply bal | apply pwN | apply bd1 | refine bset ?_ GE138.out) | exact HB.out)⟩⟩
  case round =>
    clear H'
    try clear p2
    try clear hcz3_0
    try clear hfz3_0
    obtain ⟨x3_1,x9_1,rfl,rfl,HA,HK1,BK138,HB⟩:=hrel
    cases gk with
    | zero=>exact absurd HA.out (by simp [virgationref01_depth.l0])
    | succ k1 =>
      have H:=HA.out
      clear HA
      simp only [virgationref01_depth.l0] at H
      by_cases c4:x9_1 < (l0_0.length:Int)
      · rw [if_pos c4] at H
        have c4b0:decide (x9_1 < (l0_0.length:Int))=true:=decide_eq_true c4
        clear c4
        by_cases c5:0≤x9_1
        · rw [if_pos c5] at H
          have c5b0:decide (0≤x9_1)=true:=decide_eq_true c5
          clear c5
          by_cases c6:x9_1 < (l0_0.length:Int)
          · rw [if_pos c6] at H
            have c6b0:decide (x9_1 < (l0_0.length:Int))=true:=decide_eq_true c6
            clear c6
            replace H:=Option.bind_eq_some_iff.mp H
            obtain ⟨t141,A70,H⟩:=H
            replace H:(virgationref01_depth.l0 k1 (mx x3_1 t141) l0_0 (l0_0.length:Int) (wrap64 (x9_1+1)))=some r:=H
            have A7:=Az.mk A70
            clear A70
            obtain ⟨ji8,hji8⟩:∃ j_:Int,(mx x3_1 t141)=j_:=⟨_,rfl⟩
            replace H:(virgationref01_depth.l0 k1 ji8 l0_0 (l0_0.length:Int) (wrap64 (x9_1+1)))=some r:=by first | (rw [hji8] at H; exact H) | (simp only [hji8] at H ⊢; exact H)
            (try rw [hji8] at A7)
            have hji8_:(if x3_1 < t141 then t141 else x3_1)=ji8:=hji8
            have H':=Az.mk H
            clear H
            have p139:0≤(x9_1:Int):=of_decide_eq_true (by first | (with_reducible assumption) | assumption)
            have q139:x9_1 < (l0_0.length:Int):=of_decide_eq_true (by first | (with_reducible assumption) | assumption)
            obtain ⟨ad139,A139_0,c139_0,e139,hx139_0,hl139_0,hi139_0⟩:=at_T39 HR0_0.out x9_1 p139 q139
            cases e139
            replace hx139_0:=(HB.out.cell (World.block_lt_of_cell? w _ hx139_0)).trans hx139_0
            have HR139_0:=Az.mk hi139_0
            have HC139_0:=Az.mk hl139_0
            clear hi139_0 hl139_0
            replace p139:=eq_true p139
            replace q139:=eq_true q139
            go_wp2_with (first | ((with_reducible refine gate_dst (N:=5) rfl ?_); refine box_event ?hg (N:=5) ?hd (cs:=#[.slice none 0 0]) (t:=39) ?hr ?_; (case hd=>rfl); (case hg=>rfl); (case hr=>first | (go_simp; done) | (go_simp; rfl)); intro gb140 hg w9 hbox hb; have n0_:=Az.mk (bkB (g:=gb138) (o:=.cells #[.slice (some ad139) l0_0.length c0_0] 39 (0,0)) (by (with_reducible repeat (first | refine bdN ?_ _ | refine blk_drew ?_ | refine bkA ?_ _)); exact BK138.out) hb); have n1_:=Az.mk (bst (by repeat (first | (with_reducible first | exact HB.out | apply bal | apply pwN | apply bd1 | refine bset ?_ GE138.out) | exact HB.out)) hb); have n2_:=Az.mk (hbox); have n3_:=Az.mk ((by rw [hg]; exact (below_size (by repeat (first | (with_reducible first | exact HB.out | apply bal | apply pwN | apply bd1 | refine bset ?_ GE138.out) | exact HB.out))):w.heap.size≤gb140)); have n4_:=Az.mk ((by rw [hg]; exact (below_size (by repeat (first | (with_reducible first | exact HB.out | apply bal | apply pwN | apply bd1 | refine bset ?_ GE138.out) | exact HB.out))):w.heap.size≤gb140)); have n5_:=Az.mk ((by rw [hg]; exact Nat.ne_of_lt (blk_lt (g:=gb138) (o:=.cells #[.slice (some ad139) l0_0.length c0_0] 39 (0,0)) (by (with_reducible repeat (first | refine bdN ?_ _ | refine blk_drew ?_ | refine bkA ?_ _)); exact BK138.out)):gb138≠gb140)); have n6_:=Az.mk ((by rw [hg]; exact Nat.ne_of_gt (blk_lt (g:=gb138) (o:=.cells #[.slice (some ad139) l0_0.length c0_0] 39 (0,0)) (by (with_reducible repeat (first | refine bdN ?_ _ | refine blk_drew ?_ | refine bkA ?_ _)); exact BK138.out)):gb140≠gb138)); clear BK138; clear HB; have BK138:=n0_; have HB:=n1_; have BK140:=n2_; have GW140:=n3_; have GE140:=n4_; have NB138_140:=n5_; have NB140_138:=n6_; clear n0_ n1_ n2_ n3_ n4_ n5_ n6_; clear hb hbox hg; have hnb10:=NB140_138.out; have hnc10:=NB138_140.out; have hcz11_0:w9.cell? ⟨gb140,0,none⟩=some (.slice none 0 0):=(blk_cell BK140.out 0).trans rfl; have hfz11_0:=bkF BK140.out 0) | ((with_reducible refine gate_callee (f:=46) rfl ?_); refine goesL_ (some 15) rfl rfl Try.func46 (by kernel_rfl) rfl #[.agg #[.slice A139_0 ((rd_T39 l0_0 x9_1).f0).length c139_0]] rfl (by (try simp only [List.map_toArray,List.map_cons,List.map_nil]); first | done | rfl | (simp only [List.length_drop,List.length_take]; rfl)) ?_; (with_reducible refine (ih k1 (by have:=HK1.out; omega) _ _ ((rd_T39 l0_0 x9_1).f0) t141 _ ?side1 ?side2 A7.out).mono ?_); (case side1=>exact Kd.C_below HR139_0.out (by repeat (first | (with_reducible first | exact HB.out | apply bal | apply pwN | apply bd1 | refine bset ?_ GE138.out | refine bset ?_ GE140.out) | exact HB.out))); (case side2=>exact HC139_0.out); rintro e w12 ⟨rfl,hb⟩; refine ⟨_,rfl,?_⟩; have n0_:=Az.mk (bkB (g:=gb138) (o:=.cells #[.slice (some ad139) l0_0.length c0_0] 39 (0,0)) (by (with_reducible repeat (first | refine bdN ?_ _ | refine blk_drew ?_ | refine bkA ?_ _)); refine blk_far ?_ NB138_140.out _; (with_reducible repeat (first | refine bdN ?_ _ | refine blk_drew ?_ | refine bkA ?_ _)); exact BK138.out) hb); have n1_:=Az.mk (bkB (g:=gb140) (o:=.cells #[.slice A139_0 ((rd_T39 l0_0 x9_1).f0).length c139_0] 39 (0,0)) (by (with_reducible repeat (first | refine bdN ?_ _ | refine blk_drew ?_ | refine bkA ?_ _)); refine blk_put (cs:=#[.slice none 0 0]) ?_ 0 _ rfl; (with_reducible repeat (first | refine bdN ?_ _ | refine blk_drew ?_ | refine bkA ?_ _)); exact BK140.out) hb); have n2_:=Az.mk (bst (by repeat (first | (with_reducible first | exact HB.out | apply bal | apply pwN | apply bd1 | refine bset ?_ GE138.out | refine bset ?_ GE140.out) | exact HB.out)) hb); clear BK138; clear BK140; clear HB; have BK138:=n0_; have BK140:=n1_; have HB:=n2_; clear n0_ n1_ n2_; (try clear hb); (try clear hb2); (try clear hk); (try clear hi)))
            go_roundg k1
            case measure=>have:=HK1.out; omega
            case rel=>exact ⟨(ji8),(wrap64 (x9_1+1)),(by first | rfl | (simp; done) | (simp only [← hji8] <;> (first | rfl | simp)) | (simp [*]; done)),(by first | rfl | (simp; done) | (simp [*]; done)),H',⟨by have:=HK1.out; omega⟩,⟨by (with_reducible repeat (first | refine bdN ?_ _ | refine blk_drew ?_ | refine bkA ?_ _)); exact BK138.out⟩,⟨by repeat (first | (with_reducible first | exact HB.out | apply bal | apply pwN | apply bd1 | refine bset ?_ GE138.out | refine bset ?_ GE140.out) | exact HB.out)⟩⟩
          · rw [if_neg c6] at H
            exact absurd H (by simp)
        · rw [if_neg c5] at H
          exact absurd H (by simp)
      · rw [if_neg c4] at H
        have c4b0:decide (x9_1 < (l0_0.length:Int))=false:=decide_eq_false c4
        clear c4
        obtain rfl:=Option.some.inj H
        go_wp2
        go_ret
        exact ⟨by first | rfl | (simp [errW_none,errW_some] <;> rfl) | (simp [*,errW_none,errW_some] <;> rfl),by repeat (first | (with_reducible first | exact HB.out | apply bal | apply pwN | apply bd1 | refine bset ?_ GE138.out) | exact HB.out)⟩
mutual
def virgationref01_few.l0:Nat→List (S39)→Int→Int→List (S39)→Option (Bool)
  | 0,_,_,_,_=>none
  | k+1,x6,x7,x8,x143000=>if x8 < x7 then (if 0≤x8 then (if x8 < (x6.length:Int) then ((virgationref01_few.f k ((rd_T39 x6 x8).f0)).bind fun t145=>(if t145=true then (virgationref01_few.l0 k x6 x7 (wrap64 (x8+1)) x143000) else (some false))) else (none)) else (none)) else (some (decide ((x143000.length:Int)≤8)))
def virgationref01_few.f:Nat→List (S39)→Option (Bool)
  | 0,_=>none
  | k+1,l0_0=>virgationref01_few.l0 k l0_0 (l0_0.length:Int) 0 l0_0
end
set_option maxHeartbeats 8000000 in
set_option maxRecDepth 100000 in
theorem virgationref01_few.calls (k:Nat):∀ (A0_0:Option Addr) (c0_0:Nat) (l0_0:List (S39)) (r:Bool) (w:World) (hr0_0:Kd.C k39 w A0_0 l0_0.length l0_0) (hc0_0:l0_0.length≤c0_0) (h:virgationref01_few.f k l0_0=some r),
    Calls Try.prog 47 #[.agg #[.slice A0_0 l0_0.length c0_0]] w fun e w'=>e=.returned (.bool r)∧Below w.heap.size w w':=by
  induction k using Nat.strongRecOn with
  | _ k ih =>
  intro A0_0 c0_0 l0_0 r w hr0_0 hc0_0 h
  cases k with
  | zero=>exact absurd h (by simp [virgationref01_few.f])
  | succ k =>
  simp only [virgationref01_few.f] at h
  have hu39:=Try.underlying39
  have HR0_0:=Az.mk hr0_0
  have HC0_0:=Az.mk hc0_0
  clear hr0_0 hc0_0
  have HB:=Az.mk (Below.refl w.heap.size w)
  have H:(virgationref01_few.l0 k l0_0 (l0_0.length:Int) 0 l0_0)=some r:=h
  clear h
  have H':=Az.mk H
  clear H
  go_enter Try.func47,Try.ntmps47
  go_wp2_with (first | ((with_reducible refine gate_dst (N:=1) rfl ?_); refine box_event ?hg (N:=1) ?hd (cs:=#[.slice A0_0 l0_0.length c0_0]) (t:=39) ?hr ?_; (case hd=>rfl); (case hg=>rfl); (case hr=>first | (go_simp; done) | (go_simp; rfl)); intro gb142 hg w2 hbox hb; have n0_:=Az.mk (bst (by repeat (first | (with_reducible first | exact HB.out | apply bal | apply pwN | apply bd1) | exact HB.out)) hb); have n1_:=Az.mk (hbox); have n2_:=Az.mk ((by rw [hg]; exact (below_size (by repeat (first | (with_reducible first | exact HB.out | apply bal | apply pwN | apply bd1) | exact HB.out))):w.heap.size≤gb142)); have n3_:=Az.mk ((by rw [hg]; exact (below_size (by repeat (first | (with_reducible first | exact HB.out | apply bal | apply pwN | apply bd1) | exact HB.out))):w.heap.size≤gb142)); clear HB; have HB:=n0_; have BK142:=n1_; have GW142:=n2_; have GE142:=n3_; clear n0_ n1_ n2_ n3_; clear hb hbox hg; have hcz3_0:w2.cell? ⟨gb142,0,none⟩=some (.slice A0_0 l0_0.length c0_0):=(blk_cell BK142.out 0).trans rfl; have hfz3_0:=bkF BK142.out 0))
  go_loopg [8] k (fun kq v8 w'=>∃ (x8_1:Int),v8=.int .i64 x8_1∧Az (virgationref01_few.l0 kq l0_0 (l0_0.length:Int) x8_1 l0_0=some r)∧Az (kq≤k)∧Az (w'.heap[gb142]?=some (.cells #[(.slice A0_0 l0_0.length c0_0)] 39 (0,0)))∧Az (Below w.heap.size w w'))
  case atStart=>exact ⟨(0),(by first | rfl | (simp; done) | (simp [*]; done)),H',⟨Nat.le_refl _⟩,⟨by (with_reducible repeat (first | refine bdN ?_ _ | refine blk_drew ?_ | refine bkA ?_ _)); exact BK142.out⟩,⟨by repeat (first | (with_reducible first | exact HB.out | apply bal | apply pwN | apply bd1 | refine bset ?_ GE142.out) | exact HB.out)⟩⟩
  case round =>
    clear H'
    try clear p2
    try clear hcz3_0
    try clear hfz3_0
    obtain ⟨x8_1,rfl,HA,HK1,BK142,HB⟩:=hrel
    cases gk with
    | zero=>exact absurd HA.out (by simp [virgationref01_few.l0])
    | succ k1 =>
      have H:=HA.out
      clear HA
      simp only [virgationref01_few.l0] at H
      by_cases c4:x8_1 < (l0_0.length:Int)
      · rw [if_pos c4] at H
        have c4b0:decide (x8_1 < (l0_0.length:Int))=true:=decide_eq_true c4
        clear c4
        by_cases c5:0≤x8_1
        · rw [if_pos c5] at H
          have c5b0:decide (0≤x8_1)=true:=decide_eq_true c5
          clear c5
          by_cases c6:x8_1 < (l0_0.length:Int)
          · rw [if_pos c6] at H
            have c6b0:decide (x8_1 < (l0_0.length:Int))=true:=decide_eq_true c6
            clear c6
            replace H:=Option.bind_eq_some_iff.mp H
            obtain ⟨t145,A70,H⟩:=H
            replace H:(if t145=true then (virgationref01_few.l0 k1 l0_0 (l0_0.length:Int) (wrap64 (x8_1+1)) l0_0) else (some false))=some r:=H
            have A7:=Az.mk A70
            clear A70
            by_cases c8:t145=true
            · subst c8
              have H1:(virgationref01_few.l0 k1 l0_0 (l0_0.length:Int) (wrap64 (x8_1+1)) l0_0)=some r:=by rw [if_pos rfl] at H; exact H
              clear H
              have H:=H1
              clear H1
              have H':=Az.mk H
              clear H
              have p143:0≤(x8_1:Int):=of_decide_eq_true (by first | (with_reducible assumption) | assumption)
              have q143:x8_1 < (l0_0.length:Int):=of_decide_eq_true (by first | (with_reducible assumption) | assumption)
              obtain ⟨ad143,A143_0,c143_0,e143,hx143_0,hl143_0,hi143_0⟩:=at_T39 HR0_0.out x8_1 p143 q143
              cases e143
              replace hx143_0:=(HB.out.cell (World.block_lt_of_cell? w _ hx143_0)).trans hx143_0
              have HR143_0:=Az.mk hi143_0
              have HC143_0:=Az.mk hl143_0
              clear hi143_0 hl143_0
              replace p143:=eq_true p143
              replace q143:=eq_true q143
              go_wp2_with (first | ((with_reducible refine gate_dst (N:=4) rfl ?_); refine box_event ?hg (N:=4) ?hd (cs:=#[.slice none 0 0]) (t:=39) ?hr ?_; (case hd=>rfl); (case hg=>rfl); (case hr=>first | (go_simp; done) | (go_simp; rfl)); intro gb144 hg w9 hbox hb; have n0_:=Az.mk (bkB (g:=gb142) (o:=.cells #[.slice (some ad143) l0_0.length c0_0] 39 (0,0)) (by (with_reducible repeat (first | refine bdN ?_ _ | refine blk_drew ?_ | refine bkA ?_ _)); exact BK142.out) hb); have n1_:=Az.mk (bst (by repeat (first | (with_reducible first | exact HB.out | apply bal | apply pwN | apply bd1 | refine bset ?_ GE142.out) | exact HB.out)) hb); have n2_:=Az.mk (hbox); have n3_:=Az.mk ((by rw [hg]; exact (below_size (by repeat (first | (with_reducible first | exact HB.out | apply bal | apply pwN | apply bd1 | refine bset ?_ GE142.out) | exact HB.out))):w.heap.size≤gb144)); have n4_:=Az.mk ((by rw [hg]; exact (below_size (by repeat (first | (with_reducible first | exact HB.out | apply bal | apply pwN | apply bd1 | refine bset ?_ GE142.out) | exact HB.out))):w.heap.size≤gb144)); have n5_:=Az.mk ((by rw [hg]; exact Nat.ne_of_lt (blk_lt (g:=gb142) (o:=.cells #[.slice (some ad143) l0_0.length c0_0] 39 (0,0)) (by (with_reducible repeat (first | refine bdN ?_ _ | refine blk_drew ?_ | refine bkA ?_ _)); exact BK142.out)):gb142≠gb144)); have n6_:=Az.mk ((by rw [hg]; exact Nat.ne_of_gt (blk_lt (g:=gb142) (o:=.cells #[.slice (some ad143) l0_0.length c0_0] 39 (0,0)) (by (with_reducible repeat (first | refine bdN ?_ _ | refine blk_drew ?_ | refine bkA ?_ _)); exact BK142.out)):gb144≠gb142)); clear BK142; clear HB; have BK142:=n0_; have HB:=n1_; have BK144:=n2_; have GW144:=n3_; have GE144:=n4_; have NB142_144:=n5_; have NB144_142:=n6_; clear n0_ n1_ n2_ n3_ n4_ n5_ n6_; clear hb hbox hg; have hnb10:=NB144_142.out; have hnc10:=NB142_144.out; have hcz11_0:w9.cell? ⟨gb144,0,none⟩=some (.slice none 0 0):=(blk_cell BK144.out 0).trans rfl; have hfz11_0:=bkF BK144.out 0) | ((with_reducible refine gate_callee (f:=47) rfl ?_); refine goesL_ (some 13) rfl rfl Try.func47 (by kernel_rfl) rfl #[.agg #[.slice A143_0 ((rd_T39 l0_0 x8_1).f0).length c143_0]] rfl (by (try simp only [List.map_toArray,List.map_cons,List.map_nil]); first | done | rfl | (simp only [List.length_drop,List.length_take]; rfl)) ?_; (with_reducible refine (ih k1 (by have:=HK1.out; omega) _ _ ((rd_T39 l0_0 x8_1).f0) true _ ?side1 ?side2 A7.out).mono ?_); (case side1=>exact Kd.C_below HR143_0.out (by repeat (first | (with_reducible first | exact HB.out | apply bal | apply pwN | apply bd1 | refine bset ?_ GE142.out | refine bset ?_ GE144.out) | exact HB.out))); (case side2=>exact HC143_0.out); rintro e w12 ⟨rfl,hb⟩; refine ⟨_,rfl,?_⟩; have n0_:=Az.mk (bkB (g:=gb142) (o:=.cells #[.slice (some ad143) l0_0.length c0_0] 39 (0,0)) (by (with_reducible repeat (first | refine bdN ?_ _ | refine blk_drew ?_ | refine bkA ?_ _)); refine blk_far ?_ NB142_144.out _; (with_reducible repeat (first | refine bdN ?_ _ | refine blk_drew ?_ | refine bkA ?_ _)); exact BK142.out) hb); have n1_:=Az.mk (bkB (g:=gb144) (o:=.cells #[.slice A143_0 ((rd_T39 l0_0 x8_1).f0).length c143_0] 39 (0,0)) (by (with_reducible repeat (first | refine bdN ?_ _ | refine blk_drew ?_ | refine bkA ?_ _)); refine blk_put (cs:=#[.slice none 0 0]) ?_ 0 _ rfl; (with_reducible repeat (first | refine bdN ?_ _ | refine blk_drew ?_ | refine bkA ?_ _)); exact BK144.out) hb); have n2_:=Az.mk (bst (by repeat (first | (with_reducible first | exact HB.out | apply bal | apply pwN | apply bd1 | refine bset ?_ GE142.out | refine bset ?_ GE144.out) | exact HB.out)) hb); clear BK142; clear BK144; clear HB; have BK142:=n0_; have BK144:=n1_; have HB:=n2_; clear n0_ n1_ n2_; (try clear hb); (try clear hb2); (try clear hk); (try clear hi)))
              go_roundg k1
              case measure=>have:=HK1.out; omega
              case rel=>exact ⟨(wrap64 (x8_1+1)),(by first | rfl | (simp; done) | (simp [*]; done)),H',⟨by have:=HK1.out; omega⟩,⟨by (with_reducible repeat (first | refine bdN ?_ _ | refine blk_drew ?_ | refine bkA ?_ _)); exact BK142.out⟩,⟨by repeat (first | (with_reducible first | exact HB.out | apply bal | apply pwN | apply bd1 | refine bset ?_ GE142.out | refine bset ?_ GE144.out) | exact HB.out)⟩⟩
            · replace c8:=Bool.eq_false_iff.mpr c8
              subst c8
              have H1:(some false)=some r:=by rw [if_neg (show ¬ (false=true) by decide)] at H; exact H
              clear H
              have H:=H1
              clear H1
              obtain rfl:=Option.some.inj H
              have p143:0≤(x8_1:Int):=of_decide_eq_true (by first | (with_reducible assumption) | assumption)
              have q143:x8_1 < (l0_0.length:Int):=of_decide_eq_true (by first | (with_reducible assumption) | assumption)
              obtain ⟨ad143,A143_0,c143_0,e143,hx143_0,hl143_0,hi143_0⟩:=at_T39 HR0_0.out x8_1 p143 q143
              cases e143
              replace hx143_0:=(HB.out.cell (World.block_lt_of_cell? w _ hx143_0)).trans hx143_0
              have HR143_0:=Az.mk hi143_0
              have HC143_0:=Az.mk hl143_0
              clear hi143_0 hl143_0
              replace p143:=eq_true p143
              replace q143:=eq_true q143
              go_wp2_with (first | ((with_reducible refine gate_dst (N:=4) rfl ?_); refine box_event ?hg (N:=4) ?hd (cs:=#[.slice none 0 0]) (t:=39) ?hr ?_; (case hd=>rfl); (case hg=>rfl); (case hr=>first | (go_simp; done) | (go_simp; rfl)); intro gb144 hg w13 hbox hb; have n0_:=Az.mk (bkB (g:=gb142) (o:=.cells #[.slice (some ad143) l0_0.length c0_0] 39 (0,0)) (by (with_reducible repeat (first | refine bdN ?_ _ | refine blk_drew ?_ | refine bkA ?_ _)); exact BK142.out) hb); have n1_:=Az.mk (bst (by repeat (first | (with_reducible first | exact HB.out | apply bal | apply pwN | apply bd1 | refine bset ?_ GE142.out) | exact HB.out)) hb); have n2_:=Az.mk (hbox); have n3_:=Az.mk ((by rw [hg]; exact (below_size (by repeat (first | (with_reducible first | exact HB.out | apply bal | apply pwN | apply bd1 | refine bset ?_ GE142.out) | exact HB.out))):w.heap.size≤gb144)); have n4_:=Az.mk ((by rw [hg]; exact (below_size (by repeat (first | (with_reducible first | exact HB.out | apply bal | apply pwN | apply bd1 | refine bset ?_ GE142.out) | exact HB.out))):w.heap.size≤gb144)); have n5_:=Az.mk ((by rw [hg]; exact Nat.ne_of_lt (blk_lt (g:=gb142) (o:=.cells #[.slice (some ad143) l0_0.length c0_0] 39 (0,0)) (by (with_reducible repeat (first | refine bdN ?_ _ | refine blk_drew ?_ | refine bkA ?_ _)); exact BK142.out)):gb142≠gb144)); have n6_:=Az.mk ((by rw [hg]; exact Nat.ne_of_gt (blk_lt (g:=gb142) (o:=.cells #[.slice (some ad143) l0_0.length c0_0] 39 (0,0)) (by (with_reducible repeat (first | refine bdN ?_ _ | refine blk_drew ?_ | refine bkA ?_ _)); exact BK142.out)):gb144≠gb142)); clear BK142; clear HB; have BK142:=n0_; have HB:=n1_; have BK144:=n2_; have GW144:=n3_; have GE144:=n4_; have NB142_144:=n5_; have NB144_142:=n6_; clear n0_ n1_ n2_ n3_ n4_ n5_ n6_; clear hb hbox hg; have hnb14:=NB144_142.out; have hnc14:=NB142_144.out; have hcz15_0:w13.cell? ⟨gb144,0,none⟩=some (.slice none 0 0):=(blk_cell BK144.out 0).trans rfl; have hfz15_0:=bkF BK144.out 0) | ((with_reducible refine gate_callee (f:=47) rfl ?_); refine goesL_ (some 13) rfl rfl Try.func47 (by kernel_rfl) rfl #[.agg #[.slice A143_0 ((rd_T39 l0_0 x8_1).f0).length c143_0]] rfl (by (try simp only [List.map_toArray,List.map_cons,List.map_nil]); first | done | rfl | (simp only [List.length_drop,List.length_take]; rfl)) ?_; (with_reducible refine (ih k1 (by have:=HK1.out; omega) _ _ ((rd_T39 l0_0 x8_1).f0) false _ ?side1 ?side2 A7.out).mono ?_); (case side1=>exact Kd.C_below HR143_0.out (by repeat (first | (with_reducible first | exact HB.out | apply bal | apply pwN | apply bd1 | refine bset ?_ GE142.out | refine bset ?_ GE144.out) | exact HB.out))); (case side2=>exact HC143_0.out); rintro e w16 ⟨rfl,hb⟩; refine ⟨_,rfl,?_⟩; have n0_:=Az.mk (bkB (g:=gb142) (o:=.cells #[.slice (some ad143) l0_0.length c0_0] 39 (0,0)) (by (with_reducible repeat (first | refine bdN ?_ _ | refine blk_drew ?_ | refine bkA ?_ _)); refine blk_far ?_ NB142_144.out _; (with_reducible repeat (first | refine bdN ?_ _ | refine blk_drew ?_ | refine bkA ?_ _)); exact BK142.out) hb); have n1_:=Az.mk (bkB (g:=gb144) (o:=.cells #[.slice A143_0 ((rd_T39 l0_0 x8_1).f0).length c143_0] 39 (0,0)) (by (with_reducible repeat (first | refine bdN ?_ _ | refine blk_drew ?_ | refine bkA ?_ _)); refine blk_put (cs:=#[.slice none 0 0]) ?_ 0 _ rfl; (with_reducible repeat (first | refine bdN ?_ _ | refine blk_drew ?_ | refine bkA ?_ _)); exact BK144.out) hb); have n2_:=Az.mk (bst (by repeat (first | (with_reducible first | exact HB.out | apply bal | apply pwN | apply bd1 | refine bset ?_ GE142.out | refine bset ?_ GE144.out) | exact HB.out)) hb); clear BK142; clear BK144; clear HB; have BK142:=n0_; have BK144:=n1_; have HB:=n2_; clear n0_ n1_ n2_; (try clear hb); (try clear hb2); (try clear hk); (try clear hi)))
              go_ret
              exact ⟨by first | rfl | (simp [errW_none,errW_some] <;> rfl) | (simp [*,errW_none,errW_some] <;> rfl),by repeat (first | (with_reducible first | exact HB.out | apply bal | apply pwN | apply bd1 | refine bset ?_ GE142.out | refine bset ?_ GE144.out) | exact HB.out)⟩
          · rw [if_neg c6] at H
            exact absurd H (by simp)
        · rw [if_neg c5] at H
          exact absurd H (by simp)
      · rw [if_neg c4] at H
        have c4b0:decide (x8_1 < (l0_0.length:Int))=false:=decide_eq_false c4
        clear c4
        obtain rfl:=Option.some.inj H
        have hcz17_0:wr.cell? ⟨gb142,0,none⟩=some (.slice A0_0 l0_0.length c0_0):=(blk_cell BK142.out 0).trans rfl
        have hfz17_0:=bkF BK142.out 0
        go_wp2
        go_ret
        exact ⟨by first | rfl | (simp [errW_none,errW_some] <;> rfl) | (simp [*,errW_none,errW_some] <;> rfl),by repeat (first | (with_reducible first | exact HB.out | apply bal | apply pwN | apply bd1 | refine bset ?_ GE142.out) | exact HB.out)⟩
end Go.Proofs.Ytkgknidogelffaa.I
namespace Go.Proofs.Ytkgknidogelffaa.I
open Go.RowKit Go.Proofs.YtkgknidogelffaaW.PrintWords Go.Proofs.YtkgknidogelffaaW.PrintLast Go.Proofs.YtkgknidogelffaaW.PrintMore
attribute [local go_sem] max2_int min2_int max_two min_two max_three min_three max_four min_four   -- for this text's walks alone
set_option linter.unusedVariables false
set_option linter.unusedSimpArgs false
def virgationref01_Is.f (k:Nat) (l0_0:List (S39)):Option (Bool):=(virgationref01_Nodes.f k l0_0 60).bind fun t147=>(if t147≤60 then ((virgationref01_depth.f k l0_0).bind fun t148=>(if t148≤30 then ((virgationref01_few.f k l0_0).bind fun t149=>(some t149)) else (some false))) else (some false))
set_option maxHeartbeats 8000000 in
set_option maxRecDepth 100000 in
theorem virgationref01_Is.calls (k:Nat) (A0_0:Option Addr) (c0_0:Nat) (l0_0:List (S39)) (r:Bool) (w:World) (hr0_0:Kd.C k39 w A0_0 l0_0.length l0_0) (hc0_0:l0_0.length≤c0_0) (h:virgationref01_Is.f k l0_0=some r) :
    Calls Try.prog 23 #[.agg #[.slice A0_0 l0_0.length c0_0]] w fun e w'=>e=.returned (.bool r)∧Below w.heap.size w w':=by
  have hu39:=Try.underlying39
  have HR0_0:=Az.mk hr0_0
  have HC0_0:=Az.mk hc0_0
  clear hr0_0 hc0_0
  have HB:=Az.mk (Below.refl w.heap.size w)
  have H:((virgationref01_Nodes.f k l0_0 60).bind fun t147=>(if t147≤60 then ((virgationref01_depth.f k l0_0).bind fun t148=>(if t148≤30 then ((virgationref01_few.f k l0_0).bind fun t149=>(some t149)) else (some false))) else (some false)))=some r:=h
  clear h
  replace H:=Option.bind_eq_some_iff.mp H
  obtain ⟨t147,A20,H⟩:=H
  replace H:(if t147≤60 then ((virgationref01_depth.f k l0_0).bind fun t148=>(if t148≤30 then ((virgationref01_few.f k l0_0).bind fun t149=>(some t149)) else (some false))) else (some false))=some r:=H
  have A2:=Az.mk A20
  clear A20
  by_cases c3:t147≤60
  · rw [if_pos c3] at H
    have c3b0:decide (t147≤60)=true:=decide_eq_true c3
    clear c3
    replace H:=Option.bind_eq_some_iff.mp H
    obtain ⟨t148,A40,H⟩:=H
    replace H:(if t148≤30 then ((virgationref01_few.f k l0_0).bind fun t149=>(some t149)) else (some false))=some r:=H
    have A4:=Az.mk A40
    clear A40
    by_cases c5:t148≤30
    · rw [if_pos c5] at H
      have c5b0:decide (t148≤30)=true:=decide_eq_true c5
      clear c5
      replace H:=Option.bind_eq_some_iff.mp H
      obtain ⟨t149,A60,H⟩:=H
      replace H:(some t149)=some r:=H
      have A6:=Az.mk A60
      clear A60
      obtain rfl:=Option.some.inj H
      go_enter Try.func23,Try.ntmps23
      go_wp2_with (first | ((with_reducible refine gate_dst (N:=1) rfl ?_); refine box_event ?hg (N:=1) ?hd (cs:=#[.slice A0_0 l0_0.length c0_0]) (t:=39) ?hr ?_; (case hd=>rfl); (case hg=>rfl); (case hr=>first | (go_simp; done) | (go_simp; rfl)); intro gb146 hg w7 hbox hb; have n0_:=Az.mk (bst (by repeat (first | (with_reducible first | exact HB.out | apply bal | apply pwN | apply bd1) | exact HB.out)) hb); have n1_:=Az.mk (hbox); have n2_:=Az.mk ((by rw [hg]; exact (below_size (by repeat (first | (with_reducible first | exact HB.out | apply bal | apply pwN | apply bd1) | exact HB.out))):w.heap.size≤gb146)); have n3_:=Az.mk ((by rw [hg]; exact (below_size (by repeat (first | (with_reducible first | exact HB.out | apply bal | apply pwN | apply bd1) | exact HB.out))):w.heap.size≤gb146)); clear HB; have HB:=n0_; have BK146:=n1_; have GW146:=n2_; have GE146:=n3_; clear n0_ n1_ n2_ n3_; clear hb hbox hg; have hcz8_0:w7.cell? ⟨gb146,0,none⟩=some (.slice A0_0 l0_0.length c0_0):=(blk_cell BK146.out 0).trans rfl; have hfz8_0:=bkF BK146.out 0) | ((with_reducible refine gate_callee (f:=45) rfl ?_); refine goesL_ (some 4) rfl rfl Try.func45 (by kernel_rfl) rfl #[.agg #[.slice A0_0 l0_0.length c0_0],.int .i64 60] rfl (by (try simp only [List.map_toArray,List.map_cons,List.map_nil]); first | done | rfl | (simp only [List.length_drop,List.length_take]; rfl)) ?_; (with_reducible refine (virgationref01_Nodes.calls k _ _ l0_0 60 t147 _ ?side1 ?side2 A2.out).mono ?_); (case side1=>repeat (first | exact (Kd.C_below HR0_0.out HB.out) | (with_reducible refine Kd.C_alloc ?_ _) | (with_reducible refine Kd.C_drewN ?_ _) | (with_reducible refine Kd.C_drew ?_))); (case side2=>exact HC0_0.out); rintro e w9 ⟨rfl,hb⟩; refine ⟨_,rfl,?_⟩; have n0_:=Az.mk (bkB (g:=gb146) (o:=.cells #[.slice A0_0 l0_0.length c0_0] 39 (0,0)) (by (with_reducible repeat (first | refine bdN ?_ _ | refine blk_drew ?_ | refine bkA ?_ _)); exact BK146.out) hb); have n1_:=Az.mk (bst (by repeat (first | (with_reducible first | exact HB.out | apply bal | apply pwN | apply bd1 | refine bset ?_ GE146.out) | exact HB.out)) hb); clear BK146; clear HB; have BK146:=n0_; have HB:=n1_; clear n0_ n1_; (try clear hb); (try clear hb2); (try clear hk); (try clear hi); have hcz10_0:w9.cell? ⟨gb146,0,none⟩=some (.slice A0_0 l0_0.length c0_0):=(blk_cell BK146.out 0).trans rfl; have hfz10_0:=bkF BK146.out 0) | (go_at_call 46; (with_reducible refine (virgationref01_depth.calls k _ _ l0_0 t148 _ ?side1 ?side2 A4.out).mono ?_); (case side1=>repeat (first | exact (Kd.C_below HR0_0.out HB.out) | (with_reducible refine Kd.C_alloc ?_ _) | (with_reducible refine Kd.C_drewN ?_ _) | (with_reducible refine Kd.C_drew ?_))); (case side2=>exact HC0_0.out); rintro e w11 ⟨rfl,hb⟩; have n0_:=Az.mk (bkB (g:=gb146) (o:=.cells #[.slice A0_0 l0_0.length c0_0] 39 (0,0)) (by (with_reducible repeat (first | refine bdN ?_ _ | refine blk_drew ?_ | refine bkA ?_ _)); exact BK146.out) hb); have n1_:=Az.mk (bst (by repeat (first | (with_reducible first | exact HB.out | apply bal | apply pwN | apply bd1 | refine bset ?_ GE146.out) | exact HB.out)) hb); clear BK146; clear HB; have BK146:=n0_; have HB:=n1_; clear n0_ n1_; (try clear hb); (try clear hb2); (try clear hk); (try clear hi); have hcz12_0:w11.cell? ⟨gb146,0,none⟩=some (.slice A0_0 l0_0.length c0_0):=(blk_cell BK146.out 0).trans rfl; have hfz12_0:=bkF BK146.out 0) | (go_at_call 47; (with_reducible refine (virgationref01_few.calls k _ _ l0_0 t149 _ ?side1 ?side2 A6.out).mono ?_); (case side1=>repeat (first | exact (Kd.C_below HR0_0.out HB.out) | (with_reducible refine Kd.C_alloc ?_ _) | (with_reducible refine Kd.C_drewN ?_ _) | (with_reducible refine Kd.C_drew ?_))); (case side2=>exact HC0_0.out); rintro e w13 ⟨rfl,hb⟩; have n0_:=Az.mk (bkB (g:=gb146) (o:=.cells #[.slice A0_0 l0_0.length c0_0] 39 (0,0)) (by (with_reducible repeat (first | refine bdN ?_ _ | refine blk_drew ?_ | refine bkA ?_ _)); exact BK146.out) hb); have n1_:=Az.mk (bst (by repeat (first | (with_reducible first | exact HB.out | apply bal | apply pwN | apply bd1 | refine bset ?_ GE146.out) | exact HB.out)) hb); clear BK146; clear HB; have BK146:=n0_; have HB:=n1_; clear n0_ n1_; (try clear hb); (try clear hb2); (try clear hk); (try clear hi)))
      go_ret
      exact ⟨by first | rfl | (simp [errW_none,errW_some] <;> rfl) | (simp [*,errW_none,errW_some] <;> rfl),by repeat (first | (with_reducible first | exact HB.out | apply bal | apply pwN | apply bd1 | refine bset ?_ GE146.out) | exact HB.out)⟩
    · rw [if_neg c5] at H
      have c5b0:decide (t148≤30)=false:=decide_eq_false c5
      clear c5
      obtain rfl:=Option.some.inj H
      go_enter Try.func23,Try.ntmps23
      go_wp2_with (first | ((with_reducible refine gate_dst (N:=1) rfl ?_); refine box_event ?hg (N:=1) ?hd (cs:=#[.slice A0_0 l0_0.length c0_0]) (t:=39) ?hr ?_; (case hd=>rfl); (case hg=>rfl); (case hr=>first | (go_simp; done) | (go_simp; rfl)); intro gb146 hg w14 hbox hb; have n0_:=Az.mk (bst (by repeat (first | (with_reducible first | exact HB.out | apply bal | apply pwN | apply bd1) | exact HB.out)) hb); have n1_:=Az.mk (hbox); have n2_:=Az.mk ((by rw [hg]; exact (below_size (by repeat (first | (with_reducible first | exact HB.out | apply bal | apply pwN | apply bd1) | exact HB.out))):w.heap.size≤gb146)); have n3_:=Az.mk ((by rw [hg]; exact (below_size (by repeat (first | (with_reducible first | exact HB.out | apply bal | apply pwN | apply bd1) | exact HB.out))):w.heap.size≤gb146)); clear HB; have HB:=n0_; have BK146:=n1_; have GW146:=n2_; have GE146:=n3_; clear n0_ n1_ n2_ n3_; clear hb hbox hg; have hcz15_0:w14.cell? ⟨gb146,0,none⟩=some (.slice A0_0 l0_0.length c0_0):=(blk_cell BK146.out 0).trans rfl; have hfz15_0:=bkF BK146.out 0) | ((with_reducible refine gate_callee (f:=45) rfl ?_); refine goesL_ (some 4) rfl rfl Try.func45 (by kernel_rfl) rfl #[.agg #[.slice A0_0 l0_0.length c0_0],.int .i64 60] rfl (by (try simp only [List.map_toArray,List.map_cons,List.map_nil]); first | done | rfl | (simp only [List.length_drop,List.length_take]; rfl)) ?_; (with_reducible refine (virgationref01_Nodes.calls k _ _ l0_0 60 t147 _ ?side1 ?side2 A2.out).mono ?_); (case side1=>repeat (first | exact (Kd.C_below HR0_0.out HB.out) | (with_reducible refine Kd.C_alloc ?_ _) | (with_reducible refine Kd.C_drewN ?_ _) | (with_reducible refine Kd.C_drew ?_))); (case side2=>exact HC0_0.out); rintro e w16 ⟨rfl,hb⟩; refine ⟨_,rfl,?_⟩; have n0_:=Az.mk (bkB (g:=gb146) (o:=.cells #[.slice A0_0 l0_0.length c0_0] 39 (0,0)) (by (with_reducible repeat (first | refine bdN ?_ _ | refine blk_drew ?_ | refine bkA ?_ _)); exact BK146.out) hb); have n1_:=Az.mk (bst (by repeat (first | (with_reducible first | exact HB.out | apply bal | apply pwN | apply bd1 | refine bset ?_ GE146.out) | exact HB.out)) hb); clear BK146; clear HB; have BK146:=n0_; have HB:=n1_; clear n0_ n1_; (try clear hb); (try clear hb2); (try clear hk); (try clear hi); have hcz17_0:w16.cell? ⟨gb146,0,none⟩=some (.slice A0_0 l0_0.length c0_0):=(blk_cell BK146.out 0).trans rfl; have hfz17_0:=bkF BK146.out 0) | (go_at_call 46; (with_reducible refine (virgationref01_depth.calls k _ _ l0_0 t148 _ ?side1 ?side2 A4.out).mono ?_); (case side1=>repeat (first | exact (Kd.C_below HR0_0.out HB.out) | (with_reducible refine Kd.C_alloc ?_ _) | (with_reducible refine Kd.C_drewN ?_ _) | (with_reducible refine Kd.C_drew ?_))); (case side2=>exact HC0_0.out); rintro e w18 ⟨rfl,hb⟩; have n0_:=Az.mk (bkB (g:=gb146) (o:=.cells #[.slice A0_0 l0_0.length c0_0] 39 (0,0)) (by (with_reducible repeat (first | refine bdN ?_ _ | refine blk_drew ?_ | refine bkA ?_ _)); exact BK146.out) hb); have n1_:=Az.mk (bst (by repeat (first | (with_reducible first | exact HB.out | apply bal | apply pwN | apply bd1 | refine bset ?_ GE146.out) | exact HB.out)) hb); clear BK146; clear HB; have BK146:=n0_; have HB:=n1_; clear n0_ n1_; (try clear hb); (try clear hb2); (try clear hk); (try clear hi)))
      go_ret
      exact ⟨by first | rfl | (simp [errW_none,errW_some] <;> rfl) | (simp [*,errW_none,errW_some] <;> rfl),by repeat (first | (with_reducible first | exact HB.out | apply bal | apply pwN | apply bd1 | refine bset ?_ GE146.out) | exact HB.out)⟩
  · rw [if_neg c3] at H
    have c3b0:decide (t147≤60)=false:=decide_eq_false c3
    clear c3
    obtain rfl:=Option.some.inj H
    go_enter Try.func23,Try.ntmps23
    go_wp2_with (first | ((with_reducible refine gate_dst (N:=1) rfl ?_); refine box_event ?hg (N:=1) ?hd (cs:=#[.slice A0_0 l0_0.length c0_0]) (t:=39) ?hr ?_; (case hd=>rfl); (case hg=>rfl); (case hr=>first | (go_simp; done) | (go_simp; rfl)); intro gb146 hg w19 hbox hb; have n0_:=Az.mk (bst (by repeat (first | (with_reducible first | exact HB.out | apply bal | apply pwN | apply bd1) | exact HB.out)) hb); have n1_:=Az.mk (hbox); have n2_:=Az.mk ((by rw [hg]; exact (below_size (by repeat (first | (with_reducible first | exact HB.out | apply bal | apply pwN | apply bd1) | exact HB.out))):w.heap.size≤gb146)); have n3_:=Az.mk ((by rw [hg]; exact (below_size (by repeat (first | (with_reducible first | exact HB.out | apply bal | apply pwN | apply bd1) | exact HB.out))):w.heap.size≤gb146)); clear HB; have HB:=n0_; have BK146:=n1_; have GW146:=n2_; have GE146:=n3_; clear n0_ n1_ n2_ n3_; clear hb hbox hg; have hcz20_0:w19.cell? ⟨gb146,0,none⟩=some (.slice A0_0 l0_0.length c0_0):=(blk_cell BK146.out 0).trans rfl; have hfz20_0:=bkF BK146.out 0) | ((with_reducible refine gate_callee (f:=45) rfl ?_); refine goesL_ (some 4) rfl rfl Try.func45 (by kernel_rfl) rfl #[.agg #[.slice A0_0 l0_0.length c0_0],.int .i64 60] rfl (by (try simp only [List.map_toArray,List.map_cons,List.map_nil]); first | done | rfl | (simp only [List.length_drop,List.length_take]; rfl)) ?_; (with_reducible refine (virgationref01_Nodes.calls k _ _ l0_0 60 t147 _ ?side1 ?side2 A2.out).mono ?_); (case side1=>repeat (first | exact (Kd.C_below HR0_0.out HB.out) | (with_reducible refine Kd.C_alloc ?_ _) | (with_reducible refine Kd.C_drewN ?_ _) | (with_reducible refine Kd.C_drew ?_))); (case side2=>exact HC0_0.out); rintro e w21 ⟨rfl,hb⟩; refine ⟨_,rfl,?_⟩; have n0_:=Az.mk (bkB (g:=gb146) (o:=.cells #[.slice A0_0 l0_0.length c0_0] 39 (0,0)) (by (with_reducible repeat (first | refine bdN ?_ _ | refine blk_drew ?_ | refine bkA ?_ _)); exact BK146.out) hb); have n1_:=Az.mk (bst (by repeat (first | (with_reducible first | exact HB.out | apply bal | apply pwN | apply bd1 | refine bset ?_ GE146.out) | exact HB.out)) hb); clear BK146; clear HB; have BK146:=n0_; have HB:=n1_; clear n0_ n1_; (try clear hb); (try clear hb2); (try clear hk); (try clear hi)))
    go_ret
    exact ⟨by first | rfl | (simp [errW_none,errW_some] <;> rfl) | (simp [*,errW_none,errW_some] <;> rfl),by repeat (first | (with_reducible first | exact HB.out | apply bal | apply pwN | apply bd1 | refine bset ?_ GE146.out) | exact HB.out)⟩
mutual
def virgationref02_Nodes.l0:Nat→Int→Int→Int→Int→Int→List (S36)→Option (Int)
  | 0,_,_,_,_,_,_=>none
  | k+1,x1,x5,x6,x151000,x151001,x151002=>if x6 < (x151002.length:Int) then (if x5≤x1 then (if 0≤x6 then ((virgationref02_Nodes.f k ((rd_T36 x151002 x6).f0) ((rd_T36 x151002 x6).f1) ((rd_T36 x151002 x6).f2) (wrap64 (x1 - x5))).bind fun t152=>(virgationref02_Nodes.l0 k x1 (wrap64 (x5+t152)) (wrap64 (x6+1)) x151000 x151001 x151002)) else (none)) else (some x5)) else (some x5)
def virgationref02_Nodes.f:Nat→Int→Int→List (S36)→Int→Option (Int)
  | 0,_,_,_,_=>none
  | k+1,a0_0,a0_1,l0_2,a1=>virgationref02_Nodes.l0 k a1 1 0 a0_0 a0_1 l0_2
end
set_option maxHeartbeats 8000000 in
set_option maxRecDepth 100000 in
theorem virgationref02_Nodes.calls (k:Nat):∀ (a0_0:Int) (a0_1:Int) (A0_2:Option Addr) (c0_2:Nat) (l0_2:List (S36)) (a1:Int) (r:Int) (w:World) (hr0_2:Kd.C k36 w A0_2 l0_2.length l0_2) (hc0_2:l0_2.length≤c0_2) (h:virgationref02_Nodes.f k a0_0 a0_1 l0_2 a1=some r),
    Calls Try.prog 24 #[.agg #[.int .i64 a0_0,.int .i64 a0_1,.slice A0_2 l0_2.length c0_2],.int .i64 a1] w fun e w'=>e=.returned (.int .i64 r)∧Below w.heap.size w w':=by
  induction k using Nat.strongRecOn with
  | _ k ih =>
  intro a0_0 a0_1 A0_2 c0_2 l0_2 a1 r w hr0_2 hc0_2 h
  cases k with
  | zero=>exact absurd h (by simp [virgationref02_Nodes.f])
  | succ k =>
  simp only [virgationref02_Nodes.f] at h
  have hu36:=Try.underlying36
  have HR0_2:=Az.mk hr0_2
  have HC0_2:=Az.mk hc0_2
  clear hr0_2 hc0_2
  have HB:=Az.mk (Below.refl w.heap.size w)
  have H:(virgationref02_Nodes.l0 k a1 1 0 a0_0 a0_1 l0_2)=some r:=h
  clear h
  have H':=Az.mk H
  clear H
  go_enter Try.func24,Try.ntmps24
  go_wp2_with (first | ((with_reducible refine gate_dst (N:=2) rfl ?_); refine box_event ?hg (N:=2) ?hd (cs:=#[.int .i64 a0_0,.int .i64 a0_1,.slice A0_2 l0_2.length c0_2]) (t:=36) ?hr ?_; (case hd=>rfl); (case hg=>rfl); (case hr=>first | (go_simp; done) | (go_simp; rfl)); intro gb150 hg w3 hbox hb; have n0_:=Az.mk (bst (by repeat (first | (with_reducible first | exact HB.out | apply bal | apply pwN | apply bd1) | exact HB.out)) hb); have n1_:=Az.mk (hbox); have n2_:=Az.mk ((by rw [hg]; exact (below_size (by repeat (first | (with_reducible first | exact HB.out | apply bal | apply pwN | apply bd1) | exact HB.out))):w.heap.size≤gb150)); have n3_:=Az.mk ((by rw [hg]; exact (below_size (by repeat (first | (with_reducible first | exact HB.out | apply bal | apply pwN | apply bd1) | exact HB.out))):w.heap.size≤gb150)); clear HB; have HB:=n0_; have BK150:=n1_; have GW150:=n2_; have GE150:=n3_; clear n0_ n1_ n2_ n3_; clear hb hbox hg))
  go_loopg [5,6] k (fun kq v5 v6 w'=>∃ (x5_1:Int) (x6_1:Int),v5=.int .i64 x5_1∧v6=.int .i64 x6_1∧Az (virgationref02_Nodes.l0 kq a1 x5_1 x6_1 a0_0 a0_1 l0_2=some r)∧Az (kq≤k)∧Az (w'.heap[gb150]?=some (.cells #[.int .i64 a0_0,.int .i64 a0_1,(.slice A0_2 l0_2.length c0_2)] 36 (0,0)))∧Az (Below w.heap.size w w'))
  case atStart=>exact ⟨(1),(0),(by first | rfl | (simp; done) | (simp [*]; done)),(by first | rfl | (simp; done) | (simp [*]; done)),H',⟨Nat.le_refl _⟩,⟨by (with_reducible repeat (first | refine bdN ?_ _ | refine blk_drew ?_ | refine bkA ?_ _)); exact BK150.out⟩,⟨by repeat (first | (with_reducible first | exact HB.out | apply bal | apply pwN | apply bd1 | refine bset ?_ GE150.out) | exact HB.out)⟩⟩
  case round =>
    clear H'
    try clear c2
    try clear p2
    obtain ⟨x5_1,x6_1,rfl,rfl,HA,HK1,BK150,HB⟩:=hrel
    cases gk with
    | zero=>exact absurd HA.out (by simp [virgationref02_Nodes.l0])
    | succ k1 =>
      have H:=HA.out
      clear HA
      simp only [virgationref02_Nodes.l0] at H
      by_cases c4:x6_1 < (l0_2.length:Int)
      · rw [if_pos c4] at H
        have c4b0:decide (x6_1 < (l0_2.length:Int))=true:=decide_eq_true c4
        clear c4
        by_cases c5:x5_1≤a1
        · rw [if_pos c5] at H
          have c5b0:decide (x5_1≤a1)=true:=decide_eq_true c5
          clear c5
          by_cases c6:0≤x6_1
          · rw [if_pos c6] at H
            have c6b0:decide (0≤x6_1)=true:=decide_eq_true c6
            clear c6
            replace H:=Option.bind_eq_some_iff.mp H
            obtain ⟨t152,A70,H⟩:=H
            replace H:(virgationref02_Nodes.l0 k1 a1 (wrap64 (x5_1+t152)) (wrap64 (x6_1+1)) a0_0 a0_1 l0_2)=some r:=H
            have A7:=Az.mk A70
            clear A70
            have H':=Az.mk H
            clear H
            have hcz8_0:wr.cell? ⟨gb150,0,none⟩=some (.int .i64 a0_0):=(blk_cell BK150.out 0).trans rfl
            have hcz8_1:wr.cell? ⟨gb150,1,none⟩=some (.int .i64 a0_1):=(blk_cell BK150.out 1).trans rfl
            have hcz8_2:wr.cell? ⟨gb150,2,none⟩=some (.slice A0_2 l0_2.length c0_2):=(blk_cell BK150.out 2).trans rfl
            have hfz8_0:=bkF BK150.out 0
            have hfz8_1:=bkF BK150.out 1
            have hfz8_2:=bkF BK150.out 2
            have p151:0≤(x6_1:Int):=of_decide_eq_true (by first | (with_reducible assumption) | assumption)
            have q151:x6_1 < (l0_2.length:Int):=of_decide_eq_true (by first | (with_reducible assumption) | assumption)
            obtain ⟨ad151,A151_2,c151_2,e151,hx151_0,hx151_1,hx151_2,hl151_2,hi151_2⟩:=at_T36 HR0_2.out x6_1 p151 q151
            cases e151
            replace hx151_0:=(HB.out.cell (World.block_lt_of_cell? w _ hx151_0)).trans hx151_0
            replace hx151_1:=(HB.out.cell (World.block_lt_of_cell? w _ hx151_1)).trans hx151_1
            replace hx151_2:=(HB.out.cell (World.block_lt_of_cell? w _ hx151_2)).trans hx151_2
            have HR151_2:=Az.mk hi151_2
            have HC151_2:=Az.mk hl151_2
            clear hi151_2 hl151_2
            replace p151:=eq_true p151
            replace q151:=eq_true q151
            go_wp2_with (first | ((with_reducible refine gate_callee (f:=24) rfl ?_); refine goesL_ (some 28) rfl rfl Try.func24 (by kernel_rfl) rfl #[.agg #[.int .i64 ((rd_T36 l0_2 x6_1).f0),.int .i64 ((rd_T36 l0_2 x6_1).f1),.slice A151_2 ((rd_T36 l0_2 x6_1).f2).length c151_2],.int .i64 (wrap64 (a1 - x5_1))] rfl (by (try simp only [List.map_toArray,List.map_cons,List.map_nil]); first | done | rfl | (simp only [List.length_drop,List.length_take]; rfl)) ?_; (with_reducible refine (ih k1 (by have:=HK1.out; omega) ((rd_T36 l0_2 x6_1).f0) ((rd_T36 l0_2 x6_1).f1) _ _ ((rd_T36 l0_2 x6_1).f2) (wrap64 (a1 - x5_1)) t152 _ ?side1 ?side2 A7.out).mono ?_); (case side1=>repeat (first | exact (Kd.C_below HR151_2.out HB.out) | (with_reducible refine Kd.C_alloc ?_ _) | (with_reducible refine Kd.C_drewN ?_ _) | (with_reducible refine Kd.C_drew ?_))); (case side2=>exact HC151_2.out); rintro e w9 ⟨rfl,hb⟩; refine ⟨_,rfl,?_⟩; have n0_:=Az.mk (bkB (g:=gb150) (o:=.cells #[.int .i64 a0_0,.int .i64 a0_1,.slice (some ad151) l0_2.length c0_2] 36 (0,0)) (by (with_reducible repeat (first | refine bdN ?_ _ | refine blk_drew ?_ | refine bkA ?_ _)); exact BK150.out) hb); have n1_:=Az.mk (bst (by repeat (first | (with_reducible first | exact HB.out | apply bal | apply pwN | apply bd1 | refine bset ?_ GE150.out) | exact HB.out)) hb); clear BK150; clear HB; have BK150:=n0_; have HB:=n1_; clear n0_ n1_; (try clear hb); (try clear hb2); (try clear hk); (try clear hi)))
            go_roundg k1
            case measure=>have:=HK1.out; omega
            case rel=>exact ⟨(wrap64 (x5_1+t152)),(wrap64 (x6_1+1)),(by first | rfl | (simp; done) | (simp [*]; done)),(by first | rfl | (simp; done) | (simp [*]; done)),H',⟨by have:=HK1.out; omega⟩,⟨by (with_reducible repeat (first | refine bdN ?_ _ | refine blk_drew ?_ | refine bkA ?_ _)); exact BK150.out⟩,⟨by repeat (first | (with_reducible first | exact HB.out | apply bal | apply pwN | apply bd1 | refine bset ?_ GE150.out) | exact HB.out)⟩⟩
          · rw [if_neg c6] at H
            exact absurd H (by simp)
        · rw [if_neg c5] at H
          have c5b0:decide (x5_1≤a1)=false:=decide_eq_false c5
          clear c5
          obtain rfl:=Option.some.inj H
          have hcz10_0:wr.cell? ⟨gb150,0,none⟩=some (.int .i64 a0_0):=(blk_cell BK150.out 0).trans rfl
          have hcz10_1:wr.cell? ⟨gb150,1,none⟩=some (.int .i64 a0_1):=(blk_cell BK150.out 1).trans rfl
          have hcz10_2:wr.cell? ⟨gb150,2,none⟩=some (.slice A0_2 l0_2.length c0_2):=(blk_cell BK150.out 2).trans rfl
          have hfz10_0:=bkF BK150.out 0
          have hfz10_1:=bkF BK150.out 1
          have hfz10_2:=bkF BK150.out 2
          go_wp2
          go_ret
          exact ⟨by first | rfl | (simp [errW_none,errW_some] <;> rfl) | (simp [*,errW_none,errW_some] <;> rfl),by repeat (first | (with_reducible first | exact HB.out | apply bal | apply pwN | apply bd1 | refine bset ?_ GE150.out) | exact HB.out)⟩
      · rw [if_neg c4] at H
        have c4b0:decide (x6_1 < (l0_2.length:Int))=false:=decide_eq_false c4
        clear c4
        obtain rfl:=Option.some.inj H
        have hcz11_0:wr.cell? ⟨gb150,0,none⟩=some (.int .i64 a0_0):=(blk_cell BK150.out 0).trans rfl
        have hcz11_1:wr.cell? ⟨gb150,1,none⟩=some (.int .i64 a0_1):=(blk_cell BK150.out 1).trans rfl
        have hcz11_2:wr.cell? ⟨gb150,2,none⟩=some (.slice A0_2 l0_2.length c0_2):=(blk_cell BK150.out 2).trans rfl
        have hfz11_0:=bkF BK150.out 0
        have hfz11_1:=bkF BK150.out 1
        have hfz11_2:=bkF BK150.out 2
        go_wp2
        go_ret
        exact ⟨by first | rfl | (simp [errW_none,errW_some] <;> rfl) | (simp [*,errW_none,errW_some] <;> rfl),by repeat (first | (with_reducible first | exact HB.out | apply bal | apply pwN | apply bd1 | refine bset ?_ GE150.out) | exact HB.out)⟩
mutual
def virgationref02_Depth.l0:Nat→Int→List (S36)→Int→Int→Option (Int)
  | 0,_,_,_,_=>none
  | k+1,x3,x7,x8,x9=>if x9 < x8 then (if 0≤x9 then (if x9 < (x7.length:Int) then ((virgationref02_Depth.f k ((rd_T36 x7 x9).f0) ((rd_T36 x7 x9).f1) ((rd_T36 x7 x9).f2)).bind fun t156=>(virgationref02_Depth.l0 k (mx x3 t156) x7 x8 (wrap64 (x9+1)))) else (none)) else (none)) else (some (wrap64 (x3+1)))
def virgationref02_Depth.f:Nat→Int→Int→List (S36)→Option (Int)
  | 0,_,_,_=>none
  | k+1,a0_0,a0_1,l0_2=>virgationref02_Depth.l0 k 0 l0_2 (l0_2.length:Int) 0
end
set_option maxHeartbeats 8000000 in
set_option maxRecDepth 100000 in
theorem virgationref02_Depth.calls (k:Nat):∀ (a0_0:Int) (a0_1:Int) (A0_2:Option Addr) (c0_2:Nat) (l0_2:List (S36)) (r:Int) (w:World) (hr0_2:Kd.C k36 w A0_2 l0_2.length l0_2) (hc0_2:l0_2.length≤c0_2) (h:virgationref02_Depth.f k a0_0 a0_1 l0_2=some r),
    Calls Try.prog 25 #[.agg #[.int .i64 a0_0,.int .i64 a0_1,.slice A0_2 l0_2.length c0_2]] w fun e w'=>e=.returned (.int .i64 r)∧Below w.heap.size w w':=by
  induction k using Nat.strongRecOn with
  | _ k ih =>
  intro a0_0 a0_1 A0_2 c0_2 l0_2 r w hr0_2 hc0_2 h
  cases k with
  | zero=>exact absurd h (by simp [virgationref02_Depth.f])
  | succ k =>
  simp only [virgationref02_Depth.f] at h
  have hu36:=Try.underlying36
  have HR0_2:=Az.mk hr0_2
  have HC0_2:=Az.mk hc0_2
  clear hr0_2 hc0_2
  have HB:=Az.mk (Below.refl w.heap.size w)
  have H:(virgationref02_Depth.l0 k 0 l0_2 (l0_2.length:Int) 0)=some r:=h
  clear h
  have H':=Az.mk H
  clear H
  go_enter Try.func25,Try.ntmps25
  go_wp2_with (first | ((with_reducible refine gate_dst (N:=1) rfl ?_); refine box_event ?hg (N:=1) ?hd (cs:=#[.int .i64 a0_0,.int .i64 a0_1,.slice A0_2 l0_2.length c0_2]) (t:=36) ?hr ?_; (case hd=>rfl); (case hg=>rfl); (case hr=>first | (go_simp; done) | (go_simp; rfl)); intro gb153 hg w2 hbox hb; have n0_:=Az.mk (bst (by repeat (first | (with_reducible first | exact HB.out | apply bal | apply pwN | apply bd1) | exact HB.out)) hb); have n1_:=Az.mk (hbox); have n2_:=Az.mk ((by rw [hg]; exact (below_size (by repeat (first | (with_reducible first | exact HB.out | apply bal | apply pwN | apply bd1) | exact HB.out))):w.heap.size≤gb153)); have n3_:=Az.mk ((by rw [hg]; exact (below_size (by repeat (first | (with_reducible first | exact HB.out | apply bal | apply pwN | apply bd1) | exact HB.out))):w.heap.size≤gb153)); clear HB; have HB:=n0_; have BK153:=n1_; have GW153:=n2_; have GE153:=n3_; clear n0_ n1_ n2_ n3_; clear hb hbox hg; have hcz3_0:w2.cell? ⟨gb153,0,none⟩=some (.int .i64 a0_0):=(blk_cell BK153.out 0).trans rfl; have hcz3_1:w2.cell? ⟨gb153,1,none⟩=some (.int .i64 a0_1):=(blk_cell BK153.out 1).trans rfl; have hcz3_2:w2.cell? ⟨gb153,2,none⟩=some (.slice A0_2 l0_2.length c0_2):=(blk_cell BK153.out 2).trans rfl; have hfz3_0:=bkF BK153.out 0; have hfz3_1:=bkF BK153.out 1; have hfz3_2:=bkF BK153.out 2))
  go_loopg [3,9] k (fun kq v3 v9 w'=>∃ (x3_1:Int) (x9_1:Int),v3=.int .i64 x3_1∧v9=.int .i64 x9_1∧Az (virgationref02_Depth.l0 kq x3_1 l0_2 (l0_2.length:Int) x9_1=some r)∧Az (kq≤k)∧Az (w'.heap[gb153]?=some (.cells #[.int .i64 a0_0,.int .i64 a0_1,(.slice A0_2 l0_2.length c0_2)] 36 (0,0)))∧Az (Below w.heap.size w w'))
  case atStart=>exact ⟨(0),(0),(by first | rfl | (simp; done) | (simp [*]; done)),(by first | rfl | (simp; done) | (simp [*]; done)),H',⟨Nat.le_refl _⟩,⟨by (with_reducible repeat (first | refine bdN ?_ _ | refine blk_drew ?_ | refine bkA ?_ _)); exact BK153.out⟩,⟨by repeat (first | (with_reducible first | exact HB.out | apply bal | apply pwN | apply bd1 | refine bset ?_ GE153.out) | exact HB.out)⟩⟩
  case round =>
    clear H'
    try clear c2
    try clear p2
    try clear hcz3_0
    try clear hcz3_1
    try clear hcz3_2
    try clear hfz3_0
    try clear hfz3_1
    try clear hfz3_2
    obtain ⟨x3_1,x9_1,rfl,rfl,HA,HK1,BK153,HB⟩:=hrel
    cases gk with
    | zero=>exact absurd HA.out (by simp [virgationref02_Depth.l0])
    | succ k1 =>
      have H:=HA.out
      clear HA
      simp only [virgationref02_Depth.l0] at H
      by_cases c4:x9_1 < (l0_2.length:Int)
      · rw [if_pos c4] at H
        have c4b0:decide (x9_1 < (l0_2.length:Int))=true:=decide_eq_true c4
        clear c4
        by_cases c5:0≤x9_1
        · rw [if_pos c5] at H
          have c5b0:decide (0≤x9_1)=true:=decide_eq_true c5
          clear c5
          by_cases c6:x9_1 < (l0_2.length:Int)
          · rw [if_pos c6] at H
            have c6b0:decide (x9_1 < (l0_2.length:Int))=true:=decide_eq_true c6
            clear c6
            replace H:=Option.bind_eq_some_iff.mp H
            obtain ⟨t156,A70,H⟩:=H
            replace H:(virgationref02_Depth.l0 k1 (mx x3_1 t156) l0_2 (l0_2.length:Int) (wrap64 (x9_1+1)))=some r:=H
            have A7:=Az.mk A70
            clear A70
            obtain ⟨ji8,hji8⟩:∃ j_:Int,(mx x3_1 t156)=j_:=⟨_,rfl⟩
            replace H:(virgationref02_Depth.l0 k1 ji8 l0_2 (l0_2.length:Int) (wrap64 (x9_1+1)))=some r:=by first | (rw [hji8] at H; exact H) | (simp only [hji8] at H ⊢; exact H)
            (try rw [hji8] at A7)
            have hji8_:(if x3_1 < t156 then t156 else x3_1)=ji8:=hji8
            have H':=Az.mk H
            clear H
            have p154:0≤(x9_1:Int):=of_decide_eq_true (by first | (with_reducible assumption) | assumption)
            have q154:x9_1 < (l0_2.length:Int):=of_decide_eq_true (by first | (with_reducible assumption) | assumption)
            obtain ⟨ad154,A154_2,c154_2,e154,hx154_0,hx154_1,hx154_2,hl154_2,hi154_2⟩:=at_T36 HR0_2.out x9_1 p154 q154
            cases e154
            replace hx154_0:=(HB.out.cell (World.block_lt_of_cell? w _ hx154_0)).trans hx154_0
            replace hx154_1:=(HB.out.cell (World.block_lt_of_cell? w _ hx154_1)).trans hx154_1
            replace hx154_2:=(HB.out.cell (World.block_lt_of_cell? w _ hx154_2)).trans hx154_2
            have HR154_2:=Az.mk hi154_2
            have HC154_2:=Az.mk hl154_2
            clear hi154_2 hl154_2
            replace p154:=eq_true p154
            replace q154:=eq_true q154
            go_wp2_with (first | ((with_reducible refine gate_dst (N:=5) rfl ?_); refine box_event ?hg (N:=5) ?hd (cs:=#[.int .i64 0,.int .i64 0,.slice none 0 0]) (t:=36) ?hr ?_; (case hd=>rfl); (case hg=>rfl); (case hr=>first | (go_simp; done) | (go_simp; rfl)); intro gb155 hg w9 hbox hb; have n0_:=Az.mk (bkB (g:=gb153) (o:=.cells #[.int .i64 a0_0,.int .i64 a0_1,.slice (some ad154) l0_2.length c0_2] 36 (0,0)) (by (with_reducible repeat (first | refine bdN ?_ _ | refine blk_drew ?_ | refine bkA ?_ _)); exact BK153.out) hb); have n1_:=Az.mk (bst (by repeat (first | (with_reducible first | exact HB.out | apply bal | apply pwN | apply bd1 | refine bset ?_ GE153.out) | exact HB.out)) hb); have n2_:=Az.mk (hbox); have n3_:=Az.mk ((by rw [hg]; exact (below_size (by repeat (first | (with_reducible first | exact HB.out | apply bal | apply pwN | apply bd1 | refine bset ?_ GE153.out) | exact HB.out))):w.heap.size≤gb155)); have n4_:=Az.mk ((by rw [hg]; exact (below_size (by repeat (first | (with_reducible first | exact HB.out | apply bal | apply pwN | apply bd1 | refine bset ?_ GE153.out) | exact HB.out))):w.heap.size≤gb155)); have n5_:=Az.mk ((by rw [hg]; exact Nat.ne_of_lt (blk_lt (g:=gb153) (o:=.cells #[.int .i64 a0_0,.int .i64 a0_1,.slice (some ad154) l0_2.length c0_2] 36 (0,0)) (by (with_reducible repeat (first | refine bdN ?_ _ | refine blk_drew ?_ | refine bkA ?_ _)); exact BK153.out)):gb153≠gb155)); have n6_:=Az.mk ((by rw [hg]; exact Nat.ne_of_gt (blk_lt (g:=gb153) (o:=.cells #[.int .i64 a0_0,.int .i64 a0_1,.slice (some ad154) l0_2.length c0_2] 36 (0,0)) (by (with_reducible repeat (first | refine bdN ?_ _ | refine blk_drew ?_ | refine bkA ?_ _)); exact BK153.out)):gb155≠gb153)); clear BK153; clear HB; have BK153:=n0_; have HB:=n1_; have BK155:=n2_; have GW155:=n3_; have GE155:=n4_; have NB153_155:=n5_; have NB155_153:=n6_; clear n0_ n1_ n2_ n3_ n4_ n5_ n6_; clear hb hbox hg; have hnb10:=NB155_153.out; have hnc10:=NB153_155.out; have hcz11_0:w9.cell? ⟨gb155,0,none⟩=some (.int .i64 0):=(blk_cell BK155.out 0).trans rfl; have hcz11_1:w9.cell? ⟨gb155,1,none⟩=some (.int .i64 0):=(blk_cell BK155.out 1).trans rfl; have hcz11_2:w9.cell? ⟨gb155,2,none⟩=some (.slice none 0 0):=(blk_cell BK155.out 2).trans rfl; have hfz11_0:=bkF BK155.out 0; have hfz11_1:=bkF BK155.out 1; have hfz11_2:=bkF BK155.out 2) | ((with_reducible refine gate_callee (f:=25) rfl ?_); refine goesL_ (some 15) rfl rfl Try.func25 (by kernel_rfl) rfl #[.agg #[.int .i64 ((rd_T36 l0_2 x9_1).f0),.int .i64 ((rd_T36 l0_2 x9_1).f1),.slice A154_2 ((rd_T36 l0_2 x9_1).f2).length c154_2]] rfl (by (try simp only [List.map_toArray,List.map_cons,List.map_nil]); first | done | rfl | (simp only [List.length_drop,List.length_take]; rfl)) ?_; (with_reducible refine (ih k1 (by have:=HK1.out; omega) ((rd_T36 l0_2 x9_1).f0) ((rd_T36 l0_2 x9_1).f1) _ _ ((rd_T36 l0_2 x9_1).f2) t156 _ ?side1 ?side2 A7.out).mono ?_); (case side1=>exact Kd.C_below HR154_2.out (by repeat (first | (with_reducible first | exact HB.out | apply bal | apply pwN | apply bd1 | refine bset ?_ GE153.out | refine bset ?_ GE155.out) | exact HB.out))); (case side2=>exact HC154_2.out); rintro e w12 ⟨rfl,hb⟩; refine ⟨_,rfl,?_⟩; have n0_:=Az.mk (bkB (g:=gb153) (o:=.cells #[.int .i64 a0_0,.int .i64 a0_1,.slice (some ad154) l0_2.length c0_2] 36 (0,0)) (by (with_reducible repeat (first | refine bdN ?_ _ | refine blk_drew ?_ | refine bkA ?_ _)); refine blk_far ?_ NB153_155.out _; (with_reducible repeat (first | refine bdN ?_ _ | refine blk_drew ?_ | refine bkA ?_ _)); refine blk_far ?_ NB153_155.out _; (with_reducible repeat (first | refine bdN ?_ _ | refine blk_drew ?_ | refine bkA ?_ _)); refine blk_far ?_ NB153_155.out _; (with_reducible repeat (first | refine bdN ?_ _ | refine blk_drew ?_ | refine bkA ?_ _)); exact BK153.out) hb); have n1_:=Az.mk (bkB (g:=gb155) (o:=.cells #[.int .i64 ((rd_T36 l0_2 x9_1).f0),.int .i64 ((rd_T36 l0_2 x9_1).f1),.slice A154_2 ((rd_T36 l0_2 x9_1).f2).length c154_2] 36 (0,0)) (by (with_reducible repeat (first | refine bdN ?_ _ | refine blk_drew ?_ | refine bkA ?_ _)); refine blk_put (cs:=#[.int .i64 ((rd_T36 l0_2 x9_1).f0),.int .i64 ((rd_T36 l0_2 x9_1).f1),.slice none 0 0]) ?_ 2 _ rfl; (with_reducible repeat (first | refine bdN ?_ _ | refine blk_drew ?_ | refine bkA ?_ _)); refine blk_put (cs:=#[.int .i64 ((rd_T36 l0_2 x9_1).f0),.int .i64 0,.slice none 0 0]) ?_ 1 _ rfl; (with_reducible repeat (first | refine bdN ?_ _ | refine blk_drew ?_ | refine bkA ?_ _)); refine blk_put (cs:=#[.int .i64 0,.int .i64 0,.slice none 0 0]) ?_ 0 _ rfl; (with_reducible repeat (first | refine bdN ?_ _ | refine blk_drew ?_ | refine bkA ?_ _)); exact BK155.out) hb); have n2_:=Az.mk (bst (by repeat (first | (with_reducible first | exact HB.out | apply bal | apply pwN | apply bd1 | refine bset ?_ GE153.out | refine bset ?_ GE155.out) | exact HB.out)) hb); clear BK153; clear BK155; clear HB; have BK153:=n0_; have BK155:=n1_; have HB:=n2_; clear n0_ n1_ n2_; (try clear hb); (try clear hb2); (try clear hk); (try clear hi)))
            go_roundg k1
            case measure=>have:=HK1.out; omega
            case rel=>exact ⟨(ji8),(wrap64 (x9_1+1)),(by first | rfl | (simp; done) | (simp only [← hji8] <;> (first | rfl | simp)) | (simp [*]; done)),(by first | rfl | (simp; done) | (simp [*]; done)),H',⟨by have:=HK1.out; omega⟩,⟨by (with_reducible repeat (first | refine bdN ?_ _ | refine blk_drew ?_ | refine bkA ?_ _)); exact BK153.out⟩,⟨by repeat (first | (with_reducible first | exact HB.out | apply bal | apply pwN | apply bd1 | refine bset ?_ GE153.out | refine bset ?_ GE155.out) | exact HB.out)⟩⟩
          · rw [if_neg c6] at H
            exact absurd H (by simp)
        · rw [if_neg c5] at H
          exact absurd H (by simp)
      · rw [if_neg c4] at H
        have c4b0:decide (x9_1 < (l0_2.length:Int))=false:=decide_eq_false c4
        clear c4
        obtain rfl:=Option.some.inj H
        go_wp2
        go_ret
        exact ⟨by first | rfl | (simp [errW_none,errW_some] <;> rfl) | (simp [*,errW_none,errW_some] <;> rfl),by repeat (first | (with_reducible first | exact HB.out | apply bal | apply pwN | apply bd1 | refine bset ?_ GE153.out) | exact HB.out)⟩
def virgationref03_begins.f (a0:ByteArray) (a1:Int) (a2:ByteArray):Option (Bool):=if (wrap64 ((a0.size:Int) - a1)) ≥ (a2.size:Int) then (if 0≤a1 then (if a1≤(wrap64 (a1+(a2.size:Int))) then (if (wrap64 (a1+(a2.size:Int)))≤(a0.size:Int) then (some ((a0.extract (a1:Int).toNat ((wrap64 (a1+(a2.size:Int))):Int).toNat).toList == a2.toList)) else (none)) else (none)) else (none)) else (some false)
set_option maxHeartbeats 8000000 in
set_option maxRecDepth 100000 in
theorem virgationref03_begins.calls (a0:ByteArray) (a1:Int) (a2:ByteArray) (r:Bool) (w:World) (h:virgationref03_begins.f a0 a1 a2=some r) :
    Calls Try.prog 51 #[.string a0,.int .i64 a1,.string a2] w fun e w'=>e=.returned (.bool r)∧Drawn0 w w':=by
  have H:(if (wrap64 ((a0.size:Int) - a1)) ≥ (a2.size:Int) then (if 0≤a1 then (if a1≤(wrap64 (a1+(a2.size:Int))) then (if (wrap64 (a1+(a2.size:Int)))≤(a0.size:Int) then (some ((a0.extract (a1:Int).toNat ((wrap64 (a1+(a2.size:Int))):Int).toNat).toList == a2.toList)) else (none)) else (none)) else (none)) else (some false))=some r:=h
  clear h
  by_cases c4:(wrap64 ((a0.size:Int) - a1)) ≥ (a2.size:Int)
  · rw [if_pos c4] at H
    have c4b0:decide ((a2.size:Int)≤(wrap64 ((a0.size:Int) - a1)))=true:=decide_eq_true c4
    clear c4
    by_cases c5:0≤a1
    · rw [if_pos c5] at H
      have c5b0:=eq_true c5
      have c5b1:decide (0≤a1)=true:=decide_eq_true c5
      clear c5
      by_cases c6:a1≤(wrap64 (a1+(a2.size:Int)))
      · rw [if_pos c6] at H
        have c6b0:=eq_true c6
        have c6b1:decide (a1≤(wrap64 (a1+(a2.size:Int))))=true:=decide_eq_true c6
        by_cases c7:(wrap64 (a1+(a2.size:Int)))≤(a0.size:Int)
        · rw [if_pos c7] at H
          have c7b0:=eq_true c7
          have c7b1:decide ((wrap64 (a1+(a2.size:Int)))≤(a0.size:Int))=true:=decide_eq_true c7
          obtain rfl:=Option.some.inj H
          go_enter Try.func51,Try.ntmps51
          go_wp2
          go_ret
          exact ⟨by first | rfl | (simp; done) | (simp [*]; done),by repeat (first | exact Drawn0.refl _ | apply Drawn0.step)⟩
        · rw [if_neg c7] at H
          exact absurd H (by simp)
      · rw [if_neg c6] at H
        exact absurd H (by simp)
    · rw [if_neg c5] at H
      exact absurd H (by simp)
  · rw [if_neg c4] at H
    have c4b0:decide ((a2.size:Int)≤(wrap64 ((a0.size:Int) - a1)))=false:=decide_eq_false c4
    clear c4
    obtain rfl:=Option.some.inj H
    go_enter Try.func51,Try.ntmps51
    go_wp2
    go_ret
    exact ⟨by first | rfl | (simp; done) | (simp [*]; done),by repeat (first | exact Drawn0.refl _ | apply Drawn0.step)⟩
end Go.Proofs.Ytkgknidogelffaa.I
namespace Go.Proofs.Ytkgknidogelffaa.I
open Go.RowKit Go.Proofs.YtkgknidogelffaaW.PrintWords Go.Proofs.YtkgknidogelffaaW.PrintLast Go.Proofs.YtkgknidogelffaaW.PrintMore
attribute [local go_sem] max2_int min2_int max_two min_two max_three min_three max_four min_four
set_option linter.unusedVariables false
set_option maxRecDepth 100000
set_option linter.unusedSimpArgs false
mutual
/-- What measure answers, and what it leaves. -/
def meas:S39→Int→Int × Int
  | ⟨l⟩,left=>measL l (left - 1) 0
def measL:List S39→Int→Int→Int × Int
  | [],left,d=>(d+1,left)
  | x :: xs,left,d=>if left < 0 then (0,left) else measL xs (meas x left).2 (mx d (meas x left).1)
end
theorem mx_ge (a b:Int):a≤mx a b∧b≤mx a b∧(mx a b=a∨mx a b=b):=by unfold mx; split <;> omega
mutual
theorem meas_bd:∀ (x:S39) (left:Int),0≤left → -1≤(meas x left).2∧(meas x left).2≤left - 1∧0≤(meas x left).1∧(meas x left).1+(meas x left).2≤left
  | ⟨l⟩,left,h=>by
    have:=measL_bd l (left - 1) 0 (by omega) (by omega)
    unfold meas
    omega
theorem measL_bd:∀ (l:List S39) (left d:Int), -1≤left→0≤d → -1≤(measL l left d).2∧(measL l left d).2≤left∧0≤(measL l left d).1∧(measL l left d).1+(measL l left d).2≤d+left+1
  | [],left,d,h,hd=>by unfold measL; simp only; omega
  | x :: xs,left,d,h,hd=>by
    unfold measL
    split
    · simp only; omega
    · have h1:=meas_bd x left (by omega)
      have h2:=mx_ge d (meas x left).1
      have h3:=measL_bd xs (meas x left).2 (mx d (meas x left).1) (by omega) (by omega)
      omega
end
theorem rd_T39_drop (l:List S39) (i:Nat) (h:i < l.length):l.drop i=rd_T39 l (i:Int) :: l.drop (i+1):=by
  rw [List.drop_eq_getElem_cons h]
  simp [rd_T39,List.getD_eq_getElem?_getD,List.getElem?_eq_getElem h]
theorem rd_T39_mem (l:List S39) (i:Nat) (h:i < l.length):SizeOf.sizeOf (rd_T39 l (i:Int)).f0 < SizeOf.sizeOf l:=by
  have hm:rd_T39 l (i:Int) ∈ l:=by
    simp [rd_T39,List.getD_eq_getElem?_getD,List.getElem?_eq_getElem h]
  have h1:=List.sizeOf_lt_of_mem hm
  have h2:SizeOf.sizeOf (rd_T39 l (i:Int))=1+SizeOf.sizeOf (rd_T39 l (i:Int)).f0:=by
    cases rd_T39 l (i:Int); simp
  omega
theorem measure_calls (N:Nat):∀ (l:List S39) (A:Option Addr) (c g:Nat) (left:Int) (w0 w:World) (hN:SizeOf.sizeOf l < N) (hr:Kd.C k39 w0 A l.length l) (hc:l.length≤c) (hB:Below w0.heap.size w0 w) (hg:w0.heap.size≤g)
    (hb:w.heap[g]?=some (.cells #[.int .i64 left] 3 (0,0))) (hl:0≤left) (hl2:left≤100000000),
    Calls Try.prog 73 #[.agg #[.slice A l.length c],.pointer (some ⟨g,0,none⟩)] w fun e w'=>e=.returned (.int .i64 (meas ⟨l⟩ left).1)∧Below w0.heap.size w0 w'∧KeepBut w w' g none∧w'.heap[g]?=some (.cells #[.int .i64 (meas ⟨l⟩ left).2] 3 (0,0)):=by
  induction N with
  | zero=>intro l A c g left w0 w hN; omega
  | succ N ih =>
  intro l A c g left w0 w hN hr hc hB hg hb hl hl2
  have hu39:=Try.underlying39
  have hlen:l.length≤9223372036854775807:=hr.2.1
  have HR:=Az.mk hr
  have HC:=Az.mk hc
  have HB:=Az.mk hB
  have HG:=Az.mk hg
  have HN:=Az.mk hN
  have Hb:=Az.mk hb
  have hgl:=blk_lt hb
  have IH:=Az.mk ih
  clear hr hc hB hN hb hg ih
  go_enter Try.func73,Try.ntmps73
  go_wp2_with (
    (with_reducible refine gate_dst (N:=2) rfl ?_)
    refine box_event ?hg (N:=2) ?hd (cs:=#[.slice A l.length c]) (t:=39) ?hr ?_
    (case hd=>rfl)
    (case hg=>rfl)
    (case hr=>first | (go_simp; done) | (go_simp; rfl))
    intro gb hgb w2 hbox hb2
    have HB2:=Az.mk (bst HB.out hb2)
    have Hb2:=Az.mk (bkB Hb.out hb2)
    have HK2:=Az.mk (KeepBut.of_below hb2 g none)
    have hne:g≠gb:=by omega
    have hGW:w.heap.size≤gb:=by omega
    have hczg:w2.cell? ⟨g,0,none⟩=some (.int .i64 left):=(blk_cell Hb2.out 0).trans rfl
    have hfzg:=bkF Hb2.out 0
    have Hbox:=Az.mk hbox
    have hcz3:(w2.setCell ⟨g,0,none⟩ (.int .i64 (left - 1))).cell? ⟨gb,0,none⟩=some (.slice A l.length c):=(blk_cell (blk_far hbox (p:=⟨g,0,none⟩) (Ne.symm hne) _) 0).trans rfl
    clear hbox hb2 hgb HB Hb)
  clear hcz3 hczg hfzg
  go_loopg [5,16] l.length (fun kq v5 v16 wr=>∃ (i:Nat) (d lf:Int),v5=.int .i64 d∧v16=.int .i64 (i:Int)∧Az (kq+i=l.length)∧Az (measL (l.drop i) lf d=meas ⟨l⟩ left)∧Az (0≤d∧d+lf≤left - 1 ∧ -1≤lf∧lf≤left - 1)∧Az (wr.heap[g]?=some (.cells #[.int .i64 lf] 3 (0,0)))∧Az (wr.heap[gb]?=some (.cells #[.slice A l.length c] 39 (0,0)))∧Az (Below w0.heap.size w0 wr)∧Az (KeepBut w wr g none))
  case atStart=>exact ⟨0,0,left - 1,rfl,rfl,⟨by omega⟩,⟨by rw [List.drop_zero,meas]⟩,⟨by omega⟩,⟨by have:=blk_set Hb2.out 0 (.int .i64 (left - 1)); simpa using this⟩,⟨blk_far Hbox.out (p:=⟨g,0,none⟩) (Ne.symm hne) _⟩,⟨bset HB2.out HG.out⟩,⟨KeepBut.set_ HK2.out 0 _⟩⟩
  case round =>
    clear Hb2 Hbox HB2 HK2
    obtain ⟨i,d,lf,rfl,rfl,Hi,Hm,Hd,Hb,Hbox,HB,HK⟩:=hrel
    have hi:i≤l.length:=by have:=Hi.out; omega
    obtain ⟨hd0,hd1,hd2,hd3⟩:=Hd.out
    by_cases hlt:i < l.length
    · have hdrop:=Az.mk (rd_T39_drop l i hlt)
      have hmem:=Az.mk (rd_T39_mem l i hlt)
      obtain ⟨ad,A1,c1,he,hx1,hl1,hi1⟩:=at_T39 HR.out (i:Int) (by omega) (by omega)
      cases he
      replace hx1:=(HB.out.cell (World.block_lt_of_cell? w0 _ hx1)).trans hx1
      rw [Int.toNat_natCast] at hx1
      have Hl1:=Az.mk hl1
      have Hi1:=Az.mk hi1
      clear hl1 hi1
      have hczg:wr.cell? ⟨g,0,none⟩=some (.int .i64 lf):=(blk_cell Hb.out 0).trans rfl
      have hfzg:=bkF Hb.out 0
      have p1:(0≤(i:Int))=True:=eq_true (by omega)
      have p2:((i:Int) < (l.length:Int))=True:=eq_true (by omega)
      have p3:(i < l.length)=True:=eq_true (by omega)
      generalize hx:rd_T39 l (i:Int)=x at *
      have Hx:=Az.mk hx
      clear hx
      go_wp2_with (
        (with_reducible refine gate_dst (N:=7) rfl ?_)
        refine box_event ?hg (N:=7) ?hd (cs:=#[.slice none 0 0]) (t:=39) ?hr ?_
        (case hd=>rfl)
        (case hg=>rfl)
        (case hr=>first | (go_simp; done) | (go_simp; rfl))
        intro gi hgi w3 hbox3 hb3
        have hsz:=below_size HB.out
        have hkz:=keep_size HK.out
        have HB3:=Az.mk (bset (j:=0) (v:=.slice A1 x.f0.length c1) (bst HB.out hb3) (show w0.heap.size≤gi by omega))
        have hgl2:=blk_lt Hb.out
        have hne3:g≠gi:=by omega
        have hne4:gb≠gi:=by have:=blk_lt Hbox.out; omega
        have Hb3:=Az.mk (blk_far (p:=⟨gi,0,none⟩) (bkB Hb.out hb3) hne3 (.slice A1 x.f0.length c1))
        have Hbox3:=Az.mk (blk_far (p:=⟨gi,0,none⟩) (bkB Hbox.out hb3) hne4 (.slice A1 x.f0.length c1))
        have HK3:=Az.mk (keep_far (KeepBut.trans HK.out (KeepBut.of_below hb3 g none) (.inl rfl)) (p:=⟨gi,0,none⟩) (show w.heap.size≤gi by omega) (.slice A1 x.f0.length c1))
        have hci:(w3.setCell ⟨gi,0,none⟩ (.slice A1 x.f0.length c1)).cell? ⟨gi,0,none⟩=some (.slice A1 x.f0.length c1):=(blk_cell (blk_set hbox3 0 (.slice A1 x.f0.length c1)) 0).trans rfl
        have hcz:=(blk_cell hbox3 0).trans rfl
        have hfz:=bkF hbox3 0
        have hczg:(w3.setCell ⟨gi,0,none⟩ (.slice A1 x.f0.length c1)).cell? ⟨g,0,none⟩=some (.int .i64 lf):=(blk_cell Hb3.out 0).trans rfl
        clear hbox3 hb3 hsz hkz hgi hgl2 HB HK Hb Hbox)
      · have hneg:lf < 0:=by assumption
        go_ret
        have e1:meas ⟨l⟩ left=(0,lf):=by rw [← Hm.out,hdrop.out,measL,if_pos hneg]
        rw [e1]
        exact ⟨rfl,HB3.out,HK3.out,Hb3.out⟩
      · have hneg:0≤lf:=by first | assumption | omega
        have hbd:=Az.mk (meas_bd x lf hneg)
        have hxe:x=⟨x.f0⟩:=by cases x; rfl
        have Hxe:=Az.mk hxe
        clear hxe
        (with_reducible refine (IH.out x.f0 A1 c1 g lf w0 _ ?_ Hi1.out Hl1.out HB3.out HG.out Hb3.out ?_ ?_).mono ?_)
        · have:=hmem.out; have:=HN.out; omega
        · omega
        · omega
        rintro e w4 ⟨rfl,hB4,hK4,hb4⟩
        rw [← Hxe.out] at hb4 ⊢
        have HB:=Az.mk hB4
        have HK:=Az.mk (KeepBut.trans HK3.out hK4 (.inl rfl))
        have Hb:=Az.mk hb4
        have Hbox:=Az.mk (KeepBut.blk hK4 Hbox3.out (Ne.symm hne) (by simp))
        clear hB4 hK4 hb4 HB3 HK3 Hb3 Hbox3
        have hmx:(if d < (meas x lf).1 then (meas x lf).1 else d)=mx d (meas x lf).1:=rfl
        go_wp2_with fail
        clear hmx
        have hk:=Hi.out
        obtain ⟨k1,rfl⟩:∃ k1,gk=k1+1:=⟨gk - 1,by omega⟩
        go_roundg k1
        case measure=>omega
        case rel =>
          have hmx:=mx_ge d (meas x lf).1
          have hb1:=hbd.out
          refine ⟨i+1,mx d (meas x lf).1,(meas x lf).2,rfl,by go_num,⟨by omega⟩,⟨?_⟩,⟨by clear hczg; omega⟩,Hb,Hbox,HB,HK⟩
          rw [← Hm.out,hdrop.out,measL,if_neg (by omega)]
    · have hie:i=l.length:=by omega
      go_wp2_with fail
      go_ret
      have e1:meas ⟨l⟩ left=(d+1,lf):=by rw [← Hm.out,hie,List.drop_length,measL]
      rw [e1]
      exact ⟨rfl,HB.out,HK.out,Hb.out⟩
def sorts_Size.f (l0_0:List S39):Option (Int × Int):=some (if (meas ⟨l0_0⟩ 60).2 < 0 then (61,0) else (60 - (meas ⟨l0_0⟩ 60).2,(meas ⟨l0_0⟩ 60).1))
theorem sorts_Size.calls (A0_0:Option Addr) (c0_0:Nat) (l0_0:List S39) (r1 r2:Int) (w:World) (hr0_0:Kd.C k39 w A0_0 l0_0.length l0_0) (hc0_0:l0_0.length≤c0_0) (h:sorts_Size.f l0_0=some (r1,r2)) :
    Calls Try.prog 65 #[.agg #[.slice A0_0 l0_0.length c0_0]] w fun e w'=>e=.returned (.tuple #[.int .i64 r1,.int .i64 r2])∧Below w.heap.size w w':=by
  have hu39:=Try.underlying39
  have HR:=Az.mk hr0_0
  have HC:=Az.mk hc0_0
  have hbd:=Az.mk (meas_bd ⟨l0_0⟩ 60 (by omega))
  have Hh:=Az.mk h
  clear h hr0_0 hc0_0
  go_enter Try.func65,Try.ntmps65
  go_wp2_with (first
   | ((with_reducible refine gate_dst (N:=1) rfl ?_)
      refine box_event ?hg (N:=1) ?hd (cs:=#[.slice A0_0 l0_0.length c0_0]) (t:=39) ?hr ?_
      (case hd=>rfl)
      (case hg=>rfl)
      (case hr=>first | (go_simp; done) | (go_simp; rfl))
      intro gb hgb w2 hbox hb2
      have HB2:=Az.mk hb2
      have Hgb:=Az.mk hgb
      have Hbox:=Az.mk hbox
      have hne0:=blk_lt hbox
      clear hbox hb2 hgb)
   | ((with_reducible refine gate_dst (N:=4) rfl ?_)
      refine box_event ?hg (N:=4) ?hd (cs:=#[.int .i64 0]) (t:=3) ?hr ?_
      (case hd=>rfl)
      (case hg=>rfl)
      (case hr=>first | (go_simp; done) | (go_simp; rfl))
      intro g hg w3 hb hb3
      have hsz:=HB2.out.size
      have HG:=Az.mk (show w.heap.size≤g by omega)
      have HB3:=Az.mk (bset (j:=0) (v:=.int .i64 60) (bst HB2.out hb3) HG.out)
      have hne:gb≠g:=by omega
      have Hbox3:=Az.mk (blk_far (p:=⟨g,0,none⟩) (bkB Hbox.out hb3) hne (.int .i64 60))
      have Hb3:=Az.mk (blk_put (cs':=#[.int .i64 60]) hb 0 (.int .i64 60) rfl)
      have hcz:=(blk_cell hb 0).trans rfl
      have hfz:=bkF hb 0
      have hcb:(w3.setCell ⟨g,0,none⟩ (.int .i64 60)).cell? ⟨gb,0,none⟩=some (.slice A0_0 l0_0.length c0_0):=(blk_cell Hbox3.out 0).trans rfl
      clear hb hb3 hg))
  (with_reducible refine (measure_calls (SizeOf.sizeOf l0_0+1) l0_0 A0_0 c0_0 g 60 w _ (by omega) HR.out HC.out HB3.out HG.out Hb3.out (by omega) (by omega)).mono ?_)
  rintro e w4 ⟨rfl,hB4,hK4,hb4⟩
  have HB:=Az.mk hB4
  have hcg:w4.cell? ⟨g,0,none⟩=some (.int .i64 (meas ⟨l0_0⟩ 60).2):=(blk_cell hb4 0).trans rfl
  clear hB4 hK4 hb4 hcb
  have hb1:=hbd.out.1
  have hb2:=hbd.out.2.1
  by_cases hneg:(meas ⟨l0_0⟩ 60).2 < 0
  · have e1:=Hh.out
    simp only [sorts_Size.f,if_pos hneg,Option.some.injEq,Prod.mk.injEq] at e1
    obtain ⟨rfl,rfl⟩:=e1
    go_wp2_with fail
    go_ret2
    exact ⟨rfl,HB.out⟩
  · have e1:=Hh.out
    simp only [sorts_Size.f,if_neg hneg,Option.some.injEq,Prod.mk.injEq] at e1
    obtain ⟨rfl,rfl⟩:=e1
    go_wp2_with fail
    go_ret2
    exact ⟨rfl,HB.out⟩
end Go.Proofs.Ytkgknidogelffaa.I
namespace Go.Proofs.Ytkgknidogelffaa.I
open Go.RowKit Go.Proofs.YtkgknidogelffaaW.PrintWords Go.Proofs.YtkgknidogelffaaW.PrintLast Go.Proofs.YtkgknidogelffaaW.PrintMore
attribute [local go_sem] max2_int min2_int max_two min_two max_three min_three max_four min_four
set_option linter.unusedVariables false
set_option maxRecDepth 100000
set_option linter.unusedSimpArgs false
mutual
/-- What measure answers, and what it leaves. -/
def tmeas:S36→Int→Int × Int
  | ⟨_,_,l⟩,left=>tmeasL l (left - 1) 0
def tmeasL:List S36→Int→Int→Int × Int
  | [],left,d=>(d+1,left)
  | x :: xs,left,d=>if left < 0 then (0,left) else tmeasL xs (tmeas x left).2 (mx d (tmeas x left).1)
end
mutual
theorem tmeas_bd:∀ (x:S36) (left:Int),0≤left → -1≤(tmeas x left).2∧(tmeas x left).2≤left - 1∧0≤(tmeas x left).1∧(tmeas x left).1+(tmeas x left).2≤left
  | ⟨_,_,l⟩,left,h=>by
    have:=tmeasL_bd l (left - 1) 0 (by omega) (by omega)
    unfold tmeas
    omega
theorem tmeasL_bd:∀ (l:List S36) (left d:Int), -1≤left→0≤d → -1≤(tmeasL l left d).2∧(tmeasL l left d).2≤left∧0≤(tmeasL l left d).1∧(tmeasL l left d).1+(tmeasL l left d).2≤d+left+1
  | [],left,d,h,hd=>by unfold tmeasL; simp only; omega
  | x :: xs,left,d,h,hd=>by
    unfold tmeasL
    split
    · simp only; omega
    · have h1:=tmeas_bd x left (by omega)
      have h2:=mx_ge d (tmeas x left).1
      have h3:=tmeasL_bd xs (tmeas x left).2 (mx d (tmeas x left).1) (by omega) (by omega)
      omega
end
theorem rd_T36_drop (l:List S36) (i:Nat) (h:i < l.length):l.drop i=rd_T36 l (i:Int) :: l.drop (i+1):=by
  rw [List.drop_eq_getElem_cons h]
  simp [rd_T36,List.getD_eq_getElem?_getD,List.getElem?_eq_getElem h]
theorem rd_T36_mem (l:List S36) (i:Nat) (h:i < l.length):SizeOf.sizeOf (rd_T36 l (i:Int)).f2 < SizeOf.sizeOf l:=by
  have hm:rd_T36 l (i:Int) ∈ l:=by
    simp [rd_T36,List.getD_eq_getElem?_getD,List.getElem?_eq_getElem h]
  have h1:=List.sizeOf_lt_of_mem hm
  have h2:SizeOf.sizeOf (rd_T36 l (i:Int)).f2 < SizeOf.sizeOf (rd_T36 l (i:Int)):=by
    cases rd_T36 l (i:Int); simp; omega
  omega
theorem tmeasure_calls (N:Nat):∀ (p q:Int) (l:List S36) (A:Option Addr) (c g:Nat) (left:Int) (w0 w:World) (hN:SizeOf.sizeOf l < N) (hr:Kd.C k36 w0 A l.length l) (hc:l.length≤c) (hB:Below w0.heap.size w0 w) (hg:w0.heap.size≤g)
    (hb:w.heap[g]?=some (.cells #[.int .i64 left] 3 (0,0))) (hl:0≤left) (hl2:left≤100000000),
    Calls Try.prog 68 #[.agg #[.int .i64 p,.int .i64 q,.slice A l.length c],.pointer (some ⟨g,0,none⟩)] w fun e w'=>e=.returned (.int .i64 (tmeas ⟨p,q,l⟩ left).1)∧Below w0.heap.size w0 w'∧KeepBut w w' g none∧w'.heap[g]?=some (.cells #[.int .i64 (tmeas ⟨p,q,l⟩ left).2] 3 (0,0)):=by
  induction N with
  | zero=>intro p q l A c g left w0 w hN; omega
  | succ N ih =>
  intro p q l A c g left w0 w hN hr hc hB hg hb hl hl2
  have hu36:=Try.underlying36
  have hlen:l.length≤9223372036854775807:=hr.2.1
  have HR:=Az.mk hr
  have HC:=Az.mk hc
  have HB:=Az.mk hB
  have HG:=Az.mk hg
  have HN:=Az.mk hN
  have Hb:=Az.mk hb
  have hgl:=blk_lt hb
  have IH:=Az.mk ih
  clear hr hc hB hN hb hg ih
  go_enter Try.func68,Try.ntmps68
  go_wp2_with (
    (with_reducible refine gate_dst (N:=2) rfl ?_)
    refine box_event ?hg (N:=2) ?hd (cs:=#[.int .i64 p,.int .i64 q,.slice A l.length c]) (t:=36) ?hr ?_
    (case hd=>rfl)
    (case hg=>rfl)
    (case hr=>first | (go_simp; done) | (go_simp; rfl))
    intro gb hgb w2 hbox hb2
    have HB2:=Az.mk (bst HB.out hb2)
    have Hb2:=Az.mk (bkB Hb.out hb2)
    have HK2:=Az.mk (KeepBut.of_below hb2 g none)
    have hne:g≠gb:=by omega
    have hGW:w.heap.size≤gb:=by omega
    have hczg:w2.cell? ⟨g,0,none⟩=some (.int .i64 left):=(blk_cell Hb2.out 0).trans rfl
    have hfzg:=bkF Hb2.out 0
    have Hbox:=Az.mk hbox
    have hcz3:(w2.setCell ⟨g,0,none⟩ (.int .i64 (left - 1))).cell? ⟨gb,2,none⟩=some (.slice A l.length c):=(blk_cell (blk_far hbox (p:=⟨g,0,none⟩) (Ne.symm hne) _) 2).trans rfl
    clear hbox hb2 hgb HB Hb)
  clear hcz3 hczg hfzg
  go_loopg [5,16] l.length (fun kq v5 v16 wr=>∃ (i:Nat) (d lf:Int),v5=.int .i64 d∧v16=.int .i64 (i:Int)∧Az (kq+i=l.length)∧Az (tmeasL (l.drop i) lf d=tmeas ⟨p,q,l⟩ left)∧Az (0≤d∧d+lf≤left - 1 ∧ -1≤lf∧lf≤left - 1)∧Az (wr.heap[g]?=some (.cells #[.int .i64 lf] 3 (0,0)))∧Az (wr.heap[gb]?=some (.cells #[.int .i64 p,.int .i64 q,.slice A l.length c] 36 (0,0)))∧Az (Below w0.heap.size w0 wr)∧Az (KeepBut w wr g none))
  case atStart=>exact ⟨0,0,left - 1,rfl,rfl,⟨by omega⟩,⟨by rw [List.drop_zero,tmeas]⟩,⟨by omega⟩,⟨by have:=blk_set Hb2.out 0 (.int .i64 (left - 1)); simpa using this⟩,⟨blk_far Hbox.out (p:=⟨g,0,none⟩) (Ne.symm hne) _⟩,⟨bset HB2.out HG.out⟩,⟨KeepBut.set_ HK2.out 0 _⟩⟩
  case round =>
    clear Hb2 Hbox HB2 HK2
    obtain ⟨i,d,lf,rfl,rfl,Hi,Hm,Hd,Hb,Hbox,HB,HK⟩:=hrel
    have hi:i≤l.length:=by have:=Hi.out; omega
    obtain ⟨hd0,hd1,hd2,hd3⟩:=Hd.out
    by_cases hlt:i < l.length
    · have hdrop:=Az.mk (rd_T36_drop l i hlt)
      have hmem:=Az.mk (rd_T36_mem l i hlt)
      obtain ⟨ad,A1,c1,he,hx1,hx2,hx3,hl1,hi1⟩:=at_T36 HR.out (i:Int) (by omega) (by omega)
      cases he
      replace hx1:=(HB.out.cell (World.block_lt_of_cell? w0 _ hx1)).trans hx1
      rw [Int.toNat_natCast] at hx1
      replace hx2:=(HB.out.cell (World.block_lt_of_cell? w0 _ hx2)).trans hx2
      rw [Int.toNat_natCast] at hx2
      replace hx3:=(HB.out.cell (World.block_lt_of_cell? w0 _ hx3)).trans hx3
      rw [Int.toNat_natCast] at hx3
      have Hl1:=Az.mk hl1
      have Hi1:=Az.mk hi1
      clear hl1 hi1
      have hczg:wr.cell? ⟨g,0,none⟩=some (.int .i64 lf):=(blk_cell Hb.out 0).trans rfl
      have hfzg:=bkF Hb.out 0
      have p1:(0≤(i:Int))=True:=eq_true (by omega)
      have p2:((i:Int) < (l.length:Int))=True:=eq_true (by omega)
      have p3:(i < l.length)=True:=eq_true (by omega)
      generalize hx:rd_T36 l (i:Int)=x at *
      have Hx:=Az.mk hx
      clear hx
      go_wp2_with (
        (with_reducible refine gate_dst (N:=7) rfl ?_)
        refine box_event ?hg (N:=7) ?hd (cs:=#[.int .i64 0,.int .i64 0,.slice none 0 0]) (t:=36) ?hr ?_
        (case hd=>rfl)
        (case hg=>rfl)
        (case hr=>first | (go_simp; done) | (go_simp; rfl))
        intro gi hgi w3 hbox3 hb3
        have hsz:=below_size HB.out
        have hkz:=keep_size HK.out
        have hgiw:w0.heap.size≤gi:=by omega
        have hgiw2:w.heap.size≤gi:=by omega
        have HB3:=Az.mk (bset (g:=gi) (j:=2) (v:=.slice A1 x.f2.length c1) (bset (g:=gi) (j:=1) (v:=.int .i64 x.f1) (bset (g:=gi) (j:=0) (v:=.int .i64 x.f0) (bst HB.out hb3) hgiw) hgiw) hgiw)
        have hgl2:=blk_lt Hb.out
        have hne3:g≠gi:=by omega
        have hne4:gb≠gi:=by have:=blk_lt Hbox.out; omega
        have Hb3:=Az.mk (blk_far (p:=⟨gi,2,none⟩) (blk_far (p:=⟨gi,1,none⟩) (blk_far (p:=⟨gi,0,none⟩) (bkB Hb.out hb3) hne3 (.int .i64 x.f0)) hne3 (.int .i64 x.f1)) hne3 (.slice A1 x.f2.length c1))
        have Hbox3:=Az.mk (blk_far (p:=⟨gi,2,none⟩) (blk_far (p:=⟨gi,1,none⟩) (blk_far (p:=⟨gi,0,none⟩) (bkB Hbox.out hb3) hne4 (.int .i64 x.f0)) hne4 (.int .i64 x.f1)) hne4 (.slice A1 x.f2.length c1))
        have HK3:=Az.mk (keep_far (p:=⟨gi,2,none⟩) (keep_far (p:=⟨gi,1,none⟩) (keep_far (p:=⟨gi,0,none⟩) (KeepBut.trans HK.out (KeepBut.of_below hb3 g none) (.inl rfl)) hgiw2 (.int .i64 x.f0)) hgiw2 (.int .i64 x.f1)) hgiw2 (.slice A1 x.f2.length c1))
        have Hgi:=Az.mk (blk_put (cs':=#[.int .i64 x.f0,.int .i64 x.f1,.slice A1 x.f2.length c1]) (blk_put (cs':=#[.int .i64 x.f0,.int .i64 x.f1,.slice none 0 0]) (blk_put (cs':=#[.int .i64 x.f0,.int .i64 0,.slice none 0 0]) hbox3 0 (.int .i64 x.f0) rfl) 1 (.int .i64 x.f1) rfl) 2 (.slice A1 x.f2.length c1) rfl)
        have hci0:(((w3.setCell ⟨gi,0,none⟩ (.int .i64 x.f0)).setCell ⟨gi,1,none⟩ (.int .i64 x.f1)).setCell ⟨gi,2,none⟩ (.slice A1 x.f2.length c1)).cell? ⟨gi,0,none⟩=some (.int .i64 x.f0):=(blk_cell Hgi.out 0).trans rfl
        have hci1:(((w3.setCell ⟨gi,0,none⟩ (.int .i64 x.f0)).setCell ⟨gi,1,none⟩ (.int .i64 x.f1)).setCell ⟨gi,2,none⟩ (.slice A1 x.f2.length c1)).cell? ⟨gi,1,none⟩=some (.int .i64 x.f1):=(blk_cell Hgi.out 1).trans rfl
        have hci2:(((w3.setCell ⟨gi,0,none⟩ (.int .i64 x.f0)).setCell ⟨gi,1,none⟩ (.int .i64 x.f1)).setCell ⟨gi,2,none⟩ (.slice A1 x.f2.length c1)).cell? ⟨gi,2,none⟩=some (.slice A1 x.f2.length c1):=(blk_cell Hgi.out 2).trans rfl
        have hcz0:=(blk_cell hbox3 0).trans rfl
        have hcz1:=(blk_cell hbox3 1).trans rfl
        have hcz2:=(blk_cell hbox3 2).trans rfl
        have hfz0:=bkF hbox3 0
        have hfz1:=bkF hbox3 1
        have hfz2:=bkF hbox3 2
        have hczg:(((w3.setCell ⟨gi,0,none⟩ (.int .i64 x.f0)).setCell ⟨gi,1,none⟩ (.int .i64 x.f1)).setCell ⟨gi,2,none⟩ (.slice A1 x.f2.length c1)).cell? ⟨g,0,none⟩=some (.int .i64 lf):=(blk_cell Hb3.out 0).trans rfl
        clear hbox3 hb3 hsz hkz hgi hgl2 HB HK Hb Hbox)
      · have hneg:lf < 0:=by assumption
        go_ret
        have e1:tmeas ⟨p,q,l⟩ left=(0,lf):=by rw [← Hm.out,hdrop.out,tmeasL,if_pos hneg]
        rw [e1]
        exact ⟨rfl,HB3.out,HK3.out,Hb3.out⟩
      · have hneg:0≤lf:=by first | assumption | omega
        have hbd:=Az.mk (tmeas_bd x lf hneg)
        have hxe:x=⟨x.f0,x.f1,x.f2⟩:=by cases x; rfl
        have Hxe:=Az.mk hxe
        clear hxe
        (with_reducible refine (IH.out x.f0 x.f1 x.f2 A1 c1 g lf w0 _ ?_ Hi1.out Hl1.out HB3.out HG.out Hb3.out ?_ ?_).mono ?_)
        · have:=hmem.out; have:=HN.out; omega
        · omega
        · omega
        rintro e w4 ⟨rfl,hB4,hK4,hb4⟩
        rw [← Hxe.out] at hb4 ⊢
        have HB:=Az.mk hB4
        have HK:=Az.mk (KeepBut.trans HK3.out hK4 (.inl rfl))
        have Hb:=Az.mk hb4
        have Hbox:=Az.mk (KeepBut.blk hK4 Hbox3.out (Ne.symm hne) (by simp))
        clear hB4 hK4 hb4 HB3 HK3 Hb3 Hbox3
        have hmx:(if d < (tmeas x lf).1 then (tmeas x lf).1 else d)=mx d (tmeas x lf).1:=rfl
        go_wp2_with fail
        clear hmx
        have hk:=Hi.out
        obtain ⟨k1,rfl⟩:∃ k1,gk=k1+1:=⟨gk - 1,by omega⟩
        go_roundg k1
        case measure=>omega
        case rel =>
          have hmx:=mx_ge d (tmeas x lf).1
          have hb1:=hbd.out
          refine ⟨i+1,mx d (tmeas x lf).1,(tmeas x lf).2,rfl,by go_num,⟨by omega⟩,⟨?_⟩,⟨by clear hczg; omega⟩,Hb,Hbox,HB,HK⟩
          rw [← Hm.out,hdrop.out,tmeasL,if_neg (by omega)]
    · have hie:i=l.length:=by omega
      go_wp2_with fail
      go_ret
      have e1:tmeas ⟨p,q,l⟩ left=(d+1,lf):=by rw [← Hm.out,hie,List.drop_length,tmeasL]
      rw [e1]
      exact ⟨rfl,HB.out,HK.out,Hb.out⟩
def term_Size.f (a0_0 a0_1:Int) (l0_2:List S36):Option (Int × Int):=some (if (tmeas ⟨a0_0,a0_1,l0_2⟩ 100000).2 < 0 then (100001,0) else (100000 - (tmeas ⟨a0_0,a0_1,l0_2⟩ 100000).2,(tmeas ⟨a0_0,a0_1,l0_2⟩ 100000).1))
theorem term_Size.calls (a0_0 a0_1:Int) (A0_2:Option Addr) (c0_2:Nat) (l0_2:List S36) (r1 r2:Int) (w:World) (hr0_2:Kd.C k36 w A0_2 l0_2.length l0_2) (hc0_2:l0_2.length≤c0_2) (h:term_Size.f a0_0 a0_1 l0_2=some (r1,r2)) :
    Calls Try.prog 55 #[.agg #[.int .i64 a0_0,.int .i64 a0_1,.slice A0_2 l0_2.length c0_2]] w fun e w'=>e=.returned (.tuple #[.int .i64 r1,.int .i64 r2])∧Below w.heap.size w w':=by
  have hu36:=Try.underlying36
  have HR:=Az.mk hr0_2
  have HC:=Az.mk hc0_2
  have hbd:=Az.mk (tmeas_bd ⟨a0_0,a0_1,l0_2⟩ 100000 (by omega))
  have Hh:=Az.mk h
  clear h hr0_2 hc0_2
  go_enter Try.func55,Try.ntmps55
  go_wp2_with (first
   | ((with_reducible refine gate_dst (N:=1) rfl ?_)
      refine box_event ?hg (N:=1) ?hd (cs:=#[.int .i64 a0_0,.int .i64 a0_1,.slice A0_2 l0_2.length c0_2]) (t:=36) ?hr ?_
      (case hd=>rfl)
      (case hg=>rfl)
      (case hr=>first | (go_simp; done) | (go_simp; rfl))
      intro gb hgb w2 hbox hb2
      have HB2:=Az.mk hb2
      have Hgb:=Az.mk hgb
      have Hbox:=Az.mk hbox
      have hne0:=blk_lt hbox
      clear hbox hb2 hgb)
   | ((with_reducible refine gate_dst (N:=4) rfl ?_)
      refine box_event ?hg (N:=4) ?hd (cs:=#[.int .i64 0]) (t:=3) ?hr ?_
      (case hd=>rfl)
      (case hg=>rfl)
      (case hr=>first | (go_simp; done) | (go_simp; rfl))
      intro g hg w3 hb hb3
      have hsz:=HB2.out.size
      have HG:=Az.mk (show w.heap.size≤g by omega)
      have HB3:=Az.mk (bset (j:=0) (v:=.int .i64 100000) (bst HB2.out hb3) HG.out)
      have hne:gb≠g:=by omega
      have Hbox3:=Az.mk (blk_far (p:=⟨g,0,none⟩) (bkB Hbox.out hb3) hne (.int .i64 100000))
      have Hb3:=Az.mk (blk_put (cs':=#[.int .i64 100000]) hb 0 (.int .i64 100000) rfl)
      have hcz:=(blk_cell hb 0).trans rfl
      have hfz:=bkF hb 0
      have hcb0:(w3.setCell ⟨g,0,none⟩ (.int .i64 100000)).cell? ⟨gb,0,none⟩=some (.int .i64 a0_0):=(blk_cell Hbox3.out 0).trans rfl
      have hcb1:(w3.setCell ⟨g,0,none⟩ (.int .i64 100000)).cell? ⟨gb,1,none⟩=some (.int .i64 a0_1):=(blk_cell Hbox3.out 1).trans rfl
      have hcb2:(w3.setCell ⟨g,0,none⟩ (.int .i64 100000)).cell? ⟨gb,2,none⟩=some (.slice A0_2 l0_2.length c0_2):=(blk_cell Hbox3.out 2).trans rfl
      clear hb hb3 hg))
  (with_reducible refine (tmeasure_calls (SizeOf.sizeOf l0_2+1) a0_0 a0_1 l0_2 A0_2 c0_2 g 100000 w _ (by omega) HR.out HC.out HB3.out HG.out Hb3.out (by omega) (by omega)).mono ?_)
  rintro e w4 ⟨rfl,hB4,hK4,hb4⟩
  have HB:=Az.mk hB4
  have hcg:w4.cell? ⟨g,0,none⟩=some (.int .i64 (tmeas ⟨a0_0,a0_1,l0_2⟩ 100000).2):=(blk_cell hb4 0).trans rfl
  clear hB4 hK4 hb4 hcb0 hcb1 hcb2
  have hb1:=hbd.out.1
  have hb2:=hbd.out.2.1
  by_cases hneg:(tmeas ⟨a0_0,a0_1,l0_2⟩ 100000).2 < 0
  · have e1:=Hh.out
    simp only [term_Size.f,if_pos hneg,Option.some.injEq,Prod.mk.injEq] at e1
    obtain ⟨rfl,rfl⟩:=e1
    go_wp2_with fail
    go_ret2
    exact ⟨rfl,HB.out⟩
  · have e1:=Hh.out
    simp only [term_Size.f,if_neg hneg,Option.some.injEq,Prod.mk.injEq] at e1
    obtain ⟨rfl,rfl⟩:=e1
    go_wp2_with fail
    go_ret2
    exact ⟨rfl,HB.out⟩
end Go.Proofs.Ytkgknidogelffaa.I
