/- The row of the law ClosurePlays: for every input it returns true, and its arguments read as they did. By this session's program vrow.py. -/
import Derived.Test.YtkgknidogelffaaRows
import Derived.WalkKit
import Derived.ProofKit
import Derived.OpenShut
import Derived.ShutString
import Derived.ChangeOld
import Derived.Below
import Derived.SizedLaws
import Derived.Carry
import Derived.Test.YtkgknidogelffaaS8
namespace Go.Proofs.Ytkgknidogelffaa.closurePlays
open Go.ChangeShapes Go.WideShapes Go.ChangeAt Go.RowKit Go.Proofs.YtkgknidogelffaaW.PrintWords Go.Proofs.Ytkgknidogelffaa.VOpen Go.Proofs.Ytkgknidogelffaa.I
open Go.ChangeMaps (open_string shut_string)
set_option linter.unusedVariables false
theorem own:ownKnob Try.prog.godebug=none:=by kernel_rfl
theorem laidOut:laidOutB Try.prog=true:=by kernel_rfl
def Pure:Prop:=∀ (x0:S25) (x1:(List S57)),(wf25 x0)→(x1.length≤9223372036854775807∧(∀ y_,y_ ∈ x1→wf57 y_))→∃ k,virgationlaw08_ClosurePlays.f k x0.f0 x0.f1 x1=some true
set_option maxRecDepth 100000 in
theorem lifted (P:Pure) (os:Os) (started:os.Started) (H:Type) (enc:TypeId × Value→H) :
    ReturnsInHanded {} Try.checked os 4 .any (Rows.closurePlaysSpec.pre6 enc Try.prog Try.f4 Rows.closurePlaysRow.domain false) (Rows.closurePlaysSpec.post enc Try.prog Try.f4 false true false false):=by
  refine returnsInHanded_of_change_sized (C:=Try.checked) own started (by kernel_rfl) Try.func4
    (ChangeSpec.witness6 (enc:=enc) (C:=Try.checked) false ⟨#[],#[.agg #[.slice none 0 0,.slice none 0 0],.slice none 0 0],[]⟩ 8 (by kernel_rfl) (by kernel_rfl) (by kernel_rfl) (by kernel_rfl)) ?_
  intro W base args ds gs before hval0 hW hcnd hsz0 _
  have hval:∀ (j:Nat) t v,Try.f4.params[j]?=some t→args[j]?=some v→Value.okWide Try.prog W .any base t v:=hval0
  have hW':=hW
  obtain ⟨p,q,hA0,hV,rfl,hfz,hnd⟩:=hW
  have hA:DataW.TrodAll enc Try.prog W 0 (fun _=>true) true Try.f4.params.toList args.toList ds p:=hA0
  rw [Try.params4] at hA hval
  obtain ⟨v0,vs0,d0,ds0,p0,q0,hargs,rfl,rfl,h0,r0⟩:=trodAll_cons hA
  obtain ⟨v1,vs1,d1,ds1,p1,q1,rfl,rfl,rfl,h1,r1⟩:=trodAll_cons r0
  obtain ⟨rfl,rfl,rfl⟩:=trodAll_nil r1
  obtain rfl:args=#[v0,v1]:=by cases args; simp_all
  obtain ⟨rfl,rfl⟩:=trodVars_none hV
  have k0:=h0
  have lt0:∀ x ∈ p0,x.block < W.heap.size:=by obtain ⟨m,hm⟩:=k0; exact DataW.trod_lt m _ _ _ hm
  obtain ⟨cs0,rfl,_⟩:=okWide_struct Try.underlying25 (hval 0 25 v0 rfl rfl)
  obtain ⟨fu0,hf0⟩:=h0
  obtain ⟨x0,o0,w0⟩:=open25 fu0 _ _ hf0
  obtain ⟨A0_0,c0_0,A0_1,c0_1,e0,lc0_0,g0_0,lc0_1,g0_1⟩:=o0
  obtain rfl:cs0=#[.slice A0_0 x0.f0.length c0_0,.slice A0_1 x0.f1.length c0_1]:=by apply Array.toList_inj.1; simpa [Value.cells] using e0
  have k1:=h1
  have lt1:∀ x ∈ p1,x.block < W.heap.size:=by obtain ⟨m,hm⟩:=k1; exact DataW.trod_lt m _ _ _ hm
  obtain ⟨a1,len1,cap1,rfl⟩:=okWide_slice Try.underlying49 (hval 1 49 v1 rfl rfl)
  obtain ⟨fu1,hf1⟩:=h1
  obtain ⟨A1,c1,x1,e1,lc1,g1,hl1,hw1⟩:=slice_open k57 (fun y_=>wf57 y_) Try.underlying49 (by kernel_rfl) (fun m_ hm_ cs_ x_ h_=>K57 (open57 m_ cs_ x_ h_)) hf1
  obtain ⟨rfl,rfl,rfl⟩:a1=A1∧len1=x1.length∧cap1=c1:=by simpa [Value.cells] using e1
  clear hA0 hval0 hsz0
  obtain ⟨k,hk⟩:=P x0 x1 w0 ⟨hl1,hw1⟩
  refine (virgationlaw08_ClosurePlays.calls k _ _ x0.f0 _ _ x0.f1 _ _ x1 true W g0_0 lc0_0 g0_1 lc0_1 g1 lc1 hk).mono fun e W' ⟨he,bel0⟩=>?_
  have bel:Below W.heap.size W W':=bel0
  subst he
  exact ⟨_,rfl,_,_,_,[],_,[],hW',trodAll_mk1 (shut_bool Try.underlying4 _),(trodAll_cons_mk (Below.trod laidOut (by kernel_rfl) (of_decide_eq_true (by kernel_rfl)) k0 bel lt0) (trodAll_cons_mk (Below.trod laidOut (by kernel_rfl) (of_decide_eq_true (by kernel_rfl)) k1 bel lt1) trodAll_mk0)),rfl,bel.frame _,fun h=>by cases h⟩
theorem over (P:Pure):Rows.closurePlaysRow.holds Try.pinned (OpenSpec.ofChange Rows.closurePlaysSpec) :=
  OpenClaim.holds_of_wide 4 Try.f4 rfl rfl rfl rfl rfl rfl rfl ⟨rfl,rfl,rfl,rfl,rfl⟩ rfl rfl rfl rfl rfl (by kernel_rfl) Try.func4 (by kernel_rfl)
    (of_decide_eq_true (by kernel_rfl)) (by unfold Func.isWrapper; first | (rw [if_pos (by decide +kernel)]; kernel_rfl) | (rw [if_neg (by decide +kernel)]; exact ⟨rfl,rfl⟩))
    (fun os started H enc _=>lifted P os started H enc)
end Go.Proofs.Ytkgknidogelffaa.closurePlays
namespace Go.Proofs.Ytkgknidogelffaa
theorem closurePlays_holds:Rows.ClosurePlaysSaid:=closurePlays.over (I.pure_ClosurePlays)
#print axioms closurePlays_holds
end Go.Proofs.Ytkgknidogelffaa
