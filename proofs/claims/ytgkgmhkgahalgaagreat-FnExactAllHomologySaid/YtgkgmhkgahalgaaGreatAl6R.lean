/-
  The statement FnExactAllHomology out of its one pure sentence: for every input, in some number of rounds, the list function of the law says true.
-/
import Derived.Test.YtgkgmhkgahalgaaGreatRows
import Derived.Test.YtgkgmhkgahalgaaGreatAlW1
import Derived.Test.YtgkgmhkgahalgaaGreatAlW2
import Derived.Test.YtgkgmhkgahalgaaGreatAlW3
import Derived.Test.YtgkgmhkgahalgaaGreatAlW4
import Derived.Test.YtgkgmhkgahalgaaGreatAlW5
import Derived.Test.YtgkgmhkgahalgaaGreatAlW6
import Derived.Test.YtgkgmhkgahalgaaGreatAlW7
import Derived.Test.YtgkgmhkgahalgaaGreatAlW8
import Derived.Test.YtgkgmhkgahalgaaGreatAlW12
import Derived.Test.YtgkgmhkgahalgaaGreatSlS
import Derived.ChangeMaps5
import Derived.WalkKit
import Derived.ProofKit
import Derived.OpenShut
import Derived.ShutString
import Derived.ChangeOld
import Derived.Below
import Derived.SizedLaws
set_option linter.unusedVariables false
namespace Go.Proofs.YtgkgmhkgahalgaaGreat
open Go.ChangeShapes Go.WideShapes Go.ChangeAt Go.RowKit Go.Joins Go.Deep
structure Ku where
  Qn:List (List Aw)
abbrev Sd:Ty Ku:=Ty.iso (Ty.slice 80 (Ty.slice 129 Bb)) (fun x=>(x.Qn)) 1 rfl
theorem Mo:Reads Tryz.prog Bb (fun x=>((Lit.int .i64 x.Tet).wf=true∧(Lit.int .i64 x.Perm).wf=true)) 129:=Reads.uB (T:=(Ty.pair (Ad .i64) (Ad .i64))) (enc:=fun x:Aw=>[.int .i64 x.Tet,.int .i64 x.Perm]) (fun x:Aw=>(x.Tet,x.Perm)) (fun y=>(⟨y.1,y.2⟩:Aw)) (fun _=>rfl) (fun _ _=>rfl) (Reads.raw Tryz.underlying129 (by kernel_rfl) (Om.cons rfl rfl (by kernel_rfl) (Reads.int Tryz.underlying2) (Om.last rfl rfl (by kernel_rfl) rfl (Reads.int Tryz.underlying2))))
theorem Nb:Reads Tryz.prog Sd (fun x=>((x.Qn.length≤9223372036854775807∧∀ y0 ∈ x.Qn,(y0.length≤9223372036854775807∧∀ y1 ∈ y0,((Lit.int .i64 y1.Tet).wf=true∧(Lit.int .i64 y1.Perm).wf=true))))) 24:=Reads.wG (T:=(Ty.slice 80 (Ty.slice 129 Bb))) (U:=(Ty.slice 80 (Ty.slice 129 Bb))) (h:=fun x:Ku=>x.Qn) (n:=1) (hn:=rfl) (fun x:Ku=>x.Qn) (fun l=>l) (fun y=>(⟨y⟩:Ku)) (fun _=>rfl) (fun _ _=>rfl) (fun _ _ _ h=>h) (Reads.raw Tryz.underlying24 (by kernel_rfl) (Om.last rfl rfl (by kernel_rfl) rfl (Reads.slice ⟨none,0,(fun _=>())⟩ Tryz.underlying22 (by kernel_rfl) rfl (Reads.slice () Tryz.underlying80 (by kernel_rfl) rfl Mo))))
theorem Oy:ownKnob Tryz.prog.godebug=none:=by kernel_rfl
theorem M9:laidOutB Tryz.prog=true:=by kernel_rfl
def Lf:Prop:=∀ (x0:Ku),((x0.Qn.length≤9223372036854775807∧∀ y0 ∈ x0.Qn,(y0.length≤9223372036854775807∧∀ y1 ∈ y0,((Lit.int .i64 y1.Tet).wf=true∧(Lit.int .i64 y1.Perm).wf=true))))→∃ K,Gu.f K x0.Qn=some true
set_option maxRecDepth 100000 in
theorem Nf (pure:Lf) (os:Os) (started:os.Started) (H:Type) (enc:TypeId × Value→H) :
    ReturnsInHanded {} Tryz.checked os 6 .any (Rows.fnExactAllHomologySpec.pre6 enc Tryz.prog Tryz.f6 Rows.fnExactAllHomologyRow.domain false) (Rows.fnExactAllHomologySpec.post enc Tryz.prog Tryz.f6 false true false false):=by
  refine returnsInHanded_of_change_sized (C:=Tryz.checked) Oy started (by kernel_rfl) Tryz.func6
    (ChangeSpec.witness6 (enc:=enc) (C:=Tryz.checked) false ⟨#[],#[.agg #[.slice none 0 0]],[]⟩ 8 (by kernel_rfl) (by kernel_rfl) (by kernel_rfl) (by kernel_rfl)) ?_
  intro W base args ds gs before hval0 hW hcnd hsz0 _
  have hval:∀ (j:Nat) t v,Tryz.f6.params[j]?=some t→args[j]?=some v→Value.okWide Tryz.prog W .any base t v:=hval0
  have hW':=hW
  obtain ⟨p,q,hA0,hV,rfl,hfz,hnd⟩:=hW
  have hA:DataW.TrodAll enc Tryz.prog W 0 (fun _=>true) true Tryz.f6.params.toList args.toList ds p:=hA0
  rw [Tryz.params6] at hA hval
  obtain ⟨v0,vs0,d0,ds0,p0,q0,hargs,rfl,rfl,h0,r0⟩:=trodAll_cons hA
  obtain ⟨rfl,rfl,rfl⟩:=trodAll_nil r0
  obtain rfl:args=#[v0]:=by cases args; simp_all
  obtain ⟨rfl,rfl⟩:=trodVars_none hV
  have t0:=h0
  have lt0:∀ x ∈ p0,x.block<W.heap.size:=by obtain ⟨m,hm⟩:=t0; exact DataW.trod_lt m _ _ _ hm
  obtain ⟨l0,x0,rfl,k0,w0⟩:=dG Nb Tryz.underlying24 (hval 0 24 v0 rfl rfl) h0
  clear hA0 hval0 hsz0
  obtain ⟨K,hK⟩:=pure x0 w0
  refine (Gu.calls (St.refl W) (Ce.old k0) hK).mono fun e W' ⟨he,bel0⟩=>?_
  have bel:=bel0.below
  subst he
  exact ⟨_,rfl,_,_,_,[],_,[],hW',trodAll_mk1 (shut_bool Tryz.underlying4 _),(trodAll_cons_mk (Below.trod M9 (by kernel_rfl) (of_decide_eq_true (by kernel_rfl)) t0 bel lt0) trodAll_mk0),rfl,bel.frame _,fun h=>by cases h⟩
set_option maxHeartbeats 40000000 in
theorem Nc:joinedFacts Tryz.pinned.checked.prog 6 Tryz.f6 Rows.fnExactAllHomologySpec Rows.fnExactAllHomologyRow=true:=by
  unfold joinedFacts
  simp only [Bool.and_eq_true]
  repeat' apply And.intro
  all_goals as_aux_lemma=>kernel_rfl
theorem Me:Tryz.pinned.checked.prog.funcNamed Rows.fnExactAllHomologyRow.func=some 6:=by kernel_rfl
theorem Oc:Tryz.f6.isInstance Tryz.pinned.checked.prog Rows.fnExactAllHomologyRow.origin Rows.fnExactAllHomologyRow.targs:=of_decide_eq_true (by kernel_rfl)
theorem Nv:Tryz.f6.isWrapper Tryz.pinned.checked.prog Rows.fnExactAllHomologyRow.wrapper Rows.fnExactAllHomologyRow.mainSum:=by unfold Func.isWrapper; first | (rw [if_pos (by decide +kernel)]; kernel_rfl) | (rw [if_neg (by decide +kernel)]; exact ⟨rfl,rfl⟩)
theorem O6 (pure:Lf):Rows.FnExactAllHomologySaid :=
  OpenClaim.holds_of_wide 6 Tryz.f6 rfl rfl rfl rfl rfl rfl rfl ⟨rfl,rfl,rfl,rfl,rfl⟩ rfl rfl rfl rfl rfl Me Tryz.func6 Nc
    Oc Nv
    (fun os started H enc _=>Nf pure os started H enc)
end Go.Proofs.YtgkgmhkgahalgaaGreat
