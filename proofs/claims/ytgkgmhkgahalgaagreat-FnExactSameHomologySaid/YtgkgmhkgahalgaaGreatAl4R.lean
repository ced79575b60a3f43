/-
  The statement FnExactSameHomology out of its one pure sentence: for every input, in some number of rounds, the list function of the law says true.
-/
import Derived.Test.YtgkgmhkgahalgaaGreatRows
import Derived.Test.YtgkgmhkgahalgaaGreatAlW1
import Derived.Test.YtgkgmhkgahalgaaGreatAlW2
import Derived.Test.YtgkgmhkgahalgaaGreatAlW3
import Derived.Test.YtgkgmhkgahalgaaGreatAlW4
import Derived.Test.YtgkgmhkgahalgaaGreatAlW5
import Derived.Test.YtgkgmhkgahalgaaGreatAlW7
import Derived.Test.YtgkgmhkgahalgaaGreatAlW10
import Derived.Test.YtgkgmhkgahalgaaGreatSlS
import Derived.ChangeMaps5
import Derived.WalkKit
import Derived.ProofKit
import Derived.OpenShut
import Derived.ShutString
import Derived.ChangeOld
import Derived.Below
import Derived.SizedLaws
set_option linter.unusedVariables false
namespace Go.Proofs.YtgkgmhkgahalgaaGreat
open Go.ChangeShapes Go.WideShapes Go.ChangeAt Go.RowKit Go.Joins Go.Deep
structure Ke where
  Me:List (List Bc)
abbrev Ry:Ty Ke:=Ty.iso (Ty.slice 80 (Ty.slice 129 Be)) (fun x=>(x.Me)) 1 rfl
theorem Mg:Reads Tryz.prog Be (fun x=>((Lit.int .i64 x.Tet).wf=true∧(Lit.int .i64 x.Perm).wf=true)) 129:=Reads.sG (T:=(Ty.pair (Ad .i64) (Ad .i64))) (enc:=fun x:Bc=>[.int .i64 x.Tet,.int .i64 x.Perm]) (fun x:Bc=>(x.Tet,x.Perm)) (fun y=>(⟨y.1,y.2⟩:Bc)) (fun _=>rfl) (fun _ _=>rfl) (Reads.raw Tryz.underlying129 (by kernel_rfl) (Od.cons rfl rfl (by kernel_rfl) (Reads.int Tryz.underlying2) (Od.last rfl rfl (by kernel_rfl) rfl (Reads.int Tryz.underlying2))))
theorem Km:Reads Tryz.prog Ry (fun x=>((x.Me.length≤9223372036854775807∧∀ y0 ∈ x.Me,(y0.length≤9223372036854775807∧∀ y1 ∈ y0,((Lit.int .i64 y1.Tet).wf=true∧(Lit.int .i64 y1.Perm).wf=true))))) 24:=Reads.vF (T:=(Ty.slice 80 (Ty.slice 129 Be))) (U:=(Ty.slice 80 (Ty.slice 129 Be))) (h:=fun x:Ke=>x.Me) (n:=1) (hn:=rfl) (fun x:Ke=>x.Me) (fun l=>l) (fun y=>(⟨y⟩:Ke)) (fun _=>rfl) (fun _ _=>rfl) (fun _ _ _ h=>h) (Reads.raw Tryz.underlying24 (by kernel_rfl) (Od.last rfl rfl (by kernel_rfl) rfl (Reads.slice ⟨none,0,(fun _=>())⟩ Tryz.underlying22 (by kernel_rfl) rfl (Reads.slice () Tryz.underlying80 (by kernel_rfl) rfl Mg))))
theorem Nl:ownKnob Tryz.prog.godebug=none:=by kernel_rfl
theorem Ko:laidOutB Tryz.prog=true:=by kernel_rfl
def K8:Prop:=∀ (x0:Ke) (x1:Ke),((x0.Me.length≤9223372036854775807∧∀ y0 ∈ x0.Me,(y0.length≤9223372036854775807∧∀ y1 ∈ y0,((Lit.int .i64 y1.Tet).wf=true∧(Lit.int .i64 y1.Perm).wf=true))))→((x1.Me.length≤9223372036854775807∧∀ y0 ∈ x1.Me,(y0.length≤9223372036854775807∧∀ y1 ∈ y0,((Lit.int .i64 y1.Tet).wf=true∧(Lit.int .i64 y1.Perm).wf=true))))→∃ K,Gn.f K x0.Me x1.Me=some true
set_option maxRecDepth 100000 in
theorem Mw (pure:K8) (os:Os) (started:os.Started) (H:Type) (enc:TypeId × Value→H) :
    ReturnsInHanded {} Tryz.checked os 4 .any (Rows.fnExactSameHomologySpec.pre6 enc Tryz.prog Tryz.f4 Rows.fnExactSameHomologyRow.domain false) (Rows.fnExactSameHomologySpec.post enc Tryz.prog Tryz.f4 false true false false):=by
  refine returnsInHanded_of_change_sized (C:=Tryz.checked) Nl started (by kernel_rfl) Tryz.func4
    (ChangeSpec.witness6 (enc:=enc) (C:=Tryz.checked) false ⟨#[],#[.agg #[.slice none 0 0],.agg #[.slice none 0 0]],[]⟩ 8 (by kernel_rfl) (by kernel_rfl) (by kernel_rfl) (by kernel_rfl)) ?_
  intro W base args ds gs before hval0 hW hcnd hsz0 _
  have hval:∀ (j:Nat) t v,Tryz.f4.params[j]?=some t→args[j]?=some v→Value.okWide Tryz.prog W .any base t v:=hval0
  have hW':=hW
  obtain ⟨p,q,hA0,hV,rfl,hfz,hnd⟩:=hW
  have hA:DataW.TrodAll enc Tryz.prog W 0 (fun _=>true) true Tryz.f4.params.toList args.toList ds p:=hA0
  rw [Tryz.params4] at hA hval
  obtain ⟨v0,vs0,d0,ds0,p0,q0,hargs,rfl,rfl,h0,r0⟩:=trodAll_cons hA
  obtain ⟨v1,vs1,d1,ds1,p1,q1,rfl,rfl,rfl,h1,r1⟩:=trodAll_cons r0
  obtain ⟨rfl,rfl,rfl⟩:=trodAll_nil r1
  obtain rfl:args=#[v0,v1]:=by cases args; simp_all
  obtain ⟨rfl,rfl⟩:=trodVars_none hV
  have t0:=h0
  have lt0:∀ x ∈ p0,x.block<W.heap.size:=by obtain ⟨m,hm⟩:=t0; exact DataW.trod_lt m _ _ _ hm
  obtain ⟨l0,x0,rfl,k0,w0⟩:=U7 Km Tryz.underlying24 (hval 0 24 v0 rfl rfl) h0
  have t1:=h1
  have lt1:∀ x ∈ p1,x.block<W.heap.size:=by obtain ⟨m,hm⟩:=t1; exact DataW.trod_lt m _ _ _ hm
  obtain ⟨l1,x1,rfl,k1,w1⟩:=U7 Km Tryz.underlying24 (hval 1 24 v1 rfl rfl) h1
  clear hA0 hval0 hsz0
  obtain ⟨K,hK⟩:=pure x0 x1 w0 w1
  refine (Gn.calls (St.refl W) (Cf.old k0) (Cf.old k1) hK).mono fun e W' ⟨he,bel0⟩=>?_
  have bel:=bel0.below
  subst he
  exact ⟨_,rfl,_,_,_,[],_,[],hW',trodAll_mk1 (shut_bool Tryz.underlying4 _),(trodAll_cons_mk (Below.trod Ko (by kernel_rfl) (of_decide_eq_true (by kernel_rfl)) t0 bel lt0) (trodAll_cons_mk (Below.trod Ko (by kernel_rfl) (of_decide_eq_true (by kernel_rfl)) t1 bel lt1) trodAll_mk0)),rfl,bel.frame _,fun h=>by cases h⟩
set_option maxHeartbeats 40000000 in
theorem M0:joinedFacts Tryz.pinned.checked.prog 4 Tryz.f4 Rows.fnExactSameHomologySpec Rows.fnExactSameHomologyRow=true:=by
  unfold joinedFacts
  simp only [Bool.and_eq_true]
  repeat' apply And.intro
  all_goals as_aux_lemma=>kernel_rfl
theorem Ma:Tryz.pinned.checked.prog.funcNamed Rows.fnExactSameHomologyRow.func=some 4:=by kernel_rfl
theorem Nf:Tryz.f4.isInstance Tryz.pinned.checked.prog Rows.fnExactSameHomologyRow.origin Rows.fnExactSameHomologyRow.targs:=of_decide_eq_true (by kernel_rfl)
theorem Ng:Tryz.f4.isWrapper Tryz.pinned.checked.prog Rows.fnExactSameHomologyRow.wrapper Rows.fnExactSameHomologyRow.mainSum:=by unfold Func.isWrapper; first | (rw [if_pos (by decide +kernel)]; kernel_rfl) | (rw [if_neg (by decide +kernel)]; exact ⟨rfl,rfl⟩)
theorem Om (pure:K8):Rows.FnExactSameHomologySaid :=
  OpenClaim.holds_of_wide 4 Tryz.f4 rfl rfl rfl rfl rfl rfl rfl ⟨rfl,rfl,rfl,rfl,rfl⟩ rfl rfl rfl rfl rfl Ma Tryz.func4 M0
    Nf Ng
    (fun os started H enc _=>Mw pure os started H enc)
end Go.Proofs.YtgkgmhkgahalgaaGreat
