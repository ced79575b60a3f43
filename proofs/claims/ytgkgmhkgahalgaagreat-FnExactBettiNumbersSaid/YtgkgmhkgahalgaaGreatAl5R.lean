/-
  The statement FnExactBettiNumbers out of its one pure sentence: for every input, in some number of rounds, the list function of the law says true.
-/
import Derived.Test.YtgkgmhkgahalgaaGreatRows
import Derived.Test.YtgkgmhkgahalgaaGreatAlW1
import Derived.Test.YtgkgmhkgahalgaaGreatAlW2
import Derived.Test.YtgkgmhkgahalgaaGreatAlW3
import Derived.Test.YtgkgmhkgahalgaaGreatAlW4
import Derived.Test.YtgkgmhkgahalgaaGreatAlW5
import Derived.Test.YtgkgmhkgahalgaaGreatAlW6
import Derived.Test.YtgkgmhkgahalgaaGreatAlW7
import Derived.Test.YtgkgmhkgahalgaaGreatAlW11
import Derived.Test.YtgkgmhkgahalgaaGreatSlS
import Derived.ChangeMaps5
import Derived.WalkKit
import Derived.ProofKit
import Derived.OpenShut
import Derived.ShutString
import Derived.ChangeOld
import Derived.Below
import Derived.SizedLaws
set_option linter.unusedVariables false
namespace Go.Proofs.YtgkgmhkgahalgaaGreat
open Go.ChangeShapes Go.WideShapes Go.ChangeAt Go.RowKit Go.Joins Go.Deep
structure Kq where
  Qh:List (List Av)
abbrev R5:Ty Kq:=Ty.iso (Ty.slice 80 (Ty.slice 129 Az)) (fun x=>(x.Qh)) 1 rfl
theorem Md:Reads Tryz.prog Az (fun x=>((Lit.int .i64 x.Tet).wf=true∧(Lit.int .i64 x.Perm).wf=true)) 129:=Reads.tL (T:=(Ty.pair (Ad .i64) (Ad .i64))) (enc:=fun x:Av=>[.int .i64 x.Tet,.int .i64 x.Perm]) (fun x:Av=>(x.Tet,x.Perm)) (fun y=>(⟨y.1,y.2⟩:Av)) (fun _=>rfl) (fun _ _=>rfl) (Reads.raw Tryz.underlying129 (by kernel_rfl) (Og.cons rfl rfl (by kernel_rfl) (Reads.int Tryz.underlying2) (Og.last rfl rfl (by kernel_rfl) rfl (Reads.int Tryz.underlying2))))
theorem Mi:Reads Tryz.prog R5 (fun x=>((x.Qh.length≤9223372036854775807∧∀ y0 ∈ x.Qh,(y0.length≤9223372036854775807∧∀ y1 ∈ y0,((Lit.int .i64 y1.Tet).wf=true∧(Lit.int .i64 y1.Perm).wf=true))))) 24:=Reads.vX (T:=(Ty.slice 80 (Ty.slice 129 Az))) (U:=(Ty.slice 80 (Ty.slice 129 Az))) (h:=fun x:Kq=>x.Qh) (n:=1) (hn:=rfl) (fun x:Kq=>x.Qh) (fun l=>l) (fun y=>(⟨y⟩:Kq)) (fun _=>rfl) (fun _ _=>rfl) (fun _ _ _ h=>h) (Reads.raw Tryz.underlying24 (by kernel_rfl) (Og.last rfl rfl (by kernel_rfl) rfl (Reads.slice ⟨none,0,(fun _=>())⟩ Tryz.underlying22 (by kernel_rfl) rfl (Reads.slice () Tryz.underlying80 (by kernel_rfl) rfl Md))))
theorem Nw:ownKnob Tryz.prog.godebug=none:=by kernel_rfl
theorem Mm:laidOutB Tryz.prog=true:=by kernel_rfl
def K9:Prop:=∀ (x0:Kq),((x0.Qh.length≤9223372036854775807∧∀ y0 ∈ x0.Qh,(y0.length≤9223372036854775807∧∀ y1 ∈ y0,((Lit.int .i64 y1.Tet).wf=true∧(Lit.int .i64 y1.Perm).wf=true))))→∃ K,Gq.f K x0.Qh=some true
set_option maxRecDepth 100000 in
theorem Mt (pure:K9) (os:Os) (started:os.Started) (H:Type) (enc:TypeId × Value→H) :
    ReturnsInHanded {} Tryz.checked os 5 .any (Rows.fnExactBettiNumbersSpec.pre6 enc Tryz.prog Tryz.f5 Rows.fnExactBettiNumbersRow.domain false) (Rows.fnExactBettiNumbersSpec.post enc Tryz.prog Tryz.f5 false true false false):=by
  refine returnsInHanded_of_change_sized (C:=Tryz.checked) Nw started (by kernel_rfl) Tryz.func5
    (ChangeSpec.witness6 (enc:=enc) (C:=Tryz.checked) false ⟨#[],#[.agg #[.slice none 0 0]],[]⟩ 8 (by kernel_rfl) (by kernel_rfl) (by kernel_rfl) (by kernel_rfl)) ?_
  intro W base args ds gs before hval0 hW hcnd hsz0 _
  have hval:∀ (j:Nat) t v,Tryz.f5.params[j]?=some t→args[j]?=some v→Value.okWide Tryz.prog W .any base t v:=hval0
  have hW':=hW
  obtain ⟨p,q,hA0,hV,rfl,hfz,hnd⟩:=hW
  have hA:DataW.TrodAll enc Tryz.prog W 0 (fun _=>true) true Tryz.f5.params.toList args.toList ds p:=hA0
  rw [Tryz.params5] at hA hval
  obtain ⟨v0,vs0,d0,ds0,p0,q0,hargs,rfl,rfl,h0,r0⟩:=trodAll_cons hA
  obtain ⟨rfl,rfl,rfl⟩:=trodAll_nil r0
  obtain rfl:args=#[v0]:=by cases args; simp_all
  obtain ⟨rfl,rfl⟩:=trodVars_none hV
  have t0:=h0
  have lt0:∀ x ∈ p0,x.block<W.heap.size:=by obtain ⟨m,hm⟩:=t0; exact DataW.trod_lt m _ _ _ hm
  obtain ⟨l0,x0,rfl,k0,w0⟩:=cB Mi Tryz.underlying24 (hval 0 24 v0 rfl rfl) h0
  clear hA0 hval0 hsz0
  obtain ⟨K,hK⟩:=pure x0 w0
  refine (Gq.calls (St.refl W) (Cf.old k0) hK).mono fun e W' ⟨he,bel0⟩=>?_
  have bel:=bel0.below
  subst he
  exact ⟨_,rfl,_,_,_,[],_,[],hW',trodAll_mk1 (shut_bool Tryz.underlying4 _),(trodAll_cons_mk (Below.trod Mm (by kernel_rfl) (of_decide_eq_true (by kernel_rfl)) t0 bel lt0) trodAll_mk0),rfl,bel.frame _,fun h=>by cases h⟩
set_option maxHeartbeats 40000000 in
theorem M0:joinedFacts Tryz.pinned.checked.prog 5 Tryz.f5 Rows.fnExactBettiNumbersSpec Rows.fnExactBettiNumbersRow=true:=by
  unfold joinedFacts
  simp only [Bool.and_eq_true]
  repeat' apply And.intro
  all_goals as_aux_lemma=>kernel_rfl
theorem L9:Tryz.pinned.checked.prog.funcNamed Rows.fnExactBettiNumbersRow.func=some 5:=by kernel_rfl
theorem Ni:Tryz.f5.isInstance Tryz.pinned.checked.prog Rows.fnExactBettiNumbersRow.origin Rows.fnExactBettiNumbersRow.targs:=of_decide_eq_true (by kernel_rfl)
theorem Nk:Tryz.f5.isWrapper Tryz.pinned.checked.prog Rows.fnExactBettiNumbersRow.wrapper Rows.fnExactBettiNumbersRow.mainSum:=by unfold Func.isWrapper; first | (rw [if_pos (by decide +kernel)]; kernel_rfl) | (rw [if_neg (by decide +kernel)]; exact ⟨rfl,rfl⟩)
theorem Oq (pure:K9):Rows.FnExactBettiNumbersSaid :=
  OpenClaim.holds_of_wide 5 Tryz.f5 rfl rfl rfl rfl rfl rfl rfl ⟨rfl,rfl,rfl,rfl,rfl⟩ rfl rfl rfl rfl rfl L9 Tryz.func5 M0
    Ni Nk
    (fun os started H enc _=>Mt pure os started H enc)
end Go.Proofs.YtgkgmhkgahalgaaGreat
