import Derived.Test.YtgkgmhkgahalgaaGreatRows
import Derived.Test.YtgkgmhkgahalgaaGreatAlW1
import Derived.Test.YtgkgmhkgahalgaaGreatAlW2
import Derived.Test.YtgkgmhkgahalgaaGreatAlW3
import Derived.Test.YtgkgmhkgahalgaaGreatAlW4
import Derived.Test.YtgkgmhkgahalgaaGreatAlW5
import Derived.Test.YtgkgmhkgahalgaaGreatSlS
import Derived.ChangeMaps5
import Derived.WalkKit
import Derived.ProofKit
import Derived.OpenShut
import Derived.ShutString
import Derived.ChangeOld
import Derived.Below
import Derived.SizedLaws
set_option linter.unusedVariables false
namespace Go.Proofs.YtgkgmhkgahalgaaGreat
open Go.ChangeShapes Go.WideShapes Go.ChangeAt Go.RowKit Go.Joins Go.Deep
structure La where
 Qr:List (List Am)
abbrev Sd:Ty La:=Ty.iso (Ty.slice 80 (Ty.slice 129 Ak)) (fun x=>(x.Qr)) 1 rfl
theorem L6:Reads Tryz.prog Ak (fun x=>((Lit.int .i64 x.Tet).wf=true∧(Lit.int .i64 x.Perm).wf=true)) 129:=Reads.uV (T:=(Ty.pair (Ac .i64) (Ac .i64))) (enc:=fun x:Am=>[.int .i64 x.Tet,.int .i64 x.Perm]) (fun x:Am=>(x.Tet,x.Perm)) (fun y=>(⟨y.1,y.2⟩:Am)) (fun _=>rfl) (fun _ _=>rfl) (Reads.raw Tryz.underlying129 (by kernel_rfl) (Ot.cons rfl rfl (by kernel_rfl) (Reads.int Tryz.underlying2) (Ot.last rfl rfl (by kernel_rfl) rfl (Reads.int Tryz.underlying2))))
theorem Mc:Reads Tryz.prog Sd (fun x=>((x.Qr.length≤9223372036854775807∧∀ y0∈x.Qr,(y0.length≤9223372036854775807∧∀ y1∈y0,((Lit.int .i64 y1.Tet).wf=true∧(Lit.int .i64 y1.Perm).wf=true))))) 24:=Reads.wV (T:=(Ty.slice 80 (Ty.slice 129 Ak))) (U:=(Ty.slice 80 (Ty.slice 129 Ak))) (h:=fun x:La=>x.Qr) (n:=1) (hn:=rfl) (fun x:La=>x.Qr) (fun l=>l) (fun y=>(⟨y⟩:La)) (fun _=>rfl) (fun _ _=>rfl) (fun _ _ _ h=>h) (Reads.raw Tryz.underlying24 (by kernel_rfl) (Ot.last rfl rfl (by kernel_rfl) rfl (Reads.slice ⟨none,0,(fun _=>())⟩ Tryz.underlying22 (by kernel_rfl) rfl (Reads.slice () Tryz.underlying80 (by kernel_rfl) rfl L6))))
theorem M8:ownKnob Tryz.prog.godebug=none:=by kernel_rfl
theorem Ma:laidOutB Tryz.prog=true:=by kernel_rfl
def K4:Prop:=∀ (x0:La),((x0.Qr.length≤9223372036854775807∧∀ y0∈x0.Qr,(y0.length≤9223372036854775807∧∀ y1∈y0,((Lit.int .i64 y1.Tet).wf=true∧(Lit.int .i64 y1.Perm).wf=true))))→∃ K,Ff.f K x0.Qr=some true
set_option maxRecDepth 100000 in
theorem Mh (pure:K4) (os:Os) (started:os.Started) (H:Type) (enc:TypeId × Value→H) :
  ReturnsInHanded {} Tryz.checked os 7 .any (Rows.fnExactAbelianizedGroupSpec.pre6 enc Tryz.prog Tryz.f7 Rows.fnExactAbelianizedGroupRow.domain false) (Rows.fnExactAbelianizedGroupSpec.post enc Tryz.prog Tryz.f7 false true false false):=by
 refine returnsInHanded_of_change_sized (C:=Tryz.checked) M8 started (by kernel_rfl) Tryz.func7
  (ChangeSpec.witness6 (enc:=enc) (C:=Tryz.checked) false ⟨#[],#[.agg #[.slice none 0 0]],[]⟩ 8 (by kernel_rfl) (by kernel_rfl) (by kernel_rfl) (by kernel_rfl)) ?_
 intro W base args ds gs before hval0 hW hcnd hsz0 _
 have hval:∀ (j:Nat) t v,Tryz.f7.params[j]?=some t→args[j]?=some v→Value.okWide Tryz.prog W .any base t v:=hval0
 have hW':=hW
 obtain ⟨p,q,hA0,hV,rfl,hfz,hnd⟩:=hW
 have hA:DataW.TrodAll enc Tryz.prog W 0 (fun _=>true) true Tryz.f7.params.toList args.toList ds p:=hA0
 rw [Tryz.params7] at hA hval
 obtain ⟨v0,vs0,d0,ds0,p0,q0,hargs,rfl,rfl,h0,r0⟩:=trodAll_cons hA
 obtain ⟨rfl,rfl,rfl⟩:=trodAll_nil r0
 obtain rfl:args=#[v0]:=by cases args; simp_all
 obtain ⟨rfl,rfl⟩:=trodVars_none hV
 have t0:=h0
 have lt0:∀ x∈p0,x.block<W.heap.size:=by obtain ⟨m,hm⟩:=t0; exact DataW.trod_lt m _ _ _ hm
 obtain ⟨l0,x0,rfl,k0,w0⟩:=bM Mc Tryz.underlying24 (hval 0 24 v0 rfl rfl) h0
 clear hA0 hval0 hsz0
 obtain ⟨K,hK⟩:=pure x0 w0
 refine (Ff.calls (St.refl W) (Bv.old k0) hK).mono fun e W' ⟨he,bel0⟩=>?_
 have bel:=bel0.below
 subst he
 exact ⟨_,rfl,_,_,_,[],_,[],hW',trodAll_mk1 (shut_bool Tryz.underlying4 _),(trodAll_cons_mk (Below.trod Ma (by kernel_rfl) (of_decide_eq_true (by kernel_rfl)) t0 bel lt0) trodAll_mk0),rfl,bel.frame _,fun h=>by cases h⟩
set_option maxHeartbeats 40000000 in
theorem Mk:joinedFacts Tryz.pinned.checked.prog 7 Tryz.f7 Rows.fnExactAbelianizedGroupSpec Rows.fnExactAbelianizedGroupRow=true:=by
 unfold joinedFacts
 simp only [Bool.and_eq_true]
 repeat' apply And.intro
 all_goals as_aux_lemma=>kernel_rfl
theorem Lv:Tryz.pinned.checked.prog.funcNamed Rows.fnExactAbelianizedGroupRow.func=some 7:=by kernel_rfl
theorem M0:Tryz.f7.isInstance Tryz.pinned.checked.prog Rows.fnExactAbelianizedGroupRow.origin Rows.fnExactAbelianizedGroupRow.targs:=of_decide_eq_true (by kernel_rfl)
theorem M3:Tryz.f7.isWrapper Tryz.pinned.checked.prog Rows.fnExactAbelianizedGroupRow.wrapper Rows.fnExactAbelianizedGroupRow.mainSum:=by unfold Func.isWrapper; first | (rw [if_pos (by decide +kernel)]; kernel_rfl) | (rw [if_neg (by decide +kernel)]; exact ⟨rfl,rfl⟩)
theorem Nk (pure:K4):Rows.FnExactAbelianizedGroupSaid :=
 OpenClaim.holds_of_wide 7 Tryz.f7 rfl rfl rfl rfl rfl rfl rfl ⟨rfl,rfl,rfl,rfl,rfl⟩ rfl rfl rfl rfl rfl Lv Tryz.func7 Mk
  M0 M3
  (fun os started H enc _=>Mh pure os started H enc)
end Go.Proofs.YtgkgmhkgahalgaaGreat
