/-
  The statement FnExactHomologyAt out of its one pure sentence: for every input, in some number of rounds, the list function of the law says true.
-/
import Derived.Test.YtgkgmhkgahalgaaGreatRows
import Derived.Test.YtgkgmhkgahalgaaGreatAlW1
import Derived.Test.YtgkgmhkgahalgaaGreatAlW2
import Derived.Test.YtgkgmhkgahalgaaGreatAlW3
import Derived.Test.YtgkgmhkgahalgaaGreatAlW4
import Derived.Test.YtgkgmhkgahalgaaGreatAlW5
import Derived.Test.YtgkgmhkgahalgaaGreatAlW6
import Derived.Test.YtgkgmhkgahalgaaGreatAlW8
import Derived.Test.YtgkgmhkgahalgaaGreatAlW9
import Derived.Test.YtgkgmhkgahalgaaGreatSlS
import Derived.ChangeMaps5
import Derived.WalkKit
import Derived.ProofKit
import Derived.OpenShut
import Derived.ShutString
import Derived.ChangeOld
import Derived.Below
import Derived.SizedLaws
set_option linter.unusedVariables false
namespace Go.Proofs.YtgkgmhkgahalgaaGreat
open Go.ChangeShapes Go.WideShapes Go.ChangeAt Go.RowKit Go.Joins Go.Deep
structure Kl where
  P9:List (List Az)
abbrev Ru:Ty Kl:=Ty.iso (Ty.slice 80 (Ty.slice 129 Bc)) (fun x=>(x.P9)) 1 rfl
theorem Mq:Reads Tryz.prog Bc (fun x=>((Lit.int .i64 x.Tet).wf=true∧(Lit.int .i64 x.Perm).wf=true)) 129:=Reads.sS (T:=(Ty.pair (Ad .i64) (Ad .i64))) (enc:=fun x:Az=>[.int .i64 x.Tet,.int .i64 x.Perm]) (fun x:Az=>(x.Tet,x.Perm)) (fun y=>(⟨y.1,y.2⟩:Az)) (fun _=>rfl) (fun _ _=>rfl) (Reads.raw Tryz.underlying129 (by kernel_rfl) (Ny.cons rfl rfl (by kernel_rfl) (Reads.int Tryz.underlying2) (Ny.last rfl rfl (by kernel_rfl) rfl (Reads.int Tryz.underlying2))))
theorem Mv:Reads Tryz.prog Ru (fun x=>((x.P9.length≤9223372036854775807∧∀ y0 ∈ x.P9,(y0.length≤9223372036854775807∧∀ y1 ∈ y0,((Lit.int .i64 y1.Tet).wf=true∧(Lit.int .i64 y1.Perm).wf=true))))) 24:=Reads.vQ (T:=(Ty.slice 80 (Ty.slice 129 Bc))) (U:=(Ty.slice 80 (Ty.slice 129 Bc))) (h:=fun x:Kl=>x.P9) (n:=1) (hn:=rfl) (fun x:Kl=>x.P9) (fun l=>l) (fun y=>(⟨y⟩:Kl)) (fun _=>rfl) (fun _ _=>rfl) (fun _ _ _ h=>h) (Reads.raw Tryz.underlying24 (by kernel_rfl) (Ny.last rfl rfl (by kernel_rfl) rfl (Reads.slice ⟨none,0,(fun _=>())⟩ Tryz.underlying22 (by kernel_rfl) rfl (Reads.slice () Tryz.underlying80 (by kernel_rfl) rfl Mq))))
theorem Oo:ownKnob Tryz.prog.godebug=none:=by kernel_rfl
theorem Mw:laidOutB Tryz.prog=true:=by kernel_rfl
def Lc:Prop:=∀ (x0:Kl) (x1:Int),((x0.P9.length≤9223372036854775807∧∀ y0 ∈ x0.P9,(y0.length≤9223372036854775807∧∀ y1 ∈ y0,((Lit.int .i64 y1.Tet).wf=true∧(Lit.int .i64 y1.Perm).wf=true))))→(Lit.int .i64 x1).wf=true→∃ K,Gw.f K x0.P9 x1=some true
set_option maxRecDepth 100000 in
theorem Nb (pure:Lc) (os:Os) (started:os.Started) (H:Type) (enc:TypeId × Value→H) :
    ReturnsInHanded {} Tryz.checked os 3 .any (Rows.fnExactHomologyAtSpec.pre6 enc Tryz.prog Tryz.f3 Rows.fnExactHomologyAtRow.domain false) (Rows.fnExactHomologyAtSpec.post enc Tryz.prog Tryz.f3 false true false false):=by
  refine returnsInHanded_of_change_sized (C:=Tryz.checked) Oo started (by kernel_rfl) Tryz.func3
    (ChangeSpec.witness6 (enc:=enc) (C:=Tryz.checked) false ⟨#[],#[.agg #[.slice none 0 0],.int .i64 0],[]⟩ 8 (by kernel_rfl) (by kernel_rfl) (by kernel_rfl) (by kernel_rfl)) ?_
  intro W base args ds gs before hval0 hW hcnd hsz0 _
  have hval:∀ (j:Nat) t v,Tryz.f3.params[j]?=some t→args[j]?=some v→Value.okWide Tryz.prog W .any base t v:=hval0
  have hW':=hW
  obtain ⟨p,q,hA0,hV,rfl,hfz,hnd⟩:=hW
  have hA:DataW.TrodAll enc Tryz.prog W 0 (fun _=>true) true Tryz.f3.params.toList args.toList ds p:=hA0
  rw [Tryz.params3] at hA hval
  obtain ⟨v0,vs0,d0,ds0,p0,q0,hargs,rfl,rfl,h0,r0⟩:=trodAll_cons hA
  obtain ⟨v1,vs1,d1,ds1,p1,q1,rfl,rfl,rfl,h1,r1⟩:=trodAll_cons r0
  obtain ⟨rfl,rfl,rfl⟩:=trodAll_nil r1
  obtain rfl:args=#[v0,v1]:=by cases args; simp_all
  obtain ⟨rfl,rfl⟩:=trodVars_none hV
  have t0:=h0
  have lt0:∀ x ∈ p0,x.block<W.heap.size:=by obtain ⟨m,hm⟩:=t0; exact DataW.trod_lt m _ _ _ hm
  obtain ⟨l0,x0,rfl,k0,w0⟩:=bT Mv Tryz.underlying24 (hval 0 24 v0 rfl rfl) h0
  obtain ⟨x1,rfl,rfl,rfl,w1⟩:=open_int Tryz.underlying2 (hval 1 2 v1 rfl rfl) h1
  clear hA0 hval0 hsz0
  obtain ⟨K,hK⟩:=pure x0 x1 w0 w1
  refine (Gw.calls (St.refl W) (Cf.old k0) hK).mono fun e W' ⟨he,bel0⟩=>?_
  have bel:=bel0.below
  subst he
  exact ⟨_,rfl,_,_,_,[],_,[],hW',trodAll_mk1 (shut_bool Tryz.underlying4 _),(trodAll_cons_mk (Below.trod Mw (by kernel_rfl) (of_decide_eq_true (by kernel_rfl)) t0 bel lt0) (trodAll_cons_mk (shut_int Tryz.underlying2 w1) trodAll_mk0)),rfl,bel.frame _,fun h=>by cases h⟩
set_option maxHeartbeats 40000000 in
theorem M9:joinedFacts Tryz.pinned.checked.prog 3 Tryz.f3 Rows.fnExactHomologyAtSpec Rows.fnExactHomologyAtRow=true:=by
  unfold joinedFacts
  simp only [Bool.and_eq_true]
  repeat' apply And.intro
  all_goals as_aux_lemma=>kernel_rfl
theorem Me:Tryz.pinned.checked.prog.funcNamed Rows.fnExactHomologyAtRow.func=some 3:=by kernel_rfl
theorem Oe:Tryz.f3.isInstance Tryz.pinned.checked.prog Rows.fnExactHomologyAtRow.origin Rows.fnExactHomologyAtRow.targs:=of_decide_eq_true (by kernel_rfl)
theorem N8:Tryz.f3.isWrapper Tryz.pinned.checked.prog Rows.fnExactHomologyAtRow.wrapper Rows.fnExactHomologyAtRow.mainSum:=by unfold Func.isWrapper; first | (rw [if_pos (by decide +kernel)]; kernel_rfl) | (rw [if_neg (by decide +kernel)]; exact ⟨rfl,rfl⟩)
theorem O8 (pure:Lc):Rows.FnExactHomologyAtSaid :=
  OpenClaim.holds_of_wide 3 Tryz.f3 rfl rfl rfl rfl rfl rfl rfl ⟨rfl,rfl,rfl,rfl,rfl⟩ rfl rfl rfl rfl rfl Me Tryz.func3 M9
    Oe N8
    (fun os started H enc _=>Nb pure os started H enc)
end Go.Proofs.YtgkgmhkgahalgaaGreat
