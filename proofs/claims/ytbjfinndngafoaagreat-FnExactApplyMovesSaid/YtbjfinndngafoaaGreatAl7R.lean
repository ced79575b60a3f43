/-
  The statement FnExactApplyMoves out of its one pure sentence: for every input, in some number of rounds, the list function of the law says true.
-/
import Derived.Test.YtbjfinndngafoaaGreatRows
import Derived.Test.YtbjfinndngafoaaGreatAlW1
import Derived.Test.YtbjfinndngafoaaGreatAlW2
import Derived.Test.YtbjfinndngafoaaGreatAlW3
import Derived.Test.YtbjfinndngafoaaGreatAlW4
import Derived.Test.YtbjfinndngafoaaGreatAlW5
import Derived.Test.YtbjfinndngafoaaGreatAlW6
import Derived.Test.YtbjfinndngafoaaGreatAlW8
import Derived.Test.YtbjfinndngafoaaGreatSlS
import Derived.ChangeMaps5
import Derived.WalkKit
import Derived.ProofKit
import Derived.OpenShut
import Derived.ShutString
import Derived.ChangeOld
import Derived.Below
import Derived.SizedLaws
set_option linter.unusedVariables false
namespace Go.Proofs.YtbjfinndngafoaaGreat
open Go.ChangeShapes Go.WideShapes Go.ChangeAt Go.RowKit Go.Joins Go.Deep
structure Js where
  Oz:List (List Ab)
abbrev Qg:Ty Js:=Ty.iso (Ty.slice 89 (Ty.slice 142 Ad)) (fun x=>(x.Oz)) 1 rfl
theorem Lj:Reads Tryz.prog Ad (fun x=>((Lit.int .i64 x.Tet).wf=true∧(Lit.int .i64 x.Perm).wf=true)) 142:=Reads.dZ (T:=(Ty.pair (Ar .i64) (Ar .i64))) (enc:=fun x:Ab=>[.int .i64 x.Tet,.int .i64 x.Perm]) (fun x:Ab=>(x.Tet,x.Perm)) (fun y=>(⟨y.1,y.2⟩:Ab)) (fun _=>rfl) (fun _ _=>rfl) (Reads.raw Tryz.underlying142 (by kernel_rfl) (Ky.cons rfl rfl (by kernel_rfl) (Reads.int Tryz.underlying2) (Ky.last rfl rfl (by kernel_rfl) rfl (Reads.int Tryz.underlying2))))
theorem Lm:Reads Tryz.prog Qg (fun x=>((x.Oz.length≤9223372036854775807∧∀ y0 ∈ x.Oz,(y0.length≤9223372036854775807∧∀ y1 ∈ y0,((Lit.int .i64 y1.Tet).wf=true∧(Lit.int .i64 y1.Perm).wf=true))))) 24:=Reads.vK (T:=(Ty.slice 89 (Ty.slice 142 Ad))) (U:=(Ty.slice 89 (Ty.slice 142 Ad))) (h:=fun x:Js=>x.Oz) (n:=1) (hn:=rfl) (fun x:Js=>x.Oz) (fun l=>l) (fun y=>(⟨y⟩:Js)) (fun _=>rfl) (fun _ _=>rfl) (fun _ _ _ h=>h) (Reads.raw Tryz.underlying24 (by kernel_rfl) (Ky.last rfl rfl (by kernel_rfl) rfl (Reads.slice ⟨none,0,(fun _=>())⟩ Tryz.underlying22 (by kernel_rfl) rfl (Reads.slice () Tryz.underlying89 (by kernel_rfl) rfl Lj))))
theorem Lp:Reads Tryz.prog Hf (fun x=>((Lit.int .i64 x.Kind).wf=true∧(Lit.int .i64 x.Tet).wf=true∧(Lit.int .i64 x.Index).wf=true)) 26:=Reads.dZ (T:=(Ty.pair (Ar .i64) (Ty.pair (Ar .i64) (Ar .i64)))) (enc:=fun x:Gh=>[.int .i64 x.Kind,.int .i64 x.Tet,.int .i64 x.Index]) (fun x:Gh=>(x.Kind,x.Tet,x.Index)) (fun y=>(⟨y.1,y.2.1,y.2.2⟩:Gh)) (fun _=>rfl) (fun _ _=>rfl) (Reads.raw Tryz.underlying26 (by kernel_rfl) (Ky.cons rfl rfl (by kernel_rfl) (Reads.int Tryz.underlying2) (Ky.cons rfl rfl (by kernel_rfl) (Reads.int Tryz.underlying2) (Ky.last rfl rfl (by kernel_rfl) rfl (Reads.int Tryz.underlying2)))))
theorem Nj:ownKnob Tryz.prog.godebug=none:=by kernel_rfl
theorem Jy:laidOutB Tryz.prog=true:=by kernel_rfl
def Kj:Prop:=∀ (x0:Js) (x1:List Gh),((x0.Oz.length≤9223372036854775807∧∀ y0 ∈ x0.Oz,(y0.length≤9223372036854775807∧∀ y1 ∈ y0,((Lit.int .i64 y1.Tet).wf=true∧(Lit.int .i64 y1.Perm).wf=true))))→(x1.length≤9223372036854775807∧∀ y0 ∈ x1,((Lit.int .i64 y0.Kind).wf=true∧(Lit.int .i64 y0.Tet).wf=true∧(Lit.int .i64 y0.Index).wf=true))→∃ K,F6.f K x0.Oz x1=some true
set_option maxRecDepth 100000 in
theorem Ma (pure:Kj) (os:Os) (started:os.Started) (H:Type) (enc:TypeId × Value→H) :
    ReturnsInHanded {} Tryz.checked os 7 .any (Rows.fnExactApplyMovesSpec.pre6 enc Tryz.prog Tryz.f7 Rows.fnExactApplyMovesRow.domain false) (Rows.fnExactApplyMovesSpec.post enc Tryz.prog Tryz.f7 false true false false):=by
  refine returnsInHanded_of_change_sized (C:=Tryz.checked) Nj started (by kernel_rfl) Tryz.func7
    (ChangeSpec.witness6 (enc:=enc) (C:=Tryz.checked) false ⟨#[],#[.agg #[.slice none 0 0],.slice none 0 0],[]⟩ 8 (by kernel_rfl) (by kernel_rfl) (by kernel_rfl) (by kernel_rfl)) ?_
  intro W base args ds gs before hval0 hW hcnd hsz0 _
  have hval:∀ (j:Nat) t v,Tryz.f7.params[j]?=some t→args[j]?=some v→Value.okWide Tryz.prog W .any base t v:=hval0
  have hW':=hW
  obtain ⟨p,q,hA0,hV,rfl,hfz,hnd⟩:=hW
  have hA:DataW.TrodAll enc Tryz.prog W 0 (fun _=>true) true Tryz.f7.params.toList args.toList ds p:=hA0
  rw [Tryz.params7] at hA hval
  obtain ⟨v0,vs0,d0,ds0,p0,q0,hargs,rfl,rfl,h0,r0⟩:=trodAll_cons hA
  obtain ⟨v1,vs1,d1,ds1,p1,q1,rfl,rfl,rfl,h1,r1⟩:=trodAll_cons r0
  obtain ⟨rfl,rfl,rfl⟩:=trodAll_nil r1
  obtain rfl:args=#[v0,v1]:=by cases args; simp_all
  obtain ⟨rfl,rfl⟩:=trodVars_none hV
  have t0:=h0
  have lt0:∀ x ∈ p0,x.block<W.heap.size:=by obtain ⟨m,hm⟩:=t0; exact DataW.trod_lt m _ _ _ hm
  obtain ⟨l0,x0,rfl,k0,w0⟩:=Yv Lm Tryz.underlying24 (hval 0 24 v0 rfl rfl) h0
  have t1:=h1
  have lt1:∀ x ∈ p1,x.block<W.heap.size:=by obtain ⟨m,hm⟩:=t1; exact DataW.trod_lt m _ _ _ hm
  obtain ⟨l1,x1,rfl,k1,w1⟩:=aQ (Reads.slice () Tryz.underlying48 (by kernel_rfl) rfl Lp) Tryz.underlying48 (hval 1 48 v1 rfl rfl) h1
  clear hA0 hval0 hsz0
  obtain ⟨K,hK⟩:=pure x0 x1 w0 w1
  refine (F6.calls (St.refl W) (Bv.old k0) (Bv.old k1) hK).mono fun e W' ⟨he,bel0⟩=>?_
  have bel:=bel0.below
  subst he
  exact ⟨_,rfl,_,_,_,[],_,[],hW',trodAll_mk1 (shut_bool Tryz.underlying4 _),(trodAll_cons_mk (Below.trod Jy (by kernel_rfl) (of_decide_eq_true (by kernel_rfl)) t0 bel lt0) (trodAll_cons_mk (Below.trod Jy (by kernel_rfl) (of_decide_eq_true (by kernel_rfl)) t1 bel lt1) trodAll_mk0)),rfl,bel.frame _,fun h=>by cases h⟩
set_option maxHeartbeats 40000000 in
theorem Mc:joinedFacts Tryz.pinned.checked.prog 7 Tryz.f7 Rows.fnExactApplyMovesSpec Rows.fnExactApplyMovesRow=true:=by
  unfold joinedFacts
  simp only [Bool.and_eq_true]
  repeat' apply And.intro
  all_goals as_aux_lemma=>kernel_rfl
theorem K8:Tryz.pinned.checked.prog.funcNamed Rows.fnExactApplyMovesRow.func=some 7:=by kernel_rfl
theorem Nb:Tryz.f7.isInstance Tryz.pinned.checked.prog Rows.fnExactApplyMovesRow.origin Rows.fnExactApplyMovesRow.targs:=of_decide_eq_true (by kernel_rfl)
theorem M5:Tryz.f7.isWrapper Tryz.pinned.checked.prog Rows.fnExactApplyMovesRow.wrapper Rows.fnExactApplyMovesRow.mainSum:=by unfold Func.isWrapper; first | (rw [if_pos (by decide +kernel)]; kernel_rfl) | (rw [if_neg (by decide +kernel)]; exact ⟨rfl,rfl⟩)
theorem Nq (pure:Kj):Rows.FnExactApplyMovesSaid :=
  OpenClaim.holds_of_wide 7 Tryz.f7 rfl rfl rfl rfl rfl rfl rfl ⟨rfl,rfl,rfl,rfl,rfl⟩ rfl rfl rfl rfl rfl K8 Tryz.func7 Mc
    Nb M5
    (fun os started H enc _=>Ma pure os started H enc)
end Go.Proofs.YtbjfinndngafoaaGreat
