/-
  The statement FnExactWalkMoves out of its one pure sentence: for every input, in some number of rounds, the list function of the law says true.
-/
import Derived.Test.YtbjfinndngafoaaGreatRows
import Derived.Test.YtbjfinndngafoaaGreatAlW1
import Derived.Test.YtbjfinndngafoaaGreatAlW2
import Derived.Test.YtbjfinndngafoaaGreatAlW3
import Derived.Test.YtbjfinndngafoaaGreatAlW4
import Derived.Test.YtbjfinndngafoaaGreatAlW5
import Derived.Test.YtbjfinndngafoaaGreatAlW7
import Derived.Test.YtbjfinndngafoaaGreatAlW10
import Derived.Test.YtbjfinndngafoaaGreatSlS
import Derived.ChangeMaps5
import Derived.WalkKit
import Derived.ProofKit
import Derived.OpenShut
import Derived.ShutString
import Derived.ChangeOld
import Derived.Below
import Derived.SizedLaws
set_option linter.unusedVariables false
namespace Go.Proofs.YtbjfinndngafoaaGreat
open Go.ChangeShapes Go.WideShapes Go.ChangeAt Go.RowKit Go.Joins Go.Deep
structure Kg where
  Px:List (List Ab)
abbrev Ra:Ty Kg:=Ty.iso (Ty.slice 89 (Ty.slice 142 Ad)) (fun x=>(x.Px)) 1 rfl
theorem Ml:Reads Tryz.prog Ad (fun x=>((Lit.int .i64 x.Tet).wf=true∧(Lit.int .i64 x.Perm).wf=true)) 142:=Reads.rY (T:=(Ty.pair (Ap .i64) (Ap .i64))) (enc:=fun x:Ab=>[.int .i64 x.Tet,.int .i64 x.Perm]) (fun x:Ab=>(x.Tet,x.Perm)) (fun y=>(⟨y.1,y.2⟩:Ab)) (fun _=>rfl) (fun _ _=>rfl) (Reads.raw Tryz.underlying142 (by kernel_rfl) (Nu.cons rfl rfl (by kernel_rfl) (Reads.int Tryz.underlying2) (Nu.last rfl rfl (by kernel_rfl) rfl (Reads.int Tryz.underlying2))))
theorem M4:Reads Tryz.prog Ra (fun x=>((x.Px.length≤9223372036854775807∧∀ y0 ∈ x.Px,(y0.length≤9223372036854775807∧∀ y1 ∈ y0,((Lit.int .i64 y1.Tet).wf=true∧(Lit.int .i64 y1.Perm).wf=true))))) 24:=Reads.xL (T:=(Ty.slice 89 (Ty.slice 142 Ad))) (U:=(Ty.slice 89 (Ty.slice 142 Ad))) (h:=fun x:Kg=>x.Px) (n:=1) (hn:=rfl) (fun x:Kg=>x.Px) (fun l=>l) (fun y=>(⟨y⟩:Kg)) (fun _=>rfl) (fun _ _=>rfl) (fun _ _ _ h=>h) (Reads.raw Tryz.underlying24 (by kernel_rfl) (Nu.last rfl rfl (by kernel_rfl) rfl (Reads.slice ⟨none,0,(fun _=>())⟩ Tryz.underlying22 (by kernel_rfl) rfl (Reads.slice () Tryz.underlying89 (by kernel_rfl) rfl Ml))))
theorem Oo:ownKnob Tryz.prog.godebug=none:=by kernel_rfl
theorem Kt:laidOutB Tryz.prog=true:=by kernel_rfl
def Lb:Prop:=∀ (x0:Kg) (x1:List Int),((x0.Px.length≤9223372036854775807∧∀ y0 ∈ x0.Px,(y0.length≤9223372036854775807∧∀ y1 ∈ y0,((Lit.int .i64 y1.Tet).wf=true∧(Lit.int .i64 y1.Perm).wf=true))))→(x1.length≤9223372036854775807∧∀ y0 ∈ x1,(Lit.int .i64 y0).wf=true)→∃ K,Gz.f K x0.Px x1=some true
set_option maxRecDepth 100000 in
theorem Nc (pure:Lb) (os:Os) (started:os.Started) (H:Type) (enc:TypeId × Value→H) :
    ReturnsInHanded {} Tryz.checked os 9 .any (Rows.fnExactWalkMovesSpec.pre6 enc Tryz.prog Tryz.f9 Rows.fnExactWalkMovesRow.domain false) (Rows.fnExactWalkMovesSpec.post enc Tryz.prog Tryz.f9 false true false false):=by
  refine returnsInHanded_of_change_sized (C:=Tryz.checked) Oo started (by kernel_rfl) Tryz.func9
    (ChangeSpec.witness6 (enc:=enc) (C:=Tryz.checked) false ⟨#[],#[.agg #[.slice none 0 0],.slice none 0 0],[]⟩ 8 (by kernel_rfl) (by kernel_rfl) (by kernel_rfl) (by kernel_rfl)) ?_
  intro W base args ds gs before hval0 hW hcnd hsz0 _
  have hval:∀ (j:Nat) t v,Tryz.f9.params[j]?=some t→args[j]?=some v→Value.okWide Tryz.prog W .any base t v:=hval0
  have hW':=hW
  obtain ⟨p,q,hA0,hV,rfl,hfz,hnd⟩:=hW
  have hA:DataW.TrodAll enc Tryz.prog W 0 (fun _=>true) true Tryz.f9.params.toList args.toList ds p:=hA0
  rw [Tryz.params9] at hA hval
  obtain ⟨v0,vs0,d0,ds0,p0,q0,hargs,rfl,rfl,h0,r0⟩:=trodAll_cons hA
  obtain ⟨v1,vs1,d1,ds1,p1,q1,rfl,rfl,rfl,h1,r1⟩:=trodAll_cons r0
  obtain ⟨rfl,rfl,rfl⟩:=trodAll_nil r1
  obtain rfl:args=#[v0,v1]:=by cases args; simp_all
  obtain ⟨rfl,rfl⟩:=trodVars_none hV
  have t0:=h0
  have lt0:∀ x ∈ p0,x.block<W.heap.size:=by obtain ⟨m,hm⟩:=t0; exact DataW.trod_lt m _ _ _ hm
  obtain ⟨l0,x0,rfl,k0,w0⟩:=Zx M4 Tryz.underlying24 (hval 0 24 v0 rfl rfl) h0
  have t1:=h1
  have lt1:∀ x ∈ p1,x.block<W.heap.size:=by obtain ⟨m,hm⟩:=t1; exact DataW.trod_lt m _ _ _ hm
  obtain ⟨l1,x1,rfl,k1,w1⟩:=dJ (Reads.slice () Tryz.underlying56 (by kernel_rfl) rfl (Reads.int Tryz.underlying2)) Tryz.underlying56 (hval 1 56 v1 rfl rfl) h1
  clear hA0 hval0 hsz0
  obtain ⟨K,hK⟩:=pure x0 x1 w0 w1
  refine (Gz.calls (St.refl W) (Ca.old k0) (Ca.old k1) hK).mono fun e W' ⟨he,bel0⟩=>?_
  have bel:=bel0.below
  subst he
  exact ⟨_,rfl,_,_,_,[],_,[],hW',trodAll_mk1 (shut_bool Tryz.underlying4 _),(trodAll_cons_mk (Below.trod Kt (by kernel_rfl) (of_decide_eq_true (by kernel_rfl)) t0 bel lt0) (trodAll_cons_mk (Below.trod Kt (by kernel_rfl) (of_decide_eq_true (by kernel_rfl)) t1 bel lt1) trodAll_mk0)),rfl,bel.frame _,fun h=>by cases h⟩
set_option maxHeartbeats 40000000 in
theorem Nr:joinedFacts Tryz.pinned.checked.prog 9 Tryz.f9 Rows.fnExactWalkMovesSpec Rows.fnExactWalkMovesRow=true:=by
  unfold joinedFacts
  simp only [Bool.and_eq_true]
  repeat' apply And.intro
  all_goals as_aux_lemma=>kernel_rfl
theorem Mf:Tryz.pinned.checked.prog.funcNamed Rows.fnExactWalkMovesRow.func=some 9:=by kernel_rfl
theorem Oj:Tryz.f9.isInstance Tryz.pinned.checked.prog Rows.fnExactWalkMovesRow.origin Rows.fnExactWalkMovesRow.targs:=of_decide_eq_true (by kernel_rfl)
theorem Og:Tryz.f9.isWrapper Tryz.pinned.checked.prog Rows.fnExactWalkMovesRow.wrapper Rows.fnExactWalkMovesRow.mainSum:=by unfold Func.isWrapper; first | (rw [if_pos (by decide +kernel)]; kernel_rfl) | (rw [if_neg (by decide +kernel)]; exact ⟨rfl,rfl⟩)
theorem Pg (pure:Lb):Rows.FnExactWalkMovesSaid :=
  OpenClaim.holds_of_wide 9 Tryz.f9 rfl rfl rfl rfl rfl rfl rfl ⟨rfl,rfl,rfl,rfl,rfl⟩ rfl rfl rfl rfl rfl Mf Tryz.func9 Nr
    Oj Og
    (fun os started H enc _=>Nc pure os started H enc)
end Go.Proofs.YtbjfinndngafoaaGreat
