/-
  The statement FnExactSimplifyMoves out of its one pure sentence: for every input, in some number of rounds, the list function of the law says true.
-/
import Derived.Test.YtbjfinndngafoaaGreatRows
import Derived.Test.YtbjfinndngafoaaGreatAlW1
import Derived.Test.YtbjfinndngafoaaGreatAlW2
import Derived.Test.YtbjfinndngafoaaGreatAlW3
import Derived.Test.YtbjfinndngafoaaGreatAlW4
import Derived.Test.YtbjfinndngafoaaGreatAlW5
import Derived.Test.YtbjfinndngafoaaGreatAlW7
import Derived.Test.YtbjfinndngafoaaGreatAlW11
import Derived.Test.YtbjfinndngafoaaGreatSlS
import Derived.ChangeMaps5
import Derived.WalkKit
import Derived.ProofKit
import Derived.OpenShut
import Derived.ShutString
import Derived.ChangeOld
import Derived.Below
import Derived.SizedLaws
set_option linter.unusedVariables false
namespace Go.Proofs.YtbjfinndngafoaaGreat
open Go.ChangeShapes Go.WideShapes Go.ChangeAt Go.RowKit Go.Joins Go.Deep
structure Kg where
  Px:List (List Ab)
abbrev Rc:Ty Kg:=Ty.iso (Ty.slice 89 (Ty.slice 142 Ad)) (fun x=>(x.Px)) 1 rfl
theorem Lp:Reads Tryz.prog Ad (fun x=>((Lit.int .i64 x.Tet).wf=true∧(Lit.int .i64 x.Perm).wf=true)) 142:=Reads.rU (T:=(Ty.pair (Ar .i64) (Ar .i64))) (enc:=fun x:Ab=>[.int .i64 x.Tet,.int .i64 x.Perm]) (fun x:Ab=>(x.Tet,x.Perm)) (fun y=>(⟨y.1,y.2⟩:Ab)) (fun _=>rfl) (fun _ _=>rfl) (Reads.raw Tryz.underlying142 (by kernel_rfl) (Nw.cons rfl rfl (by kernel_rfl) (Reads.int Tryz.underlying2) (Nw.last rfl rfl (by kernel_rfl) rfl (Reads.int Tryz.underlying2))))
theorem Lv:Reads Tryz.prog Rc (fun x=>((x.Px.length≤9223372036854775807∧∀ y0 ∈ x.Px,(y0.length≤9223372036854775807∧∀ y1 ∈ y0,((Lit.int .i64 y1.Tet).wf=true∧(Lit.int .i64 y1.Perm).wf=true))))) 24:=Reads.xI (T:=(Ty.slice 89 (Ty.slice 142 Ad))) (U:=(Ty.slice 89 (Ty.slice 142 Ad))) (h:=fun x:Kg=>x.Px) (n:=1) (hn:=rfl) (fun x:Kg=>x.Px) (fun l=>l) (fun y=>(⟨y⟩:Kg)) (fun _=>rfl) (fun _ _=>rfl) (fun _ _ _ h=>h) (Reads.raw Tryz.underlying24 (by kernel_rfl) (Nw.last rfl rfl (by kernel_rfl) rfl (Reads.slice ⟨none,0,(fun _=>())⟩ Tryz.underlying22 (by kernel_rfl) rfl (Reads.slice () Tryz.underlying89 (by kernel_rfl) rfl Lp))))
theorem M7:ownKnob Tryz.prog.godebug=none:=by kernel_rfl
theorem Ls:laidOutB Tryz.prog=true:=by kernel_rfl
def Kl:Prop:=∀ (x0:Kg),((x0.Px.length≤9223372036854775807∧∀ y0 ∈ x0.Px,(y0.length≤9223372036854775807∧∀ y1 ∈ y0,((Lit.int .i64 y1.Tet).wf=true∧(Lit.int .i64 y1.Perm).wf=true))))→∃ K,F8.f K x0.Px=some true
set_option maxRecDepth 100000 in
theorem Ma (pure:Kl) (os:Os) (started:os.Started) (H:Type) (enc:TypeId × Value→H) :
    ReturnsInHanded {} Tryz.checked os 8 .any (Rows.fnExactSimplifyMovesSpec.pre6 enc Tryz.prog Tryz.f8 Rows.fnExactSimplifyMovesRow.domain false) (Rows.fnExactSimplifyMovesSpec.post enc Tryz.prog Tryz.f8 false true false false):=by
  refine returnsInHanded_of_change_sized (C:=Tryz.checked) M7 started (by kernel_rfl) Tryz.func8
    (ChangeSpec.witness6 (enc:=enc) (C:=Tryz.checked) false ⟨#[],#[.agg #[.slice none 0 0]],[]⟩ 8 (by kernel_rfl) (by kernel_rfl) (by kernel_rfl) (by kernel_rfl)) ?_
  intro W base args ds gs before hval0 hW hcnd hsz0 _
  have hval:∀ (j:Nat) t v,Tryz.f8.params[j]?=some t→args[j]?=some v→Value.okWide Tryz.prog W .any base t v:=hval0
  have hW':=hW
  obtain ⟨p,q,hA0,hV,rfl,hfz,hnd⟩:=hW
  have hA:DataW.TrodAll enc Tryz.prog W 0 (fun _=>true) true Tryz.f8.params.toList args.toList ds p:=hA0
  rw [Tryz.params8] at hA hval
  obtain ⟨v0,vs0,d0,ds0,p0,q0,hargs,rfl,rfl,h0,r0⟩:=trodAll_cons hA
  obtain ⟨rfl,rfl,rfl⟩:=trodAll_nil r0
  obtain rfl:args=#[v0]:=by cases args; simp_all
  obtain ⟨rfl,rfl⟩:=trodVars_none hV
  have t0:=h0
  have lt0:∀ x ∈ p0,x.block<W.heap.size:=by obtain ⟨m,hm⟩:=t0; exact DataW.trod_lt m _ _ _ hm
  obtain ⟨l0,x0,rfl,k0,w0⟩:=Zx Lv Tryz.underlying24 (hval 0 24 v0 rfl rfl) h0
  clear hA0 hval0 hsz0
  obtain ⟨K,hK⟩:=pure x0 w0
  refine (F8.calls (St.refl W) (Ce.old k0) hK).mono fun e W' ⟨he,bel0⟩=>?_
  have bel:=bel0.below
  subst he
  exact ⟨_,rfl,_,_,_,[],_,[],hW',trodAll_mk1 (shut_bool Tryz.underlying4 _),(trodAll_cons_mk (Below.trod Ls (by kernel_rfl) (of_decide_eq_true (by kernel_rfl)) t0 bel lt0) trodAll_mk0),rfl,bel.frame _,fun h=>by cases h⟩
set_option maxHeartbeats 40000000 in
theorem Mc:joinedFacts Tryz.pinned.checked.prog 8 Tryz.f8 Rows.fnExactSimplifyMovesSpec Rows.fnExactSimplifyMovesRow=true:=by
  unfold joinedFacts
  simp only [Bool.and_eq_true]
  repeat' apply And.intro
  all_goals as_aux_lemma=>kernel_rfl
theorem Lf:Tryz.pinned.checked.prog.funcNamed Rows.fnExactSimplifyMovesRow.func=some 8:=by kernel_rfl
theorem Mo:Tryz.f8.isInstance Tryz.pinned.checked.prog Rows.fnExactSimplifyMovesRow.origin Rows.fnExactSimplifyMovesRow.targs:=of_decide_eq_true (by kernel_rfl)
theorem Ms:Tryz.f8.isWrapper Tryz.pinned.checked.prog Rows.fnExactSimplifyMovesRow.wrapper Rows.fnExactSimplifyMovesRow.mainSum:=by unfold Func.isWrapper; first | (rw [if_pos (by decide +kernel)]; kernel_rfl) | (rw [if_neg (by decide +kernel)]; exact ⟨rfl,rfl⟩)
theorem Np (pure:Kl):Rows.FnExactSimplifyMovesSaid :=
  OpenClaim.holds_of_wide 8 Tryz.f8 rfl rfl rfl rfl rfl rfl rfl ⟨rfl,rfl,rfl,rfl,rfl⟩ rfl rfl rfl rfl rfl Lf Tryz.func8 Mc
    Mo Ms
    (fun os started H enc _=>Ma pure os started H enc)
end Go.Proofs.YtbjfinndngafoaaGreat
