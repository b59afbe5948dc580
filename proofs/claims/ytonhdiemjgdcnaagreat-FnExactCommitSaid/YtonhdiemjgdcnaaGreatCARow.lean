/- The program's Commit returns what the reference's returns, for all arguments. -/
import Derived.Test.YtonhdiemjgdcnaaGreatRows
import Derived.Test.YtonhdiemjgdcnaaGreatCA12
import Derived.WalkKit
import Derived.ProofKit
import Derived.OpenShut
import Derived.ShutString
import Derived.ChangeOld
import Derived.Below
import Derived.SizedLaws
import Derived.Carry
set_option maxHeartbeats 64000000
set_option maxRecDepth 100000
set_option linter.unusedVariables false
set_option linter.unusedSimpArgs false
namespace Go.Proofs.YtonhdiemjgdcnaaGreat.fnExactCommit
open Go.ChangeShapes Go.WideShapes Go.ChangeAt Go.RowKit
open Go.ChangeMaps (open_string shut_string)
open Go.Proofs.YtonhdiemjgdcnaaGreat.Opened Go.Proofs.YtonhdiemjgdcnaaGreat.PFnExactGivePage Go.Proofs.YtonhdiemjgdcnaaGreatW.PrintWords
theorem own:ownKnob Tryz.prog.godebug=none:=by kernel_rfl
theorem laidOut:laidOutB Tryz.prog=true:=Head.laid
theorem lifted (os:Os) (started:os.Started) (H:Type) (enc:TypeId×Value→H):
  ReturnsInHanded {} Tryz.checked os 3 .any (Rows.fnExactCommitSpec.pre6 enc Tryz.prog Tryz.f3 Rows.fnExactCommitRow.domain false) (Rows.fnExactCommitSpec.post enc Tryz.prog Tryz.f3 false true false false):=by
 refine returnsInHanded_of_change_sized (C:=Tryz.checked) own started zq7 Tryz.func3
  (ChangeSpec.witness6 (enc:=enc) (C:=Tryz.checked) false ⟨#[],#[.agg #[.int .i64 0,.int .i64 0,.int .i64 0,.slice none 0 0,.slice none 0 0,.slice none 0 0,.int .i64 0,.slice none 0 0,.slice none 0 0,.slice none 0 0,.int .i64 0]],[]⟩ 8 zq7 zq7 zq7 zq7) ?_
 intro W base args ds gs before hval0 hW hcnd hsz0 _
 have hsz:(DataW.weightsEach Tryz.prog (Tryz.f3.params.toList++Rows.fnExactCommitSpec.plain.varTypes Tryz.prog) (ds++gs)).all (·≤reachBytes)=true:=hsz0
 have hval:∀(j:Nat) t v,Tryz.f3.params[j]?=some t→args[j]?=some v→Value.okWide Tryz.prog W .any base t v:=hval0
 have hW':=hW
 obtain ⟨p,q,hA0,hV,rfl,hfz,hnd⟩:=hW
 have hA:DataW.TrodAll enc Tryz.prog W 0 (fun _=>true) true Tryz.f3.params.toList args.toList ds p:=hA0
 rw [Tryz.params3] at hA hval hsz
 obtain ⟨v0,vs0,d0,ds0,p0,q0,hargs,rfl,rfl,h0,r0⟩:=trodAll_cons hA
 obtain ⟨rfl,rfl,rfl⟩:=trodAll_nil r0
 obtain rfl:args= #[v0]:=by cases args;simp_all
 obtain ⟨rfl,rfl⟩:=trodVars_none hV
 have k0:=h0
 have lt0:∀x∈p0,x.block<W.heap.size:=by obtain ⟨m,hm⟩:=k0;exact DataW.trod_lt m _ _ _ hm
 obtain ⟨a0,cs0,rfl,hK0,hI0⟩:=open_txnr (hval 0 33 v0 rfl rfl) h0
 clear hA0 hval0 hsz0 hsz
 refine (cm_law a0 hI0 W hK0).mono fun e W' ⟨he,bel⟩=> ?_
 subst he
 exact ⟨_,rfl,_,_,_,[],_,[],hW',trodAll_mk1 (shut_bool Tryz.underlying4 _),(trodAll_cons_mk (Below.trod laidOut zq7 (of_decide_eq_true zq7) k0 bel lt0) trodAll_mk0),rfl,bel.frame _,fun h=>by cases h⟩
theorem lifts:(Rows.fnExactCommitRow.lifted==Tryz.prog.liftsFinal)=true:=Head.lifts
theorem made:(Tryz.prog.make==some Rows.fnExactCommitRow.make)=true:=Head.made
theorem plain:(Rows.fnExactCommitRow.plainKeys==Tryz.prog.plainKeys)=true:=Head.plain
theorem jf:joinedFacts Tryz.prog 3 Tryz.f3 Rows.fnExactCommitSpec Rows.fnExactCommitRow=true:=by
 unfold joinedFacts
 simp only [Bool.and_eq_true]
 repeat' apply And.intro
 all_goals first|with_reducible exact Head.laid|with_reducible exact Head.maps|with_reducible exact Head.heard|with_reducible exact Head.may|with_reducible exact lifts|with_reducible exact made|with_reducible exact plain|(as_aux_lemma=>kernel_rfl)
theorem fnm:Tryz.prog.funcNamed Rows.fnExactCommitRow.func=some 3:=by kernel_rfl
theorem inst:Tryz.f3.isInstance Tryz.prog Rows.fnExactCommitRow.origin Rows.fnExactCommitRow.targs:=of_decide_eq_true zq7
theorem wrap:Tryz.f3.isWrapper Tryz.prog Rows.fnExactCommitRow.wrapper Rows.fnExactCommitRow.mainSum:=by
 unfold Func.isWrapper
 rw [if_neg (by decide+kernel)]
 exact ⟨rfl,rfl⟩
theorem over:Rows.fnExactCommitRow.holds Tryz.pinned (OpenSpec.ofChange Rows.fnExactCommitSpec):=
 OpenClaim.holds_of_wide 3 Tryz.f3 rfl rfl rfl rfl rfl rfl rfl ⟨rfl,rfl,rfl,rfl,rfl⟩ rfl rfl rfl rfl rfl fnm Tryz.func3 jf inst wrap
  (fun os started H enc _=>lifted os started H enc)
theorem proved:Rows.FnExactCommitSaid:=over
end Go.Proofs.YtonhdiemjgdcnaaGreat.fnExactCommit
namespace Go.Proofs.YtonhdiemjgdcnaaGreat
theorem fnExactCommit_holds:Rows.FnExactCommitSaid:=fnExactCommit.proved
end Go.Proofs.YtonhdiemjgdcnaaGreat
