/- The program's PutNode returns what the reference's returns, for all arguments. -/
import Derived.Test.YtonhdiemjgdcnaaRows
import Derived.Test.YtonhdiemjgdcnaaPA13
import Derived.WalkKit
import Derived.ProofKit
import Derived.OpenShut
import Derived.ShutString
import Derived.ChangeOld
import Derived.Below
import Derived.SizedLaws
import Derived.Carry
set_option maxHeartbeats 64000000
set_option maxRecDepth 100000
set_option linter.unusedVariables false
set_option linter.unusedSimpArgs false
namespace Go.Proofs.Ytonhdiemjgdcnaa.fnExactPutNode
open Go.ChangeShapes Go.WideShapes Go.ChangeAt Go.RowKit
open Go.ChangeMaps (open_string shut_string)
open Go.Proofs.Ytonhdiemjgdcnaa.Opened Go.Proofs.Ytonhdiemjgdcnaa.PFnExactGivePage Go.Proofs.YtonhdiemjgdcnaaW.PrintWords
theorem own:ownKnob Try.prog.godebug=none:=zq15
theorem laidOut:laidOutB Try.prog=true:=Head.laid
theorem lifted (os:Os) (started:os.Started) (H:Type) (enc:TypeId×Value→H):
  ReturnsInHanded {} Try.checked os 4 .any (Rows.fnExactPutNodeSpec.pre6 enc Try.prog Try.f4 Rows.fnExactPutNodeRow.domain false) (Rows.fnExactPutNodeSpec.post enc Try.prog Try.f4 false true false false):=by
 refine returnsInHanded_of_change_sized (C:=Try.checked) own started zq15 Try.func4
  (ChangeSpec.witness6 (enc:=enc) (C:=Try.checked) false ⟨#[],#[.agg #[.slice none 0 0,.slice none 0 0,.int .i64 0,.slice none 0 0,.slice none 0 0,.slice none 0 0],.agg #[.bool false,.slice none 0 0,.slice none 0 0,.slice none 0 0]],[]⟩ 8 zq15 zq15 zq15 zq15) ?_
 intro W base args ds gs before hval0 hW hcnd hsz0 _
 have hsz:(DataW.weightsEach Try.prog (Try.f4.params.toList++Rows.fnExactPutNodeSpec.plain.varTypes Try.prog) (ds++gs)).all (·≤reachBytes)=true:=hsz0
 have hval:∀(j:Nat) t v,Try.f4.params[j]?=some t→args[j]?=some v→Value.okWide Try.prog W .any base t v:=hval0
 have hW':=hW
 obtain ⟨p,q,hA0,hV,rfl,hfz,hnd⟩:=hW
 have hA:DataW.TrodAll enc Try.prog W 0 (fun _=>true) true Try.f4.params.toList args.toList ds p:=hA0
 rw [Try.params4] at hA hval hsz
 obtain ⟨v0,vs0,d0,ds0,p0,q0,hargs,rfl,rfl,h0,r0⟩:=trodAll_cons hA
 obtain ⟨v1,vs1,d1,ds1,p1,q1,rfl,rfl,rfl,h1,r1⟩:=trodAll_cons r0
 obtain ⟨rfl,rfl,rfl⟩:=trodAll_nil r1
 obtain rfl:args= #[v0,v1]:=by cases args;simp_all
 obtain ⟨rfl,rfl⟩:=trodVars_none hV
 have k0:=h0
 have lt0:∀x∈p0,x.block<W.heap.size:=by obtain ⟨m,hm⟩:=k0;exact DataW.trod_lt m _ _ _ hm
 obtain ⟨a0,cs0,rfl,hK0,hI0⟩:=open_work (hval 0 28 v0 rfl rfl) h0
 have k1:=h1
 have lt1:∀x∈p1,x.block<W.heap.size:=by obtain ⟨m,hm⟩:=k1;exact DataW.trod_lt m _ _ _ hm
 obtain ⟨a1,cs1,rfl,hK1,hI1⟩:=open_node (hval 1 42 v1 rfl rfl) h1
 clear hA0 hval0 hsz0 hsz
 refine (pn_law a0 a1 hI0 hI1 W hK0 hK1).mono fun e W' ⟨he,bel⟩=> ?_
 subst he
 exact ⟨_,rfl,_,_,_,[],_,[],hW',trodAll_mk1 (shut_bool Try.underlying4 _),(trodAll_cons_mk (Below.trod laidOut zq15 (of_decide_eq_true zq15) k0 bel lt0) (trodAll_cons_mk (Below.trod laidOut zq15 (of_decide_eq_true zq15) k1 bel lt1) trodAll_mk0)),rfl,bel.frame _,fun h=>by cases h⟩
theorem lifts:(Rows.fnExactPutNodeRow.lifted==Try.prog.liftsFinal)=true:=Head.lifts
theorem made:(Try.prog.make==some Rows.fnExactPutNodeRow.make)=true:=Head.made
theorem plain:(Rows.fnExactPutNodeRow.plainKeys==Try.prog.plainKeys)=true:=Head.plain
theorem jf:joinedFacts Try.prog 4 Try.f4 Rows.fnExactPutNodeSpec Rows.fnExactPutNodeRow=true:=by
 unfold joinedFacts
 simp only [Bool.and_eq_true]
 repeat' apply And.intro
 all_goals first|with_reducible exact Head.laid|with_reducible exact Head.maps|with_reducible exact Head.heard|with_reducible exact Head.may|with_reducible exact lifts|with_reducible exact made|with_reducible exact plain|(as_aux_lemma=>kernel_rfl)
theorem fnm:Try.prog.funcNamed Rows.fnExactPutNodeRow.func=some 4:=zq15
theorem inst:Try.f4.isInstance Try.prog Rows.fnExactPutNodeRow.origin Rows.fnExactPutNodeRow.targs:=of_decide_eq_true zq15
theorem wrap:Try.f4.isWrapper Try.prog Rows.fnExactPutNodeRow.wrapper Rows.fnExactPutNodeRow.mainSum:=by
 unfold Func.isWrapper
 rw [if_neg (by decide+kernel)]
 exact ⟨rfl,rfl⟩
theorem over:Rows.fnExactPutNodeRow.holds Try.pinned (OpenSpec.ofChange Rows.fnExactPutNodeSpec):=
 OpenClaim.holds_of_wide 4 Try.f4 rfl rfl rfl rfl rfl rfl rfl ⟨rfl,rfl,rfl,rfl,rfl⟩ rfl rfl rfl rfl rfl fnm Try.func4 jf inst wrap
  (fun os started H enc _=>lifted os started H enc)
theorem proved:Rows.FnExactPutNodeSaid:=over
end Go.Proofs.Ytonhdiemjgdcnaa.fnExactPutNode
namespace Go.Proofs.Ytonhdiemjgdcnaa
theorem fnExactPutNode_holds:Rows.FnExactPutNodeSaid:=fnExactPutNode.proved
end Go.Proofs.Ytonhdiemjgdcnaa
