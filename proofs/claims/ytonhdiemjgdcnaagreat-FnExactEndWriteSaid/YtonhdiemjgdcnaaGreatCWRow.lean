/- The program's EndWrite returns what the reference's returns, for all arguments. -/
import Derived.Test.YtonhdiemjgdcnaaGreatRows
import Derived.Test.YtonhdiemjgdcnaaGreatCW16
import Derived.WalkKit
import Derived.ProofKit
import Derived.OpenShut
import Derived.ShutString
import Derived.ChangeOld
import Derived.Below
import Derived.SizedLaws
import Derived.Carry
set_option maxHeartbeats 64000000
set_option maxRecDepth 100000
set_option linter.unusedVariables false
set_option linter.unusedSimpArgs false
namespace Go.Proofs.YtonhdiemjgdcnaaGreat.fnExactEndWrite
open Go.ChangeShapes Go.WideShapes Go.ChangeAt Go.RowKit
open Go.ChangeMaps (open_string shut_string)
open Go.Proofs.YtonhdiemjgdcnaaGreat.Opened Go.Proofs.YtonhdiemjgdcnaaGreat.PFnExactGivePage Go.Proofs.YtonhdiemjgdcnaaGreatW.PrintWords
theorem own:ownKnob Tryz.prog.godebug=none:=zq13
theorem laidOut:laidOutB Tryz.prog=true:=Head.laid
theorem lifted (os:Os) (started:os.Started) (H:Type) (enc:TypeId×Value→H):
  ReturnsInHanded {} Tryz.checked os 5 .any (Rows.fnExactEndWriteSpec.pre6 enc Tryz.prog Tryz.f5 Rows.fnExactEndWriteRow.domain false) (Rows.fnExactEndWriteSpec.post enc Tryz.prog Tryz.f5 false true false false):=by
 refine returnsInHanded_of_change_sized (C:=Tryz.checked) own started zq13 Tryz.func5
  (ChangeSpec.witness6 (enc:=enc) (C:=Tryz.checked) false ⟨#[],#[.agg #[.slice none 0 0,.slice none 0 0,.int .i64 0,.int .i64 0,.int .i64 0,.slice none 0 0,.slice none 0 0,.int .i64 0,.int .i64 0,.int .i64 0,.slice none 0 0,.slice none 0 0,.slice none 0 0,.int .i64 0,.slice none 0 0,.slice none 0 0,.slice none 0 0,.int .i64 0,.bool false,.bool false]],[]⟩ 8 zq13 zq13 zq13 zq13) ?_
 intro W base args ds gs before hval0 hW hcnd hsz0 _
 have hsz:(DataW.weightsEach Tryz.prog (Tryz.f5.params.toList++Rows.fnExactEndWriteSpec.plain.varTypes Tryz.prog) (ds++gs)).all (·≤reachBytes)=true:=hsz0
 have hval:∀(j:Nat) t v,Tryz.f5.params[j]?=some t→args[j]?=some v→Value.okWide Tryz.prog W .any base t v:=hval0
 have hW':=hW
 obtain ⟨p,q,hA0,hV,rfl,hfz,hnd⟩:=hW
 have hA:DataW.TrodAll enc Tryz.prog W 0 (fun _=>true) true Tryz.f5.params.toList args.toList ds p:=hA0
 rw [Tryz.params5] at hA hval hsz
 obtain ⟨v0,vs0,d0,ds0,p0,q0,hargs,rfl,rfl,h0,r0⟩:=trodAll_cons hA
 obtain ⟨rfl,rfl,rfl⟩:=trodAll_nil r0
 obtain rfl:args= #[v0]:=by cases args;simp_all
 obtain ⟨rfl,rfl⟩:=trodVars_none hV
 have k0:=h0
 have lt0:∀x∈p0,x.block<W.heap.size:=by obtain ⟨m,hm⟩:=k0;exact DataW.trod_lt m _ _ _ hm
 obtain ⟨a0,cs0,rfl,hK0,hI0⟩:=open_storer (hval 0 63 v0 rfl rfl) h0
 clear hA0 hval0 hsz0 hsz
 refine (ew_law a0 hI0 W hK0).mono fun e W' ⟨he,bel⟩=> ?_
 subst he
 exact ⟨_,rfl,_,_,_,[],_,[],hW',trodAll_mk1 (shut_bool Tryz.underlying4 _),(trodAll_cons_mk (Below.trod laidOut zq13 (z8 zq13) k0 bel lt0) trodAll_mk0),rfl,bel.frame _,fun h=>by cases h⟩
theorem lifts:(Rows.fnExactEndWriteRow.lifted==Tryz.prog.liftsFinal)=true:=Head.lifts
theorem made:(Tryz.prog.make==some Rows.fnExactEndWriteRow.make)=true:=Head.made
theorem plain:(Rows.fnExactEndWriteRow.plainKeys==Tryz.prog.plainKeys)=true:=Head.plain
theorem jf:joinedFacts Tryz.prog 5 Tryz.f5 Rows.fnExactEndWriteSpec Rows.fnExactEndWriteRow=true:=by
 unfold joinedFacts
 simp only [Bool.and_eq_true]
 repeat' apply And.intro
 all_goals first|with_reducible exact Head.laid|with_reducible exact Head.maps|with_reducible exact Head.heard|with_reducible exact Head.may|with_reducible exact lifts|with_reducible exact made|with_reducible exact plain|(as_aux_lemma=>kernel_rfl)
theorem fnm:Tryz.prog.funcNamed Rows.fnExactEndWriteRow.func=some 5:=zq13
theorem inst:Tryz.f5.isInstance Tryz.prog Rows.fnExactEndWriteRow.origin Rows.fnExactEndWriteRow.targs:=z8 zq13
theorem wrap:Tryz.f5.isWrapper Tryz.prog Rows.fnExactEndWriteRow.wrapper Rows.fnExactEndWriteRow.mainSum:=by
 unfold Func.isWrapper
 rw [if_neg (by decide+kernel)]
 exact ⟨rfl,rfl⟩
theorem over:Rows.fnExactEndWriteRow.holds Tryz.pinned (OpenSpec.ofChange Rows.fnExactEndWriteSpec):=
 OpenClaim.holds_of_wide 5 Tryz.f5 rfl rfl rfl rfl rfl rfl rfl ⟨rfl,rfl,rfl,rfl,rfl⟩ rfl rfl rfl rfl rfl fnm Tryz.func5 jf inst wrap
  (fun os started H enc _=>lifted os started H enc)
theorem proved:Rows.FnExactEndWriteSaid:=over
end Go.Proofs.YtonhdiemjgdcnaaGreat.fnExactEndWrite
namespace Go.Proofs.YtonhdiemjgdcnaaGreat
theorem fnExactEndWrite_holds:Rows.FnExactEndWriteSaid:=fnExactEndWrite.proved
end Go.Proofs.YtonhdiemjgdcnaaGreat
