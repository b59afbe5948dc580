/- The program's CommitCut returns what the reference's returns, for all arguments. -/
import Derived.Test.YtonhdiemjgdcnaaGreatRows
import Derived.Test.YtonhdiemjgdcnaaGreatCC12
import Derived.WalkKit
import Derived.ProofKit
import Derived.OpenShut
import Derived.ShutString
import Derived.ChangeOld
import Derived.Below
import Derived.SizedLaws
import Derived.Carry
set_option maxHeartbeats 64000000
set_option maxRecDepth 100000
set_option linter.unusedVariables false
set_option linter.unusedSimpArgs false
namespace Go.Proofs.YtonhdiemjgdcnaaGreat.fnExactCommitCut
open Go.ChangeShapes Go.WideShapes Go.ChangeAt Go.RowKit
open Go.ChangeMaps (open_string shut_string)
open Go.Proofs.YtonhdiemjgdcnaaGreat.Opened Go.Proofs.YtonhdiemjgdcnaaGreat.PFnExactGivePage Go.Proofs.YtonhdiemjgdcnaaGreatW.PrintWords
theorem own:ownKnob Tryz.prog.godebug=none:=by kernel_rfl
theorem laidOut:laidOutB Tryz.prog=true:=Head.laid
theorem lifted (os:Os) (started:os.Started) (H:Type) (enc:TypeId×Value→H):
  ReturnsInHanded {} Tryz.checked os 4 .any (Rows.fnExactCommitCutSpec.pre6 enc Tryz.prog Tryz.f4 Rows.fnExactCommitCutRow.domain false) (Rows.fnExactCommitCutSpec.post enc Tryz.prog Tryz.f4 false true false false):=by
 refine returnsInHanded_of_change_sized (C:=Tryz.checked) own started zq7 Tryz.func4
  (ChangeSpec.witness6 (enc:=enc) (C:=Tryz.checked) false ⟨#[],#[.agg #[.int .i64 0,.int .i64 0,.int .i64 0,.slice none 0 0,.slice none 0 0,.slice none 0 0,.int .i64 0,.slice none 0 0,.slice none 0 0,.slice none 0 0,.int .i64 0],.int .i64 0,.slice none 0 0,.int .i64 0],[]⟩ 8 zq7 zq7 zq7 zq7) ?_
 intro W base args ds gs before hval0 hW hcnd hsz0 _
 have hsz:(DataW.weightsEach Tryz.prog (Tryz.f4.params.toList++Rows.fnExactCommitCutSpec.plain.varTypes Tryz.prog) (ds++gs)).all (·≤reachBytes)=true:=hsz0
 have hval:∀(j:Nat) t v,Tryz.f4.params[j]?=some t→args[j]?=some v→Value.okWide Tryz.prog W .any base t v:=hval0
 have hW':=hW
 obtain ⟨p,q,hA0,hV,rfl,hfz,hnd⟩:=hW
 have hA:DataW.TrodAll enc Tryz.prog W 0 (fun _=>true) true Tryz.f4.params.toList args.toList ds p:=hA0
 rw [Tryz.params4] at hA hval hsz
 obtain ⟨v0,vs0,d0,ds0,p0,q0,hargs,rfl,rfl,h0,r0⟩:=trodAll_cons hA
 obtain ⟨v1,vs1,d1,ds1,p1,q1,rfl,rfl,rfl,h1,r1⟩:=trodAll_cons r0
 obtain ⟨v2,vs2,d2,ds2,p2,q2,rfl,rfl,rfl,h2,r2⟩:=trodAll_cons r1
 obtain ⟨v3,vs3,d3,ds3,p3,q3,rfl,rfl,rfl,h3,r3⟩:=trodAll_cons r2
 obtain ⟨rfl,rfl,rfl⟩:=trodAll_nil r3
 obtain rfl:args= #[v0,v1,v2,v3]:=by cases args;simp_all
 obtain ⟨rfl,rfl⟩:=trodVars_none hV
 have k0:=h0
 have lt0:∀x∈p0,x.block<W.heap.size:=by obtain ⟨m,hm⟩:=k0;exact DataW.trod_lt m _ _ _ hm
 obtain ⟨a0,cs0,rfl,hK0,hI0⟩:=open_txnr (hval 0 33 v0 rfl rfl) h0
 obtain ⟨a1,rfl,rfl,rfl,w1⟩:=open_int Tryz.underlying3 (hval 1 3 v1 rfl rfl) h1
 have k2:=h2
 have lt2:∀x∈p2,x.block<W.heap.size:=by obtain ⟨m,hm⟩:=k2;exact DataW.trod_lt m _ _ _ hm
 obtain ⟨a2,cs2,rfl,hK2,hI2⟩:=open_bools (hval 2 55 v2 rfl rfl) h2
 obtain ⟨a3,rfl,rfl,rfl,w3⟩:=open_int Tryz.underlying3 (hval 3 3 v3 rfl rfl) h3
 clear hA0 hval0 hsz0 hsz
 refine (cut_law a0 a1 a2 a3 hI0 W hK0 hK2).mono fun e W' ⟨he,bel⟩=> ?_
 subst he
 exact ⟨_,rfl,_,_,_,[],_,[],hW',trodAll_mk1 (shut_bool Tryz.underlying4 _),(trodAll_cons_mk (Below.trod laidOut zq7 (of_decide_eq_true zq7) k0 bel lt0) (trodAll_cons_mk (shut_int Tryz.underlying3 w1) (trodAll_cons_mk (Below.trod laidOut zq7 (of_decide_eq_true zq7) k2 bel lt2) (trodAll_cons_mk (shut_int Tryz.underlying3 w3) trodAll_mk0)))),rfl,bel.frame _,fun h=>by cases h⟩
theorem lifts:(Rows.fnExactCommitCutRow.lifted==Tryz.prog.liftsFinal)=true:=Head.lifts
theorem made:(Tryz.prog.make==some Rows.fnExactCommitCutRow.make)=true:=Head.made
theorem plain:(Rows.fnExactCommitCutRow.plainKeys==Tryz.prog.plainKeys)=true:=Head.plain
theorem jf:joinedFacts Tryz.prog 4 Tryz.f4 Rows.fnExactCommitCutSpec Rows.fnExactCommitCutRow=true:=by
 unfold joinedFacts
 simp only [Bool.and_eq_true]
 repeat' apply And.intro
 all_goals first|with_reducible exact Head.laid|with_reducible exact Head.maps|with_reducible exact Head.heard|with_reducible exact Head.may|with_reducible exact lifts|with_reducible exact made|with_reducible exact plain|(as_aux_lemma=>kernel_rfl)
theorem fnm:Tryz.prog.funcNamed Rows.fnExactCommitCutRow.func=some 4:=by kernel_rfl
theorem inst:Tryz.f4.isInstance Tryz.prog Rows.fnExactCommitCutRow.origin Rows.fnExactCommitCutRow.targs:=of_decide_eq_true zq7
theorem wrap:Tryz.f4.isWrapper Tryz.prog Rows.fnExactCommitCutRow.wrapper Rows.fnExactCommitCutRow.mainSum:=by
 unfold Func.isWrapper
 rw [if_neg (by decide+kernel)]
 exact ⟨rfl,rfl⟩
theorem over:Rows.fnExactCommitCutRow.holds Tryz.pinned (OpenSpec.ofChange Rows.fnExactCommitCutSpec):=
 OpenClaim.holds_of_wide 4 Tryz.f4 rfl rfl rfl rfl rfl rfl rfl ⟨rfl,rfl,rfl,rfl,rfl⟩ rfl rfl rfl rfl rfl fnm Tryz.func4 jf inst wrap
  (fun os started H enc _=>lifted os started H enc)
theorem proved:Rows.FnExactCommitCutSaid:=over
end Go.Proofs.YtonhdiemjgdcnaaGreat.fnExactCommitCut
namespace Go.Proofs.YtonhdiemjgdcnaaGreat
theorem fnExactCommitCut_holds:Rows.FnExactCommitCutSaid:=fnExactCommitCut.proved
end Go.Proofs.YtonhdiemjgdcnaaGreat
