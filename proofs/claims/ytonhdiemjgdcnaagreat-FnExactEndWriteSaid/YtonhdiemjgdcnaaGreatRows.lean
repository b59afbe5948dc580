/-
  No cell of these rows narrows 'for every input' (looked for: loops, veiled, ifaces, maps, wideKeys, modest, calm, conditions, laid).
  DERIVED. THE GIVEN ROWS OF THIS SEAT. 3 by the template 'for every input the law returns true; each argument reads behind the call as it read before'; 0 by the template 'total and deterministic' (their statements: YtonhdiemjgdcnaaGreatTotals.lean).
  GIVEN WITH THE SEED: the statements are not yours to turn. If you find one false, say at which input.
  Laid BY PROGRAM, IN A SANDBOX (cutbox-rows.mjs): the forced cells as the released guide's own fill.sh prints them over the translation 637e4392a216d22d… (all of the seat's roots in one cut). By AI agents, Wed Nov 11 2026. No macro, syntax, notation, axiom, sorry.
-/
import Derived.Test.YtonhdiemjgdcnaaGreatChecked
import GoSem.Claim
import GoSem.ClaimJoined
import GoSem.ClaimMapViews
import Derived.JoinedTies
import Derived.KernelRfl
namespace Go.Proofs.YtonhdiemjgdcnaaGreat
/- THE CELL 'sum', in the pinned program and in every row, IS THE sha256 OF THE DUMP (.gsa) THAT YtonhdiemjgdcnaaGreatProg.lean LOADS. Nothing in Lean hashes anything: it is a label: what it is worth is what the hold of that sum in a sandbox is worth. -/
noncomputable def Tryz.pinned : Pinned := { name := "ytonhdiemjgdcnaagreat", sum := "637e4392a216d22df8b2256bd8662719217cf01733017f942694c898b8299bc2", checked := Tryz.checked }
namespace Rows
def none {H : Type} : Left H := { results := [], args := [] }

/-- 'laws.FnExactCommit': WHATEVER THE INPUT: true; the input reads as it did. -/
def fnExactCommitSpec : ChangeSpec := { name := "fnExactCommit", fn := fun _ => fun
  | [d] => { results := [.lit (.bool true)], args := [d] }
  | _ => none }
def fnExactCommitRow : OpenClaim := { program := "ytonhdiemjgdcnaagreat", sum := "637e4392a216d22df8b2256bd8662719217cf01733017f942694c898b8299bc2", func := "loop.example/g00240/laws.FnExactCommit", spec := "fnExactCommit", unfollowed := true, recurses := true, apart := false }
def FnExactCommitSaid : Prop := fnExactCommitRow.holds Tryz.pinned (OpenSpec.ofChange fnExactCommitSpec)

/-- ITS FALSE NEIGHBOUR: 'it returns false'. Refute it at one input. -/
def fnExactCommitWrong : ChangeSpec := { name := "fnExactCommit", fn := fun _ => fun
  | [d] => { results := [.lit (.bool false)], args := [d] }
  | _ => none }
def FnExactCommitWrongFalsely : Prop := fnExactCommitRow.holds Tryz.pinned (OpenSpec.ofChange fnExactCommitWrong)

/-- 'laws.FnExactCommitCut': WHATEVER THE INPUT: true; the input reads as it did. -/
def fnExactCommitCutSpec : ChangeSpec := { name := "fnExactCommitCut", fn := fun _ => fun
  | [d1, d2, d3, d4] => { results := [.lit (.bool true)], args := [d1, d2, d3, d4] }
  | _ => none }
def fnExactCommitCutRow : OpenClaim := { program := "ytonhdiemjgdcnaagreat", sum := "637e4392a216d22df8b2256bd8662719217cf01733017f942694c898b8299bc2", func := "loop.example/g00240/laws.FnExactCommitCut", spec := "fnExactCommitCut", unfollowed := true, recurses := true, apart := false }
def FnExactCommitCutSaid : Prop := fnExactCommitCutRow.holds Tryz.pinned (OpenSpec.ofChange fnExactCommitCutSpec)

/-- ITS FALSE NEIGHBOUR: 'it returns false'. Refute it at one input. -/
def fnExactCommitCutWrong : ChangeSpec := { name := "fnExactCommitCut", fn := fun _ => fun
  | [d1, d2, d3, d4] => { results := [.lit (.bool false)], args := [d1, d2, d3, d4] }
  | _ => none }
def FnExactCommitCutWrongFalsely : Prop := fnExactCommitCutRow.holds Tryz.pinned (OpenSpec.ofChange fnExactCommitCutWrong)

/-- 'laws.FnExactEndWrite': WHATEVER THE INPUT: true; the input reads as it did. -/
def fnExactEndWriteSpec : ChangeSpec := { name := "fnExactEndWrite", fn := fun _ => fun
  | [d] => { results := [.lit (.bool true)], args := [d] }
  | _ => none }
def fnExactEndWriteRow : OpenClaim := { program := "ytonhdiemjgdcnaagreat", sum := "637e4392a216d22df8b2256bd8662719217cf01733017f942694c898b8299bc2", func := "loop.example/g00240/laws.FnExactEndWrite", spec := "fnExactEndWrite", unfollowed := true, recurses := true, apart := false }
def FnExactEndWriteSaid : Prop := fnExactEndWriteRow.holds Tryz.pinned (OpenSpec.ofChange fnExactEndWriteSpec)

/-- ITS FALSE NEIGHBOUR: 'it returns false'. Refute it at one input. -/
def fnExactEndWriteWrong : ChangeSpec := { name := "fnExactEndWrite", fn := fun _ => fun
  | [d] => { results := [.lit (.bool false)], args := [d] }
  | _ => none }
def FnExactEndWriteWrongFalsely : Prop := fnExactEndWriteRow.holds Tryz.pinned (OpenSpec.ofChange fnExactEndWriteWrong)

/- THE SECOND FORM. 'bulk': how many values and letters a reading holds, each counted each time it is reached (what is shared counts as often as it is met; a slice's spare places count too). A statement '..UptoSaid' is the law's where the arguments, and the package variables that the reading takes, are together of bulk at most 1048576: NARROWER than '..Said'. Prove '..Said' where nothing that the law and all that it calls make is longer than what came in: it says more and counts as full. Else prove '..UptoSaid'. A law counts once. -/
mutual
def uptoBulk {H : Type} : DataW H → Nat
  | .lit (.string bytes) => bytes.length + 1
  | .lit _ => 1
  | .nil => 1
  | .ptr d => uptoBulk d + 1
  | .slice elems spare => uptoBulkAll elems + uptoBulkAll spare + 1
  | .agg parts => uptoBulkAll parts + 1
  | .iface _ d => uptoBulk d + 1
  | .map entries => uptoBulkEntries entries + 1
  | .held _ => 1
def uptoBulkAll {H : Type} : List (DataW H) → Nat
  | [] => 0
  | d :: r => uptoBulk d + uptoBulkAll r
def uptoBulkEntries {H : Type} : List (Lit × DataW H) → Nat
  | [] => 0
  | x :: r => uptoBulkEntry x + uptoBulkEntries r
def uptoBulkEntry {H : Type} : Lit × DataW H → Nat
  | (.string bytes, d) => bytes.length + uptoBulk d + 1
  | (_, d) => uptoBulk d + 1
 end
def uptoSmall : (H : Type) → List (DataW H) → Bool := fun _ ds => decide (uptoBulkAll ds ≤ 1048576)
def OpenSpec.upto (s : _root_.Go.ChangeSpec) : _root_.Go.OpenSpec := { _root_.Go.OpenSpec.ofChange s with cond := some uptoSmall }

/-- 'laws.FnExactCommit', WHERE WHAT IT READS IS OF BULK AT MOST 1048576: true; the input reads as it did. -/
def fnExactCommitUptoRow : OpenClaim := { program := "ytonhdiemjgdcnaagreat", sum := "637e4392a216d22df8b2256bd8662719217cf01733017f942694c898b8299bc2", func := "loop.example/g00240/laws.FnExactCommit", spec := "fnExactCommit", unfollowed := true, recurses := true, apart := false, narrowed := true }
def FnExactCommitUptoSaid : Prop := fnExactCommitUptoRow.holds Tryz.pinned (OpenSpec.upto fnExactCommitSpec)

/-- 'laws.FnExactCommitCut', WHERE WHAT IT READS IS OF BULK AT MOST 1048576: true; the input reads as it did. -/
def fnExactCommitCutUptoRow : OpenClaim := { program := "ytonhdiemjgdcnaagreat", sum := "637e4392a216d22df8b2256bd8662719217cf01733017f942694c898b8299bc2", func := "loop.example/g00240/laws.FnExactCommitCut", spec := "fnExactCommitCut", unfollowed := true, recurses := true, apart := false, narrowed := true }
def FnExactCommitCutUptoSaid : Prop := fnExactCommitCutUptoRow.holds Tryz.pinned (OpenSpec.upto fnExactCommitCutSpec)

/-- 'laws.FnExactEndWrite', WHERE WHAT IT READS IS OF BULK AT MOST 1048576: true; the input reads as it did. -/
def fnExactEndWriteUptoRow : OpenClaim := { program := "ytonhdiemjgdcnaagreat", sum := "637e4392a216d22df8b2256bd8662719217cf01733017f942694c898b8299bc2", func := "loop.example/g00240/laws.FnExactEndWrite", spec := "fnExactEndWrite", unfollowed := true, recurses := true, apart := false, narrowed := true }
def FnExactEndWriteUptoSaid : Prop := fnExactEndWriteUptoRow.holds Tryz.pinned (OpenSpec.upto fnExactEndWriteSpec)

end Rows
end Go.Proofs.YtonhdiemjgdcnaaGreat
