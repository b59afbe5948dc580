/-
  No cell of these rows narrows 'for every input' (looked for: loops, veiled, ifaces, maps, wideKeys, modest, calm, conditions, laid).
  DERIVED. THE GIVEN ROWS OF THIS SEAT. 6 by the template 'for every input the law returns true; each argument reads behind the call as it read before'; 0 by the template 'total and deterministic' (their statements: YtonhdiemjgdcnaaTotals.lean).
  GIVEN WITH THE SEED: the statements are not yours to turn. If you find one false, say at which input.
  Laid BY PROGRAM, IN A SANDBOX (cutbox-rows.mjs): the forced cells as the released guide's own fill.sh prints them over the translation 381d7f1464954372… (all of the seat's roots in one cut). By AI agents, Wed Nov 11 2026. No macro, syntax, notation, axiom, sorry.
-/
import Derived.Test.YtonhdiemjgdcnaaChecked
import GoSem.Claim
import GoSem.ClaimJoined
import GoSem.ClaimMapViews
import Derived.JoinedTies
import Derived.KernelRfl
namespace Go.Proofs.Ytonhdiemjgdcnaa
/- THE CELL 'sum', in the pinned program and in every row, IS THE sha256 OF THE DUMP (.gsa) THAT YtonhdiemjgdcnaaProg.lean LOADS. Nothing in Lean hashes anything: it is a label: what it is worth is what the hold of that sum in a sandbox is worth. -/
noncomputable def Try.pinned : Pinned := { name := "ytonhdiemjgdcnaa", sum := "381d7f1464954372049f9e5acaea4d0379a09149409fec7af26a532ab7263af1", checked := Try.checked }
namespace Rows
def none {H : Type} : Left H := { results := [], args := [] }

/-- 'laws.FnExactGivePage': WHATEVER THE INPUT: true; the input reads as it did. -/
def fnExactGivePageSpec : ChangeSpec := { name := "fnExactGivePage", fn := fun _ => fun
  | [d] => { results := [.lit (.bool true)], args := [d] }
  | _ => none }
def fnExactGivePageRow : OpenClaim := { program := "ytonhdiemjgdcnaa", sum := "381d7f1464954372049f9e5acaea4d0379a09149409fec7af26a532ab7263af1", func := "loop.example/g00240/laws.FnExactGivePage", spec := "fnExactGivePage", apart := false }
def FnExactGivePageSaid : Prop := fnExactGivePageRow.holds Try.pinned (OpenSpec.ofChange fnExactGivePageSpec)

/-- ITS FALSE NEIGHBOUR: 'it returns false'. Refute it at one input. -/
def fnExactGivePageWrong : ChangeSpec := { name := "fnExactGivePage", fn := fun _ => fun
  | [d] => { results := [.lit (.bool false)], args := [d] }
  | _ => none }
def FnExactGivePageWrongFalsely : Prop := fnExactGivePageRow.holds Try.pinned (OpenSpec.ofChange fnExactGivePageWrong)

/-- 'laws.FnExactPutNode': WHATEVER THE INPUT: true; the input reads as it did. -/
def fnExactPutNodeSpec : ChangeSpec := { name := "fnExactPutNode", fn := fun _ => fun
  | [d1, d2] => { results := [.lit (.bool true)], args := [d1, d2] }
  | _ => none }
def fnExactPutNodeRow : OpenClaim := { program := "ytonhdiemjgdcnaa", sum := "381d7f1464954372049f9e5acaea4d0379a09149409fec7af26a532ab7263af1", func := "loop.example/g00240/laws.FnExactPutNode", spec := "fnExactPutNode", unfollowed := true, recurses := true, apart := false }
def FnExactPutNodeSaid : Prop := fnExactPutNodeRow.holds Try.pinned (OpenSpec.ofChange fnExactPutNodeSpec)

/-- ITS FALSE NEIGHBOUR: 'it returns false'. Refute it at one input. -/
def fnExactPutNodeWrong : ChangeSpec := { name := "fnExactPutNode", fn := fun _ => fun
  | [d1, d2] => { results := [.lit (.bool false)], args := [d1, d2] }
  | _ => none }
def FnExactPutNodeWrongFalsely : Prop := fnExactPutNodeRow.holds Try.pinned (OpenSpec.ofChange fnExactPutNodeWrong)

/-- 'laws.FnExactOpen': WHATEVER THE INPUT: true; the input reads as it did. -/
def fnExactOpenSpec : ChangeSpec := { name := "fnExactOpen", fn := fun _ => fun
  | [d] => { results := [.lit (.bool true)], args := [d] }
  | _ => none }
def fnExactOpenRow : OpenClaim := { program := "ytonhdiemjgdcnaa", sum := "381d7f1464954372049f9e5acaea4d0379a09149409fec7af26a532ab7263af1", func := "loop.example/g00240/laws.FnExactOpen", spec := "fnExactOpen", unfollowed := true, recurses := true, apart := false }
def FnExactOpenSaid : Prop := fnExactOpenRow.holds Try.pinned (OpenSpec.ofChange fnExactOpenSpec)

/-- ITS FALSE NEIGHBOUR: 'it returns false'. Refute it at one input. -/
def fnExactOpenWrong : ChangeSpec := { name := "fnExactOpen", fn := fun _ => fun
  | [d] => { results := [.lit (.bool false)], args := [d] }
  | _ => none }
def FnExactOpenWrongFalsely : Prop := fnExactOpenRow.holds Try.pinned (OpenSpec.ofChange fnExactOpenWrong)

/-- 'laws.FnExactEndRead': WHATEVER THE INPUT: true; the input reads as it did. -/
def fnExactEndReadSpec : ChangeSpec := { name := "fnExactEndRead", fn := fun _ => fun
  | [d1, d2] => { results := [.lit (.bool true)], args := [d1, d2] }
  | _ => none }
def fnExactEndReadRow : OpenClaim := { program := "ytonhdiemjgdcnaa", sum := "381d7f1464954372049f9e5acaea4d0379a09149409fec7af26a532ab7263af1", func := "loop.example/g00240/laws.FnExactEndRead", spec := "fnExactEndRead", unfollowed := true, recurses := true, apart := false }
def FnExactEndReadSaid : Prop := fnExactEndReadRow.holds Try.pinned (OpenSpec.ofChange fnExactEndReadSpec)

/-- ITS FALSE NEIGHBOUR: 'it returns false'. Refute it at one input. -/
def fnExactEndReadWrong : ChangeSpec := { name := "fnExactEndRead", fn := fun _ => fun
  | [d1, d2] => { results := [.lit (.bool false)], args := [d1, d2] }
  | _ => none }
def FnExactEndReadWrongFalsely : Prop := fnExactEndReadRow.holds Try.pinned (OpenSpec.ofChange fnExactEndReadWrong)

/-- 'laws.FnExactStopWrite': WHATEVER THE INPUT: true; the input reads as it did. -/
def fnExactStopWriteSpec : ChangeSpec := { name := "fnExactStopWrite", fn := fun _ => fun
  | [d] => { results := [.lit (.bool true)], args := [d] }
  | _ => none }
def fnExactStopWriteRow : OpenClaim := { program := "ytonhdiemjgdcnaa", sum := "381d7f1464954372049f9e5acaea4d0379a09149409fec7af26a532ab7263af1", func := "loop.example/g00240/laws.FnExactStopWrite", spec := "fnExactStopWrite", apart := false }
def FnExactStopWriteSaid : Prop := fnExactStopWriteRow.holds Try.pinned (OpenSpec.ofChange fnExactStopWriteSpec)

/-- ITS FALSE NEIGHBOUR: 'it returns false'. Refute it at one input. -/
def fnExactStopWriteWrong : ChangeSpec := { name := "fnExactStopWrite", fn := fun _ => fun
  | [d] => { results := [.lit (.bool false)], args := [d] }
  | _ => none }
def FnExactStopWriteWrongFalsely : Prop := fnExactStopWriteRow.holds Try.pinned (OpenSpec.ofChange fnExactStopWriteWrong)

/-- 'laws.FnExactNextMeta': WHATEVER THE INPUT: true; the input reads as it did. -/
def fnExactNextMetaSpec : ChangeSpec := { name := "fnExactNextMeta", fn := fun _ => fun
  | [d] => { results := [.lit (.bool true)], args := [d] }
  | _ => none }
def fnExactNextMetaRow : OpenClaim := { program := "ytonhdiemjgdcnaa", sum := "381d7f1464954372049f9e5acaea4d0379a09149409fec7af26a532ab7263af1", func := "loop.example/g00240/laws.FnExactNextMeta", spec := "fnExactNextMeta", unfollowed := true, recurses := true, apart := false }
def FnExactNextMetaSaid : Prop := fnExactNextMetaRow.holds Try.pinned (OpenSpec.ofChange fnExactNextMetaSpec)

/-- ITS FALSE NEIGHBOUR: 'it returns false'. Refute it at one input. -/
def fnExactNextMetaWrong : ChangeSpec := { name := "fnExactNextMeta", fn := fun _ => fun
  | [d] => { results := [.lit (.bool false)], args := [d] }
  | _ => none }
def FnExactNextMetaWrongFalsely : Prop := fnExactNextMetaRow.holds Try.pinned (OpenSpec.ofChange fnExactNextMetaWrong)

/- THE SECOND FORM. 'bulk': how many values and letters a reading holds, each counted each time it is reached (what is shared counts as often as it is met; a slice's spare places count too). A statement '..UptoSaid' is the law's where the arguments, and the package variables that the reading takes, are together of bulk at most 1048576: NARROWER than '..Said'. Prove '..Said' where nothing that the law and all that it calls make is longer than what came in: it says more and counts as full. Else prove '..UptoSaid'. A law counts once. -/
mutual
def uptoBulk {H : Type} : DataW H → Nat
  | .lit (.string bytes) => bytes.length + 1
  | .lit _ => 1
  | .nil => 1
  | .ptr d => uptoBulk d + 1
  | .slice elems spare => uptoBulkAll elems + uptoBulkAll spare + 1
  | .agg parts => uptoBulkAll parts + 1
  | .iface _ d => uptoBulk d + 1
  | .map entries => uptoBulkEntries entries + 1
  | .held _ => 1
def uptoBulkAll {H : Type} : List (DataW H) → Nat
  | [] => 0
  | d :: r => uptoBulk d + uptoBulkAll r
def uptoBulkEntries {H : Type} : List (Lit × DataW H) → Nat
  | [] => 0
  | x :: r => uptoBulkEntry x + uptoBulkEntries r
def uptoBulkEntry {H : Type} : Lit × DataW H → Nat
  | (.string bytes, d) => bytes.length + uptoBulk d + 1
  | (_, d) => uptoBulk d + 1
 end
def uptoSmall : (H : Type) → List (DataW H) → Bool := fun _ ds => decide (uptoBulkAll ds ≤ 1048576)
def OpenSpec.upto (s : _root_.Go.ChangeSpec) : _root_.Go.OpenSpec := { _root_.Go.OpenSpec.ofChange s with cond := some uptoSmall }

/-- 'laws.FnExactGivePage', WHERE WHAT IT READS IS OF BULK AT MOST 1048576: true; the input reads as it did. -/
def fnExactGivePageUptoRow : OpenClaim := { program := "ytonhdiemjgdcnaa", sum := "381d7f1464954372049f9e5acaea4d0379a09149409fec7af26a532ab7263af1", func := "loop.example/g00240/laws.FnExactGivePage", spec := "fnExactGivePage", apart := false, narrowed := true }
def FnExactGivePageUptoSaid : Prop := fnExactGivePageUptoRow.holds Try.pinned (OpenSpec.upto fnExactGivePageSpec)

/-- 'laws.FnExactPutNode', WHERE WHAT IT READS IS OF BULK AT MOST 1048576: true; the input reads as it did. -/
def fnExactPutNodeUptoRow : OpenClaim := { program := "ytonhdiemjgdcnaa", sum := "381d7f1464954372049f9e5acaea4d0379a09149409fec7af26a532ab7263af1", func := "loop.example/g00240/laws.FnExactPutNode", spec := "fnExactPutNode", unfollowed := true, recurses := true, apart := false, narrowed := true }
def FnExactPutNodeUptoSaid : Prop := fnExactPutNodeUptoRow.holds Try.pinned (OpenSpec.upto fnExactPutNodeSpec)

/-- 'laws.FnExactOpen', WHERE WHAT IT READS IS OF BULK AT MOST 1048576: true; the input reads as it did. -/
def fnExactOpenUptoRow : OpenClaim := { program := "ytonhdiemjgdcnaa", sum := "381d7f1464954372049f9e5acaea4d0379a09149409fec7af26a532ab7263af1", func := "loop.example/g00240/laws.FnExactOpen", spec := "fnExactOpen", unfollowed := true, recurses := true, apart := false, narrowed := true }
def FnExactOpenUptoSaid : Prop := fnExactOpenUptoRow.holds Try.pinned (OpenSpec.upto fnExactOpenSpec)

/-- 'laws.FnExactEndRead', WHERE WHAT IT READS IS OF BULK AT MOST 1048576: true; the input reads as it did. -/
def fnExactEndReadUptoRow : OpenClaim := { program := "ytonhdiemjgdcnaa", sum := "381d7f1464954372049f9e5acaea4d0379a09149409fec7af26a532ab7263af1", func := "loop.example/g00240/laws.FnExactEndRead", spec := "fnExactEndRead", unfollowed := true, recurses := true, apart := false, narrowed := true }
def FnExactEndReadUptoSaid : Prop := fnExactEndReadUptoRow.holds Try.pinned (OpenSpec.upto fnExactEndReadSpec)

/-- 'laws.FnExactStopWrite', WHERE WHAT IT READS IS OF BULK AT MOST 1048576: true; the input reads as it did. -/
def fnExactStopWriteUptoRow : OpenClaim := { program := "ytonhdiemjgdcnaa", sum := "381d7f1464954372049f9e5acaea4d0379a09149409fec7af26a532ab7263af1", func := "loop.example/g00240/laws.FnExactStopWrite", spec := "fnExactStopWrite", apart := false, narrowed := true }
def FnExactStopWriteUptoSaid : Prop := fnExactStopWriteUptoRow.holds Try.pinned (OpenSpec.upto fnExactStopWriteSpec)

/-- 'laws.FnExactNextMeta', WHERE WHAT IT READS IS OF BULK AT MOST 1048576: true; the input reads as it did. -/
def fnExactNextMetaUptoRow : OpenClaim := { program := "ytonhdiemjgdcnaa", sum := "381d7f1464954372049f9e5acaea4d0379a09149409fec7af26a532ab7263af1", func := "loop.example/g00240/laws.FnExactNextMeta", spec := "fnExactNextMeta", unfollowed := true, recurses := true, apart := false, narrowed := true }
def FnExactNextMetaUptoSaid : Prop := fnExactNextMetaUptoRow.holds Try.pinned (OpenSpec.upto fnExactNextMetaSpec)

end Rows
end Go.Proofs.Ytonhdiemjgdcnaa
