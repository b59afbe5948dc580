/-
  No cell of these rows narrows 'for every input' (looked for: loops, veiled, ifaces, maps, wideKeys, modest, calm, conditions, laid).
  DERIVED. THE GIVEN ROWS OF THIS SEAT. 8 by the template 'for every input the law returns true; each argument reads behind the call as it read before'; 0 by the template 'total and deterministic' (their statements: YtapholbdjccapaaTotals.lean).
  GIVEN WITH THE SEED: the statements are not yours to turn. If you find one false, say at which input.
  Laid BY PROGRAM, IN A SANDBOX (cutbox-rows.mjs): the forced cells as the released guide's own fill.sh prints them over the translation 05c11301cefaa2e3… (all of the seat's roots in one cut). By AI agents, Wed Nov 11 2026. No macro, syntax, notation, axiom, sorry.
-/
import Derived.Test.YtapholbdjccapaaChecked
import GoSem.Claim
import GoSem.ClaimJoined
import GoSem.ClaimMapViews
import Derived.JoinedTies
import Derived.KernelRfl
namespace Go.Proofs.Ytapholbdjccapaa
/- THE CELL 'sum', in the pinned program and in every row, IS THE sha256 OF THE DUMP (.gsa) THAT YtapholbdjccapaaProg.lean LOADS. Nothing in Lean hashes anything: it is a label: what it is worth is what the hold of that sum in a sandbox is worth. -/
noncomputable def Try.pinned : Pinned := { name := "ytapholbdjccapaa", sum := "05c11301cefaa2e339f94d86b159b712c6964c7aba04118d7bb87c14af4663b7", checked := Try.checked }
namespace Rows
def none {H : Type} : Left H := { results := [], args := [] }

/-- 'laws.FnExactOldestOf': WHATEVER THE INPUT: true; the input reads as it did. -/
def fnExactOldestOfSpec : ChangeSpec := { name := "fnExactOldestOf", fn := fun _ => fun
  | [d] => { results := [.lit (.bool true)], args := [d] }
  | _ => none }
def fnExactOldestOfRow : OpenClaim := { program := "ytapholbdjccapaa", sum := "05c11301cefaa2e339f94d86b159b712c6964c7aba04118d7bb87c14af4663b7", func := "loop.example/g00240/laws.FnExactOldestOf", spec := "fnExactOldestOf", apart := false }
def FnExactOldestOfSaid : Prop := fnExactOldestOfRow.holds Try.pinned (OpenSpec.ofChange fnExactOldestOfSpec)

/-- ITS FALSE NEIGHBOUR: 'it returns false'. Refute it at one input. -/
def fnExactOldestOfWrong : ChangeSpec := { name := "fnExactOldestOf", fn := fun _ => fun
  | [d] => { results := [.lit (.bool false)], args := [d] }
  | _ => none }
def FnExactOldestOfWrongFalsely : Prop := fnExactOldestOfRow.holds Try.pinned (OpenSpec.ofChange fnExactOldestOfWrong)

/-- 'laws.FnMetas': WHATEVER THE INPUT: true; the input reads as it did. -/
def fnMetasSpec : ChangeSpec := { name := "fnMetas", fn := fun _ => fun
  | [d] => { results := [.lit (.bool true)], args := [d] }
  | _ => none }
def fnMetasRow : OpenClaim := { program := "ytapholbdjccapaa", sum := "05c11301cefaa2e339f94d86b159b712c6964c7aba04118d7bb87c14af4663b7", func := "loop.example/g00240/laws.FnMetas", spec := "fnMetas", apart := false }
def FnMetasSaid : Prop := fnMetasRow.holds Try.pinned (OpenSpec.ofChange fnMetasSpec)

/-- ITS FALSE NEIGHBOUR: 'it returns false'. Refute it at one input. -/
def fnMetasWrong : ChangeSpec := { name := "fnMetas", fn := fun _ => fun
  | [d] => { results := [.lit (.bool false)], args := [d] }
  | _ => none }
def FnMetasWrongFalsely : Prop := fnMetasRow.holds Try.pinned (OpenSpec.ofChange fnMetasWrong)

/-- 'laws.FnNodes': WHATEVER THE INPUT: true; the input reads as it did. -/
def fnNodesSpec : ChangeSpec := { name := "fnNodes", fn := fun _ => fun
  | [d] => { results := [.lit (.bool true)], args := [d] }
  | _ => none }
def fnNodesRow : OpenClaim := { program := "ytapholbdjccapaa", sum := "05c11301cefaa2e339f94d86b159b712c6964c7aba04118d7bb87c14af4663b7", func := "loop.example/g00240/laws.FnNodes", spec := "fnNodes", unfollowed := true, recurses := true, apart := false }
def FnNodesSaid : Prop := fnNodesRow.holds Try.pinned (OpenSpec.ofChange fnNodesSpec)

/-- ITS FALSE NEIGHBOUR: 'it returns false'. Refute it at one input. -/
def fnNodesWrong : ChangeSpec := { name := "fnNodes", fn := fun _ => fun
  | [d] => { results := [.lit (.bool false)], args := [d] }
  | _ => none }
def FnNodesWrongFalsely : Prop := fnNodesRow.holds Try.pinned (OpenSpec.ofChange fnNodesWrong)

/-- 'laws.FnExactTreeOk': WHATEVER THE INPUT: true; the input reads as it did. -/
def fnExactTreeOkSpec : ChangeSpec := { name := "fnExactTreeOk", fn := fun _ => fun
  | [d1, d2] => { results := [.lit (.bool true)], args := [d1, d2] }
  | _ => none }
def fnExactTreeOkRow : OpenClaim := { program := "ytapholbdjccapaa", sum := "05c11301cefaa2e339f94d86b159b712c6964c7aba04118d7bb87c14af4663b7", func := "loop.example/g00240/laws.FnExactTreeOk", spec := "fnExactTreeOk", unfollowed := true, recurses := true, apart := false }
def FnExactTreeOkSaid : Prop := fnExactTreeOkRow.holds Try.pinned (OpenSpec.ofChange fnExactTreeOkSpec)

/-- ITS FALSE NEIGHBOUR: 'it returns false'. Refute it at one input. -/
def fnExactTreeOkWrong : ChangeSpec := { name := "fnExactTreeOk", fn := fun _ => fun
  | [d1, d2] => { results := [.lit (.bool false)], args := [d1, d2] }
  | _ => none }
def FnExactTreeOkWrongFalsely : Prop := fnExactTreeOkRow.holds Try.pinned (OpenSpec.ofChange fnExactTreeOkWrong)

/-- 'laws.FnExactAllPairs': WHATEVER THE INPUT: true; the input reads as it did. -/
def fnExactAllPairsSpec : ChangeSpec := { name := "fnExactAllPairs", fn := fun _ => fun
  | [d1, d2] => { results := [.lit (.bool true)], args := [d1, d2] }
  | _ => none }
def fnExactAllPairsRow : OpenClaim := { program := "ytapholbdjccapaa", sum := "05c11301cefaa2e339f94d86b159b712c6964c7aba04118d7bb87c14af4663b7", func := "loop.example/g00240/laws.FnExactAllPairs", spec := "fnExactAllPairs", unfollowed := true, recurses := true, apart := false }
def FnExactAllPairsSaid : Prop := fnExactAllPairsRow.holds Try.pinned (OpenSpec.ofChange fnExactAllPairsSpec)

/-- ITS FALSE NEIGHBOUR: 'it returns false'. Refute it at one input. -/
def fnExactAllPairsWrong : ChangeSpec := { name := "fnExactAllPairs", fn := fun _ => fun
  | [d1, d2] => { results := [.lit (.bool false)], args := [d1, d2] }
  | _ => none }
def FnExactAllPairsWrongFalsely : Prop := fnExactAllPairsRow.holds Try.pinned (OpenSpec.ofChange fnExactAllPairsWrong)

/-- 'laws.FnExactPairsFrom': WHATEVER THE INPUT: true; the input reads as it did. -/
def fnExactPairsFromSpec : ChangeSpec := { name := "fnExactPairsFrom", fn := fun _ => fun
  | [d1, d2, d3, d4] => { results := [.lit (.bool true)], args := [d1, d2, d3, d4] }
  | _ => none }
def fnExactPairsFromRow : OpenClaim := { program := "ytapholbdjccapaa", sum := "05c11301cefaa2e339f94d86b159b712c6964c7aba04118d7bb87c14af4663b7", func := "loop.example/g00240/laws.FnExactPairsFrom", spec := "fnExactPairsFrom", unfollowed := true, recurses := true, apart := false }
def FnExactPairsFromSaid : Prop := fnExactPairsFromRow.holds Try.pinned (OpenSpec.ofChange fnExactPairsFromSpec)

/-- ITS FALSE NEIGHBOUR: 'it returns false'. Refute it at one input. -/
def fnExactPairsFromWrong : ChangeSpec := { name := "fnExactPairsFrom", fn := fun _ => fun
  | [d1, d2, d3, d4] => { results := [.lit (.bool false)], args := [d1, d2, d3, d4] }
  | _ => none }
def FnExactPairsFromWrongFalsely : Prop := fnExactPairsFromRow.holds Try.pinned (OpenSpec.ofChange fnExactPairsFromWrong)

/-- 'laws.FnExactPagesOf': WHATEVER THE INPUT: true; the input reads as it did. -/
def fnExactPagesOfSpec : ChangeSpec := { name := "fnExactPagesOf", fn := fun _ => fun
  | [d1, d2] => { results := [.lit (.bool true)], args := [d1, d2] }
  | _ => none }
def fnExactPagesOfRow : OpenClaim := { program := "ytapholbdjccapaa", sum := "05c11301cefaa2e339f94d86b159b712c6964c7aba04118d7bb87c14af4663b7", func := "loop.example/g00240/laws.FnExactPagesOf", spec := "fnExactPagesOf", unfollowed := true, recurses := true, apart := false }
def FnExactPagesOfSaid : Prop := fnExactPagesOfRow.holds Try.pinned (OpenSpec.ofChange fnExactPagesOfSpec)

/-- ITS FALSE NEIGHBOUR: 'it returns false'. Refute it at one input. -/
def fnExactPagesOfWrong : ChangeSpec := { name := "fnExactPagesOf", fn := fun _ => fun
  | [d1, d2] => { results := [.lit (.bool false)], args := [d1, d2] }
  | _ => none }
def FnExactPagesOfWrongFalsely : Prop := fnExactPagesOfRow.holds Try.pinned (OpenSpec.ofChange fnExactPagesOfWrong)

/-- 'laws.FnExactPagesRight': WHATEVER THE INPUT: true; the input reads as it did. -/
def fnExactPagesRightSpec : ChangeSpec := { name := "fnExactPagesRight", fn := fun _ => fun
  | [d1, d2] => { results := [.lit (.bool true)], args := [d1, d2] }
  | _ => none }
def fnExactPagesRightRow : OpenClaim := { program := "ytapholbdjccapaa", sum := "05c11301cefaa2e339f94d86b159b712c6964c7aba04118d7bb87c14af4663b7", func := "loop.example/g00240/laws.FnExactPagesRight", spec := "fnExactPagesRight", unfollowed := true, recurses := true, apart := false }
def FnExactPagesRightSaid : Prop := fnExactPagesRightRow.holds Try.pinned (OpenSpec.ofChange fnExactPagesRightSpec)

/-- ITS FALSE NEIGHBOUR: 'it returns false'. Refute it at one input. -/
def fnExactPagesRightWrong : ChangeSpec := { name := "fnExactPagesRight", fn := fun _ => fun
  | [d1, d2] => { results := [.lit (.bool false)], args := [d1, d2] }
  | _ => none }
def FnExactPagesRightWrongFalsely : Prop := fnExactPagesRightRow.holds Try.pinned (OpenSpec.ofChange fnExactPagesRightWrong)

/- THE SECOND FORM. 'bulk': how many values and letters a reading holds, each counted each time it is reached (what is shared counts as often as it is met; a slice's spare places count too). A statement '..UptoSaid' is the law's where the arguments, and the package variables that the reading takes, are together of bulk at most 1048576: NARROWER than '..Said'. Prove '..Said' where nothing that the law and all that it calls make is longer than what came in: it says more and counts as full. Else prove '..UptoSaid'. A law counts once. -/
mutual
def uptoBulk {H : Type} : DataW H → Nat
  | .lit (.string bytes) => bytes.length + 1
  | .lit _ => 1
  | .nil => 1
  | .ptr d => uptoBulk d + 1
  | .slice elems spare => uptoBulkAll elems + uptoBulkAll spare + 1
  | .agg parts => uptoBulkAll parts + 1
  | .iface _ d => uptoBulk d + 1
  | .map entries => uptoBulkEntries entries + 1
  | .held _ => 1
def uptoBulkAll {H : Type} : List (DataW H) → Nat
  | [] => 0
  | d :: r => uptoBulk d + uptoBulkAll r
def uptoBulkEntries {H : Type} : List (Lit × DataW H) → Nat
  | [] => 0
  | x :: r => uptoBulkEntry x + uptoBulkEntries r
def uptoBulkEntry {H : Type} : Lit × DataW H → Nat
  | (.string bytes, d) => bytes.length + uptoBulk d + 1
  | (_, d) => uptoBulk d + 1
 end
def uptoSmall : (H : Type) → List (DataW H) → Bool := fun _ ds => decide (uptoBulkAll ds ≤ 1048576)
def OpenSpec.upto (s : _root_.Go.ChangeSpec) : _root_.Go.OpenSpec := { _root_.Go.OpenSpec.ofChange s with cond := some uptoSmall }

/-- 'laws.FnExactOldestOf', WHERE WHAT IT READS IS OF BULK AT MOST 1048576: true; the input reads as it did. -/
def fnExactOldestOfUptoRow : OpenClaim := { program := "ytapholbdjccapaa", sum := "05c11301cefaa2e339f94d86b159b712c6964c7aba04118d7bb87c14af4663b7", func := "loop.example/g00240/laws.FnExactOldestOf", spec := "fnExactOldestOf", apart := false, narrowed := true }
def FnExactOldestOfUptoSaid : Prop := fnExactOldestOfUptoRow.holds Try.pinned (OpenSpec.upto fnExactOldestOfSpec)

/-- 'laws.FnMetas', WHERE WHAT IT READS IS OF BULK AT MOST 1048576: true; the input reads as it did. -/
def fnMetasUptoRow : OpenClaim := { program := "ytapholbdjccapaa", sum := "05c11301cefaa2e339f94d86b159b712c6964c7aba04118d7bb87c14af4663b7", func := "loop.example/g00240/laws.FnMetas", spec := "fnMetas", apart := false, narrowed := true }
def FnMetasUptoSaid : Prop := fnMetasUptoRow.holds Try.pinned (OpenSpec.upto fnMetasSpec)

/-- 'laws.FnNodes', WHERE WHAT IT READS IS OF BULK AT MOST 1048576: true; the input reads as it did. -/
def fnNodesUptoRow : OpenClaim := { program := "ytapholbdjccapaa", sum := "05c11301cefaa2e339f94d86b159b712c6964c7aba04118d7bb87c14af4663b7", func := "loop.example/g00240/laws.FnNodes", spec := "fnNodes", unfollowed := true, recurses := true, apart := false, narrowed := true }
def FnNodesUptoSaid : Prop := fnNodesUptoRow.holds Try.pinned (OpenSpec.upto fnNodesSpec)

/-- 'laws.FnExactTreeOk', WHERE WHAT IT READS IS OF BULK AT MOST 1048576: true; the input reads as it did. -/
def fnExactTreeOkUptoRow : OpenClaim := { program := "ytapholbdjccapaa", sum := "05c11301cefaa2e339f94d86b159b712c6964c7aba04118d7bb87c14af4663b7", func := "loop.example/g00240/laws.FnExactTreeOk", spec := "fnExactTreeOk", unfollowed := true, recurses := true, apart := false, narrowed := true }
def FnExactTreeOkUptoSaid : Prop := fnExactTreeOkUptoRow.holds Try.pinned (OpenSpec.upto fnExactTreeOkSpec)

/-- 'laws.FnExactAllPairs', WHERE WHAT IT READS IS OF BULK AT MOST 1048576: true; the input reads as it did. -/
def fnExactAllPairsUptoRow : OpenClaim := { program := "ytapholbdjccapaa", sum := "05c11301cefaa2e339f94d86b159b712c6964c7aba04118d7bb87c14af4663b7", func := "loop.example/g00240/laws.FnExactAllPairs", spec := "fnExactAllPairs", unfollowed := true, recurses := true, apart := false, narrowed := true }
def FnExactAllPairsUptoSaid : Prop := fnExactAllPairsUptoRow.holds Try.pinned (OpenSpec.upto fnExactAllPairsSpec)

/-- 'laws.FnExactPairsFrom', WHERE WHAT IT READS IS OF BULK AT MOST 1048576: true; the input reads as it did. -/
def fnExactPairsFromUptoRow : OpenClaim := { program := "ytapholbdjccapaa", sum := "05c11301cefaa2e339f94d86b159b712c6964c7aba04118d7bb87c14af4663b7", func := "loop.example/g00240/laws.FnExactPairsFrom", spec := "fnExactPairsFrom", unfollowed := true, recurses := true, apart := false, narrowed := true }
def FnExactPairsFromUptoSaid : Prop := fnExactPairsFromUptoRow.holds Try.pinned (OpenSpec.upto fnExactPairsFromSpec)

/-- 'laws.FnExactPagesOf', WHERE WHAT IT READS IS OF BULK AT MOST 1048576: true; the input reads as it did. -/
def fnExactPagesOfUptoRow : OpenClaim := { program := "ytapholbdjccapaa", sum := "05c11301cefaa2e339f94d86b159b712c6964c7aba04118d7bb87c14af4663b7", func := "loop.example/g00240/laws.FnExactPagesOf", spec := "fnExactPagesOf", unfollowed := true, recurses := true, apart := false, narrowed := true }
def FnExactPagesOfUptoSaid : Prop := fnExactPagesOfUptoRow.holds Try.pinned (OpenSpec.upto fnExactPagesOfSpec)

/-- 'laws.FnExactPagesRight', WHERE WHAT IT READS IS OF BULK AT MOST 1048576: true; the input reads as it did. -/
def fnExactPagesRightUptoRow : OpenClaim := { program := "ytapholbdjccapaa", sum := "05c11301cefaa2e339f94d86b159b712c6964c7aba04118d7bb87c14af4663b7", func := "loop.example/g00240/laws.FnExactPagesRight", spec := "fnExactPagesRight", unfollowed := true, recurses := true, apart := false, narrowed := true }
def FnExactPagesRightUptoSaid : Prop := fnExactPagesRightUptoRow.holds Try.pinned (OpenSpec.upto fnExactPagesRightSpec)

end Rows
end Go.Proofs.Ytapholbdjccapaa
