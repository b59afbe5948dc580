/-
  No cell of these rows narrows 'for every input' (looked for: loops, veiled, ifaces, maps, wideKeys, modest, calm, conditions, laid).
  DERIVED. THE GIVEN ROWS OF THIS SEAT. 20 by the template 'for every input the law returns true; each argument reads behind the call as it read before'; 0 by the template 'total and deterministic' (their statements: YtdnnkfiocoakkaaTotals.lean).
  GIVEN WITH THE SEED: the statements are not yours to turn. If you find one false, say at which input.
  Laid BY PROGRAM, IN A SANDBOX (cutbox-rows.mjs): the forced cells as the released guide's own fill.sh prints them over the translation 5c1ccbbaf8fcfea9… (all of the seat's roots in one cut). By AI agents, Wed Nov 11 2026. No macro, syntax, notation, axiom, sorry.
-/
import Derived.Test.YtdnnkfiocoakkaaChecked
import GoSem.Claim
import GoSem.ClaimJoined
import GoSem.ClaimMapViews
import Derived.JoinedTies
import Derived.KernelRfl
namespace Go.Proofs.Ytdnnkfiocoakkaa
/- THE CELL 'sum', in the pinned program and in every row, IS THE sha256 OF THE DUMP (.gsa) THAT YtdnnkfiocoakkaaProg.lean LOADS. Nothing in Lean hashes anything: it is a label: what it is worth is what the hold of that sum in a sandbox is worth. -/
noncomputable def Try.pinned : Pinned := { name := "ytdnnkfiocoakkaa", sum := "5c1ccbbaf8fcfea99b6b3e25054d3eb8487616514ea84e9b43b4058ec49c6fb7", checked := Try.checked }
namespace Rows
def none {H : Type} : Left H := { results := [], args := [] }

/-- 'laws.FnExactSchemaKey': WHATEVER THE INPUT: true; the input reads as it did. -/
def fnExactSchemaKeySpec : ChangeSpec := { name := "fnExactSchemaKey", fn := fun _ => fun
  | [d] => { results := [.lit (.bool true)], args := [d] }
  | _ => none }
def fnExactSchemaKeyRow : OpenClaim := { program := "ytdnnkfiocoakkaa", sum := "5c1ccbbaf8fcfea99b6b3e25054d3eb8487616514ea84e9b43b4058ec49c6fb7", func := "loop.example/g00240/laws.FnExactSchemaKey", spec := "fnExactSchemaKey", apart := false }
def FnExactSchemaKeySaid : Prop := fnExactSchemaKeyRow.holds Try.pinned (OpenSpec.ofChange fnExactSchemaKeySpec)

/-- ITS FALSE NEIGHBOUR: 'it returns false'. Refute it at one input. -/
def fnExactSchemaKeyWrong : ChangeSpec := { name := "fnExactSchemaKey", fn := fun _ => fun
  | [d] => { results := [.lit (.bool false)], args := [d] }
  | _ => none }
def FnExactSchemaKeyWrongFalsely : Prop := fnExactSchemaKeyRow.holds Try.pinned (OpenSpec.ofChange fnExactSchemaKeyWrong)

/-- 'laws.FnExactThingKey': WHATEVER THE INPUT: true; the input reads as it did. -/
def fnExactThingKeySpec : ChangeSpec := { name := "fnExactThingKey", fn := fun _ => fun
  | [d1, d2] => { results := [.lit (.bool true)], args := [d1, d2] }
  | _ => none }
def fnExactThingKeyRow : OpenClaim := { program := "ytdnnkfiocoakkaa", sum := "5c1ccbbaf8fcfea99b6b3e25054d3eb8487616514ea84e9b43b4058ec49c6fb7", func := "loop.example/g00240/laws.FnExactThingKey", spec := "fnExactThingKey", apart := false }
def FnExactThingKeySaid : Prop := fnExactThingKeyRow.holds Try.pinned (OpenSpec.ofChange fnExactThingKeySpec)

/-- ITS FALSE NEIGHBOUR: 'it returns false'. Refute it at one input. -/
def fnExactThingKeyWrong : ChangeSpec := { name := "fnExactThingKey", fn := fun _ => fun
  | [d1, d2] => { results := [.lit (.bool false)], args := [d1, d2] }
  | _ => none }
def FnExactThingKeyWrongFalsely : Prop := fnExactThingKeyRow.holds Try.pinned (OpenSpec.ofChange fnExactThingKeyWrong)

/-- 'laws.FnExactIndexKey': WHATEVER THE INPUT: true; the input reads as it did. -/
def fnExactIndexKeySpec : ChangeSpec := { name := "fnExactIndexKey", fn := fun _ => fun
  | [d1, d2, d3, d4] => { results := [.lit (.bool true)], args := [d1, d2, d3, d4] }
  | _ => none }
def fnExactIndexKeyRow : OpenClaim := { program := "ytdnnkfiocoakkaa", sum := "5c1ccbbaf8fcfea99b6b3e25054d3eb8487616514ea84e9b43b4058ec49c6fb7", func := "loop.example/g00240/laws.FnExactIndexKey", spec := "fnExactIndexKey", apart := false }
def FnExactIndexKeySaid : Prop := fnExactIndexKeyRow.holds Try.pinned (OpenSpec.ofChange fnExactIndexKeySpec)

/-- ITS FALSE NEIGHBOUR: 'it returns false'. Refute it at one input. -/
def fnExactIndexKeyWrong : ChangeSpec := { name := "fnExactIndexKey", fn := fun _ => fun
  | [d1, d2, d3, d4] => { results := [.lit (.bool false)], args := [d1, d2, d3, d4] }
  | _ => none }
def FnExactIndexKeyWrongFalsely : Prop := fnExactIndexKeyRow.holds Try.pinned (OpenSpec.ofChange fnExactIndexKeyWrong)

/-- 'laws.FnExactNameKey': WHATEVER THE INPUT: true; the input reads as it did. -/
def fnExactNameKeySpec : ChangeSpec := { name := "fnExactNameKey", fn := fun _ => fun
  | [d] => { results := [.lit (.bool true)], args := [d] }
  | _ => none }
def fnExactNameKeyRow : OpenClaim := { program := "ytdnnkfiocoakkaa", sum := "5c1ccbbaf8fcfea99b6b3e25054d3eb8487616514ea84e9b43b4058ec49c6fb7", func := "loop.example/g00240/laws.FnExactNameKey", spec := "fnExactNameKey", apart := false }
def FnExactNameKeySaid : Prop := fnExactNameKeyRow.holds Try.pinned (OpenSpec.ofChange fnExactNameKeySpec)

/-- ITS FALSE NEIGHBOUR: 'it returns false'. Refute it at one input. -/
def fnExactNameKeyWrong : ChangeSpec := { name := "fnExactNameKey", fn := fun _ => fun
  | [d] => { results := [.lit (.bool false)], args := [d] }
  | _ => none }
def FnExactNameKeyWrongFalsely : Prop := fnExactNameKeyRow.holds Try.pinned (OpenSpec.ofChange fnExactNameKeyWrong)

/-- 'laws.FnExactCollOk': WHATEVER THE INPUT: true; the input reads as it did. -/
def fnExactCollOkSpec : ChangeSpec := { name := "fnExactCollOk", fn := fun _ => fun
  | [d] => { results := [.lit (.bool true)], args := [d] }
  | _ => none }
def fnExactCollOkRow : OpenClaim := { program := "ytdnnkfiocoakkaa", sum := "5c1ccbbaf8fcfea99b6b3e25054d3eb8487616514ea84e9b43b4058ec49c6fb7", func := "loop.example/g00240/laws.FnExactCollOk", spec := "fnExactCollOk", apart := false }
def FnExactCollOkSaid : Prop := fnExactCollOkRow.holds Try.pinned (OpenSpec.ofChange fnExactCollOkSpec)

/-- ITS FALSE NEIGHBOUR: 'it returns false'. Refute it at one input. -/
def fnExactCollOkWrong : ChangeSpec := { name := "fnExactCollOk", fn := fun _ => fun
  | [d] => { results := [.lit (.bool false)], args := [d] }
  | _ => none }
def FnExactCollOkWrongFalsely : Prop := fnExactCollOkRow.holds Try.pinned (OpenSpec.ofChange fnExactCollOkWrong)

/-- 'laws.FnExactFormat': WHATEVER THE INPUT: true; the input reads as it did. -/
def fnExactFormatSpec : ChangeSpec := { name := "fnExactFormat", fn := fun _ => fun
  | [d] => { results := [.lit (.bool true)], args := [d] }
  | _ => none }
def fnExactFormatRow : OpenClaim := { program := "ytdnnkfiocoakkaa", sum := "5c1ccbbaf8fcfea99b6b3e25054d3eb8487616514ea84e9b43b4058ec49c6fb7", func := "loop.example/g00240/laws.FnExactFormat", spec := "fnExactFormat", apart := false }
def FnExactFormatSaid : Prop := fnExactFormatRow.holds Try.pinned (OpenSpec.ofChange fnExactFormatSpec)

/-- ITS FALSE NEIGHBOUR: 'it returns false'. Refute it at one input. -/
def fnExactFormatWrong : ChangeSpec := { name := "fnExactFormat", fn := fun _ => fun
  | [d] => { results := [.lit (.bool false)], args := [d] }
  | _ => none }
def FnExactFormatWrongFalsely : Prop := fnExactFormatRow.holds Try.pinned (OpenSpec.ofChange fnExactFormatWrong)

/-- 'laws.FnExactGivePage': WHATEVER THE INPUT: true; the input reads as it did. -/
def fnExactGivePageSpec : ChangeSpec := { name := "fnExactGivePage", fn := fun _ => fun
  | [d] => { results := [.lit (.bool true)], args := [d] }
  | _ => none }
def fnExactGivePageRow : OpenClaim := { program := "ytdnnkfiocoakkaa", sum := "5c1ccbbaf8fcfea99b6b3e25054d3eb8487616514ea84e9b43b4058ec49c6fb7", func := "loop.example/g00240/laws.FnExactGivePage", spec := "fnExactGivePage", apart := false }
def FnExactGivePageSaid : Prop := fnExactGivePageRow.holds Try.pinned (OpenSpec.ofChange fnExactGivePageSpec)

/-- ITS FALSE NEIGHBOUR: 'it returns false'. Refute it at one input. -/
def fnExactGivePageWrong : ChangeSpec := { name := "fnExactGivePage", fn := fun _ => fun
  | [d] => { results := [.lit (.bool false)], args := [d] }
  | _ => none }
def FnExactGivePageWrongFalsely : Prop := fnExactGivePageRow.holds Try.pinned (OpenSpec.ofChange fnExactGivePageWrong)

/-- 'laws.FnExactOldestOf': WHATEVER THE INPUT: true; the input reads as it did. -/
def fnExactOldestOfSpec : ChangeSpec := { name := "fnExactOldestOf", fn := fun _ => fun
  | [d] => { results := [.lit (.bool true)], args := [d] }
  | _ => none }
def fnExactOldestOfRow : OpenClaim := { program := "ytdnnkfiocoakkaa", sum := "5c1ccbbaf8fcfea99b6b3e25054d3eb8487616514ea84e9b43b4058ec49c6fb7", func := "loop.example/g00240/laws.FnExactOldestOf", spec := "fnExactOldestOf", apart := false }
def FnExactOldestOfSaid : Prop := fnExactOldestOfRow.holds Try.pinned (OpenSpec.ofChange fnExactOldestOfSpec)

/-- ITS FALSE NEIGHBOUR: 'it returns false'. Refute it at one input. -/
def fnExactOldestOfWrong : ChangeSpec := { name := "fnExactOldestOf", fn := fun _ => fun
  | [d] => { results := [.lit (.bool false)], args := [d] }
  | _ => none }
def FnExactOldestOfWrongFalsely : Prop := fnExactOldestOfRow.holds Try.pinned (OpenSpec.ofChange fnExactOldestOfWrong)

/-- 'laws.FnMetas': WHATEVER THE INPUT: true; the input reads as it did. -/
def fnMetasSpec : ChangeSpec := { name := "fnMetas", fn := fun _ => fun
  | [d] => { results := [.lit (.bool true)], args := [d] }
  | _ => none }
def fnMetasRow : OpenClaim := { program := "ytdnnkfiocoakkaa", sum := "5c1ccbbaf8fcfea99b6b3e25054d3eb8487616514ea84e9b43b4058ec49c6fb7", func := "loop.example/g00240/laws.FnMetas", spec := "fnMetas", apart := false }
def FnMetasSaid : Prop := fnMetasRow.holds Try.pinned (OpenSpec.ofChange fnMetasSpec)

/-- ITS FALSE NEIGHBOUR: 'it returns false'. Refute it at one input. -/
def fnMetasWrong : ChangeSpec := { name := "fnMetas", fn := fun _ => fun
  | [d] => { results := [.lit (.bool false)], args := [d] }
  | _ => none }
def FnMetasWrongFalsely : Prop := fnMetasRow.holds Try.pinned (OpenSpec.ofChange fnMetasWrong)

/-- 'laws.FnNodes': WHATEVER THE INPUT: true; the input reads as it did. -/
def fnNodesSpec : ChangeSpec := { name := "fnNodes", fn := fun _ => fun
  | [d] => { results := [.lit (.bool true)], args := [d] }
  | _ => none }
def fnNodesRow : OpenClaim := { program := "ytdnnkfiocoakkaa", sum := "5c1ccbbaf8fcfea99b6b3e25054d3eb8487616514ea84e9b43b4058ec49c6fb7", func := "loop.example/g00240/laws.FnNodes", spec := "fnNodes", unfollowed := true, recurses := true, apart := false }
def FnNodesSaid : Prop := fnNodesRow.holds Try.pinned (OpenSpec.ofChange fnNodesSpec)

/-- ITS FALSE NEIGHBOUR: 'it returns false'. Refute it at one input. -/
def fnNodesWrong : ChangeSpec := { name := "fnNodes", fn := fun _ => fun
  | [d] => { results := [.lit (.bool false)], args := [d] }
  | _ => none }
def FnNodesWrongFalsely : Prop := fnNodesRow.holds Try.pinned (OpenSpec.ofChange fnNodesWrong)

/-- 'laws.FnExactTreeOk': WHATEVER THE INPUT: true; the input reads as it did. -/
def fnExactTreeOkSpec : ChangeSpec := { name := "fnExactTreeOk", fn := fun _ => fun
  | [d1, d2] => { results := [.lit (.bool true)], args := [d1, d2] }
  | _ => none }
def fnExactTreeOkRow : OpenClaim := { program := "ytdnnkfiocoakkaa", sum := "5c1ccbbaf8fcfea99b6b3e25054d3eb8487616514ea84e9b43b4058ec49c6fb7", func := "loop.example/g00240/laws.FnExactTreeOk", spec := "fnExactTreeOk", unfollowed := true, recurses := true, apart := false }
def FnExactTreeOkSaid : Prop := fnExactTreeOkRow.holds Try.pinned (OpenSpec.ofChange fnExactTreeOkSpec)

/-- ITS FALSE NEIGHBOUR: 'it returns false'. Refute it at one input. -/
def fnExactTreeOkWrong : ChangeSpec := { name := "fnExactTreeOk", fn := fun _ => fun
  | [d1, d2] => { results := [.lit (.bool false)], args := [d1, d2] }
  | _ => none }
def FnExactTreeOkWrongFalsely : Prop := fnExactTreeOkRow.holds Try.pinned (OpenSpec.ofChange fnExactTreeOkWrong)

/-- 'laws.FnExactAllPairs': WHATEVER THE INPUT: true; the input reads as it did. -/
def fnExactAllPairsSpec : ChangeSpec := { name := "fnExactAllPairs", fn := fun _ => fun
  | [d1, d2] => { results := [.lit (.bool true)], args := [d1, d2] }
  | _ => none }
def fnExactAllPairsRow : OpenClaim := { program := "ytdnnkfiocoakkaa", sum := "5c1ccbbaf8fcfea99b6b3e25054d3eb8487616514ea84e9b43b4058ec49c6fb7", func := "loop.example/g00240/laws.FnExactAllPairs", spec := "fnExactAllPairs", unfollowed := true, recurses := true, apart := false }
def FnExactAllPairsSaid : Prop := fnExactAllPairsRow.holds Try.pinned (OpenSpec.ofChange fnExactAllPairsSpec)

/-- ITS FALSE NEIGHBOUR: 'it returns false'. Refute it at one input. -/
def fnExactAllPairsWrong : ChangeSpec := { name := "fnExactAllPairs", fn := fun _ => fun
  | [d1, d2] => { results := [.lit (.bool false)], args := [d1, d2] }
  | _ => none }
def FnExactAllPairsWrongFalsely : Prop := fnExactAllPairsRow.holds Try.pinned (OpenSpec.ofChange fnExactAllPairsWrong)

/-- 'laws.FnExactPairsFrom': WHATEVER THE INPUT: true; the input reads as it did. -/
def fnExactPairsFromSpec : ChangeSpec := { name := "fnExactPairsFrom", fn := fun _ => fun
  | [d1, d2, d3, d4] => { results := [.lit (.bool true)], args := [d1, d2, d3, d4] }
  | _ => none }
def fnExactPairsFromRow : OpenClaim := { program := "ytdnnkfiocoakkaa", sum := "5c1ccbbaf8fcfea99b6b3e25054d3eb8487616514ea84e9b43b4058ec49c6fb7", func := "loop.example/g00240/laws.FnExactPairsFrom", spec := "fnExactPairsFrom", unfollowed := true, recurses := true, apart := false }
def FnExactPairsFromSaid : Prop := fnExactPairsFromRow.holds Try.pinned (OpenSpec.ofChange fnExactPairsFromSpec)

/-- ITS FALSE NEIGHBOUR: 'it returns false'. Refute it at one input. -/
def fnExactPairsFromWrong : ChangeSpec := { name := "fnExactPairsFrom", fn := fun _ => fun
  | [d1, d2, d3, d4] => { results := [.lit (.bool false)], args := [d1, d2, d3, d4] }
  | _ => none }
def FnExactPairsFromWrongFalsely : Prop := fnExactPairsFromRow.holds Try.pinned (OpenSpec.ofChange fnExactPairsFromWrong)

/-- 'laws.FnExactPutNode': WHATEVER THE INPUT: true; the input reads as it did. -/
def fnExactPutNodeSpec : ChangeSpec := { name := "fnExactPutNode", fn := fun _ => fun
  | [d1, d2] => { results := [.lit (.bool true)], args := [d1, d2] }
  | _ => none }
def fnExactPutNodeRow : OpenClaim := { program := "ytdnnkfiocoakkaa", sum := "5c1ccbbaf8fcfea99b6b3e25054d3eb8487616514ea84e9b43b4058ec49c6fb7", func := "loop.example/g00240/laws.FnExactPutNode", spec := "fnExactPutNode", unfollowed := true, recurses := true, apart := false }
def FnExactPutNodeSaid : Prop := fnExactPutNodeRow.holds Try.pinned (OpenSpec.ofChange fnExactPutNodeSpec)

/-- ITS FALSE NEIGHBOUR: 'it returns false'. Refute it at one input. -/
def fnExactPutNodeWrong : ChangeSpec := { name := "fnExactPutNode", fn := fun _ => fun
  | [d1, d2] => { results := [.lit (.bool false)], args := [d1, d2] }
  | _ => none }
def FnExactPutNodeWrongFalsely : Prop := fnExactPutNodeRow.holds Try.pinned (OpenSpec.ofChange fnExactPutNodeWrong)

/-- 'laws.FnExactEndRead': WHATEVER THE INPUT: true; the input reads as it did. -/
def fnExactEndReadSpec : ChangeSpec := { name := "fnExactEndRead", fn := fun _ => fun
  | [d1, d2] => { results := [.lit (.bool true)], args := [d1, d2] }
  | _ => none }
def fnExactEndReadRow : OpenClaim := { program := "ytdnnkfiocoakkaa", sum := "5c1ccbbaf8fcfea99b6b3e25054d3eb8487616514ea84e9b43b4058ec49c6fb7", func := "loop.example/g00240/laws.FnExactEndRead", spec := "fnExactEndRead", unfollowed := true, recurses := true, apart := false }
def FnExactEndReadSaid : Prop := fnExactEndReadRow.holds Try.pinned (OpenSpec.ofChange fnExactEndReadSpec)

/-- ITS FALSE NEIGHBOUR: 'it returns false'. Refute it at one input. -/
def fnExactEndReadWrong : ChangeSpec := { name := "fnExactEndRead", fn := fun _ => fun
  | [d1, d2] => { results := [.lit (.bool false)], args := [d1, d2] }
  | _ => none }
def FnExactEndReadWrongFalsely : Prop := fnExactEndReadRow.holds Try.pinned (OpenSpec.ofChange fnExactEndReadWrong)

/-- 'laws.FnExactStopWrite': WHATEVER THE INPUT: true; the input reads as it did. -/
def fnExactStopWriteSpec : ChangeSpec := { name := "fnExactStopWrite", fn := fun _ => fun
  | [d] => { results := [.lit (.bool true)], args := [d] }
  | _ => none }
def fnExactStopWriteRow : OpenClaim := { program := "ytdnnkfiocoakkaa", sum := "5c1ccbbaf8fcfea99b6b3e25054d3eb8487616514ea84e9b43b4058ec49c6fb7", func := "loop.example/g00240/laws.FnExactStopWrite", spec := "fnExactStopWrite", apart := false }
def FnExactStopWriteSaid : Prop := fnExactStopWriteRow.holds Try.pinned (OpenSpec.ofChange fnExactStopWriteSpec)

/-- ITS FALSE NEIGHBOUR: 'it returns false'. Refute it at one input. -/
def fnExactStopWriteWrong : ChangeSpec := { name := "fnExactStopWrite", fn := fun _ => fun
  | [d] => { results := [.lit (.bool false)], args := [d] }
  | _ => none }
def FnExactStopWriteWrongFalsely : Prop := fnExactStopWriteRow.holds Try.pinned (OpenSpec.ofChange fnExactStopWriteWrong)

/-- 'laws.FnExactOpen': WHATEVER THE INPUT: true; the input reads as it did. -/
def fnExactOpenSpec : ChangeSpec := { name := "fnExactOpen", fn := fun _ => fun
  | [d] => { results := [.lit (.bool true)], args := [d] }
  | _ => none }
def fnExactOpenRow : OpenClaim := { program := "ytdnnkfiocoakkaa", sum := "5c1ccbbaf8fcfea99b6b3e25054d3eb8487616514ea84e9b43b4058ec49c6fb7", func := "loop.example/g00240/laws.FnExactOpen", spec := "fnExactOpen", unfollowed := true, recurses := true, apart := false }
def FnExactOpenSaid : Prop := fnExactOpenRow.holds Try.pinned (OpenSpec.ofChange fnExactOpenSpec)

/-- ITS FALSE NEIGHBOUR: 'it returns false'. Refute it at one input. -/
def fnExactOpenWrong : ChangeSpec := { name := "fnExactOpen", fn := fun _ => fun
  | [d] => { results := [.lit (.bool false)], args := [d] }
  | _ => none }
def FnExactOpenWrongFalsely : Prop := fnExactOpenRow.holds Try.pinned (OpenSpec.ofChange fnExactOpenWrong)

/-- 'laws.FnExactPagesOf': WHATEVER THE INPUT: true; the input reads as it did. -/
def fnExactPagesOfSpec : ChangeSpec := { name := "fnExactPagesOf", fn := fun _ => fun
  | [d1, d2] => { results := [.lit (.bool true)], args := [d1, d2] }
  | _ => none }
def fnExactPagesOfRow : OpenClaim := { program := "ytdnnkfiocoakkaa", sum := "5c1ccbbaf8fcfea99b6b3e25054d3eb8487616514ea84e9b43b4058ec49c6fb7", func := "loop.example/g00240/laws.FnExactPagesOf", spec := "fnExactPagesOf", unfollowed := true, recurses := true, apart := false }
def FnExactPagesOfSaid : Prop := fnExactPagesOfRow.holds Try.pinned (OpenSpec.ofChange fnExactPagesOfSpec)

/-- ITS FALSE NEIGHBOUR: 'it returns false'. Refute it at one input. -/
def fnExactPagesOfWrong : ChangeSpec := { name := "fnExactPagesOf", fn := fun _ => fun
  | [d1, d2] => { results := [.lit (.bool false)], args := [d1, d2] }
  | _ => none }
def FnExactPagesOfWrongFalsely : Prop := fnExactPagesOfRow.holds Try.pinned (OpenSpec.ofChange fnExactPagesOfWrong)

/-- 'laws.FnExactNextMeta': WHATEVER THE INPUT: true; the input reads as it did. -/
def fnExactNextMetaSpec : ChangeSpec := { name := "fnExactNextMeta", fn := fun _ => fun
  | [d] => { results := [.lit (.bool true)], args := [d] }
  | _ => none }
def fnExactNextMetaRow : OpenClaim := { program := "ytdnnkfiocoakkaa", sum := "5c1ccbbaf8fcfea99b6b3e25054d3eb8487616514ea84e9b43b4058ec49c6fb7", func := "loop.example/g00240/laws.FnExactNextMeta", spec := "fnExactNextMeta", unfollowed := true, recurses := true, apart := false }
def FnExactNextMetaSaid : Prop := fnExactNextMetaRow.holds Try.pinned (OpenSpec.ofChange fnExactNextMetaSpec)

/-- ITS FALSE NEIGHBOUR: 'it returns false'. Refute it at one input. -/
def fnExactNextMetaWrong : ChangeSpec := { name := "fnExactNextMeta", fn := fun _ => fun
  | [d] => { results := [.lit (.bool false)], args := [d] }
  | _ => none }
def FnExactNextMetaWrongFalsely : Prop := fnExactNextMetaRow.holds Try.pinned (OpenSpec.ofChange fnExactNextMetaWrong)

/-- 'laws.FnExactPagesRight': WHATEVER THE INPUT: true; the input reads as it did. -/
def fnExactPagesRightSpec : ChangeSpec := { name := "fnExactPagesRight", fn := fun _ => fun
  | [d1, d2] => { results := [.lit (.bool true)], args := [d1, d2] }
  | _ => none }
def fnExactPagesRightRow : OpenClaim := { program := "ytdnnkfiocoakkaa", sum := "5c1ccbbaf8fcfea99b6b3e25054d3eb8487616514ea84e9b43b4058ec49c6fb7", func := "loop.example/g00240/laws.FnExactPagesRight", spec := "fnExactPagesRight", unfollowed := true, recurses := true, apart := false }
def FnExactPagesRightSaid : Prop := fnExactPagesRightRow.holds Try.pinned (OpenSpec.ofChange fnExactPagesRightSpec)

/-- ITS FALSE NEIGHBOUR: 'it returns false'. Refute it at one input. -/
def fnExactPagesRightWrong : ChangeSpec := { name := "fnExactPagesRight", fn := fun _ => fun
  | [d1, d2] => { results := [.lit (.bool false)], args := [d1, d2] }
  | _ => none }
def FnExactPagesRightWrongFalsely : Prop := fnExactPagesRightRow.holds Try.pinned (OpenSpec.ofChange fnExactPagesRightWrong)

/- THE SECOND FORM. 'bulk': how many values and letters a reading holds, each counted each time it is reached (what is shared counts as often as it is met; a slice's spare places count too). A statement '..UptoSaid' is the law's where the arguments, and the package variables that the reading takes, are together of bulk at most 1048576: NARROWER than '..Said'. Prove '..Said' where nothing that the law and all that it calls make is longer than what came in: it says more and counts as full. Else prove '..UptoSaid'. A law counts once. -/
mutual
def uptoBulk {H : Type} : DataW H → Nat
  | .lit (.string bytes) => bytes.length + 1
  | .lit _ => 1
  | .nil => 1
  | .ptr d => uptoBulk d + 1
  | .slice elems spare => uptoBulkAll elems + uptoBulkAll spare + 1
  | .agg parts => uptoBulkAll parts + 1
  | .iface _ d => uptoBulk d + 1
  | .map entries => uptoBulkEntries entries + 1
  | .held _ => 1
def uptoBulkAll {H : Type} : List (DataW H) → Nat
  | [] => 0
  | d :: r => uptoBulk d + uptoBulkAll r
def uptoBulkEntries {H : Type} : List (Lit × DataW H) → Nat
  | [] => 0
  | x :: r => uptoBulkEntry x + uptoBulkEntries r
def uptoBulkEntry {H : Type} : Lit × DataW H → Nat
  | (.string bytes, d) => bytes.length + uptoBulk d + 1
  | (_, d) => uptoBulk d + 1
 end
def uptoSmall : (H : Type) → List (DataW H) → Bool := fun _ ds => decide (uptoBulkAll ds ≤ 1048576)
def OpenSpec.upto (s : _root_.Go.ChangeSpec) : _root_.Go.OpenSpec := { _root_.Go.OpenSpec.ofChange s with cond := some uptoSmall }

/-- 'laws.FnExactSchemaKey', WHERE WHAT IT READS IS OF BULK AT MOST 1048576: true; the input reads as it did. -/
def fnExactSchemaKeyUptoRow : OpenClaim := { program := "ytdnnkfiocoakkaa", sum := "5c1ccbbaf8fcfea99b6b3e25054d3eb8487616514ea84e9b43b4058ec49c6fb7", func := "loop.example/g00240/laws.FnExactSchemaKey", spec := "fnExactSchemaKey", apart := false, narrowed := true }
def FnExactSchemaKeyUptoSaid : Prop := fnExactSchemaKeyUptoRow.holds Try.pinned (OpenSpec.upto fnExactSchemaKeySpec)

/-- 'laws.FnExactThingKey', WHERE WHAT IT READS IS OF BULK AT MOST 1048576: true; the input reads as it did. -/
def fnExactThingKeyUptoRow : OpenClaim := { program := "ytdnnkfiocoakkaa", sum := "5c1ccbbaf8fcfea99b6b3e25054d3eb8487616514ea84e9b43b4058ec49c6fb7", func := "loop.example/g00240/laws.FnExactThingKey", spec := "fnExactThingKey", apart := false, narrowed := true }
def FnExactThingKeyUptoSaid : Prop := fnExactThingKeyUptoRow.holds Try.pinned (OpenSpec.upto fnExactThingKeySpec)

/-- 'laws.FnExactIndexKey', WHERE WHAT IT READS IS OF BULK AT MOST 1048576: true; the input reads as it did. -/
def fnExactIndexKeyUptoRow : OpenClaim := { program := "ytdnnkfiocoakkaa", sum := "5c1ccbbaf8fcfea99b6b3e25054d3eb8487616514ea84e9b43b4058ec49c6fb7", func := "loop.example/g00240/laws.FnExactIndexKey", spec := "fnExactIndexKey", apart := false, narrowed := true }
def FnExactIndexKeyUptoSaid : Prop := fnExactIndexKeyUptoRow.holds Try.pinned (OpenSpec.upto fnExactIndexKeySpec)

/-- 'laws.FnExactNameKey', WHERE WHAT IT READS IS OF BULK AT MOST 1048576: true; the input reads as it did. -/
def fnExactNameKeyUptoRow : OpenClaim := { program := "ytdnnkfiocoakkaa", sum := "5c1ccbbaf8fcfea99b6b3e25054d3eb8487616514ea84e9b43b4058ec49c6fb7", func := "loop.example/g00240/laws.FnExactNameKey", spec := "fnExactNameKey", apart := false, narrowed := true }
def FnExactNameKeyUptoSaid : Prop := fnExactNameKeyUptoRow.holds Try.pinned (OpenSpec.upto fnExactNameKeySpec)

/-- 'laws.FnExactCollOk', WHERE WHAT IT READS IS OF BULK AT MOST 1048576: true; the input reads as it did. -/
def fnExactCollOkUptoRow : OpenClaim := { program := "ytdnnkfiocoakkaa", sum := "5c1ccbbaf8fcfea99b6b3e25054d3eb8487616514ea84e9b43b4058ec49c6fb7", func := "loop.example/g00240/laws.FnExactCollOk", spec := "fnExactCollOk", apart := false, narrowed := true }
def FnExactCollOkUptoSaid : Prop := fnExactCollOkUptoRow.holds Try.pinned (OpenSpec.upto fnExactCollOkSpec)

/-- 'laws.FnExactFormat', WHERE WHAT IT READS IS OF BULK AT MOST 1048576: true; the input reads as it did. -/
def fnExactFormatUptoRow : OpenClaim := { program := "ytdnnkfiocoakkaa", sum := "5c1ccbbaf8fcfea99b6b3e25054d3eb8487616514ea84e9b43b4058ec49c6fb7", func := "loop.example/g00240/laws.FnExactFormat", spec := "fnExactFormat", apart := false, narrowed := true }
def FnExactFormatUptoSaid : Prop := fnExactFormatUptoRow.holds Try.pinned (OpenSpec.upto fnExactFormatSpec)

/-- 'laws.FnExactGivePage', WHERE WHAT IT READS IS OF BULK AT MOST 1048576: true; the input reads as it did. -/
def fnExactGivePageUptoRow : OpenClaim := { program := "ytdnnkfiocoakkaa", sum := "5c1ccbbaf8fcfea99b6b3e25054d3eb8487616514ea84e9b43b4058ec49c6fb7", func := "loop.example/g00240/laws.FnExactGivePage", spec := "fnExactGivePage", apart := false, narrowed := true }
def FnExactGivePageUptoSaid : Prop := fnExactGivePageUptoRow.holds Try.pinned (OpenSpec.upto fnExactGivePageSpec)

/-- 'laws.FnExactOldestOf', WHERE WHAT IT READS IS OF BULK AT MOST 1048576: true; the input reads as it did. -/
def fnExactOldestOfUptoRow : OpenClaim := { program := "ytdnnkfiocoakkaa", sum := "5c1ccbbaf8fcfea99b6b3e25054d3eb8487616514ea84e9b43b4058ec49c6fb7", func := "loop.example/g00240/laws.FnExactOldestOf", spec := "fnExactOldestOf", apart := false, narrowed := true }
def FnExactOldestOfUptoSaid : Prop := fnExactOldestOfUptoRow.holds Try.pinned (OpenSpec.upto fnExactOldestOfSpec)

/-- 'laws.FnMetas', WHERE WHAT IT READS IS OF BULK AT MOST 1048576: true; the input reads as it did. -/
def fnMetasUptoRow : OpenClaim := { program := "ytdnnkfiocoakkaa", sum := "5c1ccbbaf8fcfea99b6b3e25054d3eb8487616514ea84e9b43b4058ec49c6fb7", func := "loop.example/g00240/laws.FnMetas", spec := "fnMetas", apart := false, narrowed := true }
def FnMetasUptoSaid : Prop := fnMetasUptoRow.holds Try.pinned (OpenSpec.upto fnMetasSpec)

/-- 'laws.FnNodes', WHERE WHAT IT READS IS OF BULK AT MOST 1048576: true; the input reads as it did. -/
def fnNodesUptoRow : OpenClaim := { program := "ytdnnkfiocoakkaa", sum := "5c1ccbbaf8fcfea99b6b3e25054d3eb8487616514ea84e9b43b4058ec49c6fb7", func := "loop.example/g00240/laws.FnNodes", spec := "fnNodes", unfollowed := true, recurses := true, apart := false, narrowed := true }
def FnNodesUptoSaid : Prop := fnNodesUptoRow.holds Try.pinned (OpenSpec.upto fnNodesSpec)

/-- 'laws.FnExactTreeOk', WHERE WHAT IT READS IS OF BULK AT MOST 1048576: true; the input reads as it did. -/
def fnExactTreeOkUptoRow : OpenClaim := { program := "ytdnnkfiocoakkaa", sum := "5c1ccbbaf8fcfea99b6b3e25054d3eb8487616514ea84e9b43b4058ec49c6fb7", func := "loop.example/g00240/laws.FnExactTreeOk", spec := "fnExactTreeOk", unfollowed := true, recurses := true, apart := false, narrowed := true }
def FnExactTreeOkUptoSaid : Prop := fnExactTreeOkUptoRow.holds Try.pinned (OpenSpec.upto fnExactTreeOkSpec)

/-- 'laws.FnExactAllPairs', WHERE WHAT IT READS IS OF BULK AT MOST 1048576: true; the input reads as it did. -/
def fnExactAllPairsUptoRow : OpenClaim := { program := "ytdnnkfiocoakkaa", sum := "5c1ccbbaf8fcfea99b6b3e25054d3eb8487616514ea84e9b43b4058ec49c6fb7", func := "loop.example/g00240/laws.FnExactAllPairs", spec := "fnExactAllPairs", unfollowed := true, recurses := true, apart := false, narrowed := true }
def FnExactAllPairsUptoSaid : Prop := fnExactAllPairsUptoRow.holds Try.pinned (OpenSpec.upto fnExactAllPairsSpec)

/-- 'laws.FnExactPairsFrom', WHERE WHAT IT READS IS OF BULK AT MOST 1048576: true; the input reads as it did. -/
def fnExactPairsFromUptoRow : OpenClaim := { program := "ytdnnkfiocoakkaa", sum := "5c1ccbbaf8fcfea99b6b3e25054d3eb8487616514ea84e9b43b4058ec49c6fb7", func := "loop.example/g00240/laws.FnExactPairsFrom", spec := "fnExactPairsFrom", unfollowed := true, recurses := true, apart := false, narrowed := true }
def FnExactPairsFromUptoSaid : Prop := fnExactPairsFromUptoRow.holds Try.pinned (OpenSpec.upto fnExactPairsFromSpec)

/-- 'laws.FnExactPutNode', WHERE WHAT IT READS IS OF BULK AT MOST 1048576: true; the input reads as it did. -/
def fnExactPutNodeUptoRow : OpenClaim := { program := "ytdnnkfiocoakkaa", sum := "5c1ccbbaf8fcfea99b6b3e25054d3eb8487616514ea84e9b43b4058ec49c6fb7", func := "loop.example/g00240/laws.FnExactPutNode", spec := "fnExactPutNode", unfollowed := true, recurses := true, apart := false, narrowed := true }
def FnExactPutNodeUptoSaid : Prop := fnExactPutNodeUptoRow.holds Try.pinned (OpenSpec.upto fnExactPutNodeSpec)

/-- 'laws.FnExactEndRead', WHERE WHAT IT READS IS OF BULK AT MOST 1048576: true; the input reads as it did. -/
def fnExactEndReadUptoRow : OpenClaim := { program := "ytdnnkfiocoakkaa", sum := "5c1ccbbaf8fcfea99b6b3e25054d3eb8487616514ea84e9b43b4058ec49c6fb7", func := "loop.example/g00240/laws.FnExactEndRead", spec := "fnExactEndRead", unfollowed := true, recurses := true, apart := false, narrowed := true }
def FnExactEndReadUptoSaid : Prop := fnExactEndReadUptoRow.holds Try.pinned (OpenSpec.upto fnExactEndReadSpec)

/-- 'laws.FnExactStopWrite', WHERE WHAT IT READS IS OF BULK AT MOST 1048576: true; the input reads as it did. -/
def fnExactStopWriteUptoRow : OpenClaim := { program := "ytdnnkfiocoakkaa", sum := "5c1ccbbaf8fcfea99b6b3e25054d3eb8487616514ea84e9b43b4058ec49c6fb7", func := "loop.example/g00240/laws.FnExactStopWrite", spec := "fnExactStopWrite", apart := false, narrowed := true }
def FnExactStopWriteUptoSaid : Prop := fnExactStopWriteUptoRow.holds Try.pinned (OpenSpec.upto fnExactStopWriteSpec)

/-- 'laws.FnExactOpen', WHERE WHAT IT READS IS OF BULK AT MOST 1048576: true; the input reads as it did. -/
def fnExactOpenUptoRow : OpenClaim := { program := "ytdnnkfiocoakkaa", sum := "5c1ccbbaf8fcfea99b6b3e25054d3eb8487616514ea84e9b43b4058ec49c6fb7", func := "loop.example/g00240/laws.FnExactOpen", spec := "fnExactOpen", unfollowed := true, recurses := true, apart := false, narrowed := true }
def FnExactOpenUptoSaid : Prop := fnExactOpenUptoRow.holds Try.pinned (OpenSpec.upto fnExactOpenSpec)

/-- 'laws.FnExactPagesOf', WHERE WHAT IT READS IS OF BULK AT MOST 1048576: true; the input reads as it did. -/
def fnExactPagesOfUptoRow : OpenClaim := { program := "ytdnnkfiocoakkaa", sum := "5c1ccbbaf8fcfea99b6b3e25054d3eb8487616514ea84e9b43b4058ec49c6fb7", func := "loop.example/g00240/laws.FnExactPagesOf", spec := "fnExactPagesOf", unfollowed := true, recurses := true, apart := false, narrowed := true }
def FnExactPagesOfUptoSaid : Prop := fnExactPagesOfUptoRow.holds Try.pinned (OpenSpec.upto fnExactPagesOfSpec)

/-- 'laws.FnExactNextMeta', WHERE WHAT IT READS IS OF BULK AT MOST 1048576: true; the input reads as it did. -/
def fnExactNextMetaUptoRow : OpenClaim := { program := "ytdnnkfiocoakkaa", sum := "5c1ccbbaf8fcfea99b6b3e25054d3eb8487616514ea84e9b43b4058ec49c6fb7", func := "loop.example/g00240/laws.FnExactNextMeta", spec := "fnExactNextMeta", unfollowed := true, recurses := true, apart := false, narrowed := true }
def FnExactNextMetaUptoSaid : Prop := fnExactNextMetaUptoRow.holds Try.pinned (OpenSpec.upto fnExactNextMetaSpec)

/-- 'laws.FnExactPagesRight', WHERE WHAT IT READS IS OF BULK AT MOST 1048576: true; the input reads as it did. -/
def fnExactPagesRightUptoRow : OpenClaim := { program := "ytdnnkfiocoakkaa", sum := "5c1ccbbaf8fcfea99b6b3e25054d3eb8487616514ea84e9b43b4058ec49c6fb7", func := "loop.example/g00240/laws.FnExactPagesRight", spec := "fnExactPagesRight", unfollowed := true, recurses := true, apart := false, narrowed := true }
def FnExactPagesRightUptoSaid : Prop := fnExactPagesRightUptoRow.holds Try.pinned (OpenSpec.upto fnExactPagesRightSpec)

end Rows
end Go.Proofs.Ytdnnkfiocoakkaa
