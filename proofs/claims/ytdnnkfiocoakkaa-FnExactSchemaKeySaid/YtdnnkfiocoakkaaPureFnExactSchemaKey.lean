/- The program's SchemaKey returns what the reference's returns, for all arguments (the law's own guards: a text of at most 1048576 bytes). -/
import Derived.Test.YtdnnkfiocoakkaaPFnExactSchemaKeyx1
namespace Go.Proofs.Ytdnnkfiocoakkaa.Pure
open Go.RowKit Go.Proofs.Ytdnnkfiocoakkaa.PFnExactSchemaKey Go.Proofs.YtdnnkfiocoakkaaW.PrintWords Go.Proofs.YtdnnkfiocoakkaaW.PrintLast

theorem size_lit (l : List UInt8) : (⟨l.toArray⟩ : ByteArray).size = l.length := by simp [ByteArray.size]

theorem FnExactSchemaKey : laws_FnExactSchemaKey.Pure := by
  intro a h
  unfold laws_FnExactSchemaKey.f spec_SchemaKey.f impl_SchemaKey.f
  split
  · rfl
  · rw [if_pos (by omega)]
    simp

end Go.Proofs.Ytdnnkfiocoakkaa.Pure
