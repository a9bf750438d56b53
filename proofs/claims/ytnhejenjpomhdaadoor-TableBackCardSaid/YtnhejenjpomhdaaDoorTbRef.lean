/- The reference table (vivariumref09): how its values lie; add. -/
import Derived.Test.YtnhejenjpomhdaaDoorTbAdd
import Derived.Test.YtnhejenjpomhdaaDoorTbTNew
namespace Go.Proofs.YtnhejenjpomhdaaDoor.Ref
open Go.RowKit Go.Proofs.YtnhejenjpomhdaaDoorW.PrintWords Go.Proofs.YtnhejenjpomhdaaDoorW.PrintLast Go.Proofs.YtnhejenjpomhdaaDoorW.PrintMore Go.Proofs.YtnhejenjpomhdaaDoor.Mem Go.Proofs.YtnhejenjpomhdaaDoor.Col Go.Proofs.YtnhejenjpomhdaaDoor.Bits Go.Proofs.YtnhejenjpomhdaaDoor.Data Go.Proofs.YtnhejenjpomhdaaDoor.Mp Go.Proofs.YtnhejenjpomhdaaDoor.Tab Go.Proofs.YtnhejenjpomhdaaDoor.PTableLoads
set_option linter.unusedVariables false
set_option linter.unusedSimpArgs false

/-- The four blocks that add and Go lay first. -/
structure Laid (W0 : World) (g : Nat) (c35 c45 : Array Value) : Prop where
  b2 : W0.heap[g]? = some (.cells c35 35 (0, 0))
  b3 : W0.heap[g + 1]? = some (.cells c45 45 (0, 0))
  b4 : W0.heap[g + 1 + 1]? = some (.cells #[.slice none 0 0, .slice none 0 0, .slice none 0 0] 35 (0, 0))
  b5 : W0.heap[g + 1 + 1 + 1]? = some (.cells #[.slice none 0 0, .slice none 0 0, .int .i64 0, .int .i64 0, .bool false, .int .i64 0] 42 (0, 0))
end Go.Proofs.YtnhejenjpomhdaaDoor.Ref
