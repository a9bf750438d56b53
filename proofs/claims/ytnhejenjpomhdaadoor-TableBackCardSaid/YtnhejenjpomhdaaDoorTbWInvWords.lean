/- Of what a program of the kit wrote for this seat: what is used here. -/
import Derived.Test.YtnhejenjpomhdaaDoorTbWInv
import Derived.Test.YtnhejenjpomhdaaDoorTbWFootNe
namespace Go.Proofs.YtnhejenjpomhdaaDoorW.PrintWords
open Go.RowKit
end Go.Proofs.YtnhejenjpomhdaaDoorW.PrintWords
namespace Go.Proofs.YtnhejenjpomhdaaDoorW.PrintLast
section
variable {ops : Array Oper} {a : Act} {o og : Oper} {g : Nat} {t : Tmp} {u : Bool}
end
end Go.Proofs.YtnhejenjpomhdaaDoorW.PrintLast
