/- Of what a program of the kit wrote for this seat: what is used here. -/
import Derived.Test.YtnhejenjpomhdaaDoorTbWLast
import Derived.Test.YtnhejenjpomhdaaDoorTbWWords
/-! ### 50. A region's order in a table, made once a region: each step asks the table (numbers alone), not the operations -/
namespace Go.Proofs.YtnhejenjpomhdaaDoorW.PrintLast
open Go.Proofs.YtnhejenjpomhdaaDoorW.PrintWords (Aside0)
section
variable {md : Region.Mode} {ops : Array Oper} {T : Bool × List (List Nat × List Nat)} {l l' li lj lk : Array Bool} {ds : List Nat} {i j k : Nat}
end
end Go.Proofs.YtnhejenjpomhdaaDoorW.PrintLast
