/- Of what a program of the kit wrote for this seat: what is used here. -/
import Derived.Test.YtnhejenjpomhdaaDoorTbWWords
/-! ### 55. Reps told from the front, no append: for rows of one-cell elements and of wider ones -/
namespace Go.Proofs.YtnhejenjpomhdaaDoorW.PrintWords
end Go.Proofs.YtnhejenjpomhdaaDoorW.PrintWords
