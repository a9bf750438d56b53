/- The reference New (vivariumref09): what print.sh wrote for it, but for three lines at two places that the walk no longer reaches. -/
import Derived.Test.YtnhejenjpomhdaaDoorTbPTableLoadsx0
import Derived.Test.YtnhejenjpomhdaaDoorTbPTableLoadsx5
namespace Go.Proofs.YtnhejenjpomhdaaDoor.PTableLoads
open Go.RowKit Go.Proofs.YtnhejenjpomhdaaDoorW.PrintWords Go.Proofs.YtnhejenjpomhdaaDoorW.PrintLast Go.Proofs.YtnhejenjpomhdaaDoorW.PrintMore
attribute [local go_sem] max2_int min2_int max_two min_two max_three min_three max_four min_four   -- for this text's walks alone
set_option linter.unusedVariables false
set_option linter.unusedSimpArgs false

/-! ### vivariumref09_New: function 11 -/
def vivariumref09_New.l0 : Nat → List Int → Int → Int → Int → Int → Int → List (S88) → List Int → List Int → Option (List Int × List Int × (List (S100)))
  | 0, _, _, _, _, _, _, _, _, _ => none
  | k + 1, x6, x7, x186000, x186001, x186002, x186003, x186004, x188000, x188001 => if x7 < (x6.length : Int) then (if 0 ≤ x7 then ((vivariumref07_Size.f x186000 x186001 x186002 x186003 x186004 (rd x6 x7)).bind fun bt192 => (if bt192.2 = true then (if bt192.1 < 0 then (if 0 > 64 then (if x188000.length < 17592186044416 then (if x188001.length < 17592186044416 then (vivariumref09_New.l0 k x6 (wrap64 (x7 + 1)) x186000 x186001 x186002 x186003 x186004 (x188000 ++ [rd x6 x7]) (x188001 ++ [64])) else (none)) else (none)) else (if x188000.length < 17592186044416 then (if x188001.length < 17592186044416 then (vivariumref09_New.l0 k x6 (wrap64 (x7 + 1)) x186000 x186001 x186002 x186003 x186004 (x188000 ++ [rd x6 x7]) (x188001 ++ [0])) else (none)) else (none))) else (if bt192.1 > 64 then (if x188000.length < 17592186044416 then (if x188001.length < 17592186044416 then (vivariumref09_New.l0 k x6 (wrap64 (x7 + 1)) x186000 x186001 x186002 x186003 x186004 (x188000 ++ [rd x6 x7]) (x188001 ++ [64])) else (none)) else (none)) else (if x188000.length < 17592186044416 then (if x188001.length < 17592186044416 then (vivariumref09_New.l0 k x6 (wrap64 (x7 + 1)) x186000 x186001 x186002 x186003 x186004 (x188000 ++ [rd x6 x7]) (x188001 ++ [bt192.1])) else (none)) else (none)))) else (vivariumref09_New.l0 k x6 (wrap64 (x7 + 1)) x186000 x186001 x186002 x186003 x186004 x188000 x188001))) else (none)) else (some (x188000, x188001, ([] : List (S100))))
def vivariumref09_New.f (k : Nat) (a0_0 : Int) (a0_1 : Int) (a0_2 : Int) (a0_3 : Int) (l0_4 : List (S88)) (a1 : Int) : Option (List Int × List Int × (List (S100))) := (vivariumref05_List.f k a1).bind fun t188 => (vivariumref09_New.l0 k t188 0 a0_0 a0_1 a0_2 a0_3 l0_4 ([] : List Int) ([] : List Int))
end Go.Proofs.YtnhejenjpomhdaaDoor.PTableLoads
