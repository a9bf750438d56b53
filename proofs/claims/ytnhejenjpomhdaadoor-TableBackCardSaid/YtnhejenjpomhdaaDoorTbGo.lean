/- The reference table (vivariumref09): Go, case by case. (printed by wip/genref.py) -/
import Derived.Test.YtnhejenjpomhdaaDoorTbRef
namespace Go.Proofs.YtnhejenjpomhdaaDoor.Ref
open Go.RowKit Go.Proofs.YtnhejenjpomhdaaDoorW.PrintWords Go.Proofs.YtnhejenjpomhdaaDoorW.PrintLast Go.Proofs.YtnhejenjpomhdaaDoorW.PrintMore Go.Proofs.YtnhejenjpomhdaaDoor.Mem Go.Proofs.YtnhejenjpomhdaaDoor.Col Go.Proofs.YtnhejenjpomhdaaDoor.Bits Go.Proofs.YtnhejenjpomhdaaDoor.Data Go.Proofs.YtnhejenjpomhdaaDoor.Mp Go.Proofs.YtnhejenjpomhdaaDoor.Tab Go.Proofs.YtnhejenjpomhdaaDoor.PTableLoads
set_option linter.unusedVariables false
set_option linter.unusedSimpArgs false

/-- What is told: data, parts, a name, a yes or no, an error. -/
structure ToldS where
  data : List Int
  parts : List Part_
  id : ID_
  ok : Bool
  err : Int
def errT (e : Int) : ToldS := ⟨[], [], z40, false, e⟩
/-- How it lies. -/
def IsTold (W : World) (ok : Nat → Prop) (v : Value) (t : ToldS) : Prop := ∃ AD cD AP cP, v = .agg #[.slice AD t.data.length cD, .slice AP t.parts.length cP, .int .i64 t.id.f0, .int .i64 t.id.f1, .bool t.ok, .int .i64 t.err] ∧ t.data.length ≤ cD ∧ t.parts.length ≤ cP ∧
  Kd.F (Kd.int .u8) W ok AD t.data.length t.data ∧ Kd.F k90 W ok AP t.parts.length t.parts
theorem IsTold.err {W : World} {ok : Nat → Prop} (e : Int) : IsTold W ok (.agg #[.slice none 0 0, .slice none 0 0, .int .i64 0, .int .i64 0, .bool false, .int .i64 e]) (errT e) := ⟨none, 0, none, 0, rfl, Nat.le_refl _, Nat.le_refl _, Kd.F_nil _ _ _, Kd.F_nil _ _ _⟩
end Go.Proofs.YtnhejenjpomhdaaDoor.Ref
