/- Rows: what a table's content is to the reference. -/
import Derived.Test.YtnhejenjpomhdaaDoorTbRef
namespace Go.Proofs.YtnhejenjpomhdaaDoor.TRows
open Go.RowKit Go.Proofs.YtnhejenjpomhdaaDoorW.PrintWords Go.Proofs.YtnhejenjpomhdaaDoorW.PrintLast Go.Proofs.YtnhejenjpomhdaaDoorW.PrintMore Go.Proofs.YtnhejenjpomhdaaDoor.Mem Go.Proofs.YtnhejenjpomhdaaDoor.Col Go.Proofs.YtnhejenjpomhdaaDoor.Bits Go.Proofs.YtnhejenjpomhdaaDoor.Data Go.Proofs.YtnhejenjpomhdaaDoor.Mp Go.Proofs.YtnhejenjpomhdaaDoor.Tab Go.Proofs.YtnhejenjpomhdaaDoor.Ref Go.Proofs.YtnhejenjpomhdaaDoor.PTableLoads
set_option linter.unusedVariables false
set_option linter.unusedSimpArgs false

theorem _root_.Go.Proofs.YtnhejenjpomhdaaDoor.Tab.IsTab.lt {W : World} {g : Nat} {F : Nat → Prop} {t : TabS} (h : IsTab W g F t) : g < W.heap.size := by
  obtain ⟨vi, m, cg, cF, h⟩ := h
  exact heap_lt' h.blk
open Classical in
noncomputable def addT' (t : TabS) (id : ID_) (ps : List Part_) : TabS := if taddE t ps = 0 then addT t id ps else t
end Go.Proofs.YtnhejenjpomhdaaDoor.TRows
