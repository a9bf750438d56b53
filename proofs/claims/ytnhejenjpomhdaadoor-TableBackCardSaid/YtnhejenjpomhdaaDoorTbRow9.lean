/- What the rows of layer 9 need: the listed variable, arguments read as values. -/
import Derived.Test.YtnhejenjpomhdaaDoorRows
import Derived.Test.YtnhejenjpomhdaaDoorTie
import Derived.Test.YtnhejenjpomhdaaDoorCards
import Derived.Test.YtnhejenjpomhdaaDoorTbRead
import Derived.Test.YtnhejenjpomhdaaDoorTbBits
import Derived.WalkKit
import Derived.ProofKit
import Derived.OpenShut
import Derived.ChangeOld
import Derived.Below
import Derived.LaidMore
import Derived.Stop.Joined
import Derived.Lib.LaidTab
import Derived.SevenTiedAt
namespace Go.Proofs.YtnhejenjpomhdaaDoor.Row9
open Go.ChangeShapes Go.WideShapes Go.ChangeAt Go.RowKit Go.Proofs.YtnhejenjpomhdaaDoor.PTableLoads Go.Proofs.YtnhejenjpomhdaaDoor.Read Go.Proofs.YtnhejenjpomhdaaDoor.Bits Go.Proofs.YtnhejenjpomhdaaDoorW.PrintWords
set_option linter.unusedVariables false
set_option linter.unusedSimpArgs false
set_option maxRecDepth 100000

theorem own : ownKnob Tryd.prog.godebug = none := by kernel_rfl
theorem laidOut : laidOutB Tryd.prog = true := by kernel_rfl
abbrev laid1 : List (String × DataW Unit) := [("math/bits.deBruijn64tab", Rows.laid_math_bits_deBruijn64tab)]
theorem gTab : Tryd.prog.globalNamed "math/bits.deBruijn64tab" = some 0 := by kernel_rfl
/-- The door's own heap meets the condition. -/
theorem door_met (os : Os) (args : Array Value) : laidMetH Tryd.prog laid1 ((World.doorLaid Tryd.prog 400 os).forCall (fun _ _ => 0) ⟨#[], args, []⟩).memory :=
  laidMetH_of_parts3 (fuel := 8) (laidMet_of_run' 8 (by kernel_rfl) (by kernel_rfl)) (by kernel_rfl) (by kernel_rfl)
theorem tabZ : Rows.laid_math_bits_deBruijn64tab (H := Unit) = Lib.tabData .u8 (Lib.deBruijn64tab.map fun n : Nat => (n : Int)) := by rfl
theorem tab_of_laid {W : World} (h : laidMetH Tryd.prog laid1 W) : Tab W := by
  rw [MakeChecks.laidMetH_plain _ _ _ (by kernel_rfl)] at h
  unfold laid1 at h
  rw [tabZ] at h
  have hI := Lib.tabIs_of_head (t := 148) (n := 64) (e := 5) gTab (by kernel_rfl) Tryd.underlying148 Tryd.underlying5 (by kernel_rfl) (by kernel_rfl) h
  intro j hj
  have := hI.cell gTab j (by simpa using hj)
  rw [this]
  congr 2
  simp [List.getD_eq_getElem?_getD, List.getElem?_map]
  cases Lib.deBruijn64tab[j]? <;> rfl

section
variable {H : Type} {enc : TypeId × Value → H} {W : World}
theorem rdComp : Rd enc Tryd.prog W 88 k88 (fun _ => True) :=
  ((Rd.struct Tryd.underlying88 (tot := 2) (by kernel_rfl) (RdF.cons rfl rfl (by kernel_rfl) (Rd.string Tryd.underlying9) (RdF.last rfl rfl (by kernel_rfl) rfl (Rd.int Tryd.underlying3)))).iso (fun x : S88 => (x.f0, x.f1)) (fun y => ⟨y.1, y.2⟩) (fun _ => rfl)).imp (fun _ _ => trivial)
theorem rdID : Rd enc Tryd.prog W 40 k40 (fun _ => True) :=
  ((Rd.struct Tryd.underlying40 (tot := 2) (by kernel_rfl) (RdF.cons rfl rfl (by kernel_rfl) (Rd.int Tryd.underlying3) (RdF.last rfl rfl (by kernel_rfl) rfl (Rd.int Tryd.underlying3)))).iso (fun x : S40 => (x.f0, x.f1)) (fun y => ⟨y.1, y.2⟩) (fun _ => rfl)).imp (fun _ _ => trivial)
theorem rdBytes : Rd enc Tryd.prog W 37 (Kd.slice 5 (Kd.int .u8)) (fun _ => True) := (Rd.slice Tryd.underlying37 (by kernel_rfl) (Rd.int Tryd.underlying5)).imp (fun _ _ => trivial)
theorem rdPart : Rd enc Tryd.prog W 90 k90 (fun _ => True) :=
  ((Rd.struct Tryd.underlying90 (tot := 2) (by kernel_rfl) (RdF.cons rfl rfl (by kernel_rfl) (Rd.int Tryd.underlying3) (RdF.last rfl rfl (by kernel_rfl) rfl rdBytes))).iso (fun x : S90 => (x.f0, x.f1)) (fun y => ⟨y.1, y.2⟩) (fun _ => rfl)).imp (fun _ _ => trivial)
theorem rdStep : Rd enc Tryd.prog W 45 k45 (fun _ => True) :=
  ((Rd.struct Tryd.underlying45 (tot := 7) (by kernel_rfl) (RdF.cons rfl rfl (by kernel_rfl) (Rd.int Tryd.underlying3) (RdF.cons rfl rfl (by kernel_rfl) rdID (RdF.cons rfl rfl (by kernel_rfl) (Rd.slice Tryd.underlying38 (by kernel_rfl) rdPart) (RdF.cons rfl rfl (by kernel_rfl) (Rd.int Tryd.underlying3) (RdF.cons rfl rfl (by kernel_rfl) (Rd.int Tryd.underlying3) (RdF.last rfl rfl (by kernel_rfl) rfl rdBytes))))))).iso (fun x : S45 => (x.f0, x.f1, x.f2, x.f3, x.f4, x.f5)) (fun y => ⟨y.1, y.2.1, y.2.2.1, y.2.2.2.1, y.2.2.2.2.1, y.2.2.2.2.2⟩) (fun _ => rfl)).imp (fun _ _ => trivial)
theorem rdSteps : Rd enc Tryd.prog W 26 (Kd.slice 45 k45) (fun _ => True) := (Rd.slice Tryd.underlying26 (by kernel_rfl) rdStep).imp (fun _ _ => trivial)
theorem rdConf : Rd enc Tryd.prog W 24 (Kd.pair (Kd.int .i64) (Kd.pair (Kd.int .i64) (Kd.pair (Kd.int .i64) (Kd.pair (Kd.int .i64) (Kd.slice 88 k88))))) (fun _ => True) :=
  (Rd.struct Tryd.underlying24 (tot := 5) (by kernel_rfl) (RdF.cons rfl rfl (by kernel_rfl) (Rd.int Tryd.underlying3) (RdF.cons rfl rfl (by kernel_rfl) (Rd.int Tryd.underlying3) (RdF.cons rfl rfl (by kernel_rfl) (Rd.int Tryd.underlying3) (RdF.cons rfl rfl (by kernel_rfl) (Rd.int Tryd.underlying3) (RdF.last rfl rfl (by kernel_rfl) rfl (Rd.slice Tryd.underlying22 (by kernel_rfl) rdComp))))))).imp (fun _ _ => trivial)
/-- A layout that came in. -/
theorem open_conf {v : Value} {d : DataW H} {p : List MemPlace} {base : Nat} (hv : Value.okWide Tryd.prog W .any base 24 v) (h : DataW.Trod enc Tryd.prog W 0 (fun _ => true) true 24 v d p) :
    ∃ a0 a1 a2 a3 AC cC comps, v = .agg #[.int .i64 a0, .int .i64 a1, .int .i64 a2, .int .i64 a3, .slice AC comps.length cC] ∧ comps.length ≤ cC ∧ Kd.C k88 W AC comps.length comps := by
  obtain ⟨cs, rfl, _⟩ := okWide_struct Tryd.underlying24 hv
  obtain ⟨n, hn⟩ := h
  obtain ⟨x, hK, _⟩ := rdConf n _ _ hn
  obtain ⟨_, _, e, rfl, _, _, rfl, rfl, _, _, rfl, rfl, _, _, rfl, rfl, AC, cC, rfl, hl, hC⟩ := hK
  refine ⟨x.1, x.2.1, x.2.2.1, x.2.2.2.1, AC, cC, x.2.2.2.2, ?_, hl, hC⟩
  congr 1
  exact Array.toList_inj.1 (by simpa [Value.cells] using e)
/-- A slice that came in. -/
theorem open_slice_ {α : Type} {t e : TypeId} {dk : Kd α} {v : Value} {d : DataW H} {p : List MemPlace} {base : Nat} (ht : Tryd.prog.underlying t = some (.slice e)) (hr : Rd enc Tryd.prog W t (Kd.slice e dk) (fun _ => True)) (hv : Value.okWide Tryd.prog W .any base t v) (h : DataW.Trod enc Tryd.prog W 0 (fun _ => true) true t v d p) :
    ∃ A c xs, v = .slice A xs.length c ∧ xs.length ≤ c ∧ Kd.C dk W A xs.length xs := by
  obtain ⟨a, len, cap, rfl⟩ := okWide_slice ht hv
  obtain ⟨n, hn⟩ := h
  obtain ⟨xs, ⟨A, c, e, hl, hC⟩, _⟩ := hr n _ _ hn
  have e : Value.slice a len cap = Value.slice A xs.length c := by simpa [Value.cells] using e
  exact ⟨A, c, xs, e, hl, hC⟩
theorem wf_u64 {n : Int} (h : (Lit.int .u64 n).wf = true) : ∃ m : Nat, n = (m : Int) ∧ m < 18446744073709551616 := by
  have h1 : IntKind.u64.min ≤ n ∧ n ≤ IntKind.u64.max := by simpa [Lit.wf] using h
  have h2 : IntKind.u64.min = 0 := by rfl
  have h3 : IntKind.u64.max = 18446744073709551615 := by rfl
  rw [h2, h3] at h1
  exact ⟨n.toNat, by omega, by omega⟩
end

end Go.Proofs.YtnhejenjpomhdaaDoor.Row9
