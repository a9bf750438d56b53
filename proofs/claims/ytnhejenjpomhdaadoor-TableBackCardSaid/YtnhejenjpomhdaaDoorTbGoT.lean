/- The reference's Go, all cases in one: over a table's content. -/
import Derived.Test.YtnhejenjpomhdaaDoorTbGo
import Derived.Test.YtnhejenjpomhdaaDoorTbPlain
namespace Go.Proofs.YtnhejenjpomhdaaDoor.TRows
open Go.RowKit Go.Proofs.YtnhejenjpomhdaaDoorW.PrintWords Go.Proofs.YtnhejenjpomhdaaDoorW.PrintLast Go.Proofs.YtnhejenjpomhdaaDoorW.PrintMore Go.Proofs.YtnhejenjpomhdaaDoor.Mem Go.Proofs.YtnhejenjpomhdaaDoor.Col Go.Proofs.YtnhejenjpomhdaaDoor.Bits Go.Proofs.YtnhejenjpomhdaaDoor.Data Go.Proofs.YtnhejenjpomhdaaDoor.Mp Go.Proofs.YtnhejenjpomhdaaDoor.Tab Go.Proofs.YtnhejenjpomhdaaDoor.Ref Go.Proofs.YtnhejenjpomhdaaDoor.PTableLoads
set_option linter.unusedVariables false
set_option linter.unusedSimpArgs false

abbrev Step_ := S45
open Classical in
/-- What a step makes of a table's content, and what it tells. -/
noncomputable def goT (t : TabS) (s : Step_) : TabS × ToldS :=
  if s.f0 < 1 ∨ 4 < s.f0 then (addT' t s.f1 s.f2, errT (taddE t s.f2))
  else if s.f3 < 0 ∨ (t.ids.length : Int) ≤ s.f3 then (t, errT 2)
  else if s.f0 = 3 then (t, ⟨[], partsT t s.f3.toNat, z40, false, 0⟩)
  else if s.f0 = 4 then (dropT t s.f3.toNat, if s.f3.toNat = t.ids.length - 1 then errT 0 else ⟨[], [], t.ids.getD (t.ids.length - 1) z40, true, 0⟩)
  else if s.f4 ∉ bitsL t.sig then (t, errT 8)
  else if s.f0 = 2 then (t, ⟨rowB (t.cb s.f4.toNat) s.f3.toNat (t.cz s.f4.toNat), [], z40, false, 0⟩)
  else if s.f5.length ≠ t.cz s.f4.toNat then (t, errT 7)
  else (setT t s.f3 s.f4 s.f5, errT 0)

theorem atE_zero {n : Nat} {i : Int} : atE n i = 0 ↔ ¬ (i < 0 ∨ (n : Int) ≤ i) := by
  unfold atE
  by_cases h : i < 0 ∨ (n : Int) ≤ i
  · rw [if_pos h]
    exact ⟨fun h' => absurd h' (by decide), fun h' => absurd h h'⟩
  · rw [if_neg h]
    exact ⟨fun _ => h, fun _ => rfl⟩
theorem colE_cases (t : TabS) (row k : Int) : (row < 0 ∨ (t.ids.length : Int) ≤ row) ∧ atE t.ids.length row = 2 ∧ colE t row k = 2 ∨ ¬ (row < 0 ∨ (t.ids.length : Int) ≤ row) ∧ atE t.ids.length row = 0 ∧ (k ∉ bitsL t.sig ∧ colE t row k = 8 ∨ k ∈ bitsL t.sig ∧ colE t row k = 0) := by
  by_cases h2 : row < 0 ∨ (t.ids.length : Int) ≤ row
  · have h3 : atE t.ids.length row ≠ 0 := fun e => atE_zero.1 e h2
    exact .inl ⟨h2, at_two h3, by unfold colE; rw [if_pos h3]⟩
  · have h3 : atE t.ids.length row = 0 := atE_zero.2 h2
    refine .inr ⟨h2, h3, ?_⟩
    unfold colE
    rw [if_neg (fun h => h h3)]
    by_cases h4 : k ∈ bitsL t.sig
    · exact .inr ⟨h4, if_pos h4⟩
    · exact .inl ⟨h4, if_neg h4⟩
theorem goT_set {t : TabS} {s : Step_} (h1 : s.f0 = 1) : (tsetE t s.f3 s.f4 s.f5.length ≠ 0 ∧ goT t s = (t, errT (tsetE t s.f3 s.f4 s.f5.length))) ∨ (tsetE t s.f3 s.f4 s.f5.length = 0 ∧ goT t s = (setT t s.f3 s.f4 s.f5, errT (tsetE t s.f3 s.f4 s.f5.length))) := by
  have hg : ¬ (s.f0 < 1 ∨ 4 < s.f0) := by omega
  have n3 : ¬ s.f0 = 3 := by omega
  have n4 : ¬ s.f0 = 4 := by omega
  have n2 : ¬ s.f0 = 2 := by omega
  rcases colE_cases t s.f3 s.f4 with ⟨h2, h3, h4⟩ | ⟨h2, h3, ⟨h4, h5⟩ | ⟨h4, h5⟩⟩
  · have e : tsetE t s.f3 s.f4 s.f5.length = 2 := by simp [tsetE, h4]
    refine .inl ⟨by rw [e]; decide, ?_⟩
    unfold goT
    rw [if_neg hg, if_pos h2, e]
  · have e : tsetE t s.f3 s.f4 s.f5.length = 8 := by simp [tsetE, h5]
    refine .inl ⟨by rw [e]; decide, ?_⟩
    unfold goT
    rw [if_neg hg, if_neg h2, if_neg n3, if_neg n4, if_pos h4, e]
  · by_cases h6 : s.f5.length = t.cz s.f4.toNat
    · have e : tsetE t s.f3 s.f4 s.f5.length = 0 := by simp [tsetE, h5, h6]
      refine .inr ⟨e, ?_⟩
      unfold goT
      rw [if_neg hg, if_neg h2, if_neg n3, if_neg n4, if_neg (fun h => h h4), if_neg n2, if_neg (fun h => h h6), e]
    · have e : tsetE t s.f3 s.f4 s.f5.length = 7 := by simp [tsetE, h5, h6]
      refine .inl ⟨by rw [e]; decide, ?_⟩
      unfold goT
      rw [if_neg hg, if_neg h2, if_neg n3, if_neg n4, if_neg (fun h => h h4), if_neg n2, if_pos h6, e]
theorem goT_get {t : TabS} {s : Step_} (h1 : s.f0 = 2) : goT t s = (t, ⟨if colE t s.f3 s.f4 = 0 then rowB (t.cb s.f4.toNat) s.f3.toNat (t.cz s.f4.toNat) else [], [], z40, false, colE t s.f3 s.f4⟩) := by
  have hg : ¬ (s.f0 < 1 ∨ 4 < s.f0) := by omega
  have n3 : ¬ s.f0 = 3 := by omega
  have n4 : ¬ s.f0 = 4 := by omega
  unfold goT
  rw [if_neg hg]
  rcases colE_cases t s.f3 s.f4 with ⟨h2, h3, h4⟩ | ⟨h2, h3, ⟨h4, h5⟩ | ⟨h4, h5⟩⟩
  · rw [h4, if_pos h2, if_neg (by decide)]
    rfl
  · rw [h5, if_neg h2, if_neg n3, if_neg n4, if_pos h4, if_neg (by decide)]
    rfl
  · rw [h5, if_neg h2, if_neg n3, if_neg n4, if_neg (fun h => h h4), if_pos h1, if_pos rfl]
theorem goT_parts {t : TabS} {s : Step_} (h1 : s.f0 = 3) : goT t s = (t, ⟨[], if atE t.ids.length s.f3 = 0 then partsT t s.f3.toNat else [], z40, false, atE t.ids.length s.f3⟩) := by
  have hg : ¬ (s.f0 < 1 ∨ 4 < s.f0) := by omega
  unfold goT
  rw [if_neg hg]
  rcases colE_cases t s.f3 s.f4 with ⟨h2, h3, _⟩ | ⟨h2, h3, _⟩
  · rw [h3, if_pos h2, if_neg (by decide)]
    rfl
  · rw [h3, if_neg h2, if_pos h1, if_pos rfl]
theorem goT_drop {t : TabS} {s : Step_} (h1 : s.f0 = 4) : goT t s = (if atE t.ids.length s.f3 = 0 then dropT t s.f3.toNat else t, ⟨[], [], dropId t s.f3, dropOk t s.f3, atE t.ids.length s.f3⟩) := by
  have hg : ¬ (s.f0 < 1 ∨ 4 < s.f0) := by omega
  have n3 : ¬ s.f0 = 3 := by omega
  unfold goT dropId dropOk
  rw [if_neg hg]
  rcases colE_cases t s.f3 s.f4 with ⟨h2, h3, _⟩ | ⟨h2, h3, _⟩
  · simp only [h3]
    rw [if_pos h2]
    rfl
  · simp only [h3]
    rw [if_neg h2, if_neg n3, if_pos h1]
    by_cases h4 : s.f3.toNat = t.ids.length - 1
    · simp [h4, dropV, errT]
    · simp [h4, dropV]

end Go.Proofs.YtnhejenjpomhdaaDoor.TRows
