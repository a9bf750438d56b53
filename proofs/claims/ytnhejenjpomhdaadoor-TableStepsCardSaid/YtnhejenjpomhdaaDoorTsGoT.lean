/- The reference's Go, all cases in one: over a table's content. -/
import Derived.Test.YtnhejenjpomhdaaDoorTsGo
import Derived.Test.YtnhejenjpomhdaaDoorTsPlain
namespace Go.Proofs.YtnhejenjpomhdaaDoor.TRows
open Go.RowKit Go.Proofs.YtnhejenjpomhdaaDoorW.PrintWords Go.Proofs.YtnhejenjpomhdaaDoorW.PrintLast Go.Proofs.YtnhejenjpomhdaaDoorW.PrintMore Go.Proofs.YtnhejenjpomhdaaDoor.Mem Go.Proofs.YtnhejenjpomhdaaDoor.Col Go.Proofs.YtnhejenjpomhdaaDoor.Bits Go.Proofs.YtnhejenjpomhdaaDoor.Data Go.Proofs.YtnhejenjpomhdaaDoor.Mp Go.Proofs.YtnhejenjpomhdaaDoor.Tab Go.Proofs.YtnhejenjpomhdaaDoor.Ref Go.Proofs.YtnhejenjpomhdaaDoor.PTableLoads
set_option linter.unusedVariables false
set_option linter.unusedSimpArgs false

abbrev Step_ := S45
open Classical in
/-- What a step makes of a table's content, and what it tells. -/
noncomputable def goT (t : TabS) (s : Step_) : TabS × ToldS :=
  if s.f0 < 1 ∨ 4 < s.f0 then (addT' t s.f1 s.f2, errT (taddE t s.f2))
  else if s.f3 < 0 ∨ (t.ids.length : Int) ≤ s.f3 then (t, errT 2)
  else if s.f0 = 3 then (t, ⟨[], partsT t s.f3.toNat, z40, false, 0⟩)
  else if s.f0 = 4 then (dropT t s.f3.toNat, if s.f3.toNat = t.ids.length - 1 then errT 0 else ⟨[], [], t.ids.getD (t.ids.length - 1) z40, true, 0⟩)
  else if s.f4 ∉ bitsL t.sig then (t, errT 8)
  else if s.f0 = 2 then (t, ⟨rowB (t.cb s.f4.toNat) s.f3.toNat (t.cz s.f4.toNat), [], z40, false, 0⟩)
  else if s.f5.length ≠ t.cz s.f4.toNat then (t, errT 7)
  else (setT t s.f3 s.f4 s.f5, errT 0)

/-- The reference's table, with the content of t. -/
def IsRefT (W : World) (ok : Nat → Prop) (v : Value) (t : TabS) : Prop := ∃ A0 c0 A1 c1 A2 c2, v = .agg #[.slice A0 (bitsL t.sig).length c0, .slice A1 (bitsL t.sig).length c1, .slice A2 (rowsT t).length c2] ∧ (bitsL t.sig).length ≤ c0 ∧ (bitsL t.sig).length ≤ c1 ∧ (rowsT t).length ≤ c2 ∧
  Kd.F (Kd.int .i64) W ok A0 (bitsL t.sig).length (bitsL t.sig) ∧ Kd.F (Kd.int .i64) W ok A1 (bitsL t.sig).length ((bitsL t.sig).map fun k => (zT t k : Int)) ∧ Kd.F k100 W ok A2 (rowsT t).length (rowsT t)

theorem go_sig (t : TabS) (s : Step_) : (goT t s).1.sig = t.sig ∧ (goT t s).1.cz = t.cz := by
  unfold goT
  by_cases h1 : s.f0 < 1 ∨ 4 < s.f0
  · rw [if_pos h1]
    show (addT' t s.f1 s.f2).sig = _ ∧ (addT' t s.f1 s.f2).cz = _
    unfold addT'
    split <;> exact ⟨rfl, rfl⟩
  rw [if_neg h1]
  by_cases h2 : s.f3 < 0 ∨ (t.ids.length : Int) ≤ s.f3
  · rw [if_pos h2]; exact ⟨rfl, rfl⟩
  rw [if_neg h2]
  by_cases h3 : s.f0 = 3
  · rw [if_pos h3]; exact ⟨rfl, rfl⟩
  rw [if_neg h3]
  by_cases h4 : s.f0 = 4
  · rw [if_pos h4]; exact ⟨rfl, rfl⟩
  rw [if_neg h4]
  by_cases h5 : s.f4 ∉ bitsL t.sig
  · rw [if_pos h5]; exact ⟨rfl, rfl⟩
  rw [if_neg h5]
  by_cases h6 : s.f0 = 2
  · rw [if_pos h6]; exact ⟨rfl, rfl⟩
  rw [if_neg h6]
  by_cases h7 : s.f5.length ≠ t.cz s.f4.toNat
  · rw [if_pos h7]; exact ⟨rfl, rfl⟩
  rw [if_neg h7]
  exact ⟨rfl, rfl⟩

theorem atE_zero {n : Nat} {i : Int} : atE n i = 0 ↔ ¬ (i < 0 ∨ (n : Int) ≤ i) := by
  unfold atE
  by_cases h : i < 0 ∨ (n : Int) ≤ i
  · rw [if_pos h]
    exact ⟨fun h' => absurd h' (by decide), fun h' => absurd h h'⟩
  · rw [if_neg h]
    exact ⟨fun _ => h, fun _ => rfl⟩
theorem colE_cases (t : TabS) (row k : Int) : (row < 0 ∨ (t.ids.length : Int) ≤ row) ∧ atE t.ids.length row = 2 ∧ colE t row k = 2 ∨ ¬ (row < 0 ∨ (t.ids.length : Int) ≤ row) ∧ atE t.ids.length row = 0 ∧ (k ∉ bitsL t.sig ∧ colE t row k = 8 ∨ k ∈ bitsL t.sig ∧ colE t row k = 0) := by
  by_cases h2 : row < 0 ∨ (t.ids.length : Int) ≤ row
  · have h3 : atE t.ids.length row ≠ 0 := fun e => atE_zero.1 e h2
    exact .inl ⟨h2, at_two h3, by unfold colE; rw [if_pos h3]⟩
  · have h3 : atE t.ids.length row = 0 := atE_zero.2 h2
    refine .inr ⟨h2, h3, ?_⟩
    unfold colE
    rw [if_neg (fun h => h h3)]
    by_cases h4 : k ∈ bitsL t.sig
    · exact .inr ⟨h4, if_pos h4⟩
    · exact .inl ⟨h4, if_neg h4⟩
theorem goT_set {t : TabS} {s : Step_} (h1 : s.f0 = 1) : (tsetE t s.f3 s.f4 s.f5.length ≠ 0 ∧ goT t s = (t, errT (tsetE t s.f3 s.f4 s.f5.length))) ∨ (tsetE t s.f3 s.f4 s.f5.length = 0 ∧ goT t s = (setT t s.f3 s.f4 s.f5, errT (tsetE t s.f3 s.f4 s.f5.length))) := by
  have hg : ¬ (s.f0 < 1 ∨ 4 < s.f0) := by omega
  have n3 : ¬ s.f0 = 3 := by omega
  have n4 : ¬ s.f0 = 4 := by omega
  have n2 : ¬ s.f0 = 2 := by omega
  rcases colE_cases t s.f3 s.f4 with ⟨h2, h3, h4⟩ | ⟨h2, h3, ⟨h4, h5⟩ | ⟨h4, h5⟩⟩
  · have e : tsetE t s.f3 s.f4 s.f5.length = 2 := by simp [tsetE, h4]
    refine .inl ⟨by rw [e]; decide, ?_⟩
    unfold goT
    rw [if_neg hg, if_pos h2, e]
  · have e : tsetE t s.f3 s.f4 s.f5.length = 8 := by simp [tsetE, h5]
    refine .inl ⟨by rw [e]; decide, ?_⟩
    unfold goT
    rw [if_neg hg, if_neg h2, if_neg n3, if_neg n4, if_pos h4, e]
  · by_cases h6 : s.f5.length = t.cz s.f4.toNat
    · have e : tsetE t s.f3 s.f4 s.f5.length = 0 := by simp [tsetE, h5, h6]
      refine .inr ⟨e, ?_⟩
      unfold goT
      rw [if_neg hg, if_neg h2, if_neg n3, if_neg n4, if_neg (fun h => h h4), if_neg n2, if_neg (fun h => h h6), e]
    · have e : tsetE t s.f3 s.f4 s.f5.length = 7 := by simp [tsetE, h5, h6]
      refine .inl ⟨by rw [e]; decide, ?_⟩
      unfold goT
      rw [if_neg hg, if_neg h2, if_neg n3, if_neg n4, if_neg (fun h => h h4), if_neg n2, if_pos h6, e]
theorem goT_get {t : TabS} {s : Step_} (h1 : s.f0 = 2) : goT t s = (t, ⟨if colE t s.f3 s.f4 = 0 then rowB (t.cb s.f4.toNat) s.f3.toNat (t.cz s.f4.toNat) else [], [], z40, false, colE t s.f3 s.f4⟩) := by
  have hg : ¬ (s.f0 < 1 ∨ 4 < s.f0) := by omega
  have n3 : ¬ s.f0 = 3 := by omega
  have n4 : ¬ s.f0 = 4 := by omega
  unfold goT
  rw [if_neg hg]
  rcases colE_cases t s.f3 s.f4 with ⟨h2, h3, h4⟩ | ⟨h2, h3, ⟨h4, h5⟩ | ⟨h4, h5⟩⟩
  · rw [h4, if_pos h2, if_neg (by decide)]
    rfl
  · rw [h5, if_neg h2, if_neg n3, if_neg n4, if_pos h4, if_neg (by decide)]
    rfl
  · rw [h5, if_neg h2, if_neg n3, if_neg n4, if_neg (fun h => h h4), if_pos h1, if_pos rfl]
theorem goT_parts {t : TabS} {s : Step_} (h1 : s.f0 = 3) : goT t s = (t, ⟨[], if atE t.ids.length s.f3 = 0 then partsT t s.f3.toNat else [], z40, false, atE t.ids.length s.f3⟩) := by
  have hg : ¬ (s.f0 < 1 ∨ 4 < s.f0) := by omega
  unfold goT
  rw [if_neg hg]
  rcases colE_cases t s.f3 s.f4 with ⟨h2, h3, _⟩ | ⟨h2, h3, _⟩
  · rw [h3, if_pos h2, if_neg (by decide)]
    rfl
  · rw [h3, if_neg h2, if_pos h1, if_pos rfl]
theorem goT_drop {t : TabS} {s : Step_} (h1 : s.f0 = 4) : goT t s = (if atE t.ids.length s.f3 = 0 then dropT t s.f3.toNat else t, ⟨[], [], dropId t s.f3, dropOk t s.f3, atE t.ids.length s.f3⟩) := by
  have hg : ¬ (s.f0 < 1 ∨ 4 < s.f0) := by omega
  have n3 : ¬ s.f0 = 3 := by omega
  unfold goT dropId dropOk
  rw [if_neg hg]
  rcases colE_cases t s.f3 s.f4 with ⟨h2, h3, _⟩ | ⟨h2, h3, _⟩
  · simp only [h3]
    rw [if_pos h2]
    rfl
  · simp only [h3]
    rw [if_neg h2, if_neg n3, if_pos h1]
    by_cases h4 : s.f3.toNat = t.ids.length - 1
    · simp [h4, dropV, errT]
    · simp [h4, dropV]

/-- What Go leaves, over contents. -/
def GoTold (W : World) (ok : Nat → Prop) (r : TabS × ToldS) (e : Ending) (w' : World) : Prop :=
  ∃ v' tv, e = .returned (.tuple #[v', tv]) ∧ IsRefT w' (fun k => (ok k ∧ k < W.heap.size) ∨ W.heap.size ≤ k) v' r.1 ∧ IsTold w' (fun k => (ok k ∧ k < W.heap.size) ∨ W.heap.size ≤ k) tv r.2 ∧ Below W.heap.size W w'
theorem go_told {W w' : World} {ok : Nat → Prop} {A0 A1 : Option Addr} {c0 c1 : Nat} {t : TabS} {r : TabS × ToldS} {rows' : List Ent_} {td : ToldS} {e : Ending} (l0 : (bitsL t.sig).length ≤ c0) (l1 : (bitsL t.sig).length ≤ c1) (h : GoPost W ok A0 c0 A1 c1 (bitsL t.sig).length rows' td e w')
    (H0 : Kd.F (Kd.int .i64) W ok A0 (bitsL t.sig).length (bitsL t.sig)) (H1 : Kd.F (Kd.int .i64) W ok A1 (bitsL t.sig).length ((bitsL t.sig).map fun k => (zT t k : Int))) (hr : r.1.sig = t.sig ∧ r.1.cz = t.cz) (h1 : rows' = rowsT r.1) (h2 : td = r.2) : GoTold W ok r e w' := by
  subst h1
  subst h2
  obtain ⟨A2', c2', v, he, hl, hF, hT, hB⟩ := h
  have hz : zT r.1 = zT t := by funext k; unfold zT; rw [hr.2]
  have g0 := Kd.F_mono (Kd.F_step (Kd.F_bound H0) (fun k hk hlt => hB.block k hlt)) (ok' := fun k => (ok k ∧ k < W.heap.size) ∨ W.heap.size ≤ k) (fun k hk => .inl hk)
  have g1 := Kd.F_mono (Kd.F_step (Kd.F_bound H1) (fun k hk hlt => hB.block k hlt)) (ok' := fun k => (ok k ∧ k < W.heap.size) ∨ W.heap.size ≤ k) (fun k hk => .inl hk)
  refine ⟨_, v, he, ⟨A0, c0, A1, c1, A2', c2', ?_, by rw [hr.1]; exact l0, by rw [hr.1]; exact l1, hl, ?_, ?_, hF⟩, hT, hB⟩
  · rw [hr.1]
  · rw [hr.1]; exact g0
  · rw [hr.1, hz]; exact g1

theorem rgo_calls {W : World} {ok : Nat → Prop} {t : TabS} {v : Value} (hW : WfT t) (hR : IsRefT W ok v t) (s : Step_) (AP : Option Addr) (cP : Nat) (HP : Kd.F k90 W ok AP s.f2.length s.f2) (AD : Option Addr) (cD : Nat) (HD : Kd.F (Kd.int .u8) W ok AD s.f5.length s.f5) (lD : s.f5.length ≤ cD) :
    Calls Tryd.prog 13 #[v, .agg #[.int .i64 s.f0, .int .i64 s.f1.f0, .int .i64 s.f1.f1, .slice AP s.f2.length cP, .int .i64 s.f3, .int .i64 s.f4, .slice AD s.f5.length cD]] W (GoTold W ok (goT t s)) := by
  obtain ⟨A0, c0, A1, c1, A2, c2, rfl, l0, l1, l2, H0, H1, H2⟩ := hR
  have hcs := bitsL_length t.sig
  have hr : (rowsT t).length ≤ 1024 := by rw [rowsT_length]; exact hW.n
  have hgs := go_sig t s
  have hln := rowsT_length t
  by_cases h1 : s.f0 < 1 ∨ 4 < s.f0
  · refine (rgo_add (bitsL t.sig) (zT t) (zT_le t) (rowsT t) A0 c0 A1 c1 A2 c2 hcs hr l2 (rowsT_wf t) H0 H1 H2 s.f0 s.f3 s.f4 s.f1 s.f2 AP cP HP s.f5 AD cD HD lD h1).mono (fun e w' h => go_told l0 l1 h H0 H1 hgs ?_ ?_)
    · unfold goT; rw [if_pos h1]; exact addR_same hW s.f1 s.f2
    · unfold goT; rw [if_pos h1, addE_same hW]
  by_cases h2 : s.f3 < 0 ∨ (t.ids.length : Int) ≤ s.f3
  · refine (rgo_range (bitsL t.sig) (zT t) (zT_le t) (rowsT t) A0 c0 A1 c1 A2 c2 hcs hr l2 (rowsT_wf t) H0 H1 H2 s.f0 s.f3 s.f4 s.f1 s.f2 AP cP HP s.f5 AD cD HD lD (by omega) (by omega) (by rw [hln]; exact h2)).mono (fun e w' h => go_told l0 l1 h H0 H1 hgs ?_ ?_)
    · unfold goT; rw [if_neg h1, if_pos h2]
    · unfold goT; rw [if_neg h1, if_pos h2]
  obtain ⟨row, hrow⟩ := Int.eq_ofNat_of_zero_le (show 0 ≤ s.f3 by omega)
  have hrl : row < t.ids.length := by omega
  have hrn : s.f3.toNat = row := by rw [hrow, Int.toNat_natCast]
  by_cases h3 : s.f0 = 3
  · refine (rgo_parts (bitsL t.sig) (zT t) (zT_le t) (rowsT t) A0 c0 A1 c1 A2 c2 hcs hr l2 (rowsT_wf t) H0 H1 H2 s.f0 s.f3 s.f4 s.f1 s.f2 AP cP HP s.f5 AD cD HD lD h3 (by omega) (by rw [hln]; omega)).mono (fun e w' h => go_told l0 l1 h H0 H1 hgs ?_ ?_)
    · unfold goT; rw [if_neg h1, if_neg h2, if_pos h3]
    · unfold goT; rw [if_neg h1, if_neg h2, if_pos h3, hrn, rowsT_getD hrl]; rfl
  by_cases h4 : s.f0 = 4
  · refine (rgo_drop (bitsL t.sig) (zT t) (zT_le t) (rowsT t) A0 c0 A1 c1 A2 c2 hcs hr l2 (rowsT_wf t) H0 H1 H2 s.f0 s.f3 s.f4 s.f1 s.f2 AP cP HP s.f5 AD cD HD lD h4 (by omega) (by rw [hln]; omega)).mono (fun e w' h => go_told l0 l1 h H0 H1 hgs ?_ ?_)
    · unfold goT; rw [if_neg h1, if_neg h2, if_neg h3, if_pos h4, hrn, rowsT_drop hW hrl]
    · unfold goT
      rw [if_neg h1, if_neg h2, if_neg h3, if_pos h4, hrn, hln, rowsT_getD (by omega)]
      rfl
  by_cases h5 : s.f4 ∉ bitsL t.sig
  · refine (rgo_none (bitsL t.sig) (zT t) (zT_le t) (rowsT t) A0 c0 A1 c1 A2 c2 hcs hr l2 (rowsT_wf t) H0 H1 H2 s.f0 s.f3 s.f4 s.f1 s.f2 AP cP HP s.f5 AD cD HD lD (by omega) (by omega) (by rw [hln]; omega) h5).mono (fun e w' h => go_told l0 l1 h H0 H1 hgs ?_ ?_)
    · unfold goT; rw [if_neg h1, if_neg h2, if_neg h3, if_neg h4, if_pos h5]
    · unfold goT; rw [if_neg h1, if_neg h2, if_neg h3, if_neg h4, if_pos h5]
  obtain ⟨j, hj1, hj2, hj3, hj4⟩ := first_at (Decidable.not_not.1 h5)
  obtain ⟨k, hk, hkn⟩ := mem_bitsL.1 (Decidable.not_not.1 h5)
  have hkt : s.f4.toNat = k := by rw [hk, Int.toNat_natCast]
  have hj3' : (bitsL t.sig)[j]? = some (k : Int) := by rw [hj3, hk]
  by_cases h6 : s.f0 = 2
  · refine (rgo_get (bitsL t.sig) (zT t) (zT_le t) (rowsT t) A0 c0 A1 c1 A2 c2 hcs hr l2 (rowsT_wf t) H0 H1 H2 s.f0 s.f3 s.f4 s.f1 s.f2 AP cP HP s.f5 AD cD HD lD h6 (by omega) (by rw [hln]; omega) j hj1 hj2 hj4).mono (fun e w' h => go_told l0 l1 h H0 H1 hgs ?_ ?_)
    · unfold goT; rw [if_neg h1, if_neg h2, if_neg h3, if_neg h4, if_neg h5, if_pos h6]
    · unfold goT; rw [if_neg h1, if_neg h2, if_neg h3, if_neg h4, if_neg h5, if_pos h6, hrn, hkt, rowT_get hj3' hrl]
  have hzt : zT t s.f4 = t.cz s.f4.toNat := by rw [hk, zT_eq hW hkn, Int.toNat_natCast]
  by_cases h7 : s.f5.length ≠ t.cz s.f4.toNat
  · refine (rgo_size (bitsL t.sig) (zT t) (zT_le t) (rowsT t) A0 c0 A1 c1 A2 c2 hcs hr l2 (rowsT_wf t) H0 H1 H2 s.f0 s.f3 s.f4 s.f1 s.f2 AP cP HP s.f5 AD cD HD lD (by omega) (by omega) (by rw [hln]; omega) j hj1 hj2 hj4 (by rw [hzt]; exact h7)).mono (fun e w' h => go_told l0 l1 h H0 H1 hgs ?_ ?_)
    · unfold goT; rw [if_neg h1, if_neg h2, if_neg h3, if_neg h4, if_neg h5, if_neg h6, if_pos h7]
    · unfold goT; rw [if_neg h1, if_neg h2, if_neg h3, if_neg h4, if_neg h5, if_neg h6, if_pos h7]
  · refine (rgo_set (bitsL t.sig) (zT t) (zT_le t) (rowsT t) A0 c0 A1 c1 A2 c2 hcs hr l2 (rowsT_wf t) H0 H1 H2 s.f0 s.f3 s.f4 s.f1 s.f2 AP cP HP s.f5 AD cD HD lD (by omega) (by omega) (by rw [hln]; omega) j hj1 hj2 hj4 (by rw [hzt]; exact Decidable.not_not.1 h7)).mono (fun e w' h => go_told l0 l1 h H0 H1 hgs ?_ ?_)
    · unfold goT
      rw [if_neg h1, if_neg h2, if_neg h3, if_neg h4, if_neg h5, if_neg h6, if_neg h7, hrn]
      show _ = rowsT (setT t s.f3 s.f4 s.f5)
      rw [hk] at h7 ⊢
      rw [hrow, rowsT_set hW hkn hrl (by rw [Int.toNat_natCast] at h7; exact Decidable.not_not.1 h7) hj3']
    · unfold goT; rw [if_neg h1, if_neg h2, if_neg h3, if_neg h4, if_neg h5, if_neg h6, if_neg h7]

end Go.Proofs.YtnhejenjpomhdaaDoor.TRows
