/- Plain laws: what the printed functions of the references answer. -/
import Derived.Test.YtnhejenjpomhdaaDoorTbTRows
namespace Go.Proofs.YtnhejenjpomhdaaDoor.TRows
open Go.RowKit Go.Proofs.YtnhejenjpomhdaaDoorW.PrintWords Go.Proofs.YtnhejenjpomhdaaDoorW.PrintLast Go.Proofs.YtnhejenjpomhdaaDoorW.PrintMore Go.Proofs.YtnhejenjpomhdaaDoor.Mem Go.Proofs.YtnhejenjpomhdaaDoor.Col Go.Proofs.YtnhejenjpomhdaaDoor.Bits Go.Proofs.YtnhejenjpomhdaaDoor.Data Go.Proofs.YtnhejenjpomhdaaDoor.Mp Go.Proofs.YtnhejenjpomhdaaDoor.Tab Go.Proofs.YtnhejenjpomhdaaDoor.Ref Go.Proofs.YtnhejenjpomhdaaDoor.PTableLoads
set_option linter.unusedVariables false
set_option linter.unusedSimpArgs false

theorem w64 {i : Nat} (h : i < 9223372036854775807) : wrap64 ((i : Int) + 1) = ((i + 1 : Nat) : Int) := by unfold wrap64; omega

/-! same -/
theorem same_self (l : List Int) : vivariumref01_Same.f l l = some true := by simp [vivariumref01_Same.f]
theorem parts_self_l (l : List Part_) (hl : l.length ≤ 9223372036854775807) : ∀ k i : Nat, i ≤ l.length → l.length - i < k → vivariumref09_SameParts.l0 k l l (i : Int) = some true
  | 0, i, _, h => by omega
  | k + 1, i, hi, h => by
    unfold vivariumref09_SameParts.l0
    by_cases hlt : i < l.length
    · rw [if_pos (by omega), if_pos (by omega), if_pos (by omega), if_pos rfl, same_self, Option.bind_some, if_pos rfl, w64 (by omega)]
      exact parts_self_l l hl k (i + 1) (by omega) (by omega)
    · rw [if_neg (by omega)]
theorem parts_self (l : List Part_) (hl : l.length ≤ 9223372036854775807) {k : Nat} (hk : l.length < k) : vivariumref09_SameParts.f k l l = some true := by
  unfold vivariumref09_SameParts.f
  rw [if_pos rfl]
  exact parts_self_l l hl k 0 (Nat.zero_le _) (by omega)
theorem ids_self_l (l : List ID_) (hl : l.length ≤ 9223372036854775807) : ∀ k i : Nat, i ≤ l.length → l.length - i < k → vivariumref09_SameIDs.l0 k l l (i : Int) = some true
  | 0, i, _, h => by omega
  | k + 1, i, hi, h => by
    unfold vivariumref09_SameIDs.l0
    by_cases hlt : i < l.length
    · rw [if_pos (by omega), if_pos (by omega), if_pos (by omega), if_neg (by simp), w64 (by omega)]
      exact ids_self_l l hl k (i + 1) (by omega) (by omega)
    · rw [if_neg (by omega)]
theorem ids_self (l : List ID_) (hl : l.length ≤ 9223372036854775807) {k : Nat} (hk : l.length < k) : vivariumref09_SameIDs.f k l l = some true := by
  unfold vivariumref09_SameIDs.f
  rw [if_pos rfl]
  exact ids_self_l l hl k 0 (Nat.zero_le _) (by omega)
/-! bits -/
theorem tdiv2 (x : Nat) (h : x < 18446744073709551616) : IntKind.u64.wrap (Int.tdiv (x : Int) 2) = ((x / 2 : Nat) : Int) := by
  rw [IntKind.wrap_u64, Int.tdiv_eq_ediv_of_nonneg (by omega)]
  omega
theorem tmod2 (x : Nat) : (Int.tmod (x : Int) 2 == 1) = decide (x % 2 = 1) := by
  rw [Int.tmod_eq_emod_of_nonneg (by omega), Bool.eq_iff_iff]
  simp
  omega
theorem has_l (s c : Nat) (hs : s < 18446744073709551616) (hc : c < 64) : ∀ k i : Nat, i ≤ c → c - i < k → vivariumref05_Has.l0 k ((s / 2 ^ i : Nat) : Int) (c : Int) (i : Int) = some (s.testBit c)
  | 0, i, _, h => by omega
  | k + 1, i, hi, h => by
    unfold vivariumref05_Has.l0
    by_cases hlt : i < c
    · have h1 : s / 2 ^ i < 18446744073709551616 := Nat.lt_of_le_of_lt (Nat.div_le_self _ _) hs
      have h2 : s / 2 ^ i / 2 = s / 2 ^ (i + 1) := by rw [Nat.div_div_eq_div_mul, Nat.pow_succ]
      rw [if_pos (by omega), tdiv2 _ h1, h2, w64 (by omega)]
      exact has_l s c hs hc k (i + 1) (by omega) (by omega)
    · obtain rfl : i = c := by omega
      rw [if_neg (by omega), tmod2, Nat.testBit_eq_decide_div_mod_eq]
theorem has_f (s c : Nat) (hs : s < 18446744073709551616) (hc : c < 64) {k : Nat} (hk : c + 1 < k) : vivariumref05_Has.f k (s : Int) (c : Int) = some (s.testBit c) := by
  obtain ⟨k, rfl⟩ : ∃ m, k = m + 1 := ⟨k - 1, by omega⟩
  have h1 : decide ((c : Int) > 63) = false := by simp; omega
  unfold vivariumref05_Has.f
  rw [if_neg (by omega), h1]
  rw [vivariumref05_Has.j0, if_neg (by simp)]
  have h2 := has_l s c hs hc k 0 (Nat.zero_le _) (by omega)
  rw [Nat.pow_zero, Nat.div_one] at h2
  exact h2
theorem rlist_l (s : Nat) (hs : s < 18446744073709551616) : ∀ k c : Nat, c ≤ 64 → 64 - c + 66 < k → vivariumref05_List.l0 k (s : Int) (((List.range c).filter fun i => s.testBit i).map fun i : Nat => (i : Int)) (c : Int) = some (bitsL s)
  | 0, c, _, h => by omega
  | k + 1, c, hi, h => by
    unfold vivariumref05_List.l0
    by_cases hlt : c < 64
    · have h1 : (((List.range c).filter fun i => s.testBit i).map fun i : Nat => (i : Int)).length ≤ 64 := by
        have := List.length_filter_le (fun i => s.testBit i) (List.range c)
        rw [List.length_range] at this
        rw [List.length_map]
        omega
      have h2 := rlist_l s hs k (c + 1) (by omega) (by omega)
      rw [List.range_succ, List.filter_append, List.map_append] at h2
      rw [if_pos (by omega), has_f s c hs hlt (by omega), Option.bind_some, w64 (by omega)]
      by_cases hb : s.testBit c = true
      · rw [if_pos hb, if_pos (by omega)]
        simpa [hb] using h2
      · rw [if_neg hb]
        simpa [hb] using h2
    · obtain rfl : c = 64 := by omega
      rw [if_neg (by omega)]
      rfl
theorem rlist_f (s : Nat) (hs : s < 18446744073709551616) {k : Nat} (hk : 130 < k) : vivariumref05_List.f k (s : Int) = some (bitsL s) := by
  unfold vivariumref05_List.f
  exact rlist_l s hs k 0 (by omega) (by omega)

/-! column -/
/-! ids -/
/-! of a table's content -/
/-! New -/
/-! Much -/
theorem cmuch_l (l : List S88) (a b c d : Int) (hl : l.length ≤ 9223372036854775807) : ∀ m i : Nat, m + i = l.length + 1 → ∃ r, vivariumref07_Much.l0 (2 * m + 2) (i : Int) a b c d l = some r ∧ (r = false → l.length ≤ 40)
  | 0, i, h => by
    refine ⟨decide ((l.length : Int) > 40), ?_, fun h => by simp at h; omega⟩
    simp only [vivariumref07_Much.l0]
    rw [if_neg (by omega)]
    simp only [vivariumref07_Much.j1]
    simp
  | m + 1, i, h => by
    by_cases hlt : (i : Int) < (l.length : Int)
    · by_cases h50 : (i : Int) < 50
      · obtain ⟨r, hr, hr2⟩ := cmuch_l l a b c d hl m (i + 1) (by omega)
        by_cases hb : ((rd_T88 l (i : Int)).f0.size : Int) > 100
        · refine ⟨true, ?_, fun h => by cases h⟩
          show vivariumref07_Much.l0 (2 * m + 3 + 1) (i : Int) a b c d l = _
          simp only [vivariumref07_Much.l0]
          rw [if_pos hlt]
          show vivariumref07_Much.j1 (2 * m + 2 + 1) _ _ _ _ _ _ _ = _
          simp only [vivariumref07_Much.j1]
          rw [if_pos (by simpa using h50), if_pos (by omega), if_pos hlt, if_pos hb]
        · refine ⟨r, ?_, hr2⟩
          show vivariumref07_Much.l0 (2 * m + 3 + 1) (i : Int) a b c d l = _
          simp only [vivariumref07_Much.l0]
          rw [if_pos hlt]
          show vivariumref07_Much.j1 (2 * m + 2 + 1) _ _ _ _ _ _ _ = _
          simp only [vivariumref07_Much.j1]
          rw [if_pos (by simpa using h50), if_pos (by omega), if_pos hlt, if_neg hb, w64 (by omega)]
          exact hr
      · refine ⟨decide ((l.length : Int) > 40), ?_, fun h => by simp at h; omega⟩
        show vivariumref07_Much.l0 (2 * m + 3 + 1) (i : Int) a b c d l = _
        simp only [vivariumref07_Much.l0]
        rw [if_pos hlt]
        show vivariumref07_Much.j1 (2 * m + 2 + 1) _ _ _ _ _ _ _ = _
        simp only [vivariumref07_Much.j1]
        rw [if_neg (by simpa using h50)]
    · refine ⟨decide ((l.length : Int) > 40), ?_, fun h => by simp at h; omega⟩
      show vivariumref07_Much.l0 (2 * m + 3 + 1) (i : Int) a b c d l = _
      simp only [vivariumref07_Much.l0]
      rw [if_neg hlt]
      show vivariumref07_Much.j1 (2 * m + 2 + 1) _ _ _ _ _ _ _ = _
      simp only [vivariumref07_Much.j1]
      simp
theorem cmuch (l : List S88) (a b c d : Int) (hl : l.length ≤ 9223372036854775807) : ∃ k r, vivariumref07_Much.f k a b c d l = some r ∧ (r = false → l.length ≤ 40) := by
  obtain ⟨r, h1, h2⟩ := cmuch_l l a b c d hl (l.length + 1) 0 (by omega)
  exact ⟨_, r, h1, h2⟩
theorem smuch_l1 (l : List S45) (i : Nat) (hi : i < l.length) (hp : (rd_T45 l (i : Int)).f2.length ≤ 9223372036854775807) (hn : ∃ k r, vivariumref09_Much.l0 k l (wrap64 ((i : Int) + 1)) = some r) : ∀ (m j : Nat) (x : Int), j + m = (rd_T45 l (i : Int)).f2.length → ∃ k r, vivariumref09_Much.l1 k l (i : Int) x (j : Int) = some r
  | 0, j, x, h => by
    obtain ⟨k, r, hk⟩ := hn
    by_cases hx : x > 1000
    · refine ⟨k + 1, true, ?_⟩
      simp only [vivariumref09_Much.l1]
      rw [if_pos (by omega), if_pos (by omega), if_neg (by omega), if_pos hx]
    · refine ⟨k + 1, r, ?_⟩
      simp only [vivariumref09_Much.l1]
      rw [if_pos (by omega), if_pos (by omega), if_neg (by omega), if_neg hx]
      exact hk
  | m + 1, j, x, h => by
    by_cases hx : wrap64 (x + ((rd_T90 (rd_T45 l (i : Int)).f2 (j : Int)).f1.length : Int)) > 1000
    · refine ⟨1, true, ?_⟩
      simp only [vivariumref09_Much.l1]
      rw [if_pos (by omega), if_pos (by omega), if_pos (by omega), if_pos (by omega), if_pos hx]
    · obtain ⟨k, r, hk⟩ := smuch_l1 l i hi hp hn m (j + 1) (wrap64 (x + ((rd_T90 (rd_T45 l (i : Int)).f2 (j : Int)).f1.length : Int))) (by omega)
      refine ⟨k + 1, r, ?_⟩
      simp only [vivariumref09_Much.l1]
      rw [if_pos (by omega), if_pos (by omega), if_pos (by omega), if_pos (by omega), if_neg hx, w64 (by omega)]
      exact hk
theorem smuch_l0 (l : List S45) (hl : l.length ≤ 9223372036854775807) (hp : ∀ s, s ∈ l → s.f2.length ≤ 9223372036854775807) : ∀ m i : Nat, i + m = l.length → ∃ k r, vivariumref09_Much.l0 k l (i : Int) = some r
  | 0, i, h => by
    refine ⟨2, decide ((l.length : Int) > 60), ?_⟩
    simp only [vivariumref09_Much.l0]
    rw [if_neg (by omega)]
    simp only [vivariumref09_Much.j1]
    rw [if_neg (by simp)]
  | m + 1, i, h => by
    by_cases h100 : (i : Int) < 100
    · have hlt : i < l.length := by omega
      have hpp : (rd_T45 l (i : Int)).f2.length ≤ 9223372036854775807 := by
        refine hp _ ?_
        simp [rd_T45, List.getD_eq_getElem?_getD, List.getElem?_eq_getElem hlt]
      by_cases h40 : ((rd_T45 l (i : Int)).f2.length : Int) > 40
      · refine ⟨2, true, ?_⟩
        simp only [vivariumref09_Much.l0]
        rw [if_pos (by omega)]
        simp only [vivariumref09_Much.j1]
        rw [if_pos (by simpa using h100), if_pos (by omega), if_pos (by omega), if_pos h40]
      · obtain ⟨k, r, hk⟩ := smuch_l1 l i hlt hpp (by rw [w64 (by omega)]; exact smuch_l0 l hl hp m (i + 1) (by omega)) (rd_T45 l (i : Int)).f2.length 0 ((rd_T45 l (i : Int)).f5.length : Int) (by omega)
        refine ⟨k + 2, r, ?_⟩
        show vivariumref09_Much.l0 (k + 1 + 1) l (i : Int) = _
        simp only [vivariumref09_Much.l0]
        rw [if_pos (by omega)]
        simp only [vivariumref09_Much.j1]
        rw [if_pos (by simpa using h100), if_pos (by omega), if_pos (by omega), if_neg h40]
        exact hk
    · refine ⟨2, decide ((l.length : Int) > 60), ?_⟩
      simp only [vivariumref09_Much.l0]
      rw [if_pos (by omega)]
      simp only [vivariumref09_Much.j1]
      rw [if_neg (by simpa using h100)]
theorem smuch (l : List S45) (hl : l.length ≤ 9223372036854775807) (hp : ∀ s, s ∈ l → s.f2.length ≤ 9223372036854775807) : ∃ k r, vivariumref09_Much.f k l = some r := smuch_l0 l hl hp l.length 0 (by omega)

end Go.Proofs.YtnhejenjpomhdaaDoor.TRows
