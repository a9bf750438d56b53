/- Plain laws: what the printed functions of the references answer. -/
import Derived.Test.YtnhejenjpomhdaaDoorTsTRows
namespace Go.Proofs.YtnhejenjpomhdaaDoor.TRows
open Go.RowKit Go.Proofs.YtnhejenjpomhdaaDoorW.PrintWords Go.Proofs.YtnhejenjpomhdaaDoorW.PrintLast Go.Proofs.YtnhejenjpomhdaaDoorW.PrintMore Go.Proofs.YtnhejenjpomhdaaDoor.Mem Go.Proofs.YtnhejenjpomhdaaDoor.Col Go.Proofs.YtnhejenjpomhdaaDoor.Bits Go.Proofs.YtnhejenjpomhdaaDoor.Data Go.Proofs.YtnhejenjpomhdaaDoor.Mp Go.Proofs.YtnhejenjpomhdaaDoor.Tab Go.Proofs.YtnhejenjpomhdaaDoor.Ref Go.Proofs.YtnhejenjpomhdaaDoor.PTableLoads
set_option linter.unusedVariables false
set_option linter.unusedSimpArgs false

theorem w64 {i : Nat} (h : i < 9223372036854775807) : wrap64 ((i : Int) + 1) = ((i + 1 : Nat) : Int) := by unfold wrap64; omega

/-! same -/
theorem same_self (l : List Int) : vivariumref01_Same.f l l = some true := by simp [vivariumref01_Same.f]
theorem parts_self_l (l : List Part_) (hl : l.length ≤ 9223372036854775807) : ∀ k i : Nat, i ≤ l.length → l.length - i < k → vivariumref09_SameParts.l0 k l l (i : Int) = some true
  | 0, i, _, h => by omega
  | k + 1, i, hi, h => by
    unfold vivariumref09_SameParts.l0
    by_cases hlt : i < l.length
    · rw [if_pos (by omega), if_pos (by omega), if_pos (by omega), if_pos rfl, same_self, Option.bind_some, if_pos rfl, w64 (by omega)]
      exact parts_self_l l hl k (i + 1) (by omega) (by omega)
    · rw [if_neg (by omega)]
theorem parts_self (l : List Part_) (hl : l.length ≤ 9223372036854775807) {k : Nat} (hk : l.length < k) : vivariumref09_SameParts.f k l l = some true := by
  unfold vivariumref09_SameParts.f
  rw [if_pos rfl]
  exact parts_self_l l hl k 0 (Nat.zero_le _) (by omega)
theorem ids_self_l (l : List ID_) (hl : l.length ≤ 9223372036854775807) : ∀ k i : Nat, i ≤ l.length → l.length - i < k → vivariumref09_SameIDs.l0 k l l (i : Int) = some true
  | 0, i, _, h => by omega
  | k + 1, i, hi, h => by
    unfold vivariumref09_SameIDs.l0
    by_cases hlt : i < l.length
    · rw [if_pos (by omega), if_pos (by omega), if_pos (by omega), if_neg (by simp), w64 (by omega)]
      exact ids_self_l l hl k (i + 1) (by omega) (by omega)
    · rw [if_neg (by omega)]
theorem ids_self (l : List ID_) (hl : l.length ≤ 9223372036854775807) {k : Nat} (hk : l.length < k) : vivariumref09_SameIDs.f k l l = some true := by
  unfold vivariumref09_SameIDs.f
  rw [if_pos rfl]
  exact ids_self_l l hl k 0 (Nat.zero_le _) (by omega)
theorem told_self (d : List Int) (p : List Part_) (a b : Int) (c : Bool) (e : Int) (hl : p.length ≤ 9223372036854775807) {k : Nat} (hk : p.length < k) : vivariumref09_SameTold.f k d p a b c e d p a b c e = some true := by
  unfold vivariumref09_SameTold.f
  rw [same_self, Option.bind_some, if_pos rfl, parts_self p hl hk, Option.bind_some, if_pos rfl, if_pos (by simp), if_pos (by simp)]
  simp

/-! bits -/
theorem tdiv2 (x : Nat) (h : x < 18446744073709551616) : IntKind.u64.wrap (Int.tdiv (x : Int) 2) = ((x / 2 : Nat) : Int) := by
  rw [IntKind.wrap_u64, Int.tdiv_eq_ediv_of_nonneg (by omega)]
  omega
theorem tmod2 (x : Nat) : (Int.tmod (x : Int) 2 == 1) = decide (x % 2 = 1) := by
  rw [Int.tmod_eq_emod_of_nonneg (by omega), Bool.eq_iff_iff]
  simp
  omega
theorem has_l (s c : Nat) (hs : s < 18446744073709551616) (hc : c < 64) : ∀ k i : Nat, i ≤ c → c - i < k → vivariumref05_Has.l0 k ((s / 2 ^ i : Nat) : Int) (c : Int) (i : Int) = some (s.testBit c)
  | 0, i, _, h => by omega
  | k + 1, i, hi, h => by
    unfold vivariumref05_Has.l0
    by_cases hlt : i < c
    · have h1 : s / 2 ^ i < 18446744073709551616 := Nat.lt_of_le_of_lt (Nat.div_le_self _ _) hs
      have h2 : s / 2 ^ i / 2 = s / 2 ^ (i + 1) := by rw [Nat.div_div_eq_div_mul, Nat.pow_succ]
      rw [if_pos (by omega), tdiv2 _ h1, h2, w64 (by omega)]
      exact has_l s c hs hc k (i + 1) (by omega) (by omega)
    · obtain rfl : i = c := by omega
      rw [if_neg (by omega), tmod2, Nat.testBit_eq_decide_div_mod_eq]
theorem has_f (s c : Nat) (hs : s < 18446744073709551616) (hc : c < 64) {k : Nat} (hk : c + 1 < k) : vivariumref05_Has.f k (s : Int) (c : Int) = some (s.testBit c) := by
  obtain ⟨k, rfl⟩ : ∃ m, k = m + 1 := ⟨k - 1, by omega⟩
  have h1 : decide ((c : Int) > 63) = false := by simp; omega
  unfold vivariumref05_Has.f
  rw [if_neg (by omega), h1]
  rw [vivariumref05_Has.j0, if_neg (by simp)]
  have h2 := has_l s c hs hc k 0 (Nat.zero_le _) (by omega)
  rw [Nat.pow_zero, Nat.div_one] at h2
  exact h2
theorem rlist_l (s : Nat) (hs : s < 18446744073709551616) : ∀ k c : Nat, c ≤ 64 → 64 - c + 66 < k → vivariumref05_List.l0 k (s : Int) (((List.range c).filter fun i => s.testBit i).map fun i : Nat => (i : Int)) (c : Int) = some (bitsL s)
  | 0, c, _, h => by omega
  | k + 1, c, hi, h => by
    unfold vivariumref05_List.l0
    by_cases hlt : c < 64
    · have h1 : (((List.range c).filter fun i => s.testBit i).map fun i : Nat => (i : Int)).length ≤ 64 := by
        have := List.length_filter_le (fun i => s.testBit i) (List.range c)
        rw [List.length_range] at this
        rw [List.length_map]
        omega
      have h2 := rlist_l s hs k (c + 1) (by omega) (by omega)
      rw [List.range_succ, List.filter_append, List.map_append] at h2
      rw [if_pos (by omega), has_f s c hs hlt (by omega), Option.bind_some, w64 (by omega)]
      by_cases hb : s.testBit c = true
      · rw [if_pos hb, if_pos (by omega)]
        simpa [hb] using h2
      · rw [if_neg hb]
        simpa [hb] using h2
    · obtain rfl : c = 64 := by omega
      rw [if_neg (by omega)]
      rfl
theorem rlist_f (s : Nat) (hs : s < 18446744073709551616) {k : Nat} (hk : 130 < k) : vivariumref05_List.f k (s : Int) = some (bitsL s) := by
  unfold vivariumref05_List.f
  exact rlist_l s hs k 0 (by omega) (by omega)

theorem wrapu (x : Nat) (h : x < 18446744073709551616) : IntKind.u64.wrap (x : Int) = (x : Int) := by rw [IntKind.wrap_u64]; omega
theorem low_succ (s c : Nat) : s % 2 ^ (c + 1) = s % 2 ^ c + (if s.testBit c = true then 2 ^ c else 0) := by
  rw [Nat.mod_pow_succ, Nat.testBit_eq_decide_div_mod_eq]
  by_cases h : s / 2 ^ c % 2 = 1
  · rw [h, if_pos (by simp), Nat.mul_one]
  · have h0 : s / 2 ^ c % 2 = 0 := by omega
    rw [h0, if_neg (by simp), Nat.mul_zero]
/-- One round of 'Of': whether c is in l. -/
theorem of_l1 (l : List Int) (hl : l.length ≤ 64) (x3 x4 c : Nat) (hc : c < 64) (h3 : x3 + x4 < 18446744073709551616) (r : Int) (n : Nat) (hyes : (c : Int) ∈ l → ∀ k, n ≤ k → vivariumref05_Of.l0 k l ((x3 + x4 : Nat) : Int) (IntKind.u64.wrap ((x4 : Int) * 2)) ((c + 1 : Nat) : Int) = some r)
    (hno : (c : Int) ∉ l → ∀ k, n ≤ k → vivariumref05_Of.l0 k l (x3 : Int) (IntKind.u64.wrap ((x4 : Int) * 2)) ((c + 1 : Nat) : Int) = some r) : ∀ k i : Nat, i ≤ l.length → (∀ q, q < i → l[q]? ≠ some (c : Int)) → l.length - i + n < k → vivariumref05_Of.l1 k l (x3 : Int) (x4 : Int) (c : Int) (i : Int) = some r
  | 0, i, _, _, h => by omega
  | k + 1, i, hi, hq, h => by
    unfold vivariumref05_Of.l1
    by_cases hlt : i < l.length
    · have e1 : rd l (i : Int) = l[i] := by simp [rd, List.getD_eq_getElem?_getD, List.getElem?_eq_getElem hlt]
      rw [if_pos (by omega), if_pos (by omega), e1]
      by_cases hb : l[i] = (c : Int)
      · have h5 : IntKind.u64.wrap ((x3 : Int) + (x4 : Int)) = ((x3 + x4 : Nat) : Int) := by rw [← wrapu (x3 + x4) h3]; congr 1
        rw [if_pos hb, h5, w64 (by omega)]
        exact hyes (by rw [← hb]; exact List.getElem_mem hlt) k (by omega)
      · rw [if_neg hb, w64 (by omega)]
        refine of_l1 l hl x3 x4 c hc h3 r n hyes hno k (i + 1) (by omega) (fun q hq' => ?_) (by omega)
        by_cases hqi : q = i
        · subst hqi
          rw [List.getElem?_eq_getElem hlt]
          intro e
          exact hb (Option.some.inj e)
        · exact hq q (by omega)
    · rw [if_neg (by omega), w64 (by omega)]
      refine hno (fun hm => ?_) k (by omega)
      obtain ⟨q, hq1, hq2⟩ := List.mem_iff_getElem.1 hm
      exact hq q (by omega) (by rw [List.getElem?_eq_getElem hq1, hq2])
theorem of_l0 (s : Nat) (hs : s < 18446744073709551616) : ∀ m c : Nat, c + m = 64 → ∀ k x4, (c < 64 → x4 = ((2 ^ c : Nat) : Int)) → m * 70 < k → vivariumref05_Of.l0 k (bitsL s) ((s % 2 ^ c : Nat) : Int) x4 (c : Int) = some (s : Int)
  | 0, c, hc, k, x4, _, hk => by
    obtain rfl : c = 64 := by omega
    obtain ⟨k, rfl⟩ : ∃ m, k = m + 1 := ⟨k - 1, by omega⟩
    unfold vivariumref05_Of.l0
    rw [if_neg (by omega), Nat.mod_eq_of_lt (by simpa using hs)]
  | m + 1, c, hc, k, x4, h4, hk => by
    have hlt : c < 64 := by omega
    obtain ⟨k, rfl⟩ : ∃ m, k = m + 1 := ⟨k - 1, by omega⟩
    rw [h4 hlt]
    unfold vivariumref05_Of.l0
    rw [if_pos (by omega)]
    have hp : 2 ^ c < 2 ^ 64 := Nat.pow_lt_pow_right (by omega) hlt
    have hp1 : 2 ^ (c + 1) ≤ 2 ^ 64 := Nat.pow_le_pow_right (by omega) (by omega)
    have hp2 : 2 ^ (c + 1) = 2 ^ c * 2 := Nat.pow_succ _ _
    have hm : s % 2 ^ c < 2 ^ c := Nat.mod_lt _ (Nat.pow_pos (by omega))
    have h64 : 2 ^ 64 = 18446744073709551616 := by decide
    have hw : c + 1 < 64 → IntKind.u64.wrap (((2 ^ c : Nat) : Int) * 2) = ((2 ^ (c + 1) : Nat) : Int) := by
      intro h
      have : 2 ^ (c + 1) < 2 ^ 64 := Nat.pow_lt_pow_right (by omega) h
      rw [hp2, ← wrapu (2 ^ c * 2) (by omega)]
      congr 1
    have hbit : ((c : Int) ∈ bitsL s) ↔ s.testBit c = true := by
      rw [mem_bitsL]
      constructor
      · rintro ⟨n, h1, h2⟩
        obtain rfl : c = n := by omega
        unfold bitsN at h2
        simpa using (List.mem_filter.1 h2).2
      · intro h
        exact ⟨c, rfl, by unfold bitsN; exact List.mem_filter.2 ⟨List.mem_range.2 hlt, by simpa using h⟩⟩
    have hl := low_succ s c
    refine of_l1 (bitsL s) (bitsL_length s) (s % 2 ^ c) (2 ^ c) c hlt (by omega) (s : Int) (m * 70 + 1) (fun hy k' hk' => ?_) (fun hn k' hk' => ?_) k 0 (Nat.zero_le _) (fun q hq => by omega) (by have := bitsL_length s; omega)
    · rw [if_pos (hbit.1 hy)] at hl
      rw [← hl]
      exact of_l0 s hs m (c + 1) (by omega) k' _ hw (by omega)
    · rw [if_neg (fun h => hn (hbit.2 h))] at hl
      rw [← hl.trans (Nat.add_zero _)]
      exact of_l0 s hs m (c + 1) (by omega) k' _ hw (by omega)
theorem of_f (s : Nat) (hs : s < 18446744073709551616) {k : Nat} (hk : 4500 < k) : vivariumref05_Of.f k (bitsL s) = some (s : Int) := by
  have h := of_l0 s hs 64 0 rfl k 1 (fun _ => rfl) (by omega)
  rw [Nat.pow_zero, Nat.mod_one] at h
  exact h

/-! column -/
theorem col_l1 (cs zs : List Int) (rows : List Ent_) (j : Nat) (hj : ∀ r, r ∈ rows → j < r.f1.length ∧ (r.f1.getD j z90).f1.length ≤ 64) (hn : rows.length ≤ 1024) : ∀ k i : Nat, ∀ acc : List Int, i ≤ rows.length → rows.length - i < k → acc.length ≤ 64 * i →
    vivariumref09_Column.l1 k acc (j : Int) (i : Int) cs zs rows = some (acc ++ (rows.drop i).flatMap (fun r => (r.f1.getD j z90).f1), true)
  | 0, i, _, _, h, _ => by omega
  | k + 1, i, acc, hi, h, ha => by
    unfold vivariumref09_Column.l1
    by_cases hlt : i < rows.length
    · have e : rows.drop i = rows.getD i z100 :: rows.drop (i + 1) := by
        rw [List.drop_eq_getElem_cons hlt]
        simp [List.getD_eq_getElem?_getD, List.getElem?_eq_getElem hlt]
      have hm : rows.getD i z100 ∈ rows := by simp [List.getD_eq_getElem?_getD, List.getElem?_eq_getElem hlt]
      obtain ⟨h1, h2⟩ := hj _ hm
      have e1 : rd_T100 rows (i : Int) = rows.getD i z100 := by simp [rd_T100]
      have e2 : rd_T90 (rows.getD i z100).f1 (j : Int) = (rows.getD i z100).f1.getD j z90 := by simp [rd_T90]
      rw [if_pos (by omega), if_pos (by omega), if_pos (by omega), e1, e2, if_pos (by omega), if_pos (by omega), w64 (by omega), col_l1 cs zs rows j hj hn k (i + 1) _ (by omega) (by omega) (by rw [List.length_append]; omega), e, List.flatMap_cons, List.append_assoc]
    · rw [if_neg (by omega), List.drop_eq_nil_of_le (by omega)]
      simp
theorem col_none (cs zs : List Int) (rows : List Ent_) (x : Int) (hx : x ∉ cs) (hn : cs.length ≤ 64) : ∀ k i : Nat, i ≤ cs.length → cs.length - i < k → vivariumref09_Column.l0 k x [] (i : Int) cs zs rows = some ([], false)
  | 0, i, _, h => by omega
  | k + 1, i, hi, h => by
    unfold vivariumref09_Column.l0
    by_cases hlt : i < cs.length
    · rw [if_pos (by omega), if_pos (by omega), if_neg (fun e => hx (by rw [← e]; exact rd_mem hlt)), w64 (by omega)]
      exact col_none cs zs rows x hx hn k (i + 1) (by omega) (by omega)
    · rw [if_neg (by omega)]
theorem col_hit (cs zs : List Int) (rows : List Ent_) (x : Int) (j : Nat) (hj : j < cs.length) (he : rd cs (j : Int) = x) (hb : ∀ i : Nat, i < j → rd cs (i : Int) ≠ x) (hn : cs.length ≤ 64) (r : List Int × Bool) (k0 : Nat)
    (hr : ∀ k, k0 ≤ k → vivariumref09_Column.l1 k [] (j : Int) 0 cs zs rows = some r) : ∀ k i : Nat, i ≤ j → j - i + k0 < k → vivariumref09_Column.l0 k x [] (i : Int) cs zs rows = some r
  | 0, i, _, h => by omega
  | k + 1, i, hi, h => by
    unfold vivariumref09_Column.l0
    by_cases hlt : i < j
    · rw [if_pos (by omega), if_pos (by omega), if_neg (hb i hlt), w64 (by omega)]
      exact col_hit cs zs rows x j hj he hb hn r k0 hr k (i + 1) (by omega) (by omega)
    · obtain rfl : i = j := by omega
      rw [if_pos (by omega), if_pos (by omega), if_pos he]
      exact hr k (by omega)

/-! ids -/
theorem ids_l (cs zs : List Int) (rows : List Ent_) (hn : rows.length ≤ 1024) : ∀ k i : Nat, i ≤ rows.length → rows.length - i < k → vivariumref09_IDs.l0 k ((rows.take i).map fun r => r.f0) (i : Int) cs zs rows = some (rows.map fun r => r.f0)
  | 0, i, _, h => by omega
  | k + 1, i, hi, h => by
    unfold vivariumref09_IDs.l0
    by_cases hlt : i < rows.length
    · have e1 : rd_T100 rows (i : Int) = rows[i] := by simp [rd_T100, List.getD_eq_getElem?_getD, List.getElem?_eq_getElem hlt]
      rw [if_pos (by omega), if_pos (by omega), if_pos (by simp; omega), w64 (by omega), e1]
      have e2 : ((rows.take i).map fun r => r.f0) ++ [(⟨rows[i].f0.f0, rows[i].f0.f1⟩ : ID_)] = (rows.take (i + 1)).map fun r => r.f0 := by
        rw [List.take_succ_eq_append_getElem hlt, List.map_append]
        rfl
      rw [e2]
      exact ids_l cs zs rows hn k (i + 1) (by omega) (by omega)
    · rw [if_neg (by omega), List.take_of_length_le (by omega)]

/-! of a table's content -/
theorem first_at {x : Int} : ∀ {xs : List Int}, x ∈ xs → ∃ j, j < xs.length ∧ rd xs (j : Int) = x ∧ (xs[j]? = some x) ∧ ∀ i : Nat, i < j → rd xs (i : Int) ≠ x
  | a :: xs, h => by
    by_cases ha : a = x
    · exact ⟨0, by simp, by simp [rd, ha], by simp [ha], fun i hi => by omega⟩
    · have h1 : x ∈ xs := by
        rcases List.mem_cons.1 h with h | h
        · exact absurd h.symm ha
        · exact h
      obtain ⟨j, h2, h3, h4, h5⟩ := first_at h1
      refine ⟨j + 1, by simp; omega, ?_, by simpa using h4, fun i hi => ?_⟩
      · simp [rd, List.getD_eq_getElem?_getD, h4]
      · rcases i with _ | i
        · simpa [rd] using ha
        · have := h5 i (by omega)
          simpa [rd] using this

theorem rowT_part_le {t : TabS} (h : WfT t) (r : Ent_) (hr : r ∈ rowsT t) (j : Nat) (hj : j < (bitsL t.sig).length) : j < r.f1.length ∧ (r.f1.getD j z90).f1.length ≤ 64 := by
  obtain ⟨i, _, rfl⟩ := List.mem_map.1 hr
  have hm : (bitsL t.sig)[j] ∈ bitsL t.sig := List.getElem_mem hj
  obtain ⟨k, hk, hkn⟩ := mem_bitsL.1 hm
  have := h.sz k hkn
  refine ⟨by simpa [rowT, partsT] using hj, ?_⟩
  simp only [rowT, partsT, List.getD_eq_getElem?_getD, List.getElem?_map, List.getElem?_eq_getElem hj, hk]
  simp [rowB]
  omega
theorem column_f {t : TabS} (h : WfT t) (x : Int) {k : Nat} (hk : 1200 < k) : vivariumref09_Column.f k (bitsL t.sig) ((bitsL t.sig).map fun k => (zT t k : Int)) (rowsT t) x = some (if x ∈ bitsL t.sig then t.cb x.toNat else [], decide (x ∈ bitsL t.sig)) := by
  unfold vivariumref09_Column.f
  by_cases hx : x ∈ bitsL t.sig
  · rw [if_pos hx, decide_eq_true hx]
    obtain ⟨j, hj1, hj2, hj3, hj4⟩ := first_at hx
    obtain ⟨n, hn, hkn⟩ := mem_bitsL.1 hx
    have hl := bitsL_length t.sig
    have hr := h.n
    refine col_hit _ _ _ x j hj1 hj2 hj4 hl _ 1030 (fun k hk => ?_) k 0 (Nat.zero_le _) (by omega)
    have h1 := col_l1 (bitsL t.sig) ((bitsL t.sig).map fun k => (zT t k : Int)) (rowsT t) j (fun r hr => rowT_part_le h r hr j hj1) (by rw [rowsT_length]; exact hr) k 0 [] (Nat.zero_le _) (by rw [rowsT_length]; omega) (Nat.zero_le _)
    rw [List.drop_zero, List.nil_append, rowsT_col h hkn (by rw [hj3, hn])] at h1
    rw [hn, Int.toNat_natCast]
    exact h1
  · rw [if_neg hx, decide_eq_false hx]
    have hl := bitsL_length t.sig
    exact col_none _ _ _ x hx hl k 0 (Nat.zero_le _) (by omega)
theorem ids_f {t : TabS} (h : WfT t) (zs : List Int) {k : Nat} (hk : 1200 < k) : vivariumref09_IDs.f k (bitsL t.sig) zs (rowsT t) = some t.ids := by
  have h1 := ids_l (bitsL t.sig) zs (rowsT t) (by rw [rowsT_length]; exact h.n) k 0 (Nat.zero_le _) (by rw [rowsT_length]; have := h.n; omega)
  rw [rowsT_ids] at h1
  exact h1

/-! New -/
theorem bitsL_all (s n : Nat) : bitsL (s &&& allS n) = (bitsL s).filter fun k => decide (k < (n : Int)) := by
  unfold bitsL bitsN
  rw [List.filter_map, List.filter_filter]
  congr 1
  refine List.filter_congr (fun i _ => ?_)
  have : ((allS n).testBit i) = decide (i < n) := by unfold allS; exact Nat.testBit_two_pow_sub_one n i
  simp [Nat.testBit_and, this, Bool.and_comm]
theorem rnew_l (l : List S88) (a b c d : Int) (hl : l.length ≤ 64) (ks : List Int) (h0 : ∀ k, k ∈ ks → 0 ≤ k) (hn : ks.length ≤ 64) : ∀ k i : Nat, i ≤ ks.length → ks.length - i < k →
    vivariumref09_New.l0 k ks (i : Int) a b c d l ((ks.take i).filter fun k => decide (k < (l.length : Int))) (((ks.take i).filter fun k => decide (k < (l.length : Int))).map fun k => (clampN (l.getD k.toNat z88).f1 : Int)) =
      some (ks.filter fun k => decide (k < (l.length : Int)), (ks.filter fun k => decide (k < (l.length : Int))).map fun k => (clampN (l.getD k.toNat z88).f1 : Int), [])
  | 0, i, _, h => by omega
  | k + 1, i, hi, h => by
    unfold vivariumref09_New.l0
    by_cases hlt : i < ks.length
    · have hm : rd ks (i : Int) = ks[i] := by simp [rd, List.getD_eq_getElem?_getD, List.getElem?_eq_getElem hlt]
      have hp := h0 ks[i] (List.getElem_mem hlt)
      have ih := rnew_l l a b c d hl ks h0 hn k (i + 1) (by omega) (by omega)
      rw [List.take_succ_eq_append_getElem hlt, List.filter_append, List.map_append] at ih
      have hfl : ((ks.take i).filter fun k => decide (k < (l.length : Int))).length ≤ 64 := by
        have := List.length_filter_le (fun k => decide (k < (l.length : Int))) (ks.take i)
        rw [List.length_take] at this
        omega
      rw [if_pos (by omega), if_pos (by omega), hm, w64 (by omega)]
      unfold vivariumref07_Size.f
      by_cases hx : ks[i] < (l.length : Int)
      · have hc := clampN_int (rd_T88 l ks[i]).f1
        have hr : rd_T88 l ks[i] = l.getD ks[i].toNat z88 := rfl
        rw [hr] at hc
        have hq : [ks[i]].filter (fun k => decide (k < (l.length : Int))) = [ks[i]] := by simp [hx]
        rw [hq, List.map_singleton] at ih
        rw [if_pos (by omega), if_pos hx, if_pos hp, Option.bind_some, if_pos rfl, hr]
        unfold mn mx at hc
        by_cases h1 : (l.getD ks[i].toNat z88).f1 < 0
        · rw [if_pos h1, if_neg (by omega), if_pos (by omega), if_pos (by rw [List.length_map]; omega)]
          have : ((clampN (l.getD ks[i].toNat z88).f1 : Nat) : Int) = 0 := by rw [hc]; split <;> (try split) <;> omega
          rw [this] at ih
          exact ih
        · rw [if_neg h1]
          by_cases h2 : (l.getD ks[i].toNat z88).f1 > 64
          · rw [if_pos h2, if_pos (by omega), if_pos (by rw [List.length_map]; omega)]
            have : ((clampN (l.getD ks[i].toNat z88).f1 : Nat) : Int) = 64 := by rw [hc]; split <;> (try split) <;> omega
            rw [this] at ih
            exact ih
          · rw [if_neg h2, if_pos (by omega), if_pos (by rw [List.length_map]; omega)]
            have : ((clampN (l.getD ks[i].toNat z88).f1 : Nat) : Int) = (l.getD ks[i].toNat z88).f1 := by rw [hc]; split <;> (try split) <;> omega
            rw [this] at ih
            exact ih
      · have hq : [ks[i]].filter (fun k => decide (k < (l.length : Int))) = [] := by simp [hx]
        rw [hq, List.map_nil, List.append_nil, List.append_nil] at ih
        rw [if_pos (by omega), if_neg hx, Option.bind_some, if_neg (by simp)]
        exact ih
    · rw [if_neg (by omega), List.take_of_length_le (by omega)]
theorem rnew_f (l : List S88) (a b c d : Int) (hl : l.length ≤ 64) (s : Nat) (hs : s < 18446744073709551616) {k : Nat} (hk : 200 < k) :
    vivariumref09_New.f k a b c d l (s : Int) = some (bitsL (newT l s).sig, (bitsL (newT l s).sig).map fun k => (zT (newT l s) k : Int), rowsT (newT l s)) := by
  unfold vivariumref09_New.f
  rw [rlist_f s hs (by omega), Option.bind_some]
  have h0 : ∀ k, k ∈ bitsL s → 0 ≤ k := fun k hk => by obtain ⟨n, h, _⟩ := mem_bitsL.1 hk; omega
  have h1 := rnew_l l a b c d hl (bitsL s) h0 (bitsL_length s) k 0 (Nat.zero_le _) (by have := bitsL_length s; omega)
  rw [List.take_zero, List.filter_nil, List.map_nil] at h1
  have e1 : bitsL (newT l s).sig = (bitsL s).filter fun k => decide (k < (l.length : Int)) := bitsL_all s l.length
  have e2 : rowsT (newT l s) = [] := rfl
  rw [e1, e2]
  refine h1.trans ?_
  congr 3
  refine List.map_congr_left (fun k hk => ?_)
  congr 1
  unfold zT
  exact (Nat.min_eq_left (clampN_le _)).symm

/-! Much -/
theorem cmuch_l (l : List S88) (a b c d : Int) (hl : l.length ≤ 9223372036854775807) : ∀ m i : Nat, m + i = l.length + 1 → ∃ r, vivariumref07_Much.l0 (2 * m + 2) (i : Int) a b c d l = some r ∧ (r = false → l.length ≤ 40)
  | 0, i, h => by
    refine ⟨decide ((l.length : Int) > 40), ?_, fun h => by simp at h; omega⟩
    simp only [vivariumref07_Much.l0]
    rw [if_neg (by omega)]
    simp only [vivariumref07_Much.j1]
    simp
  | m + 1, i, h => by
    by_cases hlt : (i : Int) < (l.length : Int)
    · by_cases h50 : (i : Int) < 50
      · obtain ⟨r, hr, hr2⟩ := cmuch_l l a b c d hl m (i + 1) (by omega)
        by_cases hb : ((rd_T88 l (i : Int)).f0.size : Int) > 100
        · refine ⟨true, ?_, fun h => by cases h⟩
          show vivariumref07_Much.l0 (2 * m + 3 + 1) (i : Int) a b c d l = _
          simp only [vivariumref07_Much.l0]
          rw [if_pos hlt]
          show vivariumref07_Much.j1 (2 * m + 2 + 1) _ _ _ _ _ _ _ = _
          simp only [vivariumref07_Much.j1]
          rw [if_pos (by simpa using h50), if_pos (by omega), if_pos hlt, if_pos hb]
        · refine ⟨r, ?_, hr2⟩
          show vivariumref07_Much.l0 (2 * m + 3 + 1) (i : Int) a b c d l = _
          simp only [vivariumref07_Much.l0]
          rw [if_pos hlt]
          show vivariumref07_Much.j1 (2 * m + 2 + 1) _ _ _ _ _ _ _ = _
          simp only [vivariumref07_Much.j1]
          rw [if_pos (by simpa using h50), if_pos (by omega), if_pos hlt, if_neg hb, w64 (by omega)]
          exact hr
      · refine ⟨decide ((l.length : Int) > 40), ?_, fun h => by simp at h; omega⟩
        show vivariumref07_Much.l0 (2 * m + 3 + 1) (i : Int) a b c d l = _
        simp only [vivariumref07_Much.l0]
        rw [if_pos hlt]
        show vivariumref07_Much.j1 (2 * m + 2 + 1) _ _ _ _ _ _ _ = _
        simp only [vivariumref07_Much.j1]
        rw [if_neg (by simpa using h50)]
    · refine ⟨decide ((l.length : Int) > 40), ?_, fun h => by simp at h; omega⟩
      show vivariumref07_Much.l0 (2 * m + 3 + 1) (i : Int) a b c d l = _
      simp only [vivariumref07_Much.l0]
      rw [if_neg hlt]
      show vivariumref07_Much.j1 (2 * m + 2 + 1) _ _ _ _ _ _ _ = _
      simp only [vivariumref07_Much.j1]
      simp
theorem cmuch (l : List S88) (a b c d : Int) (hl : l.length ≤ 9223372036854775807) : ∃ k r, vivariumref07_Much.f k a b c d l = some r ∧ (r = false → l.length ≤ 40) := by
  obtain ⟨r, h1, h2⟩ := cmuch_l l a b c d hl (l.length + 1) 0 (by omega)
  exact ⟨_, r, h1, h2⟩
theorem smuch_l1 (l : List S45) (i : Nat) (hi : i < l.length) (hp : (rd_T45 l (i : Int)).f2.length ≤ 9223372036854775807) (hn : ∃ k r, vivariumref09_Much.l0 k l (wrap64 ((i : Int) + 1)) = some r) : ∀ (m j : Nat) (x : Int), j + m = (rd_T45 l (i : Int)).f2.length → ∃ k r, vivariumref09_Much.l1 k l (i : Int) x (j : Int) = some r
  | 0, j, x, h => by
    obtain ⟨k, r, hk⟩ := hn
    by_cases hx : x > 1000
    · refine ⟨k + 1, true, ?_⟩
      simp only [vivariumref09_Much.l1]
      rw [if_pos (by omega), if_pos (by omega), if_neg (by omega), if_pos hx]
    · refine ⟨k + 1, r, ?_⟩
      simp only [vivariumref09_Much.l1]
      rw [if_pos (by omega), if_pos (by omega), if_neg (by omega), if_neg hx]
      exact hk
  | m + 1, j, x, h => by
    by_cases hx : wrap64 (x + ((rd_T90 (rd_T45 l (i : Int)).f2 (j : Int)).f1.length : Int)) > 1000
    · refine ⟨1, true, ?_⟩
      simp only [vivariumref09_Much.l1]
      rw [if_pos (by omega), if_pos (by omega), if_pos (by omega), if_pos (by omega), if_pos hx]
    · obtain ⟨k, r, hk⟩ := smuch_l1 l i hi hp hn m (j + 1) (wrap64 (x + ((rd_T90 (rd_T45 l (i : Int)).f2 (j : Int)).f1.length : Int))) (by omega)
      refine ⟨k + 1, r, ?_⟩
      simp only [vivariumref09_Much.l1]
      rw [if_pos (by omega), if_pos (by omega), if_pos (by omega), if_pos (by omega), if_neg hx, w64 (by omega)]
      exact hk
theorem smuch_l0 (l : List S45) (hl : l.length ≤ 9223372036854775807) (hp : ∀ s, s ∈ l → s.f2.length ≤ 9223372036854775807) : ∀ m i : Nat, i + m = l.length → ∃ k r, vivariumref09_Much.l0 k l (i : Int) = some r
  | 0, i, h => by
    refine ⟨2, decide ((l.length : Int) > 60), ?_⟩
    simp only [vivariumref09_Much.l0]
    rw [if_neg (by omega)]
    simp only [vivariumref09_Much.j1]
    rw [if_neg (by simp)]
  | m + 1, i, h => by
    by_cases h100 : (i : Int) < 100
    · have hlt : i < l.length := by omega
      have hpp : (rd_T45 l (i : Int)).f2.length ≤ 9223372036854775807 := by
        refine hp _ ?_
        simp [rd_T45, List.getD_eq_getElem?_getD, List.getElem?_eq_getElem hlt]
      by_cases h40 : ((rd_T45 l (i : Int)).f2.length : Int) > 40
      · refine ⟨2, true, ?_⟩
        simp only [vivariumref09_Much.l0]
        rw [if_pos (by omega)]
        simp only [vivariumref09_Much.j1]
        rw [if_pos (by simpa using h100), if_pos (by omega), if_pos (by omega), if_pos h40]
      · obtain ⟨k, r, hk⟩ := smuch_l1 l i hlt hpp (by rw [w64 (by omega)]; exact smuch_l0 l hl hp m (i + 1) (by omega)) (rd_T45 l (i : Int)).f2.length 0 ((rd_T45 l (i : Int)).f5.length : Int) (by omega)
        refine ⟨k + 2, r, ?_⟩
        show vivariumref09_Much.l0 (k + 1 + 1) l (i : Int) = _
        simp only [vivariumref09_Much.l0]
        rw [if_pos (by omega)]
        simp only [vivariumref09_Much.j1]
        rw [if_pos (by simpa using h100), if_pos (by omega), if_pos (by omega), if_neg h40]
        exact hk
    · refine ⟨2, decide ((l.length : Int) > 60), ?_⟩
      simp only [vivariumref09_Much.l0]
      rw [if_pos (by omega)]
      simp only [vivariumref09_Much.j1]
      rw [if_neg (by simpa using h100)]
theorem smuch (l : List S45) (hl : l.length ≤ 9223372036854775807) (hp : ∀ s, s ∈ l → s.f2.length ≤ 9223372036854775807) : ∃ k r, vivariumref09_Much.f k l = some r := smuch_l0 l hl hp l.length 0 (by omega)

end Go.Proofs.YtnhejenjpomhdaaDoor.TRows
