/- Rows: what a table's content is to the reference. -/
import Derived.Test.YtnhejenjpomhdaaDoorTsRef
namespace Go.Proofs.YtnhejenjpomhdaaDoor.TRows
open Go.RowKit Go.Proofs.YtnhejenjpomhdaaDoorW.PrintWords Go.Proofs.YtnhejenjpomhdaaDoorW.PrintLast Go.Proofs.YtnhejenjpomhdaaDoorW.PrintMore Go.Proofs.YtnhejenjpomhdaaDoor.Mem Go.Proofs.YtnhejenjpomhdaaDoor.Col Go.Proofs.YtnhejenjpomhdaaDoor.Bits Go.Proofs.YtnhejenjpomhdaaDoor.Data Go.Proofs.YtnhejenjpomhdaaDoor.Mp Go.Proofs.YtnhejenjpomhdaaDoor.Tab Go.Proofs.YtnhejenjpomhdaaDoor.Ref Go.Proofs.YtnhejenjpomhdaaDoor.PTableLoads
set_option linter.unusedVariables false
set_option linter.unusedSimpArgs false

theorem rowB_get (b : List Int) (i s j : Nat) : (rowB b i s)[j]? = if j < s then b[i * s + j]? else none := by
  unfold rowB
  rw [List.getElem?_take]
  split
  · rw [List.getElem?_drop]
  · rfl
theorem layB_get {b d : List Int} {off : Nat} (h : off + d.length ≤ b.length) (q : Nat) : (layB b off d)[q]? = if q < off then b[q]? else if q < off + d.length then d[q - off]? else b[q]? := by
  unfold layB
  by_cases h1 : q < off
  · rw [if_pos h1, List.append_assoc, List.getElem?_append_left (by simp; omega), List.getElem?_take, if_pos h1]
  · rw [if_neg h1]
    by_cases h2 : q < off + d.length
    · rw [if_pos h2, List.getElem?_append_left (by simp; omega), List.getElem?_append_right (by simp; omega)]
      congr 1
      simp
      omega
    · rw [if_neg h2, List.getElem?_append_right (by simp; omega), List.getElem?_drop]
      congr 1
      simp
      omega
theorem rowB_lay_same {b d : List Int} {r s n : Nat} (hb : b.length = n * s) (hd : d.length = s) (hr : r < n) : rowB (layB b (r * s) d) r s = d := by
  have h1 := nat_mul_le (size := s) hr
  apply List.ext_getElem?
  intro j
  rw [rowB_get]
  split
  · rw [layB_get (by omega), if_neg (by omega), if_pos (by omega)]
    congr 1
    omega
  · rw [List.getElem?_eq_none (by omega)]
theorem rowB_lay_other {b d : List Int} {r i s n : Nat} (hb : b.length = n * s) (hd : d.length = s) (hr : r < n) (hne : i ≠ r) : rowB (layB b (r * s) d) i s = rowB b i s := by
  have h1 := nat_mul_le (size := s) hr
  apply List.ext_getElem?
  intro j
  rw [rowB_get, rowB_get]
  split
  · rw [layB_get (by omega)]
    by_cases h2 : i < r
    · have := nat_mul_le (size := s) h2
      rw [if_pos (by omega)]
    · have := nat_mul_le (size := s) (show r < i by omega)
      rw [if_neg (by omega), if_neg (by omega)]
  · rfl
theorem rowB_app_old {b d : List Int} {i s n : Nat} (hb : b.length = n * s) (hi : i < n) : rowB (b ++ d) i s = rowB b i s := by
  have h1 := nat_mul_le (size := s) hi
  apply List.ext_getElem?
  intro j
  rw [rowB_get, rowB_get]
  split
  · rw [List.getElem?_append_left (by omega)]
  · rfl
theorem rowB_app_new {b d : List Int} {s n : Nat} (hb : b.length = n * s) (hd : d.length = s) : rowB (b ++ d) n s = d := by
  apply List.ext_getElem?
  intro j
  rw [rowB_get]
  split
  · rw [List.getElem?_append_right (by omega)]
    congr 1
    omega
  · rw [List.getElem?_eq_none (by omega)]
theorem rowB_take {b : List Int} {i s m : Nat} (hi : i < m) : rowB (b.take (m * s)) i s = rowB b i s := by
  have h1 := nat_mul_le (size := s) hi
  apply List.ext_getElem?
  intro j
  rw [rowB_get, rowB_get]
  split
  · rw [List.getElem?_take, if_pos (by omega)]
  · rfl
theorem rows_flat {s : Nat} : ∀ (n : Nat) (b : List Int), b.length = n * s → (List.range n).flatMap (fun i => rowB b i s) = b
  | 0, b, hb => by
    simp at hb
    subst hb
    rfl
  | n + 1, b, hb => by
    have e : (n + 1) * s = n * s + s := Nat.succ_mul _ _
    have h1 : (b.take (n * s)).length = n * s := by simp; omega
    have h2 : (b.drop (n * s)).length = s := by simp; omega
    have ih := rows_flat n (b.take (n * s)) h1
    rw [List.range_succ, List.flatMap_append, List.flatMap_singleton]
    have h3 : (List.range n).flatMap (fun i => rowB b i s) = (List.range n).flatMap (fun i => rowB (b.take (n * s)) i s) := by
      have : ∀ i, i ∈ List.range n → rowB b i s = rowB (b.take (n * s)) i s := fun i hi => (rowB_take (List.mem_range.1 hi)).symm
      rw [List.flatMap_def, List.flatMap_def, List.map_congr_left this]
    rw [h3, ih]
    have h4 := rowB_app_new h1 h2
    rw [List.take_append_drop] at h4
    rw [h4, List.take_append_drop]

/-- A table's content holds together. -/
structure WfT (t : TabS) : Prop where
  n : t.ids.length ≤ 1024
  sig : t.sig < 18446744073709551616
  len : ∀ k, k ∈ bitsN t.sig → (t.cb k).length = t.ids.length * t.cz k
  sz : ∀ k, k ∈ bitsN t.sig → t.cz k ≤ 64
theorem IsTab.wf {W : World} {g : Nat} {F : Nat → Prop} {t : TabS} (h : IsTab W g F t) : WfT t := by
  obtain ⟨vi, m, cg, cF, h⟩ := h
  exact ⟨h.n_le, h.sig_lt, fun k hk => (h.cols k hk).len, fun k hk => (h.cols k hk).size_le⟩

theorem _root_.Go.Proofs.YtnhejenjpomhdaaDoor.Tab.IsTab.lt {W : World} {g : Nat} {F : Nat → Prop} {t : TabS} (h : IsTab W g F t) : g < W.heap.size := by
  obtain ⟨vi, m, cg, cF, h⟩ := h
  exact heap_lt' h.blk
def zT (t : TabS) (k : Int) : Nat := min (t.cz k.toNat) 64
theorem zT_le (t : TabS) (k : Int) : zT t k ≤ 64 := Nat.min_le_right _ _
theorem zT_eq {t : TabS} (h : WfT t) {k : Nat} (hk : k ∈ bitsN t.sig) : zT t (k : Int) = t.cz k := by
  unfold zT
  rw [Int.toNat_natCast]
  exact Nat.min_eq_left (h.sz k hk)
def rowT (t : TabS) (i : Nat) : Ent_ := ⟨t.ids.getD i z40, partsT t i⟩
def rowsT (t : TabS) : List Ent_ := (List.range t.ids.length).map (rowT t)
theorem rowsT_length (t : TabS) : (rowsT t).length = t.ids.length := by simp [rowsT]
theorem rowsT_getD {t : TabS} {i : Nat} (h : i < t.ids.length) : (rowsT t).getD i z100 = rowT t i := by
  simp [rowsT, List.getD_eq_getElem?_getD, h]
theorem rowsT_wf (t : TabS) : ∀ r, r ∈ rowsT t → r.f1.length = (bitsL t.sig).length := by
  intro r hr
  obtain ⟨i, _, rfl⟩ := List.mem_map.1 hr
  simp [rowT, partsT]

theorem partsT_congr {t t' : TabS} {i j : Nat} (hs : t'.sig = t.sig) (h : ∀ k, k ∈ bitsN t.sig → rowB (t'.cb k) j (t'.cz k) = rowB (t.cb k) i (t.cz k)) : partsT t' j = partsT t i := by
  unfold partsT
  rw [hs]
  refine List.map_congr_left (fun k hk => ?_)
  obtain ⟨n, rfl, hn⟩ := mem_bitsL.1 hk
  rw [Int.toNat_natCast, h n hn]

theorem rowsT_add {t : TabS} (h : WfT t) (id : ID_) (ps : List Part_) (hf : fits t ps (bitsL t.sig)) : rowsT (addT t id ps) = rowsT t ++ [⟨id, newParts (bitsL t.sig) (zT t) ps⟩] := by
  have hn : (addT t id ps).ids.length = t.ids.length + 1 := by simp [addT]
  unfold rowsT
  rw [hn, List.range_succ, List.map_append, List.map_singleton]
  congr 1
  · refine List.map_congr_left (fun i hi => ?_)
    have hi := List.mem_range.1 hi
    unfold rowT
    have e1 : (addT t id ps).ids.getD i z40 = t.ids.getD i z40 := by simp [addT, List.getD_eq_getElem?_getD, List.getElem?_append_left hi]
    have e2 : partsT (addT t id ps) i = partsT t i := partsT_congr rfl (fun k hk => rowB_app_old (h.len k hk) hi)
    rw [e1, e2]
  · unfold rowT
    have e1 : (addT t id ps).ids.getD t.ids.length z40 = id := by simp [addT, List.getD_eq_getElem?_getD]
    have e2 : partsT (addT t id ps) t.ids.length = newParts (bitsL t.sig) (zT t) ps := by
      unfold partsT newParts
      refine List.map_congr_left (fun k hk => ?_)
      obtain ⟨n, rfl, hn⟩ := mem_bitsL.1 hk
      have h1 := hf _ hk
      rw [Int.toNat_natCast] at h1
      rw [zT_eq h hn, Int.toNat_natCast]
      show (⟨(n : Int), rowB (t.cb n ++ dataL ps n (t.cz n)) t.ids.length (t.cz n)⟩ : Part_) = _
      rw [rowB_app_new (h.len n hn) h1]
    rw [e1, e2]

theorem fits_same {t : TabS} (h : WfT t) (ps : List Part_) : fitsR (bitsL t.sig) (zT t) ps ↔ fits t ps (bitsL t.sig) := by
  constructor <;> intro hf k hk
  · have h1 := hf k hk
    obtain ⟨n, rfl, hn⟩ := mem_bitsL.1 hk
    rw [zT_eq h hn] at h1
    rw [Int.toNat_natCast]
    exact h1
  · have h1 := hf k hk
    obtain ⟨n, rfl, hn⟩ := mem_bitsL.1 hk
    rw [Int.toNat_natCast] at h1
    rw [zT_eq h hn]
    exact h1
theorem addE_same {t : TabS} (h : WfT t) (ps : List Part_) : addRE (bitsL t.sig) (zT t) (rowsT t) ps = taddE t ps := by
  unfold addRE taddE
  rw [rowsT_length]
  split
  · rfl
  · by_cases hf : fits t ps (bitsL t.sig)
    · rw [if_pos hf, if_pos ((fits_same h ps).2 hf)]
    · rw [if_neg hf, if_neg (fun h' => hf ((fits_same h ps).1 h'))]
open Classical in
noncomputable def addT' (t : TabS) (id : ID_) (ps : List Part_) : TabS := if taddE t ps = 0 then addT t id ps else t
theorem taddE_zero {t : TabS} {ps : List Part_} (h : taddE t ps = 0) : t.ids.length ≠ 1024 ∧ fits t ps (bitsL t.sig) := by
  unfold taddE at h
  by_cases h1 : t.ids.length = 1024
  · rw [if_pos h1] at h; cases h
  · rw [if_neg h1] at h
    by_cases h2 : fits t ps (bitsL t.sig)
    · exact ⟨h1, h2⟩
    · rw [if_neg h2] at h; cases h
theorem addR_same {t : TabS} (h : WfT t) (id : ID_) (ps : List Part_) : addRR (bitsL t.sig) (zT t) (rowsT t) id ps = rowsT (addT' t id ps) := by
  unfold addRR addT'
  rw [addE_same h]
  split
  · rename_i h0
    rw [rowsT_add h id ps (taddE_zero h0).2]
  · rfl

theorem map_set {α : Type} (f : Nat → α) (n r : Nat) (v : α) : ((List.range n).map f).set r v = (List.range n).map (fun i => if i = r then v else f i) := by
  apply List.ext_getElem?
  intro j
  rw [List.getElem?_set]
  by_cases hj : j < n
  · by_cases hr : r = j
    · subst hr
      simp [hj]
    · rw [if_neg hr]
      simp [hj, Ne.symm hr]
  · by_cases hr : r = j
    · subst hr
      simp [hj]
    · rw [if_neg hr]
      simp [hj]
theorem nodup_set {α β : Type} [DecidableEq α] (f : α → β) : ∀ (xs : List α) (j : Nat) (x : α) (v : β), xs.Nodup → xs[j]? = some x → (xs.map f).set j v = xs.map (fun y => if y = x then v else f y)
  | [], j, x, v, _, h => by simp at h
  | a :: xs, 0, x, v, hn, h => by
    simp at h
    subst h
    have := List.nodup_cons.1 hn
    simp only [List.map_cons, List.set_cons_zero, if_true]
    congr 1
    refine List.map_congr_left (fun y hy => ?_)
    rw [if_neg (fun e : y = a => this.1 (by rw [← e]; exact hy))]
  | a :: xs, j + 1, x, v, hn, h => by
    have hc := List.nodup_cons.1 hn
    simp at h
    have hx : x ∈ xs := List.mem_of_getElem? h
    simp only [List.map_cons, List.set_cons_succ]
    rw [nodup_set f xs j x v hc.2 h, if_neg (fun e : a = x => hc.1 (by rw [e]; exact hx))]

theorem rowsT_set {t : TabS} (h : WfT t) {row k : Nat} {ds : List Int} (hk : k ∈ bitsN t.sig) (hr : row < t.ids.length) (hd : ds.length = t.cz k) {j : Nat} (hj : (bitsL t.sig)[j]? = some (k : Int)) :
    rowsT (setT t row k ds) = (rowsT t).set row ⟨((rowsT t).getD row z100).f0, ((rowsT t).getD row z100).f1.set j ⟨(((rowsT t).getD row z100).f1.getD j z90).f0, ds⟩⟩ := by
  rw [rowsT_getD hr]
  have e0 : ((rowT t row).f1.getD j z90).f0 = (k : Int) := by
    simp only [rowT, partsT, List.getD_eq_getElem?_getD, List.getElem?_map, hj]
    rfl
  rw [e0]
  unfold rowsT
  rw [map_set]
  refine List.map_congr_left (fun i hi => ?_)
  have hi := List.mem_range.1 hi
  have hi : i < t.ids.length := hi
  have hid : (setT t (row : Int) (k : Int) ds).ids = t.ids := rfl
  by_cases hir : i = row
  · subst hir
    rw [if_pos rfl]
    unfold rowT
    rw [hid]
    congr 1
    unfold partsT
    rw [nodup_set _ _ _ _ _ (bitsL_nodup t.sig) hj]
    refine List.map_congr_left (fun q0 hq0 => ?_)
    obtain ⟨q, rfl, hq⟩ := mem_bitsL.1 hq0
    by_cases hqk : q = k
    · subst hqk
      rw [if_pos rfl]
      simp only [setT, Int.toNat_natCast, if_true]
      rw [rowB_lay_same (h.len q hk) hd hr]
    · rw [if_neg (by omega)]
      simp only [setT, Int.toNat_natCast, if_neg hqk]
  · rw [if_neg hir]
    unfold rowT
    rw [hid]
    congr 1
    refine partsT_congr rfl (fun q hq => ?_)
    by_cases hqk : q = k
    · subst hqk
      simp only [setT, Int.toNat_natCast, if_true]
      rw [rowB_lay_other (h.len q hq) hd hr hir]
    · simp only [setT, Int.toNat_natCast, if_neg hqk]

theorem rowsT_drop {t : TabS} (h : WfT t) {row : Nat} (hr : row < t.ids.length) :
    rowsT (dropT t row) = ((rowsT t).set row ((rowsT t).getD ((rowsT t).length - 1) z100)).take ((rowsT t).length - 1) := by
  rw [rowsT_length, rowsT_getD (by omega)]
  have hn : (dropT t row).ids.length = t.ids.length - 1 := by simp [dropT, dropI]
  unfold rowsT
  rw [map_set, hn, ← List.map_take, List.take_range, Nat.min_eq_left (by omega)]
  refine List.map_congr_left (fun i hi => ?_)
  have hi := List.mem_range.1 hi
  have hid : (dropT t row).ids.getD i z40 = if i = row then t.ids.getD (t.ids.length - 1) z40 else t.ids.getD i z40 := by
    simp only [dropT, dropI, List.getD_eq_getElem?_getD, List.getElem?_take, if_pos hi, List.getElem?_set]
    by_cases hir : i = row
    · subst hir
      simp [hr]
    · rw [if_neg (Ne.symm hir), if_neg hir]
  unfold rowT
  rw [hid]
  have hB : ∀ k, k ∈ bitsN t.sig → rowB (dropB (t.cb k) row t.ids.length (t.cz k)) i (t.cz k) = rowB (t.cb k) (if i = row then t.ids.length - 1 else i) (t.cz k) := by
    intro k hk
    have hl := h.len k hk
    have hlast := nat_mul_le (size := t.cz k) (show t.ids.length - 1 < t.ids.length by omega)
    have hrl : (rowB (t.cb k) (t.ids.length - 1) (t.cz k)).length = t.cz k := rowB_length (by omega)
    unfold dropB
    rw [rowB_take hi]
    by_cases hir : i = row
    · subst hir
      rw [if_pos rfl, rowB_lay_same hl hrl hr]
    · rw [if_neg hir, rowB_lay_other hl hrl hr hir]
  by_cases hir : i = row
  · rw [if_pos hir, if_pos hir]
    congr 1
    exact partsT_congr rfl (fun k hk => by have := hB k hk; rw [if_pos hir] at this; exact this)
  · rw [if_neg hir, if_neg hir]
    congr 1
    exact partsT_congr rfl (fun k hk => by have := hB k hk; rw [if_neg hir] at this; exact this)

/-- What a component of all rows has. -/
theorem rowsT_col {t : TabS} (h : WfT t) {k j : Nat} (hk : k ∈ bitsN t.sig) (hj : (bitsL t.sig)[j]? = some (k : Int)) : (rowsT t).flatMap (fun r => (r.f1.getD j z90).f1) = t.cb k := by
  unfold rowsT
  rw [List.flatMap_map]
  refine Eq.trans ?_ (rows_flat t.ids.length (t.cb k) (h.len k hk))
  congr 1
  funext i
  simp only [rowT, partsT, List.getD_eq_getElem?_getD, List.getElem?_map, hj]
  rfl
theorem rowsT_ids (t : TabS) : (rowsT t).map (fun r => r.f0) = t.ids := by
  apply List.ext_getElem?
  intro i
  by_cases hi : i < t.ids.length
  · simp [rowsT, rowT, hi, List.getD_eq_getElem?_getD]
  · simp [rowsT, hi]
theorem rowT_get {t : TabS} {row k j : Nat} (hj : (bitsL t.sig)[j]? = some (k : Int)) (hr : row < t.ids.length) : ((rowsT t).getD row z100).f1.getD j z90 = ⟨(k : Int), rowB (t.cb k) row (t.cz k)⟩ := by
  rw [rowsT_getD hr]
  simp only [rowT, partsT, List.getD_eq_getElem?_getD, List.getElem?_map, hj]
  rfl

end Go.Proofs.YtnhejenjpomhdaaDoor.TRows
