/- table.data: a component's data among parts. -/
import Derived.Test.YtnhejenjpomhdaaDoorTbBits
namespace Go.Proofs.YtnhejenjpomhdaaDoor.Data
open Go.RowKit Go.Proofs.YtnhejenjpomhdaaDoorW.PrintWords Go.Proofs.YtnhejenjpomhdaaDoorW.PrintLast Go.Proofs.YtnhejenjpomhdaaDoorW.PrintMore Go.Proofs.YtnhejenjpomhdaaDoor.Mem Go.Proofs.YtnhejenjpomhdaaDoor.Col Go.Proofs.YtnhejenjpomhdaaDoor.Bits Go.Proofs.YtnhejenjpomhdaaDoor.PTableLoads
set_option linter.unusedVariables false
set_option linter.unusedSimpArgs false

abbrev Part_ := S90
def partIdx (l : List Part_) (k : Int) : Option Nat := l.findIdx? fun p => p.f0 == k
def idxI (l : List Part_) (k : Int) : Int := match partIdx l k with | some i => (i : Int) | none => -1
def dataL (l : List Part_) (k : Int) (size : Nat) : List Int := match l.find? (fun p => p.f0 == k) with | some p => p.f1 | none => List.replicate size 0

theorem closure_calls (x k : Int) (v : Value) (h1 : v.oneCell' = true) (g : Nat) (w : World) (hc : w.cell? ⟨g, 0, none⟩ = some (.int .i64 k)) :
    Calls Tryd.prog 71 #[.agg #[.int .i64 x, v], .pointer (some ⟨g, 0, none⟩)] w fun e w' => e = .returned (.bool (x == k)) ∧ Below w.heap.size w w' := by
  have hlt := World.block_lt_of_cell? w _ hc
  have hne : g < w.heap.size := hlt
  go_enter Tryd.func71, Tryd.ntmps71
  go_wp2
  go_ret
  exact ⟨rfl, (Below.refl _ _).alloc (Nat.le_refl _) _⟩

theorem partIdx_take {l : List Part_} {k : Int} {n : Nat} (h : ∀ j, j < n → (l.getD j z90).f0 ≠ k) (hn : n < l.length) (he : (l.getD n z90).f0 = k) : idxI l k = n ∧ l.find? (fun p => p.f0 == k) = some (l.getD n z90) := by
  have h1 : partIdx l k = some n := by
    unfold partIdx
    rw [List.findIdx?_eq_some_iff_getElem]
    refine ⟨hn, by simpa [List.getD_eq_getElem?_getD, List.getElem?_eq_getElem hn] using he, fun j hj => ?_⟩
    have := h j hj
    simpa [List.getD_eq_getElem?_getD, List.getElem?_eq_getElem (show j < l.length by omega)] using this
  refine ⟨by simp [idxI, h1], ?_⟩
  rw [List.find?_eq_some_iff_getElem]
  refine ⟨by simpa using he, n, hn, by simp [List.getD_eq_getElem?_getD, List.getElem?_eq_getElem hn], fun j hj => ?_⟩
  have := h j hj
  simpa [List.getD_eq_getElem?_getD, List.getElem?_eq_getElem (show j < l.length by omega)] using this
theorem partIdx_none {l : List Part_} {k : Int} (h : ∀ j, j < l.length → (l.getD j z90).f0 ≠ k) : idxI l k = -1 ∧ l.find? (fun p => p.f0 == k) = none := by
  have h2 : ∀ x ∈ l, ¬ (x.f0 == k) = true := by
    intro x hx
    obtain ⟨j, hj, rfl⟩ := List.mem_iff_getElem.1 hx
    have := h j hj
    simpa [List.getD_eq_getElem?_getD, List.getElem?_eq_getElem hj] using this
  have h1 : partIdx l k = none := by
    unfold partIdx
    rw [List.findIdx?_eq_none_iff]
    intro x hx
    simpa using h2 x hx
  exact ⟨by simp [idxI, h1], by rw [List.find?_eq_none]; exact h2⟩

set_option maxHeartbeats 4000000 in
set_option maxRecDepth 100000 in
theorem index_calls (A : Option Addr) (c : Nat) (l : List Part_) (k : Int) (g : Nat) (w : World) (hr : Kd.C k90 w A l.length l) (hc : w.cell? ⟨g, 0, none⟩ = some (.int .i64 k)) :
    Calls Tryd.prog 70 #[.slice A l.length c, .func (.func 71) #[] #[.pointer (some ⟨g, 0, none⟩)]] w fun e w' => e = .returned (.int .i64 (idxI l k)) ∧ Below w.heap.size w w' := by
  have HR := Aside0.mk hr
  have HC := Aside0.mk hc
  have HB := Aside0.mk (Below.refl w.heap.size w)
  have hm : (l.length : Int) ≤ 9223372036854775807 := by have := hr.2.1; omega
  clear hr hc
  go_enter Tryd.func70, Tryd.ntmps70
  go_wp2
  go_loopg [8] l.length (fun gk v8 wr => ∃ j : Nat, v8 = .int .i64 j ∧ Aside0 (j + gk = l.length ∧ ∀ i, i < j → (l.getD i z90).f0 ≠ k) ∧ Aside0 (Below w.heap.size w wr))
  case atStart => exact ⟨0, rfl, ⟨by omega, fun i hi => by omega⟩, HB⟩
  case round =>
    clear HB
    obtain ⟨j, rfl, H, HB⟩ := hrel
    by_cases hlt : j < l.length
    · have q0 : decide ((j : Int) < (l.length : Int)) = true := by simp; omega
      have p0 : (0 : Int) ≤ (j : Int) := by omega
      have p1 : (j : Int) < (l.length : Int) := by omega
      obtain ⟨ad, A1, c1, e1, hx0, hx1, hl1, hk1⟩ := at_T90 HR.out (j : Int) p0 p1
      subst e1
      replace hx0 := (HB.out.cell (World.block_lt_of_cell? w _ hx0)).trans hx0
      replace hx1 := (HB.out.cell (World.block_lt_of_cell? w _ hx1)).trans hx1
      have hcr := (HB.out.cell (World.block_lt_of_cell? w _ HC.out)).trans HC.out
      obtain ⟨n1, hn1⟩ : ∃ n1, (rd_T90 l (j : Int)).f1.length = n1 := ⟨_, rfl⟩
      rw [hn1] at hx1
      simp only [Int.toNat_natCast, rd_T90] at hx0 hx1
      obtain ⟨x, hx⟩ : ∃ x : Int, x = (l.getD j z90).f0 := ⟨_, rfl⟩
      rw [← hx] at hx0
      have HCL := Aside0.mk (closure_calls x k (.slice A1 n1 c1) rfl g wr hcr)
      have HX := Aside0.mk hx
      clear hx hk1 hl1 hcr hn1
      go_wp2_with fail
      by_cases hxk : x = k
      · have q1 : (x == k) = true := by simp [hxk]
        rw [q1] at HCL
        refine HCL.out.mono ?_
        rintro e w' ⟨rfl, hb⟩
        have HH := Aside0.mk (partIdx_take H.out.2 hlt (by rw [← HX.out]; exact hxk))
        clear hxk q1
        go_wp2
        go_ret
        exact ⟨by rw [HH.out.1]; rfl, below_step HB.out hb⟩
      · have q1 : (x == k) = false := by simp [hxk]
        rw [q1] at HCL
        refine HCL.out.mono ?_
        rintro e w' ⟨rfl, hb⟩
        have hh := H.out
        obtain ⟨k1, rfl⟩ : ∃ k1, gk = k1 + 1 := ⟨gk - 1, by omega⟩
        have HH := Aside0.mk (show (j + 1) + k1 = l.length ∧ ∀ i, i < j + 1 → (l.getD i z90).f0 ≠ k from ⟨by omega, fun i hi => by
          rcases Nat.lt_or_ge i j with h1 | h1
          · exact hh.2 i h1
          · obtain rfl : i = j := by omega
            rw [← HX.out]; exact hxk⟩)
        have HB1 := Aside0.mk (below_step HB.out hb)
        clear hxk q1 hh H
        go_wp2
        go_roundg k1
        case measure => omega
        case rel => exact ⟨j + 1, by go_num, HH, HB1⟩
    · have q0 : decide ((j : Int) < (l.length : Int)) = false := by simp; omega
      have HH := Aside0.mk (partIdx_none (l := l) (k := k) (fun i hi => H.out.2 i (by omega)))
      go_wp2
      go_ret
      exact ⟨by rw [HH.out.1]; rfl, HB.out⟩

theorem idx_cases (l : List Part_) (k : Int) (size : Nat) : (idxI l k = -1 ∧ dataL l k size = List.replicate size 0) ∨ ∃ i, i < l.length ∧ idxI l k = (i : Int) ∧ dataL l k size = (l.getD i z90).f1 := by
  rcases hp : partIdx l k with _ | i
  · left
    refine ⟨by simp [idxI, hp], ?_⟩
    have : l.find? (fun p => p.f0 == k) = none := by
      rw [List.find?_eq_none]
      unfold partIdx at hp
      rw [List.findIdx?_eq_none_iff] at hp
      intro x hx
      simpa using hp x hx
    simp [dataL, this]
  · right
    have hp2 := hp
    unfold partIdx at hp2
    rw [List.findIdx?_eq_some_iff_getElem] at hp2
    obtain ⟨h1, h2, h3⟩ := hp2
    have : l.find? (fun p => p.f0 == k) = some l[i] := by
      rw [List.find?_eq_some_iff_getElem]
      exact ⟨by simpa using h2, i, h1, rfl, fun j hj => by simpa using h3 j hj⟩
    refine ⟨i, h1, by simp [idxI, hp], by simp [dataL, this, List.getD_eq_getElem?_getD, List.getElem?_eq_getElem h1]⟩

set_option maxHeartbeats 4000000 in
theorem data_calls (A : Option Addr) (c : Nat) (l : List Part_) (k : Int) (size : Nat) (w : World) (hr : Kd.C k90 w A l.length l) (hs : size ≤ 64) :
    Calls Tryd.prog 55 #[.slice A l.length c, .int .i64 k, .int .i64 (size : Int)] w fun e w' => ∃ A1 c1, e = .returned (.slice A1 (dataL l k size).length c1) ∧ Kd.C (Kd.int .u8) w' A1 (dataL l k size).length (dataL l k size) ∧ Below w.heap.size w w' := by
  have hmk := print_make (P := Tryd.prog) 37 5 .u8 1 Tryd.underlying37 info5 (by decide) size (by omega)
  have HR := Aside0.mk hr
  have HCb := Aside0.mk (index_calls A c l k w.heap.size (w.alloc (.cells #[.int .i64 k] 3)) (Kd.C_below hr ((Below.refl _ _).alloc (Nat.le_refl _) _)) (by simp))
  have HS := Aside0.mk hs
  have HCASE := Aside0.mk (idx_cases l k size)
  obtain ⟨d, hd⟩ : ∃ d, dataL l k size = d := ⟨_, rfl⟩
  rw [hd] at HCASE ⊢
  clear hr hs hd
  go_enter Tryd.func55, Tryd.ntmps55
  go_wp2_with fail
  refine HCb.out.mono ?_
  rintro e w' ⟨rfl, hb⟩
  have hbw := Aside0.mk (below_step ((Below.refl w.heap.size w).alloc (Nat.le_refl _) (.cells #[.int .i64 k] 3)) hb)
  clear hb
  rcases HCASE.out with ⟨e1, e2⟩ | ⟨i, hi, e1, e2⟩
  · rw [e1]
    have E2 := Aside0.mk e2
    clear e1 e2
    go_wp2
    go_ret
    refine ⟨_, _, by rw [E2.out, List.length_replicate]; rfl, ?_, hbw.out.alloc hbw.out.size _⟩
    have ho := own_made w' 0 5 .u8 size (Nat.zero_le _) (by have := HS.out; omega)
    have hR : Kd.R (Kd.int .u8) 5 (w'.alloc (.cells (madeCells #[.int .u8 0] size) 5)) 0 (fun _ => True) (.slice (some ⟨w'.heap.size, 0, none⟩) (List.replicate size (0 : Int)).length size) (List.replicate size 0) := Kd.R_of_own (by simpa [nums, encs] using ho) (fun _ _ => trivial)
    rw [E2.out]
    exact (Kd.R_reads' hR).2.2
  · rw [e1]
    have E2 := Aside0.mk e2
    have p0 : (0 : Int) ≤ (i : Int) := by omega
    have p1 : (i : Int) < (l.length : Int) := by omega
    obtain ⟨ad, A1, c1, e3, hx0, hx1, hl1, hk1⟩ := at_T90 HR.out (i : Int) p0 p1
    subst e3
    replace hx1 := (hbw.out.cell (World.block_lt_of_cell? w _ hx1)).trans hx1
    have hk2 := Aside0.mk (Kd.C_below hk1 hbw.out)
    simp only [Int.toNat_natCast, rd_T90] at hx1 hk2
    rw [← E2.out] at hx1 hk2
    clear hx0 hk1 hl1 e1 e2 hi
    go_wp2
    go_ret
    exact ⟨_, _, rfl, hk2.out, hbw.out⟩

end Go.Proofs.YtnhejenjpomhdaaDoor.Data
