/- Parts of a table's row. -/
import Derived.Test.YtnhejenjpomhdaaDoorTbTab
namespace Go.Proofs.YtnhejenjpomhdaaDoor.Tab
open Go.RowKit Go.Proofs.YtnhejenjpomhdaaDoorW.PrintWords Go.Proofs.YtnhejenjpomhdaaDoorW.PrintLast Go.Proofs.YtnhejenjpomhdaaDoorW.PrintMore Go.Proofs.YtnhejenjpomhdaaDoor.Mem Go.Proofs.YtnhejenjpomhdaaDoor.Col Go.Proofs.YtnhejenjpomhdaaDoor.Bits Go.Proofs.YtnhejenjpomhdaaDoor.Data Go.Proofs.YtnhejenjpomhdaaDoor.Mp Go.Proofs.YtnhejenjpomhdaaDoor.PTableLoads
set_option linter.unusedVariables false
set_option linter.unusedSimpArgs false

/-- The parts of a row: of each component, its bytes. -/
def partsT (t : TabS) (row : Nat) : List Part_ := (bitsL t.sig).map fun k => ⟨k, rowB (t.cb k.toNat) row (t.cz k.toNat)⟩

theorem infoPart : (Tryd.prog.info? 90).map (fun i => (i.zero, i.size, i.bytes)) = some (some (.agg #[(.int .i64 0), (.slice none 0 0)]), 2, 32) := by kernel_rfl

theorem rd_mem {xs : List Int} {j : Nat} (h : j < xs.length) : rd xs (j : Int) ∈ xs := by
  simp [rd, List.getD_eq_getElem?_getD, List.getElem?_eq_getElem h]
theorem rd_take {α : Type} (f : Int → α) {xs : List Int} {j : Nat} (h : j < xs.length) : ((xs.take j).map f) ++ [f (rd xs (j : Int))] = (xs.take (j + 1)).map f := by
  rw [← List.map_singleton (f := f), ← List.map_append]
  congr 1
  rw [List.take_add_one]
  simp [rd, List.getD_eq_getElem?_getD, List.getElem?_eq_getElem h]

set_option maxHeartbeats 4000000 in
set_option maxRecDepth 100000 in
theorem parts_calls {W : World} {g : Nat} {F : Nat → Prop} {t : TabS} (h : IsTab W g F t) (hT : Tab W) (row : Int) :
    Calls Tryd.prog 20 #[.pointer (some ⟨g, 0, none⟩), .int .i64 row] W fun e w' => ∃ v : Value, e = .returned (.tuple #[v, .int .i64 (atE t.ids.length row)]) ∧
      Kd.R k90 90 w' W.heap.size (fun _ => True) v (if atE t.ids.length row = 0 then partsT t row.toNat else []) ∧ Below W.heap.size W w' := by
  have hat := Aside0.mk (tat_calls h row)
  obtain ⟨vi, m, cg, cF, h⟩ := h
  have hu := Tryd.underlying30
  by_cases he : atE t.ids.length row = 0
  · rw [he] at hat ⊢
    rw [if_pos rfl]
    have hc0 : W.cell? ⟨g, 0, none⟩ = some (.int .u64 t.sig) := (blk_cell h.blk 0).trans rfl
    have HL := Aside0.mk (list_calls t.sig h.sig_lt W hT)
    have HM := Aside0.mk h
    have HT := Aside0.mk hT
    have HE := Aside0.mk he
    have HN := Aside0.mk (bitsL_length t.sig)
    obtain ⟨ks, hks⟩ : ∃ ks, bitsL t.sig = ks := ⟨_, rfl⟩
    have HKS := Aside0.mk hks
    rw [hks] at HL HN
    clear h hT he hks
    go_enter Tryd.func20, Tryd.ntmps20
    go_wp2_with fail
    refine hat.out.mono ?_
    rintro e w' ⟨rfl, rfl⟩
    go_wp2_with fail
    refine HL.out.mono ?_
    rintro e w1 ⟨v, rfl, hR1, hB1⟩
    obtain ⟨A, c, rfl⟩ := Kd.R_slice hR1
    have HR1 := Aside0.mk (Kd.R_reads' hR1).2.2
    obtain ⟨n, hn⟩ : ∃ n, ks.length = n := ⟨_, rfl⟩
    rw [hn] at HR1 HN ⊢
    have HNN := Aside0.mk hn
    have HB := Aside0.mk hB1
    have HW1 := Aside0.mk (Below.refl w1.heap.size w1)
    clear hR1 hn hB1
    go_wp2
    go_loopg [7, 24] n (fun gk v7 v24 wr => ∃ j : Nat, v24 = .int .i64 j ∧ Aside0 (j + gk = n) ∧ Aside0 (Kd.R k90 90 wr w1.heap.size (fun _ => True) v7 ((ks.take j).map fun k => (⟨k, rowB (t.cb k.toNat) row.toNat (t.cz k.toNat)⟩ : Part_))) ∧ Aside0 (Below w1.heap.size w1 wr))
    case atStart => exact ⟨0, rfl, ⟨by omega⟩, ⟨by rw [List.take_zero]; exact Kd.R_nil _ _ _ _ _⟩, HW1⟩
    case round =>
      obtain ⟨j, rfl, H, HR, HWr⟩ := hrel
      by_cases hlt : j < n
      · have q0 : decide ((j : Int) < (n : Int)) = true := by simp; omega
        have p0 : (0 : Int) ≤ (j : Int) := by omega
        have p1 : (j : Int) < (n : Int) := by omega
        have HBr := Aside0.mk (below_step HB.out HWr.out)
        have hCr := Kd.C_below HR1.out HWr.out
        obtain ⟨ad, e1, hx⟩ := Kd.at_int hCr (j : Int) p0 p1
        subst e1
        have hmem : rd ks (j : Int) ∈ bitsL t.sig := by rw [HKS.out]; exact rd_mem (by rw [HNN.out]; exact hlt)
        have HTK := Aside0.mk (rd_take (fun k => (⟨k, rowB (t.cb k.toNat) row.toNat (t.cz k.toNat)⟩ : Part_)) (show j < ks.length by rw [HNN.out]; exact hlt))
        simp only [Int.toNat_natCast] at hx
        obtain ⟨x, hxx⟩ : ∃ x, rd ks (j : Int) = x := ⟨_, rfl⟩
        rw [hxx] at hx hmem HTK
        obtain ⟨i, rfl, hi⟩ := mem_bitsL.1 hmem
        have hM := HM.out.move (W1 := wr) (fun k _ hk => HBr.out.block k hk)
        have hg := get_calls (hM.cols i hi) row
        rw [HE.out] at hg
        have HG := Aside0.mk hg
        have hz : ∀ w, (zeroValue 97).run Tryd.prog w = .ok (.pointer none) w := fun w => by kernel_rfl
        have hlk := hM.map.lookup (P := Tryd.prog) Tryd.underlying92 Tryd.underlying3 (hz wr) i
        unfold colPtr at hlk
        rw [if_pos hmem] at hlk
        simp only [Option.getD_some, Int.toNat_natCast] at hlk
        have hc2 : wr.cell? ⟨g, 2, none⟩ = some (.map (some m)) := (blk_cell hM.blk 2).trans rfl
        obtain ⟨d, hd⟩ : ∃ d, rowB (t.cb i) row.toNat (t.cz i) = d := ⟨_, rfl⟩
        simp only [Int.toNat_natCast] at HTK
        rw [hd] at HTK
        rw [if_pos rfl, hd] at HG
        clear hz hM hg hmem hi hxx hCr hd hc0
        go_wp2_with fail
        refine HG.out.mono ?_
        rintro e w2 ⟨v10, rfl, hR2, hB2⟩
        obtain ⟨A2, c2, rfl⟩ := Kd.R_slice hR2
        obtain ⟨n2, hn2⟩ : ∃ n2, d.length = n2 := ⟨_, rfl⟩
        rw [hn2] at hR2
        rw [hn2]
        clear hn2
        have hb4 := Aside0.mk (below_step HWr.out hB2)
        have HRw := Aside0.mk (Kd.R_below HR.out hB2)
        have HR2 := Aside0.mk (Kd.R_mono (ok' := fun k => wr.heap.size ≤ k) (Kd.R_bound hR2) (fun k hk => hk.2.1))
        have HSZ := Aside0.mk (hB2.size)
        have HLT := Aside0.mk (Kd.R_lt HR.out)
        obtain ⟨xs, hxs⟩ : ∃ xs, ((ks.take j).map fun k => (⟨k, rowB (t.cb k.toNat) row.toNat (t.cz k.toNat)⟩ : Part_)) = xs := ⟨_, rfl⟩
        have HJ := Aside0.mk (show (xs.length + 1) * 32 ≤ 140737488355328 by
          have := HN.out
          rw [← hxs, List.length_map, List.length_take]
          omega)
        rw [hxs] at HTK HRw
        clear hxs hR2 hB2 HR HG hlk hc2 hx
        go_wp2_with ((with_reducible refine gate_builtin (b := .append) (xs := #[.tmp 39, .tmp 43]) rfl ?_); at_builtin; refine Kd.R_append k90 (w0 := w1) w1.heap.size rfl (.tmp 39) (.tmp 43) 38 90 (.agg #[.int .i64 0, .slice none 0 0]) 32 rfl Tryd.underlying38 infoPart rfl (by decide) (by omega) _ _ (⟨(i : Int), d⟩ : Part_) [.int .i64 i, .slice A2 n2 c2] (fun _ => True) (fun k => wr.heap.size ≤ k) rfl rfl ?aP ?aQ ?aF HRw.out hb4.out ?aS HJ.out ?_)
        case aP => exact k90_mkM _ _ _ (⟨(i : Int), d⟩ : Part_) (Kd.R_lower HR2.out HWr.out.size)
        case aQ => exact fun k hk => ⟨trivial, fun e => by have := HLT.out k e.symm; omega⟩
        case aF => exact fun _ _ => trivial
        case aS => exact hb4.out.size
        intro v1 w3 ho hb5 hg5 hat5
        have HO := Aside0.mk ho
        have HB5 := Aside0.mk hb5
        have hh := H.out
        obtain ⟨k1, rfl⟩ : ∃ k1, gk = k1 + 1 := ⟨gk - 1, by omega⟩
        have HH := Aside0.mk (show (j + 1) + k1 = n by omega)
        have hn64 := HN.out
        clear ho hb5 hg5 hat5 hh H HRw hb4
        go_wp2
        go_roundg k1
        case measure => omega
        case rel => exact ⟨j + 1, by go_num, HH, ⟨by rw [← HTK.out]; exact HO.out⟩, HB5⟩
      · have q0 : decide ((j : Int) < (n : Int)) = false := by simp; omega
        have HH := Aside0.mk (show (partsT t row.toNat) = ((ks.take j).map fun k => (⟨k, rowB (t.cb k.toNat) row.toNat (t.cz k.toNat)⟩ : Part_)) by
          unfold partsT
          rw [HKS.out, List.take_of_length_le (by have := HNN.out; omega)])
        go_wp2
        go_ret2
        exact ⟨_, rfl, by rw [HH.out]; exact Kd.R_lower HR.out HB.out.size, below_step HB.out HWr.out⟩
  · rw [if_neg he]
    rw [at_two he] at hat ⊢
    clear h he
    go_enter Tryd.func20, Tryd.ntmps20
    go_wp2_with fail
    refine hat.out.mono ?_
    rintro e w' ⟨rfl, rfl⟩
    go_wp2
    go_ret2
    exact ⟨_, rfl, Kd.R_nil _ _ _ _ _, Below.refl _ _⟩

end Go.Proofs.YtnhejenjpomhdaaDoor.Tab
