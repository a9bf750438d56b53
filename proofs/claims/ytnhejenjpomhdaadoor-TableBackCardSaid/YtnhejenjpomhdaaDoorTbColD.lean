/- Columns: a row falls (Drop). -/
import Derived.Test.YtnhejenjpomhdaaDoorTbCol
namespace Go.Proofs.YtnhejenjpomhdaaDoor.Col
open Go.RowKit Go.Proofs.YtnhejenjpomhdaaDoorW.PrintWords Go.Proofs.YtnhejenjpomhdaaDoorW.PrintLast Go.Proofs.YtnhejenjpomhdaaDoorW.PrintMore Go.Proofs.YtnhejenjpomhdaaDoor.Mem Go.Proofs.YtnhejenjpomhdaaDoor.PTableLoads
set_option linter.unusedVariables false
set_option linter.unusedSimpArgs false

theorem row_calls' {W : World} {g rows size : Nat} {v : Value} {b : List Int} (hb : W.heap[g]? = some (.cells #[v, .int .i64 rows, .int .i64 size] 127 (0, 0))) (ho : OwnB W v b)
    (hl : b.length = rows * size) (hr : rows ≤ 1024) (hs : size ≤ 64) (j : Int) (h0 : 0 ≤ j) (hj : j < rows) (W' : World) (hW : W'.heap = W.heap) :
    Calls Tryd.prog 69 #[.pointer (some ⟨g, 0, none⟩), .int .i64 j] W' fun e w' => ∃ A, e = .returned (.slice A size size) ∧ Aside0 (RowAt v b.length j.toNat size A) ∧ ∃ n, w' = W'.drewN n := by
  obtain ⟨k, rfl⟩ := Int.eq_ofNat_of_zero_le h0
  refine (row_calls (W := W') (by rw [hW]; exact hb) (ho.step (fun k _ => by rw [hW])) hl hr hs (i := k) (by omega)).mono ?_
  rintro e w' ⟨A, rfl, hA, n, rfl⟩
  exact ⟨A, rfl, ⟨by simpa using hA⟩, n, rfl⟩

/-- copy of row j over row i, as a step of a region that draws. -/
theorem copy_step {ops : Array Oper} {o : Oper} {a : Act} {K : Act → World → Prop} {Q : Exit → Act → World → Prop} {E : Prop} {W W0 : World} {v : Value} {i j size cA cD : Nat} {b : List Int} {A AD : Option Addr}
    (hgd : o.guard = none) (d s : Operand) (ho : o.op = .call { callee := .builtin .copy, args := #[d, s], argTypes := #[37, 37] }) (hd : a.eval d = .slice A size cA) (hs : a.eval s = .slice AD size cD)
    (hW : W.heap = W0.heap) (hO : OwnB W0 v b) (hfit : i * size + size ≤ b.length) (hfj : j * size + size ≤ b.length) (hA : RowAt v b.length i size A) (hAD : RowAt v b.length j size AD)
    (h : ∀ x W1, Aside0 (OwnB W1 v (layB b (i * size) (rowB b j size))) → Aside0 (Fr (fun k => v.ownBlock = some k) W W1) → K (a.put o.dst x) W1) :
    if Region.wanted o (yielded ops a.tmps) = true then Oper.wp Tryd.prog o a W K Q else E := by
  have hw : Region.wanted o (yielded ops a.tmps) = true := by simp [Region.wanted, hgd]
  rw [if_pos hw]
  have hO' : OwnB W v b := hO.step (fun k _ => by rw [hW])
  obtain ⟨x, W1, hrun, h1, h2⟩ := copy_run (cA := cA) (cD := cD) o.type hO' hfit hA (row_C hO' hfj hAD) (rowB_length hfj)
  rw [rowB_length hfj] at hrun
  unfold Oper.wp execOp
  simp only [ho, resolve, invoke, builtin, Sem.run_bind, Sem.run_pure, Result.andThen_ok, List.map_toArray, List.map_cons, List.map_nil, hd, hs, hrun]
  exact h _ _ ⟨h1⟩ ⟨h2⟩

/-- What is left of a column behind a row's fall. -/
theorem drop_end {W W1 : World} {g l size p c : Nat} {F F0 : Nat → Prop} {v : Value} {b1 : List Int} {R : Int} {A0 : Option Addr} (hfr : Fr (fun k => v.ownBlock = some k) W W1) (hb1 : W1.heap[g]? = some (.cells #[v, .int .i64 R, .int .i64 size] 127 (0, 0)))
    (hO : OwnB W1 v b1) (hv : v = .slice A0 b1.length c) (hF : ∀ k, v.ownBlock = some k → F k) (hg : F g) (hs : size ≤ 64) (hl : l ≤ 1024) (hp1 : l * size ≤ b1.length) (hp : p = l * size) :
    ∀ W3 : World, (∀ k : Nat, W3.heap[k]? = ((W1.setCell ⟨g, 1, none⟩ (.int .i64 l)).setCell ⟨g, 0, none⟩ (.slice A0 p c)).heap[k]?) → W3.heap.size = W1.heap.size → W3.os = W1.os → W3.tape = W1.tape → W3.output = W1.output →
      Col W3 g F (b1.take (l * size)) l size ∧ Fr F W W3 := by
  intro W3 h3 hsz h4 h5 h6
  subst hp
  subst hv
  have hne := hO.ne_blk hb1 (by decide)
  have k1 := blk_set hb1 1 (.int .i64 l)
  have k2 := blk_set k1 0 (.slice A0 (l * size) c)
  have e1 : ∀ k, k ≠ g → W3.heap[k]? = W1.heap[k]? := fun k hk => by
    rw [h3]
    rw [Below.heap_setCell _ ⟨g, 0, none⟩ _ k hk, Below.heap_setCell _ ⟨g, 1, none⟩ _ k hk]
  have hT := hO.take_ hp1
  have hob : (Value.slice A0 (l * size) c).ownBlock = (Value.slice A0 b1.length c).ownBlock := by cases A0 <;> rfl
  refine ⟨⟨⟨_, (h3 g).trans (by simpa using k2), hT.step (fun k hk => e1 k (fun e => hne (by rw [← hob, hk, e]))), fun k hk => hF k (by rw [← hob]; exact hk)⟩, hg, by simp; omega, hs, hl⟩, ?_⟩
  refine ⟨h4.trans hfr.os, h5.trans hfr.tape, h6.trans hfr.output, by rw [hsz]; exact hfr.size, fun k hk hn => ?_⟩
  rw [e1 k (fun e => hn (by rw [e]; exact hg))]
  exact hfr.block k hk (fun hS => hn (hF k hS))

set_option maxRecDepth 100000 in
set_option maxHeartbeats 4000000 in
theorem drop_calls {W : World} {g rows size : Nat} {F : Nat → Prop} {b : List Int} (h : Col W g F b rows size) (i : Int) :
    Calls Tryd.prog 51 #[.pointer (some ⟨g, 0, none⟩), .int .i64 i] W (Told1 (atE rows i) W fun w' => Col w' g F ((layB b (i.toNat * size) (rowB b (rows - 1) size)).take ((rows - 1) * size)) (rows - 1) size ∧ Fr F W w') := by
  have hat := Aside0.mk (at_calls h i)
  obtain ⟨⟨v, hb, ho, hF⟩, hg, hl, hs, hr⟩ := h
  have hu := Tryd.underlying97
  by_cases he : atE rows i = 0
  · rw [he] at hat ⊢
    obtain ⟨k, rfl, hk⟩ := at_zero he
    obtain ⟨l, rfl⟩ : ∃ l, rows = l + 1 := ⟨rows - 1, by omega⟩
    obtain ⟨R, hR⟩ : ∃ R : Nat, R = l + 1 := ⟨_, rfl⟩
    have hc1 : W.cell? ⟨g, 1, none⟩ = some (.int .i64 R) := by rw [hR]; exact (blk_cell hb 1).trans rfl
    have hrow := Aside0.mk (row_calls' hb ho hl hr hs)
    have hil := Aside0.mk (nat_mul_le (size := size) (show l < l + 1 by omega))
    have hik := Aside0.mk (nat_mul_le (size := size) hk)
    have hw1 : IntKind.i64.wrap ((R : Int) - 1) = (l : Int) := by rw [IntKind.wrap_i64, hR]; omega
    have hk1 : (k : Int) < ((l + 1 : Nat) : Int) := by omega
    have hk0 : (0 : Int) ≤ k := by omega
    have hRR := Aside0.mk hR
    have HO := Aside0.mk ho
    have HB := Aside0.mk hb
    have HL := Aside0.mk hl
    have HS := Aside0.mk hs
    have HR := Aside0.mk hr
    have HK1 := Aside0.mk hk1
    clear hb ho hl hs hr he hk hR hk1
    go_enter Tryd.func51, Tryd.ntmps51
    go_wp2_with fail
    refine hat.out.mono ?_
    rintro e w' ⟨rfl, rfl⟩
    go_wp2_with fail
    go_region_law (first
      | (refine copy_step (i := k) (j := l) rfl (.tmp 14) (.tmp 21) rfl rfl rfl rfl HO.out (by have := HL.out; have := hik.out; omega) (by have := HL.out; have := hil.out; omega) (by assumption) (by assumption) ?_; intro x W1 hO1 hF1)
      | (go_simp; go_at_call 69; (with_reducible refine (hrow.out (k : Int) ?h0 ?h1 _ ?hW).mono ?_); (case h0 => omega); (case h1 => exact HK1.out); (case hW => rfl); rintro e w' ⟨A, rfl, ⟨hA⟩, n, rfl⟩; simp only [Int.toNat_natCast] at hA)
      | (go_simp; go_at_call 69; (with_reducible refine (hrow.out (l : Int) ?g0 ?g1 _ ?gW).mono ?_); (case g0 => omega); (case g1 => omega); (case gW => rfl); rintro e w' ⟨A, rfl, ⟨hA⟩, n, rfl⟩; simp only [Int.toNat_natCast] at hA))
    all_goals
      clear hw1 hat hrow
      obtain ⟨n1, hfr⟩ : ∃ n1 : Nat, Fr (fun k => v.ownBlock = some k) (W.drewN n1) W1 := ⟨_, hF1.out⟩
      have hfr : Fr (fun k => v.ownBlock = some k) W W1 := ⟨hfr.os, hfr.tape, hfr.output, hfr.size, hfr.block⟩
      have hb1 : W1.heap[g]? = some (.cells #[v, .int .i64 R, .int .i64 size] 127 (0, 0)) := by
        rw [hfr.block g (heap_lt' HB.out) (fun he => HO.out.ne_blk HB.out (by decide) he), hRR.out]
        exact HB.out
      have hpl : l * size ≤ b.length := by have := HL.out; have := hil.out; omega
      have hlb : (layB b (k * size) (rowB b l size)).length = b.length := layB_length (by rw [rowB_length (by have := HL.out; have := hil.out; omega)]; have := HL.out; have := hik.out; omega)
      have hO2 := hO1.out
      obtain ⟨A0, c, hv, hcl, hcm⟩ := hO2.len
      obtain ⟨p, hp⟩ : ∃ p : Nat, p = l * size := ⟨_, rfl⟩
      have HEND := Aside0.mk (drop_end (l := l) (g := g) (F := F) (F0 := F) (p := p) hfr hb1 hO2 hv hF hg HS.out (by have := HR.out; omega) (by rw [hlb]; exact hpl) hp)
      have hsl := Aside0.mk (run_slice_to (P := Tryd.prog) Tryd.underlying37 (s := 1) (fun w => by kernel_rfl) A0 b.length c p (by have := HL.out; rw [hlb] at hcl; omega))
      have hmul : IntKind.i64.wrap ((l : Int) * (size : Int)) = (p : Int) := by rw [hp]; exact wrap_mul l size (by have := HL.out; have := Nat.mul_le_mul HR.out HS.out; omega)
      have hsub : (R : Int) - 1 = (l : Int) := by rw [hRR.out]; omega
      have hR1 : (1 : Int) ≤ R := by rw [hRR.out]; omega
      have hR2 : (R : Int) ≤ 1024 := by rw [hRR.out]; have := HR.out; omega
      obtain ⟨n0, hn0⟩ : ∃ n0, (layB b (k * size) (rowB b l size)).length = n0 := ⟨_, rfl⟩
      rw [hn0] at hv
      rw [hlb] at hn0
      rw [hn0] at hsl
      have hslo := hsl.out
      have k0 : W1.cell? ⟨g, 0, none⟩ = some (.slice A0 n0 c) := by rw [← hv]; exact (blk_cell hb1 0).trans rfl
      have k1 : W1.cell? ⟨g, 1, none⟩ = some (.int .i64 R) := (blk_cell hb1 1).trans rfl
      have k2 : W1.cell? ⟨g, 2, none⟩ = some (.int .i64 size) := (blk_cell hb1 2).trans rfl
      have f0 := blk_frozen hb1 0
      have f1 := blk_frozen hb1 1
      clear hsl hn0 hv hp hcl hcm hO2 hlb hpl hb1 hfr hO1 hF1 HK1 hik hil hF hc1 HO HB HL HS HR hRR
      go_wp2
      go_region
      go_wp2
      go_ret
      have hend := HEND.out ((W1.setCell ⟨g, 1, none⟩ (.int .i64 l)).setCell ⟨g, 0, none⟩ (.slice A0 p c)).drew (fun _ => rfl) (by simp [World.setCell, World.drew]) rfl rfl rfl
      exact Told1.yes rfl rfl (by simpa using hend)
  · rw [at_two he] at hat ⊢
    clear hb ho hl hs hr he
    go_enter Tryd.func51, Tryd.ntmps51
    go_wp2_with fail
    refine hat.out.mono ?_
    rintro e w' ⟨rfl, rfl⟩
    go_wp2
    go_ret
    exact Told1.no (by decide) rfl
end Go.Proofs.YtnhejenjpomhdaaDoor.Col
