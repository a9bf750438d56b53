/- A column loaded (column.Load). -/
import Derived.Test.YtnhejenjpomhdaaDoorTbTNew
namespace Go.Proofs.YtnhejenjpomhdaaDoor.Tab
open Go.RowKit Go.Proofs.YtnhejenjpomhdaaDoorW.PrintWords Go.Proofs.YtnhejenjpomhdaaDoorW.PrintLast Go.Proofs.YtnhejenjpomhdaaDoorW.PrintMore Go.Proofs.YtnhejenjpomhdaaDoor.Mem Go.Proofs.YtnhejenjpomhdaaDoor.Col Go.Proofs.YtnhejenjpomhdaaDoor.Bits Go.Proofs.YtnhejenjpomhdaaDoor.Data Go.Proofs.YtnhejenjpomhdaaDoor.Mp Go.Proofs.YtnhejenjpomhdaaDoor.PTableLoads
set_option linter.unusedVariables false
set_option linter.unusedSimpArgs false

/-- The column is n rows of the size's bytes, or an error is told. -/
def CLoad (W : World) (z n : Nat) (d : List Int) (e : Ending) (w' : World) : Prop :=
  (d.length = n * z ∧ ∃ q, e = .returned (.tuple #[.pointer (some ⟨q, 0, none⟩), .int .i64 0]) ∧ Col w' q (fun k => W.heap.size ≤ k) d n z) ∨ (d.length ≠ n * z ∧ e = .returned (.tuple #[.pointer none, .int .i64 11]))

set_option maxHeartbeats 1000000 in
set_option maxRecDepth 100000 in
theorem cload_calls (a : Int) (n : Nat) (hn : n ≤ 1024) (A : Option Addr) (c : Nat) (d : List Int) (W : World) (hd : Kd.C (Kd.int .u8) W A d.length d) :
    Calls Tryd.prog 47 #[.int .i64 a, .int .i64 n, .slice A d.length c] W fun e w' => CLoad W (clampN a) n d e w' ∧ Below W.heap.size W w' := by
  have hu := Tryd.underlying97
  have hz := clampN_le a
  have hle := Nat.mul_le_mul hn hz
  have hmul := wrap_mul n (clampN a) (by omega)
  have HN := Aside0.mk (new_col a W)
  obtain ⟨z, hzz⟩ : ∃ z, clampN a = z := ⟨_, rfl⟩
  rw [hzz] at hz hle hmul HN ⊢
  have HZ := Aside0.mk hz
  have HD := Aside0.mk hd
  have HNN := Aside0.mk hn
  have h0 : decide ((n : Int) < 0) = false := decide_eq_false (by omega)
  have h1 : decide ((1024 : Int) < (n : Int)) = false := decide_eq_false (by omega)
  by_cases he : d.length = n * z
  · have q1 : ((d.length : Int) != ((n * z : Nat) : Int)) = false := by simp [he]
    have HE := Aside0.mk he
    have HL := Aside0.mk (show d.length ≤ 140737488355328 by omega)
    obtain ⟨p, hp⟩ : ∃ p, n * z = p := ⟨_, rfl⟩
    rw [hp] at hmul q1
    clear hzz hz hle hd hn he hp
    go_enter Tryd.func47, Tryd.ntmps47
    go_wp2_with fail
    refine HN.out.mono ?_
    rintro e w1 ⟨rfl, hCol, hB1⟩
    obtain ⟨⟨v, hb, ho, hF⟩, _⟩ := hCol
    have hc2 : w1.cell? ⟨W.heap.size, 2, none⟩ = some (.int .i64 z) := (blk_cell hb 2).trans rfl
    have HB := Aside0.mk hb
    have HB1 := Aside0.mk hB1
    have HC := Aside0.mk (clone_b A c d w1 (Kd.C_below HD.out hB1) HL.out)
    have hlt := heap_lt' hb
    clear hb ho hF hB1
    go_wp2_with fail
    refine HC.out.mono ?_
    rintro e w2 ⟨v2, rfl, hR2, hB2⟩
    have hb2 := (hB2.block _ hlt).trans HB.out
    have k0 := (blk_cell hb2 0).trans rfl
    have k1 := (blk_cell hb2 1).trans rfl
    have f0 := blk_frozen hb2 0
    have f1 := blk_frozen hb2 1
    have HBB := Aside0.mk hb2
    have HBA := Aside0.mk (below_step HB1.out hB2)
    have HR2 := Aside0.mk hR2
    have HS2 := Aside0.mk hB2.size
    obtain ⟨A2, c2, rfl⟩ := Kd.R_slice hR2
    obtain ⟨nl, hnl⟩ : ∃ nl, d.length = nl := ⟨_, rfl⟩
    have HV := Aside0.mk (OwnB_of_R (Kd.R_lower hR2 (Nat.zero_le _)))
    have HOWN := Aside0.mk (show ∀ k, (Value.slice A2 d.length c2).ownBlock = some k → W.heap.size ≤ k from fun k hk => by
      have ho := Kd.own_of_R (h1 := fun _ => rfl) hR2
      rcases ho.2 with ⟨h1, _⟩ | ⟨gb, cap, cur, h1, h2, _⟩
      · rw [h1] at hk; simp [Value.ownBlock] at hk
      · rw [h1] at hk
        simp only [Value.ownBlock] at hk
        injection hk with hk
        have := HB1.out.size
        omega)
    rw [hnl] at HV HOWN
    rw [hnl]
    clear hb2 hR2 hB2 hnl
    go_wp2
    go_ret2
    have hp := col_put (r1 := (n : Int)) HBB.out HV.out
    obtain ⟨p1, p2, p3⟩ := hp
    refine ⟨.inl ⟨HE.out, _, rfl, ⟨⟨_, p1, p2, HOWN.out⟩, Nat.le_refl _, HE.out, HZ.out, HNN.out⟩⟩, ?_⟩
    exact ((Fr.of_below HBA.out None_).then_ p3 (fun k hk => .inr (by omega))).toBelow0
  · have q1 : ((d.length : Int) != ((n * z : Nat) : Int)) = true := by simp; omega
    have HE := Aside0.mk he
    obtain ⟨p, hp⟩ : ∃ p, n * z = p := ⟨_, rfl⟩
    rw [hp] at hmul q1
    clear hzz hz hle hd hn he hp
    go_enter Tryd.func47, Tryd.ntmps47
    go_wp2_with fail
    refine HN.out.mono ?_
    rintro e w1 ⟨rfl, hCol, hB1⟩
    obtain ⟨⟨v, hb, ho, hF⟩, _⟩ := hCol
    have hc2 : w1.cell? ⟨W.heap.size, 2, none⟩ = some (.int .i64 z) := (blk_cell hb 2).trans rfl
    have HB1 := Aside0.mk hB1
    clear hb ho hF hB1
    go_wp2
    go_ret2
    exact ⟨.inr ⟨HE.out, rfl⟩, HB1.out⟩

end Go.Proofs.YtnhejenjpomhdaaDoor.Tab
