/- The law's 'do': a step of the program's table, over contents. (printed by wip/gendo.py) -/
import Derived.Test.YtnhejenjpomhdaaDoorTbGoT
import Derived.Laws.Rows
import Derived.StillTailTactics
namespace Go.Proofs.YtnhejenjpomhdaaDoor.TRows
open Go.RowKit Go.Proofs.YtnhejenjpomhdaaDoorW.PrintWords Go.Proofs.YtnhejenjpomhdaaDoorW.PrintLast Go.Proofs.YtnhejenjpomhdaaDoorW.PrintMore Go.Proofs.YtnhejenjpomhdaaDoor.Mem Go.Proofs.YtnhejenjpomhdaaDoor.Col Go.Proofs.YtnhejenjpomhdaaDoor.Bits Go.Proofs.YtnhejenjpomhdaaDoor.Data Go.Proofs.YtnhejenjpomhdaaDoor.Mp Go.Proofs.YtnhejenjpomhdaaDoor.Tab Go.Proofs.YtnhejenjpomhdaaDoor.Ref Go.Proofs.YtnhejenjpomhdaaDoor.PTableLoads
set_option linter.unusedVariables false
set_option linter.unusedSimpArgs false

theorem code_calls (x : Int) (W : World) : Calls Tryd.prog 22 #[.int .i64 x] W fun e w' => e = .returned (.int .i64 x) ∧ W = w' := by
  go_enter Tryd.func22, Tryd.ntmps22
  go_wp2
  go_ret
  exact ⟨rfl, rfl⟩

def DoTold (W : World) (g : Nat) (F : Nat → Prop) (r : TabS × ToldS) (e : Ending) (w' : World) : Prop :=
  ∃ tv F', e = .returned tv ∧ IsTab w' g F' r.1 ∧ Step F F' W w' ∧ IsTold w' (fun k => W.heap.size ≤ k) tv r.2
theorem told_put {w : World} {g5 : Nat} {b0 b1 b2 b3 b4 b5 y0 y1 y2 y3 y4 y5 : Value} (h5 : w.heap[g5]? = some (.cells #[b0, b1, b2, b3, b4, b5] 42 (0, 0))) :
    ∀ w', ((((((w.setCell ⟨g5, 0, none⟩ y0).setCell ⟨g5, 1, none⟩ y1).setCell ⟨g5, 2, none⟩ y2).setCell ⟨g5, 3, none⟩ y3).setCell ⟨g5, 4, none⟩ y4).setCell ⟨g5, 5, none⟩ y5) = w' →
    w'.heap[g5]? = some (.cells #[y0, y1, y2, y3, y4, y5] 42 (0, 0)) ∧ Fr (fun k => k = g5) w w' := by
  rintro w' rfl
  have k6 := blk_set (blk_set (blk_set (blk_set (blk_set (blk_set h5 0 y0) 1 y1) 2 y2) 3 y3) 4 y4) 5 y5
  refine ⟨by simpa using k6, ?_⟩
  exact ((((((Fr.refl (fun k => k = g5) w).setCell (p := ⟨g5, 0, none⟩) (.inl rfl) y0).setCell (p := ⟨g5, 1, none⟩) (.inl rfl) y1).setCell (p := ⟨g5, 2, none⟩) (.inl rfl) y2).setCell (p := ⟨g5, 3, none⟩) (.inl rfl) y3).setCell (p := ⟨g5, 4, none⟩) (.inl rfl) y4).setCell (p := ⟨g5, 5, none⟩) (.inl rfl) y5
theorem do_end {W W2 w1 w' : World} {g : Nat} {F F2 F1 : Nat → Prop} {T : TabS} {td : ToldS} {tv : Value} (hB : Below W.heap.size W W2) (hS : W2.heap.size = W.heap.size + 1 + 1) (hi : IsTab w1 g F1 T) (hs : Step F2 F1 W2 w1) (hF2 : ∀ k, F2 k → F k ∧ k < W.heap.size)
    (tf : Fr (fun k => k = W.heap.size + 1) w1 w') (ht : IsTold w' (fun k => W.heap.size ≤ k) tv td) : DoTold W g F (T, td) (.returned tv) w' := by
  have hne : ∀ k, F1 k → k ≠ W.heap.size + 1 := fun k hk => by
    rcases hs.up k hk with h | h
    · have := (hF2 k h).2; omega
    · omega
  refine ⟨tv, F1, rfl, hi.fr tf (fun k hk e => hne k hk e), ⟨fun k hk => ?_, ?_⟩, ht⟩
  · rcases hs.up k hk with h | h
    · exact .inl (hF2 k h).1
    · exact .inr (by omega)
  · exact ((Fr.of_below hB F).then_ hs.fr (fun k hk => .inl (hF2 k hk).1)).then_ tf (fun k hk => .inr (by omega))
theorem step_below {W w : World} {F : Nat → Prop} (h : Below W.heap.size W w) : Step F F W w := ⟨fun _ h => .inl h, Fr.of_below h F⟩

set_option maxHeartbeats 4000000 in
set_option maxRecDepth 100000 in
theorem do_set {W : World} {g : Nat} {F ok : Nat → Prop} {t : TabS} (h : IsTab W g F t) (hT : Tab W) (s : Step_) (AP : Option Addr) (cP : Nat) (HP : Kd.F k90 W ok AP s.f2.length s.f2) (AD : Option Addr) (cD : Nat) (HD : Kd.F (Kd.int .u8) W ok AD s.f5.length s.f5) (hok : ∀ k, ok k → ¬ F k) (h1 : s.f0 = 1) :
    Calls Tryd.prog 12 #[.pointer (some ⟨g, 0, none⟩), .agg #[.int .i64 s.f0, .int .i64 s.f1.f0, .int .i64 s.f1.f1, .slice AP s.f2.length cP, .int .i64 s.f3, .int .i64 s.f4, .slice AD s.f5.length cD]] W (DoTold W g F (goT t s)) := by
  have hu42 := Tryd.underlying42
  have hu45 := Tryd.underlying45
  have hu40 := Tryd.underlying40
  have e1 := heap_alloc_new W (.cells #[.int .i64 s.f0, .int .i64 s.f1.f0, .int .i64 s.f1.f1, .slice AP s.f2.length cP, .int .i64 s.f3, .int .i64 s.f4, .slice AD s.f5.length cD] 45)
  obtain ⟨w1, hw1⟩ : ∃ w1, W.alloc (.cells #[.int .i64 s.f0, .int .i64 s.f1.f0, .int .i64 s.f1.f1, .slice AP s.f2.length cP, .int .i64 s.f3, .int .i64 s.f4, .slice AD s.f5.length cD] 45) = w1 := ⟨_, rfl⟩
  have s1 : w1.heap.size = W.heap.size + 1 := by rw [← hw1]; simp
  have b1 : Below W.heap.size W w1 := by rw [← hw1]; exact (Below.refl _ _).alloc (Nat.le_refl _) _
  rw [hw1] at e1
  have e2 := heap_alloc_new w1 (.cells #[.slice none 0 0, .slice none 0 0, .int .i64 0, .int .i64 0, .bool false, .int .i64 0] 42)
  have b2 := (Below.refl w1.heap.size w1).alloc (Nat.le_refl _) (.cells #[.slice none 0 0, .slice none 0 0, .int .i64 0, .int .i64 0, .bool false, .int .i64 0] 42)
  have s2 : (w1.alloc (.cells #[.slice none 0 0, .slice none 0 0, .int .i64 0, .int .i64 0, .bool false, .int .i64 0] 42)).heap.size = w1.heap.size + 1 := by simp
  rw [← hw1] at e2 b2 s2
  obtain ⟨W2, hW2⟩ : ∃ W2, ((W.alloc (.cells #[.int .i64 s.f0, .int .i64 s.f1.f0, .int .i64 s.f1.f1, .slice AP s.f2.length cP, .int .i64 s.f3, .int .i64 s.f4, .slice AD s.f5.length cD] 45)).alloc (.cells #[.slice none 0 0, .slice none 0 0, .int .i64 0, .int .i64 0, .bool false, .int .i64 0] 42)) = W2 := ⟨_, rfl⟩
  rw [hW2, hw1] at e2 b2 s2
  rw [s1] at e2 s2
  have hB2 : Below W.heap.size W W2 := ((Fr.of_below b1 None_).below_ b2).toBelow0
  have hL2 : W2.heap[W.heap.size]? = some (.cells #[.int .i64 s.f0, .int .i64 s.f1.f0, .int .i64 s.f1.f1, .slice AP s.f2.length cP, .int .i64 s.f3, .int .i64 s.f4, .slice AD s.f5.length cD] 45 (0, 0)) := (b2.block _ (by omega)).trans e1
  have hL3 : W2.heap[W.heap.size + 1]? = some (.cells #[.slice none 0 0, .slice none 0 0, .int .i64 0, .int .i64 0, .bool false, .int .i64 0] 42 (0, 0)) := e2
  have h2 : IsTab W2 g (fun k => F k ∧ k < W.heap.size) t := h.bound.move (fun k hk hlt => hB2.block k hk.2)
  have hT2 : Tab W2 := hT.below hB2
  have HW := Aside0.mk hW2
  have HB2 := Aside0.mk hB2
  have HL3 := Aside0.mk hL3
  have HS2 := Aside0.mk s2
  have q20 : W2.cell? ⟨W.heap.size, 0, none⟩ = some (.int .i64 s.f0) := (blk_cell hL2 0).trans rfl
  have q21 : W2.cell? ⟨W.heap.size, 1, none⟩ = some (.int .i64 s.f1.f0) := (blk_cell hL2 1).trans rfl
  have q22 : W2.cell? ⟨W.heap.size, 2, none⟩ = some (.int .i64 s.f1.f1) := (blk_cell hL2 2).trans rfl
  have q23 : W2.cell? ⟨W.heap.size, 3, none⟩ = some (.slice AP s.f2.length cP) := (blk_cell hL2 3).trans rfl
  have q24 : W2.cell? ⟨W.heap.size, 4, none⟩ = some (.int .i64 s.f3) := (blk_cell hL2 4).trans rfl
  have q25 : W2.cell? ⟨W.heap.size, 5, none⟩ = some (.int .i64 s.f4) := (blk_cell hL2 5).trans rfl
  have q26 : W2.cell? ⟨W.heap.size, 6, none⟩ = some (.slice AD s.f5.length cD) := (blk_cell hL2 6).trans rfl
  have hgW : g < W.heap.size := h.lt
  have hb1 : (s.f0 == 1) = true := by simp [h1]
  have hset := tset_calls (cD := cD) h2 s.f3 s.f4 ((Kd.F_below HD HB2.out).now)
  have HG := Aside0.mk (show ((tsetE t s.f3 s.f4 s.f5.length ≠ 0 ∧ goT t s = (t, errT (tsetE t s.f3 s.f4 s.f5.length))) ∨ (tsetE t s.f3 s.f4 s.f5.length = 0 ∧ goT t s = (setT t s.f3 s.f4 s.f5, errT (tsetE t s.f3 s.f4 s.f5.length)))) from goT_set h1)
  obtain ⟨er, her⟩ : ∃ e, tsetE t s.f3 s.f4 s.f5.length = e := ⟨_, rfl⟩
  rw [her] at hset HG
  have HSET := Aside0.mk hset
  have H2 := Aside0.mk h2
  clear hset her h1
  clear e1 e2 b1 b2 s1 s2 hw1 hW2 hB2 hL2 hL3 h2 hT2 h hT
  go_enter Tryd.func12, Tryd.ntmps12
  go_wp2_with (rw [HW.out])
  refine HSET.out.mono ?_
  rintro e w3 ⟨rfl, hcase⟩
  have hfr : Fr (fun k => F k ∧ k < W.heap.size) W2 w3 := by
    rcases hcase with ⟨_, rfl⟩ | ⟨_, _, hf⟩
    · exact Fr.refl _ _
    · exact hf
  have hb5 := (hfr.block _ (heap_lt' HL3.out) (fun hk => by have := hk.2; omega)).trans HL3.out
  have HC := Aside0.mk hcase
  have t50 : w3.cell? ⟨W.heap.size + 1, 0, none⟩ = some (.slice none 0 0) := (blk_cell hb5 0).trans rfl
  have t51 : w3.cell? ⟨W.heap.size + 1, 1, none⟩ = some (.slice none 0 0) := (blk_cell hb5 1).trans rfl
  have t52 : w3.cell? ⟨W.heap.size + 1, 2, none⟩ = some (.int .i64 0) := (blk_cell hb5 2).trans rfl
  have t53 : w3.cell? ⟨W.heap.size + 1, 3, none⟩ = some (.int .i64 0) := (blk_cell hb5 3).trans rfl
  have t54 : w3.cell? ⟨W.heap.size + 1, 4, none⟩ = some (.bool false) := (blk_cell hb5 4).trans rfl
  have t55 : w3.cell? ⟨W.heap.size + 1, 5, none⟩ = some (.int .i64 0) := (blk_cell hb5 5).trans rfl
  have f5 := blk_frozen hb5
  have HB5 := Aside0.mk hb5

  clear hfr hb5 hcase q20 q21 q22 q23 q24 q25 q26
  go_wp2_with fail
  refine (code_calls _ _).mono ?_
  rintro e w4 ⟨rfl, rfl⟩
  go_wp2
  obtain ⟨t5, tf⟩ := told_put HB5.out _ rfl
  refine bodyPost_ret (results_cell_row rfl _ _ _ _ _ _ _ rfl t5 hu42 rfl (by kernel_rfl)) rfl ?_
  rcases HC.out with ⟨h1, rfl⟩ | ⟨h1, h2, h3⟩
  · rcases HG.out with ⟨_, hg⟩ | ⟨h, _⟩
    · rw [hg]
      exact do_end HB2.out HS2.out H2.out (Step.refl _ _) (fun k hk => hk) tf (IsTold.err er)
    · exact absurd h h1
  · rcases HG.out with ⟨h, _⟩ | ⟨_, hg⟩
    · exact absurd h1 h
    · rw [hg]
      exact do_end HB2.out HS2.out h2 ⟨fun _ hk => .inl hk, h3⟩ (fun k hk => hk) tf (IsTold.err er)

set_option maxHeartbeats 4000000 in
set_option maxRecDepth 100000 in
theorem do_get {W : World} {g : Nat} {F ok : Nat → Prop} {t : TabS} (h : IsTab W g F t) (hT : Tab W) (s : Step_) (AP : Option Addr) (cP : Nat) (HP : Kd.F k90 W ok AP s.f2.length s.f2) (AD : Option Addr) (cD : Nat) (HD : Kd.F (Kd.int .u8) W ok AD s.f5.length s.f5) (hok : ∀ k, ok k → ¬ F k) (h1 : s.f0 = 2) :
    Calls Tryd.prog 12 #[.pointer (some ⟨g, 0, none⟩), .agg #[.int .i64 s.f0, .int .i64 s.f1.f0, .int .i64 s.f1.f1, .slice AP s.f2.length cP, .int .i64 s.f3, .int .i64 s.f4, .slice AD s.f5.length cD]] W (DoTold W g F (goT t s)) := by
  have hu42 := Tryd.underlying42
  have hu45 := Tryd.underlying45
  have hu40 := Tryd.underlying40
  have e1 := heap_alloc_new W (.cells #[.int .i64 s.f0, .int .i64 s.f1.f0, .int .i64 s.f1.f1, .slice AP s.f2.length cP, .int .i64 s.f3, .int .i64 s.f4, .slice AD s.f5.length cD] 45)
  obtain ⟨w1, hw1⟩ : ∃ w1, W.alloc (.cells #[.int .i64 s.f0, .int .i64 s.f1.f0, .int .i64 s.f1.f1, .slice AP s.f2.length cP, .int .i64 s.f3, .int .i64 s.f4, .slice AD s.f5.length cD] 45) = w1 := ⟨_, rfl⟩
  have s1 : w1.heap.size = W.heap.size + 1 := by rw [← hw1]; simp
  have b1 : Below W.heap.size W w1 := by rw [← hw1]; exact (Below.refl _ _).alloc (Nat.le_refl _) _
  rw [hw1] at e1
  have e2 := heap_alloc_new w1 (.cells #[.slice none 0 0, .slice none 0 0, .int .i64 0, .int .i64 0, .bool false, .int .i64 0] 42)
  have b2 := (Below.refl w1.heap.size w1).alloc (Nat.le_refl _) (.cells #[.slice none 0 0, .slice none 0 0, .int .i64 0, .int .i64 0, .bool false, .int .i64 0] 42)
  have s2 : (w1.alloc (.cells #[.slice none 0 0, .slice none 0 0, .int .i64 0, .int .i64 0, .bool false, .int .i64 0] 42)).heap.size = w1.heap.size + 1 := by simp
  rw [← hw1] at e2 b2 s2
  obtain ⟨W2, hW2⟩ : ∃ W2, ((W.alloc (.cells #[.int .i64 s.f0, .int .i64 s.f1.f0, .int .i64 s.f1.f1, .slice AP s.f2.length cP, .int .i64 s.f3, .int .i64 s.f4, .slice AD s.f5.length cD] 45)).alloc (.cells #[.slice none 0 0, .slice none 0 0, .int .i64 0, .int .i64 0, .bool false, .int .i64 0] 42)) = W2 := ⟨_, rfl⟩
  rw [hW2, hw1] at e2 b2 s2
  rw [s1] at e2 s2
  have hB2 : Below W.heap.size W W2 := ((Fr.of_below b1 None_).below_ b2).toBelow0
  have hL2 : W2.heap[W.heap.size]? = some (.cells #[.int .i64 s.f0, .int .i64 s.f1.f0, .int .i64 s.f1.f1, .slice AP s.f2.length cP, .int .i64 s.f3, .int .i64 s.f4, .slice AD s.f5.length cD] 45 (0, 0)) := (b2.block _ (by omega)).trans e1
  have hL3 : W2.heap[W.heap.size + 1]? = some (.cells #[.slice none 0 0, .slice none 0 0, .int .i64 0, .int .i64 0, .bool false, .int .i64 0] 42 (0, 0)) := e2
  have h2 : IsTab W2 g (fun k => F k ∧ k < W.heap.size) t := h.bound.move (fun k hk hlt => hB2.block k hk.2)
  have hT2 : Tab W2 := hT.below hB2
  have HW := Aside0.mk hW2
  have HB2 := Aside0.mk hB2
  have HL3 := Aside0.mk hL3
  have HS2 := Aside0.mk s2
  have q20 : W2.cell? ⟨W.heap.size, 0, none⟩ = some (.int .i64 s.f0) := (blk_cell hL2 0).trans rfl
  have q21 : W2.cell? ⟨W.heap.size, 1, none⟩ = some (.int .i64 s.f1.f0) := (blk_cell hL2 1).trans rfl
  have q22 : W2.cell? ⟨W.heap.size, 2, none⟩ = some (.int .i64 s.f1.f1) := (blk_cell hL2 2).trans rfl
  have q23 : W2.cell? ⟨W.heap.size, 3, none⟩ = some (.slice AP s.f2.length cP) := (blk_cell hL2 3).trans rfl
  have q24 : W2.cell? ⟨W.heap.size, 4, none⟩ = some (.int .i64 s.f3) := (blk_cell hL2 4).trans rfl
  have q25 : W2.cell? ⟨W.heap.size, 5, none⟩ = some (.int .i64 s.f4) := (blk_cell hL2 5).trans rfl
  have q26 : W2.cell? ⟨W.heap.size, 6, none⟩ = some (.slice AD s.f5.length cD) := (blk_cell hL2 6).trans rfl
  have hgW : g < W.heap.size := h.lt
  have hb1 : (s.f0 == 1) = false := by simp [h1]
  have hb2 : (s.f0 == 2) = true := by simp [h1]
  have hget := tget_calls h2 s.f3 s.f4
  have HG := Aside0.mk (goT_get (t := t) h1)
  obtain ⟨er, her⟩ : ∃ e, colE t s.f3 s.f4 = e := ⟨_, rfl⟩
  rw [her] at hget HG
  obtain ⟨dt, hdt⟩ : ∃ d, (if er = 0 then rowB (t.cb s.f4.toNat) s.f3.toNat (t.cz s.f4.toNat) else []) = d := ⟨_, rfl⟩
  rw [hdt] at hget HG
  have HGET := Aside0.mk hget
  have H2 := Aside0.mk h2
  clear hget her hdt h1
  clear e1 e2 b1 b2 s1 s2 hw1 hW2 hB2 hL2 hL3 h2 hT2 h hT
  go_enter Tryd.func12, Tryd.ntmps12
  go_wp2_with (rw [HW.out])
  refine HGET.out.mono ?_
  rintro e w3 ⟨v, rfl, hR, hb3⟩
  have hb5 := (hb3.block _ (heap_lt' HL3.out)).trans HL3.out
  obtain ⟨A9, c9, rfl⟩ := Kd.R_slice hR
  obtain ⟨n9, hn9⟩ : ∃ n, dt.length = n := ⟨_, rfl⟩
  rw [hn9] at hR
  rw [hn9]
  have HN9 := Aside0.mk hn9
  have HR := Aside0.mk hR
  have HB3 := Aside0.mk hb3
  have t50 : w3.cell? ⟨W.heap.size + 1, 0, none⟩ = some (.slice none 0 0) := (blk_cell hb5 0).trans rfl
  have t51 : w3.cell? ⟨W.heap.size + 1, 1, none⟩ = some (.slice none 0 0) := (blk_cell hb5 1).trans rfl
  have t52 : w3.cell? ⟨W.heap.size + 1, 2, none⟩ = some (.int .i64 0) := (blk_cell hb5 2).trans rfl
  have t53 : w3.cell? ⟨W.heap.size + 1, 3, none⟩ = some (.int .i64 0) := (blk_cell hb5 3).trans rfl
  have t54 : w3.cell? ⟨W.heap.size + 1, 4, none⟩ = some (.bool false) := (blk_cell hb5 4).trans rfl
  have t55 : w3.cell? ⟨W.heap.size + 1, 5, none⟩ = some (.int .i64 0) := (blk_cell hb5 5).trans rfl
  have f5 := blk_frozen hb5
  have HB5 := Aside0.mk hb5

  clear hb5 hR hb3 hn9 q20 q21 q22 q23 q24 q25 q26
  go_wp2_with fail
  refine (code_calls _ _).mono ?_
  rintro e w4 ⟨rfl, rfl⟩
  go_wp2
  obtain ⟨t5, tf⟩ := told_put HB5.out _ rfl
  refine bodyPost_ret (results_cell_row rfl _ _ _ _ _ _ _ rfl t5 hu42 rfl (by kernel_rfl)) rfl ?_
  rw [HG.out]
  have hr := Kd.R_bound HR.out
  have hFd := Kd.F_step (Kd.R_F hr) (W1 := _) (fun k hk hlt => tf.block k hlt (fun e => by have := hk.2.1; have := HS2.out; omega))
  refine do_end HB2.out HS2.out (H2.out.below HB3.out) (step_below HB3.out) (fun k hk => hk) tf ⟨A9, c9, none, 0, by rw [HN9.out]; rfl, by rw [HN9.out]; exact (Kd.R_reads' HR.out).2.1, Nat.le_refl _, ?_, Kd.F_nil _ _ _⟩
  rw [HN9.out]
  exact Kd.F_mono hFd (fun k hk => by have := hk.2.1; have := HS2.out; omega)

set_option maxHeartbeats 4000000 in
set_option maxRecDepth 100000 in
theorem do_parts {W : World} {g : Nat} {F ok : Nat → Prop} {t : TabS} (h : IsTab W g F t) (hT : Tab W) (s : Step_) (AP : Option Addr) (cP : Nat) (HP : Kd.F k90 W ok AP s.f2.length s.f2) (AD : Option Addr) (cD : Nat) (HD : Kd.F (Kd.int .u8) W ok AD s.f5.length s.f5) (hok : ∀ k, ok k → ¬ F k) (h1 : s.f0 = 3) :
    Calls Tryd.prog 12 #[.pointer (some ⟨g, 0, none⟩), .agg #[.int .i64 s.f0, .int .i64 s.f1.f0, .int .i64 s.f1.f1, .slice AP s.f2.length cP, .int .i64 s.f3, .int .i64 s.f4, .slice AD s.f5.length cD]] W (DoTold W g F (goT t s)) := by
  have hu42 := Tryd.underlying42
  have hu45 := Tryd.underlying45
  have hu40 := Tryd.underlying40
  have e1 := heap_alloc_new W (.cells #[.int .i64 s.f0, .int .i64 s.f1.f0, .int .i64 s.f1.f1, .slice AP s.f2.length cP, .int .i64 s.f3, .int .i64 s.f4, .slice AD s.f5.length cD] 45)
  obtain ⟨w1, hw1⟩ : ∃ w1, W.alloc (.cells #[.int .i64 s.f0, .int .i64 s.f1.f0, .int .i64 s.f1.f1, .slice AP s.f2.length cP, .int .i64 s.f3, .int .i64 s.f4, .slice AD s.f5.length cD] 45) = w1 := ⟨_, rfl⟩
  have s1 : w1.heap.size = W.heap.size + 1 := by rw [← hw1]; simp
  have b1 : Below W.heap.size W w1 := by rw [← hw1]; exact (Below.refl _ _).alloc (Nat.le_refl _) _
  rw [hw1] at e1
  have e2 := heap_alloc_new w1 (.cells #[.slice none 0 0, .slice none 0 0, .int .i64 0, .int .i64 0, .bool false, .int .i64 0] 42)
  have b2 := (Below.refl w1.heap.size w1).alloc (Nat.le_refl _) (.cells #[.slice none 0 0, .slice none 0 0, .int .i64 0, .int .i64 0, .bool false, .int .i64 0] 42)
  have s2 : (w1.alloc (.cells #[.slice none 0 0, .slice none 0 0, .int .i64 0, .int .i64 0, .bool false, .int .i64 0] 42)).heap.size = w1.heap.size + 1 := by simp
  rw [← hw1] at e2 b2 s2
  obtain ⟨W2, hW2⟩ : ∃ W2, ((W.alloc (.cells #[.int .i64 s.f0, .int .i64 s.f1.f0, .int .i64 s.f1.f1, .slice AP s.f2.length cP, .int .i64 s.f3, .int .i64 s.f4, .slice AD s.f5.length cD] 45)).alloc (.cells #[.slice none 0 0, .slice none 0 0, .int .i64 0, .int .i64 0, .bool false, .int .i64 0] 42)) = W2 := ⟨_, rfl⟩
  rw [hW2, hw1] at e2 b2 s2
  rw [s1] at e2 s2
  have hB2 : Below W.heap.size W W2 := ((Fr.of_below b1 None_).below_ b2).toBelow0
  have hL2 : W2.heap[W.heap.size]? = some (.cells #[.int .i64 s.f0, .int .i64 s.f1.f0, .int .i64 s.f1.f1, .slice AP s.f2.length cP, .int .i64 s.f3, .int .i64 s.f4, .slice AD s.f5.length cD] 45 (0, 0)) := (b2.block _ (by omega)).trans e1
  have hL3 : W2.heap[W.heap.size + 1]? = some (.cells #[.slice none 0 0, .slice none 0 0, .int .i64 0, .int .i64 0, .bool false, .int .i64 0] 42 (0, 0)) := e2
  have h2 : IsTab W2 g (fun k => F k ∧ k < W.heap.size) t := h.bound.move (fun k hk hlt => hB2.block k hk.2)
  have hT2 : Tab W2 := hT.below hB2
  have HW := Aside0.mk hW2
  have HB2 := Aside0.mk hB2
  have HL3 := Aside0.mk hL3
  have HS2 := Aside0.mk s2
  have q20 : W2.cell? ⟨W.heap.size, 0, none⟩ = some (.int .i64 s.f0) := (blk_cell hL2 0).trans rfl
  have q21 : W2.cell? ⟨W.heap.size, 1, none⟩ = some (.int .i64 s.f1.f0) := (blk_cell hL2 1).trans rfl
  have q22 : W2.cell? ⟨W.heap.size, 2, none⟩ = some (.int .i64 s.f1.f1) := (blk_cell hL2 2).trans rfl
  have q23 : W2.cell? ⟨W.heap.size, 3, none⟩ = some (.slice AP s.f2.length cP) := (blk_cell hL2 3).trans rfl
  have q24 : W2.cell? ⟨W.heap.size, 4, none⟩ = some (.int .i64 s.f3) := (blk_cell hL2 4).trans rfl
  have q25 : W2.cell? ⟨W.heap.size, 5, none⟩ = some (.int .i64 s.f4) := (blk_cell hL2 5).trans rfl
  have q26 : W2.cell? ⟨W.heap.size, 6, none⟩ = some (.slice AD s.f5.length cD) := (blk_cell hL2 6).trans rfl
  have hgW : g < W.heap.size := h.lt
  have hb1 : (s.f0 == 1) = false := by simp [h1]
  have hb2 : (s.f0 == 2) = false := by simp [h1]
  have hb3 : (s.f0 == 3) = true := by simp [h1]
  have hget := parts_calls h2 hT2 s.f3
  have HG := Aside0.mk (goT_parts (t := t) h1)
  obtain ⟨er, her⟩ : ∃ e, atE t.ids.length s.f3 = e := ⟨_, rfl⟩
  rw [her] at hget HG
  obtain ⟨dt, hdt⟩ : ∃ d, (if er = 0 then partsT t s.f3.toNat else []) = d := ⟨_, rfl⟩
  rw [hdt] at hget HG
  have HGET := Aside0.mk hget
  have H2 := Aside0.mk h2
  clear hget her hdt h1
  clear e1 e2 b1 b2 s1 s2 hw1 hW2 hB2 hL2 hL3 h2 hT2 h hT
  go_enter Tryd.func12, Tryd.ntmps12
  go_wp2_with (rw [HW.out])
  refine HGET.out.mono ?_
  rintro e w3 ⟨v, rfl, hR, hb4⟩
  have hb5 := (hb4.block _ (heap_lt' HL3.out)).trans HL3.out
  obtain ⟨A9, c9, rfl⟩ := Kd.R_slice hR
  obtain ⟨n9, hn9⟩ : ∃ n, dt.length = n := ⟨_, rfl⟩
  rw [hn9] at hR
  rw [hn9]
  have HN9 := Aside0.mk hn9
  have HR := Aside0.mk hR
  have HB3 := Aside0.mk hb4
  have t50 : w3.cell? ⟨W.heap.size + 1, 0, none⟩ = some (.slice none 0 0) := (blk_cell hb5 0).trans rfl
  have t51 : w3.cell? ⟨W.heap.size + 1, 1, none⟩ = some (.slice none 0 0) := (blk_cell hb5 1).trans rfl
  have t52 : w3.cell? ⟨W.heap.size + 1, 2, none⟩ = some (.int .i64 0) := (blk_cell hb5 2).trans rfl
  have t53 : w3.cell? ⟨W.heap.size + 1, 3, none⟩ = some (.int .i64 0) := (blk_cell hb5 3).trans rfl
  have t54 : w3.cell? ⟨W.heap.size + 1, 4, none⟩ = some (.bool false) := (blk_cell hb5 4).trans rfl
  have t55 : w3.cell? ⟨W.heap.size + 1, 5, none⟩ = some (.int .i64 0) := (blk_cell hb5 5).trans rfl
  have f5 := blk_frozen hb5
  have HB5 := Aside0.mk hb5

  clear hb5 hR hb4 hn9 q20 q21 q22 q23 q24 q25 q26
  go_wp2_with fail
  refine (code_calls _ _).mono ?_
  rintro e w4 ⟨rfl, rfl⟩
  go_wp2
  obtain ⟨t5, tf⟩ := told_put HB5.out _ rfl
  refine bodyPost_ret (results_cell_row rfl _ _ _ _ _ _ _ rfl t5 hu42 rfl (by kernel_rfl)) rfl ?_
  rw [HG.out]
  have hr := Kd.R_bound HR.out
  have hFd := Kd.F_step (Kd.R_F hr) (W1 := _) (fun k hk hlt => tf.block k hlt (fun e => by have := hk.2.1; have := HS2.out; omega))
  refine do_end HB2.out HS2.out (H2.out.below HB3.out) (step_below HB3.out) (fun k hk => hk) tf ⟨none, 0, A9, c9, by rw [HN9.out]; rfl, Nat.le_refl _, by rw [HN9.out]; exact (Kd.R_reads' HR.out).2.1, Kd.F_nil _ _ _, ?_⟩
  rw [HN9.out]
  exact Kd.F_mono hFd (fun k hk => by have := hk.2.1; have := HS2.out; omega)

set_option maxHeartbeats 4000000 in
set_option maxRecDepth 100000 in
theorem do_add {W : World} {g : Nat} {F ok : Nat → Prop} {t : TabS} (h : IsTab W g F t) (hT : Tab W) (s : Step_) (AP : Option Addr) (cP : Nat) (HP : Kd.F k90 W ok AP s.f2.length s.f2) (AD : Option Addr) (cD : Nat) (HD : Kd.F (Kd.int .u8) W ok AD s.f5.length s.f5) (hok : ∀ k, ok k → ¬ F k) (h1 : s.f0 < 1 ∨ 4 < s.f0) :
    Calls Tryd.prog 12 #[.pointer (some ⟨g, 0, none⟩), .agg #[.int .i64 s.f0, .int .i64 s.f1.f0, .int .i64 s.f1.f1, .slice AP s.f2.length cP, .int .i64 s.f3, .int .i64 s.f4, .slice AD s.f5.length cD]] W (DoTold W g F (goT t s)) := by
  have hu42 := Tryd.underlying42
  have hu45 := Tryd.underlying45
  have hu40 := Tryd.underlying40
  have e1 := heap_alloc_new W (.cells #[.int .i64 s.f0, .int .i64 s.f1.f0, .int .i64 s.f1.f1, .slice AP s.f2.length cP, .int .i64 s.f3, .int .i64 s.f4, .slice AD s.f5.length cD] 45)
  obtain ⟨w1, hw1⟩ : ∃ w1, W.alloc (.cells #[.int .i64 s.f0, .int .i64 s.f1.f0, .int .i64 s.f1.f1, .slice AP s.f2.length cP, .int .i64 s.f3, .int .i64 s.f4, .slice AD s.f5.length cD] 45) = w1 := ⟨_, rfl⟩
  have s1 : w1.heap.size = W.heap.size + 1 := by rw [← hw1]; simp
  have b1 : Below W.heap.size W w1 := by rw [← hw1]; exact (Below.refl _ _).alloc (Nat.le_refl _) _
  rw [hw1] at e1
  have e2 := heap_alloc_new w1 (.cells #[.slice none 0 0, .slice none 0 0, .int .i64 0, .int .i64 0, .bool false, .int .i64 0] 42)
  have b2 := (Below.refl w1.heap.size w1).alloc (Nat.le_refl _) (.cells #[.slice none 0 0, .slice none 0 0, .int .i64 0, .int .i64 0, .bool false, .int .i64 0] 42)
  have s2 : (w1.alloc (.cells #[.slice none 0 0, .slice none 0 0, .int .i64 0, .int .i64 0, .bool false, .int .i64 0] 42)).heap.size = w1.heap.size + 1 := by simp
  rw [← hw1] at e2 b2 s2
  obtain ⟨W2, hW2⟩ : ∃ W2, ((W.alloc (.cells #[.int .i64 s.f0, .int .i64 s.f1.f0, .int .i64 s.f1.f1, .slice AP s.f2.length cP, .int .i64 s.f3, .int .i64 s.f4, .slice AD s.f5.length cD] 45)).alloc (.cells #[.slice none 0 0, .slice none 0 0, .int .i64 0, .int .i64 0, .bool false, .int .i64 0] 42)) = W2 := ⟨_, rfl⟩
  rw [hW2, hw1] at e2 b2 s2
  rw [s1] at e2 s2
  have hB2 : Below W.heap.size W W2 := ((Fr.of_below b1 None_).below_ b2).toBelow0
  have hL2 : W2.heap[W.heap.size]? = some (.cells #[.int .i64 s.f0, .int .i64 s.f1.f0, .int .i64 s.f1.f1, .slice AP s.f2.length cP, .int .i64 s.f3, .int .i64 s.f4, .slice AD s.f5.length cD] 45 (0, 0)) := (b2.block _ (by omega)).trans e1
  have hL3 : W2.heap[W.heap.size + 1]? = some (.cells #[.slice none 0 0, .slice none 0 0, .int .i64 0, .int .i64 0, .bool false, .int .i64 0] 42 (0, 0)) := e2
  have h2 : IsTab W2 g (fun k => F k ∧ k < W.heap.size) t := h.bound.move (fun k hk hlt => hB2.block k hk.2)
  have hT2 : Tab W2 := hT.below hB2
  have HW := Aside0.mk hW2
  have HB2 := Aside0.mk hB2
  have HL3 := Aside0.mk hL3
  have HS2 := Aside0.mk s2
  have q20 : W2.cell? ⟨W.heap.size, 0, none⟩ = some (.int .i64 s.f0) := (blk_cell hL2 0).trans rfl
  have q21 : W2.cell? ⟨W.heap.size, 1, none⟩ = some (.int .i64 s.f1.f0) := (blk_cell hL2 1).trans rfl
  have q22 : W2.cell? ⟨W.heap.size, 2, none⟩ = some (.int .i64 s.f1.f1) := (blk_cell hL2 2).trans rfl
  have q23 : W2.cell? ⟨W.heap.size, 3, none⟩ = some (.slice AP s.f2.length cP) := (blk_cell hL2 3).trans rfl
  have q24 : W2.cell? ⟨W.heap.size, 4, none⟩ = some (.int .i64 s.f3) := (blk_cell hL2 4).trans rfl
  have q25 : W2.cell? ⟨W.heap.size, 5, none⟩ = some (.int .i64 s.f4) := (blk_cell hL2 5).trans rfl
  have q26 : W2.cell? ⟨W.heap.size, 6, none⟩ = some (.slice AD s.f5.length cD) := (blk_cell hL2 6).trans rfl
  have hgW : g < W.heap.size := h.lt
  have hb1 : (s.f0 == 1) = false := by simp; omega
  have hb2 : (s.f0 == 2) = false := by simp; omega
  have hb3 : (s.f0 == 3) = false := by simp; omega
  have hb4 : (s.f0 == 4) = false := by simp; omega
  have hadd := tadd_calls h2 hT2 s.f1 AP cP s.f2 ((Foot.step (Foot.bound HP) (fun k hk hlt => HB2.out.block k hk.2)).mono (fun k hk hF => hok k hk.1 hF.1))
  have HG := Aside0.mk (show goT t s = (addT' t s.f1 s.f2, errT (taddE t s.f2)) by unfold goT; rw [if_pos h1])
  obtain ⟨er, her⟩ : ∃ e, taddE t s.f2 = e := ⟨_, rfl⟩
  have HER := Aside0.mk her
  rw [her] at hadd HG
  have HADD := Aside0.mk hadd
  have H2 := Aside0.mk h2
  clear hadd her h1
  clear e1 e2 b1 b2 s1 s2 hw1 hW2 hB2 hL2 hL3 h2 hT2 h hT
  go_enter Tryd.func12, Tryd.ntmps12
  go_wp2_with (rw [HW.out])
  refine HADD.out.mono ?_
  rintro e w3 ⟨rfl, hcase⟩
  have hst : ∃ F', IsTab w3 g F' (addT' t s.f1 s.f2) ∧ Step (fun k => F k ∧ k < W.heap.size) F' W2 w3 := by
    unfold addT'
    by_cases h0 : taddE t s.f2 = 0
    · rw [if_pos h0]
      exact hcase.1 h0
    · rw [if_neg h0]
      exact ⟨_, H2.out.below (hcase.2 h0), step_below (hcase.2 h0)⟩
  obtain ⟨F', hi, hst⟩ := hst
  have hb5 := (hst.fr.block _ (heap_lt' HL3.out) (fun hk => by have := hk.2; omega)).trans HL3.out
  have HC := Aside0.mk (And.intro hi hst)
  have t50 : w3.cell? ⟨W.heap.size + 1, 0, none⟩ = some (.slice none 0 0) := (blk_cell hb5 0).trans rfl
  have t51 : w3.cell? ⟨W.heap.size + 1, 1, none⟩ = some (.slice none 0 0) := (blk_cell hb5 1).trans rfl
  have t52 : w3.cell? ⟨W.heap.size + 1, 2, none⟩ = some (.int .i64 0) := (blk_cell hb5 2).trans rfl
  have t53 : w3.cell? ⟨W.heap.size + 1, 3, none⟩ = some (.int .i64 0) := (blk_cell hb5 3).trans rfl
  have t54 : w3.cell? ⟨W.heap.size + 1, 4, none⟩ = some (.bool false) := (blk_cell hb5 4).trans rfl
  have t55 : w3.cell? ⟨W.heap.size + 1, 5, none⟩ = some (.int .i64 0) := (blk_cell hb5 5).trans rfl
  have f5 := blk_frozen hb5
  have HB5 := Aside0.mk hb5

  clear hb5 hcase hi hst q20 q21 q22 q23 q24 q25 q26
  go_wp2_with fail
  refine (code_calls _ _).mono ?_
  rintro e w4 ⟨rfl, rfl⟩
  go_wp2
  obtain ⟨t5, tf⟩ := told_put HB5.out _ rfl
  refine bodyPost_ret (results_cell_row rfl _ _ _ _ _ _ _ rfl t5 hu42 rfl (by kernel_rfl)) rfl ?_
  rw [HG.out]
  exact do_end HB2.out HS2.out HC.out.1 HC.out.2 (fun k hk => hk) tf (IsTold.err er)

set_option maxHeartbeats 4000000 in
set_option maxRecDepth 100000 in
theorem do_drop {W : World} {g : Nat} {F ok : Nat → Prop} {t : TabS} (h : IsTab W g F t) (hT : Tab W) (s : Step_) (AP : Option Addr) (cP : Nat) (HP : Kd.F k90 W ok AP s.f2.length s.f2) (AD : Option Addr) (cD : Nat) (HD : Kd.F (Kd.int .u8) W ok AD s.f5.length s.f5) (hok : ∀ k, ok k → ¬ F k) (h1 : s.f0 = 4) :
    Calls Tryd.prog 12 #[.pointer (some ⟨g, 0, none⟩), .agg #[.int .i64 s.f0, .int .i64 s.f1.f0, .int .i64 s.f1.f1, .slice AP s.f2.length cP, .int .i64 s.f3, .int .i64 s.f4, .slice AD s.f5.length cD]] W (DoTold W g F (goT t s)) := by
  have hu42 := Tryd.underlying42
  have hu45 := Tryd.underlying45
  have hu40 := Tryd.underlying40
  have e1 := heap_alloc_new W (.cells #[.int .i64 s.f0, .int .i64 s.f1.f0, .int .i64 s.f1.f1, .slice AP s.f2.length cP, .int .i64 s.f3, .int .i64 s.f4, .slice AD s.f5.length cD] 45)
  obtain ⟨w1, hw1⟩ : ∃ w1, W.alloc (.cells #[.int .i64 s.f0, .int .i64 s.f1.f0, .int .i64 s.f1.f1, .slice AP s.f2.length cP, .int .i64 s.f3, .int .i64 s.f4, .slice AD s.f5.length cD] 45) = w1 := ⟨_, rfl⟩
  have s1 : w1.heap.size = W.heap.size + 1 := by rw [← hw1]; simp
  have b1 : Below W.heap.size W w1 := by rw [← hw1]; exact (Below.refl _ _).alloc (Nat.le_refl _) _
  rw [hw1] at e1
  have e2 := heap_alloc_new w1 (.cells #[.slice none 0 0, .slice none 0 0, .int .i64 0, .int .i64 0, .bool false, .int .i64 0] 42)
  have b2 := (Below.refl w1.heap.size w1).alloc (Nat.le_refl _) (.cells #[.slice none 0 0, .slice none 0 0, .int .i64 0, .int .i64 0, .bool false, .int .i64 0] 42)
  have s2 : (w1.alloc (.cells #[.slice none 0 0, .slice none 0 0, .int .i64 0, .int .i64 0, .bool false, .int .i64 0] 42)).heap.size = w1.heap.size + 1 := by simp
  rw [← hw1] at e2 b2 s2
  obtain ⟨W2, hW2⟩ : ∃ W2, ((W.alloc (.cells #[.int .i64 s.f0, .int .i64 s.f1.f0, .int .i64 s.f1.f1, .slice AP s.f2.length cP, .int .i64 s.f3, .int .i64 s.f4, .slice AD s.f5.length cD] 45)).alloc (.cells #[.slice none 0 0, .slice none 0 0, .int .i64 0, .int .i64 0, .bool false, .int .i64 0] 42)) = W2 := ⟨_, rfl⟩
  rw [hW2, hw1] at e2 b2 s2
  rw [s1] at e2 s2
  have hB2 : Below W.heap.size W W2 := ((Fr.of_below b1 None_).below_ b2).toBelow0
  have hL2 : W2.heap[W.heap.size]? = some (.cells #[.int .i64 s.f0, .int .i64 s.f1.f0, .int .i64 s.f1.f1, .slice AP s.f2.length cP, .int .i64 s.f3, .int .i64 s.f4, .slice AD s.f5.length cD] 45 (0, 0)) := (b2.block _ (by omega)).trans e1
  have hL3 : W2.heap[W.heap.size + 1]? = some (.cells #[.slice none 0 0, .slice none 0 0, .int .i64 0, .int .i64 0, .bool false, .int .i64 0] 42 (0, 0)) := e2
  have h2 : IsTab W2 g (fun k => F k ∧ k < W.heap.size) t := h.bound.move (fun k hk hlt => hB2.block k hk.2)
  have hT2 : Tab W2 := hT.below hB2
  have HW := Aside0.mk hW2
  have HB2 := Aside0.mk hB2
  have HL3 := Aside0.mk hL3
  have HS2 := Aside0.mk s2
  have q20 : W2.cell? ⟨W.heap.size, 0, none⟩ = some (.int .i64 s.f0) := (blk_cell hL2 0).trans rfl
  have q21 : W2.cell? ⟨W.heap.size, 1, none⟩ = some (.int .i64 s.f1.f0) := (blk_cell hL2 1).trans rfl
  have q22 : W2.cell? ⟨W.heap.size, 2, none⟩ = some (.int .i64 s.f1.f1) := (blk_cell hL2 2).trans rfl
  have q23 : W2.cell? ⟨W.heap.size, 3, none⟩ = some (.slice AP s.f2.length cP) := (blk_cell hL2 3).trans rfl
  have q24 : W2.cell? ⟨W.heap.size, 4, none⟩ = some (.int .i64 s.f3) := (blk_cell hL2 4).trans rfl
  have q25 : W2.cell? ⟨W.heap.size, 5, none⟩ = some (.int .i64 s.f4) := (blk_cell hL2 5).trans rfl
  have q26 : W2.cell? ⟨W.heap.size, 6, none⟩ = some (.slice AD s.f5.length cD) := (blk_cell hL2 6).trans rfl
  have hgW : g < W.heap.size := h.lt
  have hb1 : (s.f0 == 1) = false := by simp [h1]
  have hb2 : (s.f0 == 2) = false := by simp [h1]
  have hb3 : (s.f0 == 3) = false := by simp [h1]
  have hb4 : (s.f0 == 4) = true := by simp [h1]
  have hdr := tdrop_calls h2 hT2 s.f3
  have HG := Aside0.mk (goT_drop (t := t) h1)
  obtain ⟨di, hdi⟩ : ∃ d, dropId t s.f3 = d := ⟨_, rfl⟩
  obtain ⟨dk, hdk⟩ : ∃ d, dropOk t s.f3 = d := ⟨_, rfl⟩
  rw [hdi, hdk] at hdr HG
  obtain ⟨er, her⟩ : ∃ e, atE t.ids.length s.f3 = e := ⟨_, rfl⟩
  have HER := Aside0.mk her
  rw [her] at hdr HG
  have HDR := Aside0.mk hdr
  have H2 := Aside0.mk h2
  clear hdr her hdi hdk h1
  clear e1 e2 b1 b2 s1 s2 hw1 hW2 hB2 hL2 hL3 h2 hT2 h hT
  go_enter Tryd.func12, Tryd.ntmps12
  go_wp2_with (rw [HW.out])
  refine HDR.out.mono ?_
  rintro e w3 ⟨rfl, hcase⟩
  have hst : IsTab w3 g (fun k => F k ∧ k < W.heap.size) (if er = 0 then dropT t s.f3.toNat else t) ∧ Fr (fun k => F k ∧ k < W.heap.size) W2 w3 := by
    unfold DropTold at hcase
    rw [HER.out] at hcase
    by_cases h0 : er = 0
    · rw [if_pos h0] at hcase ⊢
      exact hcase
    · rw [if_neg h0] at hcase ⊢
      exact ⟨H2.out.below hcase, Fr.of_below hcase _⟩
  have hb5 := (hst.2.block _ (heap_lt' HL3.out) (fun hk => by have := hk.2; omega)).trans HL3.out
  have hbI := (Below.refl w3.heap.size w3).alloc (Nat.le_refl _) (.cells #[.int .i64 0, .int .i64 0] 40)
  have hq5 := heap_lt' hb5
  have HC := Aside0.mk hst
  have t50 : w3.cell? ⟨W.heap.size + 1, 0, none⟩ = some (.slice none 0 0) := (blk_cell hb5 0).trans rfl
  have t51 : w3.cell? ⟨W.heap.size + 1, 1, none⟩ = some (.slice none 0 0) := (blk_cell hb5 1).trans rfl
  have t52 : w3.cell? ⟨W.heap.size + 1, 2, none⟩ = some (.int .i64 0) := (blk_cell hb5 2).trans rfl
  have t53 : w3.cell? ⟨W.heap.size + 1, 3, none⟩ = some (.int .i64 0) := (blk_cell hb5 3).trans rfl
  have t54 : w3.cell? ⟨W.heap.size + 1, 4, none⟩ = some (.bool false) := (blk_cell hb5 4).trans rfl
  have t55 : w3.cell? ⟨W.heap.size + 1, 5, none⟩ = some (.int .i64 0) := (blk_cell hb5 5).trans rfl
  have f5 := blk_frozen hb5
  have HB5 := Aside0.mk hb5

  clear hb5 hcase hst q20 q21 q22 q23 q24 q25 q26
  go_wp2
  go_region_with (go_at_call 22; refine (code_calls _ _).mono ?_; rintro e w4 ⟨rfl, rfl⟩)
  all_goals
    go_wp2
    obtain ⟨w', hw'⟩ : ∃ w', ((((((w3.setCell ⟨W.heap.size + 1, 0, none⟩ (.slice none 0 0)).setCell ⟨W.heap.size + 1, 1, none⟩ (.slice none 0 0)).setCell ⟨W.heap.size + 1, 2, none⟩ (.int .i64 di.f0)).setCell ⟨W.heap.size + 1, 3, none⟩ (.int .i64 di.f1)).setCell ⟨W.heap.size + 1, 4, none⟩ (.bool dk)).setCell ⟨W.heap.size + 1, 5, none⟩ (.int .i64 er)) = w' := ⟨_, rfl⟩
    obtain ⟨t5, tf⟩ := told_put HB5.out w' hw'
    rw [hw']
    clear hw'
    have t5' : ((w'.alloc (.cells #[.int .i64 di.f0, .int .i64 di.f1] 40)).drew).heap[W.heap.size + 1]? = _ := (((Below.refl w'.heap.size w').alloc (Nat.le_refl _) (.cells #[.int .i64 di.f0, .int .i64 di.f1] 40)).block _ (heap_lt' t5)).trans t5
    refine bodyPost_ret (results_cell_row rfl _ _ _ _ _ _ _ rfl t5' hu42 rfl (by kernel_rfl)) rfl ?_
    rw [HG.out]
    exact do_end HB2.out HS2.out HC.out.1 ⟨fun _ hk => .inl hk, HC.out.2⟩ (fun k hk => hk) (tf.alloc _).drew ⟨none, 0, none, 0, rfl, Nat.le_refl _, Nat.le_refl _, Kd.F_nil _ _ _, Kd.F_nil _ _ _⟩

theorem do_calls {W : World} {g : Nat} {F ok : Nat → Prop} {t : TabS} (h : IsTab W g F t) (hT : Tab W) (s : Step_) (AP : Option Addr) (cP : Nat) (HP : Kd.F k90 W ok AP s.f2.length s.f2) (AD : Option Addr) (cD : Nat) (HD : Kd.F (Kd.int .u8) W ok AD s.f5.length s.f5) (hok : ∀ k, ok k → ¬ F k) :
    Calls Tryd.prog 12 #[.pointer (some ⟨g, 0, none⟩), .agg #[.int .i64 s.f0, .int .i64 s.f1.f0, .int .i64 s.f1.f1, .slice AP s.f2.length cP, .int .i64 s.f3, .int .i64 s.f4, .slice AD s.f5.length cD]] W (DoTold W g F (goT t s)) := by
  by_cases h1 : s.f0 = 1
  · exact do_set h hT s AP cP HP AD cD HD hok h1
  by_cases h2 : s.f0 = 2
  · exact do_get h hT s AP cP HP AD cD HD hok h2
  by_cases h3 : s.f0 = 3
  · exact do_parts h hT s AP cP HP AD cD HD hok h3
  by_cases h4 : s.f0 = 4
  · exact do_drop h hT s AP cP HP AD cD HD hok h4
  · exact do_add h hT s AP cP HP AD cD HD hok (by omega)

end Go.Proofs.YtnhejenjpomhdaaDoor.TRows
