/- The law TableSteps: its walk. -/
import Derived.Test.YtnhejenjpomhdaaDoorTsSame
import Derived.Test.YtnhejenjpomhdaaDoorTsLive9
import Derived.Deep.DeepCutAuto
namespace Go.Proofs.YtnhejenjpomhdaaDoor.TRows
open Go.RowKit Go.Proofs.YtnhejenjpomhdaaDoorW.PrintWords Go.Proofs.YtnhejenjpomhdaaDoorW.PrintLast Go.Proofs.YtnhejenjpomhdaaDoorW.PrintMore Go.Proofs.YtnhejenjpomhdaaDoor.Mem Go.Proofs.YtnhejenjpomhdaaDoor.Col Go.Proofs.YtnhejenjpomhdaaDoor.Bits Go.Proofs.YtnhejenjpomhdaaDoor.Data Go.Proofs.YtnhejenjpomhdaaDoor.Mp Go.Proofs.YtnhejenjpomhdaaDoor.Tab Go.Proofs.YtnhejenjpomhdaaDoor.Ref Go.Proofs.YtnhejenjpomhdaaDoor.PTableLoads
set_option linter.unusedVariables false
set_option linter.unusedSimpArgs false

/-- The program's table at g and the reference's at h, of one content. -/
structure TS (W w : World) (g h : Nat) (t : TabS) : Prop where
  ex : ∃ F ok v0 v1 v2, IsTab w g F t ∧ w.heap[h]? = some (.cells #[v0, v1, v2] 35 (0, 0)) ∧ IsRefT w ok (.agg #[v0, v1, v2]) t ∧ (∀ k, F k → W.heap.size ≤ k ∧ k ≠ h) ∧ (∀ k, ok k → ¬ F k ∧ k ≠ h)
  hge : W.heap.size ≤ h
  below : Below W.heap.size W w

theorem IsRefT.move {W W1 : World} {ok : Nat → Prop} {v : Value} {t : TabS} (h : IsRefT W ok v t) (hm : ∀ k, ok k → k < W.heap.size → W1.heap[k]? = W.heap[k]?) : IsRefT W1 ok v t := by
  obtain ⟨A0, c0, A1, c1, A2, c2, h1, h2, h3, h4, h5, h6, h7⟩ := h
  exact ⟨A0, c0, A1, c1, A2, c2, h1, h2, h3, h4, Kd.F_step h5 hm, Kd.F_step h6 hm, Kd.F_step h7 hm⟩
theorem IsRefT.mono {W : World} {ok ok' : Nat → Prop} {v : Value} {t : TabS} (h : IsRefT W ok v t) (hm : ∀ k, ok k → ok' k) : IsRefT W ok' v t := by
  obtain ⟨A0, c0, A1, c1, A2, c2, h1, h2, h3, h4, h5, h6, h7⟩ := h
  exact ⟨A0, c0, A1, c1, A2, c2, h1, h2, h3, h4, Kd.F_mono h5 hm, Kd.F_mono h6 hm, Kd.F_mono h7 hm⟩
theorem IsRefT.bound {W : World} {ok : Nat → Prop} {v : Value} {t : TabS} (h : IsRefT W ok v t) : IsRefT W (fun k => ok k ∧ k < W.heap.size) v t := by
  obtain ⟨A0, c0, A1, c1, A2, c2, h1, h2, h3, h4, h5, h6, h7⟩ := h
  exact ⟨A0, c0, A1, c1, A2, c2, h1, h2, h3, h4, Kd.F_bound h5, Kd.F_bound h6, Kd.F_bound h7⟩
theorem IsRefT.below {W W1 : World} {ok : Nat → Prop} {v : Value} {t : TabS} (h : IsRefT W ok v t) (hb : Below W.heap.size W W1) : IsRefT W1 ok v t := h.move (fun k _ hlt => hb.block k hlt)
theorem IsTold.move {W W1 : World} {ok : Nat → Prop} {v : Value} {t : ToldS} (h : IsTold W ok v t) (hm : ∀ k, ok k → k < W.heap.size → W1.heap[k]? = W.heap[k]?) : IsTold W1 ok v t := by
  obtain ⟨AD, cD, AP, cP, h1, h2, h3, h4, h5⟩ := h
  exact ⟨AD, cD, AP, cP, h1, h2, h3, Kd.F_step h4 hm, Kd.F_step h5 hm⟩
theorem IsTold.mono {W : World} {ok ok' : Nat → Prop} {v : Value} {t : ToldS} (h : IsTold W ok v t) (hm : ∀ k, ok k → ok' k) : IsTold W ok' v t := by
  obtain ⟨AD, cD, AP, cP, h1, h2, h3, h4, h5⟩ := h
  exact ⟨AD, cD, AP, cP, h1, h2, h3, Kd.F_mono h4 hm, Kd.F_mono h5 hm⟩
theorem IsTold.below {W W1 : World} {ok : Nat → Prop} {v : Value} {t : ToldS} (h : IsTold W ok v t) (hb : Below W.heap.size W W1) : IsTold W1 ok v t := IsTold.move h (fun k _ hlt => hb.block k hlt)
/-- What the reference's New hands back, as a reference table. -/
theorem ref_new {X w : World} {v0 v1 v2 : Value} {t : TabS} (h0 : Kd.R (Kd.int .i64) 3 w X.heap.size (fun k => some k ≠ v1.ownBlock) v0 (bitsL t.sig)) (h1 : Kd.R (Kd.int .i64) 3 w X.heap.size (fun k => some k ≠ v0.ownBlock) v1 ((bitsL t.sig).map fun k => (zT t k : Int))) (h2 : Kd.R k100 100 w X.heap.size (fun _ => True) v2 (rowsT t)) :
    IsRefT w (fun k => X.heap.size ≤ k ∧ k < w.heap.size) (.agg #[v0, v1, v2]) t := by
  obtain ⟨A0, c0, rfl⟩ := Kd.R_slice h0
  obtain ⟨A1, c1, rfl⟩ := Kd.R_slice h1
  obtain ⟨A2, c2, rfl⟩ := Kd.R_slice h2
  have hm : ((bitsL t.sig).map fun k => (zT t k : Int)).length = (bitsL t.sig).length := List.length_map _
  have l0 := (Kd.R_reads' h0).2.1
  have l1 := (Kd.R_reads' h1).2.1
  have l2 := (Kd.R_reads' h2).2.1
  have g0 := Kd.F_mono (Kd.R_F (Kd.R_bound h0)) (ok' := fun k => X.heap.size ≤ k ∧ k < w.heap.size) (fun k hk => ⟨hk.2.1, hk.2.2.1⟩)
  have g1 := Kd.F_mono (Kd.R_F (Kd.R_bound h1)) (ok' := fun k => X.heap.size ≤ k ∧ k < w.heap.size) (fun k hk => ⟨hk.2.1, hk.2.2.1⟩)
  have g2 := Kd.F_mono (Kd.R_F (Kd.R_bound h2)) (ok' := fun k => X.heap.size ≤ k ∧ k < w.heap.size) (fun k hk => ⟨hk.2.1, hk.2.2.1⟩)
  rw [hm] at l1 g1
  rw [hm]
  exact ⟨A0, c0, A1, c1, A2, c2, rfl, l0, l1, l2, g0, g1, g2⟩
theorem set3_world {w : World} {g : Nat} {a b c x y z : Value} {t : TypeId} (h : w.heap[g]? = some (.cells #[a, b, c] t (0, 0))) : ∀ w', ((w.setCell ⟨g, 0, none⟩ x).setCell ⟨g, 1, none⟩ y).setCell ⟨g, 2, none⟩ z = w' → w'.heap[g]? = some (.cells #[x, y, z] t (0, 0)) ∧ Fr (fun k => k = g) w w' := by
  rintro w' rfl
  refine ⟨by simpa using blk_set (blk_set (blk_set h 0 x) 1 y) 2 z, ?_⟩
  exact (((Fr.refl (fun k => k = g) w).setCell (p := ⟨g, 0, none⟩) (.inl rfl) x).setCell (p := ⟨g, 1, none⟩) (.inl rfl) y).setCell (p := ⟨g, 2, none⟩) (.inl rfl) z
theorem heap_step : Kd.Heap k45 := Kd.heap_iso _ (Kd.heap_pair (Kd.heap_int _) (Kd.heap_pair (Kd.heap_iso _ (Kd.heap_pair (Kd.heap_int _) (Kd.heap_int _))) (Kd.heap_pair (Kd.heap_slice _ (Kd.heap_iso _ (Kd.heap_pair (Kd.heap_int _) (Kd.heap_slice _ (Kd.heap_int _))))) (Kd.heap_pair (Kd.heap_int _) (Kd.heap_pair (Kd.heap_int _) (Kd.heap_slice _ (Kd.heap_int _)))))))
/-- The two tables, laid. -/
theorem ts_new {W wf X Y wn wr : World} {g h : Nat} {t : TabS} {v0 v1 v2 : Value} (hI : IsTab wn g (fun k => X.heap.size ≤ k ∧ k < wn.heap.size) t) (hR : IsRefT wr (fun k => Y.heap.size ≤ k ∧ k < wr.heap.size) (.agg #[v0, v1, v2]) t) (hh : wf.heap[h]? = some (.cells #[v0, v1, v2] 35 (0, 0)))
    (h1 : ∀ k, X.heap.size ≤ k → k < wn.heap.size → wf.heap[k]? = wn.heap[k]?) (h2 : ∀ k, Y.heap.size ≤ k → k < wr.heap.size → wf.heap[k]? = wr.heap[k]?) (hX : W.heap.size ≤ X.heap.size) (hx : h < X.heap.size ∨ wn.heap.size ≤ h) (hy : h < Y.heap.size ∨ wr.heap.size ≤ h) (hxy : wn.heap.size ≤ Y.heap.size ∨ wr.heap.size ≤ X.heap.size) (hge : W.heap.size ≤ h) (hb : Below W.heap.size W wf) : TS W wf g h t :=
  ⟨⟨_, _, v0, v1, v2, hI.move (fun k hk hlt => h1 k hk.1 hk.2), hh, hR.move (fun k hk hlt => h2 k hk.1 hk.2), fun k hk => ⟨by omega, by omega⟩, fun k hk => ⟨fun hk' => by omega, by omega⟩⟩, hge, hb⟩

theorem ts_new3 {W X Y wn wr : World} {g h : Nat} {t : TabS} {a b c v0 v1 v2 : Value} (hI : IsTab wn g (fun k => X.heap.size ≤ k ∧ k < wn.heap.size) t) (hR : IsRefT wr (fun k => Y.heap.size ≤ k ∧ k < wr.heap.size) (.agg #[v0, v1, v2]) t) (hc : wr.heap[h]? = some (.cells #[a, b, c] 35 (0, 0)))
    (hnr : ∀ k : Nat, k < wn.heap.size → wr.heap[k]? = wn.heap[k]?) (hle : wn.heap.size ≤ wr.heap.size) (hX : W.heap.size ≤ X.heap.size) (hx : h < X.heap.size ∨ wn.heap.size ≤ h) (hy : h < Y.heap.size ∨ wr.heap.size ≤ h) (hxy : wn.heap.size ≤ Y.heap.size ∨ wr.heap.size ≤ X.heap.size) (hge : W.heap.size ≤ h) (hb : Below W.heap.size W wr) :
    ∀ wf, ((wr.setCell ⟨h, 0, none⟩ v0).setCell ⟨h, 1, none⟩ v1).setCell ⟨h, 2, none⟩ v2 = wf → TS W wf g h t := by
  intro wf hwf
  obtain ⟨u1, u2⟩ := set3_world hc wf hwf
  exact ts_new hI hR u1 (fun k hk1 hk => (u2.block k (by omega) (by omega)).trans (hnr k hk)) (fun k hk1 hk => u2.block k hk (by omega)) hX hx hy hxy hge ((Fr.of_below hb None_).then_ u2 (fun k hk => .inr (by omega))).toBelow0
theorem ts_newA {W X Y wn wr : World} {g : Nat} {t : TabS} {v0 v1 v2 : Value} (hI : IsTab wn g (fun k => X.heap.size ≤ k ∧ k < wn.heap.size) t) (hR : IsRefT wr (fun k => Y.heap.size ≤ k ∧ k < wr.heap.size) (.agg #[v0, v1, v2]) t)
    (hnr : ∀ k : Nat, k < wn.heap.size → wr.heap[k]? = wn.heap[k]?) (hle : wn.heap.size ≤ wr.heap.size) (hX : W.heap.size ≤ X.heap.size) (hxy : wn.heap.size ≤ Y.heap.size) (hge : W.heap.size ≤ wr.heap.size) (hb : Below W.heap.size W wr) :
    ∀ wf, wr.alloc (.cells #[v0, v1, v2] 35) = wf → TS W wf g wr.heap.size t := by
  intro wf hwf
  have u1 := heap_alloc_new wr (.cells #[v0, v1, v2] 35)
  have u2 := (Below.refl wr.heap.size wr).alloc (Nat.le_refl _) (.cells #[v0, v1, v2] 35)
  rw [hwf] at u1 u2
  exact ts_new hI hR u1 (fun k hk1 hk => (u2.block k (by omega)).trans (hnr k hk)) (fun k hk1 hk => u2.block k hk) hX (.inr hle) (.inr (Nat.le_refl _)) (.inl hxy) hge (below_step hb u2)

/-- What the reference's step leaves in its two new variables. -/
structure GC (wb wc : World) (ok : Nat → Prop) (h13 h14 : Nat) (r : TabS × ToldS) : Prop where
  c13 : ∃ u0 u1 u2, wc.heap[h13]? = some (.cells #[u0, u1, u2] 35 (0, 0)) ∧ IsRefT wc (fun k => (ok k ∧ k < wb.heap.size) ∨ wb.heap.size ≤ k) (.agg #[u0, u1, u2]) r.1
  c14 : ∃ x0 x1 x2 x3 x4 x5, wc.heap[h14]? = some (.cells #[x0, x1, x2, x3, x4, x5] 42 (0, 0)) ∧ IsTold wc (fun k => (ok k ∧ k < wb.heap.size) ∨ wb.heap.size ≤ k) (.agg #[x0, x1, x2, x3, x4, x5]) r.2
  below : Below wb.heap.size wb wc
  ge13 : wb.heap.size ≤ h13
  ge14 : wb.heap.size ≤ h14
section
variable {wb X wg : World} {ok : Nat → Prop} {r : TabS × ToldS} {u0 u1 u2 x0 x1 x2 x3 x4 x5 a b c d0 d1 d2 d3 d4 d5 : Value}
theorem gc_mk {wf : World} {h13 h14 : Nat} (hR : IsRefT wg (fun k => (ok k ∧ k < X.heap.size) ∨ X.heap.size ≤ k) (.agg #[u0, u1, u2]) r.1) (hT : IsTold wg (fun k => (ok k ∧ k < X.heap.size) ∨ X.heap.size ≤ k) (.agg #[x0, x1, x2, x3, x4, x5]) r.2) (hX : wb.heap.size ≤ X.heap.size) (hle : X.heap.size ≤ wg.heap.size) (hbg : Below wb.heap.size wb wg) (hok : ∀ k, ok k → k < wb.heap.size) (hb : Below wb.heap.size wb wf)
    (h1 : wf.heap[h13]? = some (.cells #[u0, u1, u2] 35 (0, 0))) (h2 : wf.heap[h14]? = some (.cells #[x0, x1, x2, x3, x4, x5] 42 (0, 0))) (g1 : wb.heap.size ≤ h13) (g2 : wb.heap.size ≤ h14)
    (hm : ∀ k : Nat, k < wg.heap.size → (k < wb.heap.size ∨ X.heap.size ≤ k) → wf.heap[k]? = wg.heap[k]?) : GC wb wf ok h13 h14 r where
  c13 := ⟨u0, u1, u2, h1, (hR.move (fun k hk hlt => hm k hlt (hk.imp (fun h => hok k h.1) id))).mono (fun k hk => by
    rcases hk with hk | hk
    · exact .inl ⟨hk.1, hok k hk.1⟩
    · exact .inr (by omega))⟩
  c14 := ⟨x0, x1, x2, x3, x4, x5, h2, IsTold.mono (IsTold.move hT (fun k hk hlt => hm k hlt (hk.imp (fun h => hok k h.1) id))) (fun k hk => by
    rcases hk with hk | hk
    · exact .inl ⟨hk.1, hok k hk.1⟩
    · exact .inr (by omega))⟩
  below := hb
  ge13 := g1
  ge14 := g2
theorem gc1 (hR : IsRefT wg (fun k => (ok k ∧ k < X.heap.size) ∨ X.heap.size ≤ k) (.agg #[u0, u1, u2]) r.1) (hT : IsTold wg (fun k => (ok k ∧ k < X.heap.size) ∨ X.heap.size ≤ k) (.agg #[x0, x1, x2, x3, x4, x5]) r.2) (hX : wb.heap.size ≤ X.heap.size) (hle : X.heap.size ≤ wg.heap.size) (hbg : Below wb.heap.size wb wg) (hok : ∀ k, ok k → k < wb.heap.size) : ∀ wf, (wg.alloc (.cells #[u0, u1, u2] 35)).alloc (.cells #[x0, x1, x2, x3, x4, x5] 42) = wf → GC wb wf ok wg.heap.size (wg.heap.size + 1) r := by
  rintro wf rfl
  have b1 := (Below.refl wg.heap.size wg).alloc (Nat.le_refl _) (.cells #[u0, u1, u2] 35)
  have b2 := b1.alloc (by simp) (.cells #[x0, x1, x2, x3, x4, x5] 42)
  exact gc_mk hR hT hX hle hbg hok (below_step hbg b2) (heap_alloc2_old wg _ _) (heap_alloc2_new wg _ _) (by omega) (by omega) (fun k hk _ => b2.block k hk)
theorem gc2 (hR : IsRefT wg (fun k => (ok k ∧ k < X.heap.size) ∨ X.heap.size ≤ k) (.agg #[u0, u1, u2]) r.1) (hT : IsTold wg (fun k => (ok k ∧ k < X.heap.size) ∨ X.heap.size ≤ k) (.agg #[x0, x1, x2, x3, x4, x5]) r.2) (hX : wb.heap.size ≤ X.heap.size) (hle : X.heap.size ≤ wg.heap.size) (hbg : Below wb.heap.size wb wg) (hok : ∀ k, ok k → k < wb.heap.size) : ∀ wf, (wg.alloc (.cells #[x0, x1, x2, x3, x4, x5] 42)).alloc (.cells #[u0, u1, u2] 35) = wf → GC wb wf ok (wg.heap.size + 1) wg.heap.size r := by
  rintro wf rfl
  have b1 := (Below.refl wg.heap.size wg).alloc (Nat.le_refl _) (.cells #[x0, x1, x2, x3, x4, x5] 42)
  have b2 := b1.alloc (by simp) (.cells #[u0, u1, u2] 35)
  exact gc_mk hR hT hX hle hbg hok (below_step hbg b2) (heap_alloc2_new wg _ _) (heap_alloc2_old wg _ _) (by omega) (by omega) (fun k hk _ => b2.block k hk)
theorem gc3 {h13 : Nat} (hR : IsRefT wg (fun k => (ok k ∧ k < X.heap.size) ∨ X.heap.size ≤ k) (.agg #[u0, u1, u2]) r.1) (hT : IsTold wg (fun k => (ok k ∧ k < X.heap.size) ∨ X.heap.size ≤ k) (.agg #[x0, x1, x2, x3, x4, x5]) r.2) (hX : wb.heap.size ≤ X.heap.size) (hle : X.heap.size ≤ wg.heap.size) (hbg : Below wb.heap.size wb wg) (hok : ∀ k, ok k → k < wb.heap.size) (g13 : wg.heap[h13]? = some (.cells #[a, b, c] 35 (0, 0))) (l1 : wb.heap.size ≤ h13) (l2 : h13 < X.heap.size) : ∀ wf, (((wg.setCell ⟨h13, 0, none⟩ u0).setCell ⟨h13, 1, none⟩ u1).setCell ⟨h13, 2, none⟩ u2).alloc (.cells #[x0, x1, x2, x3, x4, x5] 42) = wf → GC wb wf ok h13 wg.heap.size r := by
  rintro wf rfl
  obtain ⟨w3, hw3⟩ : ∃ w3, (((wg.setCell ⟨h13, 0, none⟩ u0).setCell ⟨h13, 1, none⟩ u1).setCell ⟨h13, 2, none⟩ u2) = w3 := ⟨_, rfl⟩
  obtain ⟨c1, f1⟩ := set3_world g13 w3 hw3
  have hs : w3.heap.size = wg.heap.size := by rw [← hw3]; simp [World.setCell]
  rw [hw3]
  have b2 := (Below.refl w3.heap.size w3).alloc (Nat.le_refl _) (.cells #[x0, x1, x2, x3, x4, x5] 42)
  have e2 := heap_alloc_new w3 (.cells #[x0, x1, x2, x3, x4, x5] 42)
  rw [hs] at e2
  exact gc_mk hR hT hX hle hbg hok (((Fr.of_below hbg None_).then_ f1 (fun k hk => .inr (by omega))).below_ b2).toBelow0 ((b2.block _ (heap_lt' c1)).trans c1) e2 l1 (by omega) (fun k hk hk2 => (b2.block k (by omega)).trans (f1.block k hk (by omega)))
theorem gc5 {h14 : Nat} (hR : IsRefT wg (fun k => (ok k ∧ k < X.heap.size) ∨ X.heap.size ≤ k) (.agg #[u0, u1, u2]) r.1) (hT : IsTold wg (fun k => (ok k ∧ k < X.heap.size) ∨ X.heap.size ≤ k) (.agg #[x0, x1, x2, x3, x4, x5]) r.2) (hX : wb.heap.size ≤ X.heap.size) (hle : X.heap.size ≤ wg.heap.size) (hbg : Below wb.heap.size wb wg) (hok : ∀ k, ok k → k < wb.heap.size) (g14 : wg.heap[h14]? = some (.cells #[d0, d1, d2, d3, d4, d5] 42 (0, 0))) (l1 : wb.heap.size ≤ h14) (l2 : h14 < X.heap.size) : ∀ wf, ((((((wg.setCell ⟨h14, 0, none⟩ x0).setCell ⟨h14, 1, none⟩ x1).setCell ⟨h14, 2, none⟩ x2).setCell ⟨h14, 3, none⟩ x3).setCell ⟨h14, 4, none⟩ x4).setCell ⟨h14, 5, none⟩ x5).alloc (.cells #[u0, u1, u2] 35) = wf → GC wb wf ok wg.heap.size h14 r := by
  rintro wf rfl
  obtain ⟨w3, hw3⟩ : ∃ w3, ((((((wg.setCell ⟨h14, 0, none⟩ x0).setCell ⟨h14, 1, none⟩ x1).setCell ⟨h14, 2, none⟩ x2).setCell ⟨h14, 3, none⟩ x3).setCell ⟨h14, 4, none⟩ x4).setCell ⟨h14, 5, none⟩ x5) = w3 := ⟨_, rfl⟩
  obtain ⟨c1, f1⟩ := told_put g14 w3 hw3
  have hs : w3.heap.size = wg.heap.size := by rw [← hw3]; simp [World.setCell]
  rw [hw3]
  have b2 := (Below.refl w3.heap.size w3).alloc (Nat.le_refl _) (.cells #[u0, u1, u2] 35)
  have e2 := heap_alloc_new w3 (.cells #[u0, u1, u2] 35)
  rw [hs] at e2
  exact gc_mk hR hT hX hle hbg hok (((Fr.of_below hbg None_).then_ f1 (fun k hk => .inr (by omega))).below_ b2).toBelow0 e2 ((b2.block _ (heap_lt' c1)).trans c1) (by omega) l1 (fun k hk hk2 => (b2.block k (by omega)).trans (f1.block k hk (by omega)))
theorem gc4 {h13 h14 : Nat} (hR : IsRefT wg (fun k => (ok k ∧ k < X.heap.size) ∨ X.heap.size ≤ k) (.agg #[u0, u1, u2]) r.1) (hT : IsTold wg (fun k => (ok k ∧ k < X.heap.size) ∨ X.heap.size ≤ k) (.agg #[x0, x1, x2, x3, x4, x5]) r.2) (hX : wb.heap.size ≤ X.heap.size) (hle : X.heap.size ≤ wg.heap.size) (hbg : Below wb.heap.size wb wg) (hok : ∀ k, ok k → k < wb.heap.size) (g13 : wg.heap[h13]? = some (.cells #[a, b, c] 35 (0, 0))) (l1 : wb.heap.size ≤ h13) (l2 : h13 < X.heap.size) (g14 : wg.heap[h14]? = some (.cells #[d0, d1, d2, d3, d4, d5] 42 (0, 0))) (l3 : wb.heap.size ≤ h14) (l4 : h14 < X.heap.size) (hne : h13 ≠ h14) : ∀ wf, (((((((((wg.setCell ⟨h13, 0, none⟩ u0).setCell ⟨h13, 1, none⟩ u1).setCell ⟨h13, 2, none⟩ u2).setCell ⟨h14, 0, none⟩ x0).setCell ⟨h14, 1, none⟩ x1).setCell ⟨h14, 2, none⟩ x2).setCell ⟨h14, 3, none⟩ x3).setCell ⟨h14, 4, none⟩ x4).setCell ⟨h14, 5, none⟩ x5) = wf → GC wb wf ok h13 h14 r := by
  intro wf hwf
  obtain ⟨w3, hw3⟩ : ∃ w3, (((wg.setCell ⟨h13, 0, none⟩ u0).setCell ⟨h13, 1, none⟩ u1).setCell ⟨h13, 2, none⟩ u2) = w3 := ⟨_, rfl⟩
  obtain ⟨c1, f1⟩ := set3_world g13 w3 hw3
  rw [hw3] at hwf
  obtain ⟨c2, f2⟩ := told_put ((f1.block h14 (heap_lt' g14) (Ne.symm hne)).trans g14) wf hwf
  have hs := f1.size
  exact gc_mk hR hT hX hle hbg hok (((Fr.of_below hbg None_).then_ f1 (fun k hk => .inr (by omega))).then_ f2 (fun k hk => .inr (by omega))).toBelow0 ((f2.block h13 (heap_lt' c1) hne).trans c1) c2 l1 l3 (fun k hk hk2 => (f2.block k (by omega) (by omega)).trans (f1.block k hk (by omega)))
end
theorem TS.below_ {W w w' : World} {g h : Nat} {t : TabS} (hts : TS W w g h t) (hb : Below w.heap.size w w') : TS W w' g h t := by
  obtain ⟨F, ok, v0, v1, v2, h1, h2, h3, h4, h5⟩ := hts.ex
  exact ⟨⟨fun k => F k, fun k => ok k, v0, v1, v2, h1.below hb, (hb.block h (heap_lt' h2)).trans h2, h3.below hb, h4, h5⟩, hts.hge, below_step hts.below hb⟩
set_option maxHeartbeats 4000000 in
set_option maxRecDepth 100000 in
theorem steps_calls {W : World} (a0 a1 a2 a3 : Int) (AC : Option Addr) (cC : Nat) (comps : List S88) (sig : Nat) (AL : Option Addr) (cL : Nat) (l : List Step_) (comp : Int) (hC : Kd.C k88 W AC comps.length comps) (hcC : comps.length ≤ cC)
    (hL : Kd.C k45 W AL l.length l) (hcL : l.length ≤ cL) (hs : sig < 18446744073709551616) (hT : Tab W) (hp : ∀ s, s ∈ l → s.f2.length ≤ 9223372036854775807) :
    Calls Tryd.prog 3 #[.agg #[.int .i64 a0, .int .i64 a1, .int .i64 a2, .int .i64 a3, .slice AC comps.length cC], .int .u64 sig, .slice AL l.length cL, .int .i64 comp] W fun e w' => e = .returned (.bool true) ∧ Below W.heap.size W w' := by
  have hu24 := Tryd.underlying24
  have hu35 := Tryd.underlying35
  have hu42 := Tryd.underlying42
  have hu45 := Tryd.underlying45
  have hu40 := Tryd.underlying40
  obtain ⟨k1, r1, hm1, hm1f⟩ := cmuch comps a0 a1 a2 a3 hC.2.1
  obtain ⟨k2, r2, hm2⟩ := smuch l hL.2.1 hp
  have hb0 := (Below.refl W.heap.size W).alloc (Nat.le_refl _) (.cells #[.int .i64 a0, .int .i64 a1, .int .i64 a2, .int .i64 a3, .slice AC comps.length cC] 24)
  have hL0 := heap_alloc_new W (.cells #[.int .i64 a0, .int .i64 a1, .int .i64 a2, .int .i64 a3, .slice AC comps.length cC] 24)
  obtain ⟨V, hV⟩ : ∃ V, W.alloc (.cells #[.int .i64 a0, .int .i64 a1, .int .i64 a2, .int .i64 a3, .slice AC comps.length cC] 24) = V := ⟨_, rfl⟩
  rw [hV] at hb0 hL0
  have hVs : V.heap.size = W.heap.size + 1 := by rw [← hV]; simp
  have HV := Aside0.mk hV
  have HBV := Aside0.mk hb0
  have HC := Aside0.mk (show ∀ w, Below W.heap.size W w → Kd.C k88 w AC comps.length comps from fun w hb => Kd.C_below hC hb)
  have HLL := Aside0.mk (show ∀ w, Below W.heap.size W w → Kd.C k45 w AL l.length l from fun w hb => Kd.C_below hL hb)
  have HLF := Aside0.mk (Kd.C_F heap_step hL)
  have HT := Aside0.mk (show ∀ w, Below W.heap.size W w → Tab w from fun w hb => hT.below hb)
  have HCC := Aside0.mk hcC
  have HCL := Aside0.mk hcL
  have HM1 := Aside0.mk hm1
  have HM2 := Aside0.mk hm2
  have HMF := Aside0.mk hm1f
  have HS := Aside0.mk hs
  have q0 : V.cell? ⟨W.heap.size, 0, none⟩ = some (.int .i64 a0) := (blk_cell hL0 0).trans rfl
  have q1 : V.cell? ⟨W.heap.size, 1, none⟩ = some (.int .i64 a1) := (blk_cell hL0 1).trans rfl
  have q2 : V.cell? ⟨W.heap.size, 2, none⟩ = some (.int .i64 a2) := (blk_cell hL0 2).trans rfl
  have q3 : V.cell? ⟨W.heap.size, 3, none⟩ = some (.int .i64 a3) := (blk_cell hL0 3).trans rfl
  have q4 : V.cell? ⟨W.heap.size, 4, none⟩ = some (.slice AC comps.length cC) := (blk_cell hL0 4).trans rfl
  clear hC hcC hL hcL hs hT hp hm1 hm1f hm2 hb0 hL0 hV
  go_enter Tryd.func3, Tryd.ntmps3
  go_wp2_with (rw [HV.out])
  refine (vivariumref07_Much.calls k1 a0 a1 a2 a3 AC cC comps r1 V (HC.out V HBV.out) HCC.out HM1.out).mono ?_
  rintro e w1 ⟨rfl, hB1⟩
  have HB1 := Aside0.mk (below_step HBV.out hB1)
  have r0 := cell_later hB1 q0
  have r1' := cell_later hB1 q1
  have r2' := cell_later hB1 q2
  have r3 := cell_later hB1 q3
  have r4 := cell_later hB1 q4
  have hW1 : W.heap.size < w1.heap.size := by have := hB1.size; omega
  clear hB1 q0 q1 q2 q3 q4 hVs
  by_cases hr1 : r1 = true
  · subst hr1
    go_wp2_with fail
    refine (live_calls (HT.out w1 HB1.out)).mono ?_
    rintro e w2 ⟨rfl, hB2⟩
    go_wp2
    go_ret
    exact ⟨rfl, below_step HB1.out hB2⟩
  · obtain rfl : r1 = false := by simpa using hr1
    have h40 := HMF.out rfl
    clear hr1 HMF
    go_wp2_with fail
    refine (vivariumref09_Much.calls k2 AL cL l r2 w1 (HLL.out w1 HB1.out) HCL.out HM2.out).mono ?_
    rintro e w2 ⟨rfl, ⟨⟨n, rfl⟩⟩⟩
    by_cases hr2 : r2 = true
    · subst hr2
      go_wp2_with fail
      refine (live_calls (HT.out _ (pw_below_drewN HB1.out n))).mono ?_
      rintro e w2 ⟨rfl, hB2⟩
      go_wp2
      go_ret
      exact ⟨rfl, below_step (pw_below_drewN HB1.out n) hB2⟩
    · obtain rfl : r2 = false := by simpa using hr2
      clear hr2
      have HB2 := Aside0.mk (pw_below_drewN HB1.out n)
      have s0 : (w1.drewN n).cell? ⟨W.heap.size, 0, none⟩ = some (.int .i64 a0) := r0
      have s1 : (w1.drewN n).cell? ⟨W.heap.size, 1, none⟩ = some (.int .i64 a1) := r1'
      have s2 : (w1.drewN n).cell? ⟨W.heap.size, 2, none⟩ = some (.int .i64 a2) := r2'
      have s3 : (w1.drewN n).cell? ⟨W.heap.size, 3, none⟩ = some (.int .i64 a3) := r3
      have s4 : (w1.drewN n).cell? ⟨W.heap.size, 4, none⟩ = some (.slice AC comps.length cC) := r4
      have hW2 : W.heap.size < (w1.drewN n).heap.size := hW1
      generalize w1.drewN n = w2 at *
      clear r0 r1' r2' r3 r4 hW1 HB1
      have HNF := Aside0.mk (rnew_f comps a0 a1 a2 a3 (by omega) sig HS.out (k := 201) (by omega))
      obtain ⟨t0, ht0⟩ : ∃ t, newT comps sig = t := ⟨_, rfl⟩
      rw [ht0] at HNF
      have HT0 := Aside0.mk ht0
      have HNEW := Aside0.mk (show ∀ w, Below w2.heap.size w2 w → Calls Tryd.prog 10 #[.agg #[.int .i64 a0, .int .i64 a1, .int .i64 a2, .int .i64 a3, .slice AC comps.length cC], .int .u64 sig] w (fun e w' => ∃ g, e = .returned (.pointer (some ⟨g, 0, none⟩)) ∧ IsTab w' g (fun k => w.heap.size ≤ k) t0 ∧ Below w.heap.size w w') from fun w hb => by
        have h9 := new_calls a0 a1 a2 a3 AC cC comps sig w (HC.out w (below_step HB2.out hb)) HCC.out (by omega) HS.out (HT.out w (below_step HB2.out hb))
        rw [ht0] at h9
        exact h9)
      have HRNEW := Aside0.mk (show ∀ w, Below w2.heap.size w2 w → Calls Tryd.prog 11 #[.agg #[.int .i64 a0, .int .i64 a1, .int .i64 a2, .int .i64 a3, .slice AC comps.length cC], .int .u64 sig] w (fun e w' => ∃ A0 c0 A1 c1 A2 c2, e = .returned (.agg #[.slice A0 (bitsL t0.sig).length c0, .slice A1 (bitsL t0.sig).length c1, .slice A2 (rowsT t0).length c2]) ∧ IsRefT w' (fun k => w.heap.size ≤ k ∧ k < w'.heap.size) (.agg #[.slice A0 (bitsL t0.sig).length c0, .slice A1 (bitsL t0.sig).length c1, .slice A2 (rowsT t0).length c2]) t0 ∧ Below w.heap.size w w') from fun w hb => by
        refine (vivariumref09_New.calls 201 a0 a1 a2 a3 AC cC comps sig _ _ _ w (HC.out w (below_step HB2.out hb)) HCC.out HNF.out).mono ?_
        rintro e w' ⟨v0, v1, v2, rfl, g0, g1, g2, hb'⟩
        have h9 := ref_new g0 g1 g2
        have h8 := h9
        obtain ⟨A0, c0, A1, c1, A2, c2, hv, _⟩ := h8
        rw [hv] at h9 ⊢
        exact ⟨A0, c0, A1, c1, A2, c2, rfl, h9, hb'⟩)
      clear ht0
      go_upto_region 3 with (fail)
      go_cut [9, 10] (fun v9 v10 wc => ∃ g h : Nat, v9 = .pointer (some ⟨g, 0, none⟩) ∧ v10 = .pointer (some ⟨h, 0, none⟩) ∧ Aside0 (TS W wc g h t0))
      case first =>
        go_region_with (first
          | (go_at_call 10; refine (HNEW.out _ (by repeat (first | exact Below.refl _ _ | exact HBR.out | exact HBN.out | refine pw_below_drewN ?_ _ | refine below_drew1 ?_ | refine below_alloc ?_ _))).mono ?_; rintro e wn ⟨g, rfl, hI, hbN⟩; have HIN := Aside0.mk hI.bound; have hsn := hbN.size; have HBX := Aside0.mk hbN; have HBN := Aside0.mk (show Below w2.heap.size w2 _ from below_step (by repeat (first | exact Below.refl _ _ | exact HBR.out | exact HBN.out | refine pw_below_drewN ?_ _ | refine below_drew1 ?_ | refine below_alloc ?_ _)) hbN); have n0 := cell_later HBN.out s0; have n1 := cell_later HBN.out s1; have n2 := cell_later HBN.out s2; have n3 := cell_later HBN.out s3; have n4 := cell_later HBN.out s4; (try have c10 : wn.heap[w2.heap.size]? = some (.cells #[.slice none 0 0, .slice none 0 0, .slice none 0 0] 35 (0, 0)) := (hbN.block _ (by simp)).trans (heap_alloc_new w2 _)); (try have c10 : wn.heap[wr.heap.size]? = some (.cells #[.slice none 0 0, .slice none 0 0, .slice none 0 0] 35 (0, 0)) := (hbN.block _ (by simp)).trans (heap_alloc_new wr _)); (try have c11 : wn.heap[(_ : Nat)]? = some (.cells #[.slice none 0 0, .slice none 0 0, .slice none 0 0] 35 (0, 0)) := (hbN.block _ (heap_lt' c10)).trans c10); (try have x0 : wn.cell? ⟨_, 0, none⟩ = some (.slice none 0 0) := (blk_cell c10 0).trans rfl); (try have x1 : wn.cell? ⟨_, 1, none⟩ = some (.slice none 0 0) := (blk_cell c10 1).trans rfl); (try have x2 : wn.cell? ⟨_, 2, none⟩ = some (.slice none 0 0) := (blk_cell c10 2).trans rfl); (try have xf := fun i => show wn.frozen? ⟨_, i, none⟩ = false from blk_frozen c10 i); (try have x0 : wn.cell? ⟨_, 0, none⟩ = some (.slice none 0 0) := (blk_cell c11 0).trans rfl); (try have x1 : wn.cell? ⟨_, 1, none⟩ = some (.slice none 0 0) := (blk_cell c11 1).trans rfl); (try have x2 : wn.cell? ⟨_, 2, none⟩ = some (.slice none 0 0) := (blk_cell c11 2).trans rfl); (try have xf := fun i => show wn.frozen? ⟨_, i, none⟩ = false from blk_frozen c11 i); have hWn : W.heap.size < wn.heap.size := Nat.lt_of_lt_of_le hW2 HBN.out.size; clear hI hbN)
          | (go_at_call 11; refine (HRNEW.out _ (by repeat (first | exact Below.refl _ _ | exact HBR.out | exact HBN.out | refine pw_below_drewN ?_ _ | refine below_drew1 ?_ | refine below_alloc ?_ _))).mono ?_; rintro e wr ⟨A0, c0, A1, c1, A2, c2, rfl, hR, hbR⟩; have HRN := Aside0.mk hR; have hsr := hbR.size; have HBY := Aside0.mk hbR; have HBR := Aside0.mk (show Below w2.heap.size w2 _ from below_step (by repeat (first | exact Below.refl _ _ | exact HBR.out | exact HBN.out | refine pw_below_drewN ?_ _ | refine below_drew1 ?_ | refine below_alloc ?_ _)) hbR); have m0 := cell_later HBR.out s0; have m1 := cell_later HBR.out s1; have m2 := cell_later HBR.out s2; have m3 := cell_later HBR.out s3; have m4 := cell_later HBR.out s4; (try have c10 : wr.heap[w2.heap.size]? = some (.cells #[.slice none 0 0, .slice none 0 0, .slice none 0 0] 35 (0, 0)) := (hbR.block _ (by simp)).trans (heap_alloc_new w2 _)); (try have c10 : wr.heap[wn.heap.size]? = some (.cells #[.slice none 0 0, .slice none 0 0, .slice none 0 0] 35 (0, 0)) := (hbR.block _ (by simp)).trans (heap_alloc_new wn _)); (try have c11 : wr.heap[(_ : Nat)]? = some (.cells #[.slice none 0 0, .slice none 0 0, .slice none 0 0] 35 (0, 0)) := (hbR.block _ (heap_lt' c10)).trans c10); (try have x0 : wr.cell? ⟨_, 0, none⟩ = some (.slice none 0 0) := (blk_cell c10 0).trans rfl); (try have x1 : wr.cell? ⟨_, 1, none⟩ = some (.slice none 0 0) := (blk_cell c10 1).trans rfl); (try have x2 : wr.cell? ⟨_, 2, none⟩ = some (.slice none 0 0) := (blk_cell c10 2).trans rfl); (try have xf := fun i => show wr.frozen? ⟨_, i, none⟩ = false from blk_frozen c10 i); (try have x0 : wr.cell? ⟨_, 0, none⟩ = some (.slice none 0 0) := (blk_cell c11 0).trans rfl); (try have x1 : wr.cell? ⟨_, 1, none⟩ = some (.slice none 0 0) := (blk_cell c11 1).trans rfl); (try have x2 : wr.cell? ⟨_, 2, none⟩ = some (.slice none 0 0) := (blk_cell c11 2).trans rfl); (try have xf := fun i => show wr.frozen? ⟨_, i, none⟩ = false from blk_frozen c11 i); (try have hnr : ∀ k : Nat, k < wn.heap.size → wr.heap[k]? = wn.heap[k]? := fun k hk => hbR.block k hk); (try have hnr : ∀ k : Nat, k < wn.heap.size → wr.heap[k]? = wn.heap[k]? := fun k hk => (hbR.block k (by simp; omega)).trans (((Below.refl _ wn).alloc (Nat.le_refl _) _).block k hk)); have hWr : W.heap.size < wr.heap.size := Nat.lt_of_lt_of_le hW2 HBR.out.size; clear hR hbR))
        all_goals
          have z1 := hsn
          have z2 := hsr
          have z3 := HB2.out.size
          (try simp at z1)
          (try simp at z2)
          go_wp2_with fail
          go_meet
          first
            | (have hc := c11
               exact ⟨_, _, rfl, rfl, ⟨ts_new3 HIN.out HRN.out hc hnr (by omega) (by simp; omega) (.inl (by simp)) (.inl (by omega)) (.inl (by simp)) (by omega) (below_step HB2.out HBR.out) _ rfl⟩⟩)
            | (have hc := c10
               exact ⟨_, _, rfl, rfl, ⟨ts_new3 HIN.out HRN.out hc hnr (by omega) (by simp; omega) (.inr (by omega)) (.inl (by simp)) (.inl (by simp)) (by omega) (below_step HB2.out HBR.out) _ rfl⟩⟩)
            | exact ⟨_, _, rfl, rfl, ⟨ts_newA HIN.out HRN.out hnr (by omega) (by simp; omega) (by omega) (by omega) (below_step HB2.out HBR.out) _ rfl⟩⟩
      case rest =>
        obtain ⟨g, h, rfl, rfl, HTS0⟩ := hcut
        clear HNEW HRNEW s0 s1 s2 s3 s4 HNF
        have HT0' := HT0
        clear HT0
        obtain ⟨nl, hnl⟩ : ∃ n, l.length = n := ⟨_, rfl⟩
        have HNL := Aside0.mk hnl
        have HNM := Aside0.mk (show nl ≤ 9223372036854775807 by rw [← hnl]; exact HLF.out.now.2.1)
        go_wp2
        rw [hnl]
        go_loopg [11] nl (fun gk v11 wr => ∃ (j : Nat) (t : TabS), v11 = .int .i64 j ∧ Aside0 (j + gk = nl) ∧ Aside0 (TS W wr g h t))
        case atStart => exact ⟨0, t0, rfl, ⟨by omega⟩, HTS0⟩
        case round =>
          obtain ⟨j, t, rfl, H, HTS⟩ := hrel
          by_cases hlt : j < nl
          · have q0 : decide ((j : Int) < (nl : Int)) = true := by simp; omega
            have r0 : (0 : Int) ≤ (j : Int) := by omega
            have r1 : (j : Int) < (nl : Int) := by omega
            obtain ⟨F, ok, v0, v1, v2, hI, hh, hR, hF, hok⟩ := HTS.out.ex
            obtain ⟨ade, ce, ee, _, hFK, hcc, _⟩ := Kd.F_get HLF.out z45 (j : Int) r0 (by rw [HNL.out]; exact r1)
            subst ee
            obtain ⟨AP, cP, AD, cD, rfl, lP, hFP, lD, hFD⟩ := k45_openF hFK
            simp only [Int.toNat_natCast] at hcc hFP hFD lP lD
            have hsz : k45.sz = 7 := rfl
            rw [hsz] at hcc
            obtain ⟨s, hsd⟩ : ∃ s : Step_, l.getD j z45 = s := ⟨_, rfl⟩
            rw [hsd] at hcc hFP hFD lP lD
            have HX := Aside0.mk (show ∀ w, Below W.heap.size W w → w.cell? (ade.add (j * 7)) = some (.int .i64 s.f0) ∧ w.cell? ⟨(ade.add (j * 7)).block, (ade.add (j * 7)).off + 1, none⟩ = some (.int .i64 s.f1.f0) ∧ w.cell? ⟨(ade.add (j * 7)).block, (ade.add (j * 7)).off + 2, none⟩ = some (.int .i64 s.f1.f1) ∧ w.cell? ⟨(ade.add (j * 7)).block, (ade.add (j * 7)).off + 3, none⟩ = some (.slice AP s.f2.length cP) ∧ w.cell? ⟨(ade.add (j * 7)).block, (ade.add (j * 7)).off + 4, none⟩ = some (.int .i64 s.f3) ∧ w.cell? ⟨(ade.add (j * 7)).block, (ade.add (j * 7)).off + 5, none⟩ = some (.int .i64 s.f4) ∧ w.cell? ⟨(ade.add (j * 7)).block, (ade.add (j * 7)).off + 6, none⟩ = some (.slice AD s.f5.length cD) from fun w hb =>
              ⟨cell_later hb (hcc 0 _ rfl), cell_later hb (by rw [← add_field _ _ 1 (by omega)]; exact hcc 1 _ rfl), cell_later hb (by rw [← add_field _ _ 2 (by omega)]; exact hcc 2 _ rfl), cell_later hb (by rw [← add_field _ _ 3 (by omega)]; exact hcc 3 _ rfl), cell_later hb (by rw [← add_field _ _ 4 (by omega)]; exact hcc 4 _ rfl), cell_later hb (by rw [← add_field _ _ 5 (by omega)]; exact hcc 5 _ rfl), cell_later hb (by rw [← add_field _ _ 6 (by omega)]; exact hcc 6 _ rfl)⟩)
            have HFP := Aside0.mk hFP
            have HFD := Aside0.mk hFD
            have HLD := Aside0.mk lD
            obtain ⟨t', td, hgo⟩ : ∃ a b, goT t s = (a, b) := ⟨_, _, rfl⟩
            have hdo := do_calls hI (HT.out wr HTS.out.below) s AP cP (Kd.F_below hFP HTS.out.below) AD cD (Kd.F_below hFD HTS.out.below) (fun k hk hFk => by have := (hF k hFk).1; omega)
            rw [hgo] at hdo
            have HDO := Aside0.mk hdo
            have HGO := Aside0.mk hgo
            obtain ⟨okb, hRb, hokb, hokW⟩ : ∃ okb : Nat → Prop, IsRefT wr okb (.agg #[v0, v1, v2]) t ∧ (∀ k, okb k → ¬ F k ∧ k ≠ h ∧ k < wr.heap.size) ∧ (∀ k, k < W.heap.size → okb k) :=
              ⟨fun k => (ok k ∧ k < wr.heap.size) ∨ k < W.heap.size, hR.bound.mono (fun k hk => .inl hk), fun k hk => by
                rcases hk with hk | hk
                · exact ⟨(hok k hk.1).1, (hok k hk.1).2, hk.2⟩
                · exact ⟨fun h1 => by have := (hF k h1).1; omega, by have := HTS.out.hge; omega, by have := HTS.out.below.size; omega⟩, fun k hk => .inr hk⟩
            have HST := Aside0.mk (And.intro hI (And.intro hh (And.intro hRb (And.intro hF (And.intro hokb hokW)))))
            obtain ⟨y0, y1, y2, y3, y4, y5, y6⟩ := HX.out wr HTS.out.below
            have hhl := heap_lt' hh
            have HHL := Aside0.mk hhl
            clear hFK hcc hFP hFD lP lD hsz hsd hdo hgo hI hh hR hRb hF hok hhl hokb hokW
            go_wp2_with fail
            refine HDO.out.mono ?_
            rintro e wa ⟨tv, F', rfl, hI', hS, hTv⟩
            have hTv' := hTv
            obtain ⟨BD, dD, BP, dP, rfl, _⟩ := hTv'
            obtain ⟨hI0, hh0, hR0, hF0, hok0, hokW⟩ := HST.out
            have hha : wa.heap[h]? = some (.cells #[v0, v1, v2] 35 (0, 0)) := (hS.fr.block h HHL.out (fun hk => (hF0 h hk).2 rfl)).trans hh0
            have hRa : IsRefT wa okb (.agg #[v0, v1, v2]) t := hR0.move (fun k hk hlt => hS.fr.block k hlt (fun hF => (hok0 k hk).1 hF))
            have hBa : Below W.heap.size W wa := ((Fr.of_below HTS.out.below None_).then_ hS.fr (fun k hk => .inr (hF0 k hk).1)).toBelow0
            have hFa : ∀ k, F' k ∧ k < wa.heap.size → W.heap.size ≤ k ∧ k ≠ h := fun k hk => by
              rcases hS.up k hk.1 with h1 | h1
              · exact hF0 k h1
              · have h2 := HTS.out.below.size
                have h3 := HHL.out
                exact ⟨by omega, by omega⟩
            have hoka : ∀ k, okb k → ¬ (F' k ∧ k < wa.heap.size) ∧ k ≠ h ∧ k < wr.heap.size := fun k hk => ⟨fun hk' => by
              rcases hS.up k hk'.1 with h1 | h1
              · exact (hok0 k hk).1 h1
              · have := (hok0 k hk).2.2; omega, (hok0 k hk).2⟩
            have hsa := hS.fr.size
            have HA := Aside0.mk (And.intro hI'.bound (And.intro hRa (And.intro hFa (And.intro hoka (And.intro hTv hsa)))))
            have b3 := (Below.refl wa.heap.size wa).alloc (Nat.le_refl _) (.cells #[.slice BD td.data.length dD, .slice BP td.parts.length dP, .int .i64 td.id.f0, .int .i64 td.id.f1, .bool td.ok, .int .i64 td.err] 42)
            have l3 := heap_alloc_new wa (.cells #[.slice BD td.data.length dD, .slice BP td.parts.length dP, .int .i64 td.id.f0, .int .i64 td.id.f1, .bool td.ok, .int .i64 td.err] 42)
            obtain ⟨wb, hwb⟩ : ∃ wb, wa.alloc (.cells #[.slice BD td.data.length dD, .slice BP td.parts.length dP, .int .i64 td.id.f0, .int .i64 td.id.f1, .bool td.ok, .int .i64 td.err] 42) = wb := ⟨_, rfl⟩
            rw [hwb] at b3 l3
            have hwbs : wb.heap.size = wa.heap.size + 1 := by rw [← hwb]; simp
            have HWB := Aside0.mk hwb
            have HWBS := Aside0.mk hwbs
            have hwbl : wa.heap.size < wb.heap.size := by omega
            have HB3 := Aside0.mk b3
            have HL3 := Aside0.mk l3
            have hBb := below_step hBa b3
            have HBB := Aside0.mk hBb
            have hhb := (b3.block h (heap_lt' hha)).trans hha
            have HHB := Aside0.mk hhb
            obtain ⟨A0, c0, A1, c1, A2, c2, hv, _⟩ := hRa
            injection hv with hv
            simp only [Array.mk.injEq, List.cons.injEq, and_true] at hv
            obtain ⟨rfl, rfl, rfl⟩ := hv
            have z0 : wb.cell? ⟨h, 0, none⟩ = some _ := (blk_cell hhb 0).trans rfl
            have z1 : wb.cell? ⟨h, 1, none⟩ = some _ := (blk_cell hhb 1).trans rfl
            have z2 : wb.cell? ⟨h, 2, none⟩ = some _ := (blk_cell hhb 2).trans rfl
            have hhlb : h < wb.heap.size := heap_lt' hhb
            obtain ⟨y0', y1', y2', y3', y4', y5', y6'⟩ := HX.out wb hBb
            have hadl : (ade.add (j * 7)).block < wb.heap.size := World.block_lt_of_cell? wb _ y0'
            have hadl2 : ade.block < wb.heap.size := by rw [add_block] at hadl; exact hadl
            clear hwbs hI' hS hTv hI0 hh0 hR0 hF0 hok0 hha hBa hFa hoka hsa b3 l3 hwb hBb hhb y0 y1 y2 y3 y4 y5 y6
            have HRGO := Aside0.mk (show ∀ w, Below wb.heap.size wb w → Calls Tryd.prog 13 #[.agg #[.slice A0 (bitsL t.sig).length c0, .slice A1 (bitsL t.sig).length c1, .slice A2 (rowsT t).length c2], .agg #[.int .i64 s.f0, .int .i64 s.f1.f0, .int .i64 s.f1.f1, .slice AP s.f2.length cP, .int .i64 s.f3, .int .i64 s.f4, .slice AD s.f5.length cD]] w (GoTold w okb (goT t s)) from fun w hb =>
              rgo_calls (IsTab.wf HST.out.1) (HA.out.2.1.below (below_step HB3.out hb)) s AP cP (Kd.F_mono (Kd.F_below HFP.out (below_step HBB.out hb)) (fun k hk => hokW k hk)) AD cD (Kd.F_mono (Kd.F_below HFD.out (below_step HBB.out hb)) (fun k hk => hokW k hk)) HLD.out)
            have HOKW := Aside0.mk hokW
            clear hokW
            go_upto_region 10 with (rw [HWB.out])
            go_cut [13, 14] (fun v13 v14 wc => ∃ h13 h14 : Nat, v13 = .pointer (some ⟨h13, 0, none⟩) ∧ v14 = .pointer (some ⟨h14, 0, none⟩) ∧ Aside0 (GC wb wc okb h13 h14 (goT t s)))
            case first =>
              go_region_with (go_at_call 13; refine (HRGO.out _ (by repeat (first | exact Below.refl _ _ | refine pw_below_drewN ?_ _ | refine below_drew1 ?_ | refine below_alloc ?_ _))).mono ?_; rintro e wg ⟨v', tv2, rfl, hR2, hT2, hbG⟩; have HR2 := Aside0.mk hR2; have HT2 := Aside0.mk hT2; obtain ⟨B0, e0, B1, e1, B2, e2, rfl, _⟩ := hR2; obtain ⟨B3, e3, B4, e4, rfl, _⟩ := hT2; have hsg := hbG.size; have HBG := Aside0.mk (show Below wb.heap.size wb _ from below_step (by repeat (first | exact Below.refl _ _ | refine pw_below_drewN ?_ _ | refine below_drew1 ?_ | refine below_alloc ?_ _)) hbG); (try have g13 : wg.heap[wb.heap.size]? = some (.cells #[.slice none 0 0, .slice none 0 0, .slice none 0 0] 35 (0, 0)) := (hbG.block _ (by simp)).trans (heap_alloc_new wb _)); (try have g13 : wg.heap[wb.heap.size]? = some (.cells #[.slice none 0 0, .slice none 0 0, .slice none 0 0] 35 (0, 0)) := (hbG.block _ (by simp <;> omega)).trans (heap_alloc2_old wb _ _)); (try have g13 : wg.heap[wb.heap.size + 1]? = some (.cells #[.slice none 0 0, .slice none 0 0, .slice none 0 0] 35 (0, 0)) := (hbG.block _ (by simp)).trans (heap_alloc2_new wb _ _)); (try have g13_0 : wg.cell? ⟨_, 0, none⟩ = some (.slice none 0 0) := (blk_cell g13 0).trans rfl); (try have g13_1 : wg.cell? ⟨_, 1, none⟩ = some (.slice none 0 0) := (blk_cell g13 1).trans rfl); (try have g13_2 : wg.cell? ⟨_, 2, none⟩ = some (.slice none 0 0) := (blk_cell g13 2).trans rfl); (try have g13_l := heap_lt' g13); (try have g13_f := fun i => show wg.frozen? ⟨_, i, none⟩ = false from blk_frozen g13 i); (try have g14 : wg.heap[wb.heap.size]? = some (.cells #[.slice none 0 0, .slice none 0 0, .int .i64 0, .int .i64 0, .bool false, .int .i64 0] 42 (0, 0)) := (hbG.block _ (by simp)).trans (heap_alloc_new wb _)); (try have g14 : wg.heap[wb.heap.size]? = some (.cells #[.slice none 0 0, .slice none 0 0, .int .i64 0, .int .i64 0, .bool false, .int .i64 0] 42 (0, 0)) := (hbG.block _ (by simp <;> omega)).trans (heap_alloc2_old wb _ _)); (try have g14 : wg.heap[wb.heap.size + 1]? = some (.cells #[.slice none 0 0, .slice none 0 0, .int .i64 0, .int .i64 0, .bool false, .int .i64 0] 42 (0, 0)) := (hbG.block _ (by simp)).trans (heap_alloc2_new wb _ _)); (try have g14_0 : wg.cell? ⟨_, 0, none⟩ = some (.slice none 0 0) := (blk_cell g14 0).trans rfl); (try have g14_1 : wg.cell? ⟨_, 1, none⟩ = some (.slice none 0 0) := (blk_cell g14 1).trans rfl); (try have g14_2 : wg.cell? ⟨_, 2, none⟩ = some (.int .i64 0) := (blk_cell g14 2).trans rfl); (try have g14_3 : wg.cell? ⟨_, 3, none⟩ = some (.int .i64 0) := (blk_cell g14 3).trans rfl); (try have g14_4 : wg.cell? ⟨_, 4, none⟩ = some (.bool false) := (blk_cell g14 4).trans rfl); (try have g14_5 : wg.cell? ⟨_, 5, none⟩ = some (.int .i64 0) := (blk_cell g14 5).trans rfl); (try have g14_l := heap_lt' g14); (try have g14_f := fun i => show wg.frozen? ⟨_, i, none⟩ = false from blk_frozen g14 i); clear hbG)
              all_goals
                have hsg2 := hsg
                (try simp at hsg2)
                have hokL : ∀ k, okb k → k < wb.heap.size := fun k hk => by have h1 := (HA.out.2.2.2.1 k hk).2.2; have h2 := HA.out.2.2.2.2.2; omega
                go_wp2_with fail
                go_meet
                first
                  | (have hc1 := g13
                     have hc2 := g14
                     exact ⟨_, _, rfl, rfl, ⟨gc4 HR2.out HT2.out (by simp; try omega) hsg HBG.out hokL hc1 (by omega) (by simp; try omega) hc2 (by omega) (by simp; try omega) (by omega) _ rfl⟩⟩)
                  | (have hc1 := g13
                     exact ⟨_, _, rfl, rfl, ⟨gc3 HR2.out HT2.out (by simp; try omega) hsg HBG.out hokL hc1 (by omega) (by simp; try omega) _ rfl⟩⟩)
                  | (have hc1 := g14
                     exact ⟨_, _, rfl, rfl, ⟨gc5 HR2.out HT2.out (by simp; try omega) hsg HBG.out hokL hc1 (by omega) (by simp; try omega) _ rfl⟩⟩)
                  | exact ⟨_, _, rfl, rfl, ⟨gc1 HR2.out HT2.out (by simp; try omega) hsg HBG.out hokL _ rfl⟩⟩
                  | exact ⟨_, _, rfl, rfl, ⟨gc2 HR2.out HT2.out (by simp; try omega) hsg HBG.out hokL _ rfl⟩⟩
            case rest =>
              obtain ⟨h13, h14, rfl, rfl, HGC⟩ := hcut
              obtain ⟨u0, u1, u2, hc13, hR3⟩ := HGC.out.c13
              obtain ⟨x0, x1, x2, x3, x4, x5, hc14, hT3⟩ := HGC.out.c14
              rw [HGO.out] at hR3 hT3
              dsimp only at hR3 hT3
              have hR3' := hR3
              have hT3' := hT3
              obtain ⟨B0, e0, B1, e1, B2, e2, hv, _⟩ := hR3'
              obtain ⟨B3, e3, B4, e4, hv2, _⟩ := hT3'
              injection hv with hv
              simp only [Array.mk.injEq, List.cons.injEq, and_true] at hv
              obtain ⟨rfl, rfl, rfl⟩ := hv
              injection hv2 with hv2
              simp only [Array.mk.injEq, List.cons.injEq, and_true] at hv2
              obtain ⟨rfl, rfl, rfl, rfl, rfl, rfl⟩ := hv2
              have hbc := HGC.out.below
              have hge13 := HGC.out.ge13
              have hge14 := HGC.out.ge14
              have hhc := (hbc.block h hhlb).trans HHB.out
              have hlc := (hbc.block wa.heap.size hwbl).trans HL3.out
              have z0' : wc.cell? ⟨h, 0, none⟩ = some _ := (blk_cell hhc 0).trans rfl
              have z1' : wc.cell? ⟨h, 1, none⟩ = some _ := (blk_cell hhc 1).trans rfl
              have z2' : wc.cell? ⟨h, 2, none⟩ = some _ := (blk_cell hhc 2).trans rfl
              have zf := blk_frozen hhc
              have k0 : wc.cell? ⟨h13, 0, none⟩ = some _ := (blk_cell hc13 0).trans rfl
              have k1 : wc.cell? ⟨h13, 1, none⟩ = some _ := (blk_cell hc13 1).trans rfl
              have k2 : wc.cell? ⟨h13, 2, none⟩ = some _ := (blk_cell hc13 2).trans rfl
              have HC14 := Aside0.mk hc14
              have HLC := Aside0.mk hlc
              have HHC := Aside0.mk hhc
              have HR3 := Aside0.mk hR3
              have HT3 := Aside0.mk hT3
              clear hc13 hc14 hR3 hT3 hhc hlc z0 z1 z2 y0' y1' y2' y3' y4' y5' y6' hadl hadl2 hbc
              go_upto_region 12 with (fail)
              obtain ⟨wd, hwd⟩ : ∃ wd, ((wc.setCell ⟨h, 0, none⟩ (.slice B0 (bitsL t'.sig).length e0)).setCell ⟨h, 1, none⟩ (.slice B1 (bitsL t'.sig).length e1)).setCell ⟨h, 2, none⟩ (.slice B2 (rowsT t').length e2) = wd := ⟨_, rfl⟩
              obtain ⟨c1, f1⟩ := set3_world HHC.out wd hwd
              rw [hwd]
              obtain ⟨hI0, hh0, hR0, hF0, hok0, hokW⟩ := HST.out
              obtain ⟨hIa, hRa, hFa, hoka, hTv, hsa⟩ := HA.out
              have hws := HWBS.out
              have hhl := HHL.out
              have hne : ∀ k, (okb k ∧ k < wb.heap.size) ∨ wb.heap.size ≤ k → k ≠ h := fun k hk => by
                rcases hk with hk | hk
                · exact (hoka k hk.1).2.1
                · omega
              have hbwc := below_step HB3.out HGC.out.below
              have hId : IsTab wd g (fun k => F' k ∧ k < wa.heap.size) t' := (hIa.below hbwc).move (fun k hk hlt => f1.block k hlt (hFa k hk).2)
              have hRd := HR3.out.move (W1 := wd) (fun k hk hlt => f1.block k hlt (hne k hk))
              have hTS : TS W wd g h t' := ⟨⟨_, _, _, _, _, hId, c1, hRd, hFa, fun k hk => ⟨fun hk' => by
                rcases hk with hk | hk
                · exact (hoka k hk.1).1 hk'
                · have := hk'.2; omega, hne k hk⟩⟩, HTS.out.hge, ((Fr.of_below (below_step HBB.out HGC.out.below) None_).then_ f1 (fun k hk => .inr (by have := HTS.out.hge; omega))).toBelow0⟩
              have hT1 : IsTold wd (fun k => wr.heap.size ≤ k ∧ k < wa.heap.size) (.agg #[.slice BD td.data.length dD, .slice BP td.parts.length dP, .int .i64 td.id.f0, .int .i64 td.id.f1, .bool td.ok, .int .i64 td.err]) td := by
                obtain ⟨AD9, cD9, AP9, cP9, h1, h2, h3, h4, h5⟩ := hTv
                refine IsTold.move (IsTold.below (show IsTold wa (fun k => wr.heap.size ≤ k ∧ k < wa.heap.size) _ td from ⟨AD9, cD9, AP9, cP9, h1, h2, h3, Kd.F_bound h4, Kd.F_bound h5⟩) hbwc) (fun k hk hlt => f1.block k hlt (by have := hk.1; omega))
              have hT2 := IsTold.move HT3.out (W1 := wd) (fun k hk hlt => f1.block k hlt (hne k hk))
              have hcl := (f1.block wa.heap.size (heap_lt' HLC.out) (by omega)).trans HLC.out
              have hc14 := (f1.block h14 (heap_lt' HC14.out) (by omega)).trans HC14.out
              obtain ⟨AD1, cD1, AP1, cP1, hv1, l1, l2, m1, m2⟩ := hT1
              obtain ⟨AD2, cD2, AP2, cP2, hv2, l3, l4, m3, m4⟩ := hT2
              injection hv1 with hv1
              simp only [Array.mk.injEq, List.cons.injEq, Value.slice.injEq, and_true, true_and] at hv1
              obtain ⟨⟨rfl, rfl⟩, rfl, rfl⟩ := hv1
              injection hv2 with hv2
              simp only [Array.mk.injEq, List.cons.injEq, Value.slice.injEq, and_true, true_and] at hv2
              obtain ⟨⟨rfl, rfl⟩, rfl, rfl⟩ := hv2
              have hst := vivariumref09_SameTold.calls (td.parts.length + 1) BD dD td.data BP dP td.parts td.id.f0 td.id.f1 td.ok td.err B3 e3 td.data B4 e4 td.parts td.id.f0 td.id.f1 td.ok td.err true wd m1.now l1 m2.now l2 m3.now l3 m4.now l4 (told_self td.data td.parts td.id.f0 td.id.f1 td.ok td.err m2.now.2.1 (by omega))
              have HST2 := Aside0.mk hst
              have HTSD := Aside0.mk hTS
              have HID := Aside0.mk (And.intro hId hRd)
              have p0 : wd.cell? ⟨h, 0, none⟩ = some _ := (blk_cell c1 0).trans rfl
              have p1 : wd.cell? ⟨h, 1, none⟩ = some _ := (blk_cell c1 1).trans rfl
              have p2 : wd.cell? ⟨h, 2, none⟩ = some _ := (blk_cell c1 2).trans rfl
              have t0_ : wd.cell? ⟨wa.heap.size, 0, none⟩ = some _ := (blk_cell hcl 0).trans rfl
              have t1_ : wd.cell? ⟨wa.heap.size, 1, none⟩ = some _ := (blk_cell hcl 1).trans rfl
              have t2_ : wd.cell? ⟨wa.heap.size, 2, none⟩ = some _ := (blk_cell hcl 2).trans rfl
              have t3_ : wd.cell? ⟨wa.heap.size, 3, none⟩ = some _ := (blk_cell hcl 3).trans rfl
              have t4_ : wd.cell? ⟨wa.heap.size, 4, none⟩ = some _ := (blk_cell hcl 4).trans rfl
              have t5_ : wd.cell? ⟨wa.heap.size, 5, none⟩ = some _ := (blk_cell hcl 5).trans rfl
              have q0_ : wd.cell? ⟨h14, 0, none⟩ = some _ := (blk_cell hc14 0).trans rfl
              have q1_ : wd.cell? ⟨h14, 1, none⟩ = some _ := (blk_cell hc14 1).trans rfl
              have q2_ : wd.cell? ⟨h14, 2, none⟩ = some _ := (blk_cell hc14 2).trans rfl
              have q3_ : wd.cell? ⟨h14, 3, none⟩ = some _ := (blk_cell hc14 3).trans rfl
              have q4_ : wd.cell? ⟨h14, 4, none⟩ = some _ := (blk_cell hc14 4).trans rfl
              have q5_ : wd.cell? ⟨h14, 5, none⟩ = some _ := (blk_cell hc14 5).trans rfl
              clear hwd c1 f1 hI0 hh0 hR0 hF0 hok0 hokW hIa hRa hFa hoka hTv hsa hws hhl hne hbwc hId hRd hTS hcl hc14 l1 l2 l3 l4 m1 m2 m3 m4 hst z0' z1' z2' zf k0 k1 k2
              go_wp2_with fail
              refine HST2.out.mono ?_
              rintro e we ⟨rfl, hBe⟩
              have p0' := cell_later hBe p0
              have p1' := cell_later hBe p1
              have p2' := cell_later hBe p2
              have HSM := Aside0.mk (same_calls (HID.out.1.below hBe) (HID.out.2.below hBe) comp)
              have HTSE := Aside0.mk (HTSD.out.below_ hBe)
              clear hBe p0 p1 p2 t0_ t1_ t2_ t3_ t4_ t5_ q0_ q1_ q2_ q3_ q4_ q5_
              go_wp2_with fail
              refine HSM.out.mono ?_
              rintro e wf ⟨rfl, hBf⟩
              have HTSF := Aside0.mk (HTSE.out.below_ hBf)
              obtain ⟨k1, hk1⟩ : ∃ k1, gk = k1 + 1 := ⟨gk - 1, by have := H.out; omega⟩
              have HH := Aside0.mk (show (j + 1) + k1 = nl by have := H.out; omega)
              have hnm := HNM.out
              subst hk1
              clear hBf p0' p1' p2'
              go_wp2
              go_roundg k1
              case measure => omega
              case rel => exact ⟨j + 1, t', by go_num, HH, HTSF⟩
          · have q0 : decide ((j : Int) < (nl : Int)) = false := by simp; omega
            obtain ⟨F, ok, v0, v1, v2, hI, hh, hR, hF, hok⟩ := HTS.out.ex
            have hR' := hR
            obtain ⟨A0, c0, A1, c1, A2, c2, hv, _⟩ := hR'
            injection hv with hv
            simp only [Array.mk.injEq, List.cons.injEq, and_true] at hv
            obtain ⟨rfl, rfl, rfl⟩ := hv
            have z0 : wr.cell? ⟨h, 0, none⟩ = some _ := (blk_cell hh 0).trans rfl
            have z1 : wr.cell? ⟨h, 1, none⟩ = some _ := (blk_cell hh 1).trans rfl
            have z2 : wr.cell? ⟨h, 2, none⟩ = some _ := (blk_cell hh 2).trans rfl
            have HSM := Aside0.mk (same_calls hI hR comp)
            clear hI hh hR hF hok
            go_wp2_with fail
            refine HSM.out.mono ?_
            rintro e wf ⟨rfl, hBf⟩
            have HBF := Aside0.mk (below_step HTS.out.below hBf)
            clear hBf
            go_wp2_with fail
            refine (live_calls (HT.out wf HBF.out)).mono ?_
            rintro e wl ⟨rfl, hBl⟩
            go_wp2
            go_ret
            exact ⟨by first | rfl | (simp; done), below_step HBF.out hBl⟩

end Go.Proofs.YtnhejenjpomhdaaDoor.TRows
