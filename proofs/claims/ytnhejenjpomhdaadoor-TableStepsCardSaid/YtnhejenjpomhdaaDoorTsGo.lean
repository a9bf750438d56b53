/- The reference table (vivariumref09): Go, case by case. (printed by wip/genref.py) -/
import Derived.Test.YtnhejenjpomhdaaDoorTsRef
namespace Go.Proofs.YtnhejenjpomhdaaDoor.Ref
open Go.RowKit Go.Proofs.YtnhejenjpomhdaaDoorW.PrintWords Go.Proofs.YtnhejenjpomhdaaDoorW.PrintLast Go.Proofs.YtnhejenjpomhdaaDoorW.PrintMore Go.Proofs.YtnhejenjpomhdaaDoor.Mem Go.Proofs.YtnhejenjpomhdaaDoor.Col Go.Proofs.YtnhejenjpomhdaaDoor.Bits Go.Proofs.YtnhejenjpomhdaaDoor.Data Go.Proofs.YtnhejenjpomhdaaDoor.Mp Go.Proofs.YtnhejenjpomhdaaDoor.Tab Go.Proofs.YtnhejenjpomhdaaDoor.PTableLoads
set_option linter.unusedVariables false
set_option linter.unusedSimpArgs false

/-- What is told: data, parts, a name, a yes or no, an error. -/
structure ToldS where
  data : List Int
  parts : List Part_
  id : ID_
  ok : Bool
  err : Int
def errT (e : Int) : ToldS := ⟨[], [], z40, false, e⟩
/-- How it lies. -/
def IsTold (W : World) (ok : Nat → Prop) (v : Value) (t : ToldS) : Prop := ∃ AD cD AP cP, v = .agg #[.slice AD t.data.length cD, .slice AP t.parts.length cP, .int .i64 t.id.f0, .int .i64 t.id.f1, .bool t.ok, .int .i64 t.err] ∧ t.data.length ≤ cD ∧ t.parts.length ≤ cP ∧
  Kd.F (Kd.int .u8) W ok AD t.data.length t.data ∧ Kd.F k90 W ok AP t.parts.length t.parts
theorem IsTold.err {W : World} {ok : Nat → Prop} (e : Int) : IsTold W ok (.agg #[.slice none 0 0, .slice none 0 0, .int .i64 0, .int .i64 0, .bool false, .int .i64 e]) (errT e) := ⟨none, 0, none, 0, rfl, Nat.le_refl _, Nat.le_refl _, Kd.F_nil _ _ _, Kd.F_nil _ _ _⟩
/-- What Go leaves. -/
def GoPost (W : World) (ok : Nat → Prop) (A0 : Option Addr) (c0 : Nat) (A1 : Option Addr) (c1 nc : Nat) (rows' : List Ent_) (t : ToldS) (e : Ending) (w' : World) : Prop :=
  ∃ A2' c2' v, e = .returned (.tuple #[.agg #[.slice A0 nc c0, .slice A1 nc c1, .slice A2' rows'.length c2'], v]) ∧ rows'.length ≤ c2' ∧ Kd.F k100 w' (fun k => (ok k ∧ k < W.heap.size) ∨ W.heap.size ≤ k) A2' rows'.length rows' ∧
    IsTold w' (fun k => (ok k ∧ k < W.heap.size) ∨ W.heap.size ≤ k) v t ∧ Below W.heap.size W w'

theorem go_keep {W W0 w' : World} {ok : Nat → Prop} {A0 A1 A2 : Option Addr} {c0 c1 c2 nc nr g4 g5 : Nat} {rows : List Ent_} {v : Value} {t : ToldS} (hn : rows.length = nr) (hb : Below W.heap.size W W0) (l2 : rows.length ≤ c2) (h2 : Kd.F k100 W ok A2 rows.length rows)
    (tf : Fr (fun k => k = g4 ∨ k = g5) W0 w') (h4 : W.heap.size ≤ g4) (h5 : W.heap.size ≤ g5) (hv : ∀ w'' : World, (∀ k, k < W.heap.size → w''.heap[k]? = W.heap[k]?) → IsTold w'' (fun k => (ok k ∧ k < W.heap.size) ∨ W.heap.size ≤ k) v t) :
    GoPost W ok A0 c0 A1 c1 nc rows t (.returned (.tuple #[.agg #[.slice A0 nc c0, .slice A1 nc c1, .slice A2 nr c2], v])) w' := by
  have hfr : Fr None_ W w' := (Fr.of_below hb None_).then_ tf (fun k hk => .inr (by rcases hk with rfl | rfl <;> omega))
  have h9 := Kd.F_mono (Kd.F_step (Kd.F_bound h2) (fun k hk hlt => hfr.block k hlt (fun h => h.elim))) (ok' := fun k => (ok k ∧ k < W.heap.size) ∨ W.heap.size ≤ k) (fun k hk => .inl hk)
  subst hn
  exact ⟨A2, c2, v, rfl, l2, h9, hv w' (fun k hk => hfr.block k hk (fun h => h.elim)), hfr.toBelow0⟩

theorem go_add_end {W W0 w1 w' : World} {ok : Nat → Prop} {A0 A1 A2 : Option Addr} {c0 c1 c2 nc nr g4 g5 : Nat} {rows : List Ent_} {v : Value} {t : ToldS} (hn : rows.length = nr) (hb : Below W.heap.size W W0) (hb1 : Below W0.heap.size W0 w1) (l2 : rows.length ≤ c2)
    (h2 : Kd.F k100 w1 (fun k => ((ok k ∧ k < W.heap.size) ∧ k < W0.heap.size) ∨ W0.heap.size ≤ k) A2 rows.length rows)
    (tf : Fr (fun k => k = g4 ∨ k = g5) w1 w') (h4 : W.heap.size ≤ g4) (h5 : W.heap.size ≤ g5) (hg : g4 < W0.heap.size ∧ g5 < W0.heap.size ∨ True) (hv : IsTold w' (fun k => (ok k ∧ k < W.heap.size) ∨ W.heap.size ≤ k) v t) (hlt4 : g4 < W0.heap.size := by omega) (hlt5 : g5 < W0.heap.size := by omega) :
    GoPost W ok A0 c0 A1 c1 nc rows t (.returned (.tuple #[.agg #[.slice A0 nc c0, .slice A1 nc c1, .slice A2 nr c2], v])) w' := by
  have hfr : Fr None_ W w' := ((Fr.of_below hb None_).below_ hb1).then_ tf (fun k hk => .inr (by rcases hk with rfl | rfl <;> omega))
  have h9 := Kd.F_mono (Kd.F_step h2 (W1 := w') (fun k hk hlt => tf.block k hlt (fun e => by rcases hk with hk | hk <;> rcases e with e | e <;> omega))) (ok' := fun k => (ok k ∧ k < W.heap.size) ∨ W.heap.size ≤ k) (fun k hk => hk.elim (fun h => .inl h.1) (fun h => .inr (by have := hb.size; omega)))
  subst hn
  exact ⟨A2, c2, v, rfl, l2, h9, hv, hfr.toBelow0⟩

theorem row_put {w6 : World} {base gb nr c6 i nL cL : Nat} {okT : Nat → Prop} {rows : List Ent_} {lst : Ent_} {AL : Option Addr} (ho : Kd.N k100 100 w6 base okT (.slice (some ⟨gb, 0, none⟩) nr c6) rows) (hi : i < nr)
    (hF : Kd.F k90 w6 (fun k => okT k ∧ k ≠ gb) AL lst.f1.length lst.f1) (hn : lst.f1.length = nL) (hl : nL ≤ cL) :
    Kd.N k100 100 (((w6.setCell ⟨gb, i * 3, none⟩ (.int .i64 lst.f0.f0)).setCell ⟨gb, i * 3 + 1, none⟩ (.int .i64 lst.f0.f1)).setCell ⟨gb, i * 3 + 2, none⟩ (.slice AL nL cL)) base okT (.slice (some ⟨gb, 0, none⟩) nr c6) (rows.set i lst) := by
  subst hn
  obtain ⟨ce, h1, h2, h3, _⟩ := Kd.N_elem ho z100 (i : Int) (by omega) (by omega)
  have hsz : k100.sz = 3 := rfl
  rw [hsz] at h1
  have h4 := (Kd.N_seg (okp := fun k => okT k ∧ k ≠ gb) ho (i : Int) (by omega) (by omega) (c := ce) (seg := [.int .i64 lst.f0.f0, .int .i64 lst.f0.f1, .slice AL lst.f1.length cL]) (j := 0) h1 h3 (by simp [hsz]) (x' := lst) (by
    have e : ce.take 0 ++ [Value.int .i64 lst.f0.f0, .int .i64 lst.f0.f1, .slice AL lst.f1.length cL] ++ ce.drop (0 + [Value.int IntKind.i64 lst.f0.f0, .int .i64 lst.f0.f1, .slice AL lst.f1.length cL].length) = [.int .i64 lst.f0.f0, .int .i64 lst.f0.f1, .slice AL lst.f1.length cL] := by
      simp [List.drop_eq_nil_of_le (show ce.length ≤ 3 by omega)]
    rw [e]
    exact k100_mkF w6 _ lst hl hF) (fun k hk => hk)).1
  simp only [World.setCells, hsz, Int.toNat_natCast, Nat.add_zero] at h4
  exact h4

theorem go_drop_end {W W0 w6 w8 w' : World} {ok : Nat → Prop} {A0 A1 : Option Addr} {c0 c1 nc gb nr c6 lq g4 g5 : Nat} {rows' RR : List Ent_} {v : Value} {t : ToldS} (hb6 : Below W.heap.size W w6) (hf8 : Fr (fun k => k = gb) w6 w8) (hgb : W.heap.size ≤ gb) (hs0 : W0.heap.size = W.heap.size + 1 + 1 + 1 + 1) (hgb0 : W0.heap.size ≤ gb)
    (hN : Kd.N k100 100 w8 W.heap.size (fun k => (ok k ∧ k < W.heap.size) ∨ W0.heap.size ≤ k) (.slice (some ⟨gb, 0, none⟩) nr c6) rows') (hl : lq < nr) (hR : rows'.take lq = RR)
    (tf : Fr (fun k => k = g4 ∨ k = g5) (w8.setCell ⟨W.heap.size, 2, none⟩ (.slice (some ⟨gb, 0, none⟩) lq c6)) w') (h4 : g4 = W.heap.size + 1 + 1) (h5 : g5 = W.heap.size + 1 + 1 + 1) (hv : IsTold w' (fun k => (ok k ∧ k < W.heap.size) ∨ W.heap.size ≤ k) v t) :
    GoPost W ok A0 c0 A1 c1 nc RR t (.returned (.tuple #[.agg #[.slice A0 nc c0, .slice A1 nc c1, .slice (some ⟨gb, 0, none⟩) lq c6], v])) w' := by
  subst hR
  have hn := Kd.N_reads' hN
  have hN1 := Kd.N_take (m := lq) hN (by omega)
  have hN2 := Kd.N_far (p := ⟨W.heap.size, 2, none⟩) hN1 (fun k hk e => by have e : k = W.heap.size := e; rcases hk with hk | hk <;> omega) (.slice (some ⟨gb, 0, none⟩) lq c6)
  have hN3 := Kd.N_step hN2 (w1 := w') (fun k hk hlt => tf.block k hlt (fun e => by rcases hk with hk | hk <;> rcases e with e | e <;> omega))
  have hlen : (rows'.take lq).length = lq := by simp; omega
  have hfr : Fr None_ W w' := (((Fr.of_below hb6 None_).then_ hf8 (fun k hk => .inr (by omega))).setCell (p := ⟨W.heap.size, 2, none⟩) (.inr (Nat.le_refl _)) _).then_ tf (fun k hk => .inr (by rcases hk with hk | hk <;> omega))
  refine ⟨some ⟨gb, 0, none⟩, c6, v, by rw [hlen], by rw [hlen]; omega, ?_, hv, hfr.toBelow0⟩
  rw [hlen]
  exact Kd.F_mono (Kd.N_F hN3) (fun k hk => hk.imp id (fun h => by omega))

theorem go_keep2 {W W0 w' : World} {ok : Nat → Prop} {A0 A1 A2 : Option Addr} {c0 c1 c2 nc nr g4 g5 : Nat} {rows : List Ent_} {v : Value} {t : ToldS} (hn : rows.length = nr) (hb : Below W.heap.size W W0) (l2 : rows.length ≤ c2) (h2 : Kd.F k100 W ok A2 rows.length rows)
    (tf : Fr (fun k => k = g4 ∨ k = g5) W0 w') (h4 : W.heap.size ≤ g4) (h5 : W.heap.size ≤ g5) (hv : IsTold w' (fun k => (ok k ∧ k < W.heap.size) ∨ W.heap.size ≤ k) v t) :
    GoPost W ok A0 c0 A1 c1 nc rows t (.returned (.tuple #[.agg #[.slice A0 nc c0, .slice A1 nc c1, .slice A2 nr c2], v])) w' := by
  have hfr : Fr None_ W w' := (Fr.of_below hb None_).then_ tf (fun k hk => .inr (by rcases hk with rfl | rfl <;> omega))
  have h9 := Kd.F_mono (Kd.F_step (Kd.F_bound h2) (fun k hk hlt => hfr.block k hlt (fun h => h.elim))) (ok' := fun k => (ok k ∧ k < W.heap.size) ∨ W.heap.size ≤ k) (fun k hk => .inl hk)
  subst hn
  exact ⟨A2, c2, v, rfl, l2, h9, hv, hfr.toBelow0⟩

theorem row_put2 {w6 : World} {base gb nr c6 i nL cL : Nat} {okT : Nat → Prop} {rows : List Ent_} {pl : List Part_} {AL : Option Addr} (ho : Kd.N k100 100 w6 base okT (.slice (some ⟨gb, 0, none⟩) nr c6) rows) (hi : i < nr)
    (hF : Kd.F k90 w6 (fun k => okT k ∧ k ≠ gb) AL pl.length pl) (hn : pl.length = nL) (hl : nL ≤ cL) :
    Kd.N k100 100 (w6.setCell ⟨gb, i * 3 + 2, none⟩ (.slice AL nL cL)) base okT (.slice (some ⟨gb, 0, none⟩) nr c6) (rows.set i ⟨(rows.getD i z100).f0, pl⟩) := by
  subst hn
  obtain ⟨ce, h1, h2, h3, _⟩ := Kd.N_elem ho z100 (i : Int) (by omega) (by omega)
  obtain ⟨A9, c9, rfl, _, _⟩ := k100_openF h2
  have hsz : k100.sz = 3 := rfl
  have h4 := (Kd.N_seg (okp := fun k => okT k ∧ k ≠ gb) ho (i : Int) (by omega) (by omega) (seg := [.slice AL pl.length cL]) (j := 2) h1 h3 (by simp [hsz]) (x' := (⟨(rows.getD i z100).f0, pl⟩ : Ent_)) (by
    exact k100_mkF w6 _ (⟨(rows.getD i z100).f0, pl⟩ : Ent_) hl hF) (fun k hk => hk)).1
  simp only [World.setCells, hsz, Int.toNat_natCast, Nat.add_zero] at h4
  exact h4
theorem part_put {w6 : World} {base gb nr c6 i nL cL : Nat} {okT : Nat → Prop} {ps : List Part_} {ds : List Int} {AL : Option Addr} (ho : Kd.N k90 90 w6 base okT (.slice (some ⟨gb, 0, none⟩) nr c6) ps) (hi : i < nr)
    (hF : Kd.F (Kd.int .u8) w6 (fun k => okT k ∧ k ≠ gb) AL ds.length ds) (hn : ds.length = nL) (hl : nL ≤ cL) :
    Kd.N k90 90 (w6.setCell ⟨gb, i * 2 + 1, none⟩ (.slice AL nL cL)) base okT (.slice (some ⟨gb, 0, none⟩) nr c6) (ps.set i ⟨(ps.getD i z90).f0, ds⟩) := by
  subst hn
  obtain ⟨ce, h1, h2, h3, _⟩ := Kd.N_elem ho z90 (i : Int) (by omega) (by omega)
  obtain ⟨A9, c9, rfl, _, _⟩ := k90_openF h2
  have hsz : k90.sz = 2 := rfl
  have h4 := (Kd.N_seg (okp := fun k => okT k ∧ k ≠ gb) ho (i : Int) (by omega) (by omega) (seg := [.slice AL ds.length cL]) (j := 1) h1 h3 (by simp [hsz]) (x' := (⟨(ps.getD i z90).f0, ds⟩ : Part_)) (by
    exact k90_mkF w6 _ (⟨(ps.getD i z90).f0, ds⟩ : Part_) hl hF) (fun k hk => hk)).1
  simp only [World.setCells, hsz, Int.toNat_natCast, Nat.add_zero] at h4
  exact h4
theorem go_set_end {W W0 w8 w' : World} {ok : Nat → Prop} {A0 A1 : Option Addr} {c0 c1 nc gb nr c6 g4 g5 : Nat} {rows' : List Ent_} {v : Value} {t : ToldS} (hb8 : Below W.heap.size W w8) (hs0 : W0.heap.size = W.heap.size + 1 + 1 + 1 + 1)
    (hN : Kd.N k100 100 w8 W.heap.size (fun k => (ok k ∧ k < W.heap.size) ∨ W0.heap.size ≤ k) (.slice (some ⟨gb, 0, none⟩) nr c6) rows') (hl : rows'.length = nr)
    (tf : Fr (fun k => k = g4 ∨ k = g5) (w8.setCell ⟨W.heap.size, 2, none⟩ (.slice (some ⟨gb, 0, none⟩) nr c6)) w') (h4 : g4 = W.heap.size + 1 + 1) (h5 : g5 = W.heap.size + 1 + 1 + 1) (hv : IsTold w' (fun k => (ok k ∧ k < W.heap.size) ∨ W.heap.size ≤ k) v t) :
    GoPost W ok A0 c0 A1 c1 nc rows' t (.returned (.tuple #[.agg #[.slice A0 nc c0, .slice A1 nc c1, .slice (some ⟨gb, 0, none⟩) nr c6], v])) w' := by
  subst hl
  have hn := Kd.N_reads' hN
  have hN2 := Kd.N_far (p := ⟨W.heap.size, 2, none⟩) hN (fun k hk e => by have e : k = W.heap.size := e; rcases hk with hk | hk <;> omega) (.slice (some ⟨gb, 0, none⟩) rows'.length c6)
  have hN3 := Kd.N_step hN2 (w1 := w') (fun k hk hlt => tf.block k hlt (fun e => by rcases hk with hk | hk <;> rcases e with e | e <;> omega))
  have hfr : Fr None_ W w' := ((Fr.of_below hb8 None_).setCell (p := ⟨W.heap.size, 2, none⟩) (.inr (Nat.le_refl _)) _).then_ tf (fun k hk => .inr (by rcases hk with hk | hk <;> omega))
  exact ⟨some ⟨gb, 0, none⟩, c6, v, rfl, hn.2.1, Kd.F_mono (Kd.N_F hN3) (fun k hk => hk.imp id (fun h => by omega)), hv, hfr.toBelow0⟩

set_option maxHeartbeats 4000000 in
set_option maxRecDepth 100000 in
theorem rgo_range {W : World} {ok : Nat → Prop} (cs : List Int) (z : Int → Nat) (hz : ∀ k, z k ≤ 64) (rows : List Ent_) (A0 : Option Addr) (c0 : Nat) (A1 : Option Addr) (c1 : Nat) (A2 : Option Addr) (c2 : Nat) (hcs : cs.length ≤ 64) (hr : rows.length ≤ 1024) (l2 : rows.length ≤ c2) (hwf : ∀ r, r ∈ rows → r.f1.length = cs.length)
    (H0 : Kd.F (Kd.int .i64) W ok A0 cs.length cs) (H1 : Kd.F (Kd.int .i64) W ok A1 cs.length (cs.map fun k => (z k : Int))) (H2 : Kd.F k100 W ok A2 rows.length rows)
    (d row comp : Int) (id : ID_) (ps : List Part_) (AP : Option Addr) (cP : Nat) (HP : Kd.F k90 W ok AP ps.length ps) (ds : List Int) (AD : Option Addr) (cD : Nat) (HD : Kd.F (Kd.int .u8) W ok AD ds.length ds) (lD : ds.length ≤ cD) (h1 : 1 ≤ d) (h2 : d ≤ 4) (h3 : row < 0 ∨ (rows.length : Int) ≤ row) :
    Calls Tryd.prog 13 #[.agg #[.slice A0 cs.length c0, .slice A1 cs.length c1, .slice A2 rows.length c2], .agg #[.int .i64 d, .int .i64 id.f0, .int .i64 id.f1, .slice AP ps.length cP, .int .i64 row, .int .i64 comp, .slice AD ds.length cD]] W
      (GoPost W ok A0 c0 A1 c1 cs.length rows (errT 2)) := by
  have hu35 := Tryd.underlying35
  have hu42 := Tryd.underlying42
  have hu45 := Tryd.underlying45
  obtain ⟨nc, hnc⟩ : ∃ n, cs.length = n := ⟨_, rfl⟩
  obtain ⟨nr, hnr⟩ : ∃ n, rows.length = n := ⟨_, rfl⟩
  obtain ⟨np, hnp⟩ : ∃ n, ps.length = n := ⟨_, rfl⟩
  obtain ⟨nd, hnd⟩ : ∃ n, ds.length = n := ⟨_, rfl⟩
  have hL := laid W #[.slice A0 nc c0, .slice A1 nc c1, .slice A2 nr c2] #[.int .i64 d, .int .i64 id.f0, .int .i64 id.f1, .slice AP np cP, .int .i64 row, .int .i64 comp, .slice AD nd cD]
  have hB := laid_below W (.cells #[.slice A0 nc c0, .slice A1 nc c1, .slice A2 nr c2] 35) (.cells #[.int .i64 d, .int .i64 id.f0, .int .i64 id.f1, .slice AP np cP, .int .i64 row, .int .i64 comp, .slice AD nd cD] 45) (.cells #[.slice none 0 0, .slice none 0 0, .slice none 0 0] 35) (.cells #[.slice none 0 0, .slice none 0 0, .int .i64 0, .int .i64 0, .bool false, .int .i64 0] 42)
  have hsz : ((((W.alloc (.cells #[.slice A0 nc c0, .slice A1 nc c1, .slice A2 nr c2] 35)).alloc (.cells #[.int .i64 d, .int .i64 id.f0, .int .i64 id.f1, .slice AP np cP, .int .i64 row, .int .i64 comp, .slice AD nd cD] 45)).alloc (.cells #[.slice none 0 0, .slice none 0 0, .slice none 0 0] 35)).alloc (.cells #[.slice none 0 0, .slice none 0 0, .int .i64 0, .int .i64 0, .bool false, .int .i64 0] 42)).heap.size = W.heap.size + 1 + 1 + 1 + 1 := by simp
  obtain ⟨W0, hW0⟩ : ∃ W0, ((((W.alloc (.cells #[.slice A0 nc c0, .slice A1 nc c1, .slice A2 nr c2] 35)).alloc (.cells #[.int .i64 d, .int .i64 id.f0, .int .i64 id.f1, .slice AP np cP, .int .i64 row, .int .i64 comp, .slice AD nd cD] 45)).alloc (.cells #[.slice none 0 0, .slice none 0 0, .slice none 0 0] 35)).alloc (.cells #[.slice none 0 0, .slice none 0 0, .int .i64 0, .int .i64 0, .bool false, .int .i64 0] 42)) = W0 := ⟨_, rfl⟩
  rw [hW0] at hL hB hsz
  have HW := Aside0.mk hW0
  have HB := Aside0.mk hB
  have HL := Aside0.mk hL
  have HSZ := Aside0.mk hsz
  have HNR := Aside0.mk hnr
  have HNC := Aside0.mk hnc
  have HNP := Aside0.mk hnp
  have HND := Aside0.mk hnd
  have HH0 := Aside0.mk H0
  have HH1 := Aside0.mk H1
  have HH2 := Aside0.mk H2
  have HHP := Aside0.mk HP
  have HHD := Aside0.mk HD
  have HL2 := Aside0.mk l2
  have HLD := Aside0.mk lD
  have HCS := Aside0.mk hcs
  have HR := Aside0.mk hr
  have HZ := Aside0.mk hz
  have HWF := Aside0.mk hwf
  have q20 : W0.cell? ⟨W.heap.size, 0, none⟩ = some (.slice A0 nc c0) := (blk_cell hL.b2 0).trans rfl
  have q21 : W0.cell? ⟨W.heap.size, 1, none⟩ = some (.slice A1 nc c1) := (blk_cell hL.b2 1).trans rfl
  have q22 : W0.cell? ⟨W.heap.size, 2, none⟩ = some (.slice A2 nr c2) := (blk_cell hL.b2 2).trans rfl
  have q30 : W0.cell? ⟨W.heap.size + 1, 0, none⟩ = some (.int .i64 d) := (blk_cell hL.b3 0).trans rfl
  have q31 : W0.cell? ⟨W.heap.size + 1, 1, none⟩ = some (.int .i64 id.f0) := (blk_cell hL.b3 1).trans rfl
  have q32 : W0.cell? ⟨W.heap.size + 1, 2, none⟩ = some (.int .i64 id.f1) := (blk_cell hL.b3 2).trans rfl
  have q33 : W0.cell? ⟨W.heap.size + 1, 3, none⟩ = some (.slice AP np cP) := (blk_cell hL.b3 3).trans rfl
  have q34 : W0.cell? ⟨W.heap.size + 1, 4, none⟩ = some (.int .i64 row) := (blk_cell hL.b3 4).trans rfl
  have q35 : W0.cell? ⟨W.heap.size + 1, 5, none⟩ = some (.int .i64 comp) := (blk_cell hL.b3 5).trans rfl
  have q36 : W0.cell? ⟨W.heap.size + 1, 6, none⟩ = some (.slice AD nd cD) := (blk_cell hL.b3 6).trans rfl
  have q40 : W0.cell? ⟨W.heap.size + 1 + 1, 0, none⟩ = some (.slice none 0 0) := (blk_cell hL.b4 0).trans rfl
  have q41 : W0.cell? ⟨W.heap.size + 1 + 1, 1, none⟩ = some (.slice none 0 0) := (blk_cell hL.b4 1).trans rfl
  have q42 : W0.cell? ⟨W.heap.size + 1 + 1, 2, none⟩ = some (.slice none 0 0) := (blk_cell hL.b4 2).trans rfl
  have q50 : W0.cell? ⟨W.heap.size + 1 + 1 + 1, 0, none⟩ = some (.slice none 0 0) := (blk_cell hL.b5 0).trans rfl
  have q51 : W0.cell? ⟨W.heap.size + 1 + 1 + 1, 1, none⟩ = some (.slice none 0 0) := (blk_cell hL.b5 1).trans rfl
  have q52 : W0.cell? ⟨W.heap.size + 1 + 1 + 1, 2, none⟩ = some (.int .i64 0) := (blk_cell hL.b5 2).trans rfl
  have q53 : W0.cell? ⟨W.heap.size + 1 + 1 + 1, 3, none⟩ = some (.int .i64 0) := (blk_cell hL.b5 3).trans rfl
  have q54 : W0.cell? ⟨W.heap.size + 1 + 1 + 1, 4, none⟩ = some (.bool false) := (blk_cell hL.b5 4).trans rfl
  have q55 : W0.cell? ⟨W.heap.size + 1 + 1 + 1, 5, none⟩ = some (.int .i64 0) := (blk_cell hL.b5 5).trans rfl
  have f4 := blk_frozen hL.b4
  have f5 := blk_frozen hL.b5
  simp only [hnc, hnr, hnp, hnd]
  have q1 : decide (d < 1) = false := by simp; omega
  have q2 : decide ((4 : Int) < d) = false := by simp; omega
  rw [hnr] at h3
  have H3 := Aside0.mk h3
  clear h1 h2 h3
  clear hL hB hW0 hsz hnr hnc hnp hnd H0 H1 H2 HP HD l2 lD hcs hr hz hwf
  go_enter Tryd.func13, Tryd.ntmps13
  by_cases h3 : row < 0
  · have q3 : decide (row < 0) = true := decide_eq_true h3
    go_wp2_with (rw [HW.out])
    obtain ⟨t4, t5, tf⟩ := told_world HL.out.b4 HL.out.b5 (by omega) _ rfl
    refine bodyPost_ret (results_cell2_row rfl _ _ _ _ _ _ _ _ _ _ _ _ rfl rfl t4 t5 hu35 rfl (by kernel_rfl) hu42 rfl (by kernel_rfl)) rfl ?_
    exact go_keep HNR.out HB.out HL2.out HH2.out tf (by omega) (by omega) (fun w' _ => IsTold.err 2)
  · have q3 : decide (row < 0) = false := decide_eq_false h3
    have q4 : decide ((nr : Int) ≤ row) = true := by have := H3.out; simp; omega
    go_wp2_with (rw [HW.out])
    obtain ⟨t4, t5, tf⟩ := told_world HL.out.b4 HL.out.b5 (by omega) _ rfl
    refine bodyPost_ret (results_cell2_row rfl _ _ _ _ _ _ _ _ _ _ _ _ rfl rfl t4 t5 hu35 rfl (by kernel_rfl) hu42 rfl (by kernel_rfl)) rfl ?_
    exact go_keep HNR.out HB.out HL2.out HH2.out tf (by omega) (by omega) (fun w' _ => IsTold.err 2)

set_option maxHeartbeats 4000000 in
set_option maxRecDepth 100000 in
theorem rgo_parts {W : World} {ok : Nat → Prop} (cs : List Int) (z : Int → Nat) (hz : ∀ k, z k ≤ 64) (rows : List Ent_) (A0 : Option Addr) (c0 : Nat) (A1 : Option Addr) (c1 : Nat) (A2 : Option Addr) (c2 : Nat) (hcs : cs.length ≤ 64) (hr : rows.length ≤ 1024) (l2 : rows.length ≤ c2) (hwf : ∀ r, r ∈ rows → r.f1.length = cs.length)
    (H0 : Kd.F (Kd.int .i64) W ok A0 cs.length cs) (H1 : Kd.F (Kd.int .i64) W ok A1 cs.length (cs.map fun k => (z k : Int))) (H2 : Kd.F k100 W ok A2 rows.length rows)
    (d row comp : Int) (id : ID_) (ps : List Part_) (AP : Option Addr) (cP : Nat) (HP : Kd.F k90 W ok AP ps.length ps) (ds : List Int) (AD : Option Addr) (cD : Nat) (HD : Kd.F (Kd.int .u8) W ok AD ds.length ds) (lD : ds.length ≤ cD) (h1 : d = 3) (h3 : 0 ≤ row) (h4 : row < (rows.length : Int)) :
    Calls Tryd.prog 13 #[.agg #[.slice A0 cs.length c0, .slice A1 cs.length c1, .slice A2 rows.length c2], .agg #[.int .i64 d, .int .i64 id.f0, .int .i64 id.f1, .slice AP ps.length cP, .int .i64 row, .int .i64 comp, .slice AD ds.length cD]] W
      (GoPost W ok A0 c0 A1 c1 cs.length rows (⟨[], (rows.getD row.toNat z100).f1, z40, false, 0⟩ : ToldS)) := by
  have hu35 := Tryd.underlying35
  have hu42 := Tryd.underlying42
  have hu45 := Tryd.underlying45
  obtain ⟨nc, hnc⟩ : ∃ n, cs.length = n := ⟨_, rfl⟩
  obtain ⟨nr, hnr⟩ : ∃ n, rows.length = n := ⟨_, rfl⟩
  obtain ⟨np, hnp⟩ : ∃ n, ps.length = n := ⟨_, rfl⟩
  obtain ⟨nd, hnd⟩ : ∃ n, ds.length = n := ⟨_, rfl⟩
  have hL := laid W #[.slice A0 nc c0, .slice A1 nc c1, .slice A2 nr c2] #[.int .i64 d, .int .i64 id.f0, .int .i64 id.f1, .slice AP np cP, .int .i64 row, .int .i64 comp, .slice AD nd cD]
  have hB := laid_below W (.cells #[.slice A0 nc c0, .slice A1 nc c1, .slice A2 nr c2] 35) (.cells #[.int .i64 d, .int .i64 id.f0, .int .i64 id.f1, .slice AP np cP, .int .i64 row, .int .i64 comp, .slice AD nd cD] 45) (.cells #[.slice none 0 0, .slice none 0 0, .slice none 0 0] 35) (.cells #[.slice none 0 0, .slice none 0 0, .int .i64 0, .int .i64 0, .bool false, .int .i64 0] 42)
  have hsz : ((((W.alloc (.cells #[.slice A0 nc c0, .slice A1 nc c1, .slice A2 nr c2] 35)).alloc (.cells #[.int .i64 d, .int .i64 id.f0, .int .i64 id.f1, .slice AP np cP, .int .i64 row, .int .i64 comp, .slice AD nd cD] 45)).alloc (.cells #[.slice none 0 0, .slice none 0 0, .slice none 0 0] 35)).alloc (.cells #[.slice none 0 0, .slice none 0 0, .int .i64 0, .int .i64 0, .bool false, .int .i64 0] 42)).heap.size = W.heap.size + 1 + 1 + 1 + 1 := by simp
  obtain ⟨W0, hW0⟩ : ∃ W0, ((((W.alloc (.cells #[.slice A0 nc c0, .slice A1 nc c1, .slice A2 nr c2] 35)).alloc (.cells #[.int .i64 d, .int .i64 id.f0, .int .i64 id.f1, .slice AP np cP, .int .i64 row, .int .i64 comp, .slice AD nd cD] 45)).alloc (.cells #[.slice none 0 0, .slice none 0 0, .slice none 0 0] 35)).alloc (.cells #[.slice none 0 0, .slice none 0 0, .int .i64 0, .int .i64 0, .bool false, .int .i64 0] 42)) = W0 := ⟨_, rfl⟩
  rw [hW0] at hL hB hsz
  have HW := Aside0.mk hW0
  have HB := Aside0.mk hB
  have HL := Aside0.mk hL
  have HSZ := Aside0.mk hsz
  have HNR := Aside0.mk hnr
  have HNC := Aside0.mk hnc
  have HNP := Aside0.mk hnp
  have HND := Aside0.mk hnd
  have HH0 := Aside0.mk H0
  have HH1 := Aside0.mk H1
  have HH2 := Aside0.mk H2
  have HHP := Aside0.mk HP
  have HHD := Aside0.mk HD
  have HL2 := Aside0.mk l2
  have HLD := Aside0.mk lD
  have HCS := Aside0.mk hcs
  have HR := Aside0.mk hr
  have HZ := Aside0.mk hz
  have HWF := Aside0.mk hwf
  have q20 : W0.cell? ⟨W.heap.size, 0, none⟩ = some (.slice A0 nc c0) := (blk_cell hL.b2 0).trans rfl
  have q21 : W0.cell? ⟨W.heap.size, 1, none⟩ = some (.slice A1 nc c1) := (blk_cell hL.b2 1).trans rfl
  have q22 : W0.cell? ⟨W.heap.size, 2, none⟩ = some (.slice A2 nr c2) := (blk_cell hL.b2 2).trans rfl
  have q30 : W0.cell? ⟨W.heap.size + 1, 0, none⟩ = some (.int .i64 d) := (blk_cell hL.b3 0).trans rfl
  have q31 : W0.cell? ⟨W.heap.size + 1, 1, none⟩ = some (.int .i64 id.f0) := (blk_cell hL.b3 1).trans rfl
  have q32 : W0.cell? ⟨W.heap.size + 1, 2, none⟩ = some (.int .i64 id.f1) := (blk_cell hL.b3 2).trans rfl
  have q33 : W0.cell? ⟨W.heap.size + 1, 3, none⟩ = some (.slice AP np cP) := (blk_cell hL.b3 3).trans rfl
  have q34 : W0.cell? ⟨W.heap.size + 1, 4, none⟩ = some (.int .i64 row) := (blk_cell hL.b3 4).trans rfl
  have q35 : W0.cell? ⟨W.heap.size + 1, 5, none⟩ = some (.int .i64 comp) := (blk_cell hL.b3 5).trans rfl
  have q36 : W0.cell? ⟨W.heap.size + 1, 6, none⟩ = some (.slice AD nd cD) := (blk_cell hL.b3 6).trans rfl
  have q40 : W0.cell? ⟨W.heap.size + 1 + 1, 0, none⟩ = some (.slice none 0 0) := (blk_cell hL.b4 0).trans rfl
  have q41 : W0.cell? ⟨W.heap.size + 1 + 1, 1, none⟩ = some (.slice none 0 0) := (blk_cell hL.b4 1).trans rfl
  have q42 : W0.cell? ⟨W.heap.size + 1 + 1, 2, none⟩ = some (.slice none 0 0) := (blk_cell hL.b4 2).trans rfl
  have q50 : W0.cell? ⟨W.heap.size + 1 + 1 + 1, 0, none⟩ = some (.slice none 0 0) := (blk_cell hL.b5 0).trans rfl
  have q51 : W0.cell? ⟨W.heap.size + 1 + 1 + 1, 1, none⟩ = some (.slice none 0 0) := (blk_cell hL.b5 1).trans rfl
  have q52 : W0.cell? ⟨W.heap.size + 1 + 1 + 1, 2, none⟩ = some (.int .i64 0) := (blk_cell hL.b5 2).trans rfl
  have q53 : W0.cell? ⟨W.heap.size + 1 + 1 + 1, 3, none⟩ = some (.int .i64 0) := (blk_cell hL.b5 3).trans rfl
  have q54 : W0.cell? ⟨W.heap.size + 1 + 1 + 1, 4, none⟩ = some (.bool false) := (blk_cell hL.b5 4).trans rfl
  have q55 : W0.cell? ⟨W.heap.size + 1 + 1 + 1, 5, none⟩ = some (.int .i64 0) := (blk_cell hL.b5 5).trans rfl
  have f4 := blk_frozen hL.b4
  have f5 := blk_frozen hL.b5
  simp only [hnc, hnr, hnp, hnd]
  subst h1
  have q3 : decide (row < 0) = false := by simp; omega
  have q4 : decide ((nr : Int) ≤ row) = false := by simp; omega
  obtain ⟨ade, ce, ee, _, hFK, hcc, hok⟩ := Kd.F_get (old_F H2 (fun k hk => hB.block k hk)) z100 row h3 (by omega)
  subst ee
  have hbl := (hok (by decide)).2
  clear hok
  obtain ⟨A9, c9, rfl, l9, hF9⟩ := k100_openF hFK
  obtain ⟨i, rfl⟩ := Int.eq_ofNat_of_zero_le h3
  simp only [Int.toNat_natCast] at hcc hF9 l9 ⊢
  have y2 : W0.cell? ⟨(ade.add (i * 3)).block, (ade.add (i * 3)).off + 2, none⟩ = some (.slice A9 (rows.getD i z100).f1.length c9) := by rw [← add_field _ _ 2 (by omega)]; exact hcc 2 _ rfl
  obtain ⟨ent, hent⟩ : ∃ e : Ent_, rows.getD i z100 = e := ⟨_, rfl⟩
  rw [hent] at y2 hF9 l9 ⊢
  obtain ⟨n9, hn9⟩ : ∃ n, ent.f1.length = n := ⟨_, rfl⟩
  have e1 : (ade.add (i * 3)).block ≠ W.heap.size + 1 + 1 := by rw [add_block]; omega
  have e2 : (ade.add (i * 3)).block ≠ W.heap.size + 1 + 1 + 1 := by rw [add_block]; omega
  have e3 := Ne.symm e1
  have e4 := Ne.symm e2
  clear hbl
  have HF9 := Aside0.mk hF9
  have HL9 := Aside0.mk l9
  have HN9 := Aside0.mk hn9
  rw [hn9] at y2
  have p1 : (0 : Int) ≤ (i : Int) := by omega
  have p2 : (i : Int) < (nr : Int) := by omega
  have p3 : i < nr := by omega
  clear h3 h4 hFK hcc hF9 l9 hn9 hent
  clear hL hB hW0 hsz hnr hnc hnp hnd H0 H1 H2 HP HD l2 lD hcs hr hz hwf
  go_enter Tryd.func13, Tryd.ntmps13
  go_wp2_with (rw [HW.out])
  go_region
  all_goals
    go_wp2
    obtain ⟨w', hw'⟩ : ∃ w', (((((((((W0.setCell ⟨W.heap.size + 1 + 1, 0, none⟩ (.slice A0 nc c0)).setCell ⟨W.heap.size + 1 + 1, 1, none⟩ (.slice A1 nc c1)).setCell ⟨W.heap.size + 1 + 1, 2, none⟩ (.slice (some ade) nr c2)).setCell ⟨W.heap.size + 1 + 1 + 1, 0, none⟩ (.slice none 0 0)).setCell ⟨W.heap.size + 1 + 1 + 1, 1, none⟩ (.slice A9 n9 c9)).setCell ⟨W.heap.size + 1 + 1 + 1, 2, none⟩ (.int .i64 0)).setCell ⟨W.heap.size + 1 + 1 + 1, 3, none⟩ (.int .i64 0)).setCell ⟨W.heap.size + 1 + 1 + 1, 4, none⟩ (.bool false)).setCell ⟨W.heap.size + 1 + 1 + 1, 5, none⟩ (.int .i64 0)) = w' := ⟨_, rfl⟩
    obtain ⟨t4, t5, tf⟩ := told_world HL.out.b4 HL.out.b5 (by omega) w' hw'
    rw [hw']
    clear hw'
    have t4' : w'.drew.heap[W.heap.size + 1 + 1]? = _ := t4
    have t5' : w'.drew.heap[W.heap.size + 1 + 1 + 1]? = _ := t5
    refine bodyPost_ret (results_cell2_row rfl _ _ _ _ _ _ _ _ _ _ _ _ rfl rfl t4' t5' hu35 rfl (by kernel_rfl) hu42 rfl (by kernel_rfl)) rfl ?_
    exact go_keep HNR.out HB.out HL2.out HH2.out tf.drew (by omega) (by omega) (fun w' hw => ⟨none, 0, A9, c9, by rw [HN9.out]; rfl, Nat.le_refl _, HL9.out, Kd.F_nil _ _ _, Kd.F_mono (Kd.F_step HF9.out (fun k hk hlt => (hw k hk.2).trans (HB.out.block k hk.2).symm)) (fun k hk => .inl hk)⟩)

set_option maxHeartbeats 4000000 in
set_option maxRecDepth 100000 in
theorem rgo_add {W : World} {ok : Nat → Prop} (cs : List Int) (z : Int → Nat) (hz : ∀ k, z k ≤ 64) (rows : List Ent_) (A0 : Option Addr) (c0 : Nat) (A1 : Option Addr) (c1 : Nat) (A2 : Option Addr) (c2 : Nat) (hcs : cs.length ≤ 64) (hr : rows.length ≤ 1024) (l2 : rows.length ≤ c2) (hwf : ∀ r, r ∈ rows → r.f1.length = cs.length)
    (H0 : Kd.F (Kd.int .i64) W ok A0 cs.length cs) (H1 : Kd.F (Kd.int .i64) W ok A1 cs.length (cs.map fun k => (z k : Int))) (H2 : Kd.F k100 W ok A2 rows.length rows)
    (d row comp : Int) (id : ID_) (ps : List Part_) (AP : Option Addr) (cP : Nat) (HP : Kd.F k90 W ok AP ps.length ps) (ds : List Int) (AD : Option Addr) (cD : Nat) (HD : Kd.F (Kd.int .u8) W ok AD ds.length ds) (lD : ds.length ≤ cD) (h1 : d < 1 ∨ 4 < d) :
    Calls Tryd.prog 13 #[.agg #[.slice A0 cs.length c0, .slice A1 cs.length c1, .slice A2 rows.length c2], .agg #[.int .i64 d, .int .i64 id.f0, .int .i64 id.f1, .slice AP ps.length cP, .int .i64 row, .int .i64 comp, .slice AD ds.length cD]] W
      (GoPost W ok A0 c0 A1 c1 cs.length (addRR cs z rows id ps) (errT (addRE cs z rows ps))) := by
  have hu35 := Tryd.underlying35
  have hu42 := Tryd.underlying42
  have hu45 := Tryd.underlying45
  obtain ⟨nc, hnc⟩ : ∃ n, cs.length = n := ⟨_, rfl⟩
  obtain ⟨nr, hnr⟩ : ∃ n, rows.length = n := ⟨_, rfl⟩
  obtain ⟨np, hnp⟩ : ∃ n, ps.length = n := ⟨_, rfl⟩
  obtain ⟨nd, hnd⟩ : ∃ n, ds.length = n := ⟨_, rfl⟩
  have hL := laid W #[.slice A0 nc c0, .slice A1 nc c1, .slice A2 nr c2] #[.int .i64 d, .int .i64 id.f0, .int .i64 id.f1, .slice AP np cP, .int .i64 row, .int .i64 comp, .slice AD nd cD]
  have hB := laid_below W (.cells #[.slice A0 nc c0, .slice A1 nc c1, .slice A2 nr c2] 35) (.cells #[.int .i64 d, .int .i64 id.f0, .int .i64 id.f1, .slice AP np cP, .int .i64 row, .int .i64 comp, .slice AD nd cD] 45) (.cells #[.slice none 0 0, .slice none 0 0, .slice none 0 0] 35) (.cells #[.slice none 0 0, .slice none 0 0, .int .i64 0, .int .i64 0, .bool false, .int .i64 0] 42)
  have hsz : ((((W.alloc (.cells #[.slice A0 nc c0, .slice A1 nc c1, .slice A2 nr c2] 35)).alloc (.cells #[.int .i64 d, .int .i64 id.f0, .int .i64 id.f1, .slice AP np cP, .int .i64 row, .int .i64 comp, .slice AD nd cD] 45)).alloc (.cells #[.slice none 0 0, .slice none 0 0, .slice none 0 0] 35)).alloc (.cells #[.slice none 0 0, .slice none 0 0, .int .i64 0, .int .i64 0, .bool false, .int .i64 0] 42)).heap.size = W.heap.size + 1 + 1 + 1 + 1 := by simp
  obtain ⟨W0, hW0⟩ : ∃ W0, ((((W.alloc (.cells #[.slice A0 nc c0, .slice A1 nc c1, .slice A2 nr c2] 35)).alloc (.cells #[.int .i64 d, .int .i64 id.f0, .int .i64 id.f1, .slice AP np cP, .int .i64 row, .int .i64 comp, .slice AD nd cD] 45)).alloc (.cells #[.slice none 0 0, .slice none 0 0, .slice none 0 0] 35)).alloc (.cells #[.slice none 0 0, .slice none 0 0, .int .i64 0, .int .i64 0, .bool false, .int .i64 0] 42)) = W0 := ⟨_, rfl⟩
  rw [hW0] at hL hB hsz
  have HW := Aside0.mk hW0
  have HB := Aside0.mk hB
  have HL := Aside0.mk hL
  have HSZ := Aside0.mk hsz
  have HNR := Aside0.mk hnr
  have HNC := Aside0.mk hnc
  have HNP := Aside0.mk hnp
  have HND := Aside0.mk hnd
  have HH0 := Aside0.mk H0
  have HH1 := Aside0.mk H1
  have HH2 := Aside0.mk H2
  have HHP := Aside0.mk HP
  have HHD := Aside0.mk HD
  have HL2 := Aside0.mk l2
  have HLD := Aside0.mk lD
  have HCS := Aside0.mk hcs
  have HR := Aside0.mk hr
  have HZ := Aside0.mk hz
  have HWF := Aside0.mk hwf
  have q20 : W0.cell? ⟨W.heap.size, 0, none⟩ = some (.slice A0 nc c0) := (blk_cell hL.b2 0).trans rfl
  have q21 : W0.cell? ⟨W.heap.size, 1, none⟩ = some (.slice A1 nc c1) := (blk_cell hL.b2 1).trans rfl
  have q22 : W0.cell? ⟨W.heap.size, 2, none⟩ = some (.slice A2 nr c2) := (blk_cell hL.b2 2).trans rfl
  have q30 : W0.cell? ⟨W.heap.size + 1, 0, none⟩ = some (.int .i64 d) := (blk_cell hL.b3 0).trans rfl
  have q31 : W0.cell? ⟨W.heap.size + 1, 1, none⟩ = some (.int .i64 id.f0) := (blk_cell hL.b3 1).trans rfl
  have q32 : W0.cell? ⟨W.heap.size + 1, 2, none⟩ = some (.int .i64 id.f1) := (blk_cell hL.b3 2).trans rfl
  have q33 : W0.cell? ⟨W.heap.size + 1, 3, none⟩ = some (.slice AP np cP) := (blk_cell hL.b3 3).trans rfl
  have q34 : W0.cell? ⟨W.heap.size + 1, 4, none⟩ = some (.int .i64 row) := (blk_cell hL.b3 4).trans rfl
  have q35 : W0.cell? ⟨W.heap.size + 1, 5, none⟩ = some (.int .i64 comp) := (blk_cell hL.b3 5).trans rfl
  have q36 : W0.cell? ⟨W.heap.size + 1, 6, none⟩ = some (.slice AD nd cD) := (blk_cell hL.b3 6).trans rfl
  have q40 : W0.cell? ⟨W.heap.size + 1 + 1, 0, none⟩ = some (.slice none 0 0) := (blk_cell hL.b4 0).trans rfl
  have q41 : W0.cell? ⟨W.heap.size + 1 + 1, 1, none⟩ = some (.slice none 0 0) := (blk_cell hL.b4 1).trans rfl
  have q42 : W0.cell? ⟨W.heap.size + 1 + 1, 2, none⟩ = some (.slice none 0 0) := (blk_cell hL.b4 2).trans rfl
  have q50 : W0.cell? ⟨W.heap.size + 1 + 1 + 1, 0, none⟩ = some (.slice none 0 0) := (blk_cell hL.b5 0).trans rfl
  have q51 : W0.cell? ⟨W.heap.size + 1 + 1 + 1, 1, none⟩ = some (.slice none 0 0) := (blk_cell hL.b5 1).trans rfl
  have q52 : W0.cell? ⟨W.heap.size + 1 + 1 + 1, 2, none⟩ = some (.int .i64 0) := (blk_cell hL.b5 2).trans rfl
  have q53 : W0.cell? ⟨W.heap.size + 1 + 1 + 1, 3, none⟩ = some (.int .i64 0) := (blk_cell hL.b5 3).trans rfl
  have q54 : W0.cell? ⟨W.heap.size + 1 + 1 + 1, 4, none⟩ = some (.bool false) := (blk_cell hL.b5 4).trans rfl
  have q55 : W0.cell? ⟨W.heap.size + 1 + 1 + 1, 5, none⟩ = some (.int .i64 0) := (blk_cell hL.b5 5).trans rfl
  have f4 := blk_frozen hL.b4
  have f5 := blk_frozen hL.b5
  simp only [hnc, hnr, hnp, hnd]
  have hadd := radd_calls (W := W0) (ok := fun k => ok k ∧ k < W.heap.size) cs z hz rows A0 c0 A1 c1 A2 c2 hcs hr l2 (old_F H0 (fun k hk => hB.block k hk)) (old_F H1 (fun k hk => hB.block k hk)) (old_F H2 (fun k hk => hB.block k hk)) d row comp id ps AP cP (old_F HP (fun k hk => hB.block k hk)) AD nd cD
  rw [hnc, hnr, hnp] at hadd
  obtain ⟨er, her⟩ : ∃ e, addRE cs z rows ps = e := ⟨_, rfl⟩
  obtain ⟨rr, hrr⟩ : ∃ r, addRR cs z rows id ps = r := ⟨_, rfl⟩
  rw [her, hrr] at hadd
  rw [her, hrr]
  have HADD := Aside0.mk hadd
  have H3 := Aside0.mk h1
  clear h1 hadd her hrr
  clear hL hB hW0 hsz hnr hnc hnp hnd H0 H1 H2 HP HD l2 lD hcs hr hz hwf
  go_enter Tryd.func13, Tryd.ntmps13
  by_cases h3 : d < 1
  · have q1 : decide (d < 1) = true := decide_eq_true h3
    go_wp2_with (rw [HW.out])
    refine HADD.out.mono ?_
    rintro e w1 ⟨A2', c2', rfl, hl2, hF2, hB1⟩
    obtain ⟨n2, hn2⟩ : ∃ n, rr.length = n := ⟨_, rfl⟩
    rw [hn2]
    have HN2 := Aside0.mk hn2
    have HL9 := Aside0.mk hl2
    have HF9 := Aside0.mk hF2
    have hb4 := (hB1.block _ (heap_lt' HL.out.b4)).trans HL.out.b4
    have hb5 := (hB1.block _ (heap_lt' HL.out.b5)).trans HL.out.b5
    have HB4 := Aside0.mk hb4
    have HB5 := Aside0.mk hb5
    have HB1 := Aside0.mk hB1
    clear q20 q21 q22 q30 q31 q32 q33 q34 q35 q36 q40 q41 q42 q50 q51 q52 q53 q54 q55 f4 f5
    have q40 : w1.cell? ⟨W.heap.size + 1 + 1, 0, none⟩ = some (.slice none 0 0) := (blk_cell hb4 0).trans rfl
    have q41 : w1.cell? ⟨W.heap.size + 1 + 1, 1, none⟩ = some (.slice none 0 0) := (blk_cell hb4 1).trans rfl
    have q42 : w1.cell? ⟨W.heap.size + 1 + 1, 2, none⟩ = some (.slice none 0 0) := (blk_cell hb4 2).trans rfl
    have q50 : w1.cell? ⟨W.heap.size + 1 + 1 + 1, 0, none⟩ = some (.slice none 0 0) := (blk_cell hb5 0).trans rfl
    have q51 : w1.cell? ⟨W.heap.size + 1 + 1 + 1, 1, none⟩ = some (.slice none 0 0) := (blk_cell hb5 1).trans rfl
    have q52 : w1.cell? ⟨W.heap.size + 1 + 1 + 1, 2, none⟩ = some (.int .i64 0) := (blk_cell hb5 2).trans rfl
    have q53 : w1.cell? ⟨W.heap.size + 1 + 1 + 1, 3, none⟩ = some (.int .i64 0) := (blk_cell hb5 3).trans rfl
    have q54 : w1.cell? ⟨W.heap.size + 1 + 1 + 1, 4, none⟩ = some (.bool false) := (blk_cell hb5 4).trans rfl
    have q55 : w1.cell? ⟨W.heap.size + 1 + 1 + 1, 5, none⟩ = some (.int .i64 0) := (blk_cell hb5 5).trans rfl
    have f4 := blk_frozen hb4
    have f5 := blk_frozen hb5
    clear hn2 hl2 hF2 hb4 hb5 hB1
    go_wp2
    obtain ⟨t4, t5, tf⟩ := told_world HB4.out HB5.out (by omega) _ rfl
    refine bodyPost_ret (results_cell2_row rfl _ _ _ _ _ _ _ _ _ _ _ _ rfl rfl t4 t5 hu35 rfl (by kernel_rfl) hu42 rfl (by kernel_rfl)) rfl ?_
    exact go_add_end HN2.out HB.out HB1.out HL9.out HF9.out tf (by omega) (by omega) (.inr trivial) (IsTold.err er) (by have := HSZ.out; omega) (by have := HSZ.out; omega)
  · have q1 : decide (d < 1) = false := decide_eq_false h3
    have q2 : decide ((4 : Int) < d) = true := by have := H3.out; simp; omega
    go_wp2_with (rw [HW.out])
    refine HADD.out.mono ?_
    rintro e w1 ⟨A2', c2', rfl, hl2, hF2, hB1⟩
    obtain ⟨n2, hn2⟩ : ∃ n, rr.length = n := ⟨_, rfl⟩
    rw [hn2]
    have HN2 := Aside0.mk hn2
    have HL9 := Aside0.mk hl2
    have HF9 := Aside0.mk hF2
    have hb4 := (hB1.block _ (heap_lt' HL.out.b4)).trans HL.out.b4
    have hb5 := (hB1.block _ (heap_lt' HL.out.b5)).trans HL.out.b5
    have HB4 := Aside0.mk hb4
    have HB5 := Aside0.mk hb5
    have HB1 := Aside0.mk hB1
    clear q20 q21 q22 q30 q31 q32 q33 q34 q35 q36 q40 q41 q42 q50 q51 q52 q53 q54 q55 f4 f5
    have q40 : w1.cell? ⟨W.heap.size + 1 + 1, 0, none⟩ = some (.slice none 0 0) := (blk_cell hb4 0).trans rfl
    have q41 : w1.cell? ⟨W.heap.size + 1 + 1, 1, none⟩ = some (.slice none 0 0) := (blk_cell hb4 1).trans rfl
    have q42 : w1.cell? ⟨W.heap.size + 1 + 1, 2, none⟩ = some (.slice none 0 0) := (blk_cell hb4 2).trans rfl
    have q50 : w1.cell? ⟨W.heap.size + 1 + 1 + 1, 0, none⟩ = some (.slice none 0 0) := (blk_cell hb5 0).trans rfl
    have q51 : w1.cell? ⟨W.heap.size + 1 + 1 + 1, 1, none⟩ = some (.slice none 0 0) := (blk_cell hb5 1).trans rfl
    have q52 : w1.cell? ⟨W.heap.size + 1 + 1 + 1, 2, none⟩ = some (.int .i64 0) := (blk_cell hb5 2).trans rfl
    have q53 : w1.cell? ⟨W.heap.size + 1 + 1 + 1, 3, none⟩ = some (.int .i64 0) := (blk_cell hb5 3).trans rfl
    have q54 : w1.cell? ⟨W.heap.size + 1 + 1 + 1, 4, none⟩ = some (.bool false) := (blk_cell hb5 4).trans rfl
    have q55 : w1.cell? ⟨W.heap.size + 1 + 1 + 1, 5, none⟩ = some (.int .i64 0) := (blk_cell hb5 5).trans rfl
    have f4 := blk_frozen hb4
    have f5 := blk_frozen hb5
    clear hn2 hl2 hF2 hb4 hb5 hB1
    go_wp2
    obtain ⟨t4, t5, tf⟩ := told_world HB4.out HB5.out (by omega) _ rfl
    refine bodyPost_ret (results_cell2_row rfl _ _ _ _ _ _ _ _ _ _ _ _ rfl rfl t4 t5 hu35 rfl (by kernel_rfl) hu42 rfl (by kernel_rfl)) rfl ?_
    exact go_add_end HN2.out HB.out HB1.out HL9.out HF9.out tf (by omega) (by omega) (.inr trivial) (IsTold.err er) (by have := HSZ.out; omega) (by have := HSZ.out; omega)

set_option maxHeartbeats 4000000 in
set_option maxRecDepth 100000 in
theorem rgo_drop {W : World} {ok : Nat → Prop} (cs : List Int) (z : Int → Nat) (hz : ∀ k, z k ≤ 64) (rows : List Ent_) (A0 : Option Addr) (c0 : Nat) (A1 : Option Addr) (c1 : Nat) (A2 : Option Addr) (c2 : Nat) (hcs : cs.length ≤ 64) (hr : rows.length ≤ 1024) (l2 : rows.length ≤ c2) (hwf : ∀ r, r ∈ rows → r.f1.length = cs.length)
    (H0 : Kd.F (Kd.int .i64) W ok A0 cs.length cs) (H1 : Kd.F (Kd.int .i64) W ok A1 cs.length (cs.map fun k => (z k : Int))) (H2 : Kd.F k100 W ok A2 rows.length rows)
    (d row comp : Int) (id : ID_) (ps : List Part_) (AP : Option Addr) (cP : Nat) (HP : Kd.F k90 W ok AP ps.length ps) (ds : List Int) (AD : Option Addr) (cD : Nat) (HD : Kd.F (Kd.int .u8) W ok AD ds.length ds) (lD : ds.length ≤ cD) (h1 : d = 4) (h3 : 0 ≤ row) (h4 : row < (rows.length : Int)) :
    Calls Tryd.prog 13 #[.agg #[.slice A0 cs.length c0, .slice A1 cs.length c1, .slice A2 rows.length c2], .agg #[.int .i64 d, .int .i64 id.f0, .int .i64 id.f1, .slice AP ps.length cP, .int .i64 row, .int .i64 comp, .slice AD ds.length cD]] W
      (GoPost W ok A0 c0 A1 c1 cs.length ((rows.set row.toNat (rows.getD (rows.length - 1) z100)).take (rows.length - 1)) (if row.toNat = rows.length - 1 then errT 0 else (⟨[], [], (rows.getD (rows.length - 1) z100).f0, true, 0⟩ : ToldS))) := by
  have hu35 := Tryd.underlying35
  have hu42 := Tryd.underlying42
  have hu45 := Tryd.underlying45
  obtain ⟨nc, hnc⟩ : ∃ n, cs.length = n := ⟨_, rfl⟩
  obtain ⟨nr, hnr⟩ : ∃ n, rows.length = n := ⟨_, rfl⟩
  obtain ⟨np, hnp⟩ : ∃ n, ps.length = n := ⟨_, rfl⟩
  obtain ⟨nd, hnd⟩ : ∃ n, ds.length = n := ⟨_, rfl⟩
  have hL := laid W #[.slice A0 nc c0, .slice A1 nc c1, .slice A2 nr c2] #[.int .i64 d, .int .i64 id.f0, .int .i64 id.f1, .slice AP np cP, .int .i64 row, .int .i64 comp, .slice AD nd cD]
  have hB := laid_below W (.cells #[.slice A0 nc c0, .slice A1 nc c1, .slice A2 nr c2] 35) (.cells #[.int .i64 d, .int .i64 id.f0, .int .i64 id.f1, .slice AP np cP, .int .i64 row, .int .i64 comp, .slice AD nd cD] 45) (.cells #[.slice none 0 0, .slice none 0 0, .slice none 0 0] 35) (.cells #[.slice none 0 0, .slice none 0 0, .int .i64 0, .int .i64 0, .bool false, .int .i64 0] 42)
  have hsz : ((((W.alloc (.cells #[.slice A0 nc c0, .slice A1 nc c1, .slice A2 nr c2] 35)).alloc (.cells #[.int .i64 d, .int .i64 id.f0, .int .i64 id.f1, .slice AP np cP, .int .i64 row, .int .i64 comp, .slice AD nd cD] 45)).alloc (.cells #[.slice none 0 0, .slice none 0 0, .slice none 0 0] 35)).alloc (.cells #[.slice none 0 0, .slice none 0 0, .int .i64 0, .int .i64 0, .bool false, .int .i64 0] 42)).heap.size = W.heap.size + 1 + 1 + 1 + 1 := by simp
  obtain ⟨W0, hW0⟩ : ∃ W0, ((((W.alloc (.cells #[.slice A0 nc c0, .slice A1 nc c1, .slice A2 nr c2] 35)).alloc (.cells #[.int .i64 d, .int .i64 id.f0, .int .i64 id.f1, .slice AP np cP, .int .i64 row, .int .i64 comp, .slice AD nd cD] 45)).alloc (.cells #[.slice none 0 0, .slice none 0 0, .slice none 0 0] 35)).alloc (.cells #[.slice none 0 0, .slice none 0 0, .int .i64 0, .int .i64 0, .bool false, .int .i64 0] 42)) = W0 := ⟨_, rfl⟩
  rw [hW0] at hL hB hsz
  have HW := Aside0.mk hW0
  have HB := Aside0.mk hB
  have HL := Aside0.mk hL
  have HSZ := Aside0.mk hsz
  have HNR := Aside0.mk hnr
  have HNC := Aside0.mk hnc
  have HNP := Aside0.mk hnp
  have HND := Aside0.mk hnd
  have HH0 := Aside0.mk H0
  have HH1 := Aside0.mk H1
  have HH2 := Aside0.mk H2
  have HHP := Aside0.mk HP
  have HHD := Aside0.mk HD
  have HL2 := Aside0.mk l2
  have HLD := Aside0.mk lD
  have HCS := Aside0.mk hcs
  have HR := Aside0.mk hr
  have HZ := Aside0.mk hz
  have HWF := Aside0.mk hwf
  have q20 : W0.cell? ⟨W.heap.size, 0, none⟩ = some (.slice A0 nc c0) := (blk_cell hL.b2 0).trans rfl
  have q21 : W0.cell? ⟨W.heap.size, 1, none⟩ = some (.slice A1 nc c1) := (blk_cell hL.b2 1).trans rfl
  have q22 : W0.cell? ⟨W.heap.size, 2, none⟩ = some (.slice A2 nr c2) := (blk_cell hL.b2 2).trans rfl
  have q30 : W0.cell? ⟨W.heap.size + 1, 0, none⟩ = some (.int .i64 d) := (blk_cell hL.b3 0).trans rfl
  have q31 : W0.cell? ⟨W.heap.size + 1, 1, none⟩ = some (.int .i64 id.f0) := (blk_cell hL.b3 1).trans rfl
  have q32 : W0.cell? ⟨W.heap.size + 1, 2, none⟩ = some (.int .i64 id.f1) := (blk_cell hL.b3 2).trans rfl
  have q33 : W0.cell? ⟨W.heap.size + 1, 3, none⟩ = some (.slice AP np cP) := (blk_cell hL.b3 3).trans rfl
  have q34 : W0.cell? ⟨W.heap.size + 1, 4, none⟩ = some (.int .i64 row) := (blk_cell hL.b3 4).trans rfl
  have q35 : W0.cell? ⟨W.heap.size + 1, 5, none⟩ = some (.int .i64 comp) := (blk_cell hL.b3 5).trans rfl
  have q36 : W0.cell? ⟨W.heap.size + 1, 6, none⟩ = some (.slice AD nd cD) := (blk_cell hL.b3 6).trans rfl
  have q40 : W0.cell? ⟨W.heap.size + 1 + 1, 0, none⟩ = some (.slice none 0 0) := (blk_cell hL.b4 0).trans rfl
  have q41 : W0.cell? ⟨W.heap.size + 1 + 1, 1, none⟩ = some (.slice none 0 0) := (blk_cell hL.b4 1).trans rfl
  have q42 : W0.cell? ⟨W.heap.size + 1 + 1, 2, none⟩ = some (.slice none 0 0) := (blk_cell hL.b4 2).trans rfl
  have q50 : W0.cell? ⟨W.heap.size + 1 + 1 + 1, 0, none⟩ = some (.slice none 0 0) := (blk_cell hL.b5 0).trans rfl
  have q51 : W0.cell? ⟨W.heap.size + 1 + 1 + 1, 1, none⟩ = some (.slice none 0 0) := (blk_cell hL.b5 1).trans rfl
  have q52 : W0.cell? ⟨W.heap.size + 1 + 1 + 1, 2, none⟩ = some (.int .i64 0) := (blk_cell hL.b5 2).trans rfl
  have q53 : W0.cell? ⟨W.heap.size + 1 + 1 + 1, 3, none⟩ = some (.int .i64 0) := (blk_cell hL.b5 3).trans rfl
  have q54 : W0.cell? ⟨W.heap.size + 1 + 1 + 1, 4, none⟩ = some (.bool false) := (blk_cell hL.b5 4).trans rfl
  have q55 : W0.cell? ⟨W.heap.size + 1 + 1 + 1, 5, none⟩ = some (.int .i64 0) := (blk_cell hL.b5 5).trans rfl
  have f4 := blk_frozen hL.b4
  have f5 := blk_frozen hL.b5
  simp only [hnc, hnr, hnp, hnd]
  subst h1
  have q3 : decide (row < 0) = false := by simp; omega
  have q4 : decide ((nr : Int) ≤ row) = false := by simp; omega
  obtain ⟨i, rfl⟩ := Int.eq_ofNat_of_zero_le h3
  obtain ⟨l, hl⟩ : ∃ l, nr = l + 1 := ⟨nr - 1, by omega⟩
  have hil : i ≤ l := by omega
  simp only [Int.toNat_natCast]
  obtain ⟨lst, hlst⟩ : ∃ e : Ent_, rows.getD (nr - 1) z100 = e := ⟨_, rfl⟩
  rw [hlst]
  obtain ⟨RR, hRR⟩ : ∃ r, (rows.set i lst).take (nr - 1) = r := ⟨_, rfl⟩
  obtain ⟨TT, hTT⟩ : ∃ t, (if i = nr - 1 then errT 0 else (⟨[], [], lst.f0, true, 0⟩ : ToldS)) = t := ⟨_, rfl⟩
  rw [hRR, hTT]
  have HLST := Aside0.mk hlst
  have HRR := Aside0.mk hRR
  have HTT := Aside0.mk hTT
  clear hlst hRR hTT
  have p1 : (0 : Int) ≤ (i : Int) := by omega
  have p2 : (i : Int) < (nr : Int) := by omega
  have p3 : i < nr := by omega
  have g2lt : W.heap.size < W0.heap.size := by omega
  have g3lt : W.heap.size + 1 < W0.heap.size := by omega
  have HLL := Aside0.mk hl
  have HIL := Aside0.mk hil
  have hWa : Below W0.heap.size W0 (W0.alloc (.cells #[] 100)) := (Below.refl _ _).alloc (Nat.le_refl _) _
  have HNA := Aside0.mk (show Kd.N k100 100 (W0.alloc (.cells #[] 100)) W.heap.size (fun k => (ok k ∧ k < W.heap.size) ∨ W0.heap.size ≤ k) (.slice (some ⟨W0.heap.size, 0, none⟩) 0 0) [] from N_empty (by simpa using heap_alloc_new W0 (.cells #[] 100)) hB.size (.inr (Nat.le_refl _)))
  have HFA := Aside0.mk (show Kd.F k100 (W0.alloc (.cells #[] 100)) (fun k => ok k ∧ k < W.heap.size) A2 nr rows from by
    have h9 := old_F H2 (wr := W0.alloc (.cells #[] 100)) (fun k hk => (hWa.block k (Nat.lt_of_lt_of_le hk hB.size)).trans (hB.block k hk))
    rw [hnr] at h9
    exact h9)
  have HBA := Aside0.mk (show Below W.heap.size W (W0.alloc (.cells #[] 100)) from ((Fr.of_below hB None_).below_ hWa).toBelow0)
  have HLE := Aside0.mk (show (([] : List Ent_).length + nr) * 40 ≤ 140737488355328 by simp; omega)
  clear h3 h4 hl hil hWa
  clear hL hB hW0 hsz hnr hnc hnp hnd H0 H1 H2 HP HD l2 lD hcs hr hz hwf
  go_enter Tryd.func13, Tryd.ntmps13
  go_wp2_with (first | rw [HW.out] | ((with_reducible refine gate_builtin (b := .append) (xs := #[.tmp 48, .tmp 50]) rfl ?_); at_builtin; refine Kd.N_append_rows k100 (w0 := W) W.heap.size rfl (.tmp 48) (.tmp 50) 33 100 (.agg #[.int .i64 0, .int .i64 0, .slice none 0 0]) 40 rfl Tryd.underlying33 infoEnt rfl (by decide) (by omega) (.slice (some ⟨W0.heap.size, 0, none⟩) 0 0) [] rows A2 nr c2 (fun k => (ok k ∧ k < W.heap.size) ∨ W0.heap.size ≤ k) (fun k => ok k ∧ k < W.heap.size) rfl rfl HNA.out HFA.out ?aQ ?aF HBA.out ?aS HLE.out ?_))
  case aQ => exact fun k hk => ⟨.inl hk, fun e => by simp [Value.ownBlock] at e; have := HB.out.size; have := hk.2; omega⟩
  case aF => exact fun k hk => .inr (by simp at hk; omega)
  case aS => exact HBA.out.size
  intro v1 w6 ho hb6 hg6 hat6
  replace ho : Kd.N k100 100 w6 W.heap.size (fun k => (ok k ∧ k < W.heap.size) ∨ W0.heap.size ≤ k) v1 rows := ho
  obtain ⟨gb, c6, ev, hgb0, hgbl, csb, hcsb⟩ := Kd.N_form ho (by rw [HNR.out]; omega)
  rw [HNR.out] at ev
  subst ev
  have hold6 : ∀ k, k < W0.heap.size → w6.heap[k]? = W0.heap[k]? := fun k hk => (hg6.block k (by simp; omega) (by simp [Value.ownBlock]; omega)).trans (((Below.refl _ W0).alloc (Nat.le_refl _) _).block k hk)
  have hgbW : W0.heap.size ≤ gb := by
    rcases hat6 with e | ⟨b, e, hb⟩
    · simp [Value.ownBlock] at e; omega
    · have e' : gb = b := by simpa [Value.ownBlock] using e
      have hs : (W0.alloc (.cells #[] 100)).heap.size = W0.heap.size + 1 := by simp
      omega
  obtain ⟨ci, hci1, hci2, hci3, hci4⟩ := Kd.N_elem ho z100 (i : Int) p1 p2
  obtain ⟨AI, cI, rfl, lI, hFI⟩ := k100_openF hci2
  have hl0 : ((nr - 1 : Nat) : Int) < (nr : Int) := by omega
  obtain ⟨cl, hcl1, hcl2, hcl3, hcl4⟩ := Kd.N_elem ho z100 ((nr - 1 : Nat) : Int) (by omega) hl0
  obtain ⟨AL, cL, rfl, lL, hFL⟩ := k100_openF hcl2
  simp only [Int.toNat_natCast] at hci3 hcl3 hci4 hcl4 hFL lL hcl2 hci2
  obtain ⟨lq, hlq⟩ : ∃ l, nr - 1 = l := ⟨_, rfl⟩
  have HLQ := Aside0.mk hlq
  have x0 : w6.cell? ⟨gb, i * 3, none⟩ = some _ := hci3 0 _ rfl
  have x1 : w6.cell? ⟨gb, i * 3 + 1, none⟩ = some _ := hci3 1 _ rfl
  have x2 : w6.cell? ⟨gb, i * 3 + 2, none⟩ = some _ := hci3 2 _ rfl
  have y0 : w6.cell? ⟨gb, (nr - 1) * 3, none⟩ = some _ := hcl3 0 _ rfl
  have y1 : w6.cell? ⟨gb, (nr - 1) * 3 + 1, none⟩ = some _ := hcl3 1 _ rfl
  have y2 : w6.cell? ⟨gb, (nr - 1) * 3 + 2, none⟩ = some _ := hcl3 2 _ rfl
  have HLSTE := HLST.out
  rw [HLSTE] at y0 y1 y2 hFL lL
  obtain ⟨nL, hnL⟩ : ∃ n, lst.f1.length = n := ⟨_, rfl⟩
  rw [hnL] at y2
  have HNL := Aside0.mk hnL
  have HLL9 := Aside0.mk lL
  have HFL := Aside0.mk hFL
  obtain ⟨ei, hei⟩ : ∃ e : Ent_, rows.getD i z100 = e := ⟨_, rfl⟩
  rw [hei] at x0 x1 x2
  obtain ⟨nI, hnI⟩ : ∃ n, ei.f1.length = n := ⟨_, rfl⟩
  rw [hnI] at x2
  rw [hlq] at y0 y1 y2
  have hll : lq < nr := by omega
  have fb := fun j => blk_frozen hcsb j
  have hL6 : Laid w6 W.heap.size #[.slice A0 nc c0, .slice A1 nc c1, .slice A2 nr c2] #[.int .i64 4, .int .i64 id.f0, .int .i64 id.f1, .slice AP np cP, .int .i64 (i : Int), .int .i64 comp, .slice AD nd cD] := ⟨(hold6 _ (heap_lt' HL.out.b2)).trans HL.out.b2, (hold6 _ (heap_lt' HL.out.b3)).trans HL.out.b3, (hold6 _ (heap_lt' HL.out.b4)).trans HL.out.b4, (hold6 _ (heap_lt' HL.out.b5)).trans HL.out.b5⟩
  have HL6 := Aside0.mk hL6
  have HO6 := Aside0.mk ho
  have HB6 := Aside0.mk hb6
  have w22 : w6.cell? ⟨W.heap.size, 2, none⟩ = some (.slice A2 nr c2) := (blk_cell hL6.b2 2).trans rfl
  have w30 : w6.cell? ⟨W.heap.size + 1, 0, none⟩ = some (.int .i64 4) := (blk_cell hL6.b3 0).trans rfl
  have w34 : w6.cell? ⟨W.heap.size + 1, 4, none⟩ = some (.int .i64 (i : Int)) := (blk_cell hL6.b3 4).trans rfl
  have w2f := blk_frozen hL6.b2 2
  have hnrI : (nr : Int) ≤ 1024 := by have := HR.out; rw [HNR.out] at this; omega
  have hw1 : IntKind.i64.wrap ((nr : Int) - 1) = (lq : Int) := by rw [IntKind.wrap_i64]; omega
  have hsub : (nr : Int) - 1 = (lq : Int) := by omega
  have hn1 : (1 : Int) ≤ nr := by omega
  have e1 : gb ≠ W.heap.size := by omega
  have e2 := Ne.symm e1
  have e3 : gb ≠ W.heap.size + 1 := by omega
  have e4 := Ne.symm e3
  have HGBW := Aside0.mk hgbW
  have HCI := Aside0.mk (And.intro hci1 hci3)
  clear q20 q21 q22 q30 q31 q32 q33 q34 q35 q36 q40 q41 q42 q50 q51 q52 q53 q54 q55 f4 f5 q3 q4 hFI lI hci1 hci2 hci3 hci4 hcl1 hcl2 hcl3 hcl4 hL6 ho hb6 hg6 hat6 hold6 hgbW hgb0 hgbl HLSTE hnL hnI hei hlq hcsb hFL lL
  go_wp2
  go_region
  obtain ⟨w7, hw7⟩ : ∃ w7, (((w6.setCell ⟨gb, i * 3, none⟩ (.int .i64 lst.f0.f0)).setCell ⟨gb, i * 3 + 1, none⟩ (.int .i64 lst.f0.f1)).setCell ⟨gb, i * 3 + 2, none⟩ (.slice AL nL cL)) = w7 := ⟨_, rfl⟩
  have hN7 := row_put (i := i) HO6.out p3 HFL.out HNL.out (by rw [← HNL.out]; exact HLL9.out)
  rw [hw7] at hN7 ⊢
  have h7b : ∀ k, k ≠ gb → w7.drew.heap[k]? = w6.heap[k]? := fun k hk => by
    show w7.heap[k]? = _
    rw [← hw7, Below.heap_setCell _ _ _ k hk, Below.heap_setCell _ _ _ k hk, Below.heap_setCell _ _ _ k hk]
  have hfr7 : Fr (fun k => k = gb) w6 w7.drew := by
    have h9 := (((Fr.refl (fun k => k = gb) w6).setCell (p := ⟨gb, i * 3, none⟩) (.inl rfl) (.int .i64 lst.f0.f0)).setCell (p := ⟨gb, i * 3 + 1, none⟩) (.inl rfl) (.int .i64 lst.f0.f1)).setCell (p := ⟨gb, i * 3 + 2, none⟩) (.inl rfl) (.slice AL nL cL)
    rw [hw7] at h9
    exact h9.drew
  obtain ⟨w8, hw8⟩ : ∃ w8, w7.drew = w8 := ⟨_, rfl⟩
  replace hN7 := Kd.N_drew hN7
  rw [hw8] at hN7 h7b hfr7 ⊢
  obtain ⟨cn, hcn1, hcn2, hcn3, hcn4⟩ := Kd.N_elem hN7 z100 (i : Int) p1 p2
  rw [show (rows.set i lst).getD (Int.toNat (i : Int)) z100 = lst by simp [List.getD_eq_getElem?_getD, show i < rows.length by have := HNR.out; omega]] at hcn2
  obtain ⟨AN, cN, rfl, lN, hFN⟩ := k100_openF hcn2
  simp only [Int.toNat_natCast] at hcn3
  have z0 : w8.cell? ⟨gb, i * 3, none⟩ = some (.int .i64 lst.f0.f0) := hcn3 0 _ rfl
  have z1 : w8.cell? ⟨gb, i * 3 + 1, none⟩ = some (.int .i64 lst.f0.f1) := hcn3 1 _ rfl
  have hL8 : Laid w8 W.heap.size #[.slice A0 nc c0, .slice A1 nc c1, .slice A2 nr c2] #[.int .i64 4, .int .i64 id.f0, .int .i64 id.f1, .slice AP np cP, .int .i64 (i : Int), .int .i64 comp, .slice AD nd cD] := by
    have hg := HGBW.out
    have hz := HSZ.out
    exact ⟨(h7b _ (by omega)).trans HL6.out.b2, (h7b _ (by omega)).trans HL6.out.b3, (h7b _ (by omega)).trans HL6.out.b4, (h7b _ (by omega)).trans HL6.out.b5⟩
  have hsl := run_slice_to (P := Tryd.prog) Tryd.underlying33 (s := 3) (fun w => by kernel_rfl) (some ⟨gb, 0, none⟩) nr c6 lq (by have := (Kd.N_reads' hN7).2.1; omega)
  have HL8 := Aside0.mk hL8
  have HN8 := Aside0.mk hN7
  have HF8 := Aside0.mk hfr7
  clear x0 x1 x2 y0 y1 y2 fb w22 w30 w34 w2f hw7 hw8 h7b hfr7 hN7 hcn1 hcn2 hcn3 hcn4 hFN lN
  have hb4 := HL8.out.b4
  have hb5 := HL8.out.b5
  have q40 : w8.cell? ⟨W.heap.size + 1 + 1, 0, none⟩ = some (.slice none 0 0) := (blk_cell hb4 0).trans rfl
  have q41 : w8.cell? ⟨W.heap.size + 1 + 1, 1, none⟩ = some (.slice none 0 0) := (blk_cell hb4 1).trans rfl
  have q42 : w8.cell? ⟨W.heap.size + 1 + 1, 2, none⟩ = some (.slice none 0 0) := (blk_cell hb4 2).trans rfl
  have q50 : w8.cell? ⟨W.heap.size + 1 + 1 + 1, 0, none⟩ = some (.slice none 0 0) := (blk_cell hb5 0).trans rfl
  have q51 : w8.cell? ⟨W.heap.size + 1 + 1 + 1, 1, none⟩ = some (.slice none 0 0) := (blk_cell hb5 1).trans rfl
  have q52 : w8.cell? ⟨W.heap.size + 1 + 1 + 1, 2, none⟩ = some (.int .i64 0) := (blk_cell hb5 2).trans rfl
  have q53 : w8.cell? ⟨W.heap.size + 1 + 1 + 1, 3, none⟩ = some (.int .i64 0) := (blk_cell hb5 3).trans rfl
  have q54 : w8.cell? ⟨W.heap.size + 1 + 1 + 1, 4, none⟩ = some (.bool false) := (blk_cell hb5 4).trans rfl
  have q55 : w8.cell? ⟨W.heap.size + 1 + 1 + 1, 5, none⟩ = some (.int .i64 0) := (blk_cell hb5 5).trans rfl
  have f4 := blk_frozen hb4
  have f5 := blk_frozen hb5
  have w20 : w8.cell? ⟨W.heap.size, 0, none⟩ = some (.slice A0 nc c0) := (blk_cell HL8.out.b2 0).trans rfl
  have w21 : w8.cell? ⟨W.heap.size, 1, none⟩ = some (.slice A1 nc c1) := (blk_cell HL8.out.b2 1).trans rfl
  have w22 : w8.cell? ⟨W.heap.size, 2, none⟩ = some (.slice A2 nr c2) := (blk_cell HL8.out.b2 2).trans rfl
  have w34 : w8.cell? ⟨W.heap.size + 1, 4, none⟩ = some (.int .i64 (i : Int)) := (blk_cell HL8.out.b3 4).trans rfl
  have w2f := blk_frozen HL8.out.b2 2
  have hgq : W0.heap.size ≤ gb := HGBW.out
  have hzq := HSZ.out
  have d1 : gb ≠ W.heap.size + 1 + 1 := by omega
  have d2 : gb ≠ W.heap.size + 1 + 1 + 1 := by omega
  have d3 := Ne.symm d1
  have d4 := Ne.symm d2
  have HRT := Aside0.mk (show (rows.set i lst).take lq = RR by rw [← HRR.out, HLQ.out])
  clear hb4 hb5 hgq hzq hL8
  by_cases hil : i = lq
  · have q5 : ((i : Int) == (lq : Int)) = true := by simp [hil]
    have HTE := Aside0.mk (show TT = errT 0 by rw [← HTT.out, if_pos (by have := HLQ.out; omega)])
    have HIL2 := Aside0.mk hil
    clear hil
    go_wp2
    obtain ⟨w', hw'⟩ : ∃ w', (((((((((((w8.setCell ⟨W.heap.size, 2, none⟩ (.slice (some ⟨gb, 0, none⟩) lq c6)).setCell ⟨W.heap.size + 1 + 1, 0, none⟩ (.slice A0 nc c0)).setCell ⟨W.heap.size + 1 + 1, 1, none⟩ (.slice A1 nc c1)).setCell ⟨W.heap.size + 1 + 1, 2, none⟩ (.slice (some ⟨gb, 0, none⟩) lq c6)).setCell ⟨W.heap.size + 1 + 1 + 1, 0, none⟩ (.slice none 0 0)).setCell ⟨W.heap.size + 1 + 1 + 1, 1, none⟩ (.slice none 0 0)).setCell ⟨W.heap.size + 1 + 1 + 1, 2, none⟩ (.int .i64 0)).setCell ⟨W.heap.size + 1 + 1 + 1, 3, none⟩ (.int .i64 0)).setCell ⟨W.heap.size + 1 + 1 + 1, 4, none⟩ (.bool false)).setCell ⟨W.heap.size + 1 + 1 + 1, 5, none⟩ (.int .i64 0))) = w' := ⟨_, rfl⟩
    obtain ⟨t4, t5, tf⟩ := told_world (w := w8.setCell ⟨W.heap.size, 2, none⟩ (.slice (some ⟨gb, 0, none⟩) lq c6)) ((Below.heap_setCell _ _ _ _ (by show W.heap.size + 1 + 1 ≠ W.heap.size; omega)).trans HL8.out.b4) ((Below.heap_setCell _ _ _ _ (by show W.heap.size + 1 + 1 + 1 ≠ W.heap.size; omega)).trans HL8.out.b5) (by omega) w' hw'
    rw [hw']
    clear hw'
    have t4' : w'.heap[W.heap.size + 1 + 1]? = _ := t4
    have t5' : w'.heap[W.heap.size + 1 + 1 + 1]? = _ := t5
    refine bodyPost_ret (results_cell2_row rfl _ _ _ _ _ _ _ _ _ _ _ _ rfl rfl t4' t5' hu35 rfl (by kernel_rfl) hu42 rfl (by kernel_rfl)) rfl ?_
    rw [HTE.out]
    exact go_drop_end HB6.out HF8.out (Nat.le_trans HB.out.size HGBW.out) HSZ.out HGBW.out HN8.out hll HRT.out tf rfl rfl (IsTold.err 0)
  · have q5 : ((i : Int) == (lq : Int)) = false := by simp; omega
    have HTE := Aside0.mk (show TT = (⟨[], [], lst.f0, true, 0⟩ : ToldS) by rw [← HTT.out, if_neg (by have := HLQ.out; omega)])
    go_wp2
    go_region
    go_wp2
    obtain ⟨w', hw'⟩ : ∃ w', (((((((((((w8.setCell ⟨W.heap.size, 2, none⟩ (.slice (some ⟨gb, 0, none⟩) lq c6)).setCell ⟨W.heap.size + 1 + 1, 0, none⟩ (.slice A0 nc c0)).setCell ⟨W.heap.size + 1 + 1, 1, none⟩ (.slice A1 nc c1)).setCell ⟨W.heap.size + 1 + 1, 2, none⟩ (.slice (some ⟨gb, 0, none⟩) lq c6)).setCell ⟨W.heap.size + 1 + 1 + 1, 0, none⟩ (.slice none 0 0)).setCell ⟨W.heap.size + 1 + 1 + 1, 1, none⟩ (.slice none 0 0)).setCell ⟨W.heap.size + 1 + 1 + 1, 2, none⟩ (.int .i64 lst.f0.f0)).setCell ⟨W.heap.size + 1 + 1 + 1, 3, none⟩ (.int .i64 lst.f0.f1)).setCell ⟨W.heap.size + 1 + 1 + 1, 4, none⟩ (.bool true)).setCell ⟨W.heap.size + 1 + 1 + 1, 5, none⟩ (.int .i64 0))) = w' := ⟨_, rfl⟩
    obtain ⟨t4, t5, tf⟩ := told_world (w := w8.setCell ⟨W.heap.size, 2, none⟩ (.slice (some ⟨gb, 0, none⟩) lq c6)) ((Below.heap_setCell _ _ _ _ (by show W.heap.size + 1 + 1 ≠ W.heap.size; omega)).trans HL8.out.b4) ((Below.heap_setCell _ _ _ _ (by show W.heap.size + 1 + 1 + 1 ≠ W.heap.size; omega)).trans HL8.out.b5) (by omega) w' hw'
    rw [hw']
    clear hw'
    have t4' : w'.drew.heap[W.heap.size + 1 + 1]? = _ := t4
    have t5' : w'.drew.heap[W.heap.size + 1 + 1 + 1]? = _ := t5
    refine bodyPost_ret (results_cell2_row rfl _ _ _ _ _ _ _ _ _ _ _ _ rfl rfl t4' t5' hu35 rfl (by kernel_rfl) hu42 rfl (by kernel_rfl)) rfl ?_
    rw [HTE.out]
    exact go_drop_end HB6.out HF8.out (Nat.le_trans HB.out.size HGBW.out) HSZ.out HGBW.out HN8.out hll HRT.out tf.drew rfl rfl ⟨none, 0, none, 0, rfl, Nat.le_refl _, Nat.le_refl _, Kd.F_nil _ _ _, Kd.F_nil _ _ _⟩

set_option maxHeartbeats 4000000 in
set_option maxRecDepth 100000 in
theorem rgo_none {W : World} {ok : Nat → Prop} (cs : List Int) (z : Int → Nat) (hz : ∀ k, z k ≤ 64) (rows : List Ent_) (A0 : Option Addr) (c0 : Nat) (A1 : Option Addr) (c1 : Nat) (A2 : Option Addr) (c2 : Nat) (hcs : cs.length ≤ 64) (hr : rows.length ≤ 1024) (l2 : rows.length ≤ c2) (hwf : ∀ r, r ∈ rows → r.f1.length = cs.length)
    (H0 : Kd.F (Kd.int .i64) W ok A0 cs.length cs) (H1 : Kd.F (Kd.int .i64) W ok A1 cs.length (cs.map fun k => (z k : Int))) (H2 : Kd.F k100 W ok A2 rows.length rows)
    (d row comp : Int) (id : ID_) (ps : List Part_) (AP : Option Addr) (cP : Nat) (HP : Kd.F k90 W ok AP ps.length ps) (ds : List Int) (AD : Option Addr) (cD : Nat) (HD : Kd.F (Kd.int .u8) W ok AD ds.length ds) (lD : ds.length ≤ cD) (h1 : d = 1 ∨ d = 2) (h3 : 0 ≤ row) (h4 : row < (rows.length : Int)) (h5 : comp ∉ cs) :
    Calls Tryd.prog 13 #[.agg #[.slice A0 cs.length c0, .slice A1 cs.length c1, .slice A2 rows.length c2], .agg #[.int .i64 d, .int .i64 id.f0, .int .i64 id.f1, .slice AP ps.length cP, .int .i64 row, .int .i64 comp, .slice AD ds.length cD]] W
      (GoPost W ok A0 c0 A1 c1 cs.length rows (errT 8)) := by
  have hu35 := Tryd.underlying35
  have hu42 := Tryd.underlying42
  have hu45 := Tryd.underlying45
  obtain ⟨nc, hnc⟩ : ∃ n, cs.length = n := ⟨_, rfl⟩
  obtain ⟨nr, hnr⟩ : ∃ n, rows.length = n := ⟨_, rfl⟩
  obtain ⟨np, hnp⟩ : ∃ n, ps.length = n := ⟨_, rfl⟩
  obtain ⟨nd, hnd⟩ : ∃ n, ds.length = n := ⟨_, rfl⟩
  have hL := laid W #[.slice A0 nc c0, .slice A1 nc c1, .slice A2 nr c2] #[.int .i64 d, .int .i64 id.f0, .int .i64 id.f1, .slice AP np cP, .int .i64 row, .int .i64 comp, .slice AD nd cD]
  have hB := laid_below W (.cells #[.slice A0 nc c0, .slice A1 nc c1, .slice A2 nr c2] 35) (.cells #[.int .i64 d, .int .i64 id.f0, .int .i64 id.f1, .slice AP np cP, .int .i64 row, .int .i64 comp, .slice AD nd cD] 45) (.cells #[.slice none 0 0, .slice none 0 0, .slice none 0 0] 35) (.cells #[.slice none 0 0, .slice none 0 0, .int .i64 0, .int .i64 0, .bool false, .int .i64 0] 42)
  have hsz : ((((W.alloc (.cells #[.slice A0 nc c0, .slice A1 nc c1, .slice A2 nr c2] 35)).alloc (.cells #[.int .i64 d, .int .i64 id.f0, .int .i64 id.f1, .slice AP np cP, .int .i64 row, .int .i64 comp, .slice AD nd cD] 45)).alloc (.cells #[.slice none 0 0, .slice none 0 0, .slice none 0 0] 35)).alloc (.cells #[.slice none 0 0, .slice none 0 0, .int .i64 0, .int .i64 0, .bool false, .int .i64 0] 42)).heap.size = W.heap.size + 1 + 1 + 1 + 1 := by simp
  obtain ⟨W0, hW0⟩ : ∃ W0, ((((W.alloc (.cells #[.slice A0 nc c0, .slice A1 nc c1, .slice A2 nr c2] 35)).alloc (.cells #[.int .i64 d, .int .i64 id.f0, .int .i64 id.f1, .slice AP np cP, .int .i64 row, .int .i64 comp, .slice AD nd cD] 45)).alloc (.cells #[.slice none 0 0, .slice none 0 0, .slice none 0 0] 35)).alloc (.cells #[.slice none 0 0, .slice none 0 0, .int .i64 0, .int .i64 0, .bool false, .int .i64 0] 42)) = W0 := ⟨_, rfl⟩
  rw [hW0] at hL hB hsz
  have HW := Aside0.mk hW0
  have HB := Aside0.mk hB
  have HL := Aside0.mk hL
  have HSZ := Aside0.mk hsz
  have HNR := Aside0.mk hnr
  have HNC := Aside0.mk hnc
  have HNP := Aside0.mk hnp
  have HND := Aside0.mk hnd
  have HH0 := Aside0.mk H0
  have HH1 := Aside0.mk H1
  have HH2 := Aside0.mk H2
  have HHP := Aside0.mk HP
  have HHD := Aside0.mk HD
  have HL2 := Aside0.mk l2
  have HLD := Aside0.mk lD
  have HCS := Aside0.mk hcs
  have HR := Aside0.mk hr
  have HZ := Aside0.mk hz
  have HWF := Aside0.mk hwf
  have q20 : W0.cell? ⟨W.heap.size, 0, none⟩ = some (.slice A0 nc c0) := (blk_cell hL.b2 0).trans rfl
  have q21 : W0.cell? ⟨W.heap.size, 1, none⟩ = some (.slice A1 nc c1) := (blk_cell hL.b2 1).trans rfl
  have q22 : W0.cell? ⟨W.heap.size, 2, none⟩ = some (.slice A2 nr c2) := (blk_cell hL.b2 2).trans rfl
  have q30 : W0.cell? ⟨W.heap.size + 1, 0, none⟩ = some (.int .i64 d) := (blk_cell hL.b3 0).trans rfl
  have q31 : W0.cell? ⟨W.heap.size + 1, 1, none⟩ = some (.int .i64 id.f0) := (blk_cell hL.b3 1).trans rfl
  have q32 : W0.cell? ⟨W.heap.size + 1, 2, none⟩ = some (.int .i64 id.f1) := (blk_cell hL.b3 2).trans rfl
  have q33 : W0.cell? ⟨W.heap.size + 1, 3, none⟩ = some (.slice AP np cP) := (blk_cell hL.b3 3).trans rfl
  have q34 : W0.cell? ⟨W.heap.size + 1, 4, none⟩ = some (.int .i64 row) := (blk_cell hL.b3 4).trans rfl
  have q35 : W0.cell? ⟨W.heap.size + 1, 5, none⟩ = some (.int .i64 comp) := (blk_cell hL.b3 5).trans rfl
  have q36 : W0.cell? ⟨W.heap.size + 1, 6, none⟩ = some (.slice AD nd cD) := (blk_cell hL.b3 6).trans rfl
  have q40 : W0.cell? ⟨W.heap.size + 1 + 1, 0, none⟩ = some (.slice none 0 0) := (blk_cell hL.b4 0).trans rfl
  have q41 : W0.cell? ⟨W.heap.size + 1 + 1, 1, none⟩ = some (.slice none 0 0) := (blk_cell hL.b4 1).trans rfl
  have q42 : W0.cell? ⟨W.heap.size + 1 + 1, 2, none⟩ = some (.slice none 0 0) := (blk_cell hL.b4 2).trans rfl
  have q50 : W0.cell? ⟨W.heap.size + 1 + 1 + 1, 0, none⟩ = some (.slice none 0 0) := (blk_cell hL.b5 0).trans rfl
  have q51 : W0.cell? ⟨W.heap.size + 1 + 1 + 1, 1, none⟩ = some (.slice none 0 0) := (blk_cell hL.b5 1).trans rfl
  have q52 : W0.cell? ⟨W.heap.size + 1 + 1 + 1, 2, none⟩ = some (.int .i64 0) := (blk_cell hL.b5 2).trans rfl
  have q53 : W0.cell? ⟨W.heap.size + 1 + 1 + 1, 3, none⟩ = some (.int .i64 0) := (blk_cell hL.b5 3).trans rfl
  have q54 : W0.cell? ⟨W.heap.size + 1 + 1 + 1, 4, none⟩ = some (.bool false) := (blk_cell hL.b5 4).trans rfl
  have q55 : W0.cell? ⟨W.heap.size + 1 + 1 + 1, 5, none⟩ = some (.int .i64 0) := (blk_cell hL.b5 5).trans rfl
  have f4 := blk_frozen hL.b4
  have f5 := blk_frozen hL.b5
  simp only [hnc, hnr, hnp, hnd]
  have b1 : decide (d < 1) = false := by simp; omega
  have b2 : decide ((4 : Int) < d) = false := by simp; omega
  have b3 : (d == 3) = false := by simp; omega
  have b4 : (d == 4) = false := by simp; omega
  have H5 := Aside0.mk h5
  clear h5
  have q3 : decide (row < 0) = false := by simp; omega
  have q4 : decide ((nr : Int) ≤ row) = false := by simp; omega
  obtain ⟨i, rfl⟩ := Int.eq_ofNat_of_zero_le h3
  try simp only [Int.toNat_natCast]
  have p1 : (0 : Int) ≤ (i : Int) := by omega
  have p2 : (i : Int) < (nr : Int) := by omega
  have p3 : i < nr := by omega
  have g2lt : W.heap.size < W0.heap.size := by omega
  have g3lt : W.heap.size + 1 < W0.heap.size := by omega
  have hWa : Below W0.heap.size W0 (W0.alloc (.cells #[] 100)) := (Below.refl _ _).alloc (Nat.le_refl _) _
  have HNA := Aside0.mk (show Kd.N k100 100 (W0.alloc (.cells #[] 100)) W.heap.size (fun k => (ok k ∧ k < W.heap.size) ∨ W0.heap.size ≤ k) (.slice (some ⟨W0.heap.size, 0, none⟩) 0 0) [] from N_empty (by simpa using heap_alloc_new W0 (.cells #[] 100)) hB.size (.inr (Nat.le_refl _)))
  have HFA := Aside0.mk (show Kd.F k100 (W0.alloc (.cells #[] 100)) (fun k => ok k ∧ k < W.heap.size) A2 nr rows from by
    have h9 := old_F H2 (wr := W0.alloc (.cells #[] 100)) (fun k hk => (hWa.block k (Nat.lt_of_lt_of_le hk hB.size)).trans (hB.block k hk))
    rw [hnr] at h9
    exact h9)
  have HBA := Aside0.mk (show Below W.heap.size W (W0.alloc (.cells #[] 100)) from ((Fr.of_below hB None_).below_ hWa).toBelow0)
  have HLE := Aside0.mk (show (([] : List Ent_).length + nr) * 40 ≤ 140737488355328 by simp; omega)
  clear h3 h4 h1 hWa
  clear hL hB hW0 hsz hnr hnc hnp hnd H0 H1 H2 HP HD l2 lD hcs hr hz hwf
  go_enter Tryd.func13, Tryd.ntmps13
  go_wp2_with (first | rw [HW.out] | ((with_reducible refine gate_builtin (b := .append) (xs := #[.tmp 48, .tmp 50]) rfl ?_); at_builtin; refine Kd.N_append_rows k100 (w0 := W) W.heap.size rfl (.tmp 48) (.tmp 50) 33 100 (.agg #[.int .i64 0, .int .i64 0, .slice none 0 0]) 40 rfl Tryd.underlying33 infoEnt rfl (by decide) (by omega) (.slice (some ⟨W0.heap.size, 0, none⟩) 0 0) [] rows A2 nr c2 (fun k => (ok k ∧ k < W.heap.size) ∨ W0.heap.size ≤ k) (fun k => ok k ∧ k < W.heap.size) rfl rfl HNA.out HFA.out ?aQ ?aF HBA.out ?aS HLE.out ?_))
  case aQ => exact fun k hk => ⟨.inl hk, fun e => by simp [Value.ownBlock] at e; have := HB.out.size; have := hk.2; omega⟩
  case aF => exact fun k hk => .inr (by simp at hk; omega)
  case aS => exact HBA.out.size
  intro v1 w6 ho hb6 hg6 hat6
  replace ho : Kd.N k100 100 w6 W.heap.size (fun k => (ok k ∧ k < W.heap.size) ∨ W0.heap.size ≤ k) v1 rows := ho
  obtain ⟨gb, c6, ev, hgb0, hgbl, csb, hcsb⟩ := Kd.N_form ho (by rw [HNR.out]; omega)
  rw [HNR.out] at ev
  subst ev
  have hold6 : ∀ k, k < W0.heap.size → w6.heap[k]? = W0.heap[k]? := fun k hk => (hg6.block k (by simp; omega) (by simp [Value.ownBlock]; omega)).trans (((Below.refl _ W0).alloc (Nat.le_refl _) _).block k hk)
  have hgbW : W0.heap.size ≤ gb := by
    rcases hat6 with e | ⟨b, e, hb⟩
    · simp [Value.ownBlock] at e; omega
    · have e' : gb = b := by simpa [Value.ownBlock] using e
      have hs : (W0.alloc (.cells #[] 100)).heap.size = W0.heap.size + 1 := by simp
      omega
  have hL6 : Laid w6 W.heap.size #[.slice A0 nc c0, .slice A1 nc c1, .slice A2 nr c2] #[.int .i64 d, .int .i64 id.f0, .int .i64 id.f1, .slice AP np cP, .int .i64 (i : Int), .int .i64 comp, .slice AD nd cD] := ⟨(hold6 _ (heap_lt' HL.out.b2)).trans HL.out.b2, (hold6 _ (heap_lt' HL.out.b3)).trans HL.out.b3, (hold6 _ (heap_lt' HL.out.b4)).trans HL.out.b4, (hold6 _ (heap_lt' HL.out.b5)).trans HL.out.b5⟩
  have HL6 := Aside0.mk hL6
  have HO6 := Aside0.mk ho
  have HB6 := Aside0.mk hb6
  have HGBW := Aside0.mk hgbW
  have w20 : w6.cell? ⟨W.heap.size, 0, none⟩ = some (.slice A0 nc c0) := (blk_cell hL6.b2 0).trans rfl
  have w30 : w6.cell? ⟨W.heap.size + 1, 0, none⟩ = some (.int .i64 d) := (blk_cell hL6.b3 0).trans rfl
  have w35 : w6.cell? ⟨W.heap.size + 1, 5, none⟩ = some (.int .i64 comp) := (blk_cell hL6.b3 5).trans rfl
  have hW6 : ∀ k, k < W.heap.size → w6.heap[k]? = W.heap[k]? := fun k hk => hb6.block k hk
  have HF0 := Aside0.mk (old_F HH0.out hW6)
  clear q20 q21 q22 q30 q31 q32 q33 q34 q35 q36 q40 q41 q42 q50 q51 q52 q53 q54 q55 f4 f5 q3 q4 hL6 ho hb6 hg6 hat6 hold6 hgbW hgb0 hgbl hcsb hW6
  go_wp2
  go_loopg [8] nc (fun gk v8 wr => ∃ (j m : Nat), v8 = .int .i64 j ∧ wr = w6.drewN m ∧ Aside0 (j + gk = nc))
  case atStart => exact ⟨0, 0, rfl, rfl, ⟨by omega⟩⟩
  case round =>
    obtain ⟨j, m, rfl, hwr, H⟩ := hrel
    subst hwr
    by_cases hlt : j < nc
    · have q0 : decide ((j : Int) < (nc : Int)) = true := by simp; omega
      have r0 : (0 : Int) ≤ (j : Int) := by omega
      have r1 : (j : Int) < (nc : Int) := by omega
      have r1' : (j : Int) < (cs.length : Int) := by have := HNC.out; omega
      obtain ⟨ad0, e0, hx0⟩ := Kd.at_int HF0.out.now (j : Int) r0 r1'
      subst e0
      simp only [Int.toNat_natCast] at hx0
      have hne : rd cs (j : Int) ≠ comp := fun e => H5.out (by rw [← e]; exact rd_mem (by have := HNC.out; omega))
      obtain ⟨x, hxx⟩ : ∃ x, rd cs (j : Int) = x := ⟨_, rfl⟩
      rw [hxx] at hx0 hne
      have hq : (x != comp) = true := by simp [hne]
      obtain ⟨k1, hk1⟩ : ∃ k1, gk = k1 + 1 := ⟨gk - 1, by have := H.out; omega⟩
      have HH := Aside0.mk (show (j + 1) + k1 = nc by have := H.out; omega)
      have hnc64 : nc ≤ 64 := by have := HCS.out; have := HNC.out; omega
      subst hk1
      clear hxx hne H r1'
      go_wp2
      go_quiet (fail)
      go_wp2
      go_roundg k1
      case measure => omega
      case rel => exact ⟨j + 1, _, by go_num, rfl, HH⟩
    · have q0 : decide ((j : Int) < (nc : Int)) = false := by simp; omega
      have hb4 := HL6.out.b4
      have hb5 := HL6.out.b5
      have w21 : w6.cell? ⟨W.heap.size, 1, none⟩ = some (.slice A1 nc c1) := (blk_cell HL6.out.b2 1).trans rfl
      have w22 : w6.cell? ⟨W.heap.size, 2, none⟩ = some (.slice A2 nr c2) := (blk_cell HL6.out.b2 2).trans rfl
      have q40 : w6.cell? ⟨W.heap.size + 1 + 1, 0, none⟩ = some (.slice none 0 0) := (blk_cell hb4 0).trans rfl
      have q41 : w6.cell? ⟨W.heap.size + 1 + 1, 1, none⟩ = some (.slice none 0 0) := (blk_cell hb4 1).trans rfl
      have q42 : w6.cell? ⟨W.heap.size + 1 + 1, 2, none⟩ = some (.slice none 0 0) := (blk_cell hb4 2).trans rfl
      have q50 : w6.cell? ⟨W.heap.size + 1 + 1 + 1, 0, none⟩ = some (.slice none 0 0) := (blk_cell hb5 0).trans rfl
      have q51 : w6.cell? ⟨W.heap.size + 1 + 1 + 1, 1, none⟩ = some (.slice none 0 0) := (blk_cell hb5 1).trans rfl
      have q52 : w6.cell? ⟨W.heap.size + 1 + 1 + 1, 2, none⟩ = some (.int .i64 0) := (blk_cell hb5 2).trans rfl
      have q53 : w6.cell? ⟨W.heap.size + 1 + 1 + 1, 3, none⟩ = some (.int .i64 0) := (blk_cell hb5 3).trans rfl
      have q54 : w6.cell? ⟨W.heap.size + 1 + 1 + 1, 4, none⟩ = some (.bool false) := (blk_cell hb5 4).trans rfl
      have q55 : w6.cell? ⟨W.heap.size + 1 + 1 + 1, 5, none⟩ = some (.int .i64 0) := (blk_cell hb5 5).trans rfl
      have f4 := blk_frozen hb4
      have f5 := blk_frozen hb5
      clear hb4 hb5
      go_wp2
      obtain ⟨t4, t5, tf⟩ := told_world (w := w6.drewN m) HL6.out.b4 HL6.out.b5 (by omega) _ rfl
      refine bodyPost_ret (results_cell2_row rfl _ _ _ _ _ _ _ _ _ _ _ _ rfl rfl t4 t5 hu35 rfl (by kernel_rfl) hu42 rfl (by kernel_rfl)) rfl ?_
      exact go_keep HNR.out (((Fr.of_below HB6.out None_).drewN m).toBelow0) HL2.out HH2.out tf (by omega) (by omega) (fun w' _ => IsTold.err 8)

set_option maxHeartbeats 4000000 in
set_option maxRecDepth 100000 in
theorem rgo_get {W : World} {ok : Nat → Prop} (cs : List Int) (z : Int → Nat) (hz : ∀ k, z k ≤ 64) (rows : List Ent_) (A0 : Option Addr) (c0 : Nat) (A1 : Option Addr) (c1 : Nat) (A2 : Option Addr) (c2 : Nat) (hcs : cs.length ≤ 64) (hr : rows.length ≤ 1024) (l2 : rows.length ≤ c2) (hwf : ∀ r, r ∈ rows → r.f1.length = cs.length)
    (H0 : Kd.F (Kd.int .i64) W ok A0 cs.length cs) (H1 : Kd.F (Kd.int .i64) W ok A1 cs.length (cs.map fun k => (z k : Int))) (H2 : Kd.F k100 W ok A2 rows.length rows)
    (d row comp : Int) (id : ID_) (ps : List Part_) (AP : Option Addr) (cP : Nat) (HP : Kd.F k90 W ok AP ps.length ps) (ds : List Int) (AD : Option Addr) (cD : Nat) (HD : Kd.F (Kd.int .u8) W ok AD ds.length ds) (lD : ds.length ≤ cD) (h1 : d = 2) (h3 : 0 ≤ row) (h4 : row < (rows.length : Int)) (k0 : Nat) (h5 : k0 < cs.length) (h6 : rd cs (k0 : Int) = comp) (h7 : ∀ j : Nat, j < k0 → rd cs (j : Int) ≠ comp) :
    Calls Tryd.prog 13 #[.agg #[.slice A0 cs.length c0, .slice A1 cs.length c1, .slice A2 rows.length c2], .agg #[.int .i64 d, .int .i64 id.f0, .int .i64 id.f1, .slice AP ps.length cP, .int .i64 row, .int .i64 comp, .slice AD ds.length cD]] W
      (GoPost W ok A0 c0 A1 c1 cs.length rows (⟨((rows.getD row.toNat z100).f1.getD k0 z90).f1, [], z40, false, 0⟩ : ToldS)) := by
  have hu35 := Tryd.underlying35
  have hu42 := Tryd.underlying42
  have hu45 := Tryd.underlying45
  obtain ⟨nc, hnc⟩ : ∃ n, cs.length = n := ⟨_, rfl⟩
  obtain ⟨nr, hnr⟩ : ∃ n, rows.length = n := ⟨_, rfl⟩
  obtain ⟨np, hnp⟩ : ∃ n, ps.length = n := ⟨_, rfl⟩
  obtain ⟨nd, hnd⟩ : ∃ n, ds.length = n := ⟨_, rfl⟩
  have hL := laid W #[.slice A0 nc c0, .slice A1 nc c1, .slice A2 nr c2] #[.int .i64 d, .int .i64 id.f0, .int .i64 id.f1, .slice AP np cP, .int .i64 row, .int .i64 comp, .slice AD nd cD]
  have hB := laid_below W (.cells #[.slice A0 nc c0, .slice A1 nc c1, .slice A2 nr c2] 35) (.cells #[.int .i64 d, .int .i64 id.f0, .int .i64 id.f1, .slice AP np cP, .int .i64 row, .int .i64 comp, .slice AD nd cD] 45) (.cells #[.slice none 0 0, .slice none 0 0, .slice none 0 0] 35) (.cells #[.slice none 0 0, .slice none 0 0, .int .i64 0, .int .i64 0, .bool false, .int .i64 0] 42)
  have hsz : ((((W.alloc (.cells #[.slice A0 nc c0, .slice A1 nc c1, .slice A2 nr c2] 35)).alloc (.cells #[.int .i64 d, .int .i64 id.f0, .int .i64 id.f1, .slice AP np cP, .int .i64 row, .int .i64 comp, .slice AD nd cD] 45)).alloc (.cells #[.slice none 0 0, .slice none 0 0, .slice none 0 0] 35)).alloc (.cells #[.slice none 0 0, .slice none 0 0, .int .i64 0, .int .i64 0, .bool false, .int .i64 0] 42)).heap.size = W.heap.size + 1 + 1 + 1 + 1 := by simp
  obtain ⟨W0, hW0⟩ : ∃ W0, ((((W.alloc (.cells #[.slice A0 nc c0, .slice A1 nc c1, .slice A2 nr c2] 35)).alloc (.cells #[.int .i64 d, .int .i64 id.f0, .int .i64 id.f1, .slice AP np cP, .int .i64 row, .int .i64 comp, .slice AD nd cD] 45)).alloc (.cells #[.slice none 0 0, .slice none 0 0, .slice none 0 0] 35)).alloc (.cells #[.slice none 0 0, .slice none 0 0, .int .i64 0, .int .i64 0, .bool false, .int .i64 0] 42)) = W0 := ⟨_, rfl⟩
  rw [hW0] at hL hB hsz
  have HW := Aside0.mk hW0
  have HB := Aside0.mk hB
  have HL := Aside0.mk hL
  have HSZ := Aside0.mk hsz
  have HNR := Aside0.mk hnr
  have HNC := Aside0.mk hnc
  have HNP := Aside0.mk hnp
  have HND := Aside0.mk hnd
  have HH0 := Aside0.mk H0
  have HH1 := Aside0.mk H1
  have HH2 := Aside0.mk H2
  have HHP := Aside0.mk HP
  have HHD := Aside0.mk HD
  have HL2 := Aside0.mk l2
  have HLD := Aside0.mk lD
  have HCS := Aside0.mk hcs
  have HR := Aside0.mk hr
  have HZ := Aside0.mk hz
  have HWF := Aside0.mk hwf
  have q20 : W0.cell? ⟨W.heap.size, 0, none⟩ = some (.slice A0 nc c0) := (blk_cell hL.b2 0).trans rfl
  have q21 : W0.cell? ⟨W.heap.size, 1, none⟩ = some (.slice A1 nc c1) := (blk_cell hL.b2 1).trans rfl
  have q22 : W0.cell? ⟨W.heap.size, 2, none⟩ = some (.slice A2 nr c2) := (blk_cell hL.b2 2).trans rfl
  have q30 : W0.cell? ⟨W.heap.size + 1, 0, none⟩ = some (.int .i64 d) := (blk_cell hL.b3 0).trans rfl
  have q31 : W0.cell? ⟨W.heap.size + 1, 1, none⟩ = some (.int .i64 id.f0) := (blk_cell hL.b3 1).trans rfl
  have q32 : W0.cell? ⟨W.heap.size + 1, 2, none⟩ = some (.int .i64 id.f1) := (blk_cell hL.b3 2).trans rfl
  have q33 : W0.cell? ⟨W.heap.size + 1, 3, none⟩ = some (.slice AP np cP) := (blk_cell hL.b3 3).trans rfl
  have q34 : W0.cell? ⟨W.heap.size + 1, 4, none⟩ = some (.int .i64 row) := (blk_cell hL.b3 4).trans rfl
  have q35 : W0.cell? ⟨W.heap.size + 1, 5, none⟩ = some (.int .i64 comp) := (blk_cell hL.b3 5).trans rfl
  have q36 : W0.cell? ⟨W.heap.size + 1, 6, none⟩ = some (.slice AD nd cD) := (blk_cell hL.b3 6).trans rfl
  have q40 : W0.cell? ⟨W.heap.size + 1 + 1, 0, none⟩ = some (.slice none 0 0) := (blk_cell hL.b4 0).trans rfl
  have q41 : W0.cell? ⟨W.heap.size + 1 + 1, 1, none⟩ = some (.slice none 0 0) := (blk_cell hL.b4 1).trans rfl
  have q42 : W0.cell? ⟨W.heap.size + 1 + 1, 2, none⟩ = some (.slice none 0 0) := (blk_cell hL.b4 2).trans rfl
  have q50 : W0.cell? ⟨W.heap.size + 1 + 1 + 1, 0, none⟩ = some (.slice none 0 0) := (blk_cell hL.b5 0).trans rfl
  have q51 : W0.cell? ⟨W.heap.size + 1 + 1 + 1, 1, none⟩ = some (.slice none 0 0) := (blk_cell hL.b5 1).trans rfl
  have q52 : W0.cell? ⟨W.heap.size + 1 + 1 + 1, 2, none⟩ = some (.int .i64 0) := (blk_cell hL.b5 2).trans rfl
  have q53 : W0.cell? ⟨W.heap.size + 1 + 1 + 1, 3, none⟩ = some (.int .i64 0) := (blk_cell hL.b5 3).trans rfl
  have q54 : W0.cell? ⟨W.heap.size + 1 + 1 + 1, 4, none⟩ = some (.bool false) := (blk_cell hL.b5 4).trans rfl
  have q55 : W0.cell? ⟨W.heap.size + 1 + 1 + 1, 5, none⟩ = some (.int .i64 0) := (blk_cell hL.b5 5).trans rfl
  have f4 := blk_frozen hL.b4
  have f5 := blk_frozen hL.b5
  simp only [hnc, hnr, hnp, hnd]
  subst h1
  have H5 := Aside0.mk h5
  have H6 := Aside0.mk h6
  have H7 := Aside0.mk h7
  have q3 : decide (row < 0) = false := by simp; omega
  have q4 : decide ((nr : Int) ≤ row) = false := by simp; omega
  obtain ⟨i, rfl⟩ := Int.eq_ofNat_of_zero_le h3
  try simp only [Int.toNat_natCast]
  have p1 : (0 : Int) ≤ (i : Int) := by omega
  have p2 : (i : Int) < (nr : Int) := by omega
  have p3 : i < nr := by omega
  have g2lt : W.heap.size < W0.heap.size := by omega
  have g3lt : W.heap.size + 1 < W0.heap.size := by omega
  have hWa : Below W0.heap.size W0 (W0.alloc (.cells #[] 100)) := (Below.refl _ _).alloc (Nat.le_refl _) _
  have HNA := Aside0.mk (show Kd.N k100 100 (W0.alloc (.cells #[] 100)) W.heap.size (fun k => (ok k ∧ k < W.heap.size) ∨ W0.heap.size ≤ k) (.slice (some ⟨W0.heap.size, 0, none⟩) 0 0) [] from N_empty (by simpa using heap_alloc_new W0 (.cells #[] 100)) hB.size (.inr (Nat.le_refl _)))
  have HFA := Aside0.mk (show Kd.F k100 (W0.alloc (.cells #[] 100)) (fun k => ok k ∧ k < W.heap.size) A2 nr rows from by
    have h9 := old_F H2 (wr := W0.alloc (.cells #[] 100)) (fun k hk => (hWa.block k (Nat.lt_of_lt_of_le hk hB.size)).trans (hB.block k hk))
    rw [hnr] at h9
    exact h9)
  have HBA := Aside0.mk (show Below W.heap.size W (W0.alloc (.cells #[] 100)) from ((Fr.of_below hB None_).below_ hWa).toBelow0)
  have HLE := Aside0.mk (show (([] : List Ent_).length + nr) * 40 ≤ 140737488355328 by simp; omega)
  clear h3 h4 h5 h6 h7 hWa
  clear hL hB hW0 hsz hnr hnc hnp hnd H0 H1 H2 HP HD l2 lD hcs hr hz hwf
  go_enter Tryd.func13, Tryd.ntmps13
  go_wp2_with (first | rw [HW.out] | ((with_reducible refine gate_builtin (b := .append) (xs := #[.tmp 48, .tmp 50]) rfl ?_); at_builtin; refine Kd.N_append_rows k100 (w0 := W) W.heap.size rfl (.tmp 48) (.tmp 50) 33 100 (.agg #[.int .i64 0, .int .i64 0, .slice none 0 0]) 40 rfl Tryd.underlying33 infoEnt rfl (by decide) (by omega) (.slice (some ⟨W0.heap.size, 0, none⟩) 0 0) [] rows A2 nr c2 (fun k => (ok k ∧ k < W.heap.size) ∨ W0.heap.size ≤ k) (fun k => ok k ∧ k < W.heap.size) rfl rfl HNA.out HFA.out ?aQ ?aF HBA.out ?aS HLE.out ?_))
  case aQ => exact fun k hk => ⟨.inl hk, fun e => by simp [Value.ownBlock] at e; have := HB.out.size; have := hk.2; omega⟩
  case aF => exact fun k hk => .inr (by simp at hk; omega)
  case aS => exact HBA.out.size
  intro v1 w6 ho hb6 hg6 hat6
  replace ho : Kd.N k100 100 w6 W.heap.size (fun k => (ok k ∧ k < W.heap.size) ∨ W0.heap.size ≤ k) v1 rows := ho
  obtain ⟨gb, c6, ev, hgb0, hgbl, csb, hcsb⟩ := Kd.N_form ho (by rw [HNR.out]; omega)
  rw [HNR.out] at ev
  subst ev
  have hold6 : ∀ k, k < W0.heap.size → w6.heap[k]? = W0.heap[k]? := fun k hk => (hg6.block k (by simp; omega) (by simp [Value.ownBlock]; omega)).trans (((Below.refl _ W0).alloc (Nat.le_refl _) _).block k hk)
  have hgbW : W0.heap.size ≤ gb := by
    rcases hat6 with e | ⟨b, e, hb⟩
    · simp [Value.ownBlock] at e; omega
    · have e' : gb = b := by simpa [Value.ownBlock] using e
      have hs : (W0.alloc (.cells #[] 100)).heap.size = W0.heap.size + 1 := by simp
      omega
  have hL6 : Laid w6 W.heap.size #[.slice A0 nc c0, .slice A1 nc c1, .slice A2 nr c2] #[.int .i64 2, .int .i64 id.f0, .int .i64 id.f1, .slice AP np cP, .int .i64 (i : Int), .int .i64 comp, .slice AD nd cD] := ⟨(hold6 _ (heap_lt' HL.out.b2)).trans HL.out.b2, (hold6 _ (heap_lt' HL.out.b3)).trans HL.out.b3, (hold6 _ (heap_lt' HL.out.b4)).trans HL.out.b4, (hold6 _ (heap_lt' HL.out.b5)).trans HL.out.b5⟩
  have HL6 := Aside0.mk hL6
  have HO6 := Aside0.mk ho
  have HB6 := Aside0.mk hb6
  have HGBW := Aside0.mk hgbW
  have w20 : w6.cell? ⟨W.heap.size, 0, none⟩ = some (.slice A0 nc c0) := (blk_cell hL6.b2 0).trans rfl
  have w30 : w6.cell? ⟨W.heap.size + 1, 0, none⟩ = some (.int .i64 2) := (blk_cell hL6.b3 0).trans rfl
  have w34 : w6.cell? ⟨W.heap.size + 1, 4, none⟩ = some (.int .i64 (i : Int)) := (blk_cell hL6.b3 4).trans rfl
  have w35 : w6.cell? ⟨W.heap.size + 1, 5, none⟩ = some (.int .i64 comp) := (blk_cell hL6.b3 5).trans rfl
  have hW6 : ∀ k, k < W.heap.size → w6.heap[k]? = W.heap[k]? := fun k hk => hb6.block k hk
  have HF0 := Aside0.mk (old_F HH0.out hW6)
  have HF1 := Aside0.mk (old_F HH1.out hW6)
  clear q20 q21 q22 q30 q31 q32 q33 q34 q35 q36 q40 q41 q42 q50 q51 q52 q53 q54 q55 f4 f5 q3 q4 hL6 ho hb6 hg6 hat6 hold6 hgbW hgb0 hgbl hcsb hW6
  go_wp2
  go_loopg [8] nc (fun gk v8 wr => ∃ (j m : Nat), v8 = .int .i64 j ∧ wr = w6.drewN m ∧ Aside0 (j + gk = nc ∧ j ≤ k0))
  case atStart => exact ⟨0, 0, rfl, rfl, ⟨by omega, Nat.zero_le _⟩⟩
  case round =>
    obtain ⟨j, m, rfl, hwr, H⟩ := hrel
    subst hwr
    have hlt : j < nc := by have := H.out.2; have := H5.out; have := HNC.out; omega
    have q0 : decide ((j : Int) < (nc : Int)) = true := by simp; omega
    have r0 : (0 : Int) ≤ (j : Int) := by omega
    have r1 : (j : Int) < (nc : Int) := by omega
    have r1' : (j : Int) < (cs.length : Int) := by have := HNC.out; omega
    obtain ⟨ad0, e0, hx0⟩ := Kd.at_int HF0.out.now (j : Int) r0 r1'
    subst e0
    simp only [Int.toNat_natCast] at hx0
    by_cases hjk : j = k0
    · subst hjk
      rw [H6.out] at hx0
      have hq : (comp != comp) = false := by simp
      clear H r1'
      obtain ⟨ci, _, hci2, hci3, _⟩ := Kd.N_elem HO6.out z100 (i : Int) p1 p2
      obtain ⟨AI, cI, rfl, lI, hFI⟩ := k100_openF hci2
      simp only [Int.toNat_natCast] at hci3 hFI lI
      have hwfl : (rows.getD i z100).f1.length = nc := by
        rw [← HNC.out]
        refine HWF.out _ ?_
        have : i < rows.length := by have := HNR.out; omega
        simp [List.getD_eq_getElem?_getD, List.getElem?_eq_getElem this]
      obtain ⟨ei, hei⟩ : ∃ e : Ent_, rows.getD i z100 = e := ⟨_, rfl⟩
      have x2 : w6.cell? ⟨gb, i * 3 + 2, none⟩ = some (.slice AI (rows.getD i z100).f1.length cI) := hci3 2 _ rfl
      rw [hwfl] at x2
      rw [hei] at hFI hwfl
      obtain ⟨adp, cp, ep, _, hFK, hcc, hadp⟩ := Kd.F_get hFI z90 (j : Int) r0 (by rw [hwfl]; exact r1)
      subst ep
      obtain ⟨A9, c9, rfl, l9, hF9⟩ := k90_openF hFK
      simp only [Int.toNat_natCast] at hcc hF9 l9
      have y1 : w6.cell? ⟨(adp.add (j * 2)).block, (adp.add (j * 2)).off + 1, none⟩ = some (.slice A9 (ei.f1.getD j z90).f1.length c9) := by rw [← add_field _ _ 1 (by omega)]; exact hcc 1 _ rfl
      have hab := hadp (by decide)
      have hgq := HGBW.out
      have hzq := HSZ.out
      have d1 : gb ≠ W.heap.size + 1 + 1 := by omega
      have d2 : gb ≠ W.heap.size + 1 + 1 + 1 := by omega
      have d3 := Ne.symm d1
      have d4 := Ne.symm d2
      have d5 : (adp.add (j * 2)).block ≠ W.heap.size + 1 + 1 := by rw [add_block]; rcases hab.1 with h | h <;> omega
      have d6 : (adp.add (j * 2)).block ≠ W.heap.size + 1 + 1 + 1 := by rw [add_block]; rcases hab.1 with h | h <;> omega
      have d7 := Ne.symm d5
      have d8 := Ne.symm d6
      obtain ⟨dt, hdt⟩ : ∃ e : List Int, (ei.f1.getD j z90).f1 = e := ⟨_, rfl⟩
      rw [hdt] at y1 hF9 l9
      obtain ⟨nd9, hnd9⟩ : ∃ n, dt.length = n := ⟨_, rfl⟩
      rw [hnd9] at y1
      have HND9 := Aside0.mk hnd9
      have HTD := Aside0.mk (show ((rows.getD i z100).f1.getD j z90).f1 = dt by rw [hei]; exact hdt)
      have HF9 := Aside0.mk hF9
      have HL9 := Aside0.mk l9
      have hb4 := HL6.out.b4
      have hb5 := HL6.out.b5
      have w21 : w6.cell? ⟨W.heap.size, 1, none⟩ = some (.slice (A1 : Option Addr) nc c1) := (blk_cell HL6.out.b2 1).trans rfl
      have w22 : w6.cell? ⟨W.heap.size, 2, none⟩ = some (.slice A2 nr c2) := (blk_cell HL6.out.b2 2).trans rfl
      have q40 : w6.cell? ⟨W.heap.size + 1 + 1, 0, none⟩ = some (.slice none 0 0) := (blk_cell hb4 0).trans rfl
      have q41 : w6.cell? ⟨W.heap.size + 1 + 1, 1, none⟩ = some (.slice none 0 0) := (blk_cell hb4 1).trans rfl
      have q42 : w6.cell? ⟨W.heap.size + 1 + 1, 2, none⟩ = some (.slice none 0 0) := (blk_cell hb4 2).trans rfl
      have q50 : w6.cell? ⟨W.heap.size + 1 + 1 + 1, 0, none⟩ = some (.slice none 0 0) := (blk_cell hb5 0).trans rfl
      have q51 : w6.cell? ⟨W.heap.size + 1 + 1 + 1, 1, none⟩ = some (.slice none 0 0) := (blk_cell hb5 1).trans rfl
      have q52 : w6.cell? ⟨W.heap.size + 1 + 1 + 1, 2, none⟩ = some (.int .i64 0) := (blk_cell hb5 2).trans rfl
      have q53 : w6.cell? ⟨W.heap.size + 1 + 1 + 1, 3, none⟩ = some (.int .i64 0) := (blk_cell hb5 3).trans rfl
      have q54 : w6.cell? ⟨W.heap.size + 1 + 1 + 1, 4, none⟩ = some (.bool false) := (blk_cell hb5 4).trans rfl
      have q55 : w6.cell? ⟨W.heap.size + 1 + 1 + 1, 5, none⟩ = some (.int .i64 0) := (blk_cell hb5 5).trans rfl
      have f4 := blk_frozen hb4
      have f5 := blk_frozen hb5
      clear hb4 hb5 hgq hzq hab hadp hFK hcc hF9 l9 hnd9 hdt hei hwfl hci2 hci3 lI hFI
      go_wp2
      go_quiet (fail)
      go_wp2
      go_region
      go_wp2
      obtain ⟨t4, t5, tf⟩ := told_world (w := w6.drewN (m + nq + 1)) HL6.out.b4 HL6.out.b5 (by omega) _ rfl
      refine bodyPost_ret (results_cell2_row rfl _ _ _ _ _ _ _ _ _ _ _ _ rfl rfl t4 t5 hu35 rfl (by kernel_rfl) hu42 rfl (by kernel_rfl)) rfl ?_
      rw [HTD.out]
      exact go_keep2 HNR.out (((Fr.of_below HB6.out None_).drewN _).toBelow0) HL2.out HH2.out tf (by omega) (by omega) ⟨A9, c9, none, 0, by rw [HND9.out]; rfl, HL9.out, Nat.le_refl _, Kd.F_mono (Kd.F_step (Kd.F_drewN HF9.out _) (fun k hk hlt => tf.block k hlt (fun e => by have := HSZ.out; rcases hk.1 with h | h <;> rcases e with e | e <;> omega))) (fun k hk => hk.1.imp (fun h => h) (fun h => by have := HSZ.out; omega)), Kd.F_nil _ _ _⟩
    · have hne : rd cs (j : Int) ≠ comp := H7.out j (by have := H.out.2; omega)
      obtain ⟨x, hxx⟩ : ∃ x, rd cs (j : Int) = x := ⟨_, rfl⟩
      rw [hxx] at hx0 hne
      have hq : (x != comp) = true := by simp [hne]
      obtain ⟨k1, hk1⟩ : ∃ k1, gk = k1 + 1 := ⟨gk - 1, by have := H.out.1; omega⟩
      have HH := Aside0.mk (show (j + 1) + k1 = nc ∧ j + 1 ≤ k0 by have := H.out; omega)
      have hnc64 : nc ≤ 64 := by have := HCS.out; have := HNC.out; omega
      subst hk1
      clear hxx hne H r1' hjk
      go_wp2
      go_quiet (fail)
      go_wp2
      go_roundg k1
      case measure => omega
      case rel => exact ⟨j + 1, _, by go_num, rfl, HH⟩

set_option maxHeartbeats 4000000 in
set_option maxRecDepth 100000 in
theorem rgo_size {W : World} {ok : Nat → Prop} (cs : List Int) (z : Int → Nat) (hz : ∀ k, z k ≤ 64) (rows : List Ent_) (A0 : Option Addr) (c0 : Nat) (A1 : Option Addr) (c1 : Nat) (A2 : Option Addr) (c2 : Nat) (hcs : cs.length ≤ 64) (hr : rows.length ≤ 1024) (l2 : rows.length ≤ c2) (hwf : ∀ r, r ∈ rows → r.f1.length = cs.length)
    (H0 : Kd.F (Kd.int .i64) W ok A0 cs.length cs) (H1 : Kd.F (Kd.int .i64) W ok A1 cs.length (cs.map fun k => (z k : Int))) (H2 : Kd.F k100 W ok A2 rows.length rows)
    (d row comp : Int) (id : ID_) (ps : List Part_) (AP : Option Addr) (cP : Nat) (HP : Kd.F k90 W ok AP ps.length ps) (ds : List Int) (AD : Option Addr) (cD : Nat) (HD : Kd.F (Kd.int .u8) W ok AD ds.length ds) (lD : ds.length ≤ cD) (h1 : d = 1) (h3 : 0 ≤ row) (h4 : row < (rows.length : Int)) (k0 : Nat) (h5 : k0 < cs.length) (h6 : rd cs (k0 : Int) = comp) (h7 : ∀ j : Nat, j < k0 → rd cs (j : Int) ≠ comp) (h8 : ds.length ≠ z comp) :
    Calls Tryd.prog 13 #[.agg #[.slice A0 cs.length c0, .slice A1 cs.length c1, .slice A2 rows.length c2], .agg #[.int .i64 d, .int .i64 id.f0, .int .i64 id.f1, .slice AP ps.length cP, .int .i64 row, .int .i64 comp, .slice AD ds.length cD]] W
      (GoPost W ok A0 c0 A1 c1 cs.length rows (errT 7)) := by
  have hu35 := Tryd.underlying35
  have hu42 := Tryd.underlying42
  have hu45 := Tryd.underlying45
  obtain ⟨nc, hnc⟩ : ∃ n, cs.length = n := ⟨_, rfl⟩
  obtain ⟨nr, hnr⟩ : ∃ n, rows.length = n := ⟨_, rfl⟩
  obtain ⟨np, hnp⟩ : ∃ n, ps.length = n := ⟨_, rfl⟩
  obtain ⟨nd, hnd⟩ : ∃ n, ds.length = n := ⟨_, rfl⟩
  have hL := laid W #[.slice A0 nc c0, .slice A1 nc c1, .slice A2 nr c2] #[.int .i64 d, .int .i64 id.f0, .int .i64 id.f1, .slice AP np cP, .int .i64 row, .int .i64 comp, .slice AD nd cD]
  have hB := laid_below W (.cells #[.slice A0 nc c0, .slice A1 nc c1, .slice A2 nr c2] 35) (.cells #[.int .i64 d, .int .i64 id.f0, .int .i64 id.f1, .slice AP np cP, .int .i64 row, .int .i64 comp, .slice AD nd cD] 45) (.cells #[.slice none 0 0, .slice none 0 0, .slice none 0 0] 35) (.cells #[.slice none 0 0, .slice none 0 0, .int .i64 0, .int .i64 0, .bool false, .int .i64 0] 42)
  have hsz : ((((W.alloc (.cells #[.slice A0 nc c0, .slice A1 nc c1, .slice A2 nr c2] 35)).alloc (.cells #[.int .i64 d, .int .i64 id.f0, .int .i64 id.f1, .slice AP np cP, .int .i64 row, .int .i64 comp, .slice AD nd cD] 45)).alloc (.cells #[.slice none 0 0, .slice none 0 0, .slice none 0 0] 35)).alloc (.cells #[.slice none 0 0, .slice none 0 0, .int .i64 0, .int .i64 0, .bool false, .int .i64 0] 42)).heap.size = W.heap.size + 1 + 1 + 1 + 1 := by simp
  obtain ⟨W0, hW0⟩ : ∃ W0, ((((W.alloc (.cells #[.slice A0 nc c0, .slice A1 nc c1, .slice A2 nr c2] 35)).alloc (.cells #[.int .i64 d, .int .i64 id.f0, .int .i64 id.f1, .slice AP np cP, .int .i64 row, .int .i64 comp, .slice AD nd cD] 45)).alloc (.cells #[.slice none 0 0, .slice none 0 0, .slice none 0 0] 35)).alloc (.cells #[.slice none 0 0, .slice none 0 0, .int .i64 0, .int .i64 0, .bool false, .int .i64 0] 42)) = W0 := ⟨_, rfl⟩
  rw [hW0] at hL hB hsz
  have HW := Aside0.mk hW0
  have HB := Aside0.mk hB
  have HL := Aside0.mk hL
  have HSZ := Aside0.mk hsz
  have HNR := Aside0.mk hnr
  have HNC := Aside0.mk hnc
  have HNP := Aside0.mk hnp
  have HND := Aside0.mk hnd
  have HH0 := Aside0.mk H0
  have HH1 := Aside0.mk H1
  have HH2 := Aside0.mk H2
  have HHP := Aside0.mk HP
  have HHD := Aside0.mk HD
  have HL2 := Aside0.mk l2
  have HLD := Aside0.mk lD
  have HCS := Aside0.mk hcs
  have HR := Aside0.mk hr
  have HZ := Aside0.mk hz
  have HWF := Aside0.mk hwf
  have q20 : W0.cell? ⟨W.heap.size, 0, none⟩ = some (.slice A0 nc c0) := (blk_cell hL.b2 0).trans rfl
  have q21 : W0.cell? ⟨W.heap.size, 1, none⟩ = some (.slice A1 nc c1) := (blk_cell hL.b2 1).trans rfl
  have q22 : W0.cell? ⟨W.heap.size, 2, none⟩ = some (.slice A2 nr c2) := (blk_cell hL.b2 2).trans rfl
  have q30 : W0.cell? ⟨W.heap.size + 1, 0, none⟩ = some (.int .i64 d) := (blk_cell hL.b3 0).trans rfl
  have q31 : W0.cell? ⟨W.heap.size + 1, 1, none⟩ = some (.int .i64 id.f0) := (blk_cell hL.b3 1).trans rfl
  have q32 : W0.cell? ⟨W.heap.size + 1, 2, none⟩ = some (.int .i64 id.f1) := (blk_cell hL.b3 2).trans rfl
  have q33 : W0.cell? ⟨W.heap.size + 1, 3, none⟩ = some (.slice AP np cP) := (blk_cell hL.b3 3).trans rfl
  have q34 : W0.cell? ⟨W.heap.size + 1, 4, none⟩ = some (.int .i64 row) := (blk_cell hL.b3 4).trans rfl
  have q35 : W0.cell? ⟨W.heap.size + 1, 5, none⟩ = some (.int .i64 comp) := (blk_cell hL.b3 5).trans rfl
  have q36 : W0.cell? ⟨W.heap.size + 1, 6, none⟩ = some (.slice AD nd cD) := (blk_cell hL.b3 6).trans rfl
  have q40 : W0.cell? ⟨W.heap.size + 1 + 1, 0, none⟩ = some (.slice none 0 0) := (blk_cell hL.b4 0).trans rfl
  have q41 : W0.cell? ⟨W.heap.size + 1 + 1, 1, none⟩ = some (.slice none 0 0) := (blk_cell hL.b4 1).trans rfl
  have q42 : W0.cell? ⟨W.heap.size + 1 + 1, 2, none⟩ = some (.slice none 0 0) := (blk_cell hL.b4 2).trans rfl
  have q50 : W0.cell? ⟨W.heap.size + 1 + 1 + 1, 0, none⟩ = some (.slice none 0 0) := (blk_cell hL.b5 0).trans rfl
  have q51 : W0.cell? ⟨W.heap.size + 1 + 1 + 1, 1, none⟩ = some (.slice none 0 0) := (blk_cell hL.b5 1).trans rfl
  have q52 : W0.cell? ⟨W.heap.size + 1 + 1 + 1, 2, none⟩ = some (.int .i64 0) := (blk_cell hL.b5 2).trans rfl
  have q53 : W0.cell? ⟨W.heap.size + 1 + 1 + 1, 3, none⟩ = some (.int .i64 0) := (blk_cell hL.b5 3).trans rfl
  have q54 : W0.cell? ⟨W.heap.size + 1 + 1 + 1, 4, none⟩ = some (.bool false) := (blk_cell hL.b5 4).trans rfl
  have q55 : W0.cell? ⟨W.heap.size + 1 + 1 + 1, 5, none⟩ = some (.int .i64 0) := (blk_cell hL.b5 5).trans rfl
  have f4 := blk_frozen hL.b4
  have f5 := blk_frozen hL.b5
  simp only [hnc, hnr, hnp, hnd]
  subst h1
  have H5 := Aside0.mk h5
  have H6 := Aside0.mk h6
  have H7 := Aside0.mk h7
  have H8 := Aside0.mk h8
  have q3 : decide (row < 0) = false := by simp; omega
  have q4 : decide ((nr : Int) ≤ row) = false := by simp; omega
  obtain ⟨i, rfl⟩ := Int.eq_ofNat_of_zero_le h3
  try simp only [Int.toNat_natCast]
  have p1 : (0 : Int) ≤ (i : Int) := by omega
  have p2 : (i : Int) < (nr : Int) := by omega
  have p3 : i < nr := by omega
  have g2lt : W.heap.size < W0.heap.size := by omega
  have g3lt : W.heap.size + 1 < W0.heap.size := by omega
  have hWa : Below W0.heap.size W0 (W0.alloc (.cells #[] 100)) := (Below.refl _ _).alloc (Nat.le_refl _) _
  have HNA := Aside0.mk (show Kd.N k100 100 (W0.alloc (.cells #[] 100)) W.heap.size (fun k => (ok k ∧ k < W.heap.size) ∨ W0.heap.size ≤ k) (.slice (some ⟨W0.heap.size, 0, none⟩) 0 0) [] from N_empty (by simpa using heap_alloc_new W0 (.cells #[] 100)) hB.size (.inr (Nat.le_refl _)))
  have HFA := Aside0.mk (show Kd.F k100 (W0.alloc (.cells #[] 100)) (fun k => ok k ∧ k < W.heap.size) A2 nr rows from by
    have h9 := old_F H2 (wr := W0.alloc (.cells #[] 100)) (fun k hk => (hWa.block k (Nat.lt_of_lt_of_le hk hB.size)).trans (hB.block k hk))
    rw [hnr] at h9
    exact h9)
  have HBA := Aside0.mk (show Below W.heap.size W (W0.alloc (.cells #[] 100)) from ((Fr.of_below hB None_).below_ hWa).toBelow0)
  have HLE := Aside0.mk (show (([] : List Ent_).length + nr) * 40 ≤ 140737488355328 by simp; omega)
  clear h3 h4 h5 h6 h7 h8 hWa
  clear hL hB hW0 hsz hnr hnc hnp hnd H0 H1 H2 HP HD l2 lD hcs hr hz hwf
  go_enter Tryd.func13, Tryd.ntmps13
  go_wp2_with (first | rw [HW.out] | ((with_reducible refine gate_builtin (b := .append) (xs := #[.tmp 48, .tmp 50]) rfl ?_); at_builtin; refine Kd.N_append_rows k100 (w0 := W) W.heap.size rfl (.tmp 48) (.tmp 50) 33 100 (.agg #[.int .i64 0, .int .i64 0, .slice none 0 0]) 40 rfl Tryd.underlying33 infoEnt rfl (by decide) (by omega) (.slice (some ⟨W0.heap.size, 0, none⟩) 0 0) [] rows A2 nr c2 (fun k => (ok k ∧ k < W.heap.size) ∨ W0.heap.size ≤ k) (fun k => ok k ∧ k < W.heap.size) rfl rfl HNA.out HFA.out ?aQ ?aF HBA.out ?aS HLE.out ?_))
  case aQ => exact fun k hk => ⟨.inl hk, fun e => by simp [Value.ownBlock] at e; have := HB.out.size; have := hk.2; omega⟩
  case aF => exact fun k hk => .inr (by simp at hk; omega)
  case aS => exact HBA.out.size
  intro v1 w6 ho hb6 hg6 hat6
  replace ho : Kd.N k100 100 w6 W.heap.size (fun k => (ok k ∧ k < W.heap.size) ∨ W0.heap.size ≤ k) v1 rows := ho
  obtain ⟨gb, c6, ev, hgb0, hgbl, csb, hcsb⟩ := Kd.N_form ho (by rw [HNR.out]; omega)
  rw [HNR.out] at ev
  subst ev
  have hold6 : ∀ k, k < W0.heap.size → w6.heap[k]? = W0.heap[k]? := fun k hk => (hg6.block k (by simp; omega) (by simp [Value.ownBlock]; omega)).trans (((Below.refl _ W0).alloc (Nat.le_refl _) _).block k hk)
  have hgbW : W0.heap.size ≤ gb := by
    rcases hat6 with e | ⟨b, e, hb⟩
    · simp [Value.ownBlock] at e; omega
    · have e' : gb = b := by simpa [Value.ownBlock] using e
      have hs : (W0.alloc (.cells #[] 100)).heap.size = W0.heap.size + 1 := by simp
      omega
  have hL6 : Laid w6 W.heap.size #[.slice A0 nc c0, .slice A1 nc c1, .slice A2 nr c2] #[.int .i64 1, .int .i64 id.f0, .int .i64 id.f1, .slice AP np cP, .int .i64 (i : Int), .int .i64 comp, .slice AD nd cD] := ⟨(hold6 _ (heap_lt' HL.out.b2)).trans HL.out.b2, (hold6 _ (heap_lt' HL.out.b3)).trans HL.out.b3, (hold6 _ (heap_lt' HL.out.b4)).trans HL.out.b4, (hold6 _ (heap_lt' HL.out.b5)).trans HL.out.b5⟩
  have HL6 := Aside0.mk hL6
  have HO6 := Aside0.mk ho
  have HB6 := Aside0.mk hb6
  have HGBW := Aside0.mk hgbW
  have w20 : w6.cell? ⟨W.heap.size, 0, none⟩ = some (.slice A0 nc c0) := (blk_cell hL6.b2 0).trans rfl
  have w30 : w6.cell? ⟨W.heap.size + 1, 0, none⟩ = some (.int .i64 1) := (blk_cell hL6.b3 0).trans rfl
  have w34 : w6.cell? ⟨W.heap.size + 1, 4, none⟩ = some (.int .i64 (i : Int)) := (blk_cell hL6.b3 4).trans rfl
  have w35 : w6.cell? ⟨W.heap.size + 1, 5, none⟩ = some (.int .i64 comp) := (blk_cell hL6.b3 5).trans rfl
  have hW6 : ∀ k, k < W.heap.size → w6.heap[k]? = W.heap[k]? := fun k hk => hb6.block k hk
  have HF0 := Aside0.mk (old_F HH0.out hW6)
  have HF1 := Aside0.mk (old_F HH1.out hW6)
  clear q20 q21 q22 q30 q31 q32 q33 q34 q35 q36 q40 q41 q42 q50 q51 q52 q53 q54 q55 f4 f5 q3 q4 hL6 ho hb6 hg6 hat6 hold6 hgbW hgb0 hgbl hcsb hW6
  go_wp2
  go_loopg [8] nc (fun gk v8 wr => ∃ (j m : Nat), v8 = .int .i64 j ∧ wr = w6.drewN m ∧ Aside0 (j + gk = nc ∧ j ≤ k0))
  case atStart => exact ⟨0, 0, rfl, rfl, ⟨by omega, Nat.zero_le _⟩⟩
  case round =>
    obtain ⟨j, m, rfl, hwr, H⟩ := hrel
    subst hwr
    have hlt : j < nc := by have := H.out.2; have := H5.out; have := HNC.out; omega
    have q0 : decide ((j : Int) < (nc : Int)) = true := by simp; omega
    have r0 : (0 : Int) ≤ (j : Int) := by omega
    have r1 : (j : Int) < (nc : Int) := by omega
    have r1' : (j : Int) < (cs.length : Int) := by have := HNC.out; omega
    obtain ⟨ad0, e0, hx0⟩ := Kd.at_int HF0.out.now (j : Int) r0 r1'
    subst e0
    simp only [Int.toNat_natCast] at hx0
    by_cases hjk : j = k0
    · subst hjk
      rw [H6.out] at hx0
      have hq : (comp != comp) = false := by simp
      clear H r1'
      have r2' : (j : Int) < (cs.length : Int) := by have := HNC.out; omega
      obtain ⟨ad1, e1, hx1⟩ := Kd.at_int HF1.out.now (j : Int) r0 r2'
      subst e1
      have hz1 : rd (cs.map fun k => (z k : Int)) (j : Int) = (z comp : Int) := by
        rw [← H6.out]
        have : j < cs.length := by omega
        simp [rd, List.getD_eq_getElem?_getD, List.getElem?_eq_getElem this]
      rw [hz1] at hx1
      simp only [Int.toNat_natCast] at hx1
      obtain ⟨zx, hzx⟩ : ∃ n, z comp = n := ⟨_, rfl⟩
      rw [hzx] at hx1
      have HZX := Aside0.mk hzx
      have w21 : w6.cell? ⟨W.heap.size, 1, none⟩ = some (.slice (some ad1) nc c1) := (blk_cell HL6.out.b2 1).trans rfl
      have w22 : w6.cell? ⟨W.heap.size, 2, none⟩ = some (.slice A2 nr c2) := (blk_cell HL6.out.b2 2).trans rfl
      have w36 : w6.cell? ⟨W.heap.size + 1, 6, none⟩ = some (.slice AD nd cD) := (blk_cell HL6.out.b3 6).trans rfl
      have hb4 := HL6.out.b4
      have hb5 := HL6.out.b5
      have q40 : w6.cell? ⟨W.heap.size + 1 + 1, 0, none⟩ = some (.slice none 0 0) := (blk_cell hb4 0).trans rfl
      have q41 : w6.cell? ⟨W.heap.size + 1 + 1, 1, none⟩ = some (.slice none 0 0) := (blk_cell hb4 1).trans rfl
      have q42 : w6.cell? ⟨W.heap.size + 1 + 1, 2, none⟩ = some (.slice none 0 0) := (blk_cell hb4 2).trans rfl
      have q50 : w6.cell? ⟨W.heap.size + 1 + 1 + 1, 0, none⟩ = some (.slice none 0 0) := (blk_cell hb5 0).trans rfl
      have q51 : w6.cell? ⟨W.heap.size + 1 + 1 + 1, 1, none⟩ = some (.slice none 0 0) := (blk_cell hb5 1).trans rfl
      have q52 : w6.cell? ⟨W.heap.size + 1 + 1 + 1, 2, none⟩ = some (.int .i64 0) := (blk_cell hb5 2).trans rfl
      have q53 : w6.cell? ⟨W.heap.size + 1 + 1 + 1, 3, none⟩ = some (.int .i64 0) := (blk_cell hb5 3).trans rfl
      have q54 : w6.cell? ⟨W.heap.size + 1 + 1 + 1, 4, none⟩ = some (.bool false) := (blk_cell hb5 4).trans rfl
      have q55 : w6.cell? ⟨W.heap.size + 1 + 1 + 1, 5, none⟩ = some (.int .i64 0) := (blk_cell hb5 5).trans rfl
      have f4 := blk_frozen hb4
      have f5 := blk_frozen hb5
      clear hb4 hb5 r2' hz1 hzx
      have hne : ((nd : Int) != (zx : Int)) = true := by have h9 := H8.out; rw [HND.out, HZX.out] at h9; simp; omega
      go_wp2
      go_quiet (fail)
      go_wp2
      go_quiet (fail)
      go_wp2
      obtain ⟨t4, t5, tf⟩ := told_world (w := w6.drewN _) HL6.out.b4 HL6.out.b5 (by omega) _ rfl
      refine bodyPost_ret (results_cell2_row rfl _ _ _ _ _ _ _ _ _ _ _ _ rfl rfl t4 t5 hu35 rfl (by kernel_rfl) hu42 rfl (by kernel_rfl)) rfl ?_
      exact go_keep HNR.out (((Fr.of_below HB6.out None_).drewN _).toBelow0) HL2.out HH2.out tf (by omega) (by omega) (fun w' _ => IsTold.err 7)
    · have hne : rd cs (j : Int) ≠ comp := H7.out j (by have := H.out.2; omega)
      obtain ⟨x, hxx⟩ : ∃ x, rd cs (j : Int) = x := ⟨_, rfl⟩
      rw [hxx] at hx0 hne
      have hq : (x != comp) = true := by simp [hne]
      obtain ⟨k1, hk1⟩ : ∃ k1, gk = k1 + 1 := ⟨gk - 1, by have := H.out.1; omega⟩
      have HH := Aside0.mk (show (j + 1) + k1 = nc ∧ j + 1 ≤ k0 by have := H.out; omega)
      have hnc64 : nc ≤ 64 := by have := HCS.out; have := HNC.out; omega
      subst hk1
      clear hxx hne H r1' hjk
      go_wp2
      go_quiet (fail)
      go_wp2
      go_roundg k1
      case measure => omega
      case rel => exact ⟨j + 1, _, by go_num, rfl, HH⟩

set_option maxHeartbeats 4000000 in
set_option maxRecDepth 100000 in
theorem rgo_set {W : World} {ok : Nat → Prop} (cs : List Int) (z : Int → Nat) (hz : ∀ k, z k ≤ 64) (rows : List Ent_) (A0 : Option Addr) (c0 : Nat) (A1 : Option Addr) (c1 : Nat) (A2 : Option Addr) (c2 : Nat) (hcs : cs.length ≤ 64) (hr : rows.length ≤ 1024) (l2 : rows.length ≤ c2) (hwf : ∀ r, r ∈ rows → r.f1.length = cs.length)
    (H0 : Kd.F (Kd.int .i64) W ok A0 cs.length cs) (H1 : Kd.F (Kd.int .i64) W ok A1 cs.length (cs.map fun k => (z k : Int))) (H2 : Kd.F k100 W ok A2 rows.length rows)
    (d row comp : Int) (id : ID_) (ps : List Part_) (AP : Option Addr) (cP : Nat) (HP : Kd.F k90 W ok AP ps.length ps) (ds : List Int) (AD : Option Addr) (cD : Nat) (HD : Kd.F (Kd.int .u8) W ok AD ds.length ds) (lD : ds.length ≤ cD) (h1 : d = 1) (h3 : 0 ≤ row) (h4 : row < (rows.length : Int)) (k0 : Nat) (h5 : k0 < cs.length) (h6 : rd cs (k0 : Int) = comp) (h7 : ∀ j : Nat, j < k0 → rd cs (j : Int) ≠ comp) (h8 : ds.length = z comp) :
    Calls Tryd.prog 13 #[.agg #[.slice A0 cs.length c0, .slice A1 cs.length c1, .slice A2 rows.length c2], .agg #[.int .i64 d, .int .i64 id.f0, .int .i64 id.f1, .slice AP ps.length cP, .int .i64 row, .int .i64 comp, .slice AD ds.length cD]] W
      (GoPost W ok A0 c0 A1 c1 cs.length (rows.set row.toNat (⟨(rows.getD row.toNat z100).f0, (rows.getD row.toNat z100).f1.set k0 ⟨((rows.getD row.toNat z100).f1.getD k0 z90).f0, ds⟩⟩ : Ent_)) (errT 0)) := by
  have hu35 := Tryd.underlying35
  have hu42 := Tryd.underlying42
  have hu45 := Tryd.underlying45
  obtain ⟨nc, hnc⟩ : ∃ n, cs.length = n := ⟨_, rfl⟩
  obtain ⟨nr, hnr⟩ : ∃ n, rows.length = n := ⟨_, rfl⟩
  obtain ⟨np, hnp⟩ : ∃ n, ps.length = n := ⟨_, rfl⟩
  obtain ⟨nd, hnd⟩ : ∃ n, ds.length = n := ⟨_, rfl⟩
  have hL := laid W #[.slice A0 nc c0, .slice A1 nc c1, .slice A2 nr c2] #[.int .i64 d, .int .i64 id.f0, .int .i64 id.f1, .slice AP np cP, .int .i64 row, .int .i64 comp, .slice AD nd cD]
  have hB := laid_below W (.cells #[.slice A0 nc c0, .slice A1 nc c1, .slice A2 nr c2] 35) (.cells #[.int .i64 d, .int .i64 id.f0, .int .i64 id.f1, .slice AP np cP, .int .i64 row, .int .i64 comp, .slice AD nd cD] 45) (.cells #[.slice none 0 0, .slice none 0 0, .slice none 0 0] 35) (.cells #[.slice none 0 0, .slice none 0 0, .int .i64 0, .int .i64 0, .bool false, .int .i64 0] 42)
  have hsz : ((((W.alloc (.cells #[.slice A0 nc c0, .slice A1 nc c1, .slice A2 nr c2] 35)).alloc (.cells #[.int .i64 d, .int .i64 id.f0, .int .i64 id.f1, .slice AP np cP, .int .i64 row, .int .i64 comp, .slice AD nd cD] 45)).alloc (.cells #[.slice none 0 0, .slice none 0 0, .slice none 0 0] 35)).alloc (.cells #[.slice none 0 0, .slice none 0 0, .int .i64 0, .int .i64 0, .bool false, .int .i64 0] 42)).heap.size = W.heap.size + 1 + 1 + 1 + 1 := by simp
  obtain ⟨W0, hW0⟩ : ∃ W0, ((((W.alloc (.cells #[.slice A0 nc c0, .slice A1 nc c1, .slice A2 nr c2] 35)).alloc (.cells #[.int .i64 d, .int .i64 id.f0, .int .i64 id.f1, .slice AP np cP, .int .i64 row, .int .i64 comp, .slice AD nd cD] 45)).alloc (.cells #[.slice none 0 0, .slice none 0 0, .slice none 0 0] 35)).alloc (.cells #[.slice none 0 0, .slice none 0 0, .int .i64 0, .int .i64 0, .bool false, .int .i64 0] 42)) = W0 := ⟨_, rfl⟩
  rw [hW0] at hL hB hsz
  have HW := Aside0.mk hW0
  have HB := Aside0.mk hB
  have HL := Aside0.mk hL
  have HSZ := Aside0.mk hsz
  have HNR := Aside0.mk hnr
  have HNC := Aside0.mk hnc
  have HNP := Aside0.mk hnp
  have HND := Aside0.mk hnd
  have HH0 := Aside0.mk H0
  have HH1 := Aside0.mk H1
  have HH2 := Aside0.mk H2
  have HHP := Aside0.mk HP
  have HHD := Aside0.mk HD
  have HL2 := Aside0.mk l2
  have HLD := Aside0.mk lD
  have HCS := Aside0.mk hcs
  have HR := Aside0.mk hr
  have HZ := Aside0.mk hz
  have HWF := Aside0.mk hwf
  have q20 : W0.cell? ⟨W.heap.size, 0, none⟩ = some (.slice A0 nc c0) := (blk_cell hL.b2 0).trans rfl
  have q21 : W0.cell? ⟨W.heap.size, 1, none⟩ = some (.slice A1 nc c1) := (blk_cell hL.b2 1).trans rfl
  have q22 : W0.cell? ⟨W.heap.size, 2, none⟩ = some (.slice A2 nr c2) := (blk_cell hL.b2 2).trans rfl
  have q30 : W0.cell? ⟨W.heap.size + 1, 0, none⟩ = some (.int .i64 d) := (blk_cell hL.b3 0).trans rfl
  have q31 : W0.cell? ⟨W.heap.size + 1, 1, none⟩ = some (.int .i64 id.f0) := (blk_cell hL.b3 1).trans rfl
  have q32 : W0.cell? ⟨W.heap.size + 1, 2, none⟩ = some (.int .i64 id.f1) := (blk_cell hL.b3 2).trans rfl
  have q33 : W0.cell? ⟨W.heap.size + 1, 3, none⟩ = some (.slice AP np cP) := (blk_cell hL.b3 3).trans rfl
  have q34 : W0.cell? ⟨W.heap.size + 1, 4, none⟩ = some (.int .i64 row) := (blk_cell hL.b3 4).trans rfl
  have q35 : W0.cell? ⟨W.heap.size + 1, 5, none⟩ = some (.int .i64 comp) := (blk_cell hL.b3 5).trans rfl
  have q36 : W0.cell? ⟨W.heap.size + 1, 6, none⟩ = some (.slice AD nd cD) := (blk_cell hL.b3 6).trans rfl
  have q40 : W0.cell? ⟨W.heap.size + 1 + 1, 0, none⟩ = some (.slice none 0 0) := (blk_cell hL.b4 0).trans rfl
  have q41 : W0.cell? ⟨W.heap.size + 1 + 1, 1, none⟩ = some (.slice none 0 0) := (blk_cell hL.b4 1).trans rfl
  have q42 : W0.cell? ⟨W.heap.size + 1 + 1, 2, none⟩ = some (.slice none 0 0) := (blk_cell hL.b4 2).trans rfl
  have q50 : W0.cell? ⟨W.heap.size + 1 + 1 + 1, 0, none⟩ = some (.slice none 0 0) := (blk_cell hL.b5 0).trans rfl
  have q51 : W0.cell? ⟨W.heap.size + 1 + 1 + 1, 1, none⟩ = some (.slice none 0 0) := (blk_cell hL.b5 1).trans rfl
  have q52 : W0.cell? ⟨W.heap.size + 1 + 1 + 1, 2, none⟩ = some (.int .i64 0) := (blk_cell hL.b5 2).trans rfl
  have q53 : W0.cell? ⟨W.heap.size + 1 + 1 + 1, 3, none⟩ = some (.int .i64 0) := (blk_cell hL.b5 3).trans rfl
  have q54 : W0.cell? ⟨W.heap.size + 1 + 1 + 1, 4, none⟩ = some (.bool false) := (blk_cell hL.b5 4).trans rfl
  have q55 : W0.cell? ⟨W.heap.size + 1 + 1 + 1, 5, none⟩ = some (.int .i64 0) := (blk_cell hL.b5 5).trans rfl
  have f4 := blk_frozen hL.b4
  have f5 := blk_frozen hL.b5
  simp only [hnc, hnr, hnp, hnd]
  subst h1
  have H5 := Aside0.mk h5
  have H6 := Aside0.mk h6
  have H7 := Aside0.mk h7
  have H8 := Aside0.mk h8
  have q3 : decide (row < 0) = false := by simp; omega
  have q4 : decide ((nr : Int) ≤ row) = false := by simp; omega
  obtain ⟨i, rfl⟩ := Int.eq_ofNat_of_zero_le h3
  try simp only [Int.toNat_natCast]
  have p1 : (0 : Int) ≤ (i : Int) := by omega
  have p2 : (i : Int) < (nr : Int) := by omega
  have p3 : i < nr := by omega
  have g2lt : W.heap.size < W0.heap.size := by omega
  have g3lt : W.heap.size + 1 < W0.heap.size := by omega
  have hWa : Below W0.heap.size W0 (W0.alloc (.cells #[] 100)) := (Below.refl _ _).alloc (Nat.le_refl _) _
  have HNA := Aside0.mk (show Kd.N k100 100 (W0.alloc (.cells #[] 100)) W.heap.size (fun k => (ok k ∧ k < W.heap.size) ∨ W0.heap.size ≤ k) (.slice (some ⟨W0.heap.size, 0, none⟩) 0 0) [] from N_empty (by simpa using heap_alloc_new W0 (.cells #[] 100)) hB.size (.inr (Nat.le_refl _)))
  have HFA := Aside0.mk (show Kd.F k100 (W0.alloc (.cells #[] 100)) (fun k => ok k ∧ k < W.heap.size) A2 nr rows from by
    have h9 := old_F H2 (wr := W0.alloc (.cells #[] 100)) (fun k hk => (hWa.block k (Nat.lt_of_lt_of_le hk hB.size)).trans (hB.block k hk))
    rw [hnr] at h9
    exact h9)
  have HBA := Aside0.mk (show Below W.heap.size W (W0.alloc (.cells #[] 100)) from ((Fr.of_below hB None_).below_ hWa).toBelow0)
  have HLE := Aside0.mk (show (([] : List Ent_).length + nr) * 40 ≤ 140737488355328 by simp; omega)
  obtain ⟨RR, hRR⟩ : ∃ r, rows.set i (⟨(rows.getD i z100).f0, (rows.getD i z100).f1.set k0 ⟨((rows.getD i z100).f1.getD k0 z90).f0, ds⟩⟩ : Ent_) = r := ⟨_, rfl⟩
  rw [hRR]
  have HRR := Aside0.mk hRR
  clear hRR h3 h4 h5 h6 h7 h8 hWa
  clear hL hB hW0 hsz hnr hnc hnp hnd H0 H1 H2 HP HD l2 lD hcs hr hz hwf
  go_enter Tryd.func13, Tryd.ntmps13
  go_wp2_with (first | rw [HW.out] | ((with_reducible refine gate_builtin (b := .append) (xs := #[.tmp 48, .tmp 50]) rfl ?_); at_builtin; refine Kd.N_append_rows k100 (w0 := W) W.heap.size rfl (.tmp 48) (.tmp 50) 33 100 (.agg #[.int .i64 0, .int .i64 0, .slice none 0 0]) 40 rfl Tryd.underlying33 infoEnt rfl (by decide) (by omega) (.slice (some ⟨W0.heap.size, 0, none⟩) 0 0) [] rows A2 nr c2 (fun k => (ok k ∧ k < W.heap.size) ∨ W0.heap.size ≤ k) (fun k => ok k ∧ k < W.heap.size) rfl rfl HNA.out HFA.out ?aQ ?aF HBA.out ?aS HLE.out ?_))
  case aQ => exact fun k hk => ⟨.inl hk, fun e => by simp [Value.ownBlock] at e; have := HB.out.size; have := hk.2; omega⟩
  case aF => exact fun k hk => .inr (by simp at hk; omega)
  case aS => exact HBA.out.size
  intro v1 w6 ho hb6 hg6 hat6
  replace ho : Kd.N k100 100 w6 W.heap.size (fun k => (ok k ∧ k < W.heap.size) ∨ W0.heap.size ≤ k) v1 rows := ho
  obtain ⟨gb, c6, ev, hgb0, hgbl, csb, hcsb⟩ := Kd.N_form ho (by rw [HNR.out]; omega)
  rw [HNR.out] at ev
  subst ev
  have hold6 : ∀ k, k < W0.heap.size → w6.heap[k]? = W0.heap[k]? := fun k hk => (hg6.block k (by simp; omega) (by simp [Value.ownBlock]; omega)).trans (((Below.refl _ W0).alloc (Nat.le_refl _) _).block k hk)
  have hgbW : W0.heap.size ≤ gb := by
    rcases hat6 with e | ⟨b, e, hb⟩
    · simp [Value.ownBlock] at e; omega
    · have e' : gb = b := by simpa [Value.ownBlock] using e
      have hs : (W0.alloc (.cells #[] 100)).heap.size = W0.heap.size + 1 := by simp
      omega
  have hL6 : Laid w6 W.heap.size #[.slice A0 nc c0, .slice A1 nc c1, .slice A2 nr c2] #[.int .i64 1, .int .i64 id.f0, .int .i64 id.f1, .slice AP np cP, .int .i64 (i : Int), .int .i64 comp, .slice AD nd cD] := ⟨(hold6 _ (heap_lt' HL.out.b2)).trans HL.out.b2, (hold6 _ (heap_lt' HL.out.b3)).trans HL.out.b3, (hold6 _ (heap_lt' HL.out.b4)).trans HL.out.b4, (hold6 _ (heap_lt' HL.out.b5)).trans HL.out.b5⟩
  have HL6 := Aside0.mk hL6
  have HO6 := Aside0.mk ho
  have HB6 := Aside0.mk hb6
  have HGBW := Aside0.mk hgbW
  have w20 : w6.cell? ⟨W.heap.size, 0, none⟩ = some (.slice A0 nc c0) := (blk_cell hL6.b2 0).trans rfl
  have w30 : w6.cell? ⟨W.heap.size + 1, 0, none⟩ = some (.int .i64 1) := (blk_cell hL6.b3 0).trans rfl
  have w34 : w6.cell? ⟨W.heap.size + 1, 4, none⟩ = some (.int .i64 (i : Int)) := (blk_cell hL6.b3 4).trans rfl
  have w35 : w6.cell? ⟨W.heap.size + 1, 5, none⟩ = some (.int .i64 comp) := (blk_cell hL6.b3 5).trans rfl
  have hW6 : ∀ k, k < W.heap.size → w6.heap[k]? = W.heap[k]? := fun k hk => hb6.block k hk
  have HF0 := Aside0.mk (old_F HH0.out hW6)
  have HF1 := Aside0.mk (old_F HH1.out hW6)
  clear q20 q21 q22 q30 q31 q32 q33 q34 q35 q36 q40 q41 q42 q50 q51 q52 q53 q54 q55 f4 f5 q3 q4 hL6 ho hb6 hg6 hat6 hold6 hgbW hgb0 hgbl hcsb hW6
  go_wp2
  go_loopg [8] nc (fun gk v8 wr => ∃ (j m : Nat), v8 = .int .i64 j ∧ wr = w6.drewN m ∧ Aside0 (j + gk = nc ∧ j ≤ k0))
  case atStart => exact ⟨0, 0, rfl, rfl, ⟨by omega, Nat.zero_le _⟩⟩
  case round =>
    obtain ⟨j, m, rfl, hwr, H⟩ := hrel
    subst hwr
    have hlt : j < nc := by have := H.out.2; have := H5.out; have := HNC.out; omega
    have q0 : decide ((j : Int) < (nc : Int)) = true := by simp; omega
    have r0 : (0 : Int) ≤ (j : Int) := by omega
    have r1 : (j : Int) < (nc : Int) := by omega
    have r1' : (j : Int) < (cs.length : Int) := by have := HNC.out; omega
    obtain ⟨ad0, e0, hx0⟩ := Kd.at_int HF0.out.now (j : Int) r0 r1'
    subst e0
    simp only [Int.toNat_natCast] at hx0
    by_cases hjk : j = k0
    · subst hjk
      rw [H6.out] at hx0
      have hq : (comp != comp) = false := by simp
      clear H r1'
      have r2' : (j : Int) < (cs.length : Int) := by have := HNC.out; omega
      obtain ⟨ad1, e1, hx1⟩ := Kd.at_int HF1.out.now (j : Int) r0 r2'
      subst e1
      have hz1 : rd (cs.map fun k => (z k : Int)) (j : Int) = (z comp : Int) := by
        rw [← H6.out]
        have : j < cs.length := by omega
        simp [rd, List.getD_eq_getElem?_getD, List.getElem?_eq_getElem this]
      rw [hz1] at hx1
      simp only [Int.toNat_natCast] at hx1
      obtain ⟨zx, hzx⟩ : ∃ n, z comp = n := ⟨_, rfl⟩
      rw [hzx] at hx1
      have HZX := Aside0.mk hzx
      have w21 : w6.cell? ⟨W.heap.size, 1, none⟩ = some (.slice (some ad1) nc c1) := (blk_cell HL6.out.b2 1).trans rfl
      have w22 : w6.cell? ⟨W.heap.size, 2, none⟩ = some (.slice A2 nr c2) := (blk_cell HL6.out.b2 2).trans rfl
      have w36 : w6.cell? ⟨W.heap.size + 1, 6, none⟩ = some (.slice AD nd cD) := (blk_cell HL6.out.b3 6).trans rfl
      have hb4 := HL6.out.b4
      have hb5 := HL6.out.b5
      have q40 : w6.cell? ⟨W.heap.size + 1 + 1, 0, none⟩ = some (.slice none 0 0) := (blk_cell hb4 0).trans rfl
      have q41 : w6.cell? ⟨W.heap.size + 1 + 1, 1, none⟩ = some (.slice none 0 0) := (blk_cell hb4 1).trans rfl
      have q42 : w6.cell? ⟨W.heap.size + 1 + 1, 2, none⟩ = some (.slice none 0 0) := (blk_cell hb4 2).trans rfl
      have q50 : w6.cell? ⟨W.heap.size + 1 + 1 + 1, 0, none⟩ = some (.slice none 0 0) := (blk_cell hb5 0).trans rfl
      have q51 : w6.cell? ⟨W.heap.size + 1 + 1 + 1, 1, none⟩ = some (.slice none 0 0) := (blk_cell hb5 1).trans rfl
      have q52 : w6.cell? ⟨W.heap.size + 1 + 1 + 1, 2, none⟩ = some (.int .i64 0) := (blk_cell hb5 2).trans rfl
      have q53 : w6.cell? ⟨W.heap.size + 1 + 1 + 1, 3, none⟩ = some (.int .i64 0) := (blk_cell hb5 3).trans rfl
      have q54 : w6.cell? ⟨W.heap.size + 1 + 1 + 1, 4, none⟩ = some (.bool false) := (blk_cell hb5 4).trans rfl
      have q55 : w6.cell? ⟨W.heap.size + 1 + 1 + 1, 5, none⟩ = some (.int .i64 0) := (blk_cell hb5 5).trans rfl
      have f4 := blk_frozen hb4
      have f5 := blk_frozen hb5
      clear hb4 hb5 r2' hz1 hzx
      have heq : nd = zx := by have h9 := H8.out; rw [HND.out, HZX.out] at h9; exact h9
      have hne : ((nd : Int) != (zx : Int)) = false := by simp [heq]
      subst heq
      obtain ⟨ci, _, hci2, hci3, hci4⟩ := Kd.N_elem HO6.out z100 (i : Int) p1 p2
      obtain ⟨AI, cI, rfl, lI, hFI⟩ := k100_openF hci2
      simp only [Int.toNat_natCast] at hci3 hFI lI
      have hwfl : (rows.getD i z100).f1.length = nc := by
        rw [← HNC.out]
        refine HWF.out _ ?_
        have : i < rows.length := by have := HNR.out; omega
        simp [List.getD_eq_getElem?_getD, List.getElem?_eq_getElem this]
      obtain ⟨ei, hei⟩ : ∃ e : Ent_, rows.getD i z100 = e := ⟨_, rfl⟩
      have x2 : w6.cell? ⟨gb, i * 3 + 2, none⟩ = some (.slice AI (rows.getD i z100).f1.length cI) := hci3 2 _ rfl
      rw [hwfl] at x2
      rw [hei] at hFI hwfl
      have HEI := Aside0.mk hei
      have HFI := Aside0.mk hFI
      have HWFL := Aside0.mk hwfl
      have s3 : W.heap.size + 1 < w6.heap.size := heap_lt' HL6.out.b3
      have sg : gb < w6.heap.size := Kd.N_lt HO6.out gb rfl
      clear hci2 hci3 hci4 hei hFI hwfl lI
      go_wp2
      go_quiet (fail)
      go_wp2
      go_quiet (fail)
      generalize hw9 : World.drewN _ _ = w9
      have hh9 : ∀ k : Nat, w9.heap[k]? = w6.heap[k]? := fun k => by rw [← hw9]; rfl
      have hs9 : w9.heap.size = w6.heap.size := by rw [← hw9]; rfl
      have hL9 : Laid w9 W.heap.size #[.slice (some ad0) nc c0, .slice (some ad1) nc c1, .slice A2 nr c2] #[.int .i64 1, .int .i64 id.f0, .int .i64 id.f1, .slice AP np cP, .int .i64 (i : Int), .int .i64 comp, .slice AD nd cD] := ⟨(hh9 _).trans HL6.out.b2, (hh9 _).trans HL6.out.b3, (hh9 _).trans HL6.out.b4, (hh9 _).trans HL6.out.b5⟩
      have HB9 := Aside0.mk (show Below W.heap.size W w9 by rw [← hw9]; exact (((Fr.of_below HB6.out None_).drewN _).drewN _).toBelow0)
      have HO9 := Aside0.mk (show Kd.N k100 100 w9 W.heap.size (fun k => (ok k ∧ k < W.heap.size) ∨ W0.heap.size ≤ k) (.slice (some ⟨gb, 0, none⟩) nr c6) rows by rw [← hw9]; exact Kd.N_drewN (Kd.N_drewN HO6.out _) _)
      have HF9 := Aside0.mk (show Kd.F k90 w9 (fun k => (ok k ∧ k < W.heap.size ∨ W0.heap.size ≤ k) ∧ k ≠ gb) AI nc ei.f1 by rw [← hw9, ← HWFL.out]; exact Kd.F_drewN (Kd.F_drewN HFI.out _) _)
      have s3 : W.heap.size + 1 < w9.heap.size := by omega
      have sg : gb < w9.heap.size := by omega
      have z34 : w9.cell? ⟨W.heap.size + 1, 4, none⟩ = some (.int .i64 (i : Int)) := (blk_cell hL9.b3 4).trans rfl
      have zx2 : w9.cell? ⟨gb, i * 3 + 2, none⟩ = some (.slice AI nc cI) := by rw [← hw9]; exact x2
      have HL9 := Aside0.mk hL9
      have hgbW := HGBW.out
      have HLN := Aside0.mk (show (([] : List Part_).length + nc) * 32 ≤ 140737488355328 by have := HCS.out; have := HNC.out; simp; omega)
      clear w20 w21 w22 w30 w34 w35 w36 x2 q40 q41 q42 q50 q51 q52 q53 q54 q55 f4 f5 hx0 hx1 hw9 hh9 hs9 hL9
      have HNA9 := Aside0.mk (show Kd.N k90 90 (w9.alloc (.cells #[] 90)) W.heap.size (fun k => ((ok k ∧ k < W.heap.size) ∨ W0.heap.size ≤ k) ∧ k ≠ gb) (.slice (some ⟨w9.heap.size, 0, none⟩) 0 0) [] from N_empty (by simpa using heap_alloc_new w9 (.cells #[] 90)) HB9.out.size ⟨.inr (by omega), by omega⟩)
      have hWa9 : Below w9.heap.size w9 (w9.alloc (.cells #[] 90)) := (Below.refl _ _).alloc (Nat.le_refl _) _
      have HFA9 := Aside0.mk (show Kd.F k90 (w9.alloc (.cells #[] 90)) (fun k => ((ok k ∧ k < W.heap.size ∨ W0.heap.size ≤ k) ∧ k ≠ gb) ∧ k < w9.heap.size) AI nc ei.f1 from Kd.F_step (Kd.F_bound HF9.out) (fun k hk hlt => hWa9.block k hk.2))
      have HBA9 := Aside0.mk (show Below W.heap.size W (w9.alloc (.cells #[] 90)) from ((Fr.of_below HB9.out None_).below_ hWa9).toBelow0)
      clear hWa9
      go_wp2_with (first | ((with_reducible refine gate_builtin (b := .append) (xs := #[.tmp 125, .tmp 131]) rfl ?_); at_builtin; refine Kd.N_append_rows k90 (w0 := W) W.heap.size rfl (.tmp 125) (.tmp 131) 38 90 (.agg #[.int .i64 0, .slice none 0 0]) 32 rfl Tryd.underlying38 infoPart rfl (by decide) (by omega) (.slice (some ⟨w9.heap.size, 0, none⟩) 0 0) [] ei.f1 AI nc cI (fun k => ((ok k ∧ k < W.heap.size) ∨ W0.heap.size ≤ k) ∧ k ≠ gb) (fun k => ((ok k ∧ k < W.heap.size ∨ W0.heap.size ≤ k) ∧ k ≠ gb) ∧ k < w9.heap.size) rfl rfl HNA9.out HFA9.out ?bQ ?bF HBA9.out ?bS HLN.out ?_))
      case bQ => exact fun k hk => ⟨hk.1, fun e => by simp [Value.ownBlock] at e; have := hk.2; omega⟩
      case bF => exact fun k hk => ⟨.inr (by simp at hk; omega), by simp at hk; omega⟩
      case bS => exact HBA9.out.size
      intro v1 w10 ho hb10 hg10 hat10
      replace ho : Kd.N k90 90 w10 W.heap.size (fun k => ((ok k ∧ k < W.heap.size) ∨ W0.heap.size ≤ k) ∧ k ≠ gb) v1 ei.f1 := ho
      obtain ⟨gp, cp, ev, hgp0, hgpl, csp, hcsp⟩ := Kd.N_form ho (by rw [HWFL.out]; omega)
      rw [HWFL.out] at ev
      subst ev
      have hold10 : ∀ k : Nat, k < w9.heap.size → w10.heap[k]? = w9.heap[k]? := fun k hk => (hg10.block k (by simp; omega) (by simp [Value.ownBlock]; omega)).trans (((Below.refl _ w9).alloc (Nat.le_refl _) _).block k hk)
      have hgpW : w9.heap.size ≤ gp := by
        rcases hat10 with e | ⟨b, e, hb⟩
        · simp [Value.ownBlock] at e; omega
        · have e' : gp = b := by simpa [Value.ownBlock] using e
          have hs : (w9.alloc (.cells #[] 90)).heap.size = w9.heap.size + 1 := by simp
          omega
      have hL10 : Laid w10 W.heap.size #[.slice (some ad0) nc c0, .slice (some ad1) nc c1, .slice A2 nr c2] #[.int .i64 1, .int .i64 id.f0, .int .i64 id.f1, .slice AP np cP, .int .i64 (i : Int), .int .i64 comp, .slice AD nd cD] := ⟨(hold10 _ (heap_lt' HL9.out.b2)).trans HL9.out.b2, (hold10 _ (heap_lt' HL9.out.b3)).trans HL9.out.b3, (hold10 _ (heap_lt' HL9.out.b4)).trans HL9.out.b4, (hold10 _ (heap_lt' HL9.out.b5)).trans HL9.out.b5⟩
      have hNr := Kd.N_step (Kd.N_bound HO9.out) (w1 := w10) (fun k hk hlt => hold10 k hlt)
      have hFd := old_F HHD.out (fun k hk => hb10.block k hk)
      have HL10 := Aside0.mk hL10
      have HP10 := Aside0.mk ho
      have HR10 := Aside0.mk hNr
      have HD10 := Aside0.mk hFd
      have HB10 := Aside0.mk hb10
      have HGP := Aside0.mk (And.intro hgpW sg)
      obtain ⟨cj, hcj1, hcj2, hcj3, hcj4⟩ := Kd.N_elem ho z90 (j : Int) r0 r1
      obtain ⟨AJ, cJ, rfl, _, _⟩ := k90_openF hcj2
      obtain ⟨ck, hck1, hck2, hck3, hck4⟩ := Kd.N_elem hNr z100 (i : Int) p1 p2
      obtain ⟨AK, cK, rfl, _, _⟩ := k100_openF hck2
      simp only [Int.toNat_natCast] at hcj3 hcj4 hck3 hck4
      obtain ⟨nK, hnK⟩ : ∃ n, (rows.getD i z100).f1.length = n := ⟨_, rfl⟩
      rw [hnK] at hck3
      obtain ⟨nJ, hnJ⟩ : ∃ n, (ei.f1.getD j z90).f1.length = n := ⟨_, rfl⟩
      rw [hnJ] at hcj3
      have x1 : w10.cell? ⟨gp, j * 2 + 1, none⟩ = some _ := hcj3 1 _ rfl
      have x2 : w10.cell? ⟨gb, i * 3 + 2, none⟩ = some _ := hck3 2 _ rfl
      have fp : w10.frozen? ⟨gp, j * 2 + 1, none⟩ = false := hcj4 1
      have fb : w10.frozen? ⟨gb, i * 3 + 2, none⟩ = false := hck4 2
      have hb4 := hL10.b4
      have hb5 := hL10.b5
      have q40 : w10.cell? ⟨W.heap.size + 1 + 1, 0, none⟩ = some (.slice none 0 0) := (blk_cell hb4 0).trans rfl
      have q41 : w10.cell? ⟨W.heap.size + 1 + 1, 1, none⟩ = some (.slice none 0 0) := (blk_cell hb4 1).trans rfl
      have q42 : w10.cell? ⟨W.heap.size + 1 + 1, 2, none⟩ = some (.slice none 0 0) := (blk_cell hb4 2).trans rfl
      have q50 : w10.cell? ⟨W.heap.size + 1 + 1 + 1, 0, none⟩ = some (.slice none 0 0) := (blk_cell hb5 0).trans rfl
      have q51 : w10.cell? ⟨W.heap.size + 1 + 1 + 1, 1, none⟩ = some (.slice none 0 0) := (blk_cell hb5 1).trans rfl
      have q52 : w10.cell? ⟨W.heap.size + 1 + 1 + 1, 2, none⟩ = some (.int .i64 0) := (blk_cell hb5 2).trans rfl
      have q53 : w10.cell? ⟨W.heap.size + 1 + 1 + 1, 3, none⟩ = some (.int .i64 0) := (blk_cell hb5 3).trans rfl
      have q54 : w10.cell? ⟨W.heap.size + 1 + 1 + 1, 4, none⟩ = some (.bool false) := (blk_cell hb5 4).trans rfl
      have q55 : w10.cell? ⟨W.heap.size + 1 + 1 + 1, 5, none⟩ = some (.int .i64 0) := (blk_cell hb5 5).trans rfl
      have f4 := blk_frozen hb4
      have f5 := blk_frozen hb5
      have w20 : w10.cell? ⟨W.heap.size, 0, none⟩ = some (.slice (some ad0) nc c0) := (blk_cell hL10.b2 0).trans rfl
      have w21 : w10.cell? ⟨W.heap.size, 1, none⟩ = some (.slice (some ad1) nc c1) := (blk_cell hL10.b2 1).trans rfl
      have w22 : w10.cell? ⟨W.heap.size, 2, none⟩ = some (.slice A2 nr c2) := (blk_cell hL10.b2 2).trans rfl
      have w34 : w10.cell? ⟨W.heap.size + 1, 4, none⟩ = some (.int .i64 (i : Int)) := (blk_cell hL10.b3 4).trans rfl
      have w36 : w10.cell? ⟨W.heap.size + 1, 6, none⟩ = some (.slice AD nd cD) := (blk_cell hL10.b3 6).trans rfl
      have w2f := blk_frozen hL10.b2 2
      have hzq := HSZ.out
      have d1 : gb ≠ W.heap.size + 1 + 1 := by omega
      have d2 : gb ≠ W.heap.size + 1 + 1 + 1 := by omega
      have d3 : gb ≠ W.heap.size := by omega
      have d4 : gb ≠ W.heap.size + 1 := by omega
      have d5 : gp ≠ W.heap.size + 1 + 1 := by omega
      have d6 : gp ≠ W.heap.size + 1 + 1 + 1 := by omega
      have d7 : gp ≠ W.heap.size := by omega
      have d8 : gp ≠ W.heap.size + 1 := by omega
      have d9 : gb ≠ gp := by omega
      have d1' := Ne.symm d1
      have d2' := Ne.symm d2
      have d3' := Ne.symm d3
      have d4' := Ne.symm d4
      have d5' := Ne.symm d5
      have d6' := Ne.symm d6
      have d7' := Ne.symm d7
      have d8' := Ne.symm d8
      have d9' := Ne.symm d9
      clear hcj1 hcj2 hcj3 hcj4 hck1 hck2 hck3 hck4 hnK hnJ hcsp hb4 hb5 hL10 hNr hFd hb10 hgpW ho hg10 hat10 hold10 hgp0 hgpl z34 zx2 hzq hgbW sg s3
      go_wp2
      have hgq := HGP.out
      have hg0 := HGBW.out
      have hs0 := HSZ.out
      have hcp := (Kd.N_reads' HP10.out).2.1
      have hNA := part_put (ds := ds) (AL := AD) (nL := nd) (cL := cD) HP10.out hlt (Kd.F_mono HD10.out (fun k hk => ⟨⟨.inl hk, by have := hk.2; omega⟩, by have := hk.2; omega⟩)) HND.out (by rw [← HND.out]; exact HLD.out)
      have hRA := Kd.N_far (p := ⟨gp, j * 2 + 1, none⟩) HR10.out (fun k hk e => by have e : k = gp := e; have := hk.2; omega) (.slice AD nd cD)
      have hbA : Below W.heap.size W (w10.setCell ⟨gp, j * 2 + 1, none⟩ (.slice AD nd cD)) := (((Fr.of_below HB10.out None_).setCell (p := ⟨gp, j * 2 + 1, none⟩) (.inr (by show W.heap.size ≤ gp; omega)) _).toBelow0)
      have hA4 := (Below.heap_setCell w10 ⟨gp, j * 2 + 1, none⟩ (.slice AD nd cD) (W.heap.size + 1 + 1) d5').trans HL10.out.b4
      have hA5 := (Below.heap_setCell w10 ⟨gp, j * 2 + 1, none⟩ (.slice AD nd cD) (W.heap.size + 1 + 1 + 1) d6').trans HL10.out.b5
      obtain ⟨wA, hwA⟩ : ∃ wA, w10.setCell ⟨gp, j * 2 + 1, none⟩ (.slice AD nd cD) = wA := ⟨_, rfl⟩
      rw [hwA] at hNA hRA hbA hA4 hA5 ⊢
      have hNB := row_put2 (i := i) (okT := fun k => (ok k ∧ k < W.heap.size) ∨ W0.heap.size ≤ k) (pl := ei.f1.set j ⟨(ei.f1.getD j z90).f0, ds⟩) (nL := nc) (cL := cp) (Kd.N_mono hRA (fun k hk => hk.1)) p3 (by have h9 := Kd.N_F hNA; rw [List.length_set, HWFL.out]; exact h9) (by rw [List.length_set, HWFL.out]) hcp
      have hbB : Below W.heap.size W (wA.setCell ⟨gb, i * 3 + 2, none⟩ (.slice (some ⟨gp, 0, none⟩) nc cp)) := (((Fr.of_below hbA None_).setCell (p := ⟨gb, i * 3 + 2, none⟩) (.inr (by show W.heap.size ≤ gb; omega)) _).toBelow0)
      have hB4 := (Below.heap_setCell wA ⟨gb, i * 3 + 2, none⟩ (.slice (some ⟨gp, 0, none⟩) nc cp) (W.heap.size + 1 + 1) d1').trans hA4
      have hB5 := (Below.heap_setCell wA ⟨gb, i * 3 + 2, none⟩ (.slice (some ⟨gp, 0, none⟩) nc cp) (W.heap.size + 1 + 1 + 1) d2').trans hA5
      obtain ⟨wB, hwB⟩ : ∃ wB, wA.setCell ⟨gb, i * 3 + 2, none⟩ (.slice (some ⟨gp, 0, none⟩) nc cp) = wB := ⟨_, rfl⟩
      rw [hwB] at hNB hbB hB4 hB5 ⊢
      have hE : rows.set i ⟨(rows.getD i z100).f0, ei.f1.set j ⟨(ei.f1.getD j z90).f0, ds⟩⟩ = RR := by rw [← HRR.out, HEI.out]
      rw [hE] at hNB
      have hRL : RR.length = nr := by rw [← HRR.out, List.length_set, HNR.out]
      obtain ⟨t4, t5, tf⟩ := told_world (w := wB.setCell ⟨W.heap.size, 2, none⟩ (.slice (some ⟨gb, 0, none⟩) nr c6)) ((Below.heap_setCell _ _ _ _ (by show W.heap.size + 1 + 1 ≠ W.heap.size; omega)).trans hB4) ((Below.heap_setCell _ _ _ _ (by show W.heap.size + 1 + 1 + 1 ≠ W.heap.size; omega)).trans hB5) (by omega) _ rfl
      refine bodyPost_ret (results_cell2_row rfl _ _ _ _ _ _ _ _ _ _ _ _ rfl rfl t4 t5 hu35 rfl (by kernel_rfl) hu42 rfl (by kernel_rfl)) rfl ?_
      exact go_set_end hbB HSZ.out hNB hRL tf rfl rfl (IsTold.err 0)
    · have hne : rd cs (j : Int) ≠ comp := H7.out j (by have := H.out.2; omega)
      obtain ⟨x, hxx⟩ : ∃ x, rd cs (j : Int) = x := ⟨_, rfl⟩
      rw [hxx] at hx0 hne
      have hq : (x != comp) = true := by simp [hne]
      obtain ⟨k1, hk1⟩ : ∃ k1, gk = k1 + 1 := ⟨gk - 1, by have := H.out.1; omega⟩
      have HH := Aside0.mk (show (j + 1) + k1 = nc ∧ j + 1 ≤ k0 by have := H.out; omega)
      have hnc64 : nc ≤ 64 := by have := HCS.out; have := HNC.out; omega
      subst hk1
      clear hxx hne H r1' hjk
      go_wp2
      go_quiet (fail)
      go_wp2
      go_roundg k1
      case measure => omega
      case rel => exact ⟨j + 1, _, by go_num, rfl, HH⟩

end Go.Proofs.YtnhejenjpomhdaaDoor.Ref
