/- The reference table (vivariumref09): how its values lie; add. -/
import Derived.Test.YtnhejenjpomhdaaDoorTsAdd
import Derived.Test.YtnhejenjpomhdaaDoorTsTNew
namespace Go.Proofs.YtnhejenjpomhdaaDoor.Ref
open Go.RowKit Go.Proofs.YtnhejenjpomhdaaDoorW.PrintWords Go.Proofs.YtnhejenjpomhdaaDoorW.PrintLast Go.Proofs.YtnhejenjpomhdaaDoorW.PrintMore Go.Proofs.YtnhejenjpomhdaaDoor.Mem Go.Proofs.YtnhejenjpomhdaaDoor.Col Go.Proofs.YtnhejenjpomhdaaDoor.Bits Go.Proofs.YtnhejenjpomhdaaDoor.Data Go.Proofs.YtnhejenjpomhdaaDoor.Mp Go.Proofs.YtnhejenjpomhdaaDoor.Tab Go.Proofs.YtnhejenjpomhdaaDoor.PTableLoads
set_option linter.unusedVariables false
set_option linter.unusedSimpArgs false

abbrev Ent_ := S100
theorem infoEnt : (Tryd.prog.info? 100).map (fun i => (i.zero, i.size, i.bytes)) = some (some (.agg #[.int .i64 0, .int .i64 0, .slice none 0 0]), 3, 40) := by kernel_rfl

theorem results_cell2_row {P : Program} {fn : Func} {p q : Tmp} {ty ty' : TypeId} (h : fn.results = #[.cell p ty, .cell q ty']) (tmps : Array Value) (w : World) (g g' : Nat) (t t' : TypeId) (cs cs' : Array Value) (fr fr' : Nat × Nat) (d d' : TypeDesc)
    (hp : tmps.getD p undef = .pointer (some ⟨g, 0, none⟩)) (hq : tmps.getD q undef = .pointer (some ⟨g', 0, none⟩)) (hg : w.heap[g]? = some (.cells cs t fr)) (hg' : w.heap[g']? = some (.cells cs' t' fr'))
    (hu : P.underlying ty = some d) (hd : (match d with | .struct _ | .array _ _ => true | _ => false) = true) (hi : (P.info? ty).map (·.size) = some cs.size)
    (hu' : P.underlying ty' = some d') (hd' : (match d' with | .struct _ | .array _ _ => true | _ => false) = true) (hi' : (P.info? ty').map (·.size) = some cs'.size) :
    (results fn tmps).run P w = .ok (.tuple #[.agg cs, .agg cs']) w := by
  have hp' : tmps[p]?.getD undef = .pointer (some ⟨g, 0, none⟩) := by simpa using hp
  have hq' : tmps[q]?.getD undef = .pointer (some ⟨g', 0, none⟩) := by simpa using hq
  simp [results, h, hp', hq', asAddr, run_loadVar_row w g t ty cs fr d hg hu hd hi, run_loadVar_row w g' t' ty' cs' fr' d' hg' hu' hd' hi']

/-- The row of parts that 'add' lays: each component's data. -/
def newParts (cs : List Int) (z : Int → Nat) (ps : List Part_) : List Part_ := cs.map fun k => ⟨k, dataL ps k (z k)⟩
def fitsR (cs : List Int) (z : Int → Nat) (ps : List Part_) : Prop := ∀ k, k ∈ cs → (dataL ps k (z k)).length = z k
open Classical in
noncomputable def addRE (cs : List Int) (z : Int → Nat) (rows : List Ent_) (ps : List Part_) : Int := if rows.length = 1024 then 9 else if fitsR cs z ps then 0 else 7
open Classical in
noncomputable def addRR (cs : List Int) (z : Int → Nat) (rows : List Ent_) (id : ID_) (ps : List Part_) : List Ent_ := if addRE cs z rows ps = 0 then rows ++ [⟨id, newParts cs z ps⟩] else rows

/-- B.Cut(nil, n) is n zeros. -/
theorem cut_l0 (n : Nat) (hn : n ≤ 64) : ∀ k i : Nat, i ≤ n → n - i < k → vivariumref01_Cut.l0 k [] (n : Int) (List.replicate i 0) (i : Int) = some (List.replicate n 0)
  | 0, i, _, h => by omega
  | k + 1, i, hi, h => by
    unfold vivariumref01_Cut.l0
    by_cases hlt : i < n
    · have e : wrap64 ((i : Int) + 1) = ((i + 1 : Nat) : Int) := by unfold wrap64; omega
      rw [if_pos (by omega), if_neg (by simp), if_pos (by simp; omega), e, ← List.replicate_succ']
      exact cut_l0 n hn k (i + 1) (by omega) (by omega)
    · have : i = n := by omega
      subst this
      rw [if_neg (by omega)]
theorem cut_f (n : Nat) (hn : n ≤ 64) : vivariumref01_Cut.f 67 [] (n : Int) = some (List.replicate n 0) := by
  have h1 := cut_l0 n hn 65 0 (by omega) (by omega)
  unfold vivariumref01_Cut.f
  rw [if_neg (by omega)]
  exact cut_l0 n hn 66 0 (by omega) (by omega)

theorem dataL_nil (k : Int) (n : Nat) : dataL [] k n = List.replicate n 0 := rfl
theorem dataL_drop (ps : List Part_) (k : Int) (n : Nat) {i : Nat} (h : i < ps.length) : dataL (ps.drop i) k n = if (ps.getD i z90).f0 = k then (ps.getD i z90).f1 else dataL (ps.drop (i + 1)) k n := by
  have e : ps.drop i = ps.getD i z90 :: ps.drop (i + 1) := by
    rw [List.drop_eq_getElem_cons h]
    simp [List.getD_eq_getElem?_getD, List.getElem?_eq_getElem h]
  rw [e]
  unfold dataL
  rw [List.find?_cons]
  by_cases hk : (ps.getD i z90).f0 = k
  · have : ((ps.getD i z90).f0 == k) = true := by rw [hk]; simp
    rw [this, if_pos hk]
  · have : ((ps.getD i z90).f0 == k) = false := by simpa using hk
    rw [this, if_neg hk]

/-- The four blocks that add and Go lay first. -/
structure Laid (W0 : World) (g : Nat) (c35 c45 : Array Value) : Prop where
  b2 : W0.heap[g]? = some (.cells c35 35 (0, 0))
  b3 : W0.heap[g + 1]? = some (.cells c45 45 (0, 0))
  b4 : W0.heap[g + 1 + 1]? = some (.cells #[.slice none 0 0, .slice none 0 0, .slice none 0 0] 35 (0, 0))
  b5 : W0.heap[g + 1 + 1 + 1]? = some (.cells #[.slice none 0 0, .slice none 0 0, .int .i64 0, .int .i64 0, .bool false, .int .i64 0] 42 (0, 0))
theorem laid (W : World) (c35 c45 : Array Value) : Laid ((((W.alloc (.cells c35 35)).alloc (.cells c45 45)).alloc (.cells #[.slice none 0 0, .slice none 0 0, .slice none 0 0] 35)).alloc (.cells #[.slice none 0 0, .slice none 0 0, .int .i64 0, .int .i64 0, .bool false, .int .i64 0] 42)) W.heap.size c35 c45 := by
  have e1 := heap_alloc_new W (.cells c35 35)
  obtain ⟨w1, h1⟩ : ∃ w1, W.alloc (.cells c35 35) = w1 := ⟨_, rfl⟩
  have s1 : w1.heap.size = W.heap.size + 1 := by rw [← h1]; simp
  rw [h1] at e1 ⊢
  have e2 := heap_alloc_new w1 (.cells c45 45)
  have b2 := (Below.refl w1.heap.size w1).alloc (Nat.le_refl _) (.cells c45 45)
  obtain ⟨w2, h2⟩ : ∃ w2, w1.alloc (.cells c45 45) = w2 := ⟨_, rfl⟩
  have s2 : w2.heap.size = w1.heap.size + 1 := by rw [← h2]; simp
  rw [h2] at e2 b2 ⊢
  have e3 := heap_alloc_new w2 (.cells #[.slice none 0 0, .slice none 0 0, .slice none 0 0] 35)
  have b3 := (Below.refl w2.heap.size w2).alloc (Nat.le_refl _) (.cells #[.slice none 0 0, .slice none 0 0, .slice none 0 0] 35)
  obtain ⟨w3, h3⟩ : ∃ w3, w2.alloc (.cells #[.slice none 0 0, .slice none 0 0, .slice none 0 0] 35) = w3 := ⟨_, rfl⟩
  have s3 : w3.heap.size = w2.heap.size + 1 := by rw [← h3]; simp
  rw [h3] at e3 b3 ⊢
  have e4 := heap_alloc_new w3 (.cells #[.slice none 0 0, .slice none 0 0, .int .i64 0, .int .i64 0, .bool false, .int .i64 0] 42)
  have b4 := (Below.refl w3.heap.size w3).alloc (Nat.le_refl _) (.cells #[.slice none 0 0, .slice none 0 0, .int .i64 0, .int .i64 0, .bool false, .int .i64 0] 42)
  rw [s3, s2, s1] at e4
  rw [s2, s1] at e3
  rw [s1] at e2
  exact ⟨(b4.block _ (by omega)).trans ((b3.block _ (by omega)).trans ((b2.block _ (by omega)).trans e1)), (b4.block _ (by omega)).trans ((b3.block _ (by omega)).trans e2), (b4.block _ (by omega)).trans e3, e4⟩
/-- What is told, laid down. -/
theorem told_world {w : World} {g4 g5 : Nat} {a0 a1 a2 b0 b1 b2 b3 b4 b5 x0 x1 x2 y0 y1 y2 y3 y4 y5 : Value} (h4 : w.heap[g4]? = some (.cells #[a0, a1, a2] 35 (0, 0))) (h5 : w.heap[g5]? = some (.cells #[b0, b1, b2, b3, b4, b5] 42 (0, 0))) (hne : g4 ≠ g5) :
    ∀ w', (((((((((w.setCell ⟨g4, 0, none⟩ x0).setCell ⟨g4, 1, none⟩ x1).setCell ⟨g4, 2, none⟩ x2).setCell ⟨g5, 0, none⟩ y0).setCell ⟨g5, 1, none⟩ y1).setCell ⟨g5, 2, none⟩ y2).setCell ⟨g5, 3, none⟩ y3).setCell ⟨g5, 4, none⟩ y4).setCell ⟨g5, 5, none⟩ y5) = w' →
    w'.heap[g4]? = some (.cells #[x0, x1, x2] 35 (0, 0)) ∧ w'.heap[g5]? = some (.cells #[y0, y1, y2, y3, y4, y5] 42 (0, 0)) ∧ Fr (fun k => k = g4 ∨ k = g5) w w' := by
  rintro w' rfl
  have k4 := blk_set (blk_set (blk_set h4 0 x0) 1 x1) 2 x2
  have k5 : (((w.setCell ⟨g4, 0, none⟩ x0).setCell ⟨g4, 1, none⟩ x1).setCell ⟨g4, 2, none⟩ x2).heap[g5]? = _ := ((Below.heap_setCell _ _ _ _ (Ne.symm hne)).trans ((Below.heap_setCell _ _ _ _ (Ne.symm hne)).trans (Below.heap_setCell _ _ _ _ (Ne.symm hne)))).trans h5
  have k6 := blk_set (blk_set (blk_set (blk_set (blk_set (blk_set k5 0 y0) 1 y1) 2 y2) 3 y3) 4 y4) 5 y5
  refine ⟨?_, by simpa using k6, ?_⟩
  · rw [Below.heap_setCell _ _ _ _ hne, Below.heap_setCell _ _ _ _ hne, Below.heap_setCell _ _ _ _ hne, Below.heap_setCell _ _ _ _ hne, Below.heap_setCell _ _ _ _ hne, Below.heap_setCell _ _ _ _ hne]
    simpa using k4
  · exact (((((((((Fr.refl _ w).setCell (.inl (.inl rfl)) x0).setCell (.inl (.inl rfl)) x1).setCell (.inl (.inl rfl)) x2).setCell (.inl (.inr rfl)) y0).setCell (.inl (.inr rfl)) y1).setCell (.inl (.inr rfl)) y2).setCell (.inl (.inr rfl)) y3).setCell (.inl (.inr rfl)) y4).setCell (.inl (.inr rfl)) y5
theorem laid_below (W : World) (a b c d : Obj) : Below W.heap.size W ((((W.alloc a).alloc b).alloc c).alloc d) := ((((Below.refl _ _).alloc (Nat.le_refl _) _).alloc (by simp) _).alloc (by simp; omega) _).alloc (by simp; omega) _

theorem old_F {α : Type} {d : Kd α} {W wr : World} {ok : Nat → Prop} {A : Option Addr} {n : Nat} {xs : List α} (h : Kd.F d W ok A n xs) (hm : ∀ k, k < W.heap.size → wr.heap[k]? = W.heap[k]?) : Kd.F d wr (fun k => ok k ∧ k < W.heap.size) A n xs := Kd.F_step (Kd.F_bound h) (fun k hk _ => hm k hk.2)

theorem part_FK {W : World} {ok : Nat → Prop} {x : Int} {D : List Int} {A : Option Addr} {n c : Nat} (h1 : n ≤ c) (h2 : D.length = n) (h : Kd.F (Kd.int .u8) W ok A n D) : Kd.FK k90 W ok (⟨x, D⟩ : Part_) [.int .i64 x, .slice A n c] := by
  subst h2
  exact k90_mkF W ok (⟨x, D⟩ : Part_) h1 h

theorem fitsR_next {ys : List Int} {z : Int → Nat} {ps : List Part_} {x : Int} {xs : List Int} (h : fitsR xs z ps) (hk : (dataL ps x (z x)).length = z x) (hy : xs ++ [x] = ys) : fitsR ys z ps := by
  subst hy
  intro k hm
  rcases List.mem_append.1 hm with h1 | h1
  · exact h k h1
  · rw [List.mem_singleton.1 h1]; exact hk

/-- A part more is laid. -/
theorem radd_round {W W0 w5 wr wc w6 : World} {ok : Nat → Prop} {xs ys : List Int} {z : Int → Nat} {ps : List Part_} {AV A6 : Option Addr} {nV cV n6 c6 m : Nat} {x : Int} {dn : Nat} {a b v0 : Value}
    (hN : Kd.N k90 90 wr W.heap.size (fun k => (ok k ∧ k < W.heap.size) ∨ w5.heap.size ≤ k) (.slice AV nV cV) (newParts xs z ps)) (hR : Fr (fun k => k = W0.heap.size) w5 wr) (hB : Below wr.heap.size wr wc) (hF : fitsR xs z ps)
    (hP : Kd.N k90 90 w6 W.heap.size (fun k => (ok k ∧ k < W.heap.size) ∨ w5.heap.size ≤ k) (.slice A6 n6 c6) (newParts xs z ps ++ [(⟨x, dataL ps x dn⟩ : Part_)]) ∧ (wc.drewN (m + 1)).grownBy w6 (Value.slice AV nV cV).ownBlock ∧ ((Value.slice A6 n6 c6).ownBlock = (Value.slice AV nV cV).ownBlock ∨ ∃ b, (Value.slice A6 n6 c6).ownBlock = some b ∧ (wc.drewN (m + 1)).heap.size ≤ b))
    (h6 : w6.heap[W0.heap.size]? = some (.cells #[a, b, v0] 100 (0, 0))) (hB5 : Below W0.heap.size W0 w5) (hG : W0.heap.size = W.heap.size + 1 + 1 + 1 + 1) (hS : w5.heap.size = W0.heap.size + 1) (hz : z x = dn) (hd : (dataL ps x dn).length = dn) (hy : xs ++ [x] = ys) :
    fitsR ys z ps ∧ Kd.N k90 90 (w6.setCell ⟨W0.heap.size, 2, none⟩ (.slice A6 n6 c6)) W.heap.size (fun k => (ok k ∧ k < W.heap.size) ∨ w5.heap.size ≤ k) (.slice A6 n6 c6) (newParts ys z ps) ∧
      (w6.setCell ⟨W0.heap.size, 2, none⟩ (.slice A6 n6 c6)).heap[W0.heap.size]? = some (.cells #[a, b, .slice A6 n6 c6] 100 (0, 0)) ∧ Fr (fun k => k = W0.heap.size) w5 (w6.setCell ⟨W0.heap.size, 2, none⟩ (.slice A6 n6 c6)) := by
  subst hy
  have hVO := hN.1
  have hVB := Kd.N_base hN
  have e : newParts (xs ++ [x]) z ps = newParts xs z ps ++ [(⟨x, dataL ps x dn⟩ : Part_)] := by unfold newParts; rw [List.map_append, List.map_singleton, hz]
  refine ⟨fitsR_next hF (by rw [hz]; exact hd) rfl, ?_, by simpa using blk_set h6 2 (.slice A6 n6 c6), ?_⟩
  · rw [e]
    exact Kd.N_far (p := ⟨W0.heap.size, 2, none⟩) hP.1 (fun k hk e => by have e : k = W0.heap.size := e; rcases hk with hk | hk <;> omega) _
  · exact (((hR.below_ hB).drewN (m + 1)).grown hP.2.1 (fun k hk => by have h1 := hVO k hk; have h2 := hVB k hk; rcases h1 with h1 | h1; omega; exact .inr h1)).setCell (p := ⟨W0.heap.size, 2, none⟩) (.inl rfl) _

theorem ent_FK {W : World} {base : Nat} {ok : Nat → Prop} {id : ID_} {ps : List Part_} {A : Option Addr} {n c : Nat} (h : Kd.N k90 90 W base ok (.slice A n c) ps) (hn : ps.length = n) : Kd.FK k100 W ok (⟨id, ps⟩ : Ent_) [.int .i64 id.f0, .int .i64 id.f1, .slice A n c] := by
  subst hn
  exact k100_mkF W ok (⟨id, ps⟩ : Ent_) (Kd.N_reads' h).2.1 (Kd.N_F h)
theorem F_one {α : Type} {d : Kd α} {W : World} {okp : Nat → Prop} {q e : Nat} {x : α} {cs : List Value} {arr : Array Value} (hq : W.heap[q]? = some (.cells arr e (0, 0))) (h : Kd.FK d W okp x cs) (ha : arr.toList = cs := by rfl) : Kd.F d W (fun k => okp k ∨ k = q) (some ⟨q, 0, none⟩) 1 [x] := by
  intro W' hW
  have h1 : W'.heap[q]? = some (.cells arr e (0, 0)) := (hW q (.inr rfl) (heap_lt' hq)).trans hq
  have hK := h W' (fun k hk hlt => hW k (.inl hk) hlt)
  refine ⟨rfl, by decide, fun _ => ⟨⟨q, 0, none⟩, rfl, fun j p hj => ?_⟩⟩
  rcases j with _ | j
  · simp at hj
    subst hj
    refine ⟨cs, d.K_len hK, hK, fun i u hu => ?_⟩
    rw [add_plain, cell_of_row W' q _ arr e (0, 0) h1, ← Array.getElem?_toList, ha]
    simpa using hu
  · simp at hj
theorem N_empty {α : Type} {d : Kd α} {W : World} {base e q : Nat} {ok : Nat → Prop} (hq : W.heap[q]? = some (.cells #[] e (0, 0))) (hb : base ≤ q) (hok : ok q) : Kd.N d e W base ok (.slice (some ⟨q, 0, none⟩) 0 0) [] := by
  refine Kd.R_N ⟨fun k hk => ?_, [], ⟨by simp, .inr ⟨q, 0, #[], rfl, hb, hq, Nat.le_refl _, by decide, by simp, by simp⟩⟩, Reps.none _ _⟩
  have e : q = k := by simpa [Value.ownBlock] using hk
  subst e
  exact hok

theorem radd_end {W wr w7 w5 : World} {ok : Nat → Prop} {A0 A1 A2 A7 : Option Addr} {nc c0 c1 nr c2 n7 c7 : Nat} {xs : List Ent_}
    (hN : Kd.N k100 100 w7 W.heap.size (fun k => (ok k ∧ k < W.heap.size) ∨ w5.heap.size ≤ k) (.slice A7 n7 c7) xs) (hold : ∀ k, k < wr.heap.size → w7.heap[k]? = wr.heap[k]?) (hb7 : Below W.heap.size W w7) (hbw : Below W.heap.size W wr)
    (hb2 : wr.heap[W.heap.size]? = some (.cells #[.slice A0 nc c0, .slice A1 nc c1, .slice A2 nr c2] 35 (0, 0)))
    (hb4 : wr.heap[W.heap.size + 1 + 1]? = some (.cells #[.slice none 0 0, .slice none 0 0, .slice none 0 0] 35 (0, 0)))
    (hb5 : wr.heap[W.heap.size + 1 + 1 + 1]? = some (.cells #[.slice none 0 0, .slice none 0 0, .int .i64 0, .int .i64 0, .bool false, .int .i64 0] 42 (0, 0))) (hs : w5.heap.size ≤ wr.heap.size) (hs0 : W.heap.size + 1 + 1 + 1 < w5.heap.size) :
    ∀ w', (((((((((( w7.setCell ⟨W.heap.size, 2, none⟩ (.slice A7 n7 c7)).setCell ⟨W.heap.size + 1 + 1, 0, none⟩ (.slice A0 nc c0)).setCell ⟨W.heap.size + 1 + 1, 1, none⟩ (.slice A1 nc c1)).setCell ⟨W.heap.size + 1 + 1, 2, none⟩ (.slice A7 n7 c7)).setCell ⟨W.heap.size + 1 + 1 + 1, 0, none⟩ (.slice none 0 0)).setCell ⟨W.heap.size + 1 + 1 + 1, 1, none⟩ (.slice none 0 0)).setCell ⟨W.heap.size + 1 + 1 + 1, 2, none⟩ (.int .i64 0)).setCell ⟨W.heap.size + 1 + 1 + 1, 3, none⟩ (.int .i64 0)).setCell ⟨W.heap.size + 1 + 1 + 1, 4, none⟩ (.bool false)).setCell ⟨W.heap.size + 1 + 1 + 1, 5, none⟩ (.int .i64 0)) = w' →
      w'.heap[W.heap.size + 1 + 1]? = some (.cells #[.slice A0 nc c0, .slice A1 nc c1, .slice A7 n7 c7] 35 (0, 0)) ∧ w'.heap[W.heap.size + 1 + 1 + 1]? = some (.cells #[.slice none 0 0, .slice none 0 0, .int .i64 0, .int .i64 0, .bool false, .int .i64 0] 42 (0, 0)) ∧
        n7 ≤ c7 ∧ Kd.F k100 w' (fun k => (ok k ∧ k < W.heap.size) ∨ W.heap.size ≤ k) A7 n7 xs ∧ Below W.heap.size W w' := by
  intro w' hw
  have h4 := (hold _ (heap_lt' hb4)).trans hb4
  have h5 := (hold _ (heap_lt' hb5)).trans hb5
  obtain ⟨t4, t5, tf⟩ := told_world (w := w7.setCell ⟨W.heap.size, 2, none⟩ (.slice A7 n7 c7)) ((Below.heap_setCell _ _ _ _ (by show W.heap.size + 1 + 1 ≠ W.heap.size; omega)).trans h4) ((Below.heap_setCell _ _ _ _ (by show W.heap.size + 1 + 1 + 1 ≠ W.heap.size; omega)).trans h5) (by omega) w' hw
  have hN7 := Kd.N_far (p := ⟨W.heap.size, 2, none⟩) hN (fun k hk e => by have e : k = W.heap.size := e; rcases hk with hk | hk <;> omega) (.slice A7 n7 c7)
  have hN8 := Kd.N_step hN7 (w1 := w') (fun k hk hlt => tf.block k hlt (fun e => by rcases hk with hk | hk <;> rcases e with e | e <;> omega))
  refine ⟨t4, t5, (Kd.N_reads' hN).2.1, ?_, ?_⟩
  · exact Kd.F_mono (Kd.N_F hN8) (fun k hk => hk.imp id (fun h => by omega))
  · exact (((Fr.of_below hb7 None_).setCell (p := ⟨W.heap.size, 2, none⟩) (.inr (Nat.le_refl _)) _).then_ tf (fun k hk => .inr (by rcases hk with rfl | rfl <;> omega))).toBelow0

set_option maxHeartbeats 4000000 in
set_option maxRecDepth 100000 in
theorem radd_calls {W : World} {ok : Nat → Prop} (cs : List Int) (z : Int → Nat) (hz : ∀ k, z k ≤ 64) (rows : List Ent_) (A0 : Option Addr) (c0 : Nat) (A1 : Option Addr) (c1 : Nat) (A2 : Option Addr) (c2 : Nat) (hcs : cs.length ≤ 64) (hr : rows.length ≤ 1024) (l2 : rows.length ≤ c2)
    (H0 : Kd.F (Kd.int .i64) W ok A0 cs.length cs) (H1 : Kd.F (Kd.int .i64) W ok A1 cs.length (cs.map fun k => (z k : Int))) (H2 : Kd.F k100 W ok A2 rows.length rows)
    (d row comp : Int) (id : ID_) (ps : List Part_) (AP : Option Addr) (cP : Nat) (HP : Kd.F k90 W ok AP ps.length ps) (AD : Option Addr) (nD cD : Nat) :
    Calls Tryd.prog 42 #[.agg #[.slice A0 cs.length c0, .slice A1 cs.length c1, .slice A2 rows.length c2], .agg #[.int .i64 d, .int .i64 id.f0, .int .i64 id.f1, .slice AP ps.length cP, .int .i64 row, .int .i64 comp, .slice AD nD cD]] W fun e w' =>
      ∃ A2' c2', e = .returned (.tuple #[.agg #[.slice A0 cs.length c0, .slice A1 cs.length c1, .slice A2' (addRR cs z rows id ps).length c2'], .agg #[.slice none 0 0, .slice none 0 0, .int .i64 0, .int .i64 0, .bool false, .int .i64 (addRE cs z rows ps)]]) ∧
        (addRR cs z rows id ps).length ≤ c2' ∧ Kd.F k100 w' (fun k => (ok k ∧ k < W.heap.size) ∨ W.heap.size ≤ k) A2' (addRR cs z rows id ps).length (addRR cs z rows id ps) ∧ Below W.heap.size W w' := by
  have hu35 := Tryd.underlying35
  have hu42 := Tryd.underlying42
  have hu45 := Tryd.underlying45
  obtain ⟨nc, hnc⟩ : ∃ n, cs.length = n := ⟨_, rfl⟩
  obtain ⟨nr, hnr⟩ : ∃ n, rows.length = n := ⟨_, rfl⟩
  obtain ⟨np, hnp⟩ : ∃ n, ps.length = n := ⟨_, rfl⟩
  have hL := laid W #[.slice A0 nc c0, .slice A1 nc c1, .slice A2 nr c2] #[.int .i64 d, .int .i64 id.f0, .int .i64 id.f1, .slice AP np cP, .int .i64 row, .int .i64 comp, .slice AD nD cD]
  have hB := laid_below W (.cells #[.slice A0 nc c0, .slice A1 nc c1, .slice A2 nr c2] 35) (.cells #[.int .i64 d, .int .i64 id.f0, .int .i64 id.f1, .slice AP np cP, .int .i64 row, .int .i64 comp, .slice AD nD cD] 45) (.cells #[.slice none 0 0, .slice none 0 0, .slice none 0 0] 35) (.cells #[.slice none 0 0, .slice none 0 0, .int .i64 0, .int .i64 0, .bool false, .int .i64 0] 42)
  obtain ⟨W0, hW0⟩ : ∃ W0, ((((W.alloc (.cells #[.slice A0 nc c0, .slice A1 nc c1, .slice A2 nr c2] 35)).alloc (.cells #[.int .i64 d, .int .i64 id.f0, .int .i64 id.f1, .slice AP np cP, .int .i64 row, .int .i64 comp, .slice AD nD cD] 45)).alloc (.cells #[.slice none 0 0, .slice none 0 0, .slice none 0 0] 35)).alloc (.cells #[.slice none 0 0, .slice none 0 0, .int .i64 0, .int .i64 0, .bool false, .int .i64 0] 42)) = W0 := ⟨_, rfl⟩
  rw [hW0] at hL hB
  have HW := Aside0.mk hW0
  have HB := Aside0.mk hB
  have HL := Aside0.mk hL
  have p2 := blk_cell hL.b2
  have q20 : W0.cell? ⟨W.heap.size, 0, none⟩ = some (.slice A0 nc c0) := (p2 0).trans rfl
  have q21 : W0.cell? ⟨W.heap.size, 1, none⟩ = some (.slice A1 nc c1) := (p2 1).trans rfl
  have q22 : W0.cell? ⟨W.heap.size, 2, none⟩ = some (.slice A2 nr c2) := (p2 2).trans rfl
  have q31 : W0.cell? ⟨W.heap.size + 1, 1, none⟩ = some (.int .i64 id.f0) := (blk_cell hL.b3 1).trans rfl
  have q32 : W0.cell? ⟨W.heap.size + 1, 2, none⟩ = some (.int .i64 id.f1) := (blk_cell hL.b3 2).trans rfl
  have f4 := blk_frozen hL.b4
  have f5 := blk_frozen hL.b5
  have q40 : W0.cell? ⟨W.heap.size + 1 + 1, 0, none⟩ = some (.slice none 0 0) := (blk_cell hL.b4 0).trans rfl
  have q41 : W0.cell? ⟨W.heap.size + 1 + 1, 1, none⟩ = some (.slice none 0 0) := (blk_cell hL.b4 1).trans rfl
  have q42 : W0.cell? ⟨W.heap.size + 1 + 1, 2, none⟩ = some (.slice none 0 0) := (blk_cell hL.b4 2).trans rfl
  have q50 : W0.cell? ⟨W.heap.size + 1 + 1 + 1, 0, none⟩ = some (.slice none 0 0) := (blk_cell hL.b5 0).trans rfl
  have q51 : W0.cell? ⟨W.heap.size + 1 + 1 + 1, 1, none⟩ = some (.slice none 0 0) := (blk_cell hL.b5 1).trans rfl
  have q52 : W0.cell? ⟨W.heap.size + 1 + 1 + 1, 2, none⟩ = some (.int .i64 0) := (blk_cell hL.b5 2).trans rfl
  have q53 : W0.cell? ⟨W.heap.size + 1 + 1 + 1, 3, none⟩ = some (.int .i64 0) := (blk_cell hL.b5 3).trans rfl
  have q54 : W0.cell? ⟨W.heap.size + 1 + 1 + 1, 4, none⟩ = some (.bool false) := (blk_cell hL.b5 4).trans rfl
  have q55 : W0.cell? ⟨W.heap.size + 1 + 1 + 1, 5, none⟩ = some (.int .i64 0) := (blk_cell hL.b5 5).trans rfl
  clear p2 hL hB hW0
  by_cases hful : rows.length = 1024
  · have e0 : addRE cs z rows ps = 9 := by unfold addRE; rw [if_pos hful]
    have e1 : addRR cs z rows id ps = rows := by unfold addRR; rw [e0]; rfl
    rw [e0, e1]
    have hq : ((nr : Int) == 1024) = true := by rw [← hnr]; simp [hful]
    have HH2 := Aside0.mk H2
    have HL2 := Aside0.mk l2
    simp only [hnc, hnr, hnp]
    have HNR := Aside0.mk hnr
    clear H0 H1 H2 HP hful e0 e1 l2 hr hcs hz hnc hnr hnp
    go_enter Tryd.func42, Tryd.ntmps42
    go_wp2_with (rw [HW.out])
    obtain ⟨t4, t5, tf⟩ := told_world HL.out.b4 HL.out.b5 (by omega) _ rfl
    refine bodyPost_ret (results_cell2_row rfl _ _ _ _ _ _ _ _ _ _ _ _ rfl rfl t4 t5 hu35 rfl (by kernel_rfl) hu42 rfl (by kernel_rfl)) rfl ?_
    refine ⟨A2, c2, rfl, by have := HL2.out; rw [HNR.out] at this; exact this, ?_, ?_⟩
    · have hfr : Fr None_ W _ := (Fr.of_below HB.out None_).then_ tf (fun k hk => .inr (by rcases hk with rfl | rfl <;> omega))
      have h9 := Kd.F_mono (Kd.F_step (Kd.F_bound HH2.out) (fun k hk hlt => hfr.block k hlt (fun h => h.elim))) (ok' := fun k => (ok k ∧ k < W.heap.size) ∨ W.heap.size ≤ k) (fun k hk => .inl hk)
      rw [HNR.out] at h9
      exact h9
    · exact ((Fr.of_below HB.out None_).then_ tf (fun k hk => .inr (by rcases hk with rfl | rfl <;> omega))).toBelow0
  · have hq : ((nr : Int) == 1024) = false := by rw [← hnr]; simp; omega
    have hW5b : Below W0.heap.size W0 (W0.alloc (.cells #[.int .i64 id.f0, .int .i64 id.f1, .slice none 0 0] 100)) := (Below.refl _ _).alloc (Nat.le_refl _) _
    have hb6 : (W0.alloc (.cells #[.int .i64 id.f0, .int .i64 id.f1, .slice none 0 0] 100)).heap[W0.heap.size]? = some (.cells #[.int .i64 id.f0, .int .i64 id.f1, .slice none 0 0] 100 (0, 0)) := by simpa using heap_alloc_new W0 _
    have hsz5 : (W0.alloc (.cells #[.int .i64 id.f0, .int .i64 id.f1, .slice none 0 0] 100)).heap.size = W0.heap.size + 1 := by simp
    obtain ⟨w5, hw5⟩ : ∃ w5, W0.alloc (.cells #[.int .i64 id.f0, .int .i64 id.f1, .slice none 0 0] 100) = w5 := ⟨_, rfl⟩
    rw [hw5] at hb6 hW5b hsz5
    have HW5 := Aside0.mk hw5
    have HB6 := Aside0.mk hb6
    have HB5 := Aside0.mk hW5b
    have HS5 := Aside0.mk hsz5
    have HZ := Aside0.mk hz
    have HCS := Aside0.mk hcs
    have HR := Aside0.mk hr
    have HL2 := Aside0.mk l2
    have HH0 := Aside0.mk H0
    have HH1 := Aside0.mk H1
    have HH2 := Aside0.mk H2
    have HHP := Aside0.mk HP
    have HNC64 := Aside0.mk (show nc ≤ 64 by omega)
    have HNC := Aside0.mk hnc
    have HNR := Aside0.mk hnr
    have HNP := Aside0.mk hnp
    have HFUL := Aside0.mk hful
    have hg2 : W0.heap.size = W.heap.size + 1 + 1 + 1 + 1 := by rw [← HW.out]; simp
    have HG2 := Aside0.mk hg2
    simp only [hnc, hnr, hnp]
    clear H0 H1 H2 HP hful l2 hr hcs hz hnc hnr hnp hW5b hb6 hsz5 hw5 hg2 f4 f5 q40 q41 q42 q50 q51 q52 q53 q54 q55
    go_enter Tryd.func42, Tryd.ntmps42
    go_wp2_with (first | rw [HW.out] | rw [HW5.out])
    go_loopg [7] nc (fun gk v7 wr => ∃ (j : Nat) (vP : Value), v7 = .int .i64 j ∧ Aside0 (j + gk = nc) ∧ Aside0 (fitsR (cs.take j) z ps) ∧ Aside0 (Kd.N k90 90 wr W.heap.size (fun k => (ok k ∧ k < W.heap.size) ∨ w5.heap.size ≤ k) vP (newParts (cs.take j) z ps)) ∧ Aside0 (wr.heap[W0.heap.size]? = some (.cells #[.int .i64 id.f0, .int .i64 id.f1, vP] 100 (0, 0))) ∧ Aside0 (Fr (fun k => k = W0.heap.size) w5 wr))
    case atStart => exact ⟨0, _, rfl, ⟨by omega⟩, ⟨fun k hk => by simp at hk⟩, ⟨Kd.N_nil _ _ _ _ _⟩, HB6, ⟨Fr.refl _ _⟩⟩
    case round =>
      clear q20 q21 q22 q31 q32 hq
      obtain ⟨j, vP, rfl, H, HF, HN, HQ, HR2⟩ := hrel
      have hold0 : ∀ k, k < W0.heap.size → wr.heap[k]? = W0.heap[k]? := fun k hk => (HR2.out.block k (by have := HS5.out; omega) (by omega)).trans (HB5.out.block k hk)
      have hold : ∀ k, k < W.heap.size → wr.heap[k]? = W.heap[k]? := fun k hk => (hold0 k (by have := HG2.out; omega)).trans (HB.out.block k hk)
      have hb2 := (hold0 _ (by have := HG2.out; omega)).trans HL.out.b2
      have q20 : wr.cell? ⟨W.heap.size, 0, none⟩ = some (.slice A0 nc c0) := (blk_cell hb2 0).trans rfl
      have q21 : wr.cell? ⟨W.heap.size, 1, none⟩ = some (.slice A1 nc c1) := (blk_cell hb2 1).trans rfl
      have HOLD0 := Aside0.mk hold0
      have HOLD := Aside0.mk hold
      by_cases hlt : j < nc
      · have q0 : decide ((j : Int) < (nc : Int)) = true := by simp; omega
        have p0 : (0 : Int) ≤ (j : Int) := by omega
        have p1 : (j : Int) < (nc : Int) := by omega
        have p1' : (j : Int) < (cs.length : Int) := by rw [HNC.out]; exact p1
        obtain ⟨ko, hko⟩ : ∃ k1, gk = k1 + 1 := ⟨gk - 1, by have := H.out; omega⟩
        have HH := Aside0.mk (show (j + 1) + ko = nc by have := H.out; omega)
        subst hko
        clear H
        obtain ⟨ad0, e0, hx0⟩ := Kd.at_int (old_F HH0.out hold).now (j : Int) p0 p1'
        subst e0
        obtain ⟨ad1, e1, hx1⟩ := Kd.at_int (old_F HH1.out hold).now (j : Int) p0 p1'
        subst e1
        obtain ⟨x, hxx⟩ : ∃ x, rd cs (j : Int) = x := ⟨_, rfl⟩
        have hz1 : rd (cs.map fun k => (z k : Int)) (j : Int) = (z x : Int) := by
          rw [← hxx]
          have : j < cs.length := by omega
          simp [rd, List.getD_eq_getElem?_getD, List.getElem?_eq_getElem this]
        have HXX := Aside0.mk hxx
        rw [hz1] at hx1
        rw [hxx] at hx0
        simp only [Int.toNat_natCast] at hx0 hx1
        have hcut := vivariumref01_Cut.calls 67 none 0 [] (z x : Int) _ wr (Kd.C_nil _ _) (Nat.le_refl _) (cut_f (z x) (HZ.out x))
        have HCUT := Aside0.mk (show Calls Tryd.prog 65 #[.slice none 0 0, .int .i64 (z x : Int)] wr _ from hcut)
        obtain ⟨zx, hzx⟩ : ∃ n, z x = n := ⟨_, rfl⟩
        have HZX := Aside0.mk hzx
        rw [hzx] at hx1 HCUT
        have hb3 := (hold0 _ (by have := HG2.out; omega)).trans HL.out.b3
        have HB3 := Aside0.mk hb3
        have HB2 := Aside0.mk hb2
        obtain ⟨AV, cV, eV⟩ := Kd.N_slice HN.out
        obtain ⟨nV, hnV⟩ : ∃ n, (newParts (cs.take j) z ps).length = n := ⟨_, rfl⟩
        rw [hnV] at eV
        subst eV
        clear hnV
        have HVL := Aside0.mk (Kd.N_lt HN.out)
        have HVO := Aside0.mk HN.out.1
        have HVB := Aside0.mk (Kd.N_base HN.out)
        have HVN := Aside0.mk (show (Value.slice AV nV cV).ownBlock ≠ some W0.heap.size from fun e => by
          have h1 := HVO.out _ e
          have h2 := HS5.out
          have h3 := HG2.out
          rcases h1 with h1 | h1 <;> omega)
        have HBWR := Aside0.mk (show Below W.heap.size W wr from ⟨HR2.out.os.trans (HB5.out.os.trans HB.out.os), HR2.out.tape.trans (HB5.out.tape.trans HB.out.tape), HR2.out.output.trans (HB5.out.output.trans HB.out.output), Nat.le_trans HB.out.size (Nat.le_trans HB5.out.size HR2.out.size), hold⟩)
        clear hold0 hold hb2 hxx hz1 hcut hzx hb3
        go_wp2_with fail
        refine HCUT.out.mono ?_
        rintro e wc ⟨v8, rfl, hR8, hB8⟩
        obtain ⟨A8, c8, rfl⟩ := Kd.R_slice hR8
        have q33 : wc.cell? ⟨W.heap.size + 1, 3, none⟩ = some (.slice AP np cP) := (hB8.cell (by have := heap_lt' HB3.out; exact this)).trans ((blk_cell HB3.out 3).trans rfl)
        have q20c : wc.cell? ⟨W.heap.size, 0, none⟩ = some (.slice (some ad0) nc c0) := (hB8.cell (World.block_lt_of_cell? wr _ q20)).trans q20
        have q21c : wc.cell? ⟨W.heap.size, 1, none⟩ = some (.slice (some ad1) nc c1) := (hB8.cell (World.block_lt_of_cell? wr _ q21)).trans q21
        have hx0c := (hB8.cell (World.block_lt_of_cell? wr _ hx0)).trans hx0
        have hx1c := (hB8.cell (World.block_lt_of_cell? wr _ hx1)).trans hx1
        have HBC := Aside0.mk hB8
        have HBWC := Aside0.mk (fun m : Nat => show Below W.heap.size W (wc.drewN (m + 1)) from (((Fr.of_below HBWR.out None_).below_ hB8).drewN (m + 1)).toBelow0)
        have HFP := Aside0.mk (Kd.F_below (old_F HHP.out HOLD.out) hB8)
        have hF8 : Kd.F (Kd.int .u8) wc (fun k => (ok k ∧ k < W.heap.size) ∨ wr.heap.size ≤ k) A8 (List.replicate zx (0 : Int)).length (List.replicate zx 0) := by
          have h9 := Kd.R_F (Kd.R_mono (ok' := fun k => (ok k ∧ k < W.heap.size) ∨ wr.heap.size ≤ k) (Kd.R_bound hR8) (fun k hk => .inr hk.2.1))
          exact h9
        obtain ⟨n8, hn8⟩ : ∃ n, (List.replicate zx (0 : Int)).length = n := ⟨_, rfl⟩
        have HD8 := Aside0.mk (show (dataL (ps.drop np) x zx).length = n8 ∧ Kd.F (Kd.int .u8) wc (fun k => (ok k ∧ k < W.heap.size) ∨ wr.heap.size ≤ k) A8 n8 (dataL (ps.drop np) x zx) ∧ n8 ≤ c8 by
          rw [← HNP.out, List.drop_length, dataL_nil, hn8]
          rw [hn8] at hF8
          exact ⟨rfl, hF8, by rw [← hn8]; exact (Kd.R_reads' hR8).2.1⟩)
        rw [hn8]
        clear hR8 hB8 hF8 hn8 q20 q21 hx0 hx1
        have hnp2 : (np : Int) ≤ 9223372036854775807 := by have := Kd.F_max HHP.out; rw [HNP.out] at this; omega
        obtain ⟨y0, hy0⟩ : ∃ y : Int, (np : Int) - 1 = y := ⟨_, rfl⟩
        have hwy : IntKind.i64.wrap ((np : Int) - 1) = y0 := by rw [IntKind.wrap_i64, ← hy0]; omega
        have HY0 := Aside0.mk hy0
        clear hy0
        go_wp2
        go_loopg [8, 9] np (fun gk v8 v9 wi => ∃ (i : Nat) (y : Int) (Ad : Option Addr) (cd dn m : Nat), v9 = .int .i64 y ∧ v8 = .slice Ad dn cd ∧ wi = wc.drewN m ∧ Aside0 (y = (i : Int) - 1 ∧ i = gk ∧ i ≤ np) ∧ Aside0 ((dataL (ps.drop i) x zx).length = dn ∧ Kd.F (Kd.int .u8) wc (fun k => (ok k ∧ k < W.heap.size) ∨ wr.heap.size ≤ k) Ad dn (dataL (ps.drop i) x zx) ∧ dn ≤ cd))
        case atStart => exact ⟨np, y0, A8, c8, n8, 0, rfl, rfl, rfl, ⟨HY0.out.symm, rfl, Nat.le_refl _⟩, HD8⟩
        case round =>
          obtain ⟨i, y, Ad, cd, dn, m, rfl, rfl, hwi, HI, HD⟩ := hrel
          subst hwi
          clear HD8 hwy
          rcases i with _ | i
          · have hy : y = -1 := by have := HI.out.1; omega
            subst hy
            have q2 : decide ((0 : Int) ≤ -1) = false := by decide
            clear q2
            have hb2c := HBC.out.block _ (heap_lt' HB2.out)
            have hb2c := hb2c.trans HB2.out
            have q22c : wc.cell? ⟨W.heap.size, 2, none⟩ = some (.slice A2 nr c2) := (blk_cell hb2c 2).trans rfl
            have hD := HD.out
            rw [List.drop_zero] at hD
            have HDD := Aside0.mk hD
            clear hD HD HI HFP q33
            by_cases hfit : dn = zx
            · subst hfit
              have q3 : ((dn : Int) != (dn : Int)) = false := by simp
              have hb6c := (HBC.out.block _ (heap_lt' HQ.out)).trans HQ.out
              have q62 : wc.cell? ⟨W0.heap.size, 2, none⟩ = some (.slice AV nV cV) := (blk_cell hb6c 2).trans rfl
              have f62 := blk_frozen hb6c 2
              have HNC6 := Aside0.mk (Kd.N_below HN.out HBC.out)
              have HLE := Aside0.mk (show ((newParts (cs.take j) z ps).length + 1) * 32 ≤ 140737488355328 by
                have := HCS.out
                unfold newParts
                rw [List.length_map, List.length_take]
                omega)
              have HPP := Aside0.mk (rd_take (fun k => (⟨k, dataL ps k (z k)⟩ : Part_)) (show j < cs.length by have := HNC.out; omega))
              have hlt6 : W0.heap.size < wc.heap.size := heap_lt' hb6c
              have HB6C := Aside0.mk hb6c
              have q62a : ((wc.drewN (m + 1)).alloc (.cells #[.int .i64 x, .slice Ad dn cd] 90)).cell? ⟨W0.heap.size, 2, none⟩ = some (.slice AV nV cV) := (((Below.refl _ (wc.drewN (m + 1))).alloc (Nat.le_refl _) _).cell hlt6).trans q62
              clear hb6c hb2c q22c
              go_wp2
              go_region_law (first
                | (refine Kd.N_append_step k90 (w0 := W) (W := (wc.drewN (m + 1))) W.heap.size (by rfl) (.tmp 69) (.tmp 77) 38 90 (.agg #[.int .i64 0, .slice none 0 0]) 32 rfl Tryd.underlying38 infoPart rfl (by decide) (by omega) (.slice AV nV cV) (newParts (cs.take j) z ps) (⟨x, dataL ps x dn⟩ : Part_) [.int .i64 x, .slice Ad dn cd] (fun k => (ok k ∧ k < W.heap.size) ∨ w5.heap.size ≤ k) (fun k => (ok k ∧ k < W.heap.size) ∨ wr.heap.size ≤ k) rfl rfl ?aP ?aQ ?aF ?aO ?aB ?aS ?aL ?_; (case aP => exact part_FK HDD.out.2.2 HDD.out.1 (Kd.F_drewN HDD.out.2.1 (m + 1))); (case aQ => exact fun k hk => ⟨hk.imp_right (fun h => Nat.le_trans HR2.out.size h), fun e => by rcases hk with hk | hk; have := HVB.out k e.symm; omega; have := HVL.out k e.symm; omega⟩); (case aF => exact fun k hk => .inr (Nat.le_trans HR2.out.size (Nat.le_trans HBC.out.size hk))); (case aO => exact Kd.N_drewN HNC6.out (m + 1)); (case aB => exact HBWC.out m); (case aS => exact HBWC.out m |>.size); (case aL => exact HLE.out); intro v1 w6 ho hb6 hg6 hat6; have HP6 := Aside0.mk (And.intro ho (And.intro hg6 hat6)); obtain ⟨A6, c6, e6⟩ := Kd.N_slice ho; obtain ⟨n6, hn6⟩ : ∃ n6, (newParts (cs.take j) z ps ++ [(⟨x, dataL ps x dn⟩ : Part_)]).length = n6 := ⟨_, rfl⟩; rw [hn6] at e6; have h6t : w6.heap[W0.heap.size]? = _ := (hg6.block W0.heap.size hlt6 (fun e => HVN.out e.symm)).trans HB6C.out; have k6 := (blk_cell h6t 2).trans rfl; have g6f := blk_frozen h6t 2; have H6T := Aside0.mk h6t; clear ho hb6 hg6 hat6 hn6 h6t; subst e6))
              all_goals
                have HRR := Aside0.mk (radd_round HN.out HR2.out HBC.out HF.out HP6.out H6T.out HB5.out HG2.out HS5.out HZX.out HDD.out.1 (show cs.take j ++ [x] = cs.take (j + 1) by rw [← HXX.out]; exact take_rd (show j < cs.length by have := HNC.out; omega)))
                have hnc64 : nc ≤ 64 := HNC64.out
                clear HN HQ HR2 HF HP6 H6T HDD q62 q62a f62 HL HB HB5 HW HW5 HB6 HH0 HH1 HH2 HHP HOLD HOLD0 HCUT HB2 HB3 HVL HVO HVB HVN HBWR HBC HBWC HNC6 HB6C k6 g6f q20c q21c hx0c hx1c
                go_wp2
                go_roundg ko
                case measure => omega
                case rel => exact ⟨j + 1, _, by go_num, HH, ⟨HRR.out.1⟩, ⟨HRR.out.2.1⟩, ⟨HRR.out.2.2.1⟩, ⟨HRR.out.2.2.2⟩⟩
            · have q3 : ((dn : Int) != (zx : Int)) = true := by simp; omega
              have hb4 := (HBC.out.block _ (by have h1 := (HOLD0.out _ (heap_lt' HL.out.b4)).trans HL.out.b4; exact heap_lt' h1)).trans ((HOLD0.out _ (heap_lt' HL.out.b4)).trans HL.out.b4)
              have hb5 := (HBC.out.block _ (by have h1 := (HOLD0.out _ (heap_lt' HL.out.b5)).trans HL.out.b5; exact heap_lt' h1)).trans ((HOLD0.out _ (heap_lt' HL.out.b5)).trans HL.out.b5)
              have HB4 := Aside0.mk hb4
              have HB5' := Aside0.mk hb5
              have f4 := blk_frozen hb4
              have f5 := blk_frozen hb5
              have t40 : wc.cell? ⟨W.heap.size + 1 + 1, 0, none⟩ = some (.slice none 0 0) := (blk_cell hb4 0).trans rfl
              have t41 : wc.cell? ⟨W.heap.size + 1 + 1, 1, none⟩ = some (.slice none 0 0) := (blk_cell hb4 1).trans rfl
              have t42 : wc.cell? ⟨W.heap.size + 1 + 1, 2, none⟩ = some (.slice none 0 0) := (blk_cell hb4 2).trans rfl
              have t50 : wc.cell? ⟨W.heap.size + 1 + 1 + 1, 0, none⟩ = some (.slice none 0 0) := (blk_cell hb5 0).trans rfl
              have t51 : wc.cell? ⟨W.heap.size + 1 + 1 + 1, 1, none⟩ = some (.slice none 0 0) := (blk_cell hb5 1).trans rfl
              have t52 : wc.cell? ⟨W.heap.size + 1 + 1 + 1, 2, none⟩ = some (.int .i64 0) := (blk_cell hb5 2).trans rfl
              have t53 : wc.cell? ⟨W.heap.size + 1 + 1 + 1, 3, none⟩ = some (.int .i64 0) := (blk_cell hb5 3).trans rfl
              have t54 : wc.cell? ⟨W.heap.size + 1 + 1 + 1, 4, none⟩ = some (.bool false) := (blk_cell hb5 4).trans rfl
              have t55 : wc.cell? ⟨W.heap.size + 1 + 1 + 1, 5, none⟩ = some (.int .i64 0) := (blk_cell hb5 5).trans rfl
              have HNF := Aside0.mk (show ¬ fitsR cs z ps from fun hf => hfit (by
                have hm := rd_mem (xs := cs) (j := j) (by have := HNC.out; omega)
                rw [HXX.out] at hm
                have := hf x hm
                rw [HZX.out, HDD.out.1] at this
                exact this))
              clear hb4 hb5 hb2c
              go_wp2
              obtain ⟨t4, t5, tf⟩ := told_world (w := wc.drewN m) HB4.out HB5'.out (by omega) _ rfl
              refine bodyPost_ret (results_cell2_row rfl _ _ _ _ _ _ _ _ _ _ _ _ rfl rfl t4 t5 hu35 rfl (by kernel_rfl) hu42 rfl (by kernel_rfl)) rfl ?_
              have e0 : addRE cs z rows ps = 7 := by unfold addRE; rw [if_neg HFUL.out, if_neg HNF.out]
              have e1 : addRR cs z rows id ps = rows := by unfold addRR; rw [if_neg (by rw [e0]; decide)]
              rw [e0, e1, HNR.out]
              have hfr : Fr None_ W _ := (((Fr.of_below HBWR.out None_).below_ HBC.out).drewN m).then_ tf (fun k hk => .inr (by rcases hk with rfl | rfl <;> omega))
              refine ⟨A2, c2, rfl, by have := HL2.out; rw [HNR.out] at this; exact this, ?_, hfr.toBelow0⟩
              have h9 := Kd.F_mono (Kd.F_step (Kd.F_bound HH2.out) (fun k hk hlt => hfr.block k hlt (fun h => h.elim))) (ok' := fun k => (ok k ∧ k < W.heap.size) ∨ W.heap.size ≤ k) (fun k hk => .inl hk)
              rw [HNR.out] at h9
              exact h9
          · obtain ⟨hy, hgk, hile⟩ := HI.out
            have hy : y = (i : Int) := by omega
            subst hy
            have hilt : i < np := by omega
            have q2 : decide ((0 : Int) ≤ (i : Int)) = true := by simp
            have p2 : (0 : Int) ≤ (i : Int) := by omega
            have p3 : (i : Int) < (np : Int) := by omega
            have p3' : (i : Int) < (ps.length : Int) := by have := HNP.out; omega
            obtain ⟨adp, ce, ep, _, hFK, hcc, hadp⟩ := Kd.F_get HFP.out z90 (i : Int) p2 p3'
            subst ep
            clear hadp
            obtain ⟨A9, c9, rfl, l9, hF9⟩ := k90_openF hFK
            have y0 : wc.cell? (adp.add (i * 2)) = some (.int .i64 (ps.getD i z90).f0) := hcc 0 _ rfl
            have y1 : wc.cell? ⟨(adp.add (i * 2)).block, (adp.add (i * 2)).off + 1, none⟩ = some (.slice A9 (ps.getD i z90).f1.length c9) := by rw [← add_field _ _ 1 (by omega)]; exact hcc 1 _ rfl
            have HSTEP := Aside0.mk (dataL_drop ps x zx (i := i) (by have := HNP.out; omega))
            simp only [Int.toNat_natCast] at y0 y1 hF9
            obtain ⟨pe, hpe⟩ : ∃ pe : Part_, ps.getD i z90 = pe := ⟨_, rfl⟩
            rw [hpe] at y0 y1 hF9 HSTEP
            obtain ⟨n9, hn9⟩ : ∃ n, pe.f1.length = n := ⟨_, rfl⟩
            rw [hn9] at y1 hF9
            have HN9 := Aside0.mk hn9
            have HL9 := Aside0.mk (show n9 ≤ c9 by rw [← hn9, ← hpe]; exact l9)
            have HF9 := Aside0.mk hF9
            obtain ⟨k1, hk1⟩ : ∃ k1, gk = k1 + 1 := ⟨gk - 1, by omega⟩
            have HK1 := Aside0.mk (show i = k1 by omega)
            have HILE := Aside0.mk (show i ≤ np by omega)
            obtain ⟨pf, hpf⟩ : ∃ pf, pe.f0 = pf := ⟨_, rfl⟩
            have HPF := Aside0.mk hpf
            rw [hpf] at y0
            subst hk1
            clear hy hFK hcc hF9 hn9 l9 HI hgk hile hilt p3' hpf hpe
            go_wp2
            go_quiet (fail)
            by_cases hpx : pf = x
            · have q3 : (pf == x) = true := by simp [hpx]
              have HE := Aside0.mk (show (dataL (ps.drop i) x zx).length = n9 ∧ Kd.F (Kd.int .u8) wc (fun k => (ok k ∧ k < W.heap.size) ∨ wr.heap.size ≤ k) A9 n9 (dataL (ps.drop i) x zx) ∧ n9 ≤ c9 by
                rw [HSTEP.out, HPF.out, if_pos hpx]
                exact ⟨HN9.out, Kd.F_mono HF9.out (fun k hk => .inl hk), HL9.out⟩)
              go_wp2
              go_roundg k1
              case measure => omega
              case rel => exact ⟨i, (i : Int) - 1, A9, c9, n9, _, by go_num, rfl, rfl, ⟨by omega, HK1.out, HILE.out⟩, HE⟩
            · have q3 : (pf == x) = false := by simp [hpx]
              have HE := Aside0.mk (show (dataL (ps.drop i) x zx).length = dn ∧ Kd.F (Kd.int .u8) wc (fun k => (ok k ∧ k < W.heap.size) ∨ wr.heap.size ≤ k) Ad dn (dataL (ps.drop i) x zx) ∧ dn ≤ cd by
                rw [HSTEP.out, HPF.out, if_neg hpx]
                exact HD.out)
              go_wp2
              go_roundg k1
              case measure => omega
              case rel => exact ⟨i, (i : Int) - 1, Ad, cd, dn, _, by go_num, rfl, rfl, ⟨by omega, HK1.out, HILE.out⟩, HE⟩
      · have q0 : decide ((j : Int) < (nc : Int)) = false := by simp; omega
        have hj : j = nc := by have := H.out; omega
        have HFI := Aside0.mk (show fitsR cs z ps by have h9 := HF.out; rw [List.take_of_length_le (by have := HNC.out; omega)] at h9; exact h9)
        have hN := HN.out
        rw [List.take_of_length_le (by have := HNC.out; omega)] at hN
        obtain ⟨AV, cV, eV⟩ := Kd.N_slice hN
        obtain ⟨nV, hnV⟩ : ∃ n, (newParts cs z ps).length = n := ⟨_, rfl⟩
        rw [hnV] at eV
        subst eV
        have HN2 := Aside0.mk hN
        have hb6 := HQ.out
        have q60 : wr.cell? ⟨W0.heap.size, 0, none⟩ = some (.int .i64 id.f0) := (blk_cell hb6 0).trans rfl
        have q61 : wr.cell? ⟨W0.heap.size, 1, none⟩ = some (.int .i64 id.f1) := (blk_cell hb6 1).trans rfl
        have q62 : wr.cell? ⟨W0.heap.size, 2, none⟩ = some (.slice AV nV cV) := (blk_cell hb6 2).trans rfl
        have q22 : wr.cell? ⟨W.heap.size, 2, none⟩ = some (.slice A2 nr c2) := (blk_cell hb2 2).trans rfl
        have hlt2 : W.heap.size < wr.heap.size := heap_lt' hb2
        have hlt6 : W0.heap.size < wr.heap.size := heap_lt' hb6
        have HB2 := Aside0.mk hb2
        have HB4 := Aside0.mk ((hold0 _ (heap_lt' HL.out.b4)).trans HL.out.b4)
        have HB5' := Aside0.mk ((hold0 _ (heap_lt' HL.out.b5)).trans HL.out.b5)
        have HBWR := Aside0.mk (show Below W.heap.size W wr from ⟨HR2.out.os.trans (HB5.out.os.trans HB.out.os), HR2.out.tape.trans (HB5.out.tape.trans HB.out.tape), HR2.out.output.trans (HB5.out.output.trans HB.out.output), Nat.le_trans HB.out.size (Nat.le_trans HB5.out.size HR2.out.size), hold⟩)
        have HF2 := Aside0.mk (show Kd.F k100 wr (fun k => ok k ∧ k < W.heap.size) A2 nr rows by have h9 := old_F HH2.out hold; rw [HNR.out] at h9; exact h9)
        have HLE := Aside0.mk (show (([] : List Ent_).length + nr) * 40 ≤ 140737488355328 ∧ (([] ++ rows : List Ent_).length + 1) * 40 ≤ 140737488355328 by have := HR.out; have := HNR.out; simp; omega)
        have HEF := Aside0.mk (ent_FK (id := id) (ok := fun k => (ok k ∧ k < W.heap.size) ∨ w5.heap.size ≤ k) hN hnV)
        clear hb6 hb2 hold0 hold hN hnV HH0 HH1 HHP HCS HZ HNC64 HQ HN HF hj hlt
        have hlt : ¬ (j < nc) := by simpa using q0
        go_wp2
        go_region_law (first
          | (refine Kd.N_append_rows_step k100 (w0 := W) W.heap.size (by rfl) (.tmp 80) (.tmp 82) 33 100 (.agg #[.int .i64 0, .int .i64 0, .slice none 0 0]) 40 rfl Tryd.underlying33 infoEnt rfl (by decide) (by omega) (.slice (some ⟨wr.heap.size, 0, none⟩) 0 0) [] rows A2 nr c2 (fun k => (ok k ∧ k < W.heap.size) ∨ w5.heap.size ≤ k) (fun k => ok k ∧ k < W.heap.size) rfl rfl ?aO ?aR ?aQ ?aF ?aB ?aS HLE.out.1 ?_; (case aO => exact N_empty (by first | exact heap_alloc_new wr _ | exact heap_alloc2_old wr _ _ | exact heap_alloc2_new wr _ _) (by have := HBWR.out.size; omega) (.inr (by have := HR2.out.size; omega))); (case aR => exact Kd.F_step HF2.out (fun k hk hlt => by first | exact ((Below.refl _ wr).alloc (Nat.le_refl _) _).block k hlt | exact (((Below.refl _ wr).alloc (Nat.le_refl _) _).alloc (by simp) _).block k hlt)); (case aQ => exact fun k hk => ⟨.inl hk, fun e => by have h1 := HBWR.out.size; have h2 := hk.2; simp [Value.ownBlock] at e; omega⟩); (case aF => exact fun k hk => .inr (by simp at hk; have := HR2.out.size; omega)); (case aB => exact (by first | exact ((((Fr.of_below HBWR.out None_).alloc _).drew).toBelow0) | exact (((((Fr.of_below HBWR.out None_).alloc _).alloc _).drew).toBelow0))); (case aS => exact (by have := HBWR.out.size; simp; omega)); intro v1 w6 ho hb6 hg6 hat6; have hold6 : ∀ k, k < wr.heap.size → w6.heap[k]? = wr.heap[k]? := (fun k hk => (hg6.block k (by simp; omega) (by simp [Value.ownBlock]; omega)).trans (by first | exact ((Below.refl _ wr).alloc (Nat.le_refl _) _).block k hk | exact (((Below.refl _ wr).alloc (Nat.le_refl _) _).alloc (by simp) _).block k hk)); have hvn6 : ∀ k, v1.ownBlock = some k → wr.heap.size ≤ k := (fun k hk => by rcases hat6 with e | ⟨b, e, hb⟩; rw [e] at hk; simp [Value.ownBlock] at hk; omega; rw [hk] at e; injection e with e; simp at hb; omega); (try (have hbx1 : w6.heap[wr.heap.size + 1]? = some (.cells #[.int .i64 id.f0, .int .i64 id.f1, .slice AV nV cV] 100 (0, 0)) := (hg6.block _ (by simp <;> omega) (by simp [Value.ownBlock])).trans (heap_alloc2_new wr _ _))); (try (have hbx0 : w6.heap[wr.heap.size]? = some (.cells #[.int .i64 id.f0, .int .i64 id.f1, .slice AV nV cV] 100 (0, 0)) := (hg6.block _ (by simp <;> omega) (by simp [Value.ownBlock])).trans (heap_alloc2_old wr _ _))); have HS6 := Aside0.mk (show wr.heap.size ≤ w6.heap.size from Nat.le_trans (by simp; try omega) hg6.size); have c60 := (World.cell?_of_block (w := wr) (a := ⟨W0.heap.size, 0, none⟩) (hold6 _ hlt6)).trans q60; have c61 := (World.cell?_of_block (w := wr) (a := ⟨W0.heap.size, 1, none⟩) (hold6 _ hlt6)).trans q61; have c62 := (World.cell?_of_block (w := wr) (a := ⟨W0.heap.size, 2, none⟩) (hold6 _ hlt6)).trans q62; have HP6 := Aside0.mk (And.intro ho (And.intro hold6 hvn6)); have HB6' := Aside0.mk hb6; (try (have HNB := Aside0.mk (show ∀ k, v1.ownBlock = some k → k ≠ wr.heap.size + 1 from fun k hk => by rcases hat6 with e | ⟨b, e, hb⟩; rw [e] at hk; simp [Value.ownBlock] at hk; omega; rw [hk] at e; injection e with e; simp at hb; omega))); obtain ⟨A6, c6, e6⟩ := Kd.N_slice ho; obtain ⟨n6, hn6⟩ : ∃ n6, ([] ++ rows : List Ent_).length = n6 := ⟨_, rfl⟩; rw [hn6] at e6; clear ho hb6 hg6 hat6 hold6 hvn6 hn6; subst e6)
          | (refine Kd.N_append_rows_step k100 (w0 := W) W.heap.size (by rfl) (.tmp 80) (.tmp 82) 33 100 (.agg #[.int .i64 0, .int .i64 0, .slice none 0 0]) 40 rfl Tryd.underlying33 infoEnt rfl (by decide) (by omega) (.slice (some ⟨wr.heap.size + 1, 0, none⟩) 0 0) [] rows A2 nr c2 (fun k => (ok k ∧ k < W.heap.size) ∨ w5.heap.size ≤ k) (fun k => ok k ∧ k < W.heap.size) rfl rfl ?aO ?aR ?aQ ?aF ?aB ?aS HLE.out.1 ?_; (case aO => exact N_empty (by first | exact heap_alloc_new wr _ | exact heap_alloc2_old wr _ _ | exact heap_alloc2_new wr _ _) (by have := HBWR.out.size; omega) (.inr (by have := HR2.out.size; omega))); (case aR => exact Kd.F_step HF2.out (fun k hk hlt => by first | exact ((Below.refl _ wr).alloc (Nat.le_refl _) _).block k hlt | exact (((Below.refl _ wr).alloc (Nat.le_refl _) _).alloc (by simp) _).block k hlt)); (case aQ => exact fun k hk => ⟨.inl hk, fun e => by have h1 := HBWR.out.size; have h2 := hk.2; simp [Value.ownBlock] at e; omega⟩); (case aF => exact fun k hk => .inr (by simp at hk; have := HR2.out.size; omega)); (case aB => exact (by first | exact ((((Fr.of_below HBWR.out None_).alloc _).drew).toBelow0) | exact (((((Fr.of_below HBWR.out None_).alloc _).alloc _).drew).toBelow0))); (case aS => exact (by have := HBWR.out.size; simp; omega)); intro v1 w6 ho hb6 hg6 hat6; have hold6 : ∀ k, k < wr.heap.size → w6.heap[k]? = wr.heap[k]? := (fun k hk => (hg6.block k (by simp; omega) (by simp [Value.ownBlock]; omega)).trans (by first | exact ((Below.refl _ wr).alloc (Nat.le_refl _) _).block k hk | exact (((Below.refl _ wr).alloc (Nat.le_refl _) _).alloc (by simp) _).block k hk)); have hvn6 : ∀ k, v1.ownBlock = some k → wr.heap.size ≤ k := (fun k hk => by rcases hat6 with e | ⟨b, e, hb⟩; rw [e] at hk; simp [Value.ownBlock] at hk; omega; rw [hk] at e; injection e with e; simp at hb; omega); (try (have hbx1 : w6.heap[wr.heap.size + 1]? = some (.cells #[.int .i64 id.f0, .int .i64 id.f1, .slice AV nV cV] 100 (0, 0)) := (hg6.block _ (by simp <;> omega) (by simp [Value.ownBlock])).trans (heap_alloc2_new wr _ _))); (try (have hbx0 : w6.heap[wr.heap.size]? = some (.cells #[.int .i64 id.f0, .int .i64 id.f1, .slice AV nV cV] 100 (0, 0)) := (hg6.block _ (by simp <;> omega) (by simp [Value.ownBlock])).trans (heap_alloc2_old wr _ _))); have HS6 := Aside0.mk (show wr.heap.size ≤ w6.heap.size from Nat.le_trans (by simp; try omega) hg6.size); have c60 := (World.cell?_of_block (w := wr) (a := ⟨W0.heap.size, 0, none⟩) (hold6 _ hlt6)).trans q60; have c61 := (World.cell?_of_block (w := wr) (a := ⟨W0.heap.size, 1, none⟩) (hold6 _ hlt6)).trans q61; have c62 := (World.cell?_of_block (w := wr) (a := ⟨W0.heap.size, 2, none⟩) (hold6 _ hlt6)).trans q62; have HP6 := Aside0.mk (And.intro ho (And.intro hold6 hvn6)); have HB6' := Aside0.mk hb6; have HNB := Aside0.mk (show ∀ k, v1.ownBlock = some k → k ≠ wr.heap.size from fun k hk => by rcases hat6 with e | ⟨b, e, hb⟩; rw [e] at hk; simp [Value.ownBlock] at hk; omega; rw [hk] at e; injection e with e; simp at hb; omega); obtain ⟨A6, c6, e6⟩ := Kd.N_slice ho; obtain ⟨n6, hn6⟩ : ∃ n6, ([] ++ rows : List Ent_).length = n6 := ⟨_, rfl⟩; rw [hn6] at e6; clear ho hb6 hg6 hat6 hold6 hvn6 hn6; subst e6)
          | (refine Kd.N_append_step k100 (w0 := W) (W := w6) W.heap.size (by rfl) (.tmp 83) (.tmp 85) 33 100 (.agg #[.int .i64 0, .int .i64 0, .slice none 0 0]) 40 rfl Tryd.underlying33 infoEnt rfl (by decide) (by omega) (.slice A6 n6 c6) ([] ++ rows) (⟨id, newParts cs z ps⟩ : Ent_) [.int .i64 id.f0, .int .i64 id.f1, .slice AV nV cV] (fun k => (ok k ∧ k < W.heap.size) ∨ w5.heap.size ≤ k) (fun k => ((ok k ∧ k < W.heap.size) ∨ w5.heap.size ≤ k) ∧ k < wr.heap.size) rfl rfl ?bP ?bQ ?bF HP6.out.1 HB6'.out ?bS HLE.out.2 ?_; (case bP => exact Kd.FK_step (Kd.FK_bound HEF.out) (fun k hk _ => HP6.out.2.1 k hk.2)); (case bQ => exact fun k hk => ⟨hk.1, fun e => by have h1 := HP6.out.2.2 k e.symm; have h2 := hk.2; omega⟩); (case bF => exact fun k hk => .inr (Nat.le_trans HR2.out.size (Nat.le_trans HS6.out hk))); (case bS => exact HB6'.out.size); intro v2 w7 ho7 hb7 hg7 hat7; have hold7 : ∀ k, k < wr.heap.size → w7.heap[k]? = wr.heap[k]? := (fun k hk => (hg7.block k (Nat.lt_of_lt_of_le hk HS6.out) (fun e => by have h1 := HP6.out.2.2 k e.symm; omega)).trans (HP6.out.2.1 k hk)); have HP7 := Aside0.mk (And.intro ho7 (And.intro hold7 (And.intro hb7 (show ∀ k, v2.ownBlock = some k → wr.heap.size ≤ k from fun k hk => by rcases hat7 with e | ⟨b, e, hb⟩; rw [e] at hk; exact HP6.out.2.2 k hk; rw [hk] at e; injection e with e; have := HS6.out; omega)))); have c22 := (World.cell?_of_block (w := wr) (a := ⟨W.heap.size, 2, none⟩) (hold7 _ hlt2)).trans q22; have hb27 := (hold7 _ hlt2).trans HB2.out; have f22 := blk_frozen hb27 2; obtain ⟨A7, c7, e7⟩ := Kd.N_slice ho7; obtain ⟨n7, hn7⟩ : ∃ n7, (([] ++ rows) ++ [(⟨id, newParts cs z ps⟩ : Ent_)] : List Ent_).length = n7 := ⟨_, rfl⟩; rw [hn7] at e7; have HN7 := Aside0.mk hn7; clear ho7 hb7 hg7 hat7 hold7 hb27 hn7; subst e7)
          | (refine Kd.N_append_rows_step k100 (w0 := W) (W := w6) W.heap.size (by rfl) (.tmp 83) (.tmp 85) 33 100 (.agg #[.int .i64 0, .int .i64 0, .slice none 0 0]) 40 rfl Tryd.underlying33 infoEnt rfl (by decide) (by omega) (.slice A6 n6 c6) ([] ++ rows) [(⟨id, newParts cs z ps⟩ : Ent_)] (some ⟨wr.heap.size + 1, 0, none⟩) 1 1 (fun k => (ok k ∧ k < W.heap.size) ∨ w5.heap.size ≤ k) (fun k => (((ok k ∧ k < W.heap.size) ∨ w5.heap.size ≤ k) ∧ k < wr.heap.size) ∨ k = wr.heap.size + 1) rfl rfl HP6.out.1 ?bR ?bQ ?bF HB6'.out ?bS HLE.out.2 ?_; (case bR => exact F_one hbx1 (Kd.FK_step (Kd.FK_bound HEF.out) (fun k hk _ => HP6.out.2.1 k hk.2))); (case bQ => exact fun k hk => ⟨hk.elim (fun h => h.1) (fun h => .inr (by have := HR2.out.size; omega)), fun e => by rcases hk with hk | hk; have h1 := HP6.out.2.2 k e.symm; have h2 := hk.2; omega; exact HNB.out k e.symm hk⟩); (case bF => exact fun k hk => .inr (Nat.le_trans HR2.out.size (Nat.le_trans HS6.out hk))); (case bS => exact HB6'.out.size); intro v2 w7 ho7 hb7 hg7 hat7; have hold7 : ∀ k, k < wr.heap.size → w7.heap[k]? = wr.heap[k]? := (fun k hk => (hg7.block k (Nat.lt_of_lt_of_le hk HS6.out) (fun e => by have h1 := HP6.out.2.2 k e.symm; omega)).trans (HP6.out.2.1 k hk)); have HP7 := Aside0.mk (And.intro ho7 (And.intro hold7 (And.intro hb7 (show ∀ k, v2.ownBlock = some k → wr.heap.size ≤ k from fun k hk => by rcases hat7 with e | ⟨b, e, hb⟩; rw [e] at hk; exact HP6.out.2.2 k hk; rw [hk] at e; injection e with e; have := HS6.out; omega)))); have c22 := (World.cell?_of_block (w := wr) (a := ⟨W.heap.size, 2, none⟩) (hold7 _ hlt2)).trans q22; have hb27 := (hold7 _ hlt2).trans HB2.out; have f22 := blk_frozen hb27 2; obtain ⟨A7, c7, e7⟩ := Kd.N_slice ho7; obtain ⟨n7, hn7⟩ : ∃ n7, (([] ++ rows) ++ [(⟨id, newParts cs z ps⟩ : Ent_)] : List Ent_).length = n7 := ⟨_, rfl⟩; rw [hn7] at e7; have HN7 := Aside0.mk hn7; clear ho7 hb7 hg7 hat7 hold7 hb27 hn7; subst e7)
          | (refine Kd.N_append_rows_step k100 (w0 := W) (W := w6) W.heap.size (by rfl) (.tmp 83) (.tmp 85) 33 100 (.agg #[.int .i64 0, .int .i64 0, .slice none 0 0]) 40 rfl Tryd.underlying33 infoEnt rfl (by decide) (by omega) (.slice A6 n6 c6) ([] ++ rows) [(⟨id, newParts cs z ps⟩ : Ent_)] (some ⟨wr.heap.size, 0, none⟩) 1 1 (fun k => (ok k ∧ k < W.heap.size) ∨ w5.heap.size ≤ k) (fun k => (((ok k ∧ k < W.heap.size) ∨ w5.heap.size ≤ k) ∧ k < wr.heap.size) ∨ k = wr.heap.size) rfl rfl HP6.out.1 ?bR ?bQ ?bF HB6'.out ?bS HLE.out.2 ?_; (case bR => exact F_one hbx0 (Kd.FK_step (Kd.FK_bound HEF.out) (fun k hk _ => HP6.out.2.1 k hk.2))); (case bQ => exact fun k hk => ⟨hk.elim (fun h => h.1) (fun h => .inr (by have := HR2.out.size; omega)), fun e => by rcases hk with hk | hk; have h1 := HP6.out.2.2 k e.symm; have h2 := hk.2; omega; exact HNB.out k e.symm hk⟩); (case bF => exact fun k hk => .inr (Nat.le_trans HR2.out.size (Nat.le_trans HS6.out hk))); (case bS => exact HB6'.out.size); intro v2 w7 ho7 hb7 hg7 hat7; have hold7 : ∀ k, k < wr.heap.size → w7.heap[k]? = wr.heap[k]? := (fun k hk => (hg7.block k (Nat.lt_of_lt_of_le hk HS6.out) (fun e => by have h1 := HP6.out.2.2 k e.symm; omega)).trans (HP6.out.2.1 k hk)); have HP7 := Aside0.mk (And.intro ho7 (And.intro hold7 (And.intro hb7 (show ∀ k, v2.ownBlock = some k → wr.heap.size ≤ k from fun k hk => by rcases hat7 with e | ⟨b, e, hb⟩; rw [e] at hk; exact HP6.out.2.2 k hk; rw [hk] at e; injection e with e; have := HS6.out; omega)))); have c22 := (World.cell?_of_block (w := wr) (a := ⟨W.heap.size, 2, none⟩) (hold7 _ hlt2)).trans q22; have hb27 := (hold7 _ hlt2).trans HB2.out; have f22 := blk_frozen hb27 2; obtain ⟨A7, c7, e7⟩ := Kd.N_slice ho7; obtain ⟨n7, hn7⟩ : ∃ n7, (([] ++ rows) ++ [(⟨id, newParts cs z ps⟩ : Ent_)] : List Ent_).length = n7 := ⟨_, rfl⟩; rw [hn7] at e7; have HN7 := Aside0.mk hn7; clear ho7 hb7 hg7 hat7 hold7 hb27 hn7; subst e7))
        all_goals
          have e0 : addRE cs z rows ps = 0 := by unfold addRE; rw [if_neg HFUL.out, if_pos HFI.out]
          have e1 : addRR cs z rows id ps = rows ++ [⟨id, newParts cs z ps⟩] := by unfold addRR; rw [if_pos e0]
          have HE := Aside0.mk (And.intro e0 e1)
          have HFIN := Aside0.mk (radd_end (c0 := c0) (c1 := c1) (A0 := A0) (A1 := A1) HP7.out.1 HP7.out.2.1 HP7.out.2.2.1 HBWR.out HB2.out HB4.out HB5'.out HR2.out.size (by have := HS5.out; have := HG2.out; omega))
          have hb27 := (HP7.out.2.1 _ hlt2).trans HB2.out
          have c20 : w7.cell? ⟨W.heap.size, 0, none⟩ = some (.slice A0 nc c0) := (blk_cell hb27 0).trans rfl
          have c21 : w7.cell? ⟨W.heap.size, 1, none⟩ = some (.slice A1 nc c1) := (blk_cell hb27 1).trans rfl
          have hb47 := (HP7.out.2.1 _ (heap_lt' HB4.out)).trans HB4.out
          have hb57 := (HP7.out.2.1 _ (heap_lt' HB5'.out)).trans HB5'.out
          have f4 := blk_frozen hb47
          have f5 := blk_frozen hb57
          have t40 : w7.cell? ⟨W.heap.size + 1 + 1, 0, none⟩ = some (.slice none 0 0) := (blk_cell hb47 0).trans rfl
          have t41 : w7.cell? ⟨W.heap.size + 1 + 1, 1, none⟩ = some (.slice none 0 0) := (blk_cell hb47 1).trans rfl
          have t42 : w7.cell? ⟨W.heap.size + 1 + 1, 2, none⟩ = some (.slice none 0 0) := (blk_cell hb47 2).trans rfl
          have t50 : w7.cell? ⟨W.heap.size + 1 + 1 + 1, 0, none⟩ = some (.slice none 0 0) := (blk_cell hb57 0).trans rfl
          have t51 : w7.cell? ⟨W.heap.size + 1 + 1 + 1, 1, none⟩ = some (.slice none 0 0) := (blk_cell hb57 1).trans rfl
          have t52 : w7.cell? ⟨W.heap.size + 1 + 1 + 1, 2, none⟩ = some (.int .i64 0) := (blk_cell hb57 2).trans rfl
          have t53 : w7.cell? ⟨W.heap.size + 1 + 1 + 1, 3, none⟩ = some (.int .i64 0) := (blk_cell hb57 3).trans rfl
          have t54 : w7.cell? ⟨W.heap.size + 1 + 1 + 1, 4, none⟩ = some (.bool false) := (blk_cell hb57 4).trans rfl
          have t55 : w7.cell? ⟨W.heap.size + 1 + 1 + 1, 5, none⟩ = some (.int .i64 0) := (blk_cell hb57 5).trans rfl
          have hx35 : (Tryd.prog.info? 35).map (·.size) = some 3 := by kernel_rfl
          clear e0 e1 hb27 hb47 hb57 q60 q61 q62 c60 c61 c62 HP6 HB6' HS6 HEF HLE HF2
          go_wp2
          obtain ⟨t4, t5, hn7, hf7, hb7⟩ := HFIN.out _ rfl
          refine bodyPost_ret (results_cell2_row rfl _ _ _ _ _ _ _ _ _ _ _ _ rfl rfl t4 t5 hu35 rfl (by kernel_rfl) hu42 rfl (by kernel_rfl)) rfl ?_
          rw [HE.out.1, HE.out.2]
          have hN7 := HN7.out
          rw [List.nil_append] at hN7 hf7
          rw [hN7]
          exact ⟨A7, c7, rfl, hn7, hf7, hb7⟩

end Go.Proofs.YtnhejenjpomhdaaDoor.Ref
