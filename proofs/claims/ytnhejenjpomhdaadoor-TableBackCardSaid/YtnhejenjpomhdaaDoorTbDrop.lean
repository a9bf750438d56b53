/- A table's row falls. -/
import Derived.Test.YtnhejenjpomhdaaDoorTbParts
namespace Go.Proofs.YtnhejenjpomhdaaDoor.Tab
open Go.RowKit Go.Proofs.YtnhejenjpomhdaaDoorW.PrintWords Go.Proofs.YtnhejenjpomhdaaDoorW.PrintLast Go.Proofs.YtnhejenjpomhdaaDoorW.PrintMore Go.Proofs.YtnhejenjpomhdaaDoor.Mem Go.Proofs.YtnhejenjpomhdaaDoor.Col Go.Proofs.YtnhejenjpomhdaaDoor.Bits Go.Proofs.YtnhejenjpomhdaaDoor.Data Go.Proofs.YtnhejenjpomhdaaDoor.Mp Go.Proofs.YtnhejenjpomhdaaDoor.PTableLoads
set_option linter.unusedVariables false
set_option linter.unusedSimpArgs false

theorem results_cell_row2 {P : Program} {fn : Func} {p u v : Tmp} {ty : TypeId} (h : fn.results = #[.cell p ty, .tmp u, .tmp v]) (tmps : Array Value) (w : World) (g : Nat) (t : TypeId) (cs : Array Value) (fr : Nat × Nat) (d : TypeDesc)
    (hp : tmps.getD p undef = .pointer (some ⟨g, 0, none⟩)) (hg : w.heap[g]? = some (.cells cs t fr))
    (hu : P.underlying ty = some d) (hd : (match d with | .struct _ | .array _ _ => true | _ => false) = true) (hi : (P.info? ty).map (·.size) = some cs.size) :
    (results fn tmps).run P w = .ok (.tuple #[.agg cs, tmps.getD u undef, tmps.getD v undef]) w := by
  have hp' : tmps[p]?.getD undef = .pointer (some ⟨g, 0, none⟩) := by simpa using hp
  simp [results, h, hp', asAddr, run_loadVar_row w g t ty cs fr d hg hu hd hi]

theorem bitsN_nodup (s : Nat) : (bitsN s).Nodup := List.Nodup.sublist List.filter_sublist List.nodup_range
theorem bitsL_nodup (s : Nat) : (bitsL s).Nodup := by
  have h := bitsN_nodup s
  unfold bitsL
  unfold List.Nodup at *
  rw [List.pairwise_map]
  exact h.imp (fun hne e => hne (by omega))

/-- What a table lies in was there. -/
theorem TabM.bound {W : World} {g m : Nat} {F : Nat → Prop} {t : TabS} {vi : Value} {cg : Nat → Nat} {cF : Nat → Nat → Prop} {cr : Nat → Nat} (h : TabM W g F t vi m cg cF cr) :
    TabM W g (fun k => F k ∧ k < W.heap.size) t vi m cg (fun j b => cF j b ∧ b < W.heap.size) cr where
  blk := h.blk
  ids := h.ids
  map := h.map
  cols := fun k hk => (h.cols k hk).bound
  fg := ⟨h.fg, heap_lt' h.blk⟩
  fm := ⟨h.fm, h.map.lt⟩
  fi := fun k hk => ⟨h.fi k hk, h.ids.lt k hk⟩
  fc := fun k hk b hb => ⟨h.fc k hk b hb.1, hb.2⟩
  sep := fun k hk b hb => h.sep k hk b hb.1
  dis := fun k k' hk hk' hne b hb hb' => h.dis k k' hk hk' hne b hb.1 hb'.1
  sig_lt := h.sig_lt
  n_le := h.n_le
theorem IsTab.bound {W : World} {g : Nat} {F : Nat → Prop} {t : TabS} (h : IsTab W g F t) : IsTab W g (fun k => F k ∧ k < W.heap.size) t := by
  obtain ⟨vi, m, cg, cF, h⟩ := h
  exact ⟨vi, m, cg, _, h.bound⟩

/-- A column turned in place: the table is as it was, but for it. -/
theorem TabM.put0 {W W1 : World} {g m : Nat} {F : Nat → Prop} {t : TabS} {vi : Value} {cg : Nat → Nat} {cF : Nat → Nat → Prop} {cr : Nat → Nat} (h : TabM W g F t vi m cg cF cr) {k0 : Nat} (hk0 : k0 ∈ bitsN t.sig) {b' : List Int} {r' : Nat}
    (hs : Fr (cF k0) W W1) (hc : Col W1 (cg k0) (cF k0) b' r' (t.cz k0)) :
    TabM W1 g F { t with cb := fun j => if j = k0 then b' else t.cb j } vi m cg cF (fun j => if j = k0 then r' else cr j) := by
  have hold : ∀ b, b < W.heap.size → ¬ cF k0 b → W1.heap[b]? = W.heap[b]? := fun b hlt hn => hs.block b hlt hn
  have hsep := h.sep k0 hk0
  exact {
    blk := (hold g (heap_lt' h.blk) (fun hb => (hsep g hb).1 rfl)).trans h.blk
    ids := h.ids.move (fun b hb => hold b (h.ids.lt b hb) (fun hc => (hsep b hc).2.2 hb))
    map := h.map.same (hold m h.map.lt (fun hb => (hsep m hb).2.1 rfl))
    cols := fun k hk => by
      by_cases he : k = k0
      · subst he; simp only [if_true]; exact hc
      · simp only [if_neg he]
        exact (h.cols k hk).move (fun b hb hlt => hold b hlt (fun hc => h.dis k k0 hk hk0 he b hb hc))
    fg := h.fg, fm := h.fm, fi := h.fi, fc := h.fc, sep := h.sep, dis := h.dis, sig_lt := h.sig_lt, n_le := h.n_le }

/-- The same content told in other words. -/
theorem TabM.same {W : World} {g m : Nat} {F : Nat → Prop} {t t' : TabS} {vi : Value} {cg : Nat → Nat} {cF : Nat → Nat → Prop} {cr cr' : Nat → Nat} (h : TabM W g F t vi m cg cF cr) (h1 : t'.sig = t.sig) (h2 : t'.ids = t.ids)
    (h3 : ∀ k, k ∈ bitsN t.sig → t'.cb k = t.cb k) (h4 : ∀ k, k ∈ bitsN t.sig → t'.cz k = t.cz k) (h5 : ∀ k, k ∈ bitsN t.sig → cr' k = cr k) : TabM W g F t' vi m cg cF cr' := by
  obtain ⟨s, i, b, z⟩ := t
  obtain ⟨s', i', b', z'⟩ := t'
  simp only at h1 h2 h3 h4 h5
  subst h1; subst h2
  have hcols : ∀ k, k ∈ bitsN s' → Col W (cg k) (cF k) (b' k) (cr' k) (z' k) := fun k hk => by rw [h3 k hk, h4 k hk, h5 k hk]; exact h.cols k hk
  exact { h with cols := hcols }

/-! The names -/
def dropI (ids : List ID_) (row : Nat) : List ID_ := (ids.set row (ids.getD (ids.length - 1) z40)).take (ids.length - 1)
theorem ids_put {W : World} {ids : List ID_} {gb l c row : Nat} (h : OwnI W (.slice (some ⟨gb, 0, none⟩) (l + 1) c) ids) (hr : row ≤ l) (x : ID_) :
    OwnI ((W.setCell ⟨gb, row * 2, none⟩ (.int .i64 x.f0)).setCell ⟨gb, row * 2 + 1, none⟩ (.int .i64 x.f1)) (.slice (some ⟨gb, 0, none⟩) l c) ((ids.set row x).take l) := by
  have hn := (Kd.R_reads' h).1
  obtain ⟨ce, h1, h2, h3, _⟩ := Kd.R_elem h z40 (row : Int) (by omega) (by omega)
  have hsz : k40.sz = 2 := rfl
  rw [hsz] at h1
  have h4 := (Kd.R_seg (okp := fun _ => False) h (row : Int) (by omega) (by omega) (c := ce) (seg := [.int .i64 x.f0, .int .i64 x.f1]) (j := 0) h1 h3 (by simp [hsz]) (x' := x) (by
    have e : ce.take 0 ++ [Value.int .i64 x.f0, .int .i64 x.f1] ++ ce.drop (0 + [Value.int IntKind.i64 x.f0, .int .i64 x.f1].length) = [.int .i64 x.f0, .int .i64 x.f1] := by
      simp [List.drop_eq_nil_of_le (show ce.length ≤ 2 by omega)]
    rw [e]
    exact k40_mkM _ _ _ x) (fun k hk => hk.elim)).1
  have h5 := Kd.R_take (m := l) h4 (by simp; omega)
  simp only [World.setCells, hsz, Int.toNat_natCast, Nat.add_zero] at h5
  exact h5
theorem own_block {W : World} {v : Value} {ids : List ID_} (h : OwnI W v ids) (hn : 0 < ids.length) : ∃ gb c, v = .slice (some ⟨gb, 0, none⟩) ids.length c ∧ ∃ cells, W.heap[gb]? = some (.cells cells 40 (0, 0)) := by
  have h0 := h
  obtain ⟨_, inner, ho, hr⟩ := h
  rcases ho.2 with ⟨h1, h2⟩ | ⟨g, cap, cur, h1, _, h3, _⟩
  · omega
  · exact ⟨g, cap, h1, cur, h3⟩

/-- The table's names' row is another one. -/
theorem map_ne_cells {W : World} {m : Nat} {kd : IntKind} {f : Int → Option Value} {cs : Array Value} {t : Nat} {fr : Nat × Nat} (h : MapIs W m kd f) (hb : W.heap[m]? = some (.cells cs t fr)) : False := by
  obtain ⟨es, c, h1, _⟩ := h
  rw [h1] at hb
  cases hb
theorem TabM.ids_to {W W1 : World} {g m : Nat} {F : Nat → Prop} {t : TabS} {vi vi' : Value} {cg : Nat → Nat} {cF : Nat → Nat → Prop} {cr : Nat → Nat} {ids' : List ID_} (h : TabM W g F t vi m cg cF cr)
    (hb : W1.heap[g]? = some (.cells #[.int .u64 t.sig, vi', .map (some m)] 94 (0, 0))) (ho : OwnI W1 vi' ids') (hn : ids'.length ≤ 1024)
    (hold : ∀ k, F k → k < W.heap.size → k ≠ g → vi.ownBlock ≠ some k → W1.heap[k]? = W.heap[k]?) (hv : ∀ k, vi'.ownBlock = some k → vi.ownBlock = some k ∨ W.heap.size ≤ k) (hf : ∀ k, vi'.ownBlock = some k → F k) :
    TabM W1 g F { t with ids := ids' } vi' m cg (fun j b => cF j b ∧ b < W.heap.size) cr := by
  have hmg : m ≠ g := by
    intro e
    have h1 := h.blk
    have h2 := h.map
    rw [← e] at h1
    exact map_ne_cells h2 h1
  have hmi : vi.ownBlock ≠ some m := by
    intro e
    obtain ⟨cells, hc⟩ := own_typed h.ids.2.choose_spec.1 m e
    exact map_ne_cells h.map hc
  exact {
    blk := hb, ids := ho
    map := h.map.same (hold m h.fm h.map.lt hmg hmi)
    cols := fun k hk => ((h.cols k hk).bound).move (fun b hb hlt => hold b (h.fc k hk b hb.1) hlt (h.sep k hk b hb.1).1 (h.sep k hk b hb.1).2.2)
    fg := h.fg, fm := h.fm, fi := hf
    fc := fun k hk b hb => h.fc k hk b hb.1
    sep := fun k hk b hb => ⟨(h.sep k hk b hb.1).1, (h.sep k hk b hb.1).2.1, fun e => by
      rcases hv b e with h1 | h1
      · exact (h.sep k hk b hb.1).2.2 h1
      · have := hb.2; omega⟩
    dis := fun k k' hk hk' hne b hb hb' => h.dis k k' hk hk' hne b hb.1 hb'.1
    sig_lt := h.sig_lt, n_le := hn }

/-- What a fall leaves of a component's bytes; and of a table. -/
def dropB (b : List Int) (row n size : Nat) : List Int := (layB b (row * size) (rowB b (n - 1) size)).take ((n - 1) * size)
def dropT (t : TabS) (row : Nat) : TabS := { t with ids := dropI t.ids row, cb := fun k => dropB (t.cb k) row t.ids.length (t.cz k) }
def dropV (t : TabS) (row : Nat) : ID_ := if row = t.ids.length - 1 then z40 else t.ids.getD (t.ids.length - 1) z40
/-- Half way: the components of xs have fallen. -/
def dropCb (t : TabS) (row : Nat) (xs : List Int) : TabS := { t with cb := fun k => if (k : Int) ∈ xs then dropB (t.cb k) row t.ids.length (t.cz k) else t.cb k }
def dropCr (t : TabS) (xs : List Int) : Nat → Nat := fun k => if (k : Int) ∈ xs then t.ids.length - 1 else t.ids.length

theorem drop_start {W : World} {g m : Nat} {F : Nat → Prop} {t : TabS} {vi : Value} {cg : Nat → Nat} {cF : Nat → Nat → Prop} (row : Nat) (h : TabM W g F t vi m cg cF (fun _ => t.ids.length)) : TabM W g F (dropCb t row []) vi m cg cF (dropCr t []) :=
  h.same rfl rfl (fun k _ => by simp [dropCb]) (fun k _ => rfl) (fun k _ => by simp [dropCr])
theorem drop_next {W W1 : World} {g m : Nat} {F : Nat → Prop} {t : TabS} {vi : Value} {cg : Nat → Nat} {cF : Nat → Nat → Prop} {row i : Nat} {xs : List Int} (h : TabM W g F (dropCb t row xs) vi m cg cF (dropCr t xs)) (hi : i ∈ bitsN t.sig) (hx : (i : Int) ∉ xs)
    (hc : Col W1 (cg i) (cF i) (dropB (t.cb i) row t.ids.length (t.cz i)) (t.ids.length - 1) (t.cz i)) (hf : Fr (cF i) W W1) : TabM W1 g F (dropCb t row (xs ++ [(i : Int)])) vi m cg cF (dropCr t (xs ++ [(i : Int)])) :=
  (h.put0 (k0 := i) hi hf hc).same rfl rfl (fun k _ => by
      by_cases he : k = i
      · subst he; simp [dropCb]
      · have : ¬ (k : Int) = (i : Int) := by omega
        simp [dropCb, he, this]) (fun k _ => rfl) (fun k _ => by
      by_cases he : k = i
      · subst he; simp [dropCr]
      · have : ¬ (k : Int) = (i : Int) := by omega
        simp [dropCr, he, this])
theorem drop_done {W : World} {g m : Nat} {F : Nat → Prop} {t : TabS} {vi : Value} {cg : Nat → Nat} {cF : Nat → Nat → Prop} {row : Nat} (h : TabM W g F (dropCb t row (bitsL t.sig)) vi m cg cF (dropCr t (bitsL t.sig))) :
    TabM W g F { t with cb := fun k => dropB (t.cb k) row t.ids.length (t.cz k) } vi m cg cF (fun _ => t.ids.length - 1) :=
  h.same rfl rfl (fun k hk => by
      have : (k : Int) ∈ bitsL t.sig := mem_bitsL.2 ⟨k, rfl, hk⟩
      simp [dropCb, this]) (fun k _ => rfl) (fun k hk => by
      have : (k : Int) ∈ bitsL t.sig := mem_bitsL.2 ⟨k, rfl, hk⟩
      simp [dropCr, this])
theorem nodup_at {xs : List Int} (h : xs.Nodup) {j : Nat} (hj : j < xs.length) : rd xs (j : Int) ∉ xs.take j := by
  intro hm
  obtain ⟨i, hi, he⟩ := List.getElem_of_mem hm
  simp only [List.length_take] at hi
  rw [List.getElem_take] at he
  simp only [rd, Int.toNat_natCast, List.getD_eq_getElem?_getD, List.getElem?_eq_getElem hj, Option.getD_some] at he
  exact (List.pairwise_iff_getElem.1 h) i j (by omega) hj (by omega) he
theorem take_rd {xs : List Int} {j : Nat} (hj : j < xs.length) : xs.take j ++ [rd xs (j : Int)] = xs.take (j + 1) := by
  rw [List.take_add_one]
  simp [rd, List.getD_eq_getElem?_getD, List.getElem?_eq_getElem hj]

def dropId (t : TabS) (row : Int) : ID_ := if atE t.ids.length row ≠ 0 then z40 else dropV t row.toNat
def dropOk (t : TabS) (row : Int) : Bool := decide (atE t.ids.length row = 0 ∧ row.toNat ≠ t.ids.length - 1)
def DropTold (W : World) (g : Nat) (F : Nat → Prop) (t : TabS) (row : Int) (w' : World) : Prop := if atE t.ids.length row = 0 then IsTab w' g F (dropT t row.toNat) ∧ Fr F W w' else Below W.heap.size W w'

theorem drop_tail {W wr w5 : World} {g m gb l cc row rb : Nat} {F F' : Nat → Prop} {t : TabS} {cg : Nat → Nat} {cF : Nat → Nat → Prop} {x : ID_}
    (hM : TabM wr g F' { t with cb := fun k => dropB (t.cb k) row t.ids.length (t.cz k) } (.slice (some ⟨gb, 0, none⟩) (l + 1) cc) m cg cF (fun _ => t.ids.length - 1)) (hl : t.ids.length = l + 1) (hrow : row ≤ l) (hg : g ≠ gb) (hx : t.ids.getD l z40 = x)
    (h5 : ((wr.setCell ⟨gb, row * 2, none⟩ (.int .i64 x.f0)).setCell ⟨gb, row * 2 + 1, none⟩ (.int .i64 x.f1)).drew = w5) (hr : rb = W.heap.size) (hF' : ∀ k, F' k → F k ∧ k < W.heap.size) (a b : Value) (hfr : Fr F W wr) :
    IsTab (((w5.setCell ⟨g, 1, none⟩ (.slice (some ⟨gb, 0, none⟩) l cc)).setCell ⟨rb, 0, none⟩ a).setCell ⟨rb, 1, none⟩ b) g F (dropT t row) ∧ Fr F W (((w5.setCell ⟨g, 1, none⟩ (.slice (some ⟨gb, 0, none⟩) l cc)).setCell ⟨rb, 0, none⟩ a).setCell ⟨rb, 1, none⟩ b) := by
  have hFg := hF' g hM.fg
  have hFb := hF' gb (hM.fi gb rfl)
  have hrg : g ≠ rb := by omega
  have hrb : gb ≠ rb := by omega
  have hput := ids_put (row := row) hM.ids hrow x
  have hfr5 : Fr F W w5 := by
    rw [← h5]
    exact ((hfr.setCell (p := ⟨gb, row * 2, none⟩) (.inl hFb.1) _).setCell (p := ⟨gb, row * 2 + 1, none⟩) (.inl hFb.1) _).drew
  have h5b : ∀ k, k ≠ gb → w5.heap[k]? = wr.heap[k]? := fun k hk => by
    rw [← h5]
    show ((wr.setCell ⟨gb, row * 2, none⟩ (.int .i64 x.f0)).setCell ⟨gb, row * 2 + 1, none⟩ (.int .i64 x.f1)).heap[k]? = _
    rw [Below.heap_setCell _ _ _ k hk, Below.heap_setCell _ _ _ k hk]
  have hput5 : OwnI w5 (.slice (some ⟨gb, 0, none⟩) l cc) ((t.ids.set row x).take l) := hput.move (fun k _ => by rw [← h5]; rfl)
  have hb5 := (h5b g hg).trans hM.blk
  refine ⟨?_, ((hfr5.setCell (p := ⟨g, 1, none⟩) (.inl hFg.1) _).setCell (p := ⟨rb, 0, none⟩) (.inr (Nat.le_of_eq hr.symm)) _).setCell (p := ⟨rb, 1, none⟩) (.inr (Nat.le_of_eq hr.symm)) _⟩
  have h3b : ∀ k, k ≠ g → k ≠ rb → (((w5.setCell ⟨g, 1, none⟩ (.slice (some ⟨gb, 0, none⟩) l cc)).setCell ⟨rb, 0, none⟩ a).setCell ⟨rb, 1, none⟩ b).heap[k]? = w5.heap[k]? := fun k h1 h2 => by
    rw [Below.heap_setCell _ _ _ k h2, Below.heap_setCell _ _ _ k h2, Below.heap_setCell _ _ _ k h1]
  have hb3 : (((w5.setCell ⟨g, 1, none⟩ (.slice (some ⟨gb, 0, none⟩) l cc)).setCell ⟨rb, 0, none⟩ a).setCell ⟨rb, 1, none⟩ b).heap[g]? = some (.cells #[.int .u64 t.sig, .slice (some ⟨gb, 0, none⟩) l cc, .map (some m)] 94 (0, 0)) := by
    rw [Below.heap_setCell _ _ _ g hrg, Below.heap_setCell _ _ _ g hrg]
    simpa using blk_set hb5 1 (.slice (some ⟨gb, 0, none⟩) l cc)
  have ho3 := hput5.move (W1 := ((w5.setCell ⟨g, 1, none⟩ (.slice (some ⟨gb, 0, none⟩) l cc)).setCell ⟨rb, 0, none⟩ a).setCell ⟨rb, 1, none⟩ b) (fun k hk => by
    have e : gb = k := by simpa [Value.ownBlock] using hk
    subst e
    exact h3b _ (Ne.symm hg) hrb)
  have hlen : ((t.ids.set row x).take l).length = l := by simp; omega
  have hle : t.ids.length ≤ 1024 := hM.n_le
  have hT := hM.ids_to hb3 ho3 (by rw [hlen]; omega) (fun k hF hk h1 h2 => by
    have h6 : k ≠ gb := fun e => h2 (by rw [e]; rfl)
    have h7 : k ≠ rb := fun e => by have := (hF' k hF).2; omega
    rw [h3b k h1 h7, h5b k h6]) (fun k hk => .inl hk) (fun k hk => hM.fi k hk)
  refine ⟨_, m, cg, _, (hT.same (t' := dropT t row) (cr' := fun _ => (dropT t row).ids.length) rfl ?_ (fun k _ => rfl) (fun k _ => rfl) (fun k _ => ?_)).mono (fun k hk => (hF' k hk).1)⟩
  · simp only [dropT, dropI, hl, Nat.add_sub_cancel, hx]
  · simp only [dropT, dropI, hl, Nat.add_sub_cancel, hx]
    exact hlen

set_option maxHeartbeats 4000000 in
set_option maxRecDepth 100000 in
theorem tdrop_calls {W : World} {g : Nat} {F : Nat → Prop} {t : TabS} (h : IsTab W g F t) (hT : Tab W) (row : Int) :
    Calls Tryd.prog 18 #[.pointer (some ⟨g, 0, none⟩), .int .i64 row] W fun e w' => e = .returned (.tuple #[.agg #[.int .i64 (dropId t row).f0, .int .i64 (dropId t row).f1], .bool (dropOk t row), .int .i64 (atE t.ids.length row)]) ∧ DropTold W g F t row w' := by
  have hb0 : Below W.heap.size W (W.alloc (.cells #[.int .i64 0, .int .i64 0] 40)) := (Below.refl _ _).alloc (Nat.le_refl _) _
  have hrc : (W.alloc (.cells #[.int .i64 0, .int .i64 0] 40)).heap[W.heap.size]? = some (.cells #[.int .i64 0, .int .i64 0] 40 (0, 0)) := by simpa using heap_alloc_new W _
  have hat := Aside0.mk (tat_calls (h.below hb0) row)
  obtain ⟨vi, m, cg, cF, h⟩ := h
  have hu := Tryd.underlying30
  by_cases he : atE t.ids.length row = 0
  · obtain ⟨row, rfl, hrow⟩ := at_zero he
    rw [he]
    have hM0 := h.bound.move (W1 := W.alloc (.cells #[.int .i64 0, .int .i64 0] 40)) (fun k _ hk => hb0.block k hk)
    have hT0 := hT.below hb0
    obtain ⟨W0, hW0⟩ : ∃ W0, W.alloc (.cells #[.int .i64 0, .int .i64 0] 40) = W0 := ⟨_, rfl⟩
    rw [hW0] at hat hb0 hrc hM0 hT0
    rw [he] at hat
    have HW := Aside0.mk hW0
    have HB0 := Aside0.mk hb0
    have HRC := Aside0.mk hrc
    have hc0 : W0.cell? ⟨g, 0, none⟩ = some (.int .u64 t.sig) := (blk_cell hM0.blk 0).trans rfl
    have HL := Aside0.mk (list_calls t.sig h.sig_lt W0 hT0)
    have HS := Aside0.mk (drop_start row hM0)
    have HE := Aside0.mk he
    have HN := Aside0.mk (bitsL_length t.sig)
    have HND := Aside0.mk (bitsL_nodup t.sig)
    have HROW := Aside0.mk hrow
    obtain ⟨r, hr⟩ : ∃ r, W.heap.size = r := ⟨_, rfl⟩
    have HRS := Aside0.mk hr
    obtain ⟨ks, hks⟩ : ∃ ks, bitsL t.sig = ks := ⟨_, rfl⟩
    have HKS := Aside0.mk hks
    rw [hks] at HL HN HND
    clear h hT hT0 he hks hb0 hrc hM0 hW0 hrow hr
    go_enter Tryd.func18, Tryd.ntmps18
    go_wp2_with fail
    simp only [HW.out]
    refine hat.out.mono ?_
    rintro e w' ⟨rfl, rfl⟩
    go_wp2_with fail
    refine HL.out.mono ?_
    rintro e w1 ⟨v, rfl, hR1, hB1⟩
    obtain ⟨A, c, rfl⟩ := Kd.R_slice hR1
    obtain ⟨n, hn⟩ : ∃ n, ks.length = n := ⟨_, rfl⟩
    have HR1 := Aside0.mk (Kd.R_mono (ok' := fun k => W0.heap.size ≤ k) (Kd.R_bound hR1) (fun k hk => hk.2.1))
    rw [hn] at HR1 HN ⊢
    have HNN := Aside0.mk hn
    have HS1 := Aside0.mk (HS.out.move (W1 := w1) (fun k _ hk => hB1.block k hk))
    have HF1 := Aside0.mk (Fr.refl (fun k => F k ∧ k < W.heap.size) w1)
    have HB1 := Aside0.mk hB1
    clear hR1 hn hB1 HS hc0
    go_wp2
    go_loopg [24] n (fun gk v24 wr => ∃ j : Nat, v24 = .int .i64 j ∧ Aside0 (j + gk = n) ∧ Aside0 (TabM wr g (fun k => F k ∧ k < W.heap.size) (dropCb t row (ks.take j)) vi m cg (fun j b => cF j b ∧ b < W.heap.size) (dropCr t (ks.take j))) ∧ Aside0 (Fr (fun k => F k ∧ k < W.heap.size) w1 wr))
    case atStart => exact ⟨0, rfl, ⟨by omega⟩, HS1, HF1⟩
    case round =>
      obtain ⟨j, rfl, H, HM, HF⟩ := hrel
      by_cases hlt : j < n
      · have q0 : decide ((j : Int) < (n : Int)) = true := by simp; omega
        have p0 : (0 : Int) ≤ (j : Int) := by omega
        have p1 : (j : Int) < (n : Int) := by omega
        have hR2 := Kd.R_step HR1.out (w1 := wr) (fun k hk hlt => HF.out.block k hlt (fun hf => by have := hf.2; have := HB0.out.size; omega))
        have hRR := Kd.R_reads' hR2
        have hCC := hRR.2.2
        rw [HNN.out] at hCC
        obtain ⟨ad, e1, hx⟩ := Kd.at_int hCC (j : Int) p0 p1
        subst e1
        simp only [Int.toNat_natCast] at hx
        have hmem : rd ks (j : Int) ∈ bitsL t.sig := by rw [HKS.out]; exact rd_mem (by rw [HNN.out]; exact hlt)
        have hnot := nodup_at HND.out (show j < ks.length by rw [HNN.out]; exact hlt)
        have HTK := Aside0.mk (take_rd (show j < ks.length by rw [HNN.out]; exact hlt))
        obtain ⟨x, hxx⟩ : ∃ x, rd ks (j : Int) = x := ⟨_, rfl⟩
        rw [hxx] at hx hmem HTK hnot
        obtain ⟨i, rfl, hi⟩ := mem_bitsL.1 hmem
        have hcol := HM.out.cols i hi
        have e2 : (dropCb t row (ks.take j)).cb i = t.cb i := by simp [dropCb, hnot]
        have e3 : dropCr t (ks.take j) i = t.ids.length := by simp [dropCr, hnot]
        rw [e2, e3] at hcol
        have hg := drop_calls hcol (row : Int)
        rw [HE.out] at hg
        have HG := Aside0.mk hg
        have HNX := Aside0.mk (fun (W1 : World) => drop_next (W1 := W1) HM.out hi hnot)
        have HFI := Aside0.mk (HM.out.fc i hi)
        have hz : ∀ w, (zeroValue 97).run Tryd.prog w = .ok (.pointer none) w := fun w => by kernel_rfl
        have hlk := HM.out.map.lookup (P := Tryd.prog) Tryd.underlying92 Tryd.underlying3 (hz wr) i
        unfold colPtr at hlk
        rw [if_pos (show (i : Int) ∈ bitsL (dropCb t row (ks.take j)).sig from hmem)] at hlk
        simp only [Option.getD_some, Int.toNat_natCast] at hlk
        have hc2 : wr.cell? ⟨g, 2, none⟩ = some (.map (some m)) := (blk_cell HM.out.blk 2).trans rfl
        clear hz hg hmem hi hxx hR2 hRR hCC hnot e2 e3 hcol
        go_wp2_with fail
        refine HG.out.mono ?_
        rintro e w2 ⟨rfl, hcase⟩
        have HC := Aside0.mk (show Col w2 (cg i) _ (dropB (t.cb i) row t.ids.length (t.cz i)) (t.ids.length - 1) (t.cz i) ∧ Fr _ wr w2 from by
          rcases hcase with ⟨h1, _⟩ | ⟨_, h2⟩
          · exact absurd rfl h1
          · exact h2)
        have HM2 := Aside0.mk (HNX.out w2 HC.out.1 HC.out.2)
        rw [HTK.out] at HM2
        have HF2 := Aside0.mk (HF.out.trans (HC.out.2.mono (fun k _ hk => HFI.out k hk)))
        have hn64 := HN.out
        have hh := H.out
        obtain ⟨k1, rfl⟩ : ∃ k1, gk = k1 + 1 := ⟨gk - 1, by omega⟩
        have HH := Aside0.mk (show (j + 1) + k1 = n by omega)
        clear hcase hh H HG HNX HFI hlk hc2 hx HC HM HF
        go_wp2
        go_roundg k1
        case measure => omega
        case rel => exact ⟨j + 1, by go_num, HH, HM2, HF2⟩
      · have q0 : decide ((j : Int) < (n : Int)) = false := by simp; omega
        have hM := HM.out
        rw [List.take_of_length_le (by have := HNN.out; omega), ← HKS.out] at hM
        have hM := drop_done hM
        have hrow' := HROW.out
        obtain rfl := HRS.out
        obtain ⟨gb, cc, hv, cells, hcl⟩ := own_block hM.ids (by show 0 < t.ids.length; omega)
        obtain ⟨l, hl⟩ : ∃ l, t.ids.length = l + 1 := ⟨t.ids.length - 1, by have := HROW.out; omega⟩
        have hv' : vi = .slice (some ⟨gb, 0, none⟩) (l + 1) cc := by rw [← hl]; exact hv
        subst hv'
        have hg1 : g ≠ gb := fun e => by
          have h1 := hM.blk
          rw [e, hcl] at h1
          injection h1 with h1
          injection h1 with _ h1
          exact absurd h1 (by decide)
        have hg2 : gb ≠ g := Ne.symm hg1
        have hFg := hM.fg
        have hFb := hM.fi gb rfl
        have hr1 : W.heap.size ≠ g := fun e => by have := hFg.2; omega
        have hr2 : W.heap.size ≠ gb := fun e => by have := hFb.2; omega
        have hrc : wr.heap[W.heap.size]? = some (.cells #[.int .i64 0, .int .i64 0] 40 (0, 0)) := by
          have h1 := HRC.out
          have h2 := heap_lt' h1
          rw [← HB1.out.block _ h2, ← HF.out.block _ (Nat.lt_of_lt_of_le h2 HB1.out.size) (fun hf => by have := hf.2; omega)] at h1
          exact h1
        have hcap := (Kd.R_reads' hM.ids).2.1
        have hidC := (Kd.R_reads' hM.ids).2.2
        obtain ⟨R, hR⟩ : ∃ R : Nat, R = l + 1 := ⟨_, rfl⟩
        have k1 : wr.cell? ⟨g, 1, none⟩ = some (.slice (some ⟨gb, 0, none⟩) R cc) := by rw [hR]; exact (blk_cell hM.blk 1).trans rfl
        have k2 := blk_frozen hM.blk 1
        have fb := fun i => blk_frozen hcl i
        have fr0 := blk_frozen hrc 0
        have fr1 := blk_frozen hrc 1
        obtain ⟨ad, e1, x0, x1⟩ := at_T40 hidC (l : Int) (by omega) (by show (l : Int) < (t.ids.length : Int); omega)
        injection e1 with e1
        subst e1
        simp only [Int.toNat_natCast, add_plain, rd_T40] at x0 x1
        obtain ⟨x, hx⟩ : ∃ x : ID_, t.ids.getD l z40 = x := ⟨_, rfl⟩
        rw [hx] at x0 x1
        obtain ⟨ad, e2, y0, y1⟩ := at_T40 hidC (row : Int) (by omega) (by show (row : Int) < (t.ids.length : Int); omega)
        injection e2 with e2
        subst e2
        simp only [Int.toNat_natCast, add_plain, rd_T40] at y0 y1
        obtain ⟨y, hy⟩ : ∃ y : ID_, t.ids.getD row z40 = y := ⟨_, rfl⟩
        rw [hy] at y0 y1
        have hlR : l < R := by omega
        have hrR : row < R := by omega
        have HX := Aside0.mk hx
        have HMM := Aside0.mk hM
        have HRR := Aside0.mk hR
        have HL1 := Aside0.mk hl
        have HRW := Aside0.mk hrow'
        have HRCC := Aside0.mk hrc
        have HFG := Aside0.mk hFg
        have HFB := Aside0.mk hFb
        have HCL := Aside0.mk hcl
        have hsub : (R : Int) - 1 = (l : Int) := by rw [hR]; omega
        have hR1 : (1 : Int) ≤ R := by omega
        have hn_le := hM.n_le
        have hR2 : (R : Int) ≤ 1024 := by have h9 : t.ids.length ≤ 1024 := hn_le; omega
        have hwrap : IntKind.i64.wrap ((R : Int) - 1) = (l : Int) := by rw [IntKind.wrap_i64]; omega
        clear hn_le hx hy hM hR hl hrc hFg hFb hidC hcl hv HM
        go_wp2
        go_region
        generalize hw5 : ((wr.setCell { block := gb, off := row * 2 } (Value.int IntKind.i64 x.f0)).setCell { block := gb, off := row * 2 + 1 } (Value.int IntKind.i64 x.f1)).drew = w5
        have h5b : ∀ k, k ≠ gb → w5.heap[k]? = wr.heap[k]? := fun k hk => by
          rw [← hw5]
          show ((wr.setCell { block := gb, off := row * 2 } (Value.int IntKind.i64 x.f0)).setCell { block := gb, off := row * 2 + 1 } (Value.int IntKind.i64 x.f1)).heap[k]? = _
          rw [Below.heap_setCell _ _ _ k hk, Below.heap_setCell _ _ _ k hk]
        have h5g : ∃ cs, w5.heap[gb]? = some (.cells cs 40 (0, 0)) := by
          have e1 := blk_set (blk_set HCL.out (row * 2) (Value.int IntKind.i64 x.f0)) (row * 2 + 1) (Value.int IntKind.i64 x.f1)
          exact ⟨_, by rw [← hw5]; exact e1⟩
        obtain ⟨cs5, h5g⟩ := h5g
        have h5r : w5.heap[W.heap.size]? = some (.cells #[.int .i64 0, .int .i64 0] 40 (0, 0)) := (h5b _ hr2).trans HRCC.out
        have h5t := (h5b _ hg1).trans HMM.out.blk
        have z0 : w5.cell? ⟨gb, row * 2, none⟩ = some (.int .i64 x.f0) := by
          rw [← hw5]
          show ((wr.setCell { block := gb, off := row * 2 } (Value.int IntKind.i64 x.f0)).setCell { block := gb, off := row * 2 + 1 } (Value.int IntKind.i64 x.f1)).cell? _ = _
          go_simp
        have z1 : w5.cell? ⟨gb, row * 2 + 1, none⟩ = some (.int .i64 x.f1) := by
          rw [← hw5]
          show ((wr.setCell { block := gb, off := row * 2 } (Value.int IntKind.i64 x.f0)).setCell { block := gb, off := row * 2 + 1 } (Value.int IntKind.i64 x.f1)).cell? _ = _
          go_simp
        have m1 : w5.cell? ⟨g, 1, none⟩ = some (.slice (some ⟨gb, 0, none⟩) R cc) := by rw [HRR.out]; exact (blk_cell h5t 1).trans rfl
        have m2 := blk_frozen h5t 1
        have m3 := blk_frozen h5r 0
        have m4 := blk_frozen h5r 1
        have r0 : w5.cell? ⟨W.heap.size, 0, none⟩ = some (.int .i64 0) := (blk_cell h5r 0).trans rfl
        have r1 : w5.cell? ⟨W.heap.size, 1, none⟩ = some (.int .i64 0) := (blk_cell h5r 1).trans rfl
        have hr3 := Ne.symm hr1
        have hr4 := Ne.symm hr2
        have hsl := run_slice_to (P := Tryd.prog) Tryd.underlying51 (s := 2) (fun w => by kernel_rfl) (some ⟨gb, 0, none⟩) R cc l (by omega)
        have HW5 := Aside0.mk hw5
        have H5R := Aside0.mk h5r
        have H5T := Aside0.mk h5t
        have HCP := Aside0.mk hcap
        clear hw5 h5b h5g h5r h5t k1 k2 fb fr0 fr1 x0 x1 y0 y1 hcap
        have HFRR := Aside0.mk (show Fr F W wr from ((Fr.of_below HB0.out F).below_ HB1.out).then_ HF.out (fun k hk => .inl hk.1))
        have HTAIL := Aside0.mk (fun a b => drop_tail (a := a) (b := b) (F := F) (W := W) HMM.out HL1.out (by have := HRW.out; have := HL1.out; omega) hg1 HX.out HW5.out rfl (fun k hk => hk) HFRR.out)
        have HPP := Aside0.mk (show ∀ w', IsTab w' g F (dropT t row) ∧ Fr F W w' → DropTold W g F t row w' from fun w' h => by unfold DropTold; rw [if_pos HE.out]; exact h)
        by_cases hrl : row = l
        · have q1 : ((row : Int) == (l : Int)) = true := by simp [hrl]
          have E1 := Aside0.mk (show dropId t row = z40 by simp [dropId, dropV, HE.out, HL1.out, hrl])
          have E2 := Aside0.mk (show dropOk t row = false by simp [dropOk, HL1.out, hrl])
          clear hrl
          go_wp2
          refine bodyPost_ret (results_cell_row2 rfl _ _ W.heap.size 40 #[.int .i64 0, .int .i64 0] (0, 0) _ rfl ?hb Tryd.underlying40 rfl (by kernel_rfl)) rfl ?_
          case hb =>
            have k0 : (w5.setCell ⟨g, 1, none⟩ (.slice (some ⟨gb, 0, none⟩) l cc)).heap[W.heap.size]? = _ := (Below.heap_setCell _ _ _ _ hr1).trans H5R.out
            have k1 := blk_set (blk_set k0 0 (.int .i64 0)) 1 (.int .i64 0)
            simpa using k1
          rw [E1.out, E2.out]
          exact ⟨rfl, HPP.out _ (HTAIL.out _ _)⟩
        · have q1 : ((row : Int) == (l : Int)) = false := by simp; omega
          have E1 := Aside0.mk (show dropId t row = x by unfold dropId; rw [if_neg (by rw [HE.out]; simp)]; unfold dropV; rw [HL1.out]; simp only [Int.toNat_natCast, Nat.add_sub_cancel, if_neg hrl]; exact HX.out)
          have E2 := Aside0.mk (show dropOk t row = true by unfold dropOk; rw [HE.out, HL1.out]; simp [hrl])
          go_wp2
          refine bodyPost_ret (results_cell_row2 rfl _ _ W.heap.size 40 #[.int .i64 x.f0, .int .i64 x.f1] (0, 0) _ rfl ?hb Tryd.underlying40 rfl (by kernel_rfl)) rfl ?_
          case hb =>
            have k0 : (w5.setCell ⟨g, 1, none⟩ (.slice (some ⟨gb, 0, none⟩) l cc)).heap[W.heap.size]? = _ := (Below.heap_setCell _ _ _ _ hr1).trans H5R.out
            have k1 := blk_set (blk_set k0 0 (.int .i64 x.f0)) 1 (.int .i64 x.f1)
            simpa using k1
          rw [E1.out, E2.out]
          exact ⟨rfl, HPP.out _ (HTAIL.out _ _)⟩
  · have e1 : dropId t row = z40 := by simp [dropId, he]
    have e2 : dropOk t row = false := by simp [dropOk, he]
    rw [e1, e2]
    have HP := Aside0.mk (show ∀ w', Below W.heap.size W w' → DropTold W g F t row w' from fun w' hb => by unfold DropTold; rw [if_neg he]; exact hb)
    have HB := Aside0.mk hb0
    rw [at_two he] at hat ⊢
    obtain ⟨W0, hW0⟩ : ∃ W0, W.alloc (.cells #[.int .i64 0, .int .i64 0] 40) = W0 := ⟨_, rfl⟩
    rw [hW0] at hat HB hrc
    have HRC := Aside0.mk hrc
    have c0 : W0.cell? ⟨W.heap.size, 0, none⟩ = some (.int .i64 0) := (blk_cell hrc 0).trans rfl
    have c1 : W0.cell? ⟨W.heap.size, 1, none⟩ = some (.int .i64 0) := (blk_cell hrc 1).trans rfl
    have f0 := blk_frozen hrc 0
    have f1 := blk_frozen hrc 1
    have HW := Aside0.mk hW0
    clear h he e1 e2 hrc hb0 hW0
    go_enter Tryd.func18, Tryd.ntmps18
    go_wp2_with fail
    simp only [HW.out]
    refine hat.out.mono ?_
    rintro e w' ⟨rfl, rfl⟩
    go_wp2
    refine bodyPost_ret (results_cell_row2 rfl _ _ W.heap.size 40 #[.int .i64 0, .int .i64 0] (0, 0) _ rfl ?hb Tryd.underlying40 rfl (by kernel_rfl)) rfl ?_
    case hb =>
      have k1 := blk_set (blk_set HRC.out 0 (.int .i64 0)) 1 (.int .i64 0)
      simpa using k1
    exact ⟨rfl, HP.out _ (((Fr.of_below HB.out None_).setCell (.inr (Nat.le_refl _)) _).setCell (.inr (Nat.le_refl _)) _).toBelow0⟩

end Go.Proofs.YtnhejenjpomhdaaDoor.Tab
