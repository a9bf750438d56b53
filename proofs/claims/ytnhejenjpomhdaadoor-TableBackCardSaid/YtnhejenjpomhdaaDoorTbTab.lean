/- Tables (package table): how one lies in memory; what is only asked of it. -/
import Derived.Test.YtnhejenjpomhdaaDoorTbData
import Derived.Test.YtnhejenjpomhdaaDoorTbMap
import Derived.Test.YtnhejenjpomhdaaDoorTbColD
namespace Go.Proofs.YtnhejenjpomhdaaDoor.Tab
open Go.RowKit Go.Proofs.YtnhejenjpomhdaaDoorW.PrintWords Go.Proofs.YtnhejenjpomhdaaDoorW.PrintLast Go.Proofs.YtnhejenjpomhdaaDoorW.PrintMore Go.Proofs.YtnhejenjpomhdaaDoor.Mem Go.Proofs.YtnhejenjpomhdaaDoor.Col Go.Proofs.YtnhejenjpomhdaaDoor.Bits Go.Proofs.YtnhejenjpomhdaaDoor.Data Go.Proofs.YtnhejenjpomhdaaDoor.Mp Go.Proofs.YtnhejenjpomhdaaDoor.PTableLoads
set_option linter.unusedVariables false
set_option linter.unusedSimpArgs false

abbrev ID_ := S40
/-- A table's content: its set, whose rows, each component's bytes and a row's size. -/
structure TabS where
  sig : Nat
  ids : List ID_
  cb : Nat → List Int
  cz : Nat → Nat

def OwnI (W : World) (v : Value) (ids : List ID_) : Prop := Kd.R k40 40 W 0 (fun k => some k = v.ownBlock) v ids
theorem OwnI.lt {W : World} {v : Value} {ids : List ID_} (h : OwnI W v ids) : ∀ k, v.ownBlock = some k → k < W.heap.size := Kd.R_lt h
theorem OwnI.move {W W1 : World} {v : Value} {ids : List ID_} (h : OwnI W v ids) (hm : ∀ k, v.ownBlock = some k → W1.heap[k]? = W.heap[k]?) : OwnI W1 v ids := Kd.R_step h (fun k hk _ => hm k hk.symm)

def colPtr (sig : Nat) (cg : Nat → Nat) (k : Int) : Option Value := if k ∈ bitsL sig then some (.pointer (some ⟨cg k.toNat, 0, none⟩)) else none

structure TabM (W : World) (g : Nat) (F : Nat → Prop) (t : TabS) (vi : Value) (m : Nat) (cg : Nat → Nat) (cF : Nat → Nat → Prop) (cr : Nat → Nat) : Prop where
  blk : W.heap[g]? = some (.cells #[.int .u64 t.sig, vi, .map (some m)] 94 (0, 0))
  ids : OwnI W vi t.ids
  map : MapIs W m .i64 (colPtr t.sig cg)
  cols : ∀ k, k ∈ bitsN t.sig → Col W (cg k) (cF k) (t.cb k) (cr k) (t.cz k)
  fg : F g
  fm : F m
  fi : ∀ k, vi.ownBlock = some k → F k
  fc : ∀ k, k ∈ bitsN t.sig → ∀ b, cF k b → F b
  sep : ∀ k, k ∈ bitsN t.sig → ∀ b, cF k b → b ≠ g ∧ b ≠ m ∧ vi.ownBlock ≠ some b
  dis : ∀ k k', k ∈ bitsN t.sig → k' ∈ bitsN t.sig → k ≠ k' → ∀ b, cF k b → ¬ cF k' b
  sig_lt : t.sig < 18446744073709551616
  n_le : t.ids.length ≤ 1024
def IsTab (W : World) (g : Nat) (F : Nat → Prop) (t : TabS) : Prop := ∃ vi m cg cF, TabM W g F t vi m cg cF (fun _ => t.ids.length)

theorem mem_bitsL {s : Nat} {k : Int} : k ∈ bitsL s ↔ ∃ n : Nat, k = n ∧ n ∈ bitsN s := by
  unfold bitsL
  rw [List.mem_map]
  exact ⟨fun ⟨n, h1, h2⟩ => ⟨n, h2.symm, h1⟩, fun ⟨n, h1, h2⟩ => ⟨n, h2, h1.symm⟩⟩

section
variable {W W1 : World} {g m : Nat} {F F' S : Nat → Prop} {t : TabS} {vi : Value} {cg : Nat → Nat} {cF : Nat → Nat → Prop} {cr : Nat → Nat}
theorem TabM.move (h : TabM W g F t vi m cg cF cr) (hm : ∀ k, F k → k < W.heap.size → W1.heap[k]? = W.heap[k]?) : TabM W1 g F t vi m cg cF cr where
  blk := (hm g h.fg (heap_lt' h.blk)).trans h.blk
  ids := h.ids.move (fun k hk => hm k (h.fi k hk) (h.ids.lt k hk))
  map := h.map.same (hm m h.fm h.map.lt)
  cols := fun k hk => (h.cols k hk).move (fun b hb hlt => hm b (h.fc k hk b hb) hlt)
  fg := h.fg
  fm := h.fm
  fi := h.fi
  fc := h.fc
  sep := h.sep
  dis := h.dis
  sig_lt := h.sig_lt
  n_le := h.n_le
theorem TabM.mono (h : TabM W g F t vi m cg cF cr) (hF : ∀ k, F k → F' k) : TabM W g F' t vi m cg cF cr := { h with fg := hF _ h.fg, fm := hF _ h.fm, fi := fun k hk => hF k (h.fi k hk), fc := fun k hk b hb => hF b (h.fc k hk b hb) }
theorem IsTab.move (h : IsTab W g F t) (hm : ∀ k, F k → k < W.heap.size → W1.heap[k]? = W.heap[k]?) : IsTab W1 g F t := by obtain ⟨vi, m, cg, cF, h⟩ := h; exact ⟨vi, m, cg, cF, h.move hm⟩
theorem IsTab.fr (h : IsTab W g F t) (hf : Fr S W W1) (hn : ∀ k, F k → ¬ S k) : IsTab W1 g F t := h.move (fun k hk hlt => hf.block k hlt (hn k hk))
theorem IsTab.below (h : IsTab W g F t) (hb : Below W.heap.size W W1) : IsTab W1 g F t := h.move (fun k _ hlt => hb.block k hlt)
end

/-- A column turned, in place or grown: the table is as it was, but for it. -/
theorem TabM.put {W W1 : World} {g m : Nat} {F : Nat → Prop} {t : TabS} {vi : Value} {cg : Nat → Nat} {cF : Nat → Nat → Prop} {cr : Nat → Nat} (h : TabM W g F t vi m cg cF cr) {k0 : Nat} (hk0 : k0 ∈ bitsN t.sig) {C' : Nat → Prop} {b' : List Int} {r' : Nat}
    (hs : Step (cF k0) C' W W1) (hc : Col W1 (cg k0) C' b' r' (t.cz k0)) :
    TabM W1 g (fun k => F k ∨ W.heap.size ≤ k) { t with cb := fun j => if j = k0 then b' else t.cb j } vi m cg (fun j => if j = k0 then C' else fun b => cF j b ∧ b < W.heap.size) (fun j => if j = k0 then r' else cr j) := by
  have hold : ∀ b, b < W.heap.size → ¬ cF k0 b → W1.heap[b]? = W.heap[b]? := fun b hlt hn => hs.fr.block b hlt hn
  have hsep := h.sep k0 hk0
  have hgl := heap_lt' h.blk
  have hml := h.map.lt
  exact {
    blk := (hold g hgl (fun hb => (hsep g hb).1 rfl)).trans h.blk
    ids := h.ids.move (fun b hb => hold b (h.ids.lt b hb) (fun hc => (hsep b hc).2.2 hb))
    map := h.map.same (hold m hml (fun hb => (hsep m hb).2.1 rfl))
    cols := fun k hk => by
      by_cases he : k = k0
      · subst he; simp only [if_true]; exact hc
      · simp only [if_neg he]
        exact ((h.cols k hk).bound).move (fun b hb hlt => hold b hlt (fun hc => h.dis k k0 hk hk0 he b hb.1 hc))
    fg := .inl h.fg
    fm := .inl h.fm
    fi := fun k hk => .inl (h.fi k hk)
    fc := fun k hk b hb => by
      by_cases he : k = k0
      · subst he
        simp only [if_true] at hb
        rcases hs.up b hb with h1 | h1
        · exact .inl (h.fc k hk b h1)
        · exact .inr h1
      · simp only [if_neg he] at hb
        exact .inl (h.fc k hk b hb.1)
    sep := fun k hk b hb => by
      by_cases he : k = k0
      · subst he
        simp only [if_true] at hb
        rcases hs.up b hb with h1 | h1
        · exact hsep b h1
        · exact ⟨by omega, by omega, fun e => by have := h.ids.lt b e; omega⟩
      · simp only [if_neg he] at hb
        exact h.sep k hk b hb.1
    dis := fun k k' hk hk' hne b hb hb' => by
      by_cases he : k = k0
      · subst he
        rw [if_neg (Ne.symm hne)] at hb'
        simp only [if_true] at hb
        rcases hs.up b hb with h1 | h1
        · exact h.dis k k' hk hk' hne b h1 hb'.1
        · have := hb'.2; omega
      · simp only [if_neg he] at hb
        by_cases he' : k' = k0
        · subst he'
          simp only [if_true] at hb'
          rcases hs.up b hb' with h1 | h1
          · exact h.dis k k' hk hk' hne b hb.1 h1
          · have := hb.2; omega
        · simp only [if_neg he'] at hb'
          exact h.dis k k' hk hk' hne b hb.1 hb'.1
    sig_lt := h.sig_lt
    n_le := h.n_le }

theorem tlen_calls {W : World} {g : Nat} {F : Nat → Prop} {t : TabS} (h : IsTab W g F t) :
    Calls Tryd.prog 25 #[.pointer (some ⟨g, 0, none⟩)] W fun e w' => e = .returned (.int .i64 t.ids.length) ∧ W = w' := by
  obtain ⟨vi, m, cg, cF, h⟩ := h
  obtain ⟨A, c, hv⟩ := Kd.R_slice h.ids
  have hc : W.cell? ⟨g, 1, none⟩ = some (.slice A t.ids.length c) := by rw [← hv]; exact (blk_cell h.blk 1).trans rfl
  have hu := Tryd.underlying30
  clear h hv
  go_enter Tryd.func25, Tryd.ntmps25
  go_wp2
  go_ret
  exact ⟨rfl, rfl⟩
theorem tsig_calls {W : World} {g : Nat} {F : Nat → Prop} {t : TabS} (h : IsTab W g F t) :
    Calls Tryd.prog 27 #[.pointer (some ⟨g, 0, none⟩)] W fun e w' => e = .returned (.int .u64 t.sig) ∧ W = w' := by
  obtain ⟨vi, m, cg, cF, h⟩ := h
  have hc : W.cell? ⟨g, 0, none⟩ = some (.int .u64 t.sig) := (blk_cell h.blk 0).trans rfl
  have hu := Tryd.underlying30
  clear h
  go_enter Tryd.func27, Tryd.ntmps27
  go_wp2
  go_ret
  exact ⟨rfl, rfl⟩

/-- slices.Clone of names. -/
theorem clone_i (A : Option Addr) (c : Nat) (b : List ID_) (w : World) (hr : Kd.C k40 w A b.length b) (hl : b.length ≤ 100000) :
    Calls Tryd.prog 49 #[.slice A b.length c] w fun e w' => ∃ v : Value, e = .returned v ∧ Kd.R k40 40 w' w.heap.size (fun _ => True) v b ∧ Below w.heap.size w w' := by
  have q : ∀ (w : World) (a : Option Addr) (n c n' c' : Nat), (binOp .eql 51 (.slice a n c) (.slice none n' c')).run Tryd.prog w = .ok (.bool a.isNone) w := fun w a n c n' c' => Lib.run_eql_slice_nil w _ _ a n c n' c' Tryd.underlying51
  rcases A with _ | ad
  · have h0 : b = [] := by
      rcases Nat.eq_zero_or_pos b.length with h | h
      · exact List.eq_nil_of_length_eq_zero h
      · obtain ⟨ad, he, _⟩ := hr.2.2 h
        cases he
    subst h0
    go_enter Tryd.func49, Tryd.ntmps49
    go_wp2
    go_ret
    exact ⟨_, rfl, Kd.R_nil _ _ _ _ _, Below.refl _ _⟩
  · have HR := Aside0.mk hr
    clear hr
    go_enter Tryd.func49, Tryd.ntmps49
    go_wp2_with (at_builtin; refine Kd.R_append_rows k40 (Rr := k40.K w) (w0 := w) w.heap.size rfl (.tmp 5) (.tmp 6) 51 40 (.agg #[.int .i64 0, .int .i64 0]) 16 rfl Tryd.underlying51 info40 rfl (by decide) (by omega) _ [] b _ _ _ (fun _ => True) (fun _ => False) rfl rfl ?aO ?aR ?aK (fun _ hk => hk.elim) ?aF ?aB ?aS ?aL ?_)
    case aO => exact ⟨fun _ _ => trivial, [], World.ownsRow_made w #[] 0 (Nat.le_refl _) (Nat.zero_le _) (by simp), Reps.none _ _⟩
    case aR => exact (Kd.C_below HR.out ((Below.refl _ _).alloc (Nat.le_refl _) _)).imp_ (Below.refl _ _) (fun x cs hx => by rw [k40_open hx]; exact k40_mk _ _)
    case aK => intro x cs hx; rw [k40_open hx]; exact k40_mkM _ _ _ _
    case aF => exact fun _ _ => trivial
    case aB => exact (Below.refl _ _).alloc (Nat.le_refl _) _
    case aS => simp
    case aL => simp; omega
    intro v1 w1 ho hb hg hat
    go_wp2
    go_ret
    exact ⟨_, rfl, ho, hb⟩

theorem ids_calls {W : World} {g : Nat} {F : Nat → Prop} {t : TabS} (h : IsTab W g F t) :
    Calls Tryd.prog 26 #[.pointer (some ⟨g, 0, none⟩)] W fun e w' => ∃ v : Value, e = .returned v ∧ Kd.R k40 40 w' W.heap.size (fun _ => True) v t.ids ∧ Below W.heap.size W w' := by
  obtain ⟨vi, m, cg, cF, h⟩ := h
  obtain ⟨A, c, rfl⟩ := Kd.R_slice h.ids
  have hC := (Kd.R_reads' h.ids).2.2
  have hc : W.cell? ⟨g, 1, none⟩ = some (.slice A t.ids.length c) := (blk_cell h.blk 1).trans rfl
  have hu := Tryd.underlying30
  have HC := Aside0.mk (clone_i A c t.ids W hC (by have := h.n_le; omega))
  clear h hC
  go_enter Tryd.func26, Tryd.ntmps26
  go_wp2_with fail
  refine HC.out.mono ?_
  rintro e w' ⟨v, rfl, h1, h2⟩
  go_wp2
  go_ret
  exact ⟨_, rfl, h1, h2⟩

theorem tat_calls {W : World} {g : Nat} {F : Nat → Prop} {t : TabS} (h : IsTab W g F t) (i : Int) :
    Calls Tryd.prog 50 #[.pointer (some ⟨g, 0, none⟩), .int .i64 i] W fun e w' => e = .returned (.int .i64 (atE t.ids.length i)) ∧ W = w' := by
  obtain ⟨vi, m, cg, cF, h⟩ := h
  obtain ⟨A, c, rfl⟩ := Kd.R_slice h.ids
  have hc : W.cell? ⟨g, 1, none⟩ = some (.slice A t.ids.length c) := (blk_cell h.blk 1).trans rfl
  have hu := Tryd.underlying30
  obtain ⟨n, hn⟩ : ∃ n, t.ids.length = n := ⟨_, rfl⟩
  rw [hn] at hc ⊢
  clear h hn
  by_cases h1 : i < 0
  · have e : atE n i = 2 := by simp [atE, h1]
    rw [e]
    have h1b : decide (i < 0) = true := decide_eq_true h1
    go_enter Tryd.func50, Tryd.ntmps50
    go_wp2
    go_ret
    exact ⟨rfl, rfl⟩
  · have h1b : decide (i < 0) = false := decide_eq_false h1
    by_cases h2 : (n : Int) ≤ i
    · have e : atE n i = 2 := by simp [atE, h2]
      rw [e]
      have h2b : decide ((n : Int) ≤ i) = true := decide_eq_true h2
      go_enter Tryd.func50, Tryd.ntmps50
      go_wp2
      go_ret
      exact ⟨rfl, rfl⟩
    · have e : atE n i = 0 := by simp only [atE]; rw [if_neg (by omega)]
      rw [e]
      have h2b : decide ((n : Int) ≤ i) = false := decide_eq_false h2
      go_enter Tryd.func50, Tryd.ntmps50
      go_wp2
      go_ret
      exact ⟨rfl, rfl⟩

/-- col: what it tells. -/
def colE (t : TabS) (row k : Int) : Int := if atE t.ids.length row ≠ 0 then 2 else if k ∈ bitsL t.sig then 0 else 8

theorem col_calls {W : World} {g m : Nat} {F : Nat → Prop} {t : TabS} {vi : Value} {cg : Nat → Nat} {cF : Nat → Nat → Prop} (h : TabM W g F t vi m cg cF (fun _ => t.ids.length)) (row k : Int) :
    Calls Tryd.prog 52 #[.pointer (some ⟨g, 0, none⟩), .int .i64 row, .int .i64 k] W fun e w' => e = .returned (.tuple #[if colE t row k = 0 then .pointer (some ⟨cg k.toNat, 0, none⟩) else .pointer none, .int .i64 (colE t row k)]) ∧ W = w' := by
  have hat := Aside0.mk (tat_calls ⟨vi, m, cg, cF, h⟩ row)
  have hc : W.cell? ⟨g, 2, none⟩ = some (.map (some m)) := (blk_cell h.blk 2).trans rfl
  have hu := Tryd.underlying30
  have hz : ∀ w, (zeroValue 97).run Tryd.prog w = .ok (.pointer none) w := fun w => by kernel_rfl
  have hlk := h.map.lookup_ok (P := Tryd.prog) Tryd.underlying92 Tryd.underlying3 (hz W) k
  clear hz
  unfold colPtr at hlk
  by_cases h1 : atE t.ids.length row = 0
  · rw [h1] at hat
    by_cases h2 : k ∈ bitsL t.sig
    · have e : colE t row k = 0 := by simp [colE, h1, h2]
      rw [e, if_pos rfl]
      rw [if_pos h2] at hlk
      simp only [Option.getD_some, Option.isSome_some] at hlk
      clear h h1 h2 e
      go_enter Tryd.func52, Tryd.ntmps52
      go_wp2_with fail
      refine hat.out.mono ?_
      rintro e w' ⟨rfl, rfl⟩
      go_wp2
      go_ret2
      exact ⟨rfl, rfl⟩
    · have e : colE t row k = 8 := by simp [colE, h1, h2]
      rw [e, if_neg (by decide)]
      rw [if_neg h2] at hlk
      simp only [Option.getD_none, Option.isSome_none] at hlk
      clear h h1 h2 e
      go_enter Tryd.func52, Tryd.ntmps52
      go_wp2_with fail
      refine hat.out.mono ?_
      rintro e w' ⟨rfl, rfl⟩
      go_wp2
      go_ret2
      exact ⟨rfl, rfl⟩
  · have e : colE t row k = 2 := by simp [colE, h1]
    rw [e, if_neg (by decide)]
    rw [at_two h1] at hat
    clear h h1 e hlk
    go_enter Tryd.func52, Tryd.ntmps52
    go_wp2_with fail
    refine hat.out.mono ?_
    rintro e w' ⟨rfl, rfl⟩
    go_wp2
    go_ret2
    exact ⟨rfl, rfl⟩

theorem tget_calls {W : World} {g : Nat} {F : Nat → Prop} {t : TabS} (h : IsTab W g F t) (row k : Int) :
    Calls Tryd.prog 19 #[.pointer (some ⟨g, 0, none⟩), .int .i64 row, .int .i64 k] W fun e w' => ∃ v : Value, e = .returned (.tuple #[v, .int .i64 (colE t row k)]) ∧
      Kd.R (Kd.int .u8) 5 w' W.heap.size (fun _ => True) v (if colE t row k = 0 then rowB (t.cb k.toNat) row.toNat (t.cz k.toNat) else []) ∧ Below W.heap.size W w' := by
  obtain ⟨vi, m, cg, cF, h⟩ := h
  have hcol := Aside0.mk (col_calls h row k)
  by_cases he : colE t row k = 0
  · have ha : atE t.ids.length row = 0 := by
      unfold colE at he
      by_cases h1 : atE t.ids.length row = 0
      · exact h1
      · rw [if_pos h1] at he; cases he
    have hm : k ∈ bitsL t.sig := by
      unfold colE at he
      rw [if_neg (by rw [ha]; simp)] at he
      by_cases h1 : k ∈ bitsL t.sig
      · exact h1
      · rw [if_neg h1] at he; cases he
    obtain ⟨n, rfl, hn⟩ := mem_bitsL.1 hm
    have hg := get_calls (h.cols n hn) row
    rw [ha] at hg
    have HG := Aside0.mk hg
    rw [he] at hcol ⊢
    simp only [if_true, Int.toNat_natCast] at hcol HG ⊢
    clear h he ha hm hn hg
    go_enter Tryd.func19, Tryd.ntmps19
    go_wp2_with fail
    refine hcol.out.mono ?_
    rintro e w' ⟨rfl, rfl⟩
    go_wp2_with fail
    refine HG.out.mono ?_
    rintro e w' ⟨v, rfl, h1, h2⟩
    go_wp2
    go_ret2
    exact ⟨_, rfl, h1, h2⟩
  · rw [if_neg he] at hcol ⊢
    have hq : (colE t row k != 0) = true := by simp [he]
    obtain ⟨x, hx⟩ : ∃ x, colE t row k = x := ⟨_, rfl⟩
    rw [hx] at hcol hq ⊢
    clear h he hx
    go_enter Tryd.func19, Tryd.ntmps19
    go_wp2_with fail
    refine hcol.out.mono ?_
    rintro e w' ⟨rfl, rfl⟩
    go_wp2
    go_ret2
    exact ⟨_, rfl, Kd.R_nil _ _ _ _ _, Below.refl _ _⟩

/-- Set: what it tells. -/
def tsetE (t : TabS) (row k : Int) (n : Nat) : Int := if colE t row k ≠ 0 then colE t row k else if n ≠ t.cz k.toNat then 7 else 0
def setT (t : TabS) (row k : Int) (d : List Int) : TabS := { t with cb := fun j => if j = k.toNat then layB (t.cb j) (row.toNat * t.cz j) d else t.cb j }

theorem colE_zero {t : TabS} {row k : Int} (he : colE t row k = 0) : atE t.ids.length row = 0 ∧ ∃ n : Nat, k = n ∧ n ∈ bitsN t.sig := by
  unfold colE at he
  by_cases h1 : atE t.ids.length row = 0
  · rw [if_neg (by rw [h1]; simp)] at he
    by_cases h2 : k ∈ bitsL t.sig
    · exact ⟨h1, mem_bitsL.1 h2⟩
    · rw [if_neg h2] at he; cases he
  · rw [if_pos h1] at he; cases he

theorem tset_calls {W : World} {g cD : Nat} {F : Nat → Prop} {t : TabS} {AD : Option Addr} {d : List Int} (h : IsTab W g F t) (row k : Int) (hd : Kd.C (Kd.int .u8) W AD d.length d) :
    Calls Tryd.prog 24 #[.pointer (some ⟨g, 0, none⟩), .int .i64 row, .int .i64 k, .slice AD d.length cD] W (Told1 (tsetE t row k d.length) W fun w' => IsTab w' g F (setT t row k d) ∧ Fr F W w') := by
  obtain ⟨vi, m, cg, cF, h⟩ := h
  have hcol := Aside0.mk (col_calls h row k)
  by_cases he : colE t row k = 0
  · obtain ⟨ha, n, rfl, hn⟩ := colE_zero he
    have hset := set_calls (cD := cD) (h.cols n hn) row hd
    have hx : tsetE t row n d.length = setE t.ids.length (t.cz n) d.length row := by simp [tsetE, setE, he, ha]
    rw [← hx] at hset
    have HS := Aside0.mk hset
    obtain ⟨x, hx2⟩ : ∃ x, tsetE t row n d.length = x := ⟨_, rfl⟩
    have HX := Aside0.mk (show x = 0 → d.length = t.cz n by
      intro h0
      rw [← hx2, hx] at h0
      unfold setE at h0
      rw [ha] at h0
      simp at h0
      exact h0)
    rw [hx2] at HS ⊢
    rw [he] at hcol
    simp only [if_true, Int.toNat_natCast] at hcol
    have HH := Aside0.mk h
    have HN := Aside0.mk hn
    clear h he hset hx hx2 hn ha
    go_enter Tryd.func24, Tryd.ntmps24
    go_wp2_with fail
    refine hcol.out.mono ?_
    rintro e w' ⟨rfl, rfl⟩
    go_wp2_with fail
    refine HS.out.mono ?_
    rintro e w' ⟨rfl, hcase⟩
    have HC := Aside0.mk hcase
    clear hcase
    go_wp2
    go_ret
    rcases HC.out with ⟨h1, h2⟩ | ⟨h1, h2, h3⟩
    · subst h2
      exact Told1.no h1 rfl
    · refine Told1.yes h1 rfl ⟨?_, h3.mono (fun b _ hb => HH.out.fc n HN.out b hb)⟩
      have hp := HH.out.put HN.out (C' := cF n) ⟨fun b hb => .inl hb, h3⟩ h2
      refine ⟨vi, m, cg, cF, ?_⟩
      have hM := HH.out
      exact {
        blk := hp.blk, ids := hp.ids, map := hp.map
        cols := fun j hj => by
          have := hp.cols j hj
          by_cases hjn : j = n
          · subst hjn
            simp only [if_true] at this
            simpa [setT] using this
          · simp only [if_neg hjn] at this
            have h5 := this.mono (fun b hb => hb.1)
            simpa [setT, hjn] using h5
        fg := hM.fg, fm := hM.fm, fi := hM.fi, fc := hM.fc, sep := hM.sep, dis := hM.dis, sig_lt := hM.sig_lt, n_le := hM.n_le }
  · have e : tsetE t row k d.length = colE t row k := by simp [tsetE, he]
    rw [e]
    rw [if_neg he] at hcol
    have hq : (colE t row k != 0) = true := by simp [he]
    obtain ⟨x, hx⟩ : ∃ x, colE t row k = x := ⟨_, rfl⟩
    rw [hx] at hcol hq ⊢
    have HX := Aside0.mk (show x ≠ 0 by rw [← hx]; exact he)
    clear h he hx e hd
    go_enter Tryd.func24, Tryd.ntmps24
    go_wp2_with fail
    refine hcol.out.mono ?_
    rintro e w' ⟨rfl, rfl⟩
    go_wp2
    go_ret
    exact Told1.no HX.out rfl

theorem column_calls {W : World} {g : Nat} {F : Nat → Prop} {t : TabS} (h : IsTab W g F t) (k : Int) :
    Calls Tryd.prog 21 #[.pointer (some ⟨g, 0, none⟩), .int .i64 k] W fun e w' => ∃ v : Value, e = .returned (.tuple #[v, .bool (decide (k ∈ bitsL t.sig))]) ∧
      Kd.R (Kd.int .u8) 5 w' W.heap.size (fun _ => True) v (if k ∈ bitsL t.sig then t.cb k.toNat else []) ∧ Below W.heap.size W w' := by
  obtain ⟨vi, m, cg, cF, h⟩ := h
  have hc : W.cell? ⟨g, 2, none⟩ = some (.map (some m)) := (blk_cell h.blk 2).trans rfl
  have hu := Tryd.underlying30
  have hu2 := Tryd.underlying97
  have hz : ∀ w, (zeroValue 97).run Tryd.prog w = .ok (.pointer none) w := fun w => by kernel_rfl
  have hlk := h.map.lookup (P := Tryd.prog) Tryd.underlying92 Tryd.underlying3 (hz W) k
  clear hz
  unfold colPtr at hlk
  by_cases h2 : k ∈ bitsL t.sig
  · obtain ⟨n, rfl, hn⟩ := mem_bitsL.1 h2
    have HB := Aside0.mk (bytes_calls (h.cols n hn))
    rw [if_pos h2] at hlk ⊢
    rw [decide_eq_true h2]
    simp only [Option.getD_some, Int.toNat_natCast] at hlk HB ⊢
    clear h h2 hn
    go_enter Tryd.func21, Tryd.ntmps21
    go_wp2_with fail
    refine HB.out.mono ?_
    rintro e w' ⟨v, rfl, h1, h2⟩
    go_wp2
    go_ret2
    exact ⟨_, rfl, h1, h2⟩
  · rw [if_neg h2] at hlk ⊢
    rw [decide_eq_false h2]
    simp only [Option.getD_none] at hlk
    clear h h2
    go_enter Tryd.func21, Tryd.ntmps21
    go_wp2
    go_ret2
    exact ⟨_, rfl, Kd.R_nil _ _ _ _ _, Below.refl _ _⟩

end Go.Proofs.YtnhejenjpomhdaaDoor.Tab
