/- Columns (package column): what each of its functions does, over any memory in which a column lies. -/
import Derived.Test.YtnhejenjpomhdaaDoorTbMem
import Derived.WalkSpells
import Derived.Deep.QuietTactic
import Derived.BigQuiet
import Derived.Laws.CopyOwn
import Derived.Deep.RegionLaw
namespace Go.Proofs.YtnhejenjpomhdaaDoor.Col
open Go.RowKit Go.Proofs.YtnhejenjpomhdaaDoorW.PrintWords Go.Proofs.YtnhejenjpomhdaaDoorW.PrintLast Go.Proofs.YtnhejenjpomhdaaDoorW.PrintMore Go.Proofs.YtnhejenjpomhdaaDoor.Mem Go.Proofs.YtnhejenjpomhdaaDoor.PTableLoads
set_option linter.unusedVariables false
set_option linter.unusedSimpArgs false

/-- What F' holds was F's, or is new since w; of w only blocks of F have turned. -/
structure Step (F F' : Nat → Prop) (w w' : World) : Prop where
  up : ∀ k, F' k → F k ∨ w.heap.size ≤ k
  fr : Fr F w w'
theorem Step.refl (F : Nat → Prop) (w : World) : Step F F w w := ⟨fun _ h => .inl h, Fr.refl F w⟩
/-- slices.Clone of bytes. -/
theorem clone_b (A : Option Addr) (c : Nat) (b : List Int) (w : World) (hr : Kd.C (Kd.int .u8) w A b.length b) (hl : b.length ≤ 140737488355328) :
    Calls Tryd.prog 67 #[.slice A b.length c] w fun e w' => ∃ v : Value, e = .returned v ∧ Kd.R (Kd.int .u8) 5 w' w.heap.size (fun _ => True) v b ∧ Below w.heap.size w w' := by
  have q : ∀ (w : World) (a : Option Addr) (n c n' c' : Nat), (binOp .eql 37 (.slice a n c) (.slice none n' c')).run Tryd.prog w = .ok (.bool a.isNone) w := fun w a n c n' c' => Lib.run_eql_slice_nil w _ _ a n c n' c' Tryd.underlying37
  rcases A with _ | ad
  · have h0 : b = [] := by
      rcases Nat.eq_zero_or_pos b.length with h | h
      · exact List.eq_nil_of_length_eq_zero h
      · obtain ⟨ad, he, _⟩ := hr.2.2 h
        cases he
    subst h0
    go_enter Tryd.func67, Tryd.ntmps67
    go_wp2
    go_ret
    exact ⟨_, rfl, Kd.R_nil _ _ _ _ _, Below.refl _ _⟩
  · have HR := Aside0.mk hr
    clear hr
    go_enter Tryd.func67, Tryd.ntmps67
    go_wp2_with (at_builtin; refine Kd.R_append_row (Value.int .u8) 0 (h1 := fun _ => rfl) (w0 := w) w.heap.size rfl _ _ 37 5 (.int .u8 0) 1 rfl Tryd.underlying37 info5 rfl (by decide) _ [] b _ _ _ (fun _ => True) rfl rfl ?aF ?aO ?aR ?aB ?aS ?aL ?_)
    case aF => exact fun _ _ => trivial
    case aO => exact Kd.R_of_own (World.ownsRow_made w #[] 0 (Nat.le_refl _) (Nat.zero_le _) (by simp)) (fun _ _ => trivial)
    case aR => exact Kd.C_below HR.out ((Below.refl _ _).alloc (Nat.le_refl _) _)
    case aB => exact (Below.refl _ _).alloc (Nat.le_refl _) _
    case aS => simp
    case aL => simpa using hl
    intro v1 w1 ho hb hg hat
    go_wp2
    go_ret
    exact ⟨_, rfl, ho, hb⟩

/-- A column at block g: its bytes, how many rows, a row's size; what it lies in is of F. -/
structure Col (W : World) (g : Nat) (F : Nat → Prop) (b : List Int) (rows size : Nat) : Prop where
  ex : ∃ v, W.heap[g]? = some (.cells #[v, .int .i64 rows, .int .i64 size] 127 (0, 0)) ∧ OwnB W v b ∧ (∀ k, v.ownBlock = some k → F k)
  own : F g
  len : b.length = rows * size
  size_le : size ≤ 64
  rows_le : rows ≤ 1024
namespace Col
variable {W W1 : World} {g rows size : Nat} {F F' S : Nat → Prop} {b : List Int}
theorem mono (h : Col W g F b rows size) (hF : ∀ k, F k → F' k) : Col W g F' b rows size := by
  obtain ⟨⟨v, h1, h2, h3⟩, h4, h5, h6, h7⟩ := h
  exact ⟨⟨v, h1, h2, fun k hk => hF k (h3 k hk)⟩, hF g h4, h5, h6, h7⟩
theorem bound (h : Col W g F b rows size) : Col W g (fun k => F k ∧ k < W.heap.size) b rows size := by
  obtain ⟨⟨v, h1, h2, h3⟩, h4, h5, h6, h7⟩ := h
  exact ⟨⟨v, h1, h2, fun k hk => ⟨h3 k hk, h2.lt k hk⟩⟩, ⟨h4, heap_lt' h1⟩, h5, h6, h7⟩
theorem move (h : Col W g F b rows size) (hm : ∀ k, F k → k < W.heap.size → W1.heap[k]? = W.heap[k]?) : Col W1 g F b rows size := by
  obtain ⟨⟨v, h1, h2, h3⟩, h4, h5, h6, h7⟩ := h
  exact ⟨⟨v, (hm g h4 (heap_lt' h1)).trans h1, h2.step (fun k hk => hm k (h3 k hk) (h2.lt k hk)), h3⟩, h4, h5, h6, h7⟩
theorem below (h : Col W g F b rows size) (hb : Below W.heap.size W W1) : Col W1 g F b rows size := h.move (fun k _ hlt => hb.block k hlt)
end Col

theorem nat_mul_le {i rows size : Nat} (hi : i < rows) : i * size + size ≤ rows * size := by rw [← Nat.succ_mul]; exact Nat.mul_le_mul_right _ hi
theorem wrap_mul (i s : Nat) (h : i * s ≤ 1000000) : IntKind.i64.wrap ((i : Int) * (s : Int)) = ((i * s : Nat) : Int) := by
  rw [IntKind.wrap_i64, ← Int.natCast_mul]; omega
theorem wrap_suc (i : Nat) (h : i ≤ 1000000) : IntKind.i64.wrap ((i : Int) + 1) = ((i + 1 : Nat) : Int) := by
  rw [IntKind.wrap_i64]; omega
theorem wrap_mul1 (i s : Nat) (h : (i + 1) * s ≤ 1000000) : IntKind.i64.wrap (((i : Int) + 1) * (s : Int)) = (((i + 1) * s : Nat) : Int) := by
  have e : ((i : Int) + 1) = ((i + 1 : Nat) : Int) := by omega
  rw [IntKind.wrap_i64, e, ← Int.natCast_mul]; omega

/-- at: is there such a row? -/
def atE (rows : Nat) (i : Int) : Int := if i < 0 ∨ (rows : Int) ≤ i then 2 else 0

theorem at_calls {W : World} {g rows size : Nat} {F : Nat → Prop} {b : List Int} (h : Col W g F b rows size) (i : Int) :
    Calls Tryd.prog 68 #[.pointer (some ⟨g, 0, none⟩), .int .i64 i] W fun e w' => e = .returned (.int .i64 (atE rows i)) ∧ W = w' := by
  obtain ⟨⟨v, hb, _, _⟩, _⟩ := h
  have hc : W.cell? ⟨g, 1, none⟩ = some (.int .i64 rows) := (blk_cell hb 1).trans rfl
  have hu := Tryd.underlying97
  by_cases h1 : i < 0
  · have e : atE rows i = 2 := by simp [atE, h1]
    rw [e]
    have h1b : decide (i < 0) = true := decide_eq_true h1
    go_enter Tryd.func68, Tryd.ntmps68
    go_wp2
    go_ret
    exact ⟨rfl, rfl⟩
  · have h1b : decide (i < 0) = false := decide_eq_false h1
    by_cases h2 : (rows : Int) ≤ i
    · have e : atE rows i = 2 := by simp [atE, h2]
      rw [e]
      have h2b : decide ((rows : Int) ≤ i) = true := decide_eq_true h2
      go_enter Tryd.func68, Tryd.ntmps68
      go_wp2
      go_ret
      exact ⟨rfl, rfl⟩
    · have e : atE rows i = 0 := by simp only [atE]; rw [if_neg (by omega)]
      rw [e]
      have h2b : decide ((rows : Int) ≤ i) = false := decide_eq_false h2
      go_enter Tryd.func68, Tryd.ntmps68
      go_wp2
      go_ret
      exact ⟨rfl, rfl⟩

/-- What 'c.row(i)' is: a slice of a row's bytes; where a row has bytes, it lies in the column's own block. -/
def RowAt (v : Value) (n i size : Nat) (A : Option Addr) : Prop := 0 < size → ∃ gb cap, v = .slice (some ⟨gb, 0, none⟩) n cap ∧ A = some ⟨gb, i * size, none⟩

theorem row_calls {W : World} {g rows size i : Nat} {v : Value} {b : List Int} (hb : W.heap[g]? = some (.cells #[v, .int .i64 rows, .int .i64 size] 127 (0, 0))) (ho : OwnB W v b)
    (hl : b.length = rows * size) (hr : rows ≤ 1024) (hs : size ≤ 64) (hi : i < rows) :
    Calls Tryd.prog 69 #[.pointer (some ⟨g, 0, none⟩), .int .i64 (i : Int)] W fun e w' => ∃ A, e = .returned (.slice A size size) ∧ RowAt v b.length i size A ∧ ∃ n, w' = W.drewN n := by
  have hm : rows * size ≤ 1024 * 64 := Nat.mul_le_mul hr hs
  have hile := nat_mul_le (size := size) hi
  have hsm : (i + 1) * size = i * size + size := Nat.succ_mul _ _
  obtain ⟨A0, c, hv, hbc, hcm⟩ := ho.len
  have hrow : ∀ A, A = (if (i + 1) * size = i * size then A0 else A0.map (·.add (i * size))) → RowAt v b.length i size A := by
    intro A hA hp
    rcases ho.form with ⟨_, h0⟩ | ⟨gb, cap, cur, hv2, _⟩
    · exfalso
      have : 0 < rows * size := Nat.lt_of_lt_of_le (by omega) hile
      rw [h0] at hl
      simp at hl
      omega
    · refine ⟨gb, cap, hv2, ?_⟩
      rw [hv2] at hv
      injection hv with e1
      rw [hA, if_neg (by omega), ← e1, Option.map_some, add_plain]
  have hsl : ∀ w, (Instr.slice 37 v (some (.int .i64 ((i * size : Nat) : Int))) (some (.int .i64 (((i + 1) * size : Nat) : Int))) (some (.int .i64 (((i + 1) * size : Nat) : Int)))).run Tryd.prog w = .ok (.slice (if (i + 1) * size = i * size then A0 else A0.map (·.add (i * size))) size size) w := by
    intro w
    rw [hv, run_slice3 Tryd.underlying37 (s := 1) (fun w => by kernel_rfl) A0 b.length c (i * size) ((i + 1) * size) ((i + 1) * size) (by omega) (by omega) (by omega) w]
    simp only [hsm, Nat.add_sub_cancel_left, Nat.mul_one]
  have hmul := wrap_mul i size (by omega)
  have hsuc := wrap_suc i (by omega)
  have hmul1 := wrap_mul1 i size (by omega)
  obtain ⟨A, hA⟩ : ∃ A, A = (if (i + 1) * size = i * size then A0 else A0.map (·.add (i * size))) := ⟨_, rfl⟩
  have hR := Aside0.mk (hrow A hA)
  rw [← hA] at hsl
  clear hrow hA
  obtain ⟨lo, hlo⟩ : ∃ lo : Nat, i * size = lo := ⟨_, rfl⟩
  obtain ⟨hi1, hhi⟩ : ∃ hi : Nat, (i + 1) * size = hi := ⟨_, rfl⟩
  rw [hlo, hhi] at hsl
  rw [hlo] at hmul
  rw [hhi] at hmul1
  have hc0 : W.cell? ⟨g, 0, none⟩ = some v := (blk_cell hb 0).trans rfl
  have hc2 : W.cell? ⟨g, 2, none⟩ = some (.int .i64 size) := (blk_cell hb 2).trans rfl
  clear hsm hlo hhi hile hm hi hs hr hl hb ho hv hbc hcm
  go_enter Tryd.func69, Tryd.ntmps69
  go_wp2
  go_quiet (fail)
  go_wp2
  go_ret
  exact ⟨A, rfl, hR.out, _, rfl⟩

/-- The bytes of row i; other bytes laid over a row. -/
def rowB (b : List Int) (i size : Nat) : List Int := (b.drop (i * size)).take size
def layB (b : List Int) (off : Nat) (d : List Int) : List Int := b.take off ++ d ++ b.drop (off + d.length)
theorem rowB_length {b : List Int} {i size : Nat} (h : i * size + size ≤ b.length) : (rowB b i size).length = size := by unfold rowB; rw [List.length_take, List.length_drop]; omega
theorem layB_length {b d : List Int} {off : Nat} (h : off + d.length ≤ b.length) : (layB b off d).length = b.length := by unfold layB; simp; omega

theorem row_cells {W : World} {gb cap i size : Nat} {b : List Int} (ho : OwnB W (.slice (some ⟨gb, 0, none⟩) b.length cap) b) (hfit : i * size + size ≤ b.length) (j : Nat) (hj : j < size) :
    W.cell? ⟨gb, i * size + j, none⟩ = some (.int .u8 ((rowB b i size).getD j 0)) := by
  rcases ho.form with ⟨h, _⟩ | ⟨g, cap', cur, he, hb, h1, h2, h3, h4⟩
  · cases h
  injection he with he _ _
  injection he with he
  injection he with he
  subst he
  rw [cell_of_row W gb _ cur _ (0, 0) hb, ← Array.getElem?_toList]
  have h5 : (cur.toList.take b.length)[i * size + j]? = cur.toList[i * size + j]? := by rw [List.getElem?_take, if_pos (by omega)]
  rw [← h5, h4]
  simp [nums, rowB, List.getD_eq_getElem?_getD, List.getElem?_drop, List.getElem?_take, hj, List.getElem?_eq_getElem (show i * size + j < b.length by omega)]

theorem row_C {W : World} {v : Value} {i size : Nat} {b : List Int} {A : Option Addr} (ho : OwnB W v b) (hfit : i * size + size ≤ b.length) (hA : RowAt v b.length i size A) : Kd.C (Kd.int .u8) W A (rowB b i size).length (rowB b i size) := by
  rw [rowB_length hfit]
  refine ⟨rowB_length hfit, ?_, fun hp => ?_⟩
  · obtain ⟨A, c, _, h1, h2⟩ := ho.len
    unfold maxLen at h2
    omega
  · obtain ⟨gb, cap, rfl, rfl⟩ := hA hp
    refine ⟨_, rfl, fun j p hj => ⟨[.int .u8 p], rfl, rfl, fun i' u hu => ?_⟩⟩
    have hjl : j < size := by have := (List.getElem?_eq_some_iff.1 hj).1; rw [rowB_length hfit] at this; exact this
    obtain ⟨rfl, rfl⟩ : i' = 0 ∧ u = .int .u8 p := by
      rcases i' with _ | i'
      · simp at hu; exact ⟨rfl, hu.symm⟩
      · simp at hu
    have h2 := row_cells ho hfit j hjl
    rw [List.getD_eq_getElem?_getD, hj] at h2
    have e : (⟨gb, i * size, none⟩ : Addr).add (j * (Kd.int .u8).sz + 0) = ⟨gb, i * size + j, none⟩ := by
      rw [add_at]
      simp [show (Kd.int .u8).sz = 1 from rfl]
    rw [e]
    exact h2

/-- A row of bytes read: its cells. -/
theorem C_cells {W : World} {ad : Addr} {d : List Int} (h : Kd.C (Kd.int .u8) W (some ad) d.length d) : ∀ j u, (nums .u8 d)[j]? = some u → W.cell? (ad.add j) = some u := by
  intro j u hu
  have hj : j < d.length := by have := (List.getElem?_eq_some_iff.1 hu).1; simpa [nums] using this
  obtain ⟨ad', he, hc⟩ := h.2.2 (by omega)
  injection he with he
  subst he
  obtain ⟨c, hl, hK, hcc⟩ := hc j _ (List.getElem?_eq_getElem hj)
  have e : u = .int .u8 d[j] := by
    have := hu
    simp [nums, List.getElem?_eq_getElem hj] at this
    exact this.symm
  have h0 := hcc 0 (.int .u8 d[j]) (by rw [show c = [Value.int .u8 d[j]] from hK]; rfl)
  simpa [show (Kd.int .u8).sz = 1 from rfl, e] using h0
theorem nums_oneCell (k : IntKind) (d : List Int) : ∀ u ∈ nums k d, u.oneCell' = true := by
  intro u hu
  obtain ⟨_, _, rfl⟩ := List.mem_map.1 hu
  rfl

/-- Bytes laid over a row of a column's block. -/
theorem own_lay {W : World} {gb cap off : Nat} {b d : List Int} (ho : OwnB W (.slice (some ⟨gb, 0, none⟩) b.length cap) b) (hfit : off + d.length ≤ b.length) :
    OwnB (W.setCells gb off (nums .u8 d)) (.slice (some ⟨gb, 0, none⟩) b.length cap) (layB b off d) ∧ Fr (fun k => k = gb) W (W.setCells gb off (nums .u8 d)) := by
  rcases ho.form with ⟨h, _⟩ | ⟨g, cap', cur, he, hb, h1, h2, h3, h4⟩
  · cases h
  injection he with he _ hcap
  injection he with he
  injection he with he
  subst he; subst hcap
  have hdl : (nums .u8 d).length = d.length := by simp [nums]
  obtain ⟨cur', h5, h6, h7⟩ := setCells_row (nums .u8 d) off W cur hb (by rw [hdl]; omega)
  obtain ⟨s1, s2, s3, s4⟩ := setCells_same gb (nums .u8 d) off W
  refine ⟨⟨by rw [layB_length hfit]; simp [nums, layB_length hfit], .inr ⟨gb, cap, cur', by rw [layB_length hfit], Nat.zero_le _, h5, by rw [layB_length hfit]; exact h1, h2, by rw [h6, h3, Nat.mul_one], ?_⟩⟩, ⟨s1, s2, s3, by rw [s4]; exact Nat.le_refl _, fun k _ hn => setCells_far _ _ k hn⟩⟩
  rw [layB_length hfit, h7, Nat.mul_one, hdl]
  have hcl : cur.toList.length = cap := by simpa using h3
  unfold layB
  simp only [nums, List.map_append, List.map_take, List.map_drop]
  have e1 : cur.toList.take off = (nums .u8 b).take off := by rw [← h4, List.take_take, Nat.min_eq_left (by omega)]
  have e2 : (cur.toList.drop (off + d.length)).take (b.length - (off + d.length)) = (nums .u8 b).drop (off + d.length) := by
    rw [← h4, List.drop_take]
  have e3 : (cur.toList.take off ++ List.map (Value.int .u8) d).length = off + d.length := by simp; omega
  rw [List.take_append, e3, e2, List.take_of_length_le (by rw [e3]; omega)]
  rw [e1]
  rfl

section
variable {P : Program} {ops : Array Oper} {rest : List Oper} {o : Oper} {a : Act} {Q : Exit → Act → World → Prop}
/-- copy, its run shown. -/
theorem copy_event {W w1 : World} (hgd : o.guard = none) {d s : Operand} {dT sT : TypeId} (ho : o.op = .call { callee := .builtin .copy, args := #[d, s], argTypes := #[dT, sT] }) {dv sv : Value} (hd : a.eval d = dv) (hs : a.eval s = sv) {n : Value}
    (hrun : (Builtin.copy_ #[dT, sT] o.type #[dv, sv]).run P W = .ok n w1) (h : wpList P ops Q rest (a.put o.dst n) w1) : wpList P ops Q (o :: rest) a W := by
  refine wpList_plain hgd fun K hK => ?_
  unfold Oper.wp execOp
  simp only [ho, resolve, invoke, builtin, Sem.run_bind, Sem.run_pure, Result.andThen_ok, List.map_toArray, List.map_cons, List.map_nil, hd, hs, hrun]
  exact hK _ _ h
end

/-- copy of bytes over a row: what comes of it. -/
theorem copy_run {W : World} {v : Value} {i size cA cD : Nat} {b d : List Int} {A AD : Option Addr} (ty : TypeId) (ho : OwnB W v b) (hfit : i * size + size ≤ b.length) (hA : RowAt v b.length i size A) (hd : Kd.C (Kd.int .u8) W AD d.length d) (hdl : d.length = size) :
    ∃ n W1, (Builtin.copy_ #[37, 37] ty #[.slice A size cA, .slice AD d.length cD]).run Tryd.prog W = .ok n W1 ∧ OwnB W1 v (layB b (i * size) d) ∧ Fr (fun k => v.ownBlock = some k) W W1 := by
  rw [hdl]
  rcases Nat.eq_zero_or_pos size with h0 | h0
  · subst h0
    have hd0 : d = [] := List.eq_nil_of_length_eq_zero hdl
    subst hd0
    refine ⟨_, W, run_copy_none W _ _ ty 5 A AD 0 cA 0 cD Tryd.underlying37 (by kernel_rfl) (by simp), by simpa [layB] using ho, Fr.refl _ _⟩
  · obtain ⟨gb, cap, rfl, rfl⟩ := hA h0
    obtain ⟨ad, rfl, _⟩ := hd.2.2 (by omega)
    obtain ⟨h1, h2⟩ := own_lay (off := i * size) (d := d) ho (by omega)
    have hdn : (nums .u8 d).length = d.length := by simp [nums]
    refine ⟨_, _, run_copy_cells W _ _ ty 5 gb (i * size) size cA ad size cD (nums .u8 d) Tryd.underlying37 (by kernel_rfl) (by rw [hdn, hdl]; exact (Nat.min_self size).symm) (C_cells hd) (fun j hj => ?_) (fun j hj => ?_) (nums_oneCell _ _), h1, h2.mono (fun k _ hk => by rw [hk]; rfl)⟩
    · rw [row_cells ho hfit j (by omega)]; rfl
    · rcases ho.form with ⟨h, _⟩ | ⟨g, cap', cur, he, hb, _⟩
      · cases h
      injection he with he _ _
      injection he with he
      injection he with he
      subst he
      exact blk_frozen hb _

theorem OwnB_of_R {W : World} {base : Nat} {ok : Nat → Prop} {v : Value} {b : List Int} (h : Kd.R (Kd.scalar (Value.int .u8) (fun _ => rfl)) 5 W base ok v b) : OwnB W v b := own_weaken (Kd.own_of_R h) (Nat.zero_le _)

theorem size_calls {W : World} {g rows size : Nat} {F : Nat → Prop} {b : List Int} (h : Col W g F b rows size) :
    Calls Tryd.prog 48 #[.pointer (some ⟨g, 0, none⟩)] W fun e w' => e = .returned (.int .i64 size) ∧ W = w' := by
  obtain ⟨⟨v, hb, _, _⟩, _⟩ := h
  have hc : W.cell? ⟨g, 2, none⟩ = some (.int .i64 size) := (blk_cell hb 2).trans rfl
  have hu := Tryd.underlying97
  clear hb
  go_enter Tryd.func48, Tryd.ntmps48
  go_wp2
  go_ret
  exact ⟨rfl, rfl⟩

theorem bytes_calls {W : World} {g rows size : Nat} {F : Nat → Prop} {b : List Int} (h : Col W g F b rows size) :
    Calls Tryd.prog 54 #[.pointer (some ⟨g, 0, none⟩)] W fun e w' => ∃ v : Value, e = .returned v ∧ Kd.R (Kd.int .u8) 5 w' W.heap.size (fun _ => True) v b ∧ Below W.heap.size W w' := by
  obtain ⟨⟨v, hb, ho, _⟩, _, hl, hs, hr⟩ := h
  have hm : rows * size ≤ 1024 * 64 := Nat.mul_le_mul hr hs
  obtain ⟨A, c, rfl, hbc, _⟩ := ho.len
  have hR0 : Kd.R (Kd.int .u8) 5 W 0 (fun _ => True) (.slice A b.length c) b := Kd.R_of_own ho (fun _ _ => trivial)
  have hR : Kd.C (Kd.int .u8) W A b.length b := (Kd.R_reads' hR0).2.2
  clear hR0
  have hc : W.cell? ⟨g, 0, none⟩ = some (.slice A b.length c) := (blk_cell hb 0).trans rfl
  have hu := Tryd.underlying97
  have hcl := clone_b A c b W hR (by omega)
  have HC := Aside0.mk hcl
  clear hcl hR hb ho hl hm
  go_enter Tryd.func54, Tryd.ntmps54
  go_wp2_with fail
  refine HC.out.mono ?_
  rintro e w' ⟨v, rfl, h1, h2⟩
  go_wp2
  go_ret
  exact ⟨_, rfl, h1, h2⟩

theorem get_calls {W : World} {g rows size : Nat} {F : Nat → Prop} {b : List Int} (h : Col W g F b rows size) (i : Int) :
    Calls Tryd.prog 53 #[.pointer (some ⟨g, 0, none⟩), .int .i64 i] W fun e w' => ∃ v : Value, e = .returned (.tuple #[v, .int .i64 (atE rows i)]) ∧
      Kd.R (Kd.int .u8) 5 w' W.heap.size (fun _ => True) v (if atE rows i = 0 then rowB b i.toNat size else []) ∧ Below W.heap.size W w' := by
  have hat := Aside0.mk (at_calls h i)
  obtain ⟨⟨v, hb, ho, _⟩, _, hl, hs, hr⟩ := h
  by_cases he : atE rows i = 0
  · rw [if_pos he]
    rw [he] at hat ⊢
    have hi : 0 ≤ i ∧ i < rows := by
      unfold atE at he
      split at he
      · cases he
      · omega
    obtain ⟨k, rfl⟩ := Int.eq_ofNat_of_zero_le hi.1
    have hk : k < rows := by omega
    have hile := nat_mul_le (size := size) hk
    have hrow := Aside0.mk (row_calls hb ho hl hr hs hk)
    have HO := Aside0.mk ho
    have HF := Aside0.mk (show k * size + size ≤ b.length by omega)
    have HS := Aside0.mk hs
    clear hb ho hl hs hr hi he hk hile
    go_enter Tryd.func53, Tryd.ntmps53
    go_wp2_with fail
    refine hat.out.mono ?_
    rintro e w' ⟨rfl, rfl⟩
    go_wp2_with fail
    refine hrow.out.mono ?_
    rintro e w' ⟨A, rfl, hA, n, rfl⟩
    have hlen := rowB_length HF.out
    have hC := row_C HO.out HF.out hA
    have hcl := Aside0.mk (clone_b A size (rowB b k size) (W.drewN n) hC (by rw [hlen]; have := HS.out; omega))
    rw [hlen] at hcl
    clear hlen hC
    go_wp2_with fail
    refine hcl.out.mono ?_
    rintro e w' ⟨v, rfl, h1, h2⟩
    go_wp2
    go_ret2
    exact ⟨_, rfl, h1, ⟨h2.os, h2.tape, h2.output, h2.size, h2.block⟩⟩
  · rw [if_neg he]
    have he2 : atE rows i = 2 := by
      unfold atE at he ⊢
      split
      · rfl
      · rename_i h; rw [if_neg h] at he; exact absurd rfl he
    rw [he2] at hat ⊢
    clear he he2 hb ho hl hs hr
    go_enter Tryd.func53, Tryd.ntmps53
    go_wp2_with fail
    refine hat.out.mono ?_
    rintro e w' ⟨rfl, rfl⟩
    go_wp2
    go_ret2
    exact ⟨_, rfl, Kd.R_nil _ _ _ _ _, Below.refl _ _⟩

/-- A column's cells written: its bytes' slice, and how many rows. -/
theorem col_put {w1 : World} {g : Nat} {v v1 : Value} {r r1 s : Int} {b1 : List Int} (hb : w1.heap[g]? = some (.cells #[v, .int .i64 r, .int .i64 s] 127 (0, 0))) (ho : OwnB w1 v1 b1) :
    ((w1.setCell ⟨g, 0, none⟩ v1).setCell ⟨g, 1, none⟩ (.int .i64 r1)).heap[g]? = some (.cells #[v1, .int .i64 r1, .int .i64 s] 127 (0, 0)) ∧ OwnB ((w1.setCell ⟨g, 0, none⟩ v1).setCell ⟨g, 1, none⟩ (.int .i64 r1)) v1 b1 ∧ Fr (fun k => k = g) w1 ((w1.setCell ⟨g, 0, none⟩ v1).setCell ⟨g, 1, none⟩ (.int .i64 r1)) := by
  have hne := ho.ne_blk hb (by decide)
  refine ⟨?_, (ho.far hne _).far hne _, ((Fr.refl (fun k => k = g) w1).setCell (p := ⟨g, 0, none⟩) (.inl rfl) _).setCell (p := ⟨g, 1, none⟩) (.inl rfl) _⟩
  have h1 := blk_set hb 0 v1
  have h2 := blk_set h1 1 (.int .i64 r1)
  simpa using h2

/-- An error e is told; where it is none, R holds of the world behind; else nothing has turned. -/
def Told1 (x : Int) (W : World) (R : World → Prop) (e : Ending) (w' : World) : Prop := e = .returned (.int .i64 x) ∧ ((x ≠ 0 ∧ W = w') ∨ (x = 0 ∧ R w'))
theorem Told1.no {x : Int} {W : World} {R : World → Prop} {e : Ending} (h : x ≠ 0) (he : e = .returned (.int .i64 x)) : Told1 x W R e W := ⟨he, .inl ⟨h, rfl⟩⟩
theorem Told1.yes {x : Int} {W w' : World} {R : World → Prop} {e : Ending} (h : x = 0) (he : e = .returned (.int .i64 x)) (hR : R w') : Told1 x W R e w' := ⟨he, .inr ⟨h, hR⟩⟩
/-- Add: what it tells. -/
def addE (rows size n : Nat) : Int := if n ≠ size then 7 else if rows = 1024 then 9 else 0

theorem add_calls {W : World} {g rows size cD : Nat} {F : Nat → Prop} {b d : List Int} {AD : Option Addr} (h : Col W g F b rows size) (hd : Kd.C (Kd.int .u8) W AD d.length d) :
    Calls Tryd.prog 56 #[.pointer (some ⟨g, 0, none⟩), .slice AD d.length cD] W (Told1 (addE rows size d.length) W fun w' => ∃ F', Col w' g F' (b ++ d) (rows + 1) size ∧ Step F F' W w') := by
  have hfull := h
  obtain ⟨⟨v, hb, ho, hF⟩, hg, hl, hs, hr⟩ := h
  have hc0 : W.cell? ⟨g, 0, none⟩ = some v := (blk_cell hb 0).trans rfl
  have hc1 : W.cell? ⟨g, 1, none⟩ = some (.int .i64 rows) := (blk_cell hb 1).trans rfl
  have hc2 : W.cell? ⟨g, 2, none⟩ = some (.int .i64 size) := (blk_cell hb 2).trans rfl
  have hf0 := blk_frozen hb 0
  have hf1 := blk_frozen hb 1
  have hu := Tryd.underlying97
  by_cases h1 : d.length = size
  · have q1 : ((d.length : Int) != (size : Int)) = false := by simp [h1]
    by_cases h2 : rows = 1024
    · have e : addE rows size d.length = 9 := by simp [addE, h1, h2]
      rw [e]
      have q2 : ((rows : Int) == 1024) = true := by simp [h2]
      clear h1 h2 e hb ho hl hs hr hfull
      go_enter Tryd.func56, Tryd.ntmps56
      go_wp2
      go_ret
      exact Told1.no (by decide) rfl
    · have e : addE rows size d.length = 0 := by simp [addE, h1, h2]
      rw [e]
      have q2 : ((rows : Int) == 1024) = false := by simp; omega
      have hr1 : (rows : Int) < 1024 := by omega
      have hmul := Nat.mul_le_mul hr hs
      have H1 := Aside0.mk h1
      have hs2 := Aside0.mk hs
      have HL := Aside0.mk hl
      have HLE := Aside0.mk (show (b.length + d.length) * 1 ≤ 140737488355328 by omega)
      have HB := Aside0.mk hb
      have HO := Aside0.mk ho
      have HD := Aside0.mk hd
      have hR0 : Kd.R (Kd.int .u8) 5 W 0 (fun _ => True) v b := Kd.R_of_own ho (fun _ _ => trivial)
      have HR0 := Aside0.mk hR0
      clear h1 h2 e hb ho hl hs hd hfull hmul hR0
      go_enter Tryd.func56, Tryd.ntmps56
      go_wp2_with (at_builtin; refine Kd.R_append_row (Value.int .u8) 0 (h1 := fun _ => rfl) (w0 := W) 0 rfl _ _ 37 5 (.int .u8 0) 1 rfl Tryd.underlying37 info5 rfl (by decide) _ b d _ _ _ (fun _ => True) rfl rfl ?aF ?aO ?aR ?aB ?aS ?aL ?_)
      case aF => exact fun _ _ => trivial
      case aO => exact HR0.out
      case aR => exact HD.out
      case aB => exact Below.refl _ _
      case aS => exact Nat.zero_le _
      case aL => exact HLE.out
      intro v1 w1 ho1 _ hg1 hat1
      have hne : some g ≠ v.ownBlock := fun he => by
        rcases HO.out.form with ⟨rfl, _⟩ | ⟨g', cap', cur, rfl, hb2, _⟩
        · simp [Value.ownBlock] at he
        · simp only [Value.ownBlock] at he
          injection he with he
          subst he
          rw [HB.out] at hb2
          injection hb2 with hb2
          injection hb2 with _ ht
          exact absurd ht (by decide)
      have hb1 : w1.heap[g]? = some (.cells #[v, .int .i64 rows, .int .i64 size] 127 (0, 0)) := blk_grown HB.out hg1 hne
      have HB1 := Aside0.mk hb1
      have k0 : w1.cell? ⟨g, 0, none⟩ = some v := (blk_cell hb1 0).trans rfl
      have k1 : w1.cell? ⟨g, 1, none⟩ = some (.int .i64 rows) := (blk_cell hb1 1).trans rfl
      have f0 := blk_frozen hb1 0
      have f1 := blk_frozen hb1 1
      have HO1 := Aside0.mk ho1
      have HG1 := Aside0.mk hg1
      have HA1 := Aside0.mk hat1
      obtain ⟨A1, c1, hv1⟩ := Kd.R_slice ho1
      clear hb1 ho1 hg1 hat1 hne hc0 hc1 hc2 hf0 hf1
      obtain ⟨nl, hnl⟩ : ∃ nl, (b ++ d).length = nl := ⟨_, rfl⟩
      rw [hnl] at hv1
      have HNL := Aside0.mk hnl
      clear hnl
      subst hv1
      go_wp2
      go_ret
      have HV := OwnB_of_R HO1.out
      obtain ⟨p1, p2, p3⟩ := col_put (r1 := (rows : Int) + 1) HB1.out HV
      have hF1 : ∀ k, (Value.slice A1 nl c1).ownBlock = some k → F k ∨ W.heap.size ≤ k := fun k hk => by
        rcases HA1.out with ha | ⟨n, hn, hle⟩
        · exact .inl (hF k (by rw [← ha]; exact hk))
        · rw [hk] at hn
          injection hn with hn
          exact .inr (by omega)
      refine Told1.yes rfl rfl ⟨fun k => F k ∨ W.heap.size ≤ k, ⟨⟨_, p1, p2, hF1⟩, .inl hg, ?_, ?_, ?_⟩, ⟨fun k hk => hk, ?_⟩⟩
      · have := HL.out; have := H1.out; rw [List.length_append, Nat.succ_mul]; omega
      · exact hs2.out
      · omega
      · exact (Fr.of_grown HG1.out (fun k hk => .inl (hF k hk))).then_ p3 (fun k hk => by rw [hk]; exact .inl hg)
  · have e : addE rows size d.length = 7 := by simp [addE, h1]
    rw [e]
    have q1 : ((d.length : Int) != (size : Int)) = true := by simp; omega
    clear h1 e hb ho hl hs hr hfull
    go_enter Tryd.func56, Tryd.ntmps56
    go_wp2
    go_ret
    exact Told1.no (by decide) rfl

theorem at_zero {rows : Nat} {i : Int} (he : atE rows i = 0) : ∃ k : Nat, i = (k : Int) ∧ k < rows := by
  unfold atE at he
  split at he
  · cases he
  · exact ⟨i.toNat, by omega, by omega⟩
theorem at_two {rows : Nat} {i : Int} (he : atE rows i ≠ 0) : atE rows i = 2 := by
  unfold atE at he ⊢
  split
  · rfl
  · rename_i h; rw [if_neg h] at he; exact absurd rfl he

/-- Set: what it tells. -/
def setE (rows size n : Nat) (i : Int) : Int := if atE rows i ≠ 0 then 2 else if n ≠ size then 7 else 0

theorem set_calls {W : World} {g rows size cD : Nat} {F : Nat → Prop} {b d : List Int} {AD : Option Addr} (h : Col W g F b rows size) (i : Int) (hd : Kd.C (Kd.int .u8) W AD d.length d) :
    Calls Tryd.prog 57 #[.pointer (some ⟨g, 0, none⟩), .int .i64 i, .slice AD d.length cD] W (Told1 (setE rows size d.length i) W fun w' => Col w' g F (layB b (i.toNat * size) d) rows size ∧ Fr F W w') := by
  have hat := Aside0.mk (at_calls h i)
  obtain ⟨⟨v, hb, ho, hF⟩, hg, hl, hs, hr⟩ := h
  have hu := Tryd.underlying97
  by_cases he : atE rows i = 0
  · rw [he] at hat
    obtain ⟨k, rfl, hk⟩ := at_zero he
    by_cases h1 : d.length = size
    · have e : setE rows size d.length k = 0 := by simp [setE, he, h1]
      rw [e]
      have q1 : ((d.length : Int) != (size : Int)) = false := by simp [h1]
      have hc2 : W.cell? ⟨g, 2, none⟩ = some (.int .i64 size) := (blk_cell hb 2).trans rfl
      have hile := nat_mul_le (size := size) hk
      have hrow := Aside0.mk (row_calls hb ho hl hr hs hk)
      have HO := Aside0.mk ho
      have HF := Aside0.mk (show k * size + size ≤ b.length by omega)
      have HD := Aside0.mk hd
      have H1 := Aside0.mk h1
      have HB := Aside0.mk hb
      have HL := Aside0.mk hl
      have HS := Aside0.mk hs
      have HR := Aside0.mk hr
      clear hb ho hl hs hr he hk hile hd h1 e
      go_enter Tryd.func57, Tryd.ntmps57
      go_wp2_with fail
      refine hat.out.mono ?_
      rintro e w' ⟨rfl, rfl⟩
      go_wp2_with fail
      refine hrow.out.mono ?_
      rintro e w' ⟨A, rfl, hA, n, rfl⟩
      obtain ⟨x, W1, hrun, hO1, hFr⟩ := copy_run (W := W.drewN n) (cA := size) (cD := cD) (d := d) 3 HO.out HF.out hA HD.out H1.out
      have HO1 := Aside0.mk hO1
      have HFr := Aside0.mk hFr
      have HRUN := Aside0.mk hrun
      clear hO1 hFr hrun hA
      go_wp2_with ((with_reducible refine gate_builtin (b := .copy) (xs := #[.tmp 23, .tmp 24]) rfl ?_); refine copy_event rfl rfl rfl rfl HRUN.out ?_)
      go_ret
      have hfr : Fr (fun k => v.ownBlock = some k) W W1 := ⟨HFr.out.os, HFr.out.tape, HFr.out.output, HFr.out.size, HFr.out.block⟩
      refine Told1.yes rfl rfl ⟨⟨⟨v, ?_, by simpa using HO1.out, hF⟩, hg, ?_, HS.out, HR.out⟩, hfr.mono (fun k _ hk => hF k hk)⟩
      · rw [hfr.block g (heap_lt' HB.out) (fun he => HO.out.ne_blk HB.out (by decide) he)]
        exact HB.out
      · rw [layB_length (by have := HF.out; have := H1.out; simp only [Int.toNat_natCast]; omega)]
        exact HL.out
    · have e : setE rows size d.length k = 7 := by simp [setE, he, h1]
      rw [e]
      have q1 : ((d.length : Int) != (size : Int)) = true := by simp; omega
      have hc2 : W.cell? ⟨g, 2, none⟩ = some (.int .i64 size) := (blk_cell hb 2).trans rfl
      clear hb ho hl hs hr he hk h1 e hd
      go_enter Tryd.func57, Tryd.ntmps57
      go_wp2_with fail
      refine hat.out.mono ?_
      rintro e w' ⟨rfl, rfl⟩
      go_wp2
      go_ret
      exact Told1.no (by decide) rfl
  · have e : setE rows size d.length i = 2 := by simp [setE, he]
    rw [e]
    rw [at_two he] at hat
    clear hb ho hl hs hr he e hd
    go_enter Tryd.func57, Tryd.ntmps57
    go_wp2_with fail
    refine hat.out.mono ?_
    rintro e w' ⟨rfl, rfl⟩
    go_wp2
    go_ret
    exact Told1.no (by decide) rfl

end Go.Proofs.YtnhejenjpomhdaaDoor.Col
