/- Package bits: the list of a set's numbers. -/
import Derived.Test.YtnhejenjpomhdaaDoorTbCol
import Derived.Shelf.Spec.TrailingZeros
namespace Go.Proofs.YtnhejenjpomhdaaDoor.Bits
open Go.RowKit Go.Proofs.YtnhejenjpomhdaaDoorW.PrintWords Go.Proofs.YtnhejenjpomhdaaDoorW.PrintLast Go.Proofs.YtnhejenjpomhdaaDoorW.PrintMore Go.Proofs.YtnhejenjpomhdaaDoor.Mem Go.Proofs.YtnhejenjpomhdaaDoor.Col Go.Proofs.YtnhejenjpomhdaaDoor.PTableLoads
set_option linter.unusedVariables false
set_option linter.unusedSimpArgs false

/-- The table of math/bits lies where the program's start laid it. -/
def Tab (w : World) : Prop := TabAt 0 Lib.deBruijn64tab w
theorem Tab.same {w w1 : World} (h : Tab w) (hb : w1.heap[0]? = w.heap[0]?) : Tab w1 := fun j hj => by
  rw [World.cell?_of_block (w := w) (a := ⟨0, j, none⟩) hb]
  exact h j hj
theorem Tab.lt {w : World} (h : Tab w) : 0 < w.heap.size := World.block_lt_of_cell? w ⟨0, 0, none⟩ (h 0 (by decide))
theorem Tab.below {w w1 : World} (h : Tab w) (hb : Below w.heap.size w w1) : Tab w1 := h.same (hb.block 0 h.lt)
set_option maxHeartbeats 1000000 in
theorem tz_core (x k idx : Nat) (w : World) (hx0 : ((x : Int) == 0) = false)
    (key : IntKind.u64.wrap (bits BinOp.and IntKind.u64 (x : Int) (IntKind.u64.wrap (-(x : Int))) * 285870213051353865) / 288230376151711744 = (idx : Int))
    (hi : idx < 64) (hk : k < 64) (hcell : w.cell? ⟨0, idx, none⟩ = some (.int .u8 k)) :
    Calls Tryd.prog 64 #[.int .u64 x] w fun e w' => e = .returned (.int .i64 k) ∧ w = w' := by
  go_enter Tryd.func64, Tryd.ntmps64
  go_wp2_with (simp only [key])
  go_ret
  exact ⟨rfl, rfl⟩

theorem tz_calls (x : Nat) (hx0 : x ≠ 0) (hx : x < 18446744073709551616) (w : World) (hT : Tab w) :
    Calls Tryd.prog 64 #[.int .u64 x] w fun e w' => e = .returned (.int .i64 (Lib.ctz 64 x)) ∧ w = w' := by
  obtain ⟨hlow, hk⟩ := Lib.lowest_bit 64 x hx0 hx
  obtain ⟨hi, htab⟩ := Lib.deBruijn64_at _ hk
  have hcell := hT _ hi
  rw [htab] at hcell
  exact tz_core x _ _ w (by simp; omega) (tz64_key x _ hx hx0 hlow) hi hk hcell

/-! The numbers of a set, rising -/
def bitsN (s : Nat) : List Nat := (List.range 64).filter fun i => s.testBit i
def bitsL (s : Nat) : List Int := (bitsN s).map fun i : Nat => (i : Int)

theorem ctz_bits (s : Nat) (h0 : s ≠ 0) (h : s < 18446744073709551616) : Lib.ctz 64 s < 64 ∧ s.testBit (Lib.ctz 64 s) = true ∧ (∀ i, i < Lib.ctz 64 s → s.testBit i = false) ∧ ∀ i, (s &&& (s - 1)).testBit i = (s.testBit i && decide (i ≠ Lib.ctz 64 s)) := by
  obtain ⟨m, hm, hk⟩ := Lib.ctzFrom_spec 64 s (by omega) h
  have e : Lib.ctz 64 s = Lib.ctzFrom 64 s := by simp [Lib.ctz, h0]
  rw [e]
  generalize Lib.ctzFrom 64 s = k at *
  have hlow : ∀ i, i < k → s.testBit i = false := fun i hi => by
    rw [hm, Nat.testBit_two_pow_mul]; simp; omega
  have hat : s.testBit k = true := by
    rw [hm, Nat.testBit_two_pow_mul]; simp [Nat.testBit_zero]
  refine ⟨hk, hat, hlow, fun i => ?_⟩
  rw [Nat.testBit_and]
  have hs1 : s - 1 = 2 ^ k * (2 * m) + (2 ^ k - 1) := by
    have h2 : 0 < 2 ^ k := Nat.two_pow_pos k
    rw [hm, Nat.mul_add, Nat.mul_one]; omega
  have ht : (s - 1).testBit i = if i < k then true else (2 * m).testBit (i - k) := by
    rw [hs1, Nat.testBit_two_pow_mul_add _ (by have := Nat.two_pow_pos k; omega)]
    split
    · rename_i hi; rw [Nat.testBit_two_pow_sub_one]; simp [hi]
    · rfl
  rw [ht]
  rcases Nat.lt_trichotomy i k with hi | hi | hi
  · rw [hlow i hi]; simp
  · subst hi; simp [hat]
  · rw [if_neg (by omega), hm, Nat.testBit_two_pow_mul]
    have h3 : (2 * m + 1).testBit (i - k) = (2 * m).testBit (i - k) := by
      obtain ⟨j, hj⟩ : ∃ j, i - k = j + 1 := ⟨i - k - 1, by omega⟩
      rw [hj, Nat.testBit_succ, Nat.testBit_succ]
      congr 1
      omega
    rw [h3]
    have h4 : decide (i ≠ k) = true := by simp; omega
    rw [h4]
    simp

theorem bitsN_zero : bitsN 0 = [] := by simp [bitsN]
theorem bitsN_step (s : Nat) (h0 : s ≠ 0) (h : s < 18446744073709551616) : bitsN s = Lib.ctz 64 s :: bitsN (s &&& (s - 1)) := by
  obtain ⟨hk, h1, h2, h3⟩ := ctz_bits s h0 h
  generalize Lib.ctz 64 s = k at *
  unfold bitsN
  have hr : List.range 64 = List.range k ++ k :: List.range' (k + 1) (63 - k) := by
    rw [List.range_eq_range', List.range_eq_range', show (64 : Nat) = k + (1 + (63 - k)) by omega, ← List.range'_append_1, Nat.zero_add]
    simp [List.range'_append_1, List.range'_succ, Nat.add_comm 1]
  rw [hr, List.filter_append, List.filter_append, List.filter_cons, List.filter_cons, h1, h3 k]
  have e1 : (List.range k).filter (fun i => s.testBit i) = [] := List.filter_eq_nil_iff.2 (fun i hi => by rw [h2 i (List.mem_range.1 hi)]; simp)
  have e2 : (List.range k).filter (fun i => (s &&& (s - 1)).testBit i) = [] := List.filter_eq_nil_iff.2 (fun i hi => by rw [h3, h2 i (List.mem_range.1 hi)]; simp)
  have e3 : (List.range' (k + 1) (63 - k)).filter (fun i => (s &&& (s - 1)).testBit i) = (List.range' (k + 1) (63 - k)).filter (fun i => s.testBit i) := by
    refine List.filter_congr (fun i hi => ?_)
    rw [h3]
    have := (List.mem_range'_1.1 hi).1
    have : decide (i ≠ k) = true := by simp; omega
    rw [this, Bool.and_true]
  rw [e1, e2, e3]
  simp
theorem bitsL_zero : bitsL 0 = [] := by simp [bitsL, bitsN_zero]
theorem bitsL_step (s : Nat) (h0 : s ≠ 0) (h : s < 18446744073709551616) : bitsL s = (Lib.ctz 64 s : Int) :: bitsL (s &&& (s - 1)) := by simp [bitsL, bitsN_step s h0 h]
theorem bitsN_length (s : Nat) : (bitsN s).length ≤ 64 := by have := List.length_filter_le (fun i => s.testBit i) (List.range 64); simpa [bitsN] using this
theorem bitsL_length (s : Nat) : (bitsL s).length ≤ 64 := by simpa [bitsL] using bitsN_length s

set_option maxHeartbeats 4000000 in
set_option maxRecDepth 100000 in
theorem list_calls (s : Nat) (hs : s < 18446744073709551616) (w : World) (hT : Tab w) :
    Calls Tryd.prog 38 #[.int .u64 s] w fun e w' => ∃ v : Value, e = .returned v ∧ Kd.R (Kd.int .i64) 3 w' w.heap.size (fun _ => True) v (bitsL s) ∧ Below w.heap.size w w' := by
  have HT := Aside0.mk hT
  have HS := Aside0.mk hs
  have hlen := Aside0.mk (bitsL_length s)
  have HB := Aside0.mk (Below.refl w.heap.size w)
  clear hT hs
  go_enter Tryd.func38, Tryd.ntmps38
  go_wp2
  go_loopg [0, 3] 64 (fun gk v0 v3 wr => ∃ (t : Nat) (xs : List Int), v0 = .int .u64 t ∧ Aside0 (t < 18446744073709551616 ∧ xs ++ bitsL t = bitsL s ∧ (bitsL t).length ≤ gk) ∧ Aside0 (Kd.R (Kd.int .i64) 3 wr w.heap.size (fun _ => True) v3 xs) ∧ Aside0 (Below w.heap.size w wr))
  case atStart => exact ⟨s, [], rfl, ⟨HS.out, rfl, hlen.out⟩, ⟨Kd.R_nil _ _ _ _ _⟩, HB⟩
  case round =>
    clear HB
    obtain ⟨t, xs, rfl, H, HR, HB⟩ := hrel
    by_cases h0 : t = 0
    · subst h0
      go_wp2
      go_ret
      have := H.out.2.1
      rw [bitsL_zero, List.append_nil] at this
      exact ⟨_, rfl, by rw [← this]; exact HR.out, HB.out⟩
    · have q0 : ((t : Int) != 0) = true := by simp; omega
      obtain ⟨ht, he, hg⟩ := H.out
      have hst := bitsL_step t h0 ht
      obtain ⟨m, hm⟩ : ∃ m : Nat, m = t - 1 := ⟨_, rfl⟩
      have hsub : IntKind.u64.wrap ((t : Int) - 1) = (m : Int) := by rw [IntKind.wrap_u64]; omega
      have hand := bits_and_u64_nat t m ht (by omega)
      obtain ⟨t', ht'⟩ : ∃ t' : Nat, t' = t &&& m := ⟨_, rfl⟩
      rw [← ht'] at hand
      rw [← hm, ← ht'] at hst
      have ht2 : t' < 18446744073709551616 := by rw [ht']; exact Nat.lt_of_le_of_lt Nat.and_le_left ht
      have HC := Aside0.mk (tz_calls t h0 ht wr (HT.out.below HB.out))
      obtain ⟨c, hc⟩ : ∃ c : Nat, c = Lib.ctz 64 t := ⟨_, rfl⟩
      rw [← hc] at hst HC
      have hxl : xs.length ≤ 64 := by have := hlen.out; rw [← he, List.length_append] at this; omega
      rw [hst, List.length_cons] at hg
      rw [hst] at he
      obtain ⟨k1, rfl⟩ : ∃ k1, gk = k1 + 1 := ⟨gk - 1, by omega⟩
      have HH := Aside0.mk (And.intro ht2 (And.intro (show (xs ++ [(c : Int)]) ++ bitsL t' = bitsL s by simpa using he) (show (bitsL t').length ≤ k1 by omega)))
      have HX := Aside0.mk hxl
      clear hst he hg hc ht' hm ht h0 H ht2 hxl
      go_wp2_with (first
        | (go_at_call 64; refine HC.out.mono ?_; rintro e w' ⟨rfl, rfl⟩)
        | ((with_reducible refine gate_builtin (b := .append) (xs := #[.tmp 10, .tmp 13]) rfl ?_); at_builtin; refine Kd.R_append (Kd.int .i64) (w0 := w) w.heap.size rfl (.tmp 10) (.tmp 13) 32 3 (.int .i64 0) 8 rfl Tryd.underlying32 info3 rfl (by decide) (by omega) u3 xs (c : Int) [.int .i64 c] (fun _ => True) (fun _ => False) rfl rfl ?aP (fun _ hk => hk.elim) ?aF ?aO ?aB ?aS ?aL ?_; (case aP => exact rfl); (case aF => exact fun _ _ => trivial); (case aO => exact HR.out); (case aB => exact HB.out); (case aS => exact HB.out.size); (case aL => have := HX.out; omega); intro v1 w1 ho hb hg hat; have HR1 := Aside0.mk ho; have HB1 := Aside0.mk hb; clear ho hb hg hat))
      go_roundg k1
      case measure => omega
      case rel => exact ⟨t', xs ++ [(c : Int)], rfl, HH, HR1, HB1⟩

end Go.Proofs.YtnhejenjpomhdaaDoor.Bits
