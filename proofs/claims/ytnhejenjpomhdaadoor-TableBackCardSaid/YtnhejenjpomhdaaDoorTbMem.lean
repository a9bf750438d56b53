/- Frames (what a call may have turned), and rows of bytes of the program's own. -/
import Derived.Test.YtnhejenjpomhdaaDoorTbBase
namespace Go.Proofs.YtnhejenjpomhdaaDoor.Mem
open Go.RowKit Go.Proofs.YtnhejenjpomhdaaDoorW.PrintWords Go.Proofs.YtnhejenjpomhdaaDoorW.PrintLast Go.Proofs.YtnhejenjpomhdaaDoorW.PrintMore
set_option linter.unusedVariables false
set_option linter.unusedSimpArgs false

/-- Of what was there in w nothing has turned but blocks of S. -/
structure Fr (S : Nat → Prop) (w w' : World) : Prop where
  os : w'.os = w.os
  tape : w'.tape = w.tape
  output : w'.output = w.output
  size : w.heap.size ≤ w'.heap.size
  block : ∀ k, k < w.heap.size → ¬ S k → w'.heap[k]? = w.heap[k]?

def None_ : Nat → Prop := fun _ => False

namespace Fr
variable {S S' : Nat → Prop} {w w1 w2 : World} {B : Nat}
theorem refl (S : Nat → Prop) (w : World) : Fr S w w := ⟨rfl, rfl, rfl, Nat.le_refl _, fun _ _ _ => rfl⟩
theorem mono (h : Fr S w w1) (hs : ∀ k, k < w.heap.size → S k → S' k) : Fr S' w w1 := ⟨h.os, h.tape, h.output, h.size, fun k hk hn => h.block k hk (fun hS => hn (hs k hk hS))⟩
theorem of_below (h : Below w.heap.size w w1) (S : Nat → Prop) : Fr S w w1 := ⟨h.os, h.tape, h.output, h.size, fun k hk _ => h.block k hk⟩
theorem of_grown {row : Option Nat} (h : w.grownBy w1 row) (hr : ∀ k, row = some k → S k ∨ w.heap.size ≤ k) : Fr S w w1 :=
  ⟨h.os, h.tape, h.output, h.size, fun k hk hn => h.block k hk (fun e => by rcases hr k e.symm with h1 | h1; exact hn h1; omega)⟩
theorem then_ (h : Fr S w w1) (k : Fr S' w1 w2) (hs : ∀ k, S' k → S k ∨ w.heap.size ≤ k) : Fr S w w2 :=
  ⟨k.os.trans h.os, k.tape.trans h.tape, k.output.trans h.output, Nat.le_trans h.size k.size, fun i hi hn =>
    (k.block i (Nat.lt_of_lt_of_le hi h.size) (fun hS => by rcases hs i hS with h1 | h1; exact hn h1; omega)).trans (h.block i hi hn)⟩
theorem trans (h : Fr S w w1) (k : Fr S w1 w2) : Fr S w w2 := h.then_ k (fun _ h => .inl h)
theorem below_ (h : Fr S w w1) (k : Below w1.heap.size w1 w2) : Fr S w w2 := h.trans (of_below k S)
theorem alloc (h : Fr S w w1) (o : Obj) : Fr S w (w1.alloc o) := h.below_ ((Below.refl _ _).alloc (Nat.le_refl _) o)
theorem drew (h : Fr S w w1) : Fr S w w1.drew := ⟨h.os, h.tape, h.output, h.size, h.block⟩
theorem setCell (h : Fr S w w1) {p : Addr} (hp : S p.block ∨ w.heap.size ≤ p.block) (u : Value) : Fr S w (w1.setCell p u) :=
  h.then_ (S' := fun k => k = p.block) ⟨rfl, rfl, rfl, by simp [World.setCell], fun k _ hn => Below.heap_setCell w1 p u k hn⟩ (fun k hk => by rw [hk]; exact hp)
theorem grown {row : Option Nat} (h : Fr S w w1) (k : w1.grownBy w2 row) (hr : ∀ k, row = some k → S k ∨ w.heap.size ≤ k) : Fr S w w2 :=
  h.then_ (S' := fun k => row = some k) ⟨k.os, k.tape, k.output, k.size, fun i hi hn => k.block i hi (fun e => hn e.symm)⟩ hr
/-- All that may have turned lies from B on. -/
theorem toBelow (h : Fr S w w1) (hB : B ≤ w.heap.size) (hs : ∀ k, S k → B ≤ k) : Below B w w1 :=
  ⟨h.os, h.tape, h.output, h.size, fun k hk => h.block k (Nat.lt_of_lt_of_le hk hB) (fun hS => by have := hs k hS; omega)⟩
theorem toBelow0 (h : Fr None_ w w1) : Below w.heap.size w w1 := h.toBelow (Nat.le_refl _) (fun _ hk => hk.elim)
end Fr

theorem heap_lt' {W : World} {g : Nat} {o : Obj} (h : W.heap[g]? = some o) : g < W.heap.size := (Array.getElem?_eq_some_iff.1 h).1

/-- A row of bytes of the program's own (nil and empty let in). -/
def OwnB (W : World) (v : Value) (b : List Int) : Prop := W.ownsRow 0 5 1 v b.length (nums .u8 b)

namespace OwnB
variable {W W1 : World} {v : Value} {b : List Int}
theorem none_ (W : World) : OwnB W (.slice none 0 0) [] := own_nil W 0 _ 1
theorem lt (h : OwnB W v b) : ∀ k, v.ownBlock = some k → k < W.heap.size := own_lt h
theorem step (h : OwnB W v b) (hm : ∀ k, v.ownBlock = some k → W1.heap[k]? = W.heap[k]?) : OwnB W1 v b := own_move h hm
theorem form (h : OwnB W v b) : (v = .slice none 0 0 ∧ b = []) ∨ ∃ g cap cur, v = .slice (some ⟨g, 0, none⟩) b.length cap ∧ W.heap[g]? = some (.cells cur 5 (0, 0)) ∧ b.length ≤ cap ∧ cap ≤ maxLen ∧ cur.size = cap ∧ cur.toList.take b.length = nums .u8 b := by
  rcases h.2 with ⟨h1, h2⟩ | ⟨g, cap, cur, h1, _, h3, h4, h5, h6, h7⟩
  · exact .inl ⟨h1, List.eq_nil_of_length_eq_zero h2⟩
  · exact .inr ⟨g, cap, cur, h1, h3, h4, h5, by simpa using h6, by simpa using h7⟩
theorem ne_blk (h : OwnB W v b) {g t : Nat} {cs : Array Value} {fr : Nat × Nat} (hb : W.heap[g]? = some (.cells cs t fr)) (ht : t ≠ 5) : v.ownBlock ≠ some g := by
  intro he
  obtain ⟨cells, hc⟩ := own_typed h g he
  rw [hc] at hb
  injection hb with hb
  injection hb with _ hb
  exact ht hb.symm
theorem far (h : OwnB W v b) {g j : Nat} (hne : v.ownBlock ≠ some g) (u : Value) : OwnB (W.setCell ⟨g, j, none⟩ u) v b := h.step (fun k hk => Below.heap_setCell W ⟨g, j, none⟩ u k (fun e => hne (by rw [hk, e])))
theorem len (h : OwnB W v b) : ∃ A c, v = .slice A b.length c ∧ b.length ≤ c ∧ c ≤ maxLen := by
  rcases h.form with ⟨rfl, rfl⟩ | ⟨g, cap, cur, rfl, _, h4, h5, _⟩
  · exact ⟨none, 0, rfl, Nat.le_refl _, Nat.zero_le _⟩
  · exact ⟨_, cap, rfl, h4, h5⟩
theorem take_ {A : Option Addr} {c p : Nat} (h : OwnB W (.slice A b.length c) b) (hp : p ≤ b.length) : OwnB W (.slice A p c) (b.take p) := by
  have hl : (b.take p).length = p := by simp; omega
  rcases h.form with ⟨h1, h2⟩ | ⟨g, cap, cur, h1, h3, h4, h5, h6, h7⟩
  · injection h1 with h1 _ h3
    subst h1; subst h3; subst h2
    obtain rfl : p = 0 := by simpa using hp
    exact none_ W
  · injection h1 with h1 _ h8
    subst h1; subst h8
    refine ⟨by rw [nums_length, Nat.mul_one], .inr ⟨g, c, cur, by rw [hl], Nat.zero_le _, h3, by rw [hl]; omega, h5, by rw [h6, Nat.mul_one], ?_⟩⟩
    rw [hl, Nat.mul_one]
    have h9 : (cur.toList.take b.length).take p = (nums .u8 b).take p := by rw [h7]
    rw [List.take_take, Nat.min_eq_left hp] at h9
    rw [h9]
    simp [nums, List.map_take]
end OwnB

/-! Slicing, its bounds as numbers -/
section
variable {P : Program} {t e : TypeId}
theorem run_slice3 (ht : P.underlying t = some (.slice e)) {s : Nat} (hs : ∀ w, (sizeOf e).run P w = .ok s w) (A0 : Option Addr) (len c lo hi mx : Nat) (h1 : lo ≤ hi) (h2 : hi ≤ mx) (h3 : mx ≤ c) (w : World) :
    (Instr.slice t (.slice A0 len c) (some (.int .i64 (lo : Int))) (some (.int .i64 (hi : Int))) (some (.int .i64 (mx : Int)))).run P w = .ok (.slice (if mx = lo then A0 else A0.map (·.add (lo * s))) (hi - lo) (mx - lo)) w := by
  have e1 := run_sliceBound (P := P) (w := w) .i64 (mx : Int) c .slice3Acap (by omega) (by omega)
  have e2 := run_sliceBound (P := P) (w := w) .i64 (hi : Int) mx .slice3B (by omega) (by omega)
  have e3 := run_sliceBound (P := P) (w := w) .i64 (lo : Int) hi .slice3C (by omega) (by omega)
  simp [Instr.slice, run_underlying ht, Instr.sliceBounds, e1, e2, e3, hs]
theorem run_slice_to (ht : P.underlying t = some (.slice e)) {s : Nat} (hs : ∀ w, (sizeOf e).run P w = .ok s w) (A0 : Option Addr) (len c hi : Nat) (h2 : hi ≤ c) (w : World) :
    (Instr.slice t (.slice A0 len c) none (some (.int .i64 (hi : Int))) none).run P w = .ok (.slice A0 hi c) w := by
  have e2 := run_sliceBound (P := P) (w := w) .i64 (hi : Int) c .sliceAcap (by omega) (by omega)
  cases A0 <;> simp [Instr.slice, run_underlying ht, Instr.sliceBounds, e2, hs, Addr.add]
end
end Go.Proofs.YtnhejenjpomhdaaDoor.Mem
