/- A new column; a new table. -/
import Derived.Test.YtnhejenjpomhdaaDoorTbDrop
namespace Go.Proofs.YtnhejenjpomhdaaDoor.Tab
open Go.RowKit Go.Proofs.YtnhejenjpomhdaaDoorW.PrintWords Go.Proofs.YtnhejenjpomhdaaDoorW.PrintLast Go.Proofs.YtnhejenjpomhdaaDoorW.PrintMore Go.Proofs.YtnhejenjpomhdaaDoor.Mem Go.Proofs.YtnhejenjpomhdaaDoor.Col Go.Proofs.YtnhejenjpomhdaaDoor.Bits Go.Proofs.YtnhejenjpomhdaaDoor.Data Go.Proofs.YtnhejenjpomhdaaDoor.Mp Go.Proofs.YtnhejenjpomhdaaDoor.PTableLoads
attribute [local go_sem] max2_int min2_int max_two min_two max_three min_three max_four min_four
set_option linter.unusedVariables false
set_option linter.unusedSimpArgs false

/-- A component's size as a column keeps it. -/
def clampN (x : Int) : Nat := (mn (mx x 0) 64).toNat
theorem clampN_le (x : Int) : clampN x ≤ 64 := by unfold clampN mn mx; split <;> (try split) <;> omega
theorem clampN_int (x : Int) : ((clampN x : Nat) : Int) = mn (mx x 0) 64 := by unfold clampN mn mx; split <;> (try split) <;> omega

set_option maxRecDepth 100000 in
theorem new_col (a : Int) (w : World) : Calls Tryd.prog 40 #[.int .i64 a] w fun e w' => e = .returned (.pointer (some ⟨w.heap.size, 0, none⟩)) ∧ Col w' w.heap.size (fun k => w.heap.size = k) [] 0 (clampN a) ∧ Below w.heap.size w w' := by
  have hu := Tryd.underlying97
  obtain ⟨j1, hj1⟩ : ∃ j : Int, mx a 0 = j := ⟨_, rfl⟩
  have hj1_ : (if a < 0 then 0 else a) = j1 := hj1
  obtain ⟨j2, hj2⟩ : ∃ j : Int, mn j1 64 = j := ⟨_, rfl⟩
  have hj2_ : (if 64 < j1 then 64 else j1) = j2 := hj2
  have hc := clampN_int a
  rw [hj1, hj2] at hc
  have HLE := Aside0.mk (clampN_le a)
  obtain ⟨z, hz⟩ : ∃ z, clampN a = z := ⟨_, rfl⟩
  rw [hz] at hc HLE ⊢
  have HC := Aside0.mk hc
  clear hc hz hj1 hj2
  go_enter Tryd.func40, Tryd.ntmps40
  go_wp2
  go_ret
  have hC := HC.out
  subst hC
  refine ⟨rfl, ⟨⟨.slice none 0 0, by simpa using heap_alloc_new w _, OwnB.none_ _, fun k hk => by simp [Value.ownBlock] at hk⟩, rfl, by simp, HLE.out, by omega⟩, (Below.refl _ _).alloc (Nat.le_refl _) _⟩

/-! comp.All: all of the first n numbers. -/
def allS (n : Nat) : Nat := 2 ^ n - 1
theorem bit_or (i : Nat) (h : i < 64) : bits_With.f (allS i : Nat) (i : Int) = some ((allS (i + 1) : Nat) : Int) := by
  have hp : (2 : Nat) ^ i < 18446744073709551616 := Nat.lt_of_lt_of_le (Nat.pow_lt_pow_right (by omega) h) (Nat.le_refl _)
  have h1 : bits_bit.f (i : Int) = some ((2 ^ i : Nat) : Int) := by
    unfold bits_bit.f
    rw [if_neg (by omega), if_neg (by omega), if_pos (by omega)]
    unfold shl
    rw [Int.toNat_natCast, Nat.min_eq_left (by show i ≤ 64; omega), Int.one_mul, IntKind.wrap_u64]
    congr 1
    have : ((2 : Int) ^ i) = ((2 ^ i : Nat) : Int) := by simp
    rw [this]
    exact Int.emod_eq_of_lt (Int.natCast_nonneg _) (Int.ofNat_lt.2 hp)
  unfold bits_With.f
  rw [h1, Option.bind_some]
  have ha : allS i < 18446744073709551616 := by unfold allS; omega
  have hb := bits_or_u64_nat (allS i) (2 ^ i) ha hp
  rw [hb]
  congr 2
  apply Nat.eq_of_testBit_eq
  intro j
  unfold allS
  rw [Nat.testBit_or, Nat.testBit_two_pow_sub_one, Nat.testBit_two_pow_sub_one, Nat.testBit_two_pow]
  by_cases h1 : j < i
  · simp [h1]; omega
  · by_cases h2 : i = j
    · simp [h2]
    · have : ¬ j < i + 1 := by omega
      simp [h1, h2, this]
theorem all_l0 (n : Nat) (hn : n ≤ 64) : ∀ k i : Nat, i ≤ n → n - i < k → comp_All.l0 k (allS i : Nat) (n : Int) (i : Int) = some ((allS n : Nat) : Int)
  | 0, i, _, h => by omega
  | k + 1, i, hi, h => by
    unfold comp_All.l0
    by_cases hlt : i < n
    · rw [if_pos (by omega), bit_or i (by omega)]
      have e : wrap64 ((i : Int) + 1) = ((i + 1 : Nat) : Int) := by
        have : wrap64 ((i : Int) + 1) = (i : Int) + 1 := by unfold wrap64; omega
        rw [this]; omega
      simp only [Option.bind_some]
      rw [e]
      exact all_l0 n hn k (i + 1) (by omega) (by omega)
    · have : i = n := by omega
      subst this
      rw [if_neg (by omega)]
theorem all_f (l : List S88) (a b c d : Int) (hn : l.length ≤ 64) : comp_All.f 65 a b c d l = some ((allS l.length : Nat) : Int) := by
  have := all_l0 l.length hn 65 0 (by omega) (by omega)
  unfold comp_All.f
  simpa [allS] using this
/-- A new table's content. -/
def newT (l : List S88) (sig : Nat) : TabS := ⟨sig &&& allS l.length, [], fun _ => [], fun k => clampN (l.getD k z88).f1⟩
theorem mem_all {s n i : Nat} (h : i ∈ bitsN (s &&& allS n)) : i < n := by
  unfold bitsN at h
  have h2 := (List.mem_filter.1 h).2
  unfold allS at h2
  rw [Nat.testBit_and, Nat.testBit_two_pow_sub_one] at h2
  simp at h2
  exact h2.2
theorem newT_lt (l : List S88) {sig : Nat} (h : sig < 18446744073709551616) : sig &&& allS l.length < 18446744073709551616 := Nat.lt_of_le_of_lt Nat.and_le_left h

/-- Half way: the components of xs have their columns. -/
structure NewM (W : World) (B g m sig : Nat) (cz : Nat → Nat) (xs : List Int) (cg : Nat → Nat) : Prop where
  blk : W.heap[g]? = some (.cells #[.int .u64 sig, .slice none 0 0, .map (some m)] 94 (0, 0))
  map : MapIs W m .i64 (fun k => if k ∈ xs then some (.pointer (some ⟨cg k.toNat, 0, none⟩)) else none)
  cols : ∀ k : Nat, (k : Int) ∈ xs → Col W (cg k) (fun b => cg k = b) [] 0 (cz k)
  new : ∀ k : Nat, (k : Int) ∈ xs → B ≤ cg k
  dis : ∀ k k' : Nat, (k : Int) ∈ xs → (k' : Int) ∈ xs → k ≠ k' → cg k ≠ cg k'
  gB : g < B
  mB : m < B
  pos : ∀ k, k ∈ xs → 0 ≤ k
theorem NewM.next {W W2 W3 : World} {B g m sig q i : Nat} {cz : Nat → Nat} {xs ys : List Int} {cg : Nat → Nat} (h : NewM W B g m sig cz xs cg) (hB : B ≤ W.heap.size) (hq : W.heap.size ≤ q) (hb : Below W.heap.size W W2) (hc : Col W2 q (fun b => q = b) [] 0 (cz i)) (hi : (i : Int) ∉ xs)
    (hm : MapIs W3 m .i64 (fun j => if j = (i : Int) then some (.pointer (some ⟨q, 0, none⟩)) else if j ∈ xs then some (.pointer (some ⟨cg j.toNat, 0, none⟩)) else none)) (hf : Fr (fun b => b = m) W2 W3) (hy : xs ++ [(i : Int)] = ys) : NewM W3 B g m sig cz ys (fun k => if k = i then q else cg k) := by
  subst hy
  have hgm : g ≠ m := fun e => by
    have h1 := h.blk
    rw [e] at h1
    exact map_ne_cells h.map h1
  have hgl := heap_lt' h.blk
  have hnew := h.new
  have hcq : ∀ k : Nat, (k : Int) ∈ xs → cg k < W.heap.size := fun k hk => by
    obtain ⟨⟨v, h1, _⟩, _⟩ := h.cols k hk
    exact heap_lt' h1
  exact {
    blk := (hf.block g (Nat.lt_of_lt_of_le hgl hb.size) hgm).trans ((hb.block g hgl).trans h.blk)
    map := by
      obtain ⟨es, c, h1, h2, h3⟩ := hm
      refine ⟨es, c, h1, h2, fun k => ?_⟩
      rw [h3 k]
      by_cases hk : k = (i : Int)
      · subst hk
        simp
      · have hk2 : k ∈ xs → ¬ k.toNat = i := fun hm e => by
          have := h.pos k hm
          exact hk (by omega)
        by_cases hkx : k ∈ xs
        · simp [hk, hkx, hk2 hkx]
        · simp [hk, hkx]
    cols := fun k hk => by
      rcases List.mem_append.1 hk with hk | hk
      · have hne : k ≠ i := fun e => hi (by rw [← e]; exact hk)
        simp only [if_neg hne]
        refine ((h.cols k hk).below hb).move (fun b hb2 hlt => hf.block b hlt (fun e => ?_))
        have := hnew k hk
        have := h.mB
        omega
      · have e : k = i := by have := List.mem_singleton.1 hk; omega
        subst e
        simp only [if_true]
        exact hc.move (fun b hb2 hlt => hf.block b hlt (fun e => by have := h.mB; omega))
    new := fun k hk => by
      rcases List.mem_append.1 hk with hk | hk
      · have hne : k ≠ i := fun e => hi (by rw [← e]; exact hk)
        simp only [if_neg hne]
        exact hnew k hk
      · have e : k = i := by have := List.mem_singleton.1 hk; omega
        subst e
        simp only [if_true]
        omega
    dis := fun k k' hk hk' hne => by
      by_cases e : k = i
      · subst e
        rw [if_pos rfl, if_neg (Ne.symm hne)]
        rcases List.mem_append.1 hk' with hk' | hk'
        · have := hcq k' hk'; omega
        · exact absurd (by have := List.mem_singleton.1 hk'; omega) hne
      · rw [if_neg e]
        by_cases e' : k' = i
        · subst e'
          rw [if_pos rfl]
          rcases List.mem_append.1 hk with hk | hk
          · have := hcq k hk; omega
          · exact absurd (by have := List.mem_singleton.1 hk; omega) hne
        · rw [if_neg e']
          refine h.dis k k' ?_ ?_ hne
          · rcases List.mem_append.1 hk with hk | hk
            · exact hk
            · exact absurd (by have := List.mem_singleton.1 hk; omega) e
          · rcases List.mem_append.1 hk' with hk | hk
            · exact hk
            · exact absurd (by have := List.mem_singleton.1 hk; omega) e'
    gB := h.gB, mB := h.mB
    pos := fun k hk => by
      rcases List.mem_append.1 hk with hk | hk
      · exact h.pos k hk
      · have := List.mem_singleton.1 hk; omega }
theorem NewM.done {W : World} {B B0 g m sig : Nat} {cz : Nat → Nat} {cg : Nat → Nat} (h : NewM W B g m sig cz (bitsL sig) cg) (hg : B0 ≤ g) (hm : B0 ≤ m) (hs : sig < 18446744073709551616) : IsTab W g (fun k => B0 ≤ k) ⟨sig, [], fun _ => [], cz⟩ := by
  refine ⟨.slice none 0 0, m, cg, fun k b => cg k = b, {
    blk := h.blk, ids := Kd.R_nil _ _ _ _ _
    map := h.map
    cols := fun k hk => h.cols k (mem_bitsL.2 ⟨k, rfl, hk⟩)
    fg := hg, fm := hm, fi := fun k hk => by simp [Value.ownBlock] at hk
    fc := fun k hk b hb => by
      have := h.new k (mem_bitsL.2 ⟨k, rfl, hk⟩)
      have := h.gB
      subst hb
      omega
    sep := fun k hk b hb => by
      have := h.new k (mem_bitsL.2 ⟨k, rfl, hk⟩)
      have := h.gB
      have := h.mB
      subst hb
      exact ⟨by omega, by omega, by simp [Value.ownBlock]⟩
    dis := fun k k' hk hk' hne b hb hb' => h.dis k k' (mem_bitsL.2 ⟨k, rfl, hk⟩) (mem_bitsL.2 ⟨k', rfl, hk'⟩) hne (hb.trans hb'.symm)
    sig_lt := hs, n_le := Nat.zero_le _ }⟩

set_option maxHeartbeats 4000000 in
set_option maxRecDepth 100000 in
theorem new_calls (a0 a1 a2 a3 : Int) (A : Option Addr) (c : Nat) (l : List S88) (sig : Nat) (W : World) (hC : Kd.C k88 W A l.length l) (hc : l.length ≤ c) (hl : l.length ≤ 64) (hs : sig < 18446744073709551616) (hT : Tab W) :
    Calls Tryd.prog 10 #[.agg #[.int .i64 a0, .int .i64 a1, .int .i64 a2, .int .i64 a3, .slice A l.length c], .int .u64 sig] W fun e w' => ∃ g, e = .returned (.pointer (some ⟨g, 0, none⟩)) ∧ IsTab w' g (fun k => W.heap.size ≤ k) (newT l sig) ∧ Below W.heap.size W w' := by
  have hb0 : Below W.heap.size W (W.alloc (.cells #[.int .i64 a0, .int .i64 a1, .int .i64 a2, .int .i64 a3, .slice A l.length c] 24)) := (Below.refl _ _).alloc (Nat.le_refl _) _
  have hrc : (W.alloc (.cells #[.int .i64 a0, .int .i64 a1, .int .i64 a2, .int .i64 a3, .slice A l.length c] 24)).heap[W.heap.size]? = some (.cells #[.int .i64 a0, .int .i64 a1, .int .i64 a2, .int .i64 a3, .slice A l.length c] 24 (0, 0)) := by simpa using heap_alloc_new W _
  have hu := Tryd.underlying30
  have hu2 := Tryd.underlying24
  obtain ⟨n, hn⟩ : ∃ n, l.length = n := ⟨_, rfl⟩
  obtain ⟨W0, hW0⟩ : ∃ W0, W.alloc (.cells #[.int .i64 a0, .int .i64 a1, .int .i64 a2, .int .i64 a3, .slice A l.length c] 24) = W0 := ⟨_, rfl⟩
  rw [hW0] at hb0 hrc
  have HALL := Aside0.mk (comp_All.calls 65 a0 a1 a2 a3 A c l (allS l.length : Nat) W0 (Kd.C_below hC hb0) hc (all_f l a0 a1 a2 a3 hl))
  have hand := bits_and_u64_nat sig (allS l.length) hs (by unfold allS; have : (2 : Nat) ^ l.length ≤ 2 ^ 64 := Nat.pow_le_pow_right (by omega) hl; omega)
  have hw0 : W0.cell? ⟨W.heap.size, 0, none⟩ = some (.int .i64 a0) := (blk_cell hrc 0).trans rfl
  have hw1 : W0.cell? ⟨W.heap.size, 1, none⟩ = some (.int .i64 a1) := (blk_cell hrc 1).trans rfl
  have hw2 : W0.cell? ⟨W.heap.size, 2, none⟩ = some (.int .i64 a2) := (blk_cell hrc 2).trans rfl
  have hw3 : W0.cell? ⟨W.heap.size, 3, none⟩ = some (.int .i64 a3) := (blk_cell hrc 3).trans rfl
  have hw4 : W0.cell? ⟨W.heap.size, 4, none⟩ = some (.slice A l.length c) := (blk_cell hrc 4).trans rfl
  have HSG := Aside0.mk (newT_lt l hs)
  have HTT := Aside0.mk (show newT l sig = ⟨sig &&& allS l.length, [], fun _ => [], fun k => clampN (l.getD k z88).f1⟩ from rfl)
  obtain ⟨sg, hsg⟩ : ∃ sg, sig &&& allS l.length = sg := ⟨_, rfl⟩
  have HMEM := Aside0.mk (fun i (hi : i ∈ bitsN (sig &&& allS l.length)) => mem_all hi)
  simp only [hsg] at hand HSG HTT HMEM
  obtain ⟨al, hal⟩ : ∃ al, allS l.length = al := ⟨_, rfl⟩
  rw [hal] at hand HALL
  have HW := Aside0.mk hW0
  have HB0 := Aside0.mk hb0
  have HRC := Aside0.mk hrc
  have HCL := Aside0.mk hC
  have HCc := Aside0.mk hc
  have HLL := Aside0.mk hl
  have HT := Aside0.mk hT
  simp only [hn] at HALL HW HRC HCL HCc HLL HMEM hw4 ⊢
  have HNN := Aside0.mk hn
  clear hb0 hrc hC hc hl hs hT hW0 hsg hal hn
  go_enter Tryd.func10, Tryd.ntmps10
  go_wp2_with (rw [HW.out])
  refine HALL.out.mono ?_
  rintro e w1 ⟨rfl, hB1⟩
  have hb3 : Below w1.heap.size w1 ((w1.alloc (.map #[] 0)).alloc (.cells #[.int .u64 sg, .slice none 0 0, .map (some w1.heap.size)] 94)) := ((Below.refl _ _).alloc (Nat.le_refl _) _).alloc (by simp) _
  have hm3 : MapIs ((w1.alloc (.map #[] 0)).alloc (.cells #[.int .u64 sg, .slice none 0 0, .map (some w1.heap.size)] 94)) w1.heap.size .i64 (fun _ => none) := (MapIs.new w1 .i64).same (((Below.refl _ (w1.alloc (.map #[] 0))).alloc (Nat.le_refl _) _).block w1.heap.size (by simp))
  have ht3 : ((w1.alloc (.map #[] 0)).alloc (.cells #[.int .u64 sg, .slice none 0 0, .map (some w1.heap.size)] 94)).heap[w1.heap.size + 1]? = some (.cells #[.int .u64 sg, .slice none 0 0, .map (some w1.heap.size)] 94 (0, 0)) := heap_alloc2_new w1 _ _
  have hs3 : ((w1.alloc (.map #[] 0)).alloc (.cells #[.int .u64 sg, .slice none 0 0, .map (some w1.heap.size)] 94)).heap.size = w1.heap.size + 2 := by simp
  obtain ⟨W3, hW3⟩ : ∃ W3, (w1.alloc (.map #[] 0)).alloc (.cells #[.int .u64 sg, .slice none 0 0, .map (some w1.heap.size)] 94) = W3 := ⟨_, rfl⟩
  rw [hW3] at hb3 hm3 ht3 hs3
  have HW3 := Aside0.mk hW3
  have HB1 := Aside0.mk hB1
  have HB3 := Aside0.mk hb3
  have HT3 := Aside0.mk ht3
  have HS3 := Aside0.mk hs3
  have HM3 := Aside0.mk hm3
  have HBA := Aside0.mk (below_step (below_step HB0.out hB1) hb3)
  have hc0 : W3.cell? ⟨w1.heap.size + 1, 0, none⟩ = some (.int .u64 sg) := (blk_cell ht3 0).trans rfl
  have HL := Aside0.mk (list_calls sg HSG.out W3 (HT.out.below HBA.out))
  have HN := Aside0.mk (bitsL_length sg)
  have HND := Aside0.mk (bitsL_nodup sg)
  obtain ⟨ks, hks⟩ : ∃ ks, bitsL sg = ks := ⟨_, rfl⟩
  have HKS := Aside0.mk hks
  rw [hks] at HL HN HND
  clear hW3 hB1 hb3 ht3 hs3 hm3 hks hw0 hw1 hw2 hw3 hw4
  have hmm := @run_makeMap Tryd.prog
  go_wp2_with (rw [HW3.out])
  clear hmm
  refine HL.out.mono ?_
  rintro e w4 ⟨v, rfl, hR1, hB4⟩
  obtain ⟨LA, lc, rfl⟩ := Kd.R_slice hR1
  obtain ⟨nk, hnk⟩ : ∃ n, ks.length = n := ⟨_, rfl⟩
  have HR1 := Aside0.mk (Kd.R_mono (ok' := fun k => W3.heap.size ≤ k) (Kd.R_bound hR1) (fun k hk => hk.2.1))
  rw [hnk] at HR1 HN ⊢
  have HNK := Aside0.mk hnk
  have HB4 := Aside0.mk hB4
  have HBX := Aside0.mk (below_step HBA.out hB4)
  have HTD := Aside0.mk HB0.out.size
  have HS1 := Aside0.mk HB1.out.size
  obtain ⟨g, hg⟩ : ∃ g, w1.heap.size + 1 = g := ⟨_, rfl⟩
  obtain ⟨m, hm⟩ : ∃ m, w1.heap.size = m := ⟨_, rfl⟩
  have HG := Aside0.mk hg
  have HM := Aside0.mk hm
  have HNW := Aside0.mk (show NewM w4 W3.heap.size g m sg (fun k => clampN (l.getD k z88).f1) [] (fun _ => 0) from {
    blk := by have h1 := (hB4.block _ (heap_lt' HT3.out)).trans HT3.out; rw [hg, hm] at h1; exact h1
    map := by have h1 := HM3.out.same (hB4.block _ HM3.out.lt); rw [hm] at h1; simpa using h1
    cols := fun k hk => by simp at hk
    new := fun k hk => by simp at hk
    dis := fun k k' hk => by simp at hk
    gB := by have := HS3.out; omega
    mB := by have := HS3.out; omega
    pos := fun k hk => by simp at hk })
  have HRC4 := Aside0.mk (show w4.heap[W.heap.size]? = some (.cells #[.int .i64 a0, .int .i64 a1, .int .i64 a2, .int .i64 a3, .slice A n c] 24 (0, 0)) from by
    have h1 := HRC.out
    have h2 := heap_lt' h1
    rw [← HB1.out.block _ h2, ← HB3.out.block _ (Nat.lt_of_lt_of_le h2 HB1.out.size), ← hB4.block _ (Nat.lt_of_lt_of_le h2 (Nat.le_trans HB1.out.size HB3.out.size))] at h1
    exact h1)
  have HF4 := Aside0.mk (Fr.refl (fun k => k = m) w4)
  rw [hg]
  simp only [hm]
  clear hR1 hnk hB4 hc0 hg hm hand
  go_wp2
  go_loopg [23] nk (fun gk v23 wr => ∃ j : Nat, v23 = .int .i64 j ∧ Aside0 (j + gk = nk) ∧ Aside0 (∃ cg, NewM wr W3.heap.size g m sg (fun k => clampN (l.getD k z88).f1) (ks.take j) cg) ∧ Aside0 (Fr (fun k => k = m) w4 wr))
  case atStart => exact ⟨0, rfl, ⟨by omega⟩, ⟨_, HNW.out⟩, HF4⟩
  case round =>
    obtain ⟨j, rfl, H, HX, HF⟩ := hrel
    obtain ⟨cg, hNM⟩ := HX.out
    have HNM := Aside0.mk hNM
    clear HX hNM
    by_cases hlt : j < nk
    · have q0 : decide ((j : Int) < (nk : Int)) = true := by simp; omega
      have p0 : (0 : Int) ≤ (j : Int) := by omega
      have p1 : (j : Int) < (nk : Int) := by omega
      have hR2 := Kd.R_step HR1.out (w1 := wr) (fun k hk hlt => HF.out.block k hlt (fun e => by have := HNM.out.mB; omega))
      have hRR := Kd.R_reads' hR2
      have hCC := hRR.2.2
      rw [HNK.out] at hCC
      obtain ⟨ad, e1, hx⟩ := Kd.at_int hCC (j : Int) p0 p1
      subst e1
      simp only [Int.toNat_natCast] at hx
      have hmem : rd ks (j : Int) ∈ bitsL sg := by rw [HKS.out]; exact rd_mem (by rw [HNK.out]; exact hlt)
      have HNOT := Aside0.mk (nodup_at HND.out (show j < ks.length by rw [HNK.out]; exact hlt))
      have HTK := Aside0.mk (take_rd (show j < ks.length by rw [HNK.out]; exact hlt))
      obtain ⟨x, hxx⟩ : ∃ x, rd ks (j : Int) = x := ⟨_, rfl⟩
      rw [hxx] at hx hmem HTK HNOT
      obtain ⟨i, rfl, hi⟩ := mem_bitsL.1 hmem
      have hin := HMEM.out i hi
      have hBr : Fr None_ W wr := (((Fr.of_below HBX.out None_)).then_ HF.out (fun k hk => .inr (by have := HM.out; have := HS1.out; have := HTD.out; omega)))
      have hCr := Kd.C_below HCL.out hBr.toBelow0
      have hLc := HCc.out
      rw [← HNN.out] at hCr hLc
      have hsz : comp_Size.f a0 a1 a2 a3 l (i : Int) = some ((l.getD i z88).f1, true) := by
        have hnn := HNN.out
        unfold comp_Size.f
        rw [if_neg (by omega), if_neg (by omega), if_pos (by omega), if_pos (by omega)]
        rfl
      have HSZ := Aside0.mk (comp_Size.calls a0 a1 a2 a3 A c l (i : Int) _ true wr hCr hLc hsz)
      obtain ⟨sz, hsz2⟩ : ∃ sz, (l.getD i z88).f1 = sz := ⟨_, rfl⟩
      have HZ := Aside0.mk hsz2
      rw [HNN.out, hsz2] at HSZ
      have hrcr : wr.heap[W.heap.size]? = _ := (HF.out.block _ (heap_lt' HRC4.out) (fun e => by have := HM.out; have := HS1.out; have := HTD.out; have h8 := heap_lt' HRC.out; omega)).trans HRC4.out
      have hw0 : wr.cell? ⟨W.heap.size, 0, none⟩ = some (.int .i64 a0) := (blk_cell hrcr 0).trans rfl
      have hw1 : wr.cell? ⟨W.heap.size, 1, none⟩ = some (.int .i64 a1) := (blk_cell hrcr 1).trans rfl
      have hw2 : wr.cell? ⟨W.heap.size, 2, none⟩ = some (.int .i64 a2) := (blk_cell hrcr 2).trans rfl
      have hw3 : wr.cell? ⟨W.heap.size, 3, none⟩ = some (.int .i64 a3) := (blk_cell hrcr 3).trans rfl
      have hw4 : wr.cell? ⟨W.heap.size, 4, none⟩ = some (.slice A n c) := (blk_cell hrcr 4).trans rfl
      have HC2 := Aside0.mk (show wr.cell? ⟨g, 2, none⟩ = some (.map (some m)) from (blk_cell HNM.out.blk 2).trans rfl)
      clear hi hxx hR2 hRR hCC hmem hin hBr hCr hLc hsz hsz2 hrcr
      go_wp2_with fail
      refine HSZ.out.mono ?_
      rintro e w5 ⟨rfl, hB5⟩
      have HB5 := Aside0.mk hB5
      have hc2 := (hB5.cell (World.block_lt_of_cell? wr _ HC2.out)).trans HC2.out
      have HNC := Aside0.mk (fun wx => new_col sz wx)
      have HMP := Aside0.mk (HNM.out.map.same (hB5.block m HNM.out.map.lt))
      clear hx hB5 hw0 hw1 hw2 hw3 hw4 HSZ
      go_wp2
      go_region_law (first
        | (go_simp; go_at_call 40; (with_reducible refine (HNC.out _).mono ?_); rintro e w6 ⟨rfl, hCol, hB6⟩; have HCol := Aside0.mk hCol; have HB6 := Aside0.mk hB6; have hc3 := (HB6.out.cell (World.block_lt_of_cell? w5 _ hc2)).trans hc2; have hmp := HMP.out.same (HB6.out.block m HMP.out.lt); obtain ⟨w7, hup, hmap, hfr⟩ := hmp.update (P := Tryd.prog) Tryd.underlying92 Tryd.underlying3 (i : Int) (.pointer (some ⟨w5.heap.size, 0, none⟩)); have HMAP := Aside0.mk hmap; have HFR := Aside0.mk hfr; clear hCol hB6 hmp hmap hfr))
      all_goals
        have hn64 := HN.out
        obtain ⟨k1, hk1⟩ : ∃ k1, gk = k1 + 1 := ⟨gk - 1, by have := H.out; omega⟩
        have HH := Aside0.mk (show (j + 1) + k1 = nk by have := H.out; omega)
        have HB6' := Aside0.mk (show Below w5.heap.size w5 w6 from ⟨HB6.out.os, HB6.out.tape, HB6.out.output, HB6.out.size, HB6.out.block⟩)
        have hlw : W3.heap.size ≤ wr.heap.size := Nat.le_trans HB4.out.size HF.out.size
        have HNX := Aside0.mk (HNM.out.next (W2 := w6) (W3 := w7) (q := w5.heap.size) hlw HB5.out.size (below_step HB5.out HB6'.out) (by rw [HZ.out]; exact HCol.out) HNOT.out HMAP.out HFR.out HTK.out)
        have HF7 := Aside0.mk ((HF.out.below_ (below_step HB5.out HB6'.out)).then_ HFR.out (fun k hk => .inl hk))
        obtain rfl := hk1
        clear hlw H HF HNM HB5 HB6 HB6' HCol HMAP HFR hup hc3 hc2 HMP HNC HC2
        go_wp2
        go_roundg k1
        case measure => omega
        case rel => exact ⟨j + 1, by go_num, HH, ⟨_, HNX.out⟩, HF7⟩
    · have q0 : decide ((j : Int) < (nk : Int)) = false := by simp; omega
      have hD := HNM.out
      rw [List.take_of_length_le (by have := HNK.out; omega), ← HKS.out] at hD
      have HD := Aside0.mk (hD.done (B0 := W.heap.size) (by have := HG.out; have := HS1.out; have := HTD.out; omega) (by have := HM.out; have := HS1.out; have := HTD.out; omega) HSG.out)
      go_wp2
      go_ret
      refine ⟨_, rfl, by rw [HTT.out]; exact HD.out, ?_⟩
      exact (((Fr.of_below HBX.out None_)).then_ HF.out (fun k hk => .inr (by have := HM.out; have := HS1.out; have := HTD.out; omega))).toBelow0

end Go.Proofs.YtnhejenjpomhdaaDoor.Tab
