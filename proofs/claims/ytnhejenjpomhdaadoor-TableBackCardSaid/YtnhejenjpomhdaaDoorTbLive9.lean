/- The page's example of tables (live). -/
import Derived.Test.YtnhejenjpomhdaaDoorTbDo
namespace Go.Proofs.YtnhejenjpomhdaaDoor.TRows
open Go.RowKit Go.Proofs.YtnhejenjpomhdaaDoorW.PrintWords Go.Proofs.YtnhejenjpomhdaaDoorW.PrintLast Go.Proofs.YtnhejenjpomhdaaDoorW.PrintMore Go.Proofs.YtnhejenjpomhdaaDoor.Mem Go.Proofs.YtnhejenjpomhdaaDoor.Col Go.Proofs.YtnhejenjpomhdaaDoor.Bits Go.Proofs.YtnhejenjpomhdaaDoor.Data Go.Proofs.YtnhejenjpomhdaaDoor.Mp Go.Proofs.YtnhejenjpomhdaaDoor.Tab Go.Proofs.YtnhejenjpomhdaaDoor.Ref Go.Proofs.YtnhejenjpomhdaaDoor.PTableLoads
set_option linter.unusedVariables false
set_option linter.unusedSimpArgs false

/-- A block that was laid whole, read as a row. -/
theorem F_block {α : Type} {d : Kd α} {W : World} {okp : Nat → Prop} {g e n : Nat} {arr : Array Value} {xs : List α} (hg : W.heap[g]? = some (.cells arr e (0, 0))) (hr : Reps (fun x c => Kd.FK d W okp x c) d.sz xs arr.toList) (hn : xs.length = n) (hm : n ≤ 9223372036854775807) :
    Kd.F d W (fun k => okp k ∨ k = g) (some ⟨g, 0, none⟩) n xs := by
  intro W' hW
  have h1 : W'.heap[g]? = some (.cells arr e (0, 0)) := (hW g (.inr rfl) (heap_lt' hg)).trans hg
  refine ⟨hn, hm, fun _ => ⟨⟨g, 0, none⟩, rfl, fun j p hj => ?_⟩⟩
  have hK := hr.2 j p hj W' (fun k hk hlt => hW k (.inl hk) hlt)
  refine ⟨_, d.K_len hK, hK, fun i u hu => ?_⟩
  rw [add_plain, cell_of_row W' g _ arr e (0, 0) h1, ← Array.getElem?_toList]
  rw [List.getElem?_take] at hu
  split at hu
  · rw [List.getElem?_drop] at hu
    exact hu
  · cases hu

def liveC : List S88 := [⟨⟨#[97]⟩, 1⟩, ⟨⟨#[98]⟩, 2⟩]
def liveP : List Part_ := [⟨0, [1]⟩]
theorem live_sig : (newT liveC 2).sig = 2 := by decide
theorem live_bits : bitsL 2 = [1] := by decide
theorem live_add : taddE (newT liveC 2) liveP = 0 := by
  unfold taddE
  rw [if_neg (by decide), if_pos]
  intro k hk
  rw [live_sig, live_bits, List.mem_singleton] at hk
  subst hk
  decide
theorem live_col : colE (addT (newT liveC 2) ⟨7, 0⟩ liveP) 0 1 = 0 := by
  have h : (1 : Int) ∈ bitsL (addT (newT liveC 2) ⟨7, 0⟩ liveP).sig := by
    show (1 : Int) ∈ bitsL (newT liveC 2).sig
    rw [live_sig, live_bits]
    exact List.mem_singleton.2 rfl
  unfold colE
  rw [if_neg (by decide), if_pos h]
theorem live_row : rowB ((addT (newT liveC 2) ⟨7, 0⟩ liveP).cb (1 : Int).toNat) (0 : Int).toNat ((addT (newT liveC 2) ⟨7, 0⟩ liveP).cz (1 : Int).toNat) = [0, 0] := by decide
theorem live_len : (addT (newT liveC 2) ⟨7, 0⟩ liveP).ids.length = 1 := by decide

set_option maxHeartbeats 4000000 in
set_option maxRecDepth 100000 in
theorem live_calls {W : World} (hT : Tab W) :
    Calls Tryd.prog 9 #[] W fun e w' => e = .returned (.bool true) ∧ Below W.heap.size W w' := by
  have hu24 := Tryd.underlying24
  have hu88 := Tryd.underlying88
  have hu40 := Tryd.underlying40
  have hu90 := Tryd.underlying90
  have hL := heap_alloc_new W (.cells #[.string ⟨#[97]⟩, .int .i64 1, .string ⟨#[98]⟩, .int .i64 2] 88)
  have hb1 := (Below.refl W.heap.size W).alloc (Nat.le_refl _) (.cells #[.string ⟨#[97]⟩, .int .i64 1, .string ⟨#[98]⟩, .int .i64 2] 88)
  obtain ⟨w1, hw1⟩ : ∃ w1, W.alloc (.cells #[.string ⟨#[97]⟩, .int .i64 1, .string ⟨#[98]⟩, .int .i64 2] 88) = w1 := ⟨_, rfl⟩
  rw [hw1] at hL hb1
  have HW1 := Aside0.mk hw1
  have hC : Kd.C k88 w1 (some ⟨W.heap.size, 0, none⟩) liveC.length liveC := (F_block (okp := fun _ => False) hL ((((Reps.none _ _).snoc (p := (⟨⟨#[97]⟩, 1⟩ : S88)) (c := [.string ⟨#[97]⟩, .int .i64 1]) (k88_mkF w1 _ _) rfl).snoc (p := (⟨⟨#[98]⟩, 2⟩ : S88)) (c := [.string ⟨#[98]⟩, .int .i64 2]) (k88_mkF w1 _ _) rfl)) rfl (by decide)).now
  have HNEW := Aside0.mk (new_calls 0 0 0 0 (some ⟨W.heap.size, 0, none⟩) 2 liveC 2 w1 hC (by decide) (by decide) (by decide) (hT.below hb1))
  have HB1 := Aside0.mk hb1
  have HT := Aside0.mk hT
  clear hw1 hL hb1 hC hT
  go_enter Tryd.func9, Tryd.ntmps9
  go_wp2_with (rw [HW1.out])
  refine HNEW.out.mono ?_
  rintro e w2 ⟨g, rfl, hI, hB2⟩
  have hL4 := heap_alloc_new w2 (.cells #[.int .u8 1] 5)
  have hL5 := heap_alloc_new (w2.alloc (.cells #[.int .u8 1] 5)) (.cells #[.int .i64 0, .slice (some ⟨w2.heap.size, 0, none⟩) 1 1] 90)
  have hb4 := (Below.refl w2.heap.size w2).alloc (Nat.le_refl _) (.cells #[.int .u8 1] 5)
  have hb5 := (Below.refl (w2.alloc (.cells #[.int .u8 1] 5)).heap.size (w2.alloc (.cells #[.int .u8 1] 5))).alloc (Nat.le_refl _) (.cells #[.int .i64 0, .slice (some ⟨w2.heap.size, 0, none⟩) 1 1] 90)
  have hs4 : (w2.alloc (.cells #[.int .u8 1] 5)).heap.size = w2.heap.size + 1 := by simp
  obtain ⟨w3, hw3⟩ : ∃ w3, (w2.alloc (.cells #[.int .u8 1] 5)).alloc (.cells #[.int .i64 0, .slice (some ⟨w2.heap.size, 0, none⟩) 1 1] 90) = w3 := ⟨_, rfl⟩
  rw [hw3] at hL5 hb5
  have hL4' := (hb5.block _ (by omega)).trans hL4
  have hB3 : Below w2.heap.size w2 w3 := ((Fr.of_below hb4 None_).below_ hb5).toBelow0
  rw [hs4] at hL5
  have hF1 : Kd.F (Kd.int .u8) w3 (fun k => False ∨ k = w2.heap.size) (some ⟨w2.heap.size, 0, none⟩) 1 [1] := F_block hL4' ((Reps.none _ _).snoc (p := (1 : Int)) (c := [.int .u8 1]) (fun _ _ => rfl) rfl) rfl (by decide)
  have hFP : Kd.F k90 w3 (fun k => (False ∨ k = w2.heap.size) ∨ k = w2.heap.size + 1) (some ⟨w2.heap.size + 1, 0, none⟩) 1 liveP := F_block hL5 ((Reps.none _ _).snoc (p := (⟨0, [1]⟩ : Part_)) (c := [.int .i64 0, .slice (some ⟨w2.heap.size, 0, none⟩) 1 1]) (k90_mkF w3 _ (⟨0, [1]⟩ : Part_) (by decide) hF1) rfl) rfl (by decide)
  have hI3 := hI.bound.move (W1 := w3) (fun k hk hlt => hB3.block k hlt)
  have hT3 : Tab w3 := ((HT.out.below HB1.out).below hB2).below hB3
  have HADD := Aside0.mk (tadd_calls hI3 hT3 ⟨7, 0⟩ (some ⟨w2.heap.size + 1, 0, none⟩) 1 liveP (Foot.mono hFP (fun k hk hF => by have := hF.2; rcases hk with (hk | hk) | hk; exact hk.elim; all_goals omega)))
  have HW3 := Aside0.mk hw3
  have HBB := Aside0.mk (below_step HB1.out (below_step hB2 hB3))
  have HT3 := Aside0.mk hT3
  have HI3 := Aside0.mk (And.intro hB2.size hB3.size)
  clear hL4 hL5 hb4 hb5 hs4 hw3 hL4' hB3 hF1 hFP hI3 hT3 hI hB2
  go_wp2_with (rw [HW3.out])
  refine HADD.out.mono ?_
  rintro e w4 ⟨rfl, hA⟩
  obtain ⟨F', hI4, hS4⟩ := hA.1 live_add
  rw [live_add]
  have HB4 := Aside0.mk (show Below W.heap.size W w4 from ((Fr.of_below HBB.out None_).then_ hS4.fr (fun k hk => .inr (by have := HI3.out; have := HB1.out.size; have := hk.1; omega))).toBelow0)
  have hget := tget_calls hI4 0 1
  rw [live_col, if_pos rfl, live_row] at hget
  have HGET := Aside0.mk hget
  have HI4 := Aside0.mk hI4
  clear hA hI4 hS4 hget
  go_wp2_with fail
  refine HGET.out.mono ?_
  rintro e w5 ⟨v, rfl, hR5, hB5⟩
  obtain ⟨A5, c5, rfl⟩ := Kd.R_slice hR5
  have HB5 := Aside0.mk (And.intro hB5 hR5)
  clear hB5 hR5
  go_wp2_with fail
  refine (code_calls _ _).mono ?_
  rintro e w6 ⟨rfl, rfl⟩
  go_wp2_with fail
  refine (code_calls _ _).mono ?_
  rintro e w6 ⟨rfl, rfl⟩
  have hL6 := heap_alloc_new w5 (.cells #[.int .u8 0, .int .u8 0] 5)
  have hb6 := (Below.refl w5.heap.size w5).alloc (Nat.le_refl _) (.cells #[.int .u8 0, .int .u8 0] 5)
  obtain ⟨w6, hw6⟩ : ∃ w6, w5.alloc (.cells #[.int .u8 0, .int .u8 0] 5) = w6 := ⟨_, rfl⟩
  rw [hw6] at hL6 hb6
  have HW6 := Aside0.mk hw6
  have HC6 := Aside0.mk (show Kd.C (Kd.int .u8) w6 (some ⟨w5.heap.size, 0, none⟩) 2 [0, 0] from (F_block (okp := fun _ => False) hL6 (((Reps.none _ _).snoc (p := (0 : Int)) (c := [.int .u8 0]) (fun _ _ => rfl) rfl).snoc (p := (0 : Int)) (c := [.int .u8 0]) (fun _ _ => rfl) rfl) rfl (by decide)).now)
  have HSAME := Aside0.mk (vivariumref01_Same.calls A5 c5 [0, 0] (some ⟨w5.heap.size, 0, none⟩) 2 [0, 0] true w6 (Kd.C_below (Kd.R_reads' HB5.out.2).2.2 hb6) (Kd.R_reads' HB5.out.2).2.1 HC6.out (by decide) (same_self _))
  have HB6 := Aside0.mk hb6
  have HLEN := Aside0.mk (show ∀ n, Calls Tryd.prog 25 #[.pointer (some ⟨g, 0, none⟩)] (w6.drewN n) (fun e w' => e = .returned (.int .i64 1) ∧ w6.drewN n = w') from fun n => by
    have h9 := tlen_calls ((HI4.out.below (below_step HB5.out.1 hb6)).below (pw_below_drewN (Below.refl _ _) n))
    rw [live_len] at h9
    exact h9)
  clear hL6 hb6 hw6
  go_wp2_with (rw [HW6.out])
  refine HSAME.out.mono ?_
  rintro e w7 ⟨rfl, ⟨⟨n, rfl⟩⟩⟩
  go_wp2_with fail
  refine (HLEN.out n).mono ?_
  rintro e w8 ⟨rfl, rfl⟩
  go_wp2
  go_ret
  exact ⟨by first | rfl | (simp; done), pw_below_drewN (((Fr.of_below HB4.out None_).below_ HB5.out.1).below_ HB6.out).toBelow0 n⟩

end Go.Proofs.YtnhejenjpomhdaaDoor.TRows
