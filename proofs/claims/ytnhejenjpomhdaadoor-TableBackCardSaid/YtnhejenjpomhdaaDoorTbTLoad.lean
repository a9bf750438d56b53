/- A table loaded (table.Load), where what is given fits. -/
import Derived.Test.YtnhejenjpomhdaaDoorTbCLoad
import Derived.Test.YtnhejenjpomhdaaDoorTbCount
import Derived.Test.YtnhejenjpomhdaaDoorTbAdd
import Derived.Deep.RegionWith
namespace Go.Proofs.YtnhejenjpomhdaaDoor.Tab
open Go.RowKit Go.Proofs.YtnhejenjpomhdaaDoorW.PrintWords Go.Proofs.YtnhejenjpomhdaaDoorW.PrintLast Go.Proofs.YtnhejenjpomhdaaDoorW.PrintMore Go.Proofs.YtnhejenjpomhdaaDoor.Mem Go.Proofs.YtnhejenjpomhdaaDoor.Col Go.Proofs.YtnhejenjpomhdaaDoor.Bits Go.Proofs.YtnhejenjpomhdaaDoor.Data Go.Proofs.YtnhejenjpomhdaaDoor.Mp Go.Proofs.YtnhejenjpomhdaaDoor.PTableLoads
set_option linter.unusedVariables false
set_option linter.unusedSimpArgs false

/-- A column put in another's place. -/
theorem TabM.swap {W W2 W3 : World} {g m : Nat} {F : Nat → Prop} {t : TabS} {vi : Value} {cg : Nat → Nat} {cF : Nat → Nat → Prop} {cr : Nat → Nat} (h : TabM W g F t vi m cg cF cr) {k0 q n : Nat} {d : List Int} (hk0 : k0 ∈ bitsN t.sig) (hb : Below W.heap.size W W2) (hc : Col W2 q (fun k => W.heap.size ≤ k) d n (t.cz k0))
    (hm : MapIs W3 m .i64 (fun j => if j = (k0 : Int) then some (.pointer (some ⟨q, 0, none⟩)) else colPtr t.sig cg j)) (hf : Fr (fun b => b = m) W2 W3) :
    TabM W3 g (fun k => F k ∨ W.heap.size ≤ k) { t with cb := fun j => if j = k0 then d else t.cb j } vi m (fun k => if k = k0 then q else cg k) (fun j => if j = k0 then (fun b => W.heap.size ≤ b) else fun b => cF j b ∧ b < W.heap.size) (fun j => if j = k0 then n else cr j) := by
  have hml := h.map.lt
  have hgl := heap_lt' h.blk
  have hmg : m ≠ g := by
    intro e
    have h1 := h.blk
    rw [← e] at h1
    exact map_ne_cells h.map h1
  have hmi : vi.ownBlock ≠ some m := by
    intro e
    obtain ⟨cells, hc⟩ := own_typed h.ids.2.choose_spec.1 m e
    exact map_ne_cells h.map hc
  have hold : ∀ b, b < W.heap.size → b ≠ m → W3.heap[b]? = W.heap[b]? := fun b hlt hn => (hf.block b (Nat.lt_of_lt_of_le hlt hb.size) hn).trans (hb.block b hlt)
  exact {
    blk := (hold g hgl (Ne.symm hmg)).trans h.blk
    ids := h.ids.move (fun b hb => hold b (h.ids.lt b hb) (fun e => hmi (by rw [← e]; exact hb)))
    map := by
      obtain ⟨es, c, h1, h2, h3⟩ := hm
      refine ⟨es, c, h1, h2, fun k => ?_⟩
      rw [h3 k]
      by_cases hk : k = (k0 : Int)
      · subst hk
        have : ((k0 : Nat) : Int) ∈ bitsL t.sig := mem_bitsL.2 ⟨k0, rfl, hk0⟩
        simp [colPtr, this]
      · simp only [if_neg hk]
        by_cases hkx : k ∈ bitsL t.sig
        · obtain ⟨n', rfl, _⟩ := mem_bitsL.1 hkx
          have hne : ¬ n' = k0 := fun e => hk (by rw [e])
          simp [colPtr, hkx, hne]
        · simp [colPtr, hkx]
    cols := fun k hk => by
      by_cases he : k = k0
      · subst he
        simp only [if_true]
        exact hc.move (fun b hb2 hlt => hf.block b hlt (fun e => by omega))
      · simp only [if_neg he]
        exact ((h.cols k hk).bound).move (fun b hb2 hlt => hold b hlt (fun e => (h.sep k hk b hb2.1).2.1 e))
    fg := .inl h.fg, fm := .inl h.fm
    fi := fun k hk => .inl (h.fi k hk)
    fc := fun k hk b hb => by
      by_cases he : k = k0
      · subst he
        simp only [if_true] at hb
        exact .inr hb
      · simp only [if_neg he] at hb
        exact .inl (h.fc k hk b hb.1)
    sep := fun k hk b hb => by
      by_cases he : k = k0
      · subst he
        simp only [if_true] at hb
        exact ⟨by omega, by omega, fun e => by have := h.ids.lt b e; omega⟩
      · simp only [if_neg he] at hb
        exact h.sep k hk b hb.1
    dis := fun k k' hk hk' hne b hb hb' => by
      by_cases he : k = k0
      · subst he
        rw [if_neg (Ne.symm hne)] at hb'
        simp only [if_true] at hb
        have := hb'.2
        omega
      · simp only [if_neg he] at hb
        by_cases he' : k' = k0
        · subst he'
          simp only [if_true] at hb'
          have := hb.2
          omega
        · simp only [if_neg he'] at hb'
          exact h.dis k k' hk hk' hne b hb.1 hb'.1
    sig_lt := h.sig_lt
    n_le := h.n_le }

/-- What is given fits. -/
structure LoadOk (comps : List S88) (sg : Nat) (is : List ID_) (cs : List (List Int)) : Prop where
  hsig : (newT comps sg).sig = sg
  hn : cs.length = (bitsL sg).length
  hids : is.length ≤ 1024
  hcols : ∀ j : Nat, j < cs.length → (cs.getD j []).length = is.length * (newT comps sg).cz (rd (bitsL sg) (j : Int)).toNat
/-- What it loads. -/
structure Loaded (comps : List S88) (sg : Nat) (is : List ID_) (cs : List (List Int)) (t : TabS) : Prop where
  esig : t.sig = sg
  eids : t.ids = is
  ecz : t.cz = (newT comps sg).cz
  ecb : ∀ j : Nat, j < cs.length → t.cb (rd (bitsL sg) (j : Int)).toNat = cs.getD j []

/-- Half way: the first j columns lie in the table. -/
structure LoadM (W : World) (B g : Nat) (t0 : TabS) (n : Nat) (cs : List (List Int)) (j : Nat) : Prop where
  ex : ∃ cb vi m cg cF cr, TabM W g (fun k => B ≤ k) { t0 with cb := cb } vi m cg cF cr ∧ (∀ i : Nat, i < j → cb (rd (bitsL t0.sig) (i : Int)).toNat = cs.getD i [] ∧ cr (rd (bitsL t0.sig) (i : Int)).toNat = n)
theorem rd_ne {ks : List Int} (h : ks.Nodup) {i j : Nat} (hij : i < j) (hj : j < ks.length) : rd ks (i : Int) ≠ rd ks (j : Int) := by
  intro e
  have h1 : rd ks (i : Int) ∈ ks.take j := by
    have h2 : (ks.take j).length = j := by rw [List.length_take]; omega
    have h3 := rd_mem (xs := ks.take j) (j := i) (by rw [h2]; exact hij)
    have h4 : rd (ks.take j) (i : Int) = rd ks (i : Int) := by
      unfold rd
      rw [Int.toNat_natCast, List.getD_eq_getElem?_getD, List.getD_eq_getElem?_getD, List.getElem?_take, if_pos hij]
    rw [← h4]
    exact h3
  exact nodup_at h hj (by rw [← e]; exact h1)
theorem clamp_nat {z : Nat} (h : z ≤ 64) : clampN (z : Int) = z := by
  have := clampN_int (z : Int)
  unfold mn mx at this
  have h1 : (if (z : Int) < 0 then (0 : Int) else (z : Int)) = z := if_neg (by omega)
  rw [h1] at this
  split at this <;> omega
theorem LoadM.next {wr w3 w7 : World} {B g n j q i m : Nat} {t0 : TabS} {cs : List (List Int)} {cb : Nat → List Int} {vi : Value} {cg : Nat → Nat} {cF : Nat → Nat → Prop} {cr : Nat → Nat} {d : List Int} (hM : TabM wr g (fun k => B ≤ k) { t0 with cb := cb } vi m cg cF cr) (hd : ∀ i : Nat, i < j → cb (rd (bitsL t0.sig) (i : Int)).toNat = cs.getD i [] ∧ cr (rd (bitsL t0.sig) (i : Int)).toNat = n)
    (hj : j < (bitsL t0.sig).length) (hi : rd (bitsL t0.sig) (j : Int) = (i : Int)) (hdd : cs.getD j [] = d) (hb : Below wr.heap.size wr w3) (hc : Col w3 q (fun k => wr.heap.size ≤ k) d n (t0.cz i)) (hm : MapIs w7 m .i64 (fun j => if j = (i : Int) then some (.pointer (some ⟨q, 0, none⟩)) else colPtr t0.sig cg j)) (hf : Fr (fun b => b = m) w3 w7) (hB : B ≤ wr.heap.size) : LoadM w7 B g t0 n cs (j + 1) := by
  have hin : i ∈ bitsN t0.sig := by
    have h1 := rd_mem (xs := bitsL t0.sig) hj
    rw [hi] at h1
    obtain ⟨n', e, h2⟩ := mem_bitsL.1 h1
    have : i = n' := by omega
    rw [this]; exact h2
  have h1 := (TabM.swap hM hin hb hc hm hf).mono (F' := fun k => B ≤ k) (fun k hk => by omega)
  refine ⟨_, vi, m, _, _, _, h1, fun i' hi' => ?_⟩
  by_cases he : i' = j
  · subst he
    rw [hi]
    simp only [Int.toNat_natCast, if_true]
    exact ⟨hdd.symm, trivial⟩
  · have hlt : i' < j := by omega
    have hne := rd_ne (bitsL_nodup t0.sig) hlt hj
    have hpos : ∃ n' : Nat, rd (bitsL t0.sig) (i' : Int) = n' := by
      obtain ⟨n', e, _⟩ := mem_bitsL.1 (rd_mem (xs := bitsL t0.sig) (j := i') (by omega))
      exact ⟨n', e⟩
    obtain ⟨n', hn'⟩ := hpos
    have hne2 : ¬ n' = i := fun e => hne (by rw [hn', hi, e])
    have := hd i' hlt
    rw [hn'] at this ⊢
    simpa [hne2] using this
theorem LoadM.done {wr w5 w6 : World} {B g n : Nat} {t0 : TabS} {cs : List (List Int)} {is : List ID_} {v : Value} (h : LoadM wr B g t0 n cs (bitsL t0.sig).length) (hB : B ≤ wr.heap.size) (hb : Below wr.heap.size wr w5) (hv : Kd.R k40 40 w5 wr.heap.size (fun _ => True) v is) (hn : is.length = n) (hle : n ≤ 1024) (hw : w5.setCell ⟨g, 1, none⟩ v = w6) :
    ∃ t, IsTab w6 g (fun k => B ≤ k) t ∧ t.sig = t0.sig ∧ t.ids = is ∧ t.cz = t0.cz ∧ (∀ j : Nat, j < (bitsL t0.sig).length → t.cb (rd (bitsL t0.sig) (j : Int)).toNat = cs.getD j []) ∧ Fr (fun k => k = g) w5 w6 ∧ B ≤ g := by
  subst hw
  obtain ⟨cb, vi, m, cg, cF, cr, hM, hd⟩ := h.ex
  have hbl := (hb.block g (heap_lt' hM.blk)).trans hM.blk
  have hge : ∀ k, v.ownBlock = some k → wr.heap.size ≤ k := fun k hk => ((Kd.R_bound hv).1 k hk).2.1
  have hgl := heap_lt' hM.blk
  have h5 : OwnI (w5.setCell ⟨g, 1, none⟩ v) v is := OwnI.move (W := w5) ((OwnI.of hv)) (fun k hk => Below.heap_setCell _ _ _ k (fun e => by have := hge k hk; simp at e; omega))
  have hM5 := hM.ids_to (W1 := w5.setCell ⟨g, 1, none⟩ v) (vi' := v) (ids' := is) (by simpa using blk_set hbl 1 v) h5 (by omega) (fun k _ hk h1 _ => (Below.heap_setCell _ ⟨g, 1, none⟩ _ k h1).trans (hb.block k hk)) (fun k hk => .inr (hge k hk)) (fun k hk => Nat.le_trans hB (hge k hk))
  have hcr : ∀ k, k ∈ bitsN t0.sig → cr k = n := fun k hk => by
    obtain ⟨i, hi, he⟩ := List.getElem_of_mem (mem_bitsL.2 ⟨k, rfl, hk⟩ : (k : Int) ∈ bitsL t0.sig)
    have := (hd i hi).2
    have e : rd (bitsL t0.sig) (i : Int) = (k : Int) := by
      unfold rd
      rw [Int.toNat_natCast, List.getD_eq_getElem?_getD, List.getElem?_eq_getElem hi, he]
      rfl
    rw [e] at this
    simpa using this
  refine ⟨_, ⟨v, m, cg, _, { hM5 with cols := fun k hk => ?_ }⟩, rfl, rfl, rfl, fun j hj => (hd j hj).1, ?_⟩
  · have := hM5.cols k hk
    rw [hcr k hk] at this
    simpa [hn] using this
  · exact ⟨(Fr.refl (fun k => k = g) w5).setCell (p := ⟨g, 1, none⟩) (.inl rfl) v, hM.fg⟩

set_option maxHeartbeats 4000000 in
set_option maxRecDepth 100000 in
theorem tload_calls (a0 a1 a2 a3 : Int) (A : Option Addr) (c : Nat) (comps : List S88) (sig : Nat) (AI : Option Addr) (cI : Nat) (ids : List ID_) (okB : Nat → Prop) (AB : Option Addr) (cB : Nat) (cols : List (List Int)) (W : World) (hC : Kd.C k88 W A comps.length comps) (hc : comps.length ≤ c) (hl : comps.length ≤ 64) (hs : sig < 18446744073709551616) (hT : Tab W)
    (hI : Kd.C k40 W AI ids.length ids) (hB : Kd.F (Kd.slice 5 (Kd.int .u8)) W okB AB cols.length cols) (hok : LoadOk comps sig ids cols) :
    Calls Tryd.prog 16 #[.agg #[.int .i64 a0, .int .i64 a1, .int .i64 a2, .int .i64 a3, .slice A comps.length c], .int .u64 sig, .slice AI ids.length cI, .slice AB cols.length cB] W fun e w' =>
      ∃ g t, e = .returned (.tuple #[.pointer (some ⟨g, 0, none⟩), .int .i64 0]) ∧ IsTab w' g (fun k => W.heap.size ≤ k) t ∧ Loaded comps sig ids cols t ∧ Below W.heap.size W w' := by
  have hu24 := Tryd.underlying24
  have hu30 := Tryd.underlying30
  have hu97 := Tryd.underlying97
  obtain ⟨o1, o2, o3, o4⟩ := hok
  have hb0 := (Below.refl W.heap.size W).alloc (Nat.le_refl _) (.cells #[.int .i64 a0, .int .i64 a1, .int .i64 a2, .int .i64 a3, .slice A comps.length c] 24)
  have hL0 := heap_alloc_new W (.cells #[.int .i64 a0, .int .i64 a1, .int .i64 a2, .int .i64 a3, .slice A comps.length c] 24)
  obtain ⟨V, hV⟩ : ∃ V, W.alloc (.cells #[.int .i64 a0, .int .i64 a1, .int .i64 a2, .int .i64 a3, .slice A comps.length c] 24) = V := ⟨_, rfl⟩
  rw [hV] at hb0 hL0
  have HV := Aside0.mk hV
  have HBV := Aside0.mk hb0
  have HNEW := Aside0.mk (new_calls a0 a1 a2 a3 A c comps sig V (Kd.C_below hC hb0) hc hl hs (hT.below hb0))
  obtain ⟨t0, ht0⟩ : ∃ t, newT comps sig = t := ⟨_, rfl⟩
  rw [ht0] at HNEW o1 o4
  have HT0 := Aside0.mk ht0
  have HCNT := Aside0.mk (count_f sig hs)
  have q0 : V.cell? ⟨W.heap.size, 0, none⟩ = some (.int .i64 a0) := (blk_cell hL0 0).trans rfl
  have q1 : V.cell? ⟨W.heap.size, 1, none⟩ = some (.int .i64 a1) := (blk_cell hL0 1).trans rfl
  have q2 : V.cell? ⟨W.heap.size, 2, none⟩ = some (.int .i64 a2) := (blk_cell hL0 2).trans rfl
  have q3 : V.cell? ⟨W.heap.size, 3, none⟩ = some (.int .i64 a3) := (blk_cell hL0 3).trans rfl
  have q4 : V.cell? ⟨W.heap.size, 4, none⟩ = some (.slice A comps.length c) := (blk_cell hL0 4).trans rfl
  have HI := Aside0.mk hI
  have HB := Aside0.mk hB
  have HT := Aside0.mk hT
  have HSG := Aside0.mk hs
  have HO1 := Aside0.mk o1
  have HO2 := Aside0.mk o2
  have HO3 := Aside0.mk o3
  have HO4 := Aside0.mk o4
  have HN := Aside0.mk (bitsL_length sig)
  have hq1 : (((cols.length : Nat) : Int) != (((bitsL sig).length : Nat) : Int)) = false := by rw [o2]; simp
  have hq2 : decide ((1024 : Int) < ((ids.length : Nat) : Int)) = false := decide_eq_false (by omega)
  obtain ⟨ks, hks⟩ : ∃ ks, bitsL sig = ks := ⟨_, rfl⟩
  have HL0 := Aside0.mk (fun w hw => list_calls sig hs w hw)
  simp only [hks] at hq1 HO2 HO4 HN HCNT HL0
  have HKS := Aside0.mk hks
  obtain ⟨nk, hnk⟩ : ∃ n, ks.length = n := ⟨_, rfl⟩
  simp only [hnk] at hq1 HO2 HN HCNT
  have HNK := Aside0.mk hnk
  clear hC hc hl hs hT hI hB o1 o2 o3 o4 hV hL0 hb0 ht0 hks hnk
  go_enter Tryd.func16, Tryd.ntmps16
  go_wp2_with (rw [HV.out])
  refine HNEW.out.mono ?_
  rintro e w1 ⟨g, rfl, hTab, hB1⟩
  obtain ⟨vi, m, cg, cF, hM⟩ := hTab
  have hblk := hM.blk
  have hids := hM.n_le
  have c0 : w1.cell? ⟨g, 0, none⟩ = some (.int .u64 sig) := by have h9 := (blk_cell hblk 0).trans rfl; rw [← HO1.out]; exact h9
  have HB1 := Aside0.mk (below_step HBV.out hB1)
  have HVS := Aside0.mk (show W.heap.size ≤ V.heap.size from HBV.out.size)
  have HM := Aside0.mk (show LoadM w1 W.heap.size g t0 ids.length cols 0 from ⟨t0.cb, vi, m, cg, cF, _, hM.mono (fun k hk => Nat.le_trans HVS.out hk), fun i hi => by omega⟩)
  clear hM hblk hids hB1 q0 q1 q2 q3 q4 HNEW
  go_wp2_with fail
  refine (bits_Count.calls (sig : Int) (nk : Int) w1 HCNT.out).mono ?_
  rintro e w' ⟨rfl, ⟨⟨n, rfl⟩⟩⟩
  have HB2 := Aside0.mk (pw_below_drewN HB1.out n)
  have HM2 := Aside0.mk (show LoadM (w1.drewN n) W.heap.size g t0 ids.length cols 0 from ⟨by obtain ⟨cb, vi, m, cg, cF, cr, h1, h2⟩ := HM.out.ex; exact ⟨cb, vi, m, cg, cF, cr, h1.move (fun k _ _ => rfl), h2⟩⟩)
  clear c0 HM HB1
  generalize w1.drewN n = w2 at *
  go_wp2_with fail
  refine (HL0.out w2 (HT.out.below HB2.out)).mono ?_
  rintro e w3 ⟨v, rfl, hR1, hB3⟩
  obtain ⟨LA, lc, rfl⟩ := Kd.R_slice hR1
  have HR1 := Aside0.mk ((Kd.R_reads' hR1).2.2)
  have HB3 := Aside0.mk (below_step HB2.out hB3)
  have HM3 := Aside0.mk (show LoadM w3 W.heap.size g t0 ids.length cols 0 from ⟨by obtain ⟨cb, vi, m, cg, cF, cr, h1, h2⟩ := HM2.out.ex; exact ⟨cb, vi, m, cg, cF, cr, h1.move (fun k _ hk => hB3.block k hk), h2⟩⟩)
  have HLT := Aside0.mk hR1
  have HRL := Aside0.mk (show Kd.R (Kd.int .i64) 3 w3 W.heap.size (fun k => some k = (Value.slice LA ks.length lc).ownBlock) (.slice LA ks.length lc) ks from Kd.R_tight rfl (Kd.R_lower hR1 HB2.out.size))
  clear hR1 hB3 HM2 HB2 HLT HR1
  simp only [HNK.out] at HRL ⊢
  go_wp2
  go_loopg [39] nk (fun gk v39 wr => ∃ j : Nat, v39 = .int .i64 j ∧ Aside0 (j + gk = nk) ∧ Aside0 (LoadM wr W.heap.size g t0 ids.length cols j) ∧ Aside0 (Below W.heap.size W wr) ∧ Aside0 (Kd.R (Kd.int .i64) 3 wr W.heap.size (fun k => some k = (Value.slice LA nk lc).ownBlock) (.slice LA nk lc) ks))
  case atStart => exact ⟨0, rfl, ⟨by omega⟩, HM3, HB3, HRL⟩
  case round =>
    obtain ⟨j, rfl, H, HX, HBw, HRj⟩ := hrel
    clear HRL HM3 HB3
    by_cases hlt : j < nk
    · have q0 : decide ((j : Int) < (nk : Int)) = true := by simp; omega
      have p0 : (0 : Int) ≤ (j : Int) := by omega
      have p1 : (j : Int) < (nk : Int) := by omega
      have p2 : (j : Int) < (cols.length : Int) := by rw [HO2.out]; exact p1
      have hCC := (Kd.R_reads' HRj.out).2.2
      rw [HNK.out] at hCC
      obtain ⟨ad, e1, hx⟩ := Kd.at_int hCC (j : Int) p0 p1
      subst e1
      simp only [Int.toNat_natCast] at hx
      have hmem : rd ks (j : Int) ∈ bitsL sig := by rw [HKS.out]; exact rd_mem (by rw [HNK.out]; exact hlt)
      obtain ⟨cb, vi, m, cg, cF, cr, hM, hdn⟩ := HX.out.ex
      obtain ⟨x, hxx⟩ : ∃ x, rd ks (j : Int) = x := ⟨_, rfl⟩
      have hlen := HO4.out j (by rw [HO2.out]; exact hlt)
      rw [hxx] at hx hmem hlen
      obtain ⟨i, rfl, hi⟩ := mem_bitsL.1 hmem
      rw [← HO1.out] at hi hmem
      simp only [Int.toNat_natCast] at hlen
      have hcol := hM.cols i hi
      obtain ⟨ad2, c2, e2, _, hFK, hcc, _⟩ := Kd.F_get (Kd.F_below HB.out HBw.out) ([] : List Int) (j : Int) p0 (by rw [HO2.out]; exact p1)
      obtain ⟨A2, c2', rfl, _, hFd⟩ := Kd.FK_slice_open hFK
      subst e2
      have hcell := hcc 0 _ rfl
      simp only [Int.toNat_natCast] at hcell hFd
      obtain ⟨d, hd⟩ : ∃ d, cols.getD j [] = d := ⟨_, rfl⟩
      rw [hd] at hcell hFd hlen
      have hcell2 : wr.cell? (ad2.add j) = some (.slice A2 d.length c2') := by simpa [show (Kd.slice 5 (Kd.int .u8)).sz = 1 from rfl] using hcell
      have HSZ := Aside0.mk (fun wx (hb : Below wr.heap.size wr wx) => size_calls (hcol.below hb))
      have hz64 := hcol.size_le
      have HCL := Aside0.mk (show ∀ wx, Below wr.heap.size wr wx → Calls Tryd.prog 47 #[.int .i64 (t0.cz i : Nat), .int .i64 (ids.length : Nat), .slice A2 d.length c2'] wx (fun e w' => ∃ q, e = .returned (.tuple #[.pointer (some ⟨q, 0, none⟩), .int .i64 0]) ∧ Col w' q (fun k => wx.heap.size ≤ k) d ids.length (t0.cz i) ∧ Below wx.heap.size wx w') from fun wx hb => by
        refine (cload_calls (t0.cz i) ids.length HO3.out A2 c2' d wx (Kd.C_below hFd.now hb)).mono ?_
        rintro e w' ⟨h1, h2⟩
        have h1' : CLoad wx (t0.cz i) ids.length d e w' := by rw [clamp_nat hz64] at h1; exact h1
        rcases h1' with ⟨_, q, he, hq⟩ | ⟨hne, _⟩
        · exact ⟨q, he, hq, h2⟩
        · exact absurd hlen hne)
      have HBD := Aside0.mk (show Below wr.heap.size wr wr.drew from ⟨rfl, rfl, rfl, Nat.le_refl _, fun _ _ => rfl⟩)
      have hz : ∀ w, (zeroValue 97).run Tryd.prog w = .ok (.pointer none) w := fun w => by kernel_rfl
      have HLK := Aside0.mk (show ∀ wx, MapIs wx m .i64 (colPtr t0.sig cg) → (Instr.lookup 92 (.map (some m)) (.int .i64 (i : Int)) false).run Tryd.prog wx = .ok (.pointer (some ⟨cg i, 0, none⟩)) wx from fun wx hm => by
        have h9 := hm.lookup (P := Tryd.prog) Tryd.underlying92 Tryd.underlying3 (hz wx) i
        unfold colPtr at h9
        rw [if_pos hmem] at h9
        simpa using h9)
      have hlk := HLK.out wr.drew (hM.map.same rfl)
      have HMAP := Aside0.mk (show MapIs wr m .i64 (colPtr t0.sig cg) from hM.map)
      have hc2 : wr.cell? ⟨g, 2, none⟩ = some (.map (some m)) := (blk_cell hM.blk 2).trans rfl
      have HMM := Aside0.mk hM
      have HDN := Aside0.mk hdn
      have HXX := Aside0.mk hxx
      have HDD := Aside0.mk hd
      obtain ⟨dl, hdl⟩ : ∃ n, d.length = n := ⟨_, rfl⟩
      simp only [hdl] at HCL hcell2
      obtain ⟨sz, hsz⟩ : ∃ n, t0.cz i = n := ⟨_, rfl⟩
      have HSZZ := Aside0.mk hsz
      simp only [hsz] at HCL HSZ
      obtain ⟨k1, hk1⟩ : ∃ k1, gk = k1 + 1 := ⟨gk - 1, by have := H.out; omega⟩
      have HH := Aside0.mk (show (j + 1) + k1 = nk by have := H.out; omega)
      have HK1 := Aside0.mk hk1
      have hn64 := HN.out
      clear hk1 hCC hmem hM hdn hxx hlen hi hcol hFK hcc hcell hFd hd hdl hsz hz hz64 H
      go_wp2_with fail
      go_region_law (first
        | (go_simp; go_at_call 48; (with_reducible refine (HSZ.out _ ?hbS).mono ?_); (case hbS => first | exact HBD.out | assumption); rintro e w2 ⟨rfl, rfl⟩)
        | (go_simp; go_at_call 47; (with_reducible refine (HCL.out _ ?hbD).mono ?_); (case hbD => first | exact HBD.out | assumption); rintro e w3 ⟨q, rfl, hCq, hB3⟩; have HB3 := Aside0.mk (below_step HBD.out hB3); have HCq := Aside0.mk hCq; have hc3 := (HB3.out.cell (World.block_lt_of_cell? wr _ hc2)).trans hc2; obtain ⟨w7, hup, hmap, hfr⟩ := (HMAP.out.same (HB3.out.block m HMAP.out.lt)).update (P := Tryd.prog) Tryd.underlying92 Tryd.underlying3 (i : Int) (.pointer (some ⟨q, 0, none⟩)); have HMU := Aside0.mk hmap; have HFR := Aside0.mk hfr; clear hB3 hCq hmap hfr))
      all_goals
        have HNX := Aside0.mk (LoadM.next (n := ids.length) HMM.out HDN.out (by rw [HO1.out, HKS.out, HNK.out]; exact hlt) (by rw [HO1.out, HKS.out]; exact HXX.out) HDD.out HB3.out (by rw [HSZZ.out]; exact HCq.out) HMU.out HFR.out HBw.out.size)
        have HBN := Aside0.mk (show Below W.heap.size W w7 from ((Fr.of_below (below_step HBw.out HB3.out) None_).then_ HFR.out (fun k hk => .inr (by rw [hk]; exact HMM.out.fm))).toBelow0)
        have HRN := Aside0.mk (Kd.R_step (w1 := w7) (Kd.R_below HRj.out HB3.out) (fun k hk hlt2 => HFR.out.block k hlt2 (fun e => by
          obtain ⟨cells, hc⟩ := own_typed (Kd.R_below HRj.out HB3.out).2.choose_spec.1 k hk.symm
          rw [e] at hc
          exact map_ne_cells (HMAP.out.same (HB3.out.block m HMAP.out.lt)) hc)))
        obtain rfl := HK1.out
        clear HMM HDN HX HMAP HLK HB3 HCq HMU HFR HCL HSZ hlk hc2 hx hcell2 HRj HBw
        go_wp2
        go_roundg k1
        case measure => omega
        case rel => exact ⟨j + 1, by go_num, HH, HNX, HBN, HRN⟩
    · have q0 : decide ((j : Int) < (nk : Int)) = false := by simp; omega
      have hj : j = nk := by have := H.out; omega
      subst hj
      have HCI := Aside0.mk (clone_i AI cI ids wr (Kd.C_below HI.out HBw.out) (by have := HO3.out; omega))
      obtain ⟨cb, vi, m, cg, cF, cr, hM, hdn⟩ := HX.out.ex
      have hgl := heap_lt' hM.blk
      have HBLK := Aside0.mk hM.blk
      clear hM hdn H
      go_wp2_with fail
      refine HCI.out.mono ?_
      rintro e w5 ⟨v, rfl, hR, hB5⟩
      have hb5 := (hB5.block _ hgl).trans HBLK.out
      have k1 := (blk_cell hb5 1).trans rfl
      have f1 := blk_frozen hb5 1
      obtain ⟨A5, c5, rfl⟩ := Kd.R_slice hR
      obtain ⟨nl, hnl⟩ : ∃ n, ids.length = n := ⟨_, rfl⟩
      rw [hnl] at hR
      rw [hnl]
      have HR5 := Aside0.mk hR
      have HB5 := Aside0.mk hB5
      clear hb5 hR hB5 hnl
      go_wp2
      go_ret2
      have hX := HX.out
      rw [← HNK.out, ← HKS.out, ← HO1.out] at hX
      obtain ⟨t, h1, h2, h3, h4, h5, h6, h7⟩ := LoadM.done hX HBw.out.size HB5.out HR5.out rfl HO3.out rfl
      refine ⟨g, t, rfl, h1, ⟨by rw [h2, HO1.out], h3, by rw [h4, HT0.out], fun j hj => ?_⟩, ?_⟩
      · rw [← HO1.out]
        exact h5 j (by rw [HO1.out, HKS.out, HNK.out, ← HO2.out]; exact hj)
      · exact ((Fr.of_below (below_step HBw.out HB5.out) None_).then_ h6 (fun k hk => .inr (by rw [hk]; exact h7))).toBelow0

end Go.Proofs.YtnhejenjpomhdaaDoor.Tab
