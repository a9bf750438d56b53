/- A row more. -/
import Derived.Test.YtnhejenjpomhdaaDoorTbDrop
namespace Go.Proofs.YtnhejenjpomhdaaDoor.Tab
open Go.RowKit Go.Proofs.YtnhejenjpomhdaaDoorW.PrintWords Go.Proofs.YtnhejenjpomhdaaDoorW.PrintLast Go.Proofs.YtnhejenjpomhdaaDoorW.PrintMore Go.Proofs.YtnhejenjpomhdaaDoor.Mem Go.Proofs.YtnhejenjpomhdaaDoor.Col Go.Proofs.YtnhejenjpomhdaaDoor.Bits Go.Proofs.YtnhejenjpomhdaaDoor.Data Go.Proofs.YtnhejenjpomhdaaDoor.Mp Go.Proofs.YtnhejenjpomhdaaDoor.PTableLoads
set_option linter.unusedVariables false
set_option linter.unusedSimpArgs false

theorem OwnI.of {W : World} {base : Nat} {ok : Nat → Prop} {v : Value} {ids : List ID_} (h : Kd.R k40 40 W base ok v ids) : OwnI W v ids := by
  have h1 := Kd.R_lower h (Nat.zero_le base)
  obtain ⟨h0, inner, ho, hr⟩ := h1
  refine ⟨fun k hk => hk.symm, inner, ho, hr.imp_ (fun x cs hx => ?_)⟩
  rw [k40_openM hx]
  exact k40_mkM _ _ _ x

/-- Are all data of the size they should be? What Add tells; what it leaves. -/
def fits (t : TabS) (parts : List Part_) (xs : List Int) : Prop := ∀ k, k ∈ xs → (dataL parts k (t.cz k.toNat)).length = t.cz k.toNat
open Classical in
noncomputable def taddE (t : TabS) (parts : List Part_) : Int := if t.ids.length = 1024 then 9 else if fits t parts (bitsL t.sig) then 0 else 7
def addT (t : TabS) (id : ID_) (parts : List Part_) : TabS := { t with ids := t.ids ++ [id], cb := fun k => t.cb k ++ dataL parts k (t.cz k) }
def addCb (t : TabS) (parts : List Part_) (xs : List Int) : TabS := { t with cb := fun k => if (k : Int) ∈ xs then t.cb k ++ dataL parts k (t.cz k) else t.cb k }
def addCr (t : TabS) (xs : List Int) : Nat → Nat := fun k => if (k : Int) ∈ xs then t.ids.length + 1 else t.ids.length

theorem add_start {W : World} {g m : Nat} {F : Nat → Prop} {t : TabS} {vi : Value} {cg : Nat → Nat} {cF : Nat → Nat → Prop} (parts : List Part_) (h : TabM W g F t vi m cg cF (fun _ => t.ids.length)) : TabM W g F (addCb t parts []) vi m cg cF (addCr t []) :=
  h.same rfl rfl (fun k _ => by simp [addCb]) (fun k _ => rfl) (fun k _ => by simp [addCr])
theorem add_next {W W1 : World} {g m : Nat} {F C' : Nat → Prop} {t : TabS} {vi : Value} {cg : Nat → Nat} {cF : Nat → Nat → Prop} {i : Nat} {parts : List Part_} {xs : List Int} (h : TabM W g F (addCb t parts xs) vi m cg cF (addCr t xs)) (hi : i ∈ bitsN t.sig) (hx : (i : Int) ∉ xs)
    (hc : Col W1 (cg i) C' (t.cb i ++ dataL parts i (t.cz i)) (t.ids.length + 1) (t.cz i)) (hf : Step (cF i) C' W W1) :
    TabM W1 g (fun k => F k ∨ W.heap.size ≤ k) (addCb t parts (xs ++ [(i : Int)])) vi m cg (fun j => if j = i then C' else fun b => cF j b ∧ b < W.heap.size) (addCr t (xs ++ [(i : Int)])) :=
  (h.put (k0 := i) hi hf hc).same rfl rfl (fun k _ => by
      by_cases he : k = i
      · subst he; simp [addCb]
      · have : ¬ (k : Int) = (i : Int) := by omega
        simp [addCb, he, this]) (fun k _ => rfl) (fun k _ => by
      by_cases he : k = i
      · subst he; simp [addCr]
      · have : ¬ (k : Int) = (i : Int) := by omega
        simp [addCr, he, this])
theorem add_done {W : World} {g m : Nat} {F : Nat → Prop} {t : TabS} {vi : Value} {cg : Nat → Nat} {cF : Nat → Nat → Prop} {parts : List Part_} (h : TabM W g F (addCb t parts (bitsL t.sig)) vi m cg cF (addCr t (bitsL t.sig))) :
    TabM W g F { t with cb := fun k => t.cb k ++ dataL parts k (t.cz k) } vi m cg cF (fun _ => t.ids.length + 1) :=
  h.same rfl rfl (fun k hk => by
      have : (k : Int) ∈ bitsL t.sig := mem_bitsL.2 ⟨k, rfl, hk⟩
      simp [addCb, this]) (fun k _ => rfl) (fun k hk => by
      have : (k : Int) ∈ bitsL t.sig := mem_bitsL.2 ⟨k, rfl, hk⟩
      simp [addCr, this])
theorem fits_next {t : TabS} {parts : List Part_} {xs : List Int} {k : Int} (h : fits t parts xs) (hk : (dataL parts k (t.cz k.toNat)).length = t.cz k.toNat) : fits t parts (xs ++ [k]) := by
  intro x hx
  rcases List.mem_append.1 hx with h1 | h1
  · exact h x h1
  · rw [List.mem_singleton.1 h1]; exact hk

theorem add_round {wq wr w2 w3 : World} {g m i : Nat} {F' Fj : Nat → Prop} {t : TabS} {vi : Value} {cg : Nat → Nat} {cFj : Nat → Nat → Prop} {l : List Part_} {xs ys : List Int} {d : List Int} (hM : TabM wr g Fj (addCb t l xs) vi m cg cFj (addCr t xs)) (hS : Step F' Fj wq wr) (hi : i ∈ bitsN t.sig) (hx : (i : Int) ∉ xs) (hb : Below wr.heap.size wr w2)
    (hc : ∃ C', Col w3 (cg i) C' (t.cb i ++ d) (t.ids.length + 1) (t.cz i) ∧ Step (cFj i) C' w2 w3) (hd : dataL l i (t.cz i) = d) (hy : xs ++ [(i : Int)] = ys) :
    ∃ Fj' cFj', TabM w3 g Fj' (addCb t l ys) vi m cg cFj' (addCr t ys) ∧ Step F' Fj' wq w3 := by
  obtain ⟨C', hc, hs⟩ := hc
  subst hd; subst hy
  refine ⟨_, _, add_next (C' := C') (hM.move (fun k _ hk => hb.block k hk)) hi hx hc hs, ⟨fun k hk => ?_, ?_⟩⟩
  · rcases hk with hk | hk
    · exact hS.up k hk
    · exact .inr (Nat.le_trans hS.fr.size (Nat.le_trans hb.size hk))
  · exact (hS.fr.below_ hb).then_ hs.fr (fun k hk => hS.up k (hM.fc i hi k hk))
theorem add_ok {W : World} {g rows size dn cD : Nat} {F : Nat → Prop} {b d : List Int} {AD : Option Addr} (h : Col W g F b rows size) (hd : Kd.C (Kd.int .u8) W AD dn d) (hn : d.length = dn) (hz : dn = size) (hr : rows < 1024) :
    Calls Tryd.prog 56 #[.pointer (some ⟨g, 0, none⟩), .slice AD dn cD] W fun e w' => e = .returned (.int .i64 0) ∧ ∃ F', Col w' g F' (b ++ d) (rows + 1) size ∧ Step F F' W w' := by
  subst hn
  have e : addE rows size d.length = 0 := by unfold addE; rw [if_neg (by omega), if_neg (by omega)]
  refine (add_calls (cD := cD) h hd).mono ?_
  rintro e' w' ⟨h1, h2⟩
  rw [e] at h1 h2
  refine ⟨h1, ?_⟩
  rcases h2 with ⟨h2, _⟩ | ⟨_, h2⟩
  · exact absurd rfl h2
  · exact h2

def AddTold (W : World) (g : Nat) (F : Nat → Prop) (t : TabS) (id : ID_) (parts : List Part_) (w' : World) : Prop := (taddE t parts = 0 → ∃ F', IsTab w' g F' (addT t id parts) ∧ Step F F' W w') ∧ (taddE t parts ≠ 0 → Below W.heap.size W w')

theorem own_ne {W : World} {v : Value} {ids : List ID_} {g : Nat} {cs : Array Value} {fr : Nat × Nat} (h : OwnI W v ids) (hb : W.heap[g]? = some (.cells cs 94 fr)) : some g ≠ v.ownBlock := by
  intro e
  obtain ⟨inner, ho, _⟩ := h.2
  obtain ⟨cells, hc⟩ := own_typed ho g e.symm
  rw [hc] at hb
  injection hb with hb
  injection hb with _ hb
  exact absurd hb (by decide)
theorem add_tail {W wq wr w4 : World} {g m nid c0 : Nat} {F Fj : Nat → Prop} {t : TabS} {A0 : Option Addr} {cg : Nat → Nat} {cFj : Nat → Nat → Prop} {l : List Part_} {id : ID_} {v1 : Value}
    (hM : TabM wr g Fj { t with cb := fun k => t.cb k ++ dataL l k (t.cz k) } (.slice A0 t.ids.length c0) m cg cFj (fun _ => t.ids.length + 1)) (hn : t.ids.length = nid) (hS : Step (fun k => F k ∧ k < W.heap.size) Fj wq wr) (hB : Below W.heap.size W wq) (hlt : t.ids.length < 1024) (hfit : fits t l (bitsL t.sig))
    (hp : Kd.R k40 40 w4 0 (fun _ => True) v1 (t.ids ++ [id]) ∧ wr.drew.grownBy w4 (Value.slice A0 nid c0).ownBlock ∧ (v1.ownBlock = (Value.slice A0 nid c0).ownBlock ∨ ∃ b, v1.ownBlock = some b ∧ wr.drew.heap.size ≤ b)) :
    AddTold W g F t id l (w4.setCell ⟨g, 1, none⟩ v1) := by
  subst hn
  obtain ⟨ho, hg, hat⟩ := hp
  have e0 : taddE t l = 0 := by unfold taddE; rw [if_neg (by omega), if_pos hfit]
  have hblk := hM.blk
  have hne := own_ne hM.ids hblk
  have h4t : w4.heap[g]? = some _ := (hg.block g (heap_lt' (W := wr) hblk) hne).trans hblk
  have hg1 : v1.ownBlock ≠ some g := fun e => by
    rcases hat with h1 | ⟨b, h1, h2⟩
    · exact hne (by rw [← h1, e])
    · rw [e] at h1
      injection h1 with h1
      have := heap_lt' (W := wr) hblk
      have h3 : wr.heap.size ≤ b := h2
      omega
  have hfr : Fr F W wr := (Fr.of_below hB F).then_ hS.fr (fun k hk => .inl hk.1)
  have hown : ∀ k, (Value.slice A0 t.ids.length c0).ownBlock = some k → F k ∨ W.heap.size ≤ k := fun k hk => by
    rcases hS.up k (hM.fi k hk) with h1 | h1
    · exact .inl h1.1
    · exact .inr (Nat.le_trans hB.size h1)
  have hgF : F g ∨ W.heap.size ≤ g := by
    rcases hS.up g hM.fg with h1 | h1
    · exact .inl h1.1
    · exact .inr (Nat.le_trans hB.size h1)
  have hblk5 : (w4.setCell ⟨g, 1, none⟩ v1).heap[g]? = some (.cells #[.int .u64 t.sig, v1, .map (some m)] 94 (0, 0)) := by
    simpa using blk_set h4t 1 v1
  have hold4 : ∀ k, k < wr.heap.size → (Value.slice A0 t.ids.length c0).ownBlock ≠ some k → w4.heap[k]? = wr.heap[k]? := fun k hk hn => hg.block k hk (fun e => hn e.symm)
  have ho5 : OwnI (w4.setCell ⟨g, 1, none⟩ v1) v1 (t.ids ++ [id]) := (OwnI.of ho).move (fun k hk => Below.heap_setCell _ _ _ k (fun e => hg1 (by rw [hk, e])))
  have hM2 := hM.mono (F' := fun k => Fj k ∨ wr.heap.size ≤ k) (fun k hk => .inl hk)
  have hM3 := hM2.ids_to hblk5 ho5 (by simp; omega) (fun k _ hk h1 h2 => (Below.heap_setCell _ ⟨g, 1, none⟩ _ k h1).trans (hold4 k hk h2)) (fun k hk => by
      rcases hat with h1 | ⟨b, h1, h2⟩
      · exact .inl (by rw [← h1]; exact hk)
      · rw [hk] at h1
        injection h1 with h1
        subst h1
        exact .inr h2) (fun k hk => by
      rcases hat with h1 | ⟨b, h1, h2⟩
      · exact .inl (hM.fi k (by rw [← h1]; exact hk))
      · rw [hk] at h1
        injection h1 with h1
        subst h1
        exact .inr h2)
  refine ⟨fun _ => ⟨fun k => Fj k ∨ wr.heap.size ≤ k, ⟨_, m, cg, _, hM3.same (t' := addT t id l) (cr' := fun _ => (addT t id l).ids.length) rfl rfl (fun k _ => rfl) (fun k _ => rfl) (fun k _ => by simp [addT])⟩, ⟨fun k hk => ?_, ?_⟩⟩, fun h => absurd e0 h⟩
  · rcases hk with hk | hk
    · rcases hS.up k hk with h1 | h1
      · exact .inl h1.1
      · exact .inr (Nat.le_trans hB.size h1)
    · exact .inr (Nat.le_trans hB.size (Nat.le_trans hS.fr.size hk))
  · refine ((hfr.drew).grown hg (fun k hk => ?_)).setCell hgF v1
    exact hown k hk

set_option maxHeartbeats 4000000 in
set_option maxRecDepth 100000 in
theorem tadd_calls {W : World} {g : Nat} {F : Nat → Prop} {t : TabS} (h : IsTab W g F t) (hT : Tab W) (id : ID_) (A : Option Addr) (c : Nat) (l : List Part_) (hl : Foot (fun w => Kd.C k90 w A l.length l) W (fun k => ¬ F k)) :
    Calls Tryd.prog 23 #[.pointer (some ⟨g, 0, none⟩), .agg #[.int .i64 id.f0, .int .i64 id.f1], .slice A l.length c] W fun e w' => e = .returned (.int .i64 (taddE t l)) ∧ AddTold W g F t id l w' := by
  have hb0 : Below W.heap.size W (W.alloc (.cells #[.int .i64 id.f0, .int .i64 id.f1] 40)) := (Below.refl _ _).alloc (Nat.le_refl _) _
  have hrc : (W.alloc (.cells #[.int .i64 id.f0, .int .i64 id.f1] 40)).heap[W.heap.size]? = some (.cells #[.int .i64 id.f0, .int .i64 id.f1] 40 (0, 0)) := by simpa using heap_alloc_new W _
  obtain ⟨vi, m, cg, cF, h⟩ := h
  have hu := Tryd.underlying30
  obtain ⟨A0, c0, rfl⟩ := Kd.R_slice h.ids
  have hnle := h.n_le
  obtain ⟨W0, hW0⟩ : ∃ W0, W.alloc (.cells #[.int .i64 id.f0, .int .i64 id.f1] 40) = W0 := ⟨_, rfl⟩
  rw [hW0] at hb0 hrc
  have HW := Aside0.mk hW0
  have HB0 := Aside0.mk hb0
  have HRC := Aside0.mk hrc
  have hM0 := h.bound.move (W1 := W0) (fun k _ hk => hb0.block k hk)
  have hT0 := hT.below hb0
  have hc1 : W0.cell? ⟨g, 1, none⟩ = some (.slice A0 t.ids.length c0) := (blk_cell hM0.blk 1).trans rfl
  by_cases hful : t.ids.length = 1024
  · have e : taddE t l = 9 := by simp [taddE, hful]
    have q1 : ((t.ids.length : Int) == 1024) = true := by simp [hful]
    have HP := Aside0.mk (show ∀ w', Below W.heap.size W w' → AddTold W g F t id l w' from fun w' hb => ⟨fun e0 => (by rw [e] at e0; cases e0), fun _ => hb⟩)
    rw [e]
    obtain ⟨n, hn⟩ : ∃ n, t.ids.length = n := ⟨_, rfl⟩
    have hcW : W.cell? ⟨g, 1, none⟩ = some (.slice A0 t.ids.length c0) := (blk_cell h.blk 1).trans rfl
    have hlt := World.block_lt_of_cell? W _ hcW
    have hne : g < W.heap.size := hlt
    rw [hn] at q1 hcW
    clear hc1 h hT hT0 hb0 hrc hM0 hW0 hful e hnle hn
    go_enter Tryd.func23, Tryd.ntmps23
    go_wp2
    go_ret
    exact ⟨rfl, HP.out _ ((Below.refl _ _).alloc (Nat.le_refl _) _)⟩
  · have q1 : ((t.ids.length : Int) == 1024) = false := by simp; omega
    have hc0 : W0.cell? ⟨g, 0, none⟩ = some (.int .u64 t.sig) := (blk_cell hM0.blk 0).trans rfl
    have HL := Aside0.mk (list_calls t.sig h.sig_lt W0 hT0)
    have HS := Aside0.mk hM0
    have HN := Aside0.mk (bitsL_length t.sig)
    have HND := Aside0.mk (bitsL_nodup t.sig)
    have HNF := Aside0.mk (show t.ids.length < 1024 by omega)
    have HCL0 := Aside0.mk hl
    obtain ⟨ks, hks⟩ : ∃ ks, bitsL t.sig = ks := ⟨_, rfl⟩
    have HKS := Aside0.mk hks
    obtain ⟨nid, hnid⟩ : ∃ n, t.ids.length = n := ⟨_, rfl⟩
    have HNID := Aside0.mk hnid
    rw [hks] at HL HN HND
    rw [hnid] at q1 hc1
    clear h hT hT0 hks hb0 hrc hM0 hW0 hful hnle hnid hl
    go_enter Tryd.func23, Tryd.ntmps23
    go_wp2_with (rw [HW.out])
    refine HL.out.mono ?_
    rintro e w1 ⟨v, rfl, hR1, hB1⟩
    obtain ⟨LA, lc, rfl⟩ := Kd.R_slice hR1
    obtain ⟨n, hn⟩ : ∃ n, ks.length = n := ⟨_, rfl⟩
    have HR1 := Aside0.mk (Kd.R_mono (ok' := fun k => W0.heap.size ≤ k) (Kd.R_bound hR1) (fun k hk => hk.2.1))
    rw [hn] at HR1 HN ⊢
    have HNN := Aside0.mk hn
    have HB1 := Aside0.mk hB1
    have HBB := Aside0.mk (Below.refl w1.heap.size w1)
    clear hR1 hn hB1 hc0 hc1 hu
    have hu := Tryd.underlying30
    go_wp2
    go_loopg [30] n (fun gk v30 wr => ∃ j : Nat, v30 = .int .i64 j ∧ Aside0 (j + gk = n) ∧ Aside0 (fits t l (ks.take j)) ∧ Aside0 (Below w1.heap.size w1 wr))
    case atStart => exact ⟨0, rfl, ⟨by omega⟩, ⟨fun k hk => by simp at hk⟩, HBB⟩
    case round =>
      obtain ⟨j, rfl, H, HF, HWr⟩ := hrel
      by_cases hlt : j < n
      · have q0 : decide ((j : Int) < (n : Int)) = true := by simp; omega
        have p0 : (0 : Int) ≤ (j : Int) := by omega
        have p1 : (j : Int) < (n : Int) := by omega
        have hR2 := Kd.R_below HR1.out HWr.out
        have hRR := Kd.R_reads' hR2
        have hCC := hRR.2.2
        rw [HNN.out] at hCC
        obtain ⟨ad, e1, hx⟩ := Kd.at_int hCC (j : Int) p0 p1
        subst e1
        simp only [Int.toNat_natCast] at hx
        have hmem : rd ks (j : Int) ∈ bitsL t.sig := by rw [HKS.out]; exact rd_mem (by rw [HNN.out]; exact hlt)
        have HTK := Aside0.mk (take_rd (show j < ks.length by rw [HNN.out]; exact hlt))
        obtain ⟨x, hxx⟩ : ∃ x, rd ks (j : Int) = x := ⟨_, rfl⟩
        rw [hxx] at hx hmem HTK
        obtain ⟨i, rfl, hi⟩ := mem_bitsL.1 hmem
        have hb2 := below_step HB1.out HWr.out
        have hM := HS.out.move (W1 := wr) (fun k _ hk => hb2.block k hk)
        have hb3 := below_step HB0.out hb2
        have hcol := hM.cols i hi
        have HSZ := Aside0.mk (size_calls hcol)
        have hpl := HCL0.out.now
        have HD := Aside0.mk (data_calls A c l i (t.cz i) wr (Kd.C_below hpl hb3) hcol.size_le)
        have hz : ∀ w, (zeroValue 97).run Tryd.prog w = .ok (.pointer none) w := fun w => by kernel_rfl
        have hlk := hM.map.lookup (P := Tryd.prog) Tryd.underlying92 Tryd.underlying3 (hz wr) i
        unfold colPtr at hlk
        rw [if_pos hmem] at hlk
        simp only [Option.getD_some, Int.toNat_natCast] at hlk
        have hc2 : wr.cell? ⟨g, 2, none⟩ = some (.map (some m)) := (blk_cell hM.blk 2).trans rfl
        obtain ⟨d, hd⟩ : ∃ d, dataL l i (t.cz i) = d := ⟨_, rfl⟩
        have HDD := Aside0.mk hd
        rw [hd] at HD
        obtain ⟨dn, hdn⟩ : ∃ dn, d.length = dn := ⟨_, rfl⟩
        rw [hdn] at HD
        have HDN := Aside0.mk hdn
        obtain ⟨sz, hsz⟩ : ∃ sz, t.cz i = sz := ⟨_, rfl⟩
        have HZZ := Aside0.mk hsz
        rw [hsz] at HSZ HD
        have HM1 := Aside0.mk hmem
        clear hz hM hi hxx hR2 hRR hCC hcol hpl hmem hb2 hb3 hd hdn hsz
        go_wp2_with fail
        refine HSZ.out.mono ?_
        rintro e w2 ⟨rfl, rfl⟩
        go_wp2_with fail
        refine HD.out.mono ?_
        rintro e w2 ⟨A1, c1, rfl, _, hB2⟩
        have HW2 := Aside0.mk (below_step HWr.out hB2)
        by_cases hfit : dn = sz
        · have q2 : ((dn : Int) != (sz : Int)) = false := by simp [hfit]
          have HF2 := Aside0.mk (fits_next (k := (i : Int)) HF.out (by rw [Int.toNat_natCast, HZZ.out, ← HZZ.out, HDD.out, HDN.out, HZZ.out]; exact hfit))
          rw [HTK.out] at HF2
          have hn64 := HN.out
          have hh := H.out
          obtain ⟨k1, rfl⟩ : ∃ k1, gk = k1 + 1 := ⟨gk - 1, by omega⟩
          have HH := Aside0.mk (show (j + 1) + k1 = n by omega)
          clear hh H HSZ HD hlk hc2 hx hB2 hfit
          go_wp2
          go_roundg k1
          case measure => omega
          case rel => exact ⟨j + 1, by go_num, HH, HF2, HW2⟩
        · have q2 : ((dn : Int) != (sz : Int)) = true := by simp; omega
          have HNO := Aside0.mk (show ¬ fits t l (bitsL t.sig) from fun hf => hfit (by
            have := hf i HM1.out
            rw [Int.toNat_natCast, HDD.out, HDN.out, HZZ.out] at this
            exact this))
          clear hfit
          go_wp2
          go_ret
          have e0 : taddE t l = 7 := by unfold taddE; rw [if_neg (by have := HNF.out; omega), if_neg HNO.out]
          refine ⟨by rw [e0]; rfl, ⟨fun e1 => (by rw [e0] at e1; cases e1), fun _ => below_step HB0.out (below_step HB1.out HW2.out)⟩⟩
      · have q0 : decide ((j : Int) < (n : Int)) = false := by simp; omega
        have HFI := Aside0.mk (show fits t l (bitsL t.sig) by
          have h1 := HF.out
          rw [List.take_of_length_le (by have := HNN.out; omega), ← HKS.out] at h1
          exact h1)
        have hb2 := below_step HB1.out HWr.out
        have hM := HS.out.move (W1 := wr) (fun k _ hk => hb2.block k hk)
        have HSS := Aside0.mk (add_start l hM)
        have HL2 := Aside0.mk (Kd.R_below HR1.out HWr.out)
        have HB2 := Aside0.mk (below_step HB0.out hb2)
        have HBW := Aside0.mk hb2
        have HS0 := Aside0.mk (show ∃ Fj cFj, TabM wr g Fj (addCb t l (ks.take 0)) (.slice A0 t.ids.length c0) m cg cFj (addCr t (ks.take 0)) ∧ Step (fun k => F k ∧ k < W.heap.size) Fj wr wr from ⟨_, _, HSS.out, Step.refl _ _⟩)
        clear H HF HWr hb2 hM HSS
        obtain ⟨wq, rfl⟩ : ∃ wq, wq = wr := ⟨_, rfl⟩
        go_wp2
        go_loopg [51] n (fun gk v51 wr => ∃ j : Nat, v51 = .int .i64 j ∧ Aside0 (j + gk = n) ∧ Aside0 (∃ Fj cFj, TabM wr g Fj (addCb t l (ks.take j)) (.slice A0 t.ids.length c0) m cg cFj (addCr t (ks.take j)) ∧ Step (fun k => F k ∧ k < W.heap.size) Fj wq wr))
        case atStart => exact ⟨0, rfl, ⟨by omega⟩, HS0⟩
        case round =>
          clear HS0
          obtain ⟨j, rfl, H, HX⟩ := hrel
          obtain ⟨Fj, cFj, hMj, hSj⟩ := HX.out
          have HMj := Aside0.mk hMj
          have HSj := Aside0.mk hSj
          clear HX hMj hSj
          by_cases hlt : j < n
          · have q0 : decide ((j : Int) < (n : Int)) = true := by simp; omega
            have p0 : (0 : Int) ≤ (j : Int) := by omega
            have p1 : (j : Int) < (n : Int) := by omega
            have hR2 := Kd.R_step HL2.out (w1 := wr) (fun k hk hlt => HSj.out.fr.block k hlt (fun hf => by have := hf.2; have := HB0.out.size; omega))
            have hRR := Kd.R_reads' hR2
            have hCC := hRR.2.2
            rw [HNN.out] at hCC
            obtain ⟨ad, e1, hx⟩ := Kd.at_int hCC (j : Int) p0 p1
            subst e1
            simp only [Int.toNat_natCast] at hx
            have hmem : rd ks (j : Int) ∈ bitsL t.sig := by rw [HKS.out]; exact rd_mem (by rw [HNN.out]; exact hlt)
            have hnot := nodup_at HND.out (show j < ks.length by rw [HNN.out]; exact hlt)
            have HTK := Aside0.mk (take_rd (show j < ks.length by rw [HNN.out]; exact hlt))
            obtain ⟨x, hxx⟩ : ∃ x, rd ks (j : Int) = x := ⟨_, rfl⟩
            rw [hxx] at hx hmem HTK hnot
            obtain ⟨i, rfl, hi⟩ := mem_bitsL.1 hmem
            have hcol := HMj.out.cols i hi
            have e2 : (addCb t l (ks.take j)).cb i = t.cb i := by simp [addCb, hnot]
            have e3 : addCr t (ks.take j) i = t.ids.length := by simp [addCr, hnot]
            rw [e2, e3] at hcol
            replace hcol : Col wr (cg i) (cFj i) (t.cb i) t.ids.length (t.cz i) := hcol
            have HCOL := Aside0.mk hcol
            have HFrW := Aside0.mk (show Fr F W wr from ((Fr.of_below HB2.out F).then_ HSj.out.fr (fun k hk => .inl hk.1)))
            have hpl := HCL0.out wr (fun k hk hlt => HFrW.out.block k hlt hk)
            have HPL := Aside0.mk hpl
            have HSZ := Aside0.mk (fun wx (hb : Below wr.heap.size wr wx) => size_calls (hcol.below hb))
            have HD := Aside0.mk (fun wx (hb : Below wr.heap.size wr wx) => data_calls A c l i (t.cz i) wx (Kd.C_below hpl hb) hcol.size_le)
            have HBD := Aside0.mk (show Below wr.heap.size wr wr.drew from ⟨rfl, rfl, rfl, Nat.le_refl _, fun _ _ => rfl⟩)
            have hz : ∀ w, (zeroValue 97).run Tryd.prog w = .ok (.pointer none) w := fun w => by kernel_rfl
            have HLK := Aside0.mk (show ∀ wx, MapIs wx m .i64 (colPtr t.sig cg) → (Instr.lookup 92 (.map (some m)) (.int .i64 (i : Int)) false).run Tryd.prog wx = .ok (.pointer (some ⟨cg i, 0, none⟩)) wx from fun wx hm => by
              have h9 := hm.lookup (P := Tryd.prog) Tryd.underlying92 Tryd.underlying3 (hz wx) i
              unfold colPtr at h9
              rw [if_pos hmem] at h9
              simpa using h9)
            have hlk := HLK.out wr.drew (HMj.out.map.same rfl)
            have HMAP := Aside0.mk HMj.out.map
            have hc2 : wr.cell? ⟨g, 2, none⟩ = some (.map (some m)) := (blk_cell HMj.out.blk 2).trans rfl
            have HFit := Aside0.mk (HFI.out i hmem)
            have HI := Aside0.mk hi
            have HNOT := Aside0.mk hnot
            have hn64 := HN.out
            obtain ⟨k1, hk1⟩ : ∃ k1, gk = k1 + 1 := ⟨gk - 1, by have := H.out; omega⟩
            have HH := Aside0.mk (show (j + 1) + k1 = n by have := H.out; omega)
            have HK1 := Aside0.mk hk1
            clear hk1
            obtain ⟨sz, hsz⟩ : ∃ sz, t.cz i = sz := ⟨_, rfl⟩
            have HZZ := Aside0.mk hsz
            simp only [hsz] at HSZ HD
            obtain ⟨d, hd⟩ : ∃ d, dataL l i sz = d := ⟨_, rfl⟩
            have HDD := Aside0.mk hd
            simp only [hd] at HD
            obtain ⟨dn, hdn⟩ : ∃ dn, d.length = dn := ⟨_, rfl⟩
            simp only [hdn] at HD
            have HDN := Aside0.mk hdn
            have HDS := Aside0.mk (show dn = sz by have h9 := HFit.out; rw [Int.toNat_natCast, HZZ.out, HDD.out, HDN.out] at h9; exact h9)
            clear hz hi hxx hR2 hRR hCC hcol hpl hmem hnot e2 e3 hd hdn hsz
            go_wp2_with fail
            go_region_law (first
              | (go_simp; go_at_call 48; (with_reducible refine (HSZ.out _ ?hbS).mono ?_); (case hbS => first | exact HBD.out | assumption); rintro e w2 ⟨rfl, rfl⟩)
              | (go_simp; go_at_call 55; (with_reducible refine (HD.out _ ?hbD).mono ?_); (case hbD => first | exact HBD.out | assumption); rintro e w2 ⟨A1, c1, rfl, hDC, hB2⟩; have HB3 := Aside0.mk (below_step HBD.out hB2); have hlk2 := HLK.out w2 (HMAP.out.same (HB3.out.block m HMAP.out.lt)); have hc3 := (HB3.out.cell (World.block_lt_of_cell? wr _ hc2)).trans hc2; have HADD := Aside0.mk (add_ok (cD := c1) (HCOL.out.below HB3.out) hDC HDN.out (HDS.out.trans HZZ.out.symm) HNF.out); clear hDC hB2)
              | (go_simp; go_at_call 56; (with_reducible refine HADD.out.mono ?_); rintro e w3 ⟨rfl, hAF⟩; have HAF := Aside0.mk hAF; clear hAF))
            all_goals
              have HR3 := Aside0.mk (add_round (d := d) HMj.out HSj.out HI.out HNOT.out HB3.out HAF.out (by rw [HZZ.out]; exact HDD.out) HTK.out)
              obtain rfl := HK1.out
              clear HADD HAF HMj HSj HD HSZ HMAP hlk hlk2 hc2 hc3 hx HLK HB3 HPL HFrW HCOL H
              go_wp2
              go_roundg k1
              case measure => omega
              case rel => exact ⟨j + 1, by go_num, HH, HR3⟩
          · have q0 : decide ((j : Int) < (n : Int)) = false := by simp; omega
            have hMj := HMj.out
            rw [List.take_of_length_le (by have := HNN.out; omega), ← HKS.out] at hMj
            have HM := Aside0.mk (add_done hMj)
            have hblk := HM.out.blk
            have k1 : wr.cell? ⟨g, 1, none⟩ = some (.slice A0 nid c0) := by rw [← HNID.out]; exact (blk_cell hblk 1).trans rfl
            have f1 := blk_frozen hblk 1
            have hglt : g < wr.heap.size := heap_lt' hblk
            have hrc : wr.heap[W.heap.size]? = some (.cells #[.int .i64 id.f0, .int .i64 id.f1] 40 (0, 0)) := by
              have h1 := HRC.out
              have h2 := heap_lt' h1
              rw [← HBW.out.block _ h2, ← HSj.out.fr.block _ (Nat.lt_of_lt_of_le h2 HBW.out.size) (fun hf => by have := hf.2; omega)] at h1
              exact h1
            have r0 : wr.cell? ⟨W.heap.size, 0, none⟩ = some (.int .i64 id.f0) := (blk_cell hrc 0).trans rfl
            have r1 : wr.cell? ⟨W.heap.size, 1, none⟩ = some (.int .i64 id.f1) := (blk_cell hrc 1).trans rfl
            have HOW := Aside0.mk (show Kd.R k40 40 wr.drew 0 (fun _ => True) (.slice A0 nid c0) t.ids from by
              have h9 : OwnI wr (.slice A0 t.ids.length c0) t.ids := HM.out.ids
              rw [HNID.out] at h9
              exact Kd.R_mono (h9.move (W1 := wr.drew) (fun _ _ => rfl)) (fun _ _ => trivial))
            have HLE := Aside0.mk (show (t.ids.length + 1) * 16 ≤ 140737488355328 by have := HNF.out; omega)
            have HTAIL := Aside0.mk (fun v1 w4 => add_tail (v1 := v1) (w4 := w4) (id := id) HM.out HNID.out HSj.out HB2.out HNF.out HFI.out)
            have HGB := Aside0.mk hblk
            have HNE := Aside0.mk (own_ne (g := g) HM.out.ids hblk)
            clear hMj hblk hrc H
            go_wp2
            go_region_law (first
              | (refine Kd.R_append_step k40 (w0 := wr.drew) (W := wr.drew) 0 (by rfl) (.tmp 77) (.tmp 79) 51 40 (.agg #[.int .i64 0, .int .i64 0]) 16 rfl Tryd.underlying51 info40 rfl (by decide) (by omega) (.slice A0 nid c0) t.ids id [.int .i64 id.f0, .int .i64 id.f1] (fun _ => True) (fun _ => False) rfl rfl ?aP (fun _ hk => hk.elim) ?aF ?aO ?aB ?aS ?aL ?_; (case aP => exact k40_mkM _ _ _ id); (case aF => exact fun _ _ => trivial); (case aO => exact HOW.out); (case aB => exact Below.refl _ _); (case aS => exact Nat.zero_le _); (case aL => exact HLE.out); intro v1 w4 ho hb4 hg4 hat4; have h4t : w4.heap[g]? = _ := (hg4.block g (heap_lt' (W := wr) HGB.out) (by rw [← HNID.out]; exact HNE.out)).trans HGB.out; have k4 := (blk_cell h4t 1).trans rfl; have f4 := blk_frozen h4t 1; have HP4 := Aside0.mk (And.intro ho (And.intro hg4 hat4)); obtain ⟨A4, c4, e4⟩ := Kd.R_slice ho; obtain ⟨nn, hnn⟩ : ∃ nn, (t.ids ++ [id]).length = nn := ⟨_, rfl⟩; rw [hnn] at e4; clear ho hb4 hg4 hat4 hnn; subst e4))
            all_goals
              go_wp2
              go_ret
              have h9 := HTAIL.out _ _ HP4.out
              have e0 : taddE t l = 0 := by unfold taddE; rw [if_neg (by have := HNF.out; omega), if_pos HFI.out]
              exact ⟨by rw [e0]; rfl, h9⟩

end Go.Proofs.YtnhejenjpomhdaaDoor.Tab
