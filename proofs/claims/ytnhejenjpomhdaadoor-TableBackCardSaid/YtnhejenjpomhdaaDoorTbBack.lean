/- The law TableBack: its walk. -/
import Derived.Test.YtnhejenjpomhdaaDoorTbDo
import Derived.Test.YtnhejenjpomhdaaDoorTbLive9
import Derived.Test.YtnhejenjpomhdaaDoorTbTLoad
import Derived.Deep.DeepCutAuto
namespace Go.Proofs.YtnhejenjpomhdaaDoor.TRows
open Go.RowKit Go.Proofs.YtnhejenjpomhdaaDoorW.PrintWords Go.Proofs.YtnhejenjpomhdaaDoorW.PrintLast Go.Proofs.YtnhejenjpomhdaaDoorW.PrintMore Go.Proofs.YtnhejenjpomhdaaDoor.Mem Go.Proofs.YtnhejenjpomhdaaDoor.Col Go.Proofs.YtnhejenjpomhdaaDoor.Bits Go.Proofs.YtnhejenjpomhdaaDoor.Data Go.Proofs.YtnhejenjpomhdaaDoor.Mp Go.Proofs.YtnhejenjpomhdaaDoor.Tab Go.Proofs.YtnhejenjpomhdaaDoor.Ref Go.Proofs.YtnhejenjpomhdaaDoor.PTableLoads
set_option linter.unusedVariables false
set_option linter.unusedSimpArgs false

theorem goT_keeps (t : TabS) (s : Step_) : (goT t s).1.sig = t.sig ∧ (goT t s).1.cz = t.cz := by
  unfold goT
  repeat' split
  all_goals first | exact ⟨rfl, rfl⟩ | (unfold addT'; split <;> exact ⟨rfl, rfl⟩)
/-- The program's table at g; what it was made of. -/
structure TB (V w : World) (g : Nat) (comps : List S88) (sg : Nat) (t : TabS) : Prop where
  ex : ∃ F, IsTab w g F t ∧ ∀ k, F k → V.heap.size ≤ k
  below : Below V.heap.size V w
  hsig : t.sig = sg &&& allS comps.length
  hcz : t.cz = (newT comps sg).cz
theorem heap_stepB : Kd.Heap k45 := Kd.heap_iso _ (Kd.heap_pair (Kd.heap_int _) (Kd.heap_pair (Kd.heap_iso _ (Kd.heap_pair (Kd.heap_int _) (Kd.heap_int _))) (Kd.heap_pair (Kd.heap_slice _ (Kd.heap_iso _ (Kd.heap_pair (Kd.heap_int _) (Kd.heap_slice _ (Kd.heap_int _))))) (Kd.heap_pair (Kd.heap_int _) (Kd.heap_pair (Kd.heap_int _) (Kd.heap_slice _ (Kd.heap_int _)))))))
theorem infoBytes : (Tryd.prog.info? 37).map (fun i => (i.zero, i.size, i.bytes)) = some (some (.slice none 0 0), 1, 24) := by kernel_rfl
/-- A table's own content fits, and what it loads is that content. -/
theorem load_ok {w : World} {g sg : Nat} {F : Nat → Prop} {comps : List S88} {t : TabS} (h : IsTab w g F t) (h1 : t.sig = sg &&& allS comps.length) (h2 : t.cz = (newT comps sg).cz) : LoadOk comps t.sig t.ids ((bitsL t.sig).map fun k => t.cb k.toNat) where
  hsig := by
    show t.sig &&& allS comps.length = t.sig
    rw [h1, Nat.and_assoc, Nat.and_self]
  hn := List.length_map _
  hids := by obtain ⟨_, _, _, _, h⟩ := h; exact h.n_le
  hcols := fun j hj => by
    rw [List.length_map] at hj
    obtain ⟨vi, m, cg, cF, hM⟩ := h
    have e : ((bitsL t.sig).map fun k => t.cb k.toNat).getD j [] = t.cb (rd (bitsL t.sig) (j : Int)).toNat := by
      unfold rd
      simp [List.getD_eq_getElem?_getD, List.getElem?_eq_getElem hj]
    rw [e]
    obtain ⟨n, hn, hb⟩ := mem_bitsL.1 (rd_mem (xs := bitsL t.sig) hj)
    have hl := (hM.cols n hb).len
    rw [hn, Int.toNat_natCast]
    have e2 : (newT comps t.sig).cz = t.cz := h2.symm
    rw [e2]
    exact hl
theorem load_back {w : World} {g : Nat} {F : Nat → Prop} {comps : List S88} {t u : TabS} (hu : Loaded comps t.sig t.ids ((bitsL t.sig).map fun k => t.cb k.toNat) u) (hz : t.cz = (newT comps t.sig).cz) (h : IsTab w g F u) : IsTab w g F t := by
  obtain ⟨vi, m, cg, cF, hM⟩ := h
  obtain ⟨e1, e2, e3, e4⟩ := hu
  have hcb : ∀ k, k ∈ bitsN t.sig → u.cb k = t.cb k := fun k hk => by
    obtain ⟨j, hj, he⟩ := List.getElem_of_mem (mem_bitsL.2 ⟨k, rfl, hk⟩ : (k : Int) ∈ bitsL t.sig)
    have h4 := e4 j (by rw [List.length_map]; exact hj)
    have e : rd (bitsL t.sig) (j : Int) = (k : Int) := by
      unfold rd
      rw [Int.toNat_natCast, List.getD_eq_getElem?_getD, List.getElem?_eq_getElem hj, he]
      rfl
    rw [e] at h4
    simpa [List.getD_eq_getElem?_getD, List.getElem?_eq_getElem hj, he] using h4
  refine ⟨vi, m, cg, cF, {
    blk := by rw [← e1]; exact hM.blk
    ids := by rw [← e2]; exact hM.ids
    map := by rw [← e1]; exact hM.map
    cols := fun k hk => by
      have h9 := hM.cols k (by rw [e1]; exact hk)
      rw [hcb k hk, e2, e3, ← hz] at h9
      exact h9
    fg := hM.fg, fm := hM.fm, fi := hM.fi
    fc := fun k hk => hM.fc k (by rw [e1]; exact hk)
    sep := fun k hk => hM.sep k (by rw [e1]; exact hk)
    dis := fun k k' hk hk' => hM.dis k k' (by rw [e1]; exact hk) (by rw [e1]; exact hk')
    sig_lt := by rw [← e1]; exact hM.sig_lt
    n_le := by rw [← e2]; exact hM.n_le }⟩

set_option maxHeartbeats 4000000 in
set_option maxRecDepth 100000 in
theorem back_calls {W : World} (a0 a1 a2 a3 : Int) (AC : Option Addr) (cC : Nat) (comps : List S88) (sig : Nat) (AL : Option Addr) (cL : Nat) (l : List Step_) (comp row : Int) (hC : Kd.C k88 W AC comps.length comps) (hcC : comps.length ≤ cC)
    (hL : Kd.C k45 W AL l.length l) (hcL : l.length ≤ cL) (hs : sig < 18446744073709551616) (hT : Tab W) (hp : ∀ s, s ∈ l → s.f2.length ≤ 9223372036854775807) :
    Calls Tryd.prog 5 #[.agg #[.int .i64 a0, .int .i64 a1, .int .i64 a2, .int .i64 a3, .slice AC comps.length cC], .int .u64 sig, .slice AL l.length cL, .int .i64 comp, .int .i64 row] W fun e w' => e = .returned (.bool true) ∧ Below W.heap.size W w' := by
  have hu24 := Tryd.underlying24
  have hu30 := Tryd.underlying30
  have hu45 := Tryd.underlying45
  have hu40 := Tryd.underlying40
  obtain ⟨k1, r1, hm1, hm1f⟩ := cmuch comps a0 a1 a2 a3 hC.2.1
  obtain ⟨k2, r2, hm2⟩ := smuch l hL.2.1 hp
  have hb0 := (Below.refl W.heap.size W).alloc (Nat.le_refl _) (.cells #[.int .i64 a0, .int .i64 a1, .int .i64 a2, .int .i64 a3, .slice AC comps.length cC] 24)
  have hL0 := heap_alloc_new W (.cells #[.int .i64 a0, .int .i64 a1, .int .i64 a2, .int .i64 a3, .slice AC comps.length cC] 24)
  obtain ⟨V, hV⟩ : ∃ V, W.alloc (.cells #[.int .i64 a0, .int .i64 a1, .int .i64 a2, .int .i64 a3, .slice AC comps.length cC] 24) = V := ⟨_, rfl⟩
  rw [hV] at hb0 hL0
  have HV := Aside0.mk hV
  have HBV := Aside0.mk hb0
  have HVS := Aside0.mk hb0.size
  have HC := Aside0.mk (show ∀ w, Below V.heap.size V w → Kd.C k88 w AC comps.length comps from fun w hb => Kd.C_below (Kd.C_below hC hb0) hb)
  have HLL := Aside0.mk (show ∀ w, Below V.heap.size V w → Kd.C k45 w AL l.length l from fun w hb => Kd.C_below (Kd.C_below hL hb0) hb)
  have HLF := Aside0.mk (Kd.F_below (Kd.C_F heap_stepB hL) hb0)
  have HT := Aside0.mk (show ∀ w, Below V.heap.size V w → Tab w from fun w hb => (hT.below hb0).below hb)
  have HCC := Aside0.mk hcC
  have HCL := Aside0.mk hcL
  have HM1 := Aside0.mk hm1
  have HM2 := Aside0.mk hm2
  have HMF := Aside0.mk hm1f
  have HS := Aside0.mk hs
  have q0 : V.cell? ⟨W.heap.size, 0, none⟩ = some (.int .i64 a0) := (blk_cell hL0 0).trans rfl
  have q1 : V.cell? ⟨W.heap.size, 1, none⟩ = some (.int .i64 a1) := (blk_cell hL0 1).trans rfl
  have q2 : V.cell? ⟨W.heap.size, 2, none⟩ = some (.int .i64 a2) := (blk_cell hL0 2).trans rfl
  have q3 : V.cell? ⟨W.heap.size, 3, none⟩ = some (.int .i64 a3) := (blk_cell hL0 3).trans rfl
  have q4 : V.cell? ⟨W.heap.size, 4, none⟩ = some (.slice AC comps.length cC) := (blk_cell hL0 4).trans rfl
  have HQ := Aside0.mk (And.intro q0 (And.intro q1 (And.intro q2 (And.intro q3 q4))))
  clear hC hcC hL hcL hs hT hp hm1 hm1f hm2 hb0 hL0 hV
  go_enter Tryd.func5, Tryd.ntmps5
  go_wp2_with (rw [HV.out])
  refine (vivariumref07_Much.calls k1 a0 a1 a2 a3 AC cC comps r1 V (HC.out V (Below.refl _ _)) HCC.out HM1.out).mono ?_
  rintro e w1 ⟨rfl, hB1⟩
  have HB1 := Aside0.mk hB1
  have r0 := cell_later hB1 q0
  have r1' := cell_later hB1 q1
  have r2' := cell_later hB1 q2
  have r3 := cell_later hB1 q3
  have r4 := cell_later hB1 q4
  clear hB1 q0 q1 q2 q3 q4
  by_cases hr1 : r1 = true
  · subst hr1
    go_wp2_with fail
    refine (live_calls (HT.out w1 HB1.out)).mono ?_
    rintro e w2 ⟨rfl, hB2⟩
    go_wp2
    go_ret
    exact ⟨rfl, below_step HBV.out (below_step HB1.out hB2)⟩
  · obtain rfl : r1 = false := by simpa using hr1
    have h40 := HMF.out rfl
    clear hr1 HMF
    go_wp2_with fail
    refine (vivariumref09_Much.calls k2 AL cL l r2 w1 (HLL.out w1 HB1.out) HCL.out HM2.out).mono ?_
    rintro e w2 ⟨rfl, ⟨⟨n, rfl⟩⟩⟩
    by_cases hr2 : r2 = true
    · subst hr2
      go_wp2_with fail
      refine (live_calls (HT.out _ (pw_below_drewN HB1.out n))).mono ?_
      rintro e w2 ⟨rfl, hB2⟩
      go_wp2
      go_ret
      exact ⟨rfl, below_step HBV.out (below_step (pw_below_drewN HB1.out n) hB2)⟩
    · obtain rfl : r2 = false := by simpa using hr2
      clear hr2
      have HB2 := Aside0.mk (pw_below_drewN HB1.out n)
      have s0 : (w1.drewN n).cell? ⟨W.heap.size, 0, none⟩ = some (.int .i64 a0) := r0
      have s1 : (w1.drewN n).cell? ⟨W.heap.size, 1, none⟩ = some (.int .i64 a1) := r1'
      have s2 : (w1.drewN n).cell? ⟨W.heap.size, 2, none⟩ = some (.int .i64 a2) := r2'
      have s3 : (w1.drewN n).cell? ⟨W.heap.size, 3, none⟩ = some (.int .i64 a3) := r3
      have s4 : (w1.drewN n).cell? ⟨W.heap.size, 4, none⟩ = some (.slice AC comps.length cC) := r4
      generalize w1.drewN n = w2 at *
      clear r0 r1' r2' r3 r4 HB1
      go_wp2_with fail
      refine (new_calls a0 a1 a2 a3 AC cC comps sig w2 (HC.out w2 HB2.out) HCC.out (by omega) HS.out (HT.out w2 HB2.out)).mono ?_
      rintro e w3 ⟨g, rfl, hI, hB3⟩
      have HTB0 := Aside0.mk (show TB V w3 g comps sig (newT comps sig) from ⟨⟨_, hI, fun k hk => Nat.le_trans HB2.out.size hk⟩, below_step HB2.out hB3, rfl, rfl⟩)
      clear hI hB3 s0 s1 s2 s3 s4 HB2
      obtain ⟨nl, hnl⟩ : ∃ n, l.length = n := ⟨_, rfl⟩
      have HNL := Aside0.mk hnl
      have HNM := Aside0.mk (show nl ≤ 9223372036854775807 by rw [← hnl]; exact HLF.out.now.2.1)
      go_wp2
      (try rw [hnl])
      go_loopg [12] nl (fun gk v12 wr => ∃ (j : Nat) (t : TabS), v12 = .int .i64 j ∧ Aside0 (j + gk = nl) ∧ Aside0 (TB V wr g comps sig t))
      case atStart => exact ⟨0, _, rfl, ⟨by omega⟩, HTB0⟩
      case round =>
        obtain ⟨j, t, rfl, H, HTB⟩ := hrel
        clear HTB0
        by_cases hlt : j < nl
        · have q0 : decide ((j : Int) < (nl : Int)) = true := by simp; omega
          have r0 : (0 : Int) ≤ (j : Int) := by omega
          have r1 : (j : Int) < (nl : Int) := by omega
          obtain ⟨F, hI, hF⟩ := HTB.out.ex
          obtain ⟨ade, ce, ee, _, hFK, hcc, _⟩ := Kd.F_get (Kd.F_below HLF.out HTB.out.below) z45 (j : Int) r0 (by rw [HNL.out]; exact r1)
          subst ee
          obtain ⟨AP, cP, AD, cD, rfl, lP, hFP, lD, hFD⟩ := k45_openF hFK
          simp only [Int.toNat_natCast] at hcc hFP hFD lP lD
          have hsz : k45.sz = 7 := rfl
          rw [hsz] at hcc
          obtain ⟨s, hsd⟩ : ∃ s : Step_, l.getD j z45 = s := ⟨_, rfl⟩
          rw [hsd] at hcc hFP hFD lP lD
          have y0 : wr.cell? (ade.add (j * 7)) = some (.int .i64 s.f0) := hcc 0 _ rfl
          have y1 : wr.cell? ⟨(ade.add (j * 7)).block, (ade.add (j * 7)).off + 1, none⟩ = some (.int .i64 s.f1.f0) := by rw [← add_field _ _ 1 (by omega)]; exact hcc 1 _ rfl
          have y2 : wr.cell? ⟨(ade.add (j * 7)).block, (ade.add (j * 7)).off + 2, none⟩ = some (.int .i64 s.f1.f1) := by rw [← add_field _ _ 2 (by omega)]; exact hcc 2 _ rfl
          have y3 : wr.cell? ⟨(ade.add (j * 7)).block, (ade.add (j * 7)).off + 3, none⟩ = some (.slice AP s.f2.length cP) := by rw [← add_field _ _ 3 (by omega)]; exact hcc 3 _ rfl
          have y4 : wr.cell? ⟨(ade.add (j * 7)).block, (ade.add (j * 7)).off + 4, none⟩ = some (.int .i64 s.f3) := by rw [← add_field _ _ 4 (by omega)]; exact hcc 4 _ rfl
          have y5 : wr.cell? ⟨(ade.add (j * 7)).block, (ade.add (j * 7)).off + 5, none⟩ = some (.int .i64 s.f4) := by rw [← add_field _ _ 5 (by omega)]; exact hcc 5 _ rfl
          have y6 : wr.cell? ⟨(ade.add (j * 7)).block, (ade.add (j * 7)).off + 6, none⟩ = some (.slice AD s.f5.length cD) := by rw [← add_field _ _ 6 (by omega)]; exact hcc 6 _ rfl
          have HDO := Aside0.mk (do_calls hI (HT.out wr HTB.out.below) s AP cP hFP AD cD hFD (fun k hk hFk => by have := hF k hFk; have := HVS.out; omega))
          have HFF := Aside0.mk hF
          clear hFK hcc hFP hFD lP lD hsz hsd hI hF
          go_wp2_with fail
          refine HDO.out.mono ?_
          rintro e wa ⟨tv, F', rfl, hI', hS, hTv⟩
          obtain ⟨gs, gz⟩ := goT_keeps t s
          have HTN := Aside0.mk (show TB V wa g comps sig (goT t s).1 from ⟨⟨_, hI'.bound, fun k hk => by
              rcases hS.up k hk.1 with h1 | h1
              · exact HFF.out k h1
              · exact Nat.le_trans HTB.out.below.size h1⟩, ((Fr.of_below HTB.out.below None_).then_ hS.fr (fun k hk => .inr (HFF.out k hk))).toBelow0, gs.trans HTB.out.hsig, gz.trans HTB.out.hcz⟩)
          obtain ⟨kk, hkk⟩ : ∃ k1, gk = k1 + 1 := ⟨gk - 1, by have := H.out; omega⟩
          have HH := Aside0.mk (show (j + 1) + kk = nl by have := H.out; omega)
          have hn64 := HNM.out
          subst hkk
          clear hI' hS hTv gs gz H HDO y0 y1 y2 y3 y4 y5 y6 HTB
          go_wp2
          go_roundg kk
          case measure => omega
          case rel => exact ⟨j + 1, _, by go_num, HH, HTN⟩
        · have q0 : decide ((j : Int) < (nl : Int)) = false := by simp; omega
          clear H HLF HLL
          obtain ⟨F, hI, hF⟩ := HTB.out.ex
          have HI := Aside0.mk hI
          have hsl : t.sig < 18446744073709551616 := by obtain ⟨_, _, _, _, h⟩ := hI; exact h.sig_lt
          have HFF := Aside0.mk hF
          clear hI hF
          go_wp2_with fail
          refine (tsig_calls HI.out).mono ?_
          rintro e w' ⟨rfl, rfl⟩
          have HLI := Aside0.mk (vivariumref05_List.calls 200 t.sig (bitsL t.sig) wr (rlist_f t.sig hsl (by omega)))
          have HN := Aside0.mk (bitsL_length t.sig)
          obtain ⟨ks, hks⟩ : ∃ ks, bitsL t.sig = ks := ⟨_, rfl⟩
          have HKS := Aside0.mk hks
          rw [hks] at HLI HN
          clear hks
          go_wp2_with fail
          refine HLI.out.mono ?_
          rintro e w4 ⟨v, rfl, hR4, hB4⟩
          obtain ⟨LA, lc, rfl⟩ := Kd.R_slice hR4
          obtain ⟨nk, hnk⟩ : ∃ n, ks.length = n := ⟨_, rfl⟩
          have HNK := Aside0.mk hnk
          have HR4 := Aside0.mk (Kd.R_reads' hR4).2.2
          rw [hnk] at HR4 HN ⊢
          have HB4 := Aside0.mk hB4
          have HTW := Aside0.mk (show ∀ w, Below w4.heap.size w4 w → IsTab w g F t from fun w hb => (HI.out.below hB4).below hb)
          have HBV4 := Aside0.mk (below_step HTB.out.below hB4)
          have HSG := Aside0.mk (And.intro HTB.out.hsig HTB.out.hcz)
          clear hR4 hB4 HLI HI HTB hnk
          go_wp2
          go_loopg [14, 15] nk (fun gk v14 v15 wr => ∃ j : Nat, v15 = .int .i64 j ∧ Aside0 (j + gk = nk) ∧ Aside0 (Kd.N (Kd.slice 5 (Kd.int .u8)) 37 wr w4.heap.size (fun k => w4.heap.size ≤ k) v14 ((ks.take j).map fun k => t.cb k.toNat)) ∧ Aside0 (Below w4.heap.size w4 wr))
          case atStart => exact ⟨0, rfl, ⟨by omega⟩, ⟨Kd.N_nil _ _ _ _ _⟩, ⟨Below.refl _ _⟩⟩
          case round =>
            obtain ⟨j2, rfl, H2, HR, HW⟩ := hrel
            by_cases hlt2 : j2 < nk
            · have q0 : decide ((j2 : Int) < (nk : Int)) = true := by simp; omega
              have p0 : (0 : Int) ≤ (j2 : Int) := by omega
              have p1 : (j2 : Int) < (nk : Int) := by omega
              have hCC := Kd.C_below HR4.out HW.out
              obtain ⟨ad, e1, hx⟩ := Kd.at_int hCC (j2 : Int) p0 p1
              subst e1
              simp only [Int.toNat_natCast] at hx
              have hmem : rd ks (j2 : Int) ∈ bitsL t.sig := by rw [HKS.out]; exact rd_mem (by rw [HNK.out]; exact hlt2)
              have HTK := Aside0.mk (rd_take (fun k : Int => t.cb k.toNat) (show j2 < ks.length by rw [HNK.out]; exact hlt2))
              obtain ⟨x, hxx⟩ : ∃ x, rd ks (j2 : Int) = x := ⟨_, rfl⟩
              rw [hxx] at hx hmem HTK
              have hcc := column_calls (HTW.out wr HW.out) x
              rw [if_pos hmem] at hcc
              obtain ⟨b1, hb1⟩ : ∃ b : Bool, decide (x ∈ bitsL t.sig) = b := ⟨_, rfl⟩
              rw [hb1] at hcc
              obtain ⟨d, hd⟩ : ∃ d, t.cb x.toNat = d := ⟨_, rfl⟩
              rw [hd] at hcc HTK
              have HCO := Aside0.mk hcc
              clear hmem hxx hCC hcc hb1 hd q0
              have q0 : decide ((j2 : Int) < (nk : Int)) = true := by simp; omega
              go_wp2_with fail
              refine HCO.out.mono ?_
              rintro e w5 ⟨v5, rfl, hR5, hB5⟩
              obtain ⟨A5, c5, rfl⟩ := Kd.R_slice hR5
              have hl5 := (Kd.R_reads' hR5).2.1
              have hF5 := Kd.F_mono (Kd.R_F (Kd.R_bound hR5)) (ok' := fun k => wr.heap.size ≤ k) (fun k hk => hk.2.1)
              have hp5 : Kd.FK (Kd.slice 5 (Kd.int .u8)) w5 (fun k => wr.heap.size ≤ k) d [.slice A5 d.length c5] := Kd.FK_slice_mk hl5 hF5
              have HP5 := Aside0.mk hp5
              have hb6 := Aside0.mk (below_step HW.out hB5)
              have HRw := Aside0.mk (Kd.N_below HR.out hB5)
              have HLT := Aside0.mk (Kd.N_lt HR.out)
              obtain ⟨xs, hxs⟩ : ∃ xs, ((ks.take j2).map fun k => t.cb k.toNat) = xs := ⟨_, rfl⟩
              have HJ := Aside0.mk (show (xs.length + 1) * 24 ≤ 140737488355328 by
                have := HN.out
                rw [← hxs, List.length_map, List.length_take]
                omega)
              rw [hxs] at HTK HRw
              obtain ⟨n5, hn5⟩ : ∃ n, d.length = n := ⟨_, rfl⟩
              rw [hn5] at HP5
              rw [hn5]
              have hwr := HW.out.size
              clear hxs hR5 hB5 HR hx hl5 hF5 hp5 hn5 HCO
              go_wp2_with ((with_reducible refine gate_builtin (b := .append) (xs := #[.tmp 70, .tmp 72]) rfl ?_); at_builtin; refine Kd.N_append (Kd.slice 5 (Kd.int .u8)) (w0 := w4) w4.heap.size rfl (.tmp 70) (.tmp 72) 52 37 (.slice none 0 0) 24 rfl Tryd.underlying52 infoBytes rfl (by decide) (by omega) _ _ d [.slice A5 n5 c5] (fun k => w4.heap.size ≤ k) (fun k => wr.heap.size ≤ k) rfl rfl HP5.out ?aQ ?aF HRw.out hb6.out ?aS HJ.out ?_)
              case aQ => exact fun k hk => ⟨Nat.le_trans hwr hk, fun e => by have := HLT.out k e.symm; omega⟩
              case aF => exact fun k hk => Nat.le_trans hb6.out.size hk
              case aS => exact hb6.out.size
              intro v1 w7 ho hb7 hg7 hat7
              have HO := Aside0.mk ho
              have HB7 := Aside0.mk hb7
              obtain ⟨kk, hkk⟩ : ∃ k1, gk = k1 + 1 := ⟨gk - 1, by have := H2.out; omega⟩
              have HH := Aside0.mk (show (j2 + 1) + kk = nk by have := H2.out; omega)
              have hn64 := HN.out
              subst hkk
              clear ho hb7 hg7 hat7 H2 HRw hb6
              go_wp2
              go_roundg kk
              case measure => omega
              case rel => exact ⟨j2 + 1, by go_num, HH, ⟨by rw [← HTK.out]; exact HO.out⟩, HB7⟩
            · have q0 : decide ((j2 : Int) < (nk : Int)) = false := by simp; omega
              have hR1 := HR.out
              rw [show ks.take j2 = ks from List.take_of_length_le (by have := HNK.out; omega)] at hR1
              obtain ⟨cols, hcols⟩ : ∃ c, (ks.map fun k => t.cb k.toNat) = c := ⟨_, rfl⟩
              rw [hcols] at hR1
              obtain ⟨AB, cB, rfl⟩ := Kd.N_slice hR1
              have hFB := Kd.N_F hR1
              have HBVr := Aside0.mk (below_step HBV4.out HW.out)
              have hsz := HSG.out.2
              have hIw := HTW.out wr HW.out
              have hLO := load_ok hIw HSG.out.1 HSG.out.2
              rw [HKS.out, hcols] at hLO
              have HLOAD := Aside0.mk (show ∀ w A c, Below wr.heap.size wr w → Kd.C k40 w A t.ids.length t.ids → Calls Tryd.prog 16 #[.agg #[.int .i64 a0, .int .i64 a1, .int .i64 a2, .int .i64 a3, .slice AC comps.length cC], .int .u64 t.sig, .slice A t.ids.length c, .slice AB cols.length cB] w (fun e w' => ∃ g2 F2, e = .returned (.tuple #[.pointer (some ⟨g2, 0, none⟩), .int .i64 0]) ∧ IsTab w' g2 F2 t ∧ Below w.heap.size w w') from fun w A c hb hCI => by
                refine (tload_calls a0 a1 a2 a3 AC cC comps t.sig A c t.ids _ AB cB cols w (HC.out w (below_step HBVr.out hb)) HCC.out (by omega) hsl (HT.out w (below_step HBVr.out hb)) hCI (Kd.F_below hFB hb) hLO).mono ?_
                rintro e w' ⟨g2, u, he, hI2, hu, hb2⟩
                rw [← hcols, ← HKS.out] at hu
                exact ⟨g2, _, he, load_back hu hsz hI2, hb2⟩)
              have HTR := Aside0.mk (show ∀ w, Below wr.heap.size wr w → IsTab w g F t from fun w hb => HTW.out w (below_step HW.out hb))
              obtain ⟨q0', q1', q2', q3', q4'⟩ := HQ.out
              have s0 := cell_later HBVr.out q0'
              have s1 := cell_later HBVr.out q1'
              have s2 := cell_later HBVr.out q2'
              have s3 := cell_later HBVr.out q3'
              have s4 := cell_later HBVr.out q4'
              have HIN := Aside0.mk (show t.ids.length ≤ 1024 by obtain ⟨_, _, _, _, h⟩ := hIw; exact h.n_le)
              obtain ⟨cl, hcl⟩ : ∃ n, cols.length = n := ⟨_, rfl⟩
              rw [hcl] at HLOAD ⊢
              clear hR1 hcols hFB hsz hIw hLO q0' q1' q2' q3' q4' hcl H2 HR HTW
              go_upto_region 17 with (fail)
              go_cut [18, 19] (fun v18 v19 wl => ∃ g2 F2, v18 = .pointer (some ⟨g2, 0, none⟩) ∧ v19 = .int .i64 0 ∧ Aside0 (IsTab wl g2 F2 t) ∧ Aside0 (Below wr.heap.size wr wl))
              case first =>
                go_region_with (first
                  | (go_at_call 27; refine (tsig_calls (HTR.out _ (by repeat (first | exact Below.refl _ _ | exact HBI.out | refine pw_below_drewN ?_ _ | refine below_drew1 ?_)))).mono ?_; rintro e w' ⟨rfl, rfl⟩)
                  | (go_at_call 26; refine (ids_calls (HTR.out _ (by repeat (first | exact Below.refl _ _ | exact HBI.out | refine pw_below_drewN ?_ _ | refine below_drew1 ?_)))).mono ?_; rintro e wi ⟨vi, rfl, hRi, hBi⟩; obtain ⟨Ai, ci, rfl⟩ := Kd.R_slice hRi; have HBI := Aside0.mk (show Below wr.heap.size wr _ from below_step (by repeat (first | exact Below.refl _ _ | exact HBI.out | refine pw_below_drewN ?_ _ | refine below_drew1 ?_)) hBi); have HRI := Aside0.mk hRi; have i0 := cell_later HBI.out s0; have i1 := cell_later HBI.out s1; have i2 := cell_later HBI.out s2; have i3 := cell_later HBI.out s3; have i4 := cell_later HBI.out s4; clear hRi hBi)
                  | (go_at_call 16; refine (HLOAD.out _ _ _ (by repeat (first | exact Below.refl _ _ | exact HBI.out | refine pw_below_drewN ?_ _ | refine below_drew1 ?_)) (by first | exact (Kd.R_reads' HRI.out).2.2 | exact Kd.C_below (Kd.R_reads' HRI.out).2.2 (by repeat (first | exact Below.refl _ _ | refine pw_below_drewN ?_ _ | refine below_drew1 ?_)))).mono ?_; rintro e wl ⟨g2, F2, rfl, hI2, hBl⟩; have HI2 := Aside0.mk hI2; have HBL := Aside0.mk (show Below wr.heap.size wr _ from below_step (by repeat (first | exact Below.refl _ _ | exact HBI.out | refine pw_below_drewN ?_ _ | refine below_drew1 ?_)) hBl); clear hI2 hBl))
                all_goals
                  go_wp2_with fail
                  go_meet
                  exact ⟨_, _, rfl, rfl, ⟨HI2.out.move (fun _ _ _ => rfl)⟩, ⟨by repeat (first | exact HBL.out | refine pw_below_drewN ?_ _ | refine below_drew1 ?_)⟩⟩
              case rest =>
                obtain ⟨g2, F2, rfl, rfl, HI2, HBL⟩ := hcut
                have HU := Aside0.mk (show ∀ w, Below wc.heap.size wc w → IsTab w g2 F2 t from fun w hb => HI2.out.below hb)
                have HTL := Aside0.mk (show ∀ w, Below wc.heap.size wc w → IsTab w g F t from fun w hb => HTR.out w (below_step HBL.out hb))
                have HTT := Aside0.mk (show ∀ w, Below wc.heap.size wc w → Tab w from fun w hb => HT.out w (below_step (below_step HBVr.out HBL.out) hb))
                obtain ⟨er, her⟩ : ∃ x, atE t.ids.length row = x := ⟨_, rfl⟩
                obtain ⟨px, hpx⟩ : ∃ x, (if atE t.ids.length row = 0 then partsT t row.toNat else []) = x := ⟨_, rfl⟩
                have hpl : px.length ≤ 64 := by
                  rw [← hpx]
                  split
                  · unfold partsT
                    rw [List.length_map, HKS.out, HNK.out]
                    exact HN.out
                  · simp
                have HPL := Aside0.mk hpl
                have HPA := Aside0.mk (show ∀ w g F, IsTab w g F t → Tab w → Calls Tryd.prog 20 #[.pointer (some ⟨g, 0, none⟩), .int .i64 row] w (fun e w' => ∃ A c, e = .returned (.tuple #[.slice A px.length c, .int .i64 er]) ∧ Kd.R k90 90 w' w.heap.size (fun _ => True) (.slice A px.length c) px ∧ Below w.heap.size w w') from fun w g F hI hTb => by
                  have h9 := parts_calls hI hTb row
                  rw [hpx, her] at h9
                  refine h9.mono ?_
                  rintro e w' ⟨v, he, h1, h2⟩
                  obtain ⟨A, c, rfl⟩ := Kd.R_slice h1
                  exact ⟨A, c, he, h1, h2⟩)
                obtain ⟨cx, hcx⟩ : ∃ x, (if comp ∈ bitsL t.sig then t.cb comp.toNat else []) = x := ⟨_, rfl⟩
                obtain ⟨bx, hbx⟩ : ∃ b : Bool, decide (comp ∈ bitsL t.sig) = b := ⟨_, rfl⟩
                have HCA := Aside0.mk (show ∀ w g F, IsTab w g F t → Calls Tryd.prog 21 #[.pointer (some ⟨g, 0, none⟩), .int .i64 comp] w (fun e w' => ∃ A c, e = .returned (.tuple #[.slice A cx.length c, .bool bx]) ∧ Kd.R (Kd.int .u8) 5 w' w.heap.size (fun _ => True) (.slice A cx.length c) cx ∧ Below w.heap.size w w') from fun w g F hI => by
                  have h9 := column_calls hI comp
                  rw [hcx, hbx] at h9
                  refine h9.mono ?_
                  rintro e w' ⟨v, he, h1, h2⟩
                  obtain ⟨A, c, rfl⟩ := Kd.R_slice h1
                  exact ⟨A, c, he, h1, h2⟩)
                clear hpl hpx her hcx hbx s0 s1 s2 s3 s4 HLOAD HTR HI2
                go_wp2_with fail
                refine (code_calls 0 wc).mono ?_
                rintro e w' ⟨rfl, rfl⟩
                go_wp2_with fail
                refine (HPA.out wc g F (HTL.out wc (Below.refl _ _)) (HTT.out wc (Below.refl _ _))).mono ?_
                rintro e w20 ⟨A20, c20, rfl, hR20, hB20⟩
                have HB20 := Aside0.mk hB20
                have HR20 := Aside0.mk (Kd.R_reads' hR20)
                clear hR20 hB20
                go_wp2_with fail
                refine (HPA.out w20 g2 F2 (HU.out w20 HB20.out) (HTT.out w20 HB20.out)).mono ?_
                rintro e w21 ⟨A21, c21, rfl, hR21, hB21⟩
                have HB21 := Aside0.mk (below_step HB20.out hB21)
                have HR21 := Aside0.mk (Kd.R_reads' hR21)
                have HC20 := Aside0.mk (Kd.C_below HR20.out.2.2 hB21)
                clear hR21 hB21
                go_wp2_with fail
                refine (HCA.out w21 g F (HTL.out w21 HB21.out)).mono ?_
                rintro e w22 ⟨A22, c22, rfl, hR22, hB22⟩
                have HB22 := Aside0.mk (below_step HB21.out hB22)
                have HR22 := Aside0.mk (Kd.R_reads' hR22)
                have HD22 := Aside0.mk hB22
                clear hR22 hB22
                go_wp2_with fail
                refine (HCA.out w22 g2 F2 (HU.out w22 HB22.out)).mono ?_
                rintro e w23 ⟨A23, c23, rfl, hR23, hB23⟩
                have HB23 := Aside0.mk (below_step HB22.out hB23)
                have HR23 := Aside0.mk (Kd.R_reads' hR23)
                have HD23 := Aside0.mk hB23
                clear hR23 hB23
                go_wp2_with fail
                refine (ids_calls (HTL.out w23 HB23.out)).mono ?_
                rintro e w24 ⟨v24, rfl, hR24, hB24⟩
                obtain ⟨A24, c24, rfl⟩ := Kd.R_slice hR24
                have HB24 := Aside0.mk (below_step HB23.out hB24)
                have HR24 := Aside0.mk (Kd.R_reads' hR24)
                have HD24 := Aside0.mk hB24
                clear hR24 hB24
                go_wp2_with fail
                refine (ids_calls (HU.out w24 HB24.out)).mono ?_
                rintro e w25 ⟨v25, rfl, hR25, hB25⟩
                obtain ⟨A25, c25, rfl⟩ := Kd.R_slice hR25
                have HB25 := Aside0.mk (below_step HB24.out hB25)
                have HR25 := Aside0.mk (Kd.R_reads' hR25)
                have HD25 := Aside0.mk hB25
                clear hR25 hB25
                have E24 := Aside0.mk HD25.out
                have E23 := Aside0.mk (below_step HD24.out HD25.out)
                have E22 := Aside0.mk (below_step HD23.out E23.out)
                have E21 := Aside0.mk (below_step HD22.out E22.out)
                go_wp2_with fail
                refine (vivariumref09_SameIDs.calls 1100 A24 c24 t.ids A25 c25 t.ids true w25 (Kd.C_below HR24.out.2.2 E24.out) HR24.out.2.1 HR25.out.2.2 HR25.out.2.1 (ids_self _ (by have := HIN.out; omega) (by have := HIN.out; omega))).mono ?_
                rintro e w' ⟨rfl, ⟨⟨n1, rfl⟩⟩⟩
                go_wp2_with fail
                refine (vivariumref09_SameParts.calls 1100 A20 c20 px A21 c21 px true _ (Kd.C_below HC20.out (pw_below_drewN E21.out n1)) HR20.out.2.1 (Kd.C_below HR21.out.2.2 (pw_below_drewN E21.out n1)) HR21.out.2.1 (parts_self _ (by have := HPL.out; omega) (by have := HPL.out; omega))).mono ?_
                rintro e w' ⟨rfl, ⟨⟨n2, rfl⟩⟩⟩
                go_wp2_with fail
                refine (code_calls er _).mono ?_
                rintro e w' ⟨rfl, rfl⟩
                go_wp2_with fail
                refine (code_calls er _).mono ?_
                rintro e w' ⟨rfl, rfl⟩
                go_wp2_with fail
                refine (vivariumref01_Same.calls A22 c22 cx A23 c23 cx true _ (Kd.C_below HR22.out.2.2 (pw_below_drewN E22.out (n1 + n2))) HR22.out.2.1 (Kd.C_below HR23.out.2.2 (pw_below_drewN E23.out (n1 + n2))) HR23.out.2.1 (same_self _)).mono ?_
                rintro e w' ⟨rfl, ⟨⟨n3, rfl⟩⟩⟩
                have HBF := Aside0.mk (pw_below_drewN HB25.out (n1 + n2 + n3))
                go_wp2_with fail
                refine (tsig_calls (HU.out _ HBF.out)).mono ?_
                rintro e w' ⟨rfl, rfl⟩
                go_wp2_with fail
                refine (tsig_calls (HTL.out _ HBF.out)).mono ?_
                rintro e w' ⟨rfl, rfl⟩
                go_wp2_with fail
                refine (live_calls (HTT.out _ HBF.out)).mono ?_
                rintro e w30 ⟨rfl, hB30⟩
                go_wp2
                go_ret
                exact ⟨rfl, below_step HBV.out (below_step (below_step HBVr.out HBL.out) (below_step HBF.out hB30))⟩

end Go.Proofs.YtnhejenjpomhdaaDoor.TRows
