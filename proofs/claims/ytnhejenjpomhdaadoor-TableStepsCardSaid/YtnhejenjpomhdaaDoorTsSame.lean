/- The law's 'same': the program's table and the reference's, of one content. -/
import Derived.Test.YtnhejenjpomhdaaDoorTsDo
import Derived.Deep.RegionWith
namespace Go.Proofs.YtnhejenjpomhdaaDoor.TRows
open Go.RowKit Go.Proofs.YtnhejenjpomhdaaDoorW.PrintWords Go.Proofs.YtnhejenjpomhdaaDoorW.PrintLast Go.Proofs.YtnhejenjpomhdaaDoorW.PrintMore Go.Proofs.YtnhejenjpomhdaaDoor.Mem Go.Proofs.YtnhejenjpomhdaaDoor.Col Go.Proofs.YtnhejenjpomhdaaDoor.Bits Go.Proofs.YtnhejenjpomhdaaDoor.Data Go.Proofs.YtnhejenjpomhdaaDoor.Mp Go.Proofs.YtnhejenjpomhdaaDoor.Tab Go.Proofs.YtnhejenjpomhdaaDoor.Ref Go.Proofs.YtnhejenjpomhdaaDoor.PTableLoads
set_option linter.unusedVariables false
set_option linter.unusedSimpArgs false

set_option maxHeartbeats 20000000 in
set_option maxRecDepth 100000 in
theorem same_calls {W : World} {g : Nat} {F ok : Nat → Prop} {t : TabS} {v : Value} (h : IsTab W g F t) (hR : IsRefT W ok v t) (comp : Int) :
    Calls Tryd.prog 15 #[.pointer (some ⟨g, 0, none⟩), v, .int .i64 comp] W fun e w' => e = .returned (.bool true) ∧ Below W.heap.size W w' := by
  have hu35 := Tryd.underlying35
  have hu40 := Tryd.underlying40
  have hw := IsTab.wf h
  obtain ⟨A0, c0, A1, c1, A2, c2, rfl, l0, l1, l2, H0, H1, H2⟩ := hR
  obtain ⟨cs, hcs⟩ : ∃ cs, bitsL t.sig = cs := ⟨_, rfl⟩
  obtain ⟨zs, hzs⟩ : ∃ zs, (cs.map fun k => (zT t k : Int)) = zs := ⟨_, rfl⟩
  obtain ⟨rows, hrows⟩ : ∃ r, rowsT t = r := ⟨_, rfl⟩
  have hcol := fun k hk => column_f hw comp (k := k) hk
  have hids := fun k hk => ids_f hw zs (k := k) hk
  have hof := fun k hk => of_f t.sig hw.sig (k := k) hk
  have hrl := rowsT_length t
  have hzl : zs.length = cs.length := by rw [← hzs, List.length_map]
  rw [hcs, hzs, hrows] at hcol
  rw [hcs, hrows] at hids
  rw [hcs] at hof l0 l1 H0 H1 ⊢
  rw [hrows] at hrl l2 H2 ⊢
  rw [hzs, ← hzl] at H1
  obtain ⟨db, hdb⟩ : ∃ b : Bool, decide (comp ∈ cs) = b := ⟨_, rfl⟩
  obtain ⟨cb, hcb⟩ : ∃ b : List Int, (if comp ∈ cs then t.cb comp.toNat else []) = b := ⟨_, rfl⟩
  have hb0 := (Below.refl W.heap.size W).alloc (Nat.le_refl _) (.cells #[.slice A0 cs.length c0, .slice A1 cs.length c1, .slice A2 rows.length c2] 35)
  have hL := heap_alloc_new W (.cells #[.slice A0 cs.length c0, .slice A1 cs.length c1, .slice A2 rows.length c2] 35)
  obtain ⟨V, hV⟩ : ∃ V, W.alloc (.cells #[.slice A0 cs.length c0, .slice A1 cs.length c1, .slice A2 rows.length c2] 35) = V := ⟨_, rfl⟩
  rw [hV] at hb0 hL
  have hVs : V.heap.size = W.heap.size + 1 := by rw [← hV]; simp
  have HV := Aside0.mk hV
  have HBV := Aside0.mk hb0
  have hcc := column_calls (h.below hb0) comp
  rw [hcs] at hcc
  rw [hdb, hcb] at hcol hcc
  have HCC := Aside0.mk hcc
  have HT := Aside0.mk (show ∀ w, Below V.heap.size V w → IsTab w g F t from fun w hb => (h.below hb0).below hb)
  have HF0 := Aside0.mk (show ∀ w, Below V.heap.size V w → Kd.C (Kd.int .i64) w A0 cs.length cs from fun w hb => (Kd.F_below (Kd.F_below H0 hb0) hb).now)
  have HF1 := Aside0.mk (show ∀ w, Below V.heap.size V w → Kd.C (Kd.int .i64) w A1 zs.length zs from fun w hb => (Kd.F_below (Kd.F_below H1 hb0) hb).now)
  have HF2 := Aside0.mk (show ∀ w, Below V.heap.size V w → Kd.C k100 w A2 rows.length rows from fun w hb => (Kd.F_below (Kd.F_below H2 hb0) hb).now)
  have HL0 := Aside0.mk l0
  have HL1 := Aside0.mk (show zs.length ≤ c1 by rw [hzl]; exact l1)
  have HL2 := Aside0.mk l2
  have HCOL := Aside0.mk (hcol 1201 (by omega))
  have HIDS := Aside0.mk (hids 1201 (by omega))
  have HOF := Aside0.mk (hof 4501 (by omega))
  have HZL := Aside0.mk hzl
  have HRL := Aside0.mk hrl
  have HIN := Aside0.mk hw.n
  have q0 : V.cell? ⟨W.heap.size, 0, none⟩ = some (.slice A0 cs.length c0) := (blk_cell hL 0).trans rfl
  have q1 : V.cell? ⟨W.heap.size, 1, none⟩ = some (.slice A1 cs.length c1) := (blk_cell hL 1).trans rfl
  have q2 : V.cell? ⟨W.heap.size, 2, none⟩ = some (.slice A2 rows.length c2) := (blk_cell hL 2).trans rfl
  have HLL := Aside0.mk hL
  clear h hw H0 H1 H2 hcs hzs hrows hcol hids hof hrl hzl l0 l1 l2 hdb hcb hb0 hL hV hcc
  go_enter Tryd.func15, Tryd.ntmps15
  go_wp2_with (rw [HV.out])
  refine HCC.out.mono ?_
  rintro e w1 ⟨v1, rfl, hR1, hB1⟩
  obtain ⟨A5, c5, rfl⟩ := Kd.R_slice hR1
  have r0 : w1.cell? ⟨W.heap.size, 0, none⟩ = some (.slice A0 cs.length c0) := cell_later hB1 q0
  have r1 : w1.cell? ⟨W.heap.size, 1, none⟩ = some (.slice A1 cs.length c1) := cell_later hB1 q1
  have r2 : w1.cell? ⟨W.heap.size, 2, none⟩ = some (.slice A2 rows.length c2) := cell_later hB1 q2
  have HR1 := Aside0.mk hR1
  have HB1 := Aside0.mk hB1
  clear hR1 hB1 q0 q1 q2
  have hcolc := vivariumref09_Column.calls 1201 A0 c0 cs A1 c1 zs A2 c2 rows comp cb db w1 (HF0.out w1 HB1.out) HL0.out (HF1.out w1 HB1.out) HL1.out (HF2.out w1 HB1.out) HL2.out HCOL.out
  rw [HZL.out] at hcolc
  have HCOLC := Aside0.mk hcolc
  clear hcolc
  go_wp2_with fail
  refine HCOLC.out.mono ?_
  rintro e w2 ⟨v2, rfl, hR2, hB2⟩
  obtain ⟨A6, c6, rfl⟩ := Kd.R_slice hR2
  have s0 : w2.cell? ⟨W.heap.size, 0, none⟩ = some (.slice A0 cs.length c0) := cell_later hB2 r0
  have s1 : w2.cell? ⟨W.heap.size, 1, none⟩ = some (.slice A1 cs.length c1) := cell_later hB2 r1
  have s2 : w2.cell? ⟨W.heap.size, 2, none⟩ = some (.slice A2 rows.length c2) := cell_later hB2 r2
  have HB2 := Aside0.mk (below_step HB1.out hB2)
  have HC1 := Aside0.mk (show ∀ w, Below w2.heap.size w2 w → Kd.C (Kd.int .u8) w A5 cb.length cb ∧ cb.length ≤ c5 from fun w hb => ⟨(Kd.R_reads' (Kd.R_below (Kd.R_below HR1.out hB2) hb)).2.2, (Kd.R_reads' HR1.out).2.1⟩)
  have HC2 := Aside0.mk (show ∀ w, Below w2.heap.size w2 w → Kd.C (Kd.int .u8) w A6 cb.length cb ∧ cb.length ≤ c6 from fun w hb => ⟨(Kd.R_reads' (Kd.R_below hR2 hb)).2.2, (Kd.R_reads' hR2).2.1⟩)
  have HID := Aside0.mk (show ∀ w, Below w2.heap.size w2 w → Calls Tryd.prog 45 #[.agg #[.slice A0 cs.length c0, .slice A1 cs.length c1, .slice A2 rows.length c2]] w (fun e w' => ∃ v0_ : Value, e = .returned (v0_) ∧ Kd.R k40 40 w' w.heap.size (fun _ => True) v0_ t.ids ∧ Below w.heap.size w w') from fun w hb => by
    have hbb := below_step HB2.out hb
    have h9 := vivariumref09_IDs.calls 1201 A0 c0 cs A1 c1 zs A2 c2 rows t.ids w (HF0.out w hbb) HL0.out (HF1.out w hbb) HL1.out (HF2.out w hbb) HL2.out HIDS.out
    rw [HZL.out] at h9
    exact h9)
  have HOFC := Aside0.mk (show ∀ w, Below w2.heap.size w2 w → Calls Tryd.prog 44 #[.slice A0 cs.length c0] w (fun e w' => e = .returned (.int .u64 t.sig) ∧ Drawn0 w w') from fun w hb => vivariumref05_Of.calls 4501 A0 c0 cs t.sig w (HF0.out w (below_step HB2.out hb)) HL0.out HOF.out)
  have HT2 := Aside0.mk (show ∀ w, Below w2.heap.size w2 w → IsTab w g F t from fun w hb => HT.out w (below_step HB2.out hb))
  have hs2 : W.heap.size < w2.heap.size := by
    have := HB2.out.size; omega
  clear hR2 hB2 r0 r1 r2 HR1 HB1 HT HCC HF0 HF1 HF2 HCOL HIDS HOF HCOLC HLL
  have hq : (((t.ids.length : Nat) : Int) == ((rows.length : Nat) : Int)) = true := by simp [HRL.out]
  go_wp2_with fail
  go_region_with (first
    | (go_at_call 27; refine (tsig_calls (HT2.out _ (by first | exact Below.refl _ _ | exact pw_below_drewN (Below.refl _ _) _ | exact HBB.out | exact HBA.out | exact pw_below_drewN HBB.out _ | exact pw_below_drewN HBA.out _ | exact pw_below_drewN (pw_below_drewN (Below.refl _ _) _) _))).mono ?_; rintro e w' ⟨rfl, rfl⟩)
    | (go_at_call 44; refine (HOFC.out _ (by first | exact Below.refl _ _ | exact pw_below_drewN (Below.refl _ _) _ | exact HBB.out | exact HBA.out | exact pw_below_drewN HBB.out _ | exact pw_below_drewN HBA.out _ | exact pw_below_drewN (pw_below_drewN (Below.refl _ _) _) _)).mono ?_; rintro e w' ⟨rfl, ⟨⟨n, rfl⟩⟩⟩)
    | (go_at_call 25; refine (tlen_calls (HT2.out _ (by first | exact Below.refl _ _ | exact pw_below_drewN (Below.refl _ _) _ | exact HBB.out | exact HBA.out | exact pw_below_drewN HBB.out _ | exact pw_below_drewN HBA.out _ | exact pw_below_drewN (pw_below_drewN (Below.refl _ _) _) _))).mono ?_; rintro e w' ⟨rfl, rfl⟩)
    | (go_at_call 26; refine (ids_calls (HT2.out _ (by first | exact Below.refl _ _ | exact pw_below_drewN (Below.refl _ _) _ | exact HBB.out | exact HBA.out | exact pw_below_drewN HBB.out _ | exact pw_below_drewN HBA.out _ | exact pw_below_drewN (pw_below_drewN (Below.refl _ _) _) _))).mono ?_; rintro e wa ⟨va, rfl, hRa, hBa⟩; obtain ⟨Aa, ca, rfl⟩ := Kd.R_slice hRa; (try have HXX := Aside0.mk hBa); have HBA := Aside0.mk (show Below w2.heap.size w2 _ from below_step (by first | exact Below.refl _ _ | exact pw_below_drewN (Below.refl _ _) _ | exact HBB.out | exact HBA.out | exact pw_below_drewN HBB.out _ | exact pw_below_drewN HBA.out _ | exact pw_below_drewN (pw_below_drewN (Below.refl _ _) _) _) hBa); have HRA := Aside0.mk hRa; have s0a := cell_later HBA.out s0; have s1a := cell_later HBA.out s1; have s2a := cell_later HBA.out s2; clear hRa hBa)
    | (go_at_call 45; refine (HID.out _ (by first | exact Below.refl _ _ | exact pw_below_drewN (Below.refl _ _) _ | exact HBB.out | exact HBA.out | exact pw_below_drewN HBB.out _ | exact pw_below_drewN HBA.out _ | exact pw_below_drewN (pw_below_drewN (Below.refl _ _) _) _)).mono ?_; rintro e wb ⟨vb, rfl, hRb, hBb⟩; obtain ⟨Ab, cb', rfl⟩ := Kd.R_slice hRb; (try have HXX := Aside0.mk hBb); have HBB := Aside0.mk (show Below w2.heap.size w2 _ from below_step (by first | exact Below.refl _ _ | exact pw_below_drewN (Below.refl _ _) _ | exact HBB.out | exact HBA.out | exact pw_below_drewN HBB.out _ | exact pw_below_drewN HBA.out _ | exact pw_below_drewN (pw_below_drewN (Below.refl _ _) _) _) hBb); have HRB := Aside0.mk hRb; have s0b := cell_later HBB.out s0; have s1b := cell_later HBB.out s1; have s2b := cell_later HBB.out s2; clear hRb hBb)
    | (go_at_call 29; refine (vivariumref09_SameIDs.calls 1100 Aa ca t.ids Ab cb' t.ids true _ (by first | exact (Kd.R_reads' HRA.out).2.2 | exact Kd.C_below (Kd.R_reads' HRA.out).2.2 HXX.out) (Kd.R_reads' HRA.out).2.1 (by first | exact (Kd.R_reads' HRB.out).2.2 | exact Kd.C_below (Kd.R_reads' HRB.out).2.2 HXX.out) (Kd.R_reads' HRB.out).2.1 (ids_self _ (by have := HIN.out; omega) (by have := HIN.out; omega))).mono ?_; rintro e w' ⟨rfl, ⟨⟨n, rfl⟩⟩⟩)
    | (go_at_call 31; refine (vivariumref01_Same.calls A5 c5 cb A6 c6 cb true _ (HC1.out _ (by first | exact Below.refl _ _ | exact pw_below_drewN (Below.refl _ _) _ | exact HBB.out | exact HBA.out | exact pw_below_drewN HBB.out _ | exact pw_below_drewN HBA.out _ | exact pw_below_drewN (pw_below_drewN HBB.out _) _ | exact pw_below_drewN (pw_below_drewN HBA.out _) _ | exact pw_below_drewN (pw_below_drewN (Below.refl _ _) _) _)).1 (HC1.out w2 (Below.refl _ _)).2 (HC2.out _ (by first | exact Below.refl _ _ | exact pw_below_drewN (Below.refl _ _) _ | exact HBB.out | exact HBA.out | exact pw_below_drewN HBB.out _ | exact pw_below_drewN HBA.out _ | exact pw_below_drewN (pw_below_drewN HBB.out _) _ | exact pw_below_drewN (pw_below_drewN HBA.out _) _ | exact pw_below_drewN (pw_below_drewN (Below.refl _ _) _) _)).1 (HC2.out w2 (Below.refl _ _)).2 (same_self _)).mono ?_; rintro e w' ⟨rfl, ⟨⟨n, rfl⟩⟩⟩))
  all_goals
    go_wp2
    go_ret
    refine ⟨by first | rfl | (simp; done), ?_⟩
    refine below_step HBV.out (below_step HB2.out ?_)
    repeat (first | exact Below.refl _ _ | exact HBB.out | exact HBA.out | refine pw_below_drewN ?_ _ | refine below_drew1 ?_)

end Go.Proofs.YtnhejenjpomhdaaDoor.TRows
