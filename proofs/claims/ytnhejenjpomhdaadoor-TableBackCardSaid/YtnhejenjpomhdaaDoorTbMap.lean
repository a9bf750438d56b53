/- Maps whose keys are whole numbers: what a look-up tells, what a store leaves. -/
import Derived.Test.YtnhejenjpomhdaaDoorTbMem
import Derived.Maps.OwnOps
namespace Go.Proofs.YtnhejenjpomhdaaDoor.Mp
open Go.RowKit Go.Proofs.YtnhejenjpomhdaaDoorW.PrintWords Go.Proofs.YtnhejenjpomhdaaDoorW.PrintLast Go.Proofs.YtnhejenjpomhdaaDoorW.PrintMore Go.Proofs.YtnhejenjpomhdaaDoor.Mem
set_option linter.unusedVariables false
set_option linter.unusedSimpArgs false

def keyIs (k : Int) (e : MapEntry) : Bool := match e.key with | .int _ j => k == j | _ => false
def look (es : List MapEntry) (k : Int) : Option Value := (es.find? (keyIs k)).map (·.val)
def IntKeys (kd : IntKind) (es : List MapEntry) : Prop := ∀ e ∈ es, ∃ j, e.key = .int kd j

theorem findNow_look {kd : IntKind} {k : Int} : ∀ (es : List MapEntry) (i : Nat), IntKeys kd es → ∃ r, Instr.findNow (.int kd) (.int kd k) es i = some r ∧ r.map (·.2) = look es k ∧
    (∀ n v, r = some (n, v) → i ≤ n ∧ n - i < es.length ∧ (∀ e, es[n - i]? = some e → e.key = .int kd k) ∧ ∀ j e, j < n - i → es[j]? = some e → keyIs k e = false) ∧ (r = none → ∀ e ∈ es, keyIs k e = false)
  | [], i, _ => ⟨none, rfl, rfl, (fun n v h => by cases h), (fun _ e he => by cases he)⟩
  | e :: es, i, hk => by
    obtain ⟨j, hj⟩ := hk e List.mem_cons_self
    have hs : Instr.sameNow (.int kd) (.int kd k) e.key = some (k == j) := by rw [hj]; simp [Instr.sameNow]
    have hki : keyIs k e = (k == j) := by unfold keyIs; rw [hj]
    by_cases h : k = j
    · have hb : (k == j) = true := by simp [h]
      refine ⟨some (i, e.val), by simp [Instr.findNow, hs, hb], by simp [look, List.find?_cons, hki, hb], fun n v hr => ?_, (fun h => by cases h)⟩
      injection hr with hr
      injection hr with h1 h2
      subst h1
      refine ⟨Nat.le_refl _, by simp, fun e' he' => ?_, fun j' e' hlt => by omega⟩
      simp at he'
      rw [← he', hj, h]
    · have hb : (k == j) = false := by simp [h]
      obtain ⟨r, h1, h2, h3, h4⟩ := findNow_look (k := k) es (i + 1) (fun e he => hk e (List.mem_cons_of_mem _ he))
      refine ⟨r, by simp [Instr.findNow, hs, hb, h1], by rw [h2]; simp [look, List.find?_cons, hki, hb], fun n v hr => ?_, fun hr e' he' => ?_⟩
      · obtain ⟨g1, g2, g3, g4⟩ := h3 n v hr
        refine ⟨by omega, by simp; omega, fun e' he' => ?_, fun j' e' hlt he' => ?_⟩
        · obtain ⟨q, hq⟩ : ∃ q, n - i = q + 1 := ⟨n - i - 1, by omega⟩
          rw [hq] at he'
          simp at he'
          exact g3 e' (by rw [show n - (i + 1) = q by omega]; exact he')
        · rcases j' with _ | j'
          · simp at he'; rw [← he', hki, hb]
          · simp at he'
            exact g4 j' e' (by omega) he'
      · rcases List.mem_cons.1 he' with rfl | he'
        · rw [hki, hb]
        · exact h4 hr e' he'

/-- Block m is a map that answers as f says. -/
def MapIs (W : World) (m : Nat) (kd : IntKind) (f : Int → Option Value) : Prop := ∃ es clock, W.heap[m]? = some (.map es clock) ∧ IntKeys kd es.toList ∧ ∀ k, look es.toList k = f k

namespace MapIs
variable {P : Program} {W W1 : World} {m : Nat} {kd : IntKind} {f : Int → Option Value} {T K E : TypeId}
theorem lt (h : MapIs W m kd f) : m < W.heap.size := by obtain ⟨_, _, h, _⟩ := h; exact heap_lt' h
theorem same (h : MapIs W m kd f) (hb : W1.heap[m]? = W.heap[m]?) : MapIs W1 m kd f := by obtain ⟨es, c, h1, h2⟩ := h; exact ⟨es, c, hb.trans h1, h2⟩
theorem new (W : World) (kd : IntKind) : MapIs (W.alloc (.map #[] 0)) W.heap.size kd (fun _ => none) := ⟨#[], 0, by simpa using heap_alloc_new W _, fun e he => by simp at he, fun k => rfl⟩
theorem find (h : MapIs W m kd f) (ht : P.underlying T = some (.map K E)) (hK : P.underlying K = some (.int kd)) (k : Int) : ∃ es clock r, W.heap[m]? = some (.map es clock) ∧ (Instr.findKey K (.int kd k) es.toList).run P W = .ok r W ∧ r.map (·.2) = f k := by
  obtain ⟨es, c, h1, h2, h3⟩ := h
  obtain ⟨r, g1, g2, _⟩ := findNow_look (k := k) es.toList 0 h2
  exact ⟨es, c, r, h1, by simp [Instr.findKey, run_underlying hK, g1], by rw [g2, h3]⟩
theorem check (hK : P.underlying K = some (.int kd)) (b : Bool) (k : Int) (W : World) : (Instr.checkKey b 10000 K (.int kd k)).run P W = .ok () W := by
  have h : ∀ n : Nat, (Instr.checkKey b (n + 1) K (.int kd k)).run P W = .ok () W := fun n => by simp [Instr.checkKey, run_underlying hK]
  exact h 9999
theorem run_getObj {o : Obj} (h : W.heap[m]? = some o) (hn : ∀ a b c, o ≠ .cells a b c) : (getObj m).run P W = .ok o W := by
  cases o <;> simp_all [getObj, Sem.run]
theorem lookup_ok (h : MapIs W m kd f) (ht : P.underlying T = some (.map K E)) (hK : P.underlying K = some (.int kd)) {z : Value} (hz : (zeroValue E).run P W = .ok z W) (k : Int) :
    (Instr.lookup T (.map (some m)) (.int kd k) true).run P W = .ok (.tuple #[(f k).getD z, .bool (f k).isSome]) W := by
  obtain ⟨es, c, r, h1, h2, h3⟩ := h.find ht hK k
  rw [← h3]
  cases r <;> simp [Instr.lookup, run_underlying ht, run_getObj h1, check hK, h2, hz]
theorem lookup (h : MapIs W m kd f) (ht : P.underlying T = some (.map K E)) (hK : P.underlying K = some (.int kd)) {z : Value} (hz : (zeroValue E).run P W = .ok z W) (k : Int) :
    (Instr.lookup T (.map (some m)) (.int kd k) false).run P W = .ok ((f k).getD z) W := by
  obtain ⟨es, c, r, h1, h2, h3⟩ := h.find ht hK k
  rw [← h3]
  cases r <;> simp [Instr.lookup, run_underlying ht, run_getObj h1, check hK, h2, hz]
theorem update (h : MapIs W m kd f) (ht : P.underlying T = some (.map K E)) (hK : P.underlying K = some (.int kd)) (k : Int) (v : Value) :
    ∃ W1, (Instr.mapUpdate T (.map (some m)) (.int kd k) v).run P W = .ok () W1 ∧ MapIs W1 m kd (fun j => if j = k then some v else f j) ∧ Fr (fun b => b = m) W W1 := by
  obtain ⟨es, c, h1, h2, h3⟩ := h
  obtain ⟨r, g1, g2, g3, g4⟩ := findNow_look (k := k) es.toList 0 h2
  have hfk : (Instr.findKey K (.int kd k) es.toList).run P W = .ok r W := by simp [Instr.findKey, run_underlying hK, g1]
  have hset : ∀ o, (setObj m o).run P W = .ok () { W with heap := W.heap.setIfInBounds m o } := fun o => by simp [setObj, Sem.run, h1]
  have hfr : ∀ o, Fr (fun b => b = m) W { W with heap := W.heap.setIfInBounds m o } := fun o => ⟨rfl, rfl, rfl, by simp, fun b _ hb => by simp [Ne.symm hb]⟩
  have hlt := heap_lt' h1
  have hat : ∀ o, ({ W with heap := W.heap.setIfInBounds m o } : World).heap[m]? = some o := fun o => by simp [hlt]
  rcases r with _ | ⟨i, v0⟩
  · have hn := g4 rfl
    refine ⟨_, ?_, ⟨_, _, hat (.map (es.push { key := .int kd k, val := v, born := c }) (c + 1)), ?_, ?_⟩, hfr _⟩
    · simp [Instr.mapUpdate, run_underlying ht, run_getObj h1, check hK, hfk, hset]
    · intro e he
      rw [Array.toList_push, List.mem_append, List.mem_singleton] at he
      rcases he with he | he
      · exact h2 e he
      · exact ⟨k, by rw [he]⟩
    · intro j
      show _ = (if j = k then some v else f j)
      rw [Array.toList_push]
      unfold look
      rw [List.find?_append]
      by_cases hj : j = k
      · subst hj
        have : es.toList.find? (keyIs j) = none := by rw [List.find?_eq_none]; intro e he; rw [hn e he]; simp
        rw [this]
        simp [List.find?_cons, keyIs]
      · rw [if_neg hj, ← h3 j]
        unfold look
        have : [({ key := .int kd k, val := v, born := c } : MapEntry)].find? (keyIs j) = none := by simp [List.find?_cons, keyIs, hj]
        rw [this]
        cases es.toList.find? (keyIs j) <;> simp
  · obtain ⟨_, hil, hik, hib⟩ := g3 i v0 rfl
    rw [Nat.sub_zero] at hil hik hib
    have hsz : i < es.size := by simpa using hil
    have hke : es[i].key = .int kd k := hik es[i] (by simp [hsz])
    have hstay : (Instr.keyThatStays (((es[i]?).map (·.key)).getD (.int kd k)) (.int kd k)).run P W = .ok (.int kd k) W := by
      have : ((es[i]?).map (·.key)).getD (.int kd k) = .int kd k := by simp [hsz, hke]
      rw [this]
      have hb : Instr.sameBits 10000 (.int kd k) (.int kd k) = true := by
        have h : ∀ n : Nat, Instr.sameBits n (.int kd k) (.int kd k) = true := fun n => by cases n <;> simp [Instr.sameBits]
        exact h _
      simp [Instr.keyThatStays, hb]
    refine ⟨_, ?_, ⟨_, _, hat (.map (es.modify i fun e => { e with key := .int kd k, val := v }) c), ?_, ?_⟩, hfr _⟩
    · simp [Instr.mapUpdate, run_underlying ht, run_getObj h1, check hK, hfk, hstay, hset]
    · intro e he
      obtain ⟨q, hq, rfl⟩ := List.mem_iff_getElem.1 he
      simp only [Array.length_toList, Array.size_modify] at hq
      simp only [Array.getElem_toList, Array.getElem_modify]
      split
      · exact ⟨k, rfl⟩
      · exact h2 _ (by simp)
    · intro j
      show _ = (if j = k then some v else f j)
      unfold look
      by_cases hj : j = k
      · subst hj
        rw [if_pos rfl]
        have : ((es.modify i fun e => { e with key := .int kd j, val := v }).toList).find? (keyIs j) = some { es[i] with key := .int kd j, val := v } := by
          rw [List.find?_eq_some_iff_getElem]
          refine ⟨by simp [keyIs], i, by simpa using hsz, by simp [Array.getElem_modify], fun q hq => ?_⟩
          simp only [Array.getElem_toList, Array.getElem_modify]
          rw [if_neg (by omega)]
          rw [hib q _ hq (by simp [show q < es.size by omega])]
          rfl
        rw [this]
        rfl
      · rw [if_neg hj, ← h3 j]
        unfold look
        have hkj : ∀ e : MapEntry, keyIs j ({ e with key := .int kd k, val := v } : MapEntry) = false := fun e => by simp [keyIs, hj]
        have hki : keyIs j es[i] = false := by unfold keyIs; rw [hke]; simp [hj]
        have hgo : ∀ (l : List MapEntry) (i : Nat), (∀ h : i < l.length, keyIs j l[i] = false) → ((l.modify i fun e => { e with key := .int kd k, val := v }).find? (keyIs j)) = l.find? (keyIs j) := by
          intro l
          induction l with
          | nil => intro i _; simp
          | cons a l ih =>
            intro i hi
            rcases i with _ | i
            · have := hi (by simp)
              simp at this
              simp [List.find?_cons, hkj, this]
            · rw [List.modify_succ_cons, List.find?_cons, List.find?_cons, ih i (fun h => by have := hi (by simp; omega); simpa using this)]
        rw [Array.toList_modify, hgo es.toList i (fun h => by simpa using hki)]
end MapIs
end Go.Proofs.YtnhejenjpomhdaaDoor.Mp
