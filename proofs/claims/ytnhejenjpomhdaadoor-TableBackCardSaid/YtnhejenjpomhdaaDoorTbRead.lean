/- Arguments that are read as data, as values of the print's kinds. -/
import Derived.Test.YtnhejenjpomhdaaDoorTbBase
import Derived.ChangeArms
import Derived.DataElems
namespace Go.Proofs.YtnhejenjpomhdaaDoor.Read
open Go.RowKit Go.Proofs.YtnhejenjpomhdaaDoorW.PrintWords Go.Proofs.YtnhejenjpomhdaaDoorW.PrintLast Go.Proofs.YtnhejenjpomhdaaDoorW.PrintMore
set_option linter.unusedVariables false
set_option linter.unusedSimpArgs false

section
variable {H : Type} {enc : TypeId × Value → H} {P : Program} {W : World} {α β : Type}
/-- Whatever is read at type t is an x of d, and Q says something of it. -/
def Rd (enc : TypeId × Value → H) (P : Program) (W : World) (t : TypeId) (d : Kd α) (Q : α → Prop) : Prop :=
  ∀ (n : Nat) (cs : List Value) (x : DataW H × List MemPlace), DataW.trod enc P W 0 (fun _ => true) true n t cs = some x → ∃ a, d.K W a cs ∧ Q a

theorem choose_list {p : Nat → α → Prop} : ∀ n : Nat, (∀ i, i < n → ∃ x, p i x) → ∃ xs : List α, xs.length = n ∧ ∀ (i : Nat) (x : α), xs[i]? = some x → p i x
  | 0, _ => ⟨[], rfl, fun i x h => by simp at h⟩
  | n + 1, h => by
    obtain ⟨xs, h1, h2⟩ := choose_list n (fun i hi => h i (by omega))
    obtain ⟨x, hx⟩ := h n (by omega)
    refine ⟨xs ++ [x], by simp [h1], fun i y hy => ?_⟩
    by_cases hi : i < xs.length
    · rw [List.getElem?_append_left hi] at hy
      exact h2 i y hy
    · rw [List.getElem?_append_right (by omega)] at hy
      have hin : i = n := by
        have := (List.getElem?_eq_some_iff.1 hy).1
        simp at this
        omega
      subst hin
      rw [h1] at hy
      simp at hy
      rw [← hy]
      exact hx

theorem Rd.int {t : TypeId} {k : IntKind} (ht : P.underlying t = some (.int k)) : Rd enc P W t (Kd.int k) (fun n => (Lit.int k n).wf = true) := fun n cs x h => by
  obtain ⟨m, h1, _, h2⟩ := DataW.trod_int ht h
  exact ⟨m, h1, h2⟩
theorem Rd.string {t : TypeId} (ht : P.underlying t = some .string) : Rd enc P W t Kd.string (fun s => s.size ≤ maxLen) := fun n cs x h => by
  obtain ⟨m, h1, _, h2⟩ := DataW.trod_string ht h
  exact ⟨m, h1, h2⟩
theorem Rd.imp {t : TypeId} {d : Kd α} {Q Q' : α → Prop} (h : Rd enc P W t d Q) (hq : ∀ x, Q x → Q' x) : Rd enc P W t d Q' := fun n cs x hx => by
  obtain ⟨a, h1, h2⟩ := h n cs x hx
  exact ⟨a, h1, hq a h2⟩
theorem Rd.iso {t : TypeId} {d : Kd α} {Q : α → Prop} (h : Rd enc P W t d Q) (f : β → α) (g : α → β) (hfg : ∀ y, f (g y) = y) : Rd enc P W t (Kd.iso d f) (fun y => Q (f y)) := fun n cs x hx => by
  obtain ⟨a, h1, h2⟩ := h n cs x hx
  refine ⟨g a, ?_, by show Q (f (g a)); rw [hfg]; exact h2⟩
  show d.K W (f (g a)) cs
  rw [hfg]
  exact h1
theorem cells_get {a : Addr} {n : Nat} {cs : List Value} (h : W.cells? 0 a n = some cs) : cs.length = n ∧ ∀ (i : Nat) (u : Value), cs[i]? = some u → W.cell? (a.add i) = some u := by
  unfold World.cells? at h
  rw [if_pos (Nat.zero_le _)] at h
  have hl : cs.length = n := by simpa using mapM_some_length h
  refine ⟨hl, fun i u hu => ?_⟩
  have hi : i < n := by rw [← hl]; exact (List.getElem?_eq_some_iff.1 hu).1
  have := mapM_some_get h i i (by simp [hi])
  rw [this, hu]
theorem Rd.slice {t e : TypeId} {d : Kd α} {Q : α → Prop} (ht : P.underlying t = some (.slice e)) (hc : P.cellsOf e = d.sz) (h : Rd enc P W e d Q) : Rd enc P W t (Kd.slice e d) (fun xs => ∀ x ∈ xs, Q x) := fun n cs x hx => by
  rcases DataW.trod_slice ht hx with ⟨rfl, _⟩ | ⟨a, len, cap, elems, rest, m, _, rfl, _, _, hlc, hcm, hel, he, _, _⟩
  · exact ⟨[], ⟨none, 0, rfl, Nat.le_refl _, Kd.C_nil d W⟩, fun x hx => by cases hx⟩
  · have hall : ∀ i, i < len → ∃ y, ∃ c, c.length = d.sz ∧ d.K W y c ∧ Q y ∧ ∀ j u, c[j]? = some u → W.cell? (a.add (i * d.sz + j)) = some u := by
      intro i hi
      have h1 := he i hi
      have h2 : elems[i]? = some elems[i] := List.getElem?_eq_getElem (by omega)
      rw [h2] at h1
      obtain ⟨c, h3, h4⟩ := Option.bind_eq_some_iff.1 h1
      obtain ⟨y, h5, h6⟩ := h m c _ h4
      obtain ⟨h7, h8⟩ := cells_get h3
      refine ⟨y, c, by rw [h7, hc], h5, h6, fun j u hu => ?_⟩
      have := h8 j u hu
      rw [hc, Addr.add_add] at this
      exact this
    obtain ⟨xs, hl, hxs⟩ := choose_list len hall
    subst hl
    refine ⟨xs, ⟨some a, cap, rfl, hlc, rfl, by unfold maxLen at hcm; omega, fun _ => ⟨a, rfl, fun j y hy => ?_⟩⟩, fun y hy => ?_⟩
    · obtain ⟨c, h1, h2, _, h3⟩ := hxs j y hy
      exact ⟨c, h1, h2, h3⟩
    · obtain ⟨j, hj, hy2⟩ := List.mem_iff_getElem.1 hy
      obtain ⟨c, _, _, h4, _⟩ := hxs j y (by rw [List.getElem?_eq_getElem hj, hy2])
      exact h4

/-- The fields from the i-th one on, laid one behind the other. -/
def RdF (enc : TypeId × Value → H) (P : Program) (W : World) (fs : Array Field) (i off tot : Nat) (d : Kd α) (Q : α → Prop) : Prop :=
  ∀ (n : Nat) (cs : List Value), cs.length = tot → (∀ (j : Nat) (f : Field), i ≤ j → fs[j]? = some f → ∃ x, DataW.trod enc P W 0 (fun _ => true) true n f.type ((cs.drop f.offset).take (P.cellsOf f.type)) = some x) → ∃ a, d.K W a (cs.drop off) ∧ Q a
theorem RdF.last {fs : Array Field} {i off tot : Nat} {f : Field} {d : Kd α} {Q : α → Prop} (hf : fs[i]? = some f) (ho : f.offset = off) (hc : P.cellsOf f.type = d.sz) (ht : off + d.sz = tot) (h : Rd enc P W f.type d Q) : RdF enc P W fs i off tot d Q := fun n cs hl hx => by
  obtain ⟨x, hx⟩ := hx i f (Nat.le_refl _) hf
  obtain ⟨a, h1, h2⟩ := h n _ x hx
  rw [ho, hc, List.take_of_length_le (by rw [List.length_drop]; omega)] at h1
  exact ⟨a, h1, h2⟩
theorem RdF.cons {fs : Array Field} {i off tot : Nat} {f : Field} {a : Kd α} {b : Kd β} {Q : α → Prop} {R : β → Prop} (hf : fs[i]? = some f) (ho : f.offset = off) (hc : P.cellsOf f.type = a.sz) (h : Rd enc P W f.type a Q) (hr : RdF enc P W fs (i + 1) (off + a.sz) tot b R) : RdF enc P W fs i off tot (Kd.pair a b) (fun p => Q p.1 ∧ R p.2) := fun n cs hl hx => by
  obtain ⟨x, hx1⟩ := hx i f (Nat.le_refl _) hf
  obtain ⟨y, h1, h2⟩ := h n _ x hx1
  obtain ⟨z, h3, h4⟩ := hr n cs hl (fun j g hj hg => hx j g (by omega) hg)
  rw [ho, hc] at h1
  refine ⟨(y, z), ⟨_, _, ?_, h1, h3⟩, h2, h4⟩
  rw [← List.drop_drop, List.take_append_drop]
theorem Rd.struct {t : TypeId} {fs : Array Field} {tot : Nat} {d : Kd α} {Q : α → Prop} (ht : P.underlying t = some (.struct fs)) (hc : P.cellsOf t = tot) (h : RdF enc P W fs 0 0 tot d Q) : Rd enc P W t d Q := fun n cs x hx => by
  obtain ⟨xs, m, rfl, _, hl, hn, hf⟩ := DataW.trod_struct ht hx
  obtain ⟨a, h1, h2⟩ := h m cs (by rw [hl, hc]) (fun j f _ hj => by
    have h3 := hf j f hj
    have hlt : j < xs.length := by rw [hn]; exact (Array.getElem?_eq_some_iff.1 hj).1
    exact ⟨xs[j], by rw [h3, List.getElem?_eq_getElem hlt]⟩)
  exact ⟨a, by simpa using h1, h2⟩
end

end Go.Proofs.YtnhejenjpomhdaaDoor.Read
