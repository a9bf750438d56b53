/- bits.Count: how many numbers a set has. -/
import Derived.Test.YtnhejenjpomhdaaDoorTbTNew
namespace Go.Proofs.YtnhejenjpomhdaaDoor.Bits
open Go.RowKit Go.Proofs.YtnhejenjpomhdaaDoorW.PrintWords Go.Proofs.YtnhejenjpomhdaaDoor.Mem Go.Proofs.YtnhejenjpomhdaaDoor.Col Go.Proofs.YtnhejenjpomhdaaDoor.PTableLoads
set_option linter.unusedVariables false
set_option linter.unusedSimpArgs false

/-- Bytes, the lowest first. -/
def cat : List Nat → Nat
  | [] => 0
  | b :: r => b + 256 * cat r
def bytesOf : Nat → Nat → List Nat
  | 0, _ => []
  | n + 1, s => s % 256 :: bytesOf n (s / 256)
theorem bytesOf_length : ∀ n s, (bytesOf n s).length = n
  | 0, _ => rfl
  | n + 1, s => by simp [bytesOf, bytesOf_length n]
theorem bytesOf_lt : ∀ n s, ∀ b ∈ bytesOf n s, b < 256
  | 0, _ => by simp [bytesOf]
  | n + 1, s => by
    intro b hb
    rcases List.mem_cons.1 hb with rfl | hb
    · exact Nat.mod_lt _ (by omega)
    · exact bytesOf_lt n _ b hb
theorem cat_bytesOf : ∀ n s, s < 256 ^ n → cat (bytesOf n s) = s
  | 0, s, h => by simp at h; simp [bytesOf, cat, h]
  | n + 1, s, h => by
    simp only [bytesOf, cat]
    rw [cat_bytesOf n (s / 256) (by rw [Nat.pow_succ] at h; omega)]
    omega
theorem and_cat (a b c d : Nat) (ha : a < 256) (hc : c < 256) : (a + 256 * b) &&& (c + 256 * d) = (a &&& c) + 256 * (b &&& d) := by
  apply Nat.eq_of_testBit_eq
  intro i
  have hac : a &&& c < 2 ^ 8 := Nat.lt_of_le_of_lt Nat.and_le_left ha
  have e (x y : Nat) : x + 256 * y = 2 ^ 8 * y + x := by omega
  rw [Nat.testBit_and, e, e, e, Nat.testBit_two_pow_mul_add _ (by omega), Nat.testBit_two_pow_mul_add _ (by omega), Nat.testBit_two_pow_mul_add _ hac]
  split <;> rw [Nat.testBit_and]
def rep (m : Nat) : List Nat → Nat
  | [] => 0
  | _ :: r => m + 256 * rep m r
def p1 (b : Nat) : Nat := (b / 2 &&& 85) + (b &&& 85)
def p2 (b : Nat) : Nat := (b / 4 &&& 51) + (b &&& 51)
def p3 (b : Nat) : Nat := (b / 16 + b) &&& 15
theorem k1 : ∀ b : Nat, b < 256 → ∀ c, c < 2 → (b / 2 + 128 * c) &&& 85 = b / 2 &&& 85 := by decide +kernel
theorem k2 : ∀ b : Nat, b < 256 → ∀ c, c < 4 → (b / 4 + 64 * c) &&& 51 = b / 4 &&& 51 := by decide +kernel
theorem k3 : ∀ b : Nat, b < 256 → ∀ c, c < 5 → b / 16 < 5 → b % 16 < 5 → (b / 16 + b + 16 * c) &&& 15 = (b / 16 + b) &&& 15 := by decide +kernel
theorem s1 : ∀ l : List Nat, (∀ b ∈ l, b < 256) → (cat l / 2 &&& rep 85 l) + (cat l &&& rep 85 l) = cat (l.map p1)
  | [], _ => rfl
  | b :: r, h => by
    have hb := h b (List.mem_cons_self ..)
    have ih := s1 r (fun x hx => h x (List.mem_cons_of_mem _ hx))
    simp only [cat, rep, List.map_cons]
    have e : (b + 256 * cat r) / 2 = (b / 2 + 128 * (cat r % 2)) + 256 * (cat r / 2) := by omega
    rw [e, and_cat _ _ _ _ (by omega) (by omega), and_cat _ _ _ _ hb (by omega), k1 b hb _ (Nat.mod_lt _ (by omega)), ← ih]
    unfold p1
    omega
theorem s2 : ∀ l : List Nat, (∀ b ∈ l, b < 256) → (cat l / 4 &&& rep 51 l) + (cat l &&& rep 51 l) = cat (l.map p2)
  | [], _ => rfl
  | b :: r, h => by
    have hb := h b (List.mem_cons_self ..)
    have ih := s2 r (fun x hx => h x (List.mem_cons_of_mem _ hx))
    simp only [cat, rep, List.map_cons]
    have e : (b + 256 * cat r) / 4 = (b / 4 + 64 * (cat r % 4)) + 256 * (cat r / 4) := by omega
    rw [e, and_cat _ _ _ _ (by omega) (by omega), and_cat _ _ _ _ hb (by omega), k2 b hb _ (Nat.mod_lt _ (by omega)), ← ih]
    unfold p2
    omega
theorem s3 : ∀ l : List Nat, (∀ b ∈ l, b < 256 ∧ b / 16 < 5 ∧ b % 16 < 5) → (cat l % 16 < 5) ∧ (cat l / 16 + cat l) &&& rep 15 l = cat (l.map p3)
  | [], _ => ⟨by simp [cat], rfl⟩
  | b :: r, h => by
    obtain ⟨hb, h1, h2⟩ := h b (List.mem_cons_self ..)
    obtain ⟨i1, ih⟩ := s3 r (fun x hx => h x (List.mem_cons_of_mem _ hx))
    simp only [cat, rep, List.map_cons]
    refine ⟨by omega, ?_⟩
    have e : (b + 256 * cat r) / 16 + (b + 256 * cat r) = (b / 16 + b + 16 * (cat r % 16)) + 256 * (cat r / 16 + cat r) := by omega
    rw [e, and_cat _ _ _ _ (by omega) (by omega), k3 b hb _ i1 h1 h2, ih]
    rfl
def pc (n s : Nat) : Nat := ((List.range n).filter fun i => s.testBit i).length
theorem pc_cons (n b r : Nat) (hb : b < 256) : pc (8 + n) (b + 256 * r) = pc 8 b + pc n r := by
  have e : b + 256 * r = 2 ^ 8 * r + b := by omega
  unfold pc
  rw [List.range_add, List.filter_append, List.length_append, List.filter_map, List.length_map, e]
  congr 1
  · congr 1
    apply List.filter_congr
    intro i hi
    have hi := List.mem_range.1 hi
    rw [Nat.testBit_two_pow_mul_add _ (by omega), if_pos hi]
  · congr 1
    apply List.filter_congr
    intro i hi
    show (2 ^ 8 * r + b).testBit (8 + i) = _
    rw [Nat.testBit_two_pow_mul_add _ (by omega), if_neg (by omega)]
    congr 1
    omega
theorem pc_all : ∀ b : Nat, b < 256 → p1 b < 256 ∧ p2 (p1 b) < 256 ∧ p2 (p1 b) / 16 < 5 ∧ p2 (p1 b) % 16 < 5 ∧ p3 (p2 (p1 b)) = pc 8 b ∧ pc 8 b ≤ 8 := by decide +kernel
theorem rep_map (m : Nat) (f : Nat → Nat) : ∀ l : List Nat, rep m (l.map f) = rep m l
  | [] => rfl
  | b :: r => by simp [rep, rep_map m f r]
theorem pc_sum : ∀ l : List Nat, (∀ b ∈ l, b < 256) → pc (8 * l.length) (cat l) = (l.map (pc 8)).foldr (· + ·) 0
  | [], _ => rfl
  | b :: r, h => by
    have ih := pc_sum r (fun x hx => h x (List.mem_cons_of_mem _ hx))
    simp only [cat, List.map_cons, List.foldr_cons, List.length_cons]
    rw [show 8 * (r.length + 1) = 8 + 8 * r.length by omega, pc_cons _ _ _ (h b (List.mem_cons_self ..)), ih]

theorem bits_and_i64_nat (a b : Nat) (ha : a < 9223372036854775808) (hb : b < 9223372036854775808) : bits .and .i64 (a : Int) (b : Int) = ((a &&& b : Nat) : Int) := by
  have hx : a &&& b < 2 ^ 63 := Nat.and_lt_two_pow _ (by omega)
  have h1 : (BitVec.ofInt 64 (a : Int)).toNat = a := by
    rw [BitVec.ofInt_natCast, BitVec.toNat_ofNat]; exact Nat.mod_eq_of_lt (by omega)
  have h2 : (BitVec.ofInt 64 (b : Int)).toNat = b := by
    rw [BitVec.ofInt_natCast, BitVec.toNat_ofNat]; exact Nat.mod_eq_of_lt (by omega)
  show IntKind.i64.wrap ((BitVec.ofInt 64 (a : Int) &&& BitVec.ofInt 64 (b : Int)).toNat : Int) = _
  rw [BitVec.toNat_and, h1, h2, IntKind.wrap_i64]
  omega
theorem cat_lt_ : ∀ l : List Nat, (∀ b ∈ l, b < 256) → cat l < 256 ^ l.length
  | [], _ => by simp [cat]
  | b :: r, h => by
    have ih := cat_lt_ r (fun x hx => h x (List.mem_cons_of_mem _ hx))
    have hb := h b (List.mem_cons_self ..)
    simp only [cat, List.length_cons, Nat.pow_succ]
    omega
theorem cat_lt (l : List Nat) (h : ∀ b ∈ l, b < 256) (hn : l.length = 8) : cat l < 18446744073709551616 := by
  have := cat_lt_ l h
  rw [hn] at this
  exact Nat.lt_of_lt_of_eq this (by decide +kernel)
theorem cat_le_ : ∀ l : List Nat, (∀ b ∈ l, b ≤ 68) → cat l ≤ rep 68 l
  | [], _ => Nat.le_refl _
  | b :: r, h => by
    have ih := cat_le_ r (fun x hx => h x (List.mem_cons_of_mem _ hx))
    have hb := h b (List.mem_cons_self ..)
    simp only [cat, rep]
    omega
theorem rep_len (m : Nat) : ∀ l l' : List Nat, l.length = l'.length → rep m l = rep m l'
  | [], [], _ => rfl
  | a :: l, b :: l', h => by simp only [rep]; rw [rep_len m l l' (by simpa using h)]
theorem rep8 (m b0 b1 b2 b3 b4 b5 b6 b7 : Nat) : rep m [b0, b1, b2, b3, b4, b5, b6, b7] = m * 72340172838076673 := by
  simp only [rep]
  omega
theorem cat_le (l : List Nat) (h : ∀ b ∈ l, b ≤ 68) (hn : l.length = 8) : cat l ≤ 5000000000000000000 := by
  have h1 := cat_le_ l h
  rw [rep_len 68 l [0, 0, 0, 0, 0, 0, 0, 0] hn, rep8] at h1
  omega
theorem fin {q0 q1 q2 q3 q4 q5 q6 q7 x3 : Nat} (hx : x3 = q0 + 256 * (q1 + 256 * (q2 + 256 * (q3 + 256 * (q4 + 256 * (q5 + 256 * (q6 + 256 * q7))))))) (l0 : q0 ≤ 8) (l1 : q1 ≤ 8) (l2 : q2 ≤ 8) (l3 : q3 ≤ 8) (l4 : q4 ≤ 8) (l5 : q5 ≤ 8) (l6 : q6 ≤ 8) (l7 : q7 ≤ 8) :
    ∃ y1 y2 y3 : Nat, x3 + x3 / 256 = y1 ∧ y1 + y1 / 65536 = y2 ∧ y2 + y2 / 4294967296 = y3 ∧ y1 < 1000000000000000000 ∧ y2 < 1000000000000000000 ∧ y3 < 1000000000000000000 ∧ y3 % 128 = q0 + (q1 + (q2 + (q3 + (q4 + (q5 + (q6 + q7)))))) := by
  obtain ⟨r6, h6⟩ : ∃ r, q6 + 256 * q7 = r := ⟨_, rfl⟩
  rw [h6] at hx
  obtain ⟨r5, h5⟩ : ∃ r, q5 + 256 * r6 = r := ⟨_, rfl⟩
  rw [h5] at hx
  obtain ⟨r4, h4⟩ : ∃ r, q4 + 256 * r5 = r := ⟨_, rfl⟩
  rw [h4] at hx
  obtain ⟨r3, h3⟩ : ∃ r, q3 + 256 * r4 = r := ⟨_, rfl⟩
  rw [h3] at hx
  obtain ⟨r2, h2⟩ : ∃ r, q2 + 256 * r3 = r := ⟨_, rfl⟩
  rw [h2] at hx
  obtain ⟨r1, h1⟩ : ∃ r, q1 + 256 * r2 = r := ⟨_, rfl⟩
  rw [h1] at hx
  have b6 : r6 ≤ 2100 := by clear hx h1 h2 h3 h4 h5; omega
  have b5 : r5 ≤ 540000 := by clear hx h1 h2 h3 h4 h6; omega
  have b4 : r4 ≤ 140000000 := by clear hx h1 h2 h3 h5 h6; omega
  have b3 : r3 ≤ 36000000000 := by clear hx h1 h2 h4 h5 h6; omega
  have b2 : r2 ≤ 9300000000000 := by clear hx h1 h3 h4 h5 h6; omega
  have b1 : r1 ≤ 2400000000000000 := by clear hx h2 h3 h4 h5 h6; omega
  have e0 : x3 / 256 = r1 := by clear h1 h2 h3 h4 h5 h6 b1 b2 b3 b4 b5 b6; omega
  obtain ⟨y1, hy1⟩ : ∃ y, x3 + x3 / 256 = y := ⟨_, rfl⟩
  have f1 : y1 = (q0 + q1) + 256 * (q1 + q2) + 65536 * (r2 + r3) := by clear h3 h4 h5 h6 b1 b2 b3 b4 b5 b6 l0 l1 l2 l3 l4 l5 l6 l7; omega
  have b7 : y1 < 1000000000000000000 := by clear h1 h2 h3 h4 h5 h6 hy1 e0 hx; omega
  have e1 : y1 / 65536 = r2 + r3 := by clear h1 h2 h3 h4 h5 h6 b1 b2 b3 b4 b5 b6 b7 hy1 hx e0; omega
  obtain ⟨y2, hy2⟩ : ∃ y, y1 + y1 / 65536 = y := ⟨_, rfl⟩
  have g1 : r2 + r3 = (q2 + q3) + 256 * (r3 + r4) := by clear f1 hx h1 h4 h5 h6 b1 b2 b3 b4 b5 b6 b7 hy1 hy2 e0 e1 l0 l1 l2 l3 l4 l5 l6 l7; omega
  have g2 : r3 + r4 = (q3 + q4) + 256 * (r4 + r5) := by clear f1 hx h1 h2 h5 h6 b1 b2 b3 b4 b5 b6 b7 hy1 hy2 e0 e1 l0 l1 l2 l3 l4 l5 l6 l7 g1; omega
  have g3 : r4 + r5 = (q4 + q5) + 256 * (r5 + r6) := by clear f1 hx h1 h2 h3 h6 b1 b2 b3 b4 b5 b6 b7 hy1 hy2 e0 e1 l0 l1 l2 l3 l4 l5 l6 l7 g1 g2; omega
  have g4 : r5 + r6 = (q5 + q6) + 256 * (r6 + q7) := by clear f1 hx h1 h2 h3 h4 b1 b2 b3 b4 b5 b6 b7 hy1 hy2 e0 e1 l0 l1 l2 l3 l4 l5 l6 l7 g1 g2 g3; omega
  have f2 : y2 = (q0 + q1 + q2 + q3) + 256 * (q1 + q2 + q3 + q4) + 65536 * (q2 + q3 + q4 + q5) + 16777216 * (q3 + q4 + q5 + q6) + 4294967296 * (r4 + r5 + r6 + q7) := by
    clear h1 h2 h3 h4 h5 h6 hx b1 b2 b3 b4 b5 b6 b7 hy1 e0 l0 l1 l2 l3 l4 l5 l6 l7
    rw [← hy2, e1, f1]
    omega
  have b8 : y2 < 1000000000000000000 := by clear h1 h2 h3 h4 h5 h6 hx hy1 hy2 e0 e1 f1 g1 g2 g3 g4; omega
  have e2 : y2 / 4294967296 = r4 + r5 + r6 + q7 := by clear h1 h2 h3 h4 h5 h6 b1 b2 b3 b4 b5 b6 b7 b8 hy1 hy2 hx e0 e1 f1 g1 g2 g3 g4; omega
  obtain ⟨y3, hy3⟩ : ∃ y, y2 + y2 / 4294967296 = y := ⟨_, rfl⟩
  refine ⟨y1, y2, y3, hy1, hy2, hy3, b7, b8, ?_, ?_⟩
  · clear h1 h2 h3 h4 h5 h6 hx hy1 hy2 e0 e1 f1 f2 g1 g2 g3 g4; omega
  · clear h1 h2 h3 hx hy1 hy2 e0 e1 f1 g1 g2 b1 b2 b3 b4 b5 b6 b7 b8 g3 g4
    rw [e2] at hy3
    have u : r4 + r5 + r6 + q7 = (q4 + q5 + q6 + q7) + 256 * (r5 + r6 + q7) := by clear f2 hy3 e2 l0 l1 l2 l3 l4 l5 l6 l7; omega
    have v : y3 = (q0 + (q1 + (q2 + (q3 + (q4 + (q5 + (q6 + q7))))))) + 128 * (2 * (q1 + q2 + q3 + q4) + 512 * (q2 + q3 + q4 + q5) + 131072 * (q3 + q4 + q5 + q6) + 33554432 * (r4 + r5 + r6 + q7) + 2 * (r5 + r6 + q7)) := by
      clear h4 h5 h6 e2 l0 l1 l2 l3 l4 l5 l6 l7
      omega
    rw [v, Nat.add_mul_mod_self_left]
    exact Nat.mod_eq_of_lt (by clear v u f2 hy3 e2 h4 h5 h6; omega)
/-- The three steps, over eight bytes. -/
theorem swar (s : Nat) (h : s < 18446744073709551616) : ∃ x1 x2 x3 : Nat, (s / 2 &&& 6148914691236517205) + (s &&& 6148914691236517205) = x1 ∧ (x1 / 4 &&& 3689348814741910323) + (x1 &&& 3689348814741910323) = x2 ∧ (x2 / 16 + x2) &&& 1085102592571150095 = x3 ∧ x1 < 18446744073709551616 ∧ x2 < 18446744073709551616 ∧ x2 / 16 + x2 < 18446744073709551616 ∧ ∃ q0 q1 q2 q3 q4 q5 q6 q7 : Nat, x3 = q0 + 256 * (q1 + 256 * (q2 + 256 * (q3 + 256 * (q4 + 256 * (q5 + 256 * (q6 + 256 * q7)))))) ∧ q0 ≤ 8 ∧ q1 ≤ 8 ∧ q2 ≤ 8 ∧ q3 ≤ 8 ∧ q4 ≤ 8 ∧ q5 ≤ 8 ∧ q6 ≤ 8 ∧ q7 ≤ 8 ∧ pc 64 s = q0 + (q1 + (q2 + (q3 + (q4 + (q5 + (q6 + q7)))))) := by
  obtain ⟨l, hl⟩ : ∃ l, bytesOf 8 s = l := ⟨_, rfl⟩
  have hb := bytesOf_lt 8 s
  have hc := cat_bytesOf 8 s (Nat.lt_of_lt_of_eq h (by decide +kernel))
  have hn := bytesOf_length 8 s
  rw [hl] at hb hc hn
  have h1 := s1 l hb
  have h2 := s2 (l.map p1) (fun x hx => by obtain ⟨b, hb2, rfl⟩ := List.mem_map.1 hx; exact (pc_all b (hb b hb2)).1)
  have h3 := (s3 ((l.map p1).map p2) (fun x hx => by
    obtain ⟨y, hy, rfl⟩ := List.mem_map.1 hx
    obtain ⟨b, hb2, rfl⟩ := List.mem_map.1 hy
    have := pc_all b (hb b hb2)
    exact ⟨this.2.1, this.2.2.1, this.2.2.2.1⟩)).2
  have hs := pc_sum l hb
  rw [rep_map] at h2
  rw [rep_map, rep_map] at h3
  rw [hn, hc] at hs
  rw [hc] at h1
  have hm : ((l.map p1).map p2).map p3 = l.map (pc 8) := by
    rw [List.map_map, List.map_map]
    apply List.map_congr_left
    intro b hb2
    exact (pc_all b (hb b hb2)).2.2.2.2.1
  have hq : ∀ b ∈ l, pc 8 b ≤ 8 := fun b hb2 => (pc_all b (hb b hb2)).2.2.2.2.2
  rw [hm] at h3
  have g1 := cat_lt (l.map p1) (fun x hx => by obtain ⟨b, hb2, rfl⟩ := List.mem_map.1 hx; exact (pc_all b (hb b hb2)).1) (by rw [List.length_map, hn])
  have g3 := cat_le ((l.map p1).map p2) (fun x hx => by
    obtain ⟨y, hy, rfl⟩ := List.mem_map.1 hx
    obtain ⟨b, hb2, rfl⟩ := List.mem_map.1 hy
    have := pc_all b (hb b hb2)
    omega) (by rw [List.length_map, List.length_map, hn])
  rcases l with _ | ⟨b0, _ | ⟨b1, _ | ⟨b2, _ | ⟨b3, _ | ⟨b4, _ | ⟨b5, _ | ⟨b6, _ | ⟨b7, _ | ⟨b8, r⟩⟩⟩⟩⟩⟩⟩⟩⟩ <;> simp at hn
  have r5 : rep 85 [b0, b1, b2, b3, b4, b5, b6, b7] = 6148914691236517205 := rep8 ..
  have r3 : rep 51 [b0, b1, b2, b3, b4, b5, b6, b7] = 3689348814741910323 := rep8 ..
  have rf : rep 15 [b0, b1, b2, b3, b4, b5, b6, b7] = 1085102592571150095 := rep8 ..
  rw [r5] at h1
  rw [r3] at h2
  rw [rf] at h3
  refine ⟨_, _, _, h1, h2, h3, g1, by omega, by omega, pc 8 b0, pc 8 b1, pc 8 b2, pc 8 b3, pc 8 b4, pc 8 b5, pc 8 b6, pc 8 b7, by simp [cat], hq _ (by simp), hq _ (by simp), hq _ (by simp), hq _ (by simp), hq _ (by simp), hq _ (by simp), hq _ (by simp), hq _ (by simp), ?_⟩
  simpa using hs
theorem count_f (s : Nat) (h : s < 18446744073709551616) : bits_Count.f (s : Int) = some (((bitsL s).length : Nat) : Int) := by
  obtain ⟨x1, x2, x3, h1, h2, h3, b1, b2, b3, q0, q1, q2, q3, q4, q5, q6, q7, hx, l0, l1, l2, l3, l4, l5, l6, l7, hp⟩ := swar s h
  have HX := Aside0.mk (fin hx l0 l1 l2 l3 l4 l5 l6 l7)
  clear hx l0 l1 l2 l3 l4 l5 l6 l7
  have e1 : IntKind.u64.wrap (bits .and .u64 ((s : Int) / 2) 6148914691236517205 + bits .and .u64 (s : Int) 6148914691236517205) = (x1 : Int) := by
    have a := bits_and_u64_nat (s / 2) 6148914691236517205 (Nat.lt_of_le_of_lt (Nat.div_le_self ..) h) (by decide)
    have b := bits_and_u64_nat s 6148914691236517205 h (by decide)
    have c : ((s / 2 : Nat) : Int) = (s : Int) / 2 := Int.natCast_ediv ..
    rw [c] at a
    rw [show ((6148914691236517205 : Nat) : Int) = 6148914691236517205 from rfl] at a b
    rw [a, b, ← Int.natCast_add, h1, IntKind.wrap_u64]
    exact Int.emod_eq_of_lt (Int.natCast_nonneg _) (by clear a b h1 h2 h3; omega)
  have e2 : IntKind.u64.wrap (bits .and .u64 ((x1 : Int) / 4) 3689348814741910323 + bits .and .u64 (x1 : Int) 3689348814741910323) = (x2 : Int) := by
    have a := bits_and_u64_nat (x1 / 4) 3689348814741910323 (Nat.lt_of_le_of_lt (Nat.div_le_self ..) b1) (by decide)
    have b := bits_and_u64_nat x1 3689348814741910323 b1 (by decide)
    have c : ((x1 / 4 : Nat) : Int) = (x1 : Int) / 4 := Int.natCast_ediv ..
    rw [c] at a
    rw [show ((3689348814741910323 : Nat) : Int) = 3689348814741910323 from rfl] at a b
    rw [a, b, ← Int.natCast_add, h2, IntKind.wrap_u64]
    exact Int.emod_eq_of_lt (Int.natCast_nonneg _) (by clear a b h1 h2 h3; omega)
  have w (y : Nat) (hy : y < 18446744073709551616) : IntKind.u64.wrap (y : Int) = (y : Int) := by rw [IntKind.wrap_u64]; exact Int.emod_eq_of_lt (Int.natCast_nonneg _) (by clear h1 h2 h3 e1 e2; omega)
  have e3 : bits .and .u64 (IntKind.u64.wrap ((x2 : Int) / 16 + (x2 : Int))) 1085102592571150095 = (x3 : Int) := by
    have a := bits_and_u64_nat (x2 / 16 + x2) 1085102592571150095 b3 (by decide)
    rw [h3] at a
    rw [show ((1085102592571150095 : Nat) : Int) = 1085102592571150095 from rfl, ← w _ b3, Int.natCast_add, Int.natCast_ediv] at a
    exact a
  have hbl : (bitsL s).length = pc 64 s := by unfold bitsL bitsN pc; rw [List.length_map]
  unfold bits_Count.f bits_OnesCount64.f
  simp only [e1, e2, e3, Option.bind_some]
  rw [hbl, hp]
  clear e1 e2 e3 h1 h2 h3 b1 b2 b3 hp hbl h
  obtain ⟨y1, y2, y3, hy1, hy2, hy3, b1, b2, b3, hm⟩ := HX.out
  have d1 : IntKind.u64.wrap ((x3 : Int) + (x3 : Int) / 256) = (y1 : Int) := by
    rw [← w y1 (by clear hy1 hy2 hy3 hm; omega), ← hy1, Int.natCast_add, Int.natCast_ediv]; rfl
  have d2 : IntKind.u64.wrap ((y1 : Int) + (y1 : Int) / 65536) = (y2 : Int) := by
    rw [← w y2 (by clear hy1 hy2 hy3 hm; omega), ← hy2, Int.natCast_add, Int.natCast_ediv]; rfl
  have d3 : IntKind.u64.wrap ((y2 : Int) + (y2 : Int) / 4294967296) = (y3 : Int) := by
    rw [← w y3 (by clear hy1 hy2 hy3 hm; omega), ← hy3, Int.natCast_add, Int.natCast_ediv]; rfl
  simp only [d1, d2, d3]
  clear d1 d2 d3 hy1 hy2 hy3
  have hz : wrap64 (y3 : Int) = (y3 : Int) := by unfold wrap64; clear hm; omega
  have ha := bits_and_i64_nat y3 127 (by clear hm; omega) (by decide)
  rw [show ((127 : Nat) : Int) = 127 from rfl] at ha
  rw [hz, ha, show (127 : Nat) = 2 ^ 7 - 1 from rfl, Nat.and_two_pow_sub_one_eq_mod, show (2 : Nat) ^ 7 = 128 from rfl, hm]

end Go.Proofs.YtnhejenjpomhdaaDoor.Bits
