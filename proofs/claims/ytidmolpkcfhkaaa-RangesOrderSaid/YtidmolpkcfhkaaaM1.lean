/- Plain law: numbers as bytes. -/
import Derived.Test.YtidmolpkcfhkaaaK12
namespace Go.Proofs.Ytidmolpkcfhkaaa
set_option linter.unusedSectionVars false
set_option linter.unusedVariables false
set_option linter.unusedSimpArgs false
open Go

def maxV : Int := 4611686018427387903
def sizeM (x : Int) : Nat := if x < 0 ∨ 4611686018427387903 < x then 0 else if x < 64 then 1 else if x < 16384 then 2 else if x < 1073741824 then 4 else 8
def markM (n : Nat) : Int := if n = 2 then 64 else if n = 4 then 128 else if n = 8 then 192 else 0
def be : Nat → Int → List Int
  | 0, _ => []
  | r + 1, x => x / 256 ^ r % 256 :: be r x
def putM (x : Int) : List Int := match be (sizeM x) x with
  | [] => []
  | b :: r => (b + markM (sizeM x)) :: r
def szOf (b : Int) : Nat := if b < 64 then 1 else if b < 128 then 2 else if b < 192 then 4 else 8
def num : Int → List Int → Int
  | v, [] => v
  | v, b :: r => num (v * 256 + b) r
def takeM : List Int → Int × Nat × Bool
  | [] => (0, 0, false)
  | b :: r => if r.length + 1 < szOf b then (0, 0, false) else
    if sizeM (num (b % 64) (r.take (szOf b - 1))) = szOf b then (num (b % 64) (r.take (szOf b - 1)), szOf b, true) else (0, 0, false)
def Bytes (xs : List Int) : Prop := ∀ x ∈ xs, 0 ≤ x ∧ x ≤ 255

theorem be_len : ∀ (r : Nat) (x : Int), (be r x).length = r
  | 0, _ => rfl
  | r + 1, x => by simp [be, be_len r x]
theorem be_bytes : ∀ (r : Nat) (x : Int), Bytes (be r x)
  | 0, _ => by simp [be, Bytes]
  | r + 1, x => by
    intro y hy
    simp only [be, List.mem_cons] at hy
    rcases hy with rfl | hy
    · constructor
      · exact Int.emod_nonneg _ (by omega)
      · have := Int.emod_lt_of_pos (x / 256 ^ r) (show (0 : Int) < 256 by omega); omega
    · exact be_bytes r x y hy
theorem pow_pos' (r : Nat) : (0 : Int) < 256 ^ r := Int.pow_pos (by omega)
theorem num_app : ∀ (xs ys : List Int) (v : Int), num v (xs ++ ys) = num (num v xs) ys
  | [], _, _ => rfl
  | x :: xs, ys, v => by simp only [List.cons_append, num, num_app xs ys]
theorem num_lin : ∀ (xs : List Int) (v : Int), num v xs = v * 256 ^ xs.length + num 0 xs
  | [], v => by simp [num]
  | x :: xs, v => by
    simp only [num, List.length_cons]
    rw [num_lin xs (v * 256 + x), num_lin xs (0 * 256 + x), Int.pow_succ]
    have : (v * 256 + x) * 256 ^ xs.length = v * (256 ^ xs.length * 256) + x * 256 ^ xs.length := by
      rw [Int.add_mul, Int.mul_assoc, Int.mul_comm 256]
    rw [this]; simp
    try omega
theorem num_bd : ∀ {xs : List Int}, Bytes xs → 0 ≤ num 0 xs ∧ num 0 xs < 256 ^ xs.length
  | [], _ => by simp [num]
  | x :: xs, h => by
    have h1 := h x (by simp)
    have h2 := num_bd (xs := xs) fun y hy => h y (by simp [hy])
    simp only [num, List.length_cons]
    rw [num_lin xs, Int.pow_succ]
    have hp := pow_pos' xs.length
    constructor
    · have : 0 ≤ (0 * 256 + x) * 256 ^ xs.length := Int.mul_nonneg (by omega) (by omega)
      omega
    · have : (0 * 256 + x) * 256 ^ xs.length ≤ 255 * 256 ^ xs.length := Int.mul_le_mul_of_nonneg_right (by omega) (by omega)
      omega
theorem be_num : ∀ {xs : List Int}, Bytes xs → ∀ v, be xs.length (num v xs) = xs
  | [], _, v => rfl
  | x :: xs, h, v => by
    have h1 := h x (by simp)
    have h2 : Bytes xs := fun y hy => h y (by simp [hy])
    have hb := num_bd h2
    have hp := pow_pos' xs.length
    simp only [num, List.length_cons, be, be_num h2]
    congr 1
    rw [num_lin xs, Int.add_comm, Int.add_mul_ediv_right _ _ (by omega), Int.ediv_eq_zero_of_lt hb.1 hb.2]
    omega
theorem num_be (x : Int) : ∀ (r : Nat), num 0 (be r x) = x % 256 ^ r
  | 0 => by simp [be, num]
  | r + 1 => by
    simp only [be, num]
    rw [num_lin, be_len, num_be x r]
    have hp := pow_pos' r
    have h1 := Int.mul_ediv_add_emod x (256 ^ r)
    have h2 := Int.mul_ediv_add_emod (x / 256 ^ r) 256
    have h4 := Int.emod_lt_of_pos (x / 256 ^ r) (show (0 : Int) < 256 by omega)
    have h5 := Int.emod_nonneg (x / 256 ^ r) (show (256 : Int) ≠ 0 by omega)
    have h6 := Int.emod_lt_of_pos x hp
    have h7 := Int.emod_nonneg x (show (256 ^ r : Int) ≠ 0 by omega)
    generalize hq : x / 256 ^ r / 256 = q at h2
    generalize hd : x / 256 ^ r % 256 = d at h2 h4 h5 ⊢
    generalize hm : x % 256 ^ r = m at h1 h6 h7 ⊢
    generalize hy : x / 256 ^ r = y at h1 h2
    rw [← h2] at h1
    have h3 : x = (d * 256 ^ r + m) + (256 ^ r * 256) * q := by
      rw [← h1, Int.mul_add, Int.mul_assoc, Int.mul_comm d]; omega
    rw [Int.pow_succ, h3, Int.add_mul_emod_self_left, Int.emod_eq_of_lt]
    · simp
    · have : 0 ≤ d * 256 ^ r := Int.mul_nonneg h5 (by omega)
      omega
    · have : d * 256 ^ r ≤ 255 * 256 ^ r := Int.mul_le_mul_of_nonneg_right (by omega) (by omega)
      omega

theorem size_cases (x : Int) : (sizeM x = 0 ∧ (x < 0 ∨ 4611686018427387903 < x)) ∨ (sizeM x = 1 ∧ 0 ≤ x ∧ x < 64) ∨ (sizeM x = 2 ∧ 64 ≤ x ∧ x < 16384) ∨ (sizeM x = 4 ∧ 16384 ≤ x ∧ x < 1073741824) ∨ (sizeM x = 8 ∧ 1073741824 ≤ x ∧ x ≤ 4611686018427387903) := by
  unfold sizeM
  split
  · exact .inl ⟨rfl, ‹_›⟩
  · split
    · exact .inr (.inl ⟨rfl, by omega, by omega⟩)
    · split
      · exact .inr (.inr (.inl ⟨rfl, by omega, by omega⟩))
      · split
        · exact .inr (.inr (.inr (.inl ⟨rfl, by omega, by omega⟩)))
        · exact .inr (.inr (.inr (.inr ⟨rfl, by omega, by omega⟩)))
theorem put_len (x : Int) : (putM x).length = sizeM x := by
  have := be_len (sizeM x) x
  unfold putM
  split <;> rename_i h <;> rw [h] at this <;> simpa using this
theorem put_zero {x : Int} (h : sizeM x = 0) : putM x = [] := by
  have := put_len x
  rw [h] at this
  exact List.eq_nil_of_length_eq_zero this
/-- The first byte and the others. -/
theorem put_cons {x : Int} {r : Nat} (h : sizeM x = r + 1) : putM x = (x / 256 ^ r % 256 + markM (r + 1)) :: be r x := by
  unfold putM
  rw [h]; rfl
/-- The first byte of a number holds its digit and its mark. -/
theorem first {x : Int} {r : Nat} (h : sizeM x = r + 1) : 0 ≤ x / 256 ^ r % 256 ∧ x / 256 ^ r % 256 < 64 ∧ x = (x / 256 ^ r % 256) * 256 ^ r + x % 256 ^ r ∧ szOf (x / 256 ^ r % 256 + markM (r + 1)) = r + 1 := by
  rcases size_cases x with ⟨h2, h3⟩ | ⟨h2, h3, h4⟩ | ⟨h2, h3, h4⟩ | ⟨h2, h3, h4⟩ | ⟨h2, h3, h4⟩ <;> rw [h] at h2
  · omega
  all_goals (rcases (show r = 0 ∨ r = 1 ∨ r = 3 ∨ r = 7 by omega) with h9 | h9 | h9 | h9 <;> first | (exfalso; omega) | subst h9)
  all_goals (simp only [Int.reducePow, markM, szOf])
  all_goals (refine ⟨by omega, by omega, by omega, ?_⟩)
  all_goals (simp only [Nat.reduceAdd, Nat.reduceEqDiff, if_false, if_true, reduceIte])
  all_goals (repeat' split)
  all_goals omega
theorem put_bytes (x : Int) : Bytes (putM x) := by
  rcases hr : sizeM x with _ | r
  · rw [put_zero hr]; intro y hy; simp at hy
  · rw [put_cons hr]
    intro y hy
    rcases List.mem_cons.1 hy with rfl | hy
    · have := first hr
      have hm : 0 ≤ markM (r + 1) ∧ markM (r + 1) ≤ 192 := by
        unfold markM
        repeat' split
        all_goals omega
      omega
    · exact be_bytes _ _ y hy
theorem take_put {x : Int} {r : Nat} (h : sizeM x = r + 1) (rest : List Int) : takeM (putM x ++ rest) = (x, r + 1, true) := by
  have hf := first h
  rw [put_cons h]
  have hm : (x / 256 ^ r % 256 + markM (r + 1)) % 64 = x / 256 ^ r % 256 := by
    have : markM (r + 1) % 64 = 0 := by
      unfold markM
      repeat' split
      all_goals omega
    omega
  have hn : num (x / 256 ^ r % 256) (be r x) = x := by
    rw [num_lin, be_len, num_be]; omega
  simp only [List.cons_append, takeM, hf.2.2.2, List.length_append, be_len]
  rw [if_neg (by omega), hm, show (be r x ++ rest).take (r + 1 - 1) = be r x from by rw [List.take_append_of_le_length (by rw [be_len]; omega), List.take_of_length_le (by rw [be_len]; omega)], hn, if_pos h]
theorem szOf_pos (b : Int) : 1 ≤ szOf b ∧ szOf b ≤ 8 := by 
  unfold szOf
  repeat' split
  all_goals omega
/-- What was read is what is put. -/
theorem put_take {b : Int} {r : List Int} (hb : Bytes (b :: r)) (hl : szOf b ≤ r.length + 1) :
    (putM (num (b % 64) (r.take (szOf b - 1))) = (b :: r).take (szOf b)) ↔ sizeM (num (b % 64) (r.take (szOf b - 1))) = szOf b := by
  obtain ⟨s, hs⟩ : ∃ s, szOf b = s + 1 := ⟨szOf b - 1, by have := szOf_pos b; omega⟩
  have h0 := hb b (by simp)
  have hr : Bytes (r.take s) := fun y hy => hb y (by simp [List.mem_of_mem_take hy])
  have hrl : (r.take s).length = s := by simp; omega
  rw [hs]
  simp only [Nat.add_sub_cancel, List.take_succ_cons]
  constructor
  · intro h
    have := congrArg List.length h
    rw [put_len] at this
    simpa [hrl] using this
  · intro h
    rw [put_cons h]
    have hbe := be_num hr (b % 64)
    rw [hrl] at hbe
    rw [hbe]
    congr 1
    have hbd := num_bd hr
    rw [hrl] at hbd
    have hp := pow_pos' s
    rw [num_lin, hrl, Int.add_comm (b % 64 * 256 ^ s), Int.add_mul_ediv_right _ _ (by omega), Int.ediv_eq_zero_of_lt hbd.1 hbd.2]
    unfold szOf at hs
    unfold markM
    repeat' split at hs
    all_goals (subst_vars; simp only [Nat.reduceEqDiff, Nat.succ_ne_zero, if_false, if_true, reduceIte] at *)
    all_goals first | omega | skip
    all_goals (rcases (show s = 0 ∨ s = 1 ∨ s = 3 ∨ s = 7 by omega) with h9 | h9 | h9 | h9 <;> first | (exfalso; omega) | subst h9)
    all_goals (simp; omega)

theorem put300 : putM 300 = [65, 44] := by decide
/- Bits. -/
theorem wrap_self {k : IntKind} {n : Int} (h : inR k n) : k.wrap n = n := h.wrap
theorem pos_lt {k : IntKind} {n : Int} (h : inR k n) : n < 2 ^ k.bits := by
  cases k <;> simp only [inR] at h <;> simp only [IntKind.bits, Int.reducePow] <;> omega
theorem ofInt_nat {k : IntKind} {n : Int} (h0 : 0 ≤ n) (h : inR k n) : (BitVec.ofInt k.bits n).toNat = n.toNat := by
  rw [BitVec.toNat_ofInt]
  have := pos_lt h
  rw [Int.emod_eq_of_lt h0 (by simpa using this)]
theorem bits_or {k : IntKind} {a b : Int} (s : Nat) (ha : 0 ≤ a) (hb : 0 ≤ b ∧ b < 2 ^ s) (h : inR k (2 ^ s * a + b)) (h2 : inR k (2 ^ s * a)) (h3 : inR k b) : bitsOf .or k (2 ^ s * a) b = 2 ^ s * a + b := by
  unfold bitsOf
  have hm : 0 ≤ 2 ^ s * a := Int.mul_nonneg (Int.pow_nonneg (by omega)) ha
  simp only [BitVec.toNat_or, ofInt_nat hm h2, ofInt_nat hb.1 h3]
  obtain ⟨a, rfl⟩ := Int.eq_ofNat_of_zero_le ha
  obtain ⟨b, rfl⟩ := Int.eq_ofNat_of_zero_le hb.1
  have e1 : (2 ^ s * (a : Int)).toNat = 2 ^ s * a := by
    rw [show (2 ^ s * (a : Int)) = ((2 ^ s * a : Nat) : Int) from by simp]; exact Int.toNat_natCast _
  rw [e1, Int.toNat_natCast, ← Nat.two_pow_add_eq_or_of_lt (by have := hb.2; exact_mod_cast this)]
  have : ((2 ^ s * a + b : Nat) : Int) = 2 ^ s * (a : Int) + b := by simp
  rw [this]
  exact h.wrap
theorem bits_and {k : IntKind} {a : Int} (s : Nat) (ha : 0 ≤ a) (h : inR k a) (h3 : inR k (2 ^ s - 1)) : bitsOf .and k a (2 ^ s - 1) = a % 2 ^ s := by
  unfold bitsOf
  have hp : (0 : Int) < 2 ^ s := Int.pow_pos (by omega)
  simp only [BitVec.toNat_and, ofInt_nat ha h, ofInt_nat (show 0 ≤ (2 : Int) ^ s - 1 by omega) h3]
  obtain ⟨a, rfl⟩ := Int.eq_ofNat_of_zero_le ha
  have e1 : ((2 : Int) ^ s - 1).toNat = 2 ^ s - 1 := by
    have : ((2 : Int) ^ s - 1) = ((2 ^ s - 1 : Nat) : Int) := by rw [Int.ofNat_sub Nat.one_le_two_pow]; simp
    rw [this]; exact Int.toNat_natCast _
  rw [e1, Int.toNat_natCast, Nat.and_two_pow_sub_one_eq_mod]
  have e2 : ((a % 2 ^ s : Nat) : Int) = (a : Int) % 2 ^ s := by simp
  rw [e2]
  have h5 := Int.emod_nonneg (a : Int) (show (2 : Int) ^ s ≠ 0 by omega)
  have h6 : (a : Int) % 2 ^ s ≤ a := by
    have := Int.emod_lt_of_pos (a : Int) hp
    rcases Int.lt_or_le (a : Int) (2 ^ s) with h7 | h7
    · rw [Int.emod_eq_of_lt ha h7]; omega
    · omega
  refine inR.wrap ?_
  cases k <;> simp only [inR] at h ⊢ <;> omega
end Go.Proofs.Ytidmolpkcfhkaaa
