/- Proved: facts on binary floating point words of 64 bits: their order, their sums with zero, whole numbers among them; the conditions stand in the statements. -/
import Derived.Laws.FloatBits
namespace Go.Proofs.Ytikmjecjolppdaa.Fl
open Ieee

abbrev F : Format := Ieee.double
/-- The rung, the sign. -/
def rg (a : Nat) : Nat := a % 9223372036854775808
def sg (a : Nat) : Bool := a / 9223372036854775808 % 2 == 1
def b52 : Nat := 4503599627370496
def infR : Nat := 9218868437227405312
theorem b52_eq : b52 = 2 ^ 52 := by decide
theorem binade_eq : F.binade = b52 := by decide
theorem infR_eq : F.infRung = infR := by decide
theorem sw_eq : F.signWeight = 9223372036854775808 := by decide
theorem lp_eq : F.leastPlace = -1074 := by decide
theorem rg_lt (a : Nat) : rg a < 9223372036854775808 := Nat.mod_lt _ (by decide)

theorem read_eq (a : Nat) : F.read a = if rg a < b52 then .number (sg a) (rg a) (-1074) else if rg a < infR then .number (sg a) (b52 + rg a % b52) (-1074 + ((rg a / b52 - 1 : Nat) : Int)) else if rg a = infR then .infinity (sg a) else .nan (sg a) (rg a - infR) := by
  unfold Format.read
  rw [binade_eq, infR_eq, sw_eq, lp_eq]
  rfl

def nanB (a : Nat) : Bool := decide (infR < rg a)
theorem nan_read (a : Nat) : (F.read a).isNaN = nanB a := by
  rw [read_eq]
  unfold nanB
  have h : b52 < infR := by decide
  split
  · have : ¬ infR < rg a := by omega
    simp [Datum.isNaN, this]
  · split
    · have : ¬ infR < rg a := by omega
      simp [Datum.isNaN, this]
    · split
      · have : ¬ infR < rg a := by omega
        simp [Datum.isNaN, this]
      · have : infR < rg a := by omega
        simp [Datum.isNaN, this]

/-- A rung's magnitude, in units of the least one. -/
def mg (r : Nat) : Nat := if r < b52 then r else (b52 + r % b52) * 2 ^ (r / b52 - 1)
theorem mg_zero : mg 0 = 0 := rfl
theorem mg_lt {r r' : Nat} (h : r < r') : mg r < mg r' := by
  unfold mg
  have hb : 0 < b52 := by decide
  by_cases h1 : r' < b52
  · rw [if_pos (by omega), if_pos h1]; exact h
  · rw [if_neg h1]
    have hp : 0 < 2 ^ (r' / b52 - 1) := Nat.two_pow_pos _
    by_cases h2 : r < b52
    · rw [if_pos h2]
      have : b52 * 1 ≤ (b52 + r' % b52) * 2 ^ (r' / b52 - 1) := Nat.mul_le_mul (by omega) hp
      omega
    · rw [if_neg h2]
      have e1 := Nat.div_add_mod r b52
      have e2 := Nat.div_add_mod r' b52
      have m1 := Nat.mod_lt r hb
      have m2 := Nat.mod_lt r' hb
      have q1 : 1 ≤ r / b52 := (Nat.le_div_iff_mul_le hb).2 (by omega)
      have q2 : r / b52 ≤ r' / b52 := Nat.div_le_div_right (by omega)
      by_cases h3 : r / b52 = r' / b52
      · rw [h3] at e1 ⊢
        exact Nat.mul_lt_mul_of_pos_right (by omega) hp
      · obtain ⟨d, hd⟩ : ∃ d, r' / b52 - 1 = (r / b52 - 1) + 1 + d := ⟨r' / b52 - 1 - (r / b52 - 1) - 1, by omega⟩
        rw [hd, Nat.pow_add, Nat.pow_succ]
        have hP : 0 < 2 ^ (r / b52 - 1) := Nat.two_pow_pos _
        have hD : 0 < 2 ^ d := Nat.two_pow_pos _
        generalize 2 ^ (r / b52 - 1) = P at hP ⊢
        generalize 2 ^ d = D at hD ⊢
        have a1 : (b52 + r % b52) * P < (2 * b52) * P := Nat.mul_lt_mul_of_pos_right (by omega) hP
        have a2 : b52 * (P * 2 * 1) ≤ (b52 + r' % b52) * (P * 2 * D) := Nat.mul_le_mul (by omega) (Nat.mul_le_mul_left _ hD)
        have a3 : (2 * b52) * P = b52 * (P * 2 * 1) := by rw [Nat.mul_one, Nat.mul_comm 2 b52, Nat.mul_assoc, Nat.mul_comm 2 P]
        omega
theorem mg_iff (r r' : Nat) : mg r < mg r' ↔ r < r' := by
  constructor
  · intro h
    rcases Nat.lt_trichotomy r r' with h1 | h1 | h1
    · exact h1
    · subst h1; omega
    · have := mg_lt h1; omega
  · exact mg_lt
theorem mg_inj (r r' : Nat) : mg r = mg r' ↔ r = r' := by
  have := mg_iff r r'
  have := mg_iff r' r
  constructor
  · intro h; omega
  · rintro rfl; rfl

/-- What a word that is a number stands for, in units of the least one; its place among the words. -/
def sv (a : Nat) : Int := if sg a = true then -(mg (rg a) : Int) else mg (rg a)
def kv (a : Nat) : Int := if sg a = true then -(rg a : Int) else rg a
theorem sv_lt (a b : Nat) : sv a < sv b ↔ kv a < kv b := by
  have h1 := mg_iff (rg a) (rg b)
  have h2 := mg_iff (rg b) (rg a)
  have h3 := mg_iff 0 (rg a)
  have h4 := mg_iff 0 (rg b)
  rw [mg_zero] at h3 h4
  unfold sv kv
  split <;> split <;> omega
theorem sv_eq (a b : Nat) : sv a = sv b ↔ kv a = kv b := by
  have h1 := sv_lt a b
  have h2 := sv_lt b a
  omega

/-- A number that is read. -/
theorem read_num {a : Nat} (h : rg a < infR) : ∃ m i, F.read a = .number (sg a) m i ∧ -1074 ≤ i ∧ i ≤ 971 ∧ m < 9007199254740992 ∧ m * 2 ^ (i + 1074).toNat = mg (rg a) := by
  rw [read_eq]
  have hb : 0 < b52 := by decide
  unfold mg
  by_cases h1 : rg a < b52
  · rw [if_pos h1, if_pos h1]
    have : b52 = 4503599627370496 := rfl
    exact ⟨_, _, rfl, by omega, by omega, by omega, by simp⟩
  · rw [if_neg h1, if_neg h1, if_pos h]
    have m1 := Nat.mod_lt (rg a) hb
    have hq : rg a / b52 < 2047 := (Nat.div_lt_iff_lt_mul hb).2 (by have : infR = 2047 * b52 := by decide
                                                                    omega)
    have : b52 = 4503599627370496 := rfl
    refine ⟨_, _, rfl, by omega, by omega, by omega, ?_⟩
    congr 2
    omega
theorem read_inf {a : Nat} (h : rg a = infR) : F.read a = .infinity (sg a) := by
  rw [read_eq, if_neg (by rw [h]; decide), if_neg (by omega), if_pos h]

theorem cmp_congr {x y x' y' : Int} (h1 : x < y ↔ x' < y') (h2 : x = y ↔ x' = y') : compare x y = compare x' y' := by
  show compareOfLessAndEq x y = compareOfLessAndEq x' y'
  unfold compareOfLessAndEq
  by_cases a : x < y
  · rw [if_pos a, if_pos (h1.1 a)]
  · rw [if_neg a, if_neg (fun h => a (h1.2 h))]
    by_cases b : x = y
    · rw [if_pos b, if_pos (h2.1 b)]
    · rw [if_neg b, if_neg (fun h => b (h2.2 h))]

theorem signed_scale (s : Bool) (m u q : Nat) : signed s m u * (q : Int) = if s = true then -((m * 2 ^ u * q : Nat) : Int) else ((m * 2 ^ u * q : Nat) : Int) := by
  unfold signed
  rw [Nat.shiftLeft_eq]
  cases s
  · simp
  · simp [Int.neg_mul]

theorem signed_sv {a m : Nat} {i base : Int} (hb : -1074 ≤ base) (hi : base ≤ i) (hm : m * 2 ^ (i + 1074).toNat = mg (rg a)) : signed (sg a) m (i - base).toNat * ((2 ^ (base + 1074).toNat : Nat) : Int) = sv a := by
  rw [signed_scale, Nat.mul_assoc, ← Nat.pow_add, show (i - base).toNat + (base + 1074).toNat = (i + 1074).toNat by omega, hm]
  rfl

theorem compare_ne {x y : Int} (h : x < y) : compare x y = .lt := by
  show compareOfLessAndEq x y = _
  unfold compareOfLessAndEq
  rw [if_pos h]
theorem compare_gt {x y : Int} (h : y < x) : compare x y = .gt := by
  show compareOfLessAndEq x y = _
  unfold compareOfLessAndEq
  rw [if_neg (by omega), if_neg (by omega)]
theorem compare_eq {x y : Int} (h : x = y) : compare x y = .eq := by
  show compareOfLessAndEq x y = _
  unfold compareOfLessAndEq
  rw [if_neg (by omega), if_pos h]

theorem order_nan {a b : Nat} (h : nanB a = true ∨ nanB b = true) : F.order a b = none := by
  rw [← nan_read, ← nan_read] at h
  unfold Format.order
  generalize F.read a = x at h ⊢
  generalize F.read b = y at h ⊢
  cases x <;> cases y <;> first | rfl | (simp [Datum.isNaN] at h; done)

theorem rg_le {a : Nat} (h : nanB a = false) : rg a ≤ infR := by
  have := of_decide_eq_false h
  omega

/-- The order of numbers is that of their places. -/
theorem order_eq {a b : Nat} (ha : nanB a = false) (hb : nanB b = false) : F.order a b = some (compare (kv a) (kv b)) := by
  have ha := rg_le ha
  have hb := rg_le hb
  have hI : 0 < infR := by decide
  unfold Format.order
  by_cases h1 : rg a = infR
  · rw [read_inf h1]
    by_cases h2 : rg b = infR
    · rw [read_inf h2]
      show some (compare (sg b).toNat (sg a).toNat) = _
      unfold kv
      rw [h1, h2]
      generalize infR = I at hI ⊢
      cases sg a <;> cases sg b
      · show some (compare (0 : Nat) 0) = some (compare (I : Int) (I : Int))
        rw [compare_eq rfl]; rfl
      · show some (compare (1 : Nat) 0) = some (compare (I : Int) (-(I : Int)))
        rw [compare_gt (by omega)]; rfl
      · show some (compare (0 : Nat) 1) = some (compare (-(I : Int)) (I : Int))
        rw [compare_ne (by omega)]; rfl
      · show some (compare (1 : Nat) 1) = some (compare (-(I : Int)) (-(I : Int)))
        rw [compare_eq rfl]; rfl
    · obtain ⟨m, i, hr, _⟩ := read_num (a := b) (by omega)
      rw [hr]
      show some (if sg a = true then Ordering.lt else .gt) = _
      unfold kv
      rw [h1]
      cases sg a <;> cases sg b <;> simp only [if_true, if_false, Bool.false_eq_true]
      · rw [compare_gt (by omega)]
      · rw [compare_gt (by omega)]
      · rw [compare_ne (by omega)]
      · rw [compare_ne (by omega)]
  · obtain ⟨m, i, hr, hi, _, _, hm⟩ := read_num (a := a) (by omega)
    rw [hr]
    by_cases h2 : rg b = infR
    · rw [read_inf h2]
      show some (if sg b = true then Ordering.gt else .lt) = _
      unfold kv
      rw [h2]
      cases sg a <;> cases sg b <;> simp only [if_true, if_false, Bool.false_eq_true]
      · rw [compare_ne (by omega)]
      · rw [compare_gt (by omega)]
      · rw [compare_ne (by omega)]
      · rw [compare_gt (by omega)]
    · obtain ⟨n, j, hs, hj, _, _, hn⟩ := read_num (a := b) (by omega)
      rw [hs]
      show some (compare (signed (sg a) m (i - min i j).toNat) (signed (sg b) n (j - min i j).toNat)) = _
      congr 1
      have e1 := signed_sv (a := a) (base := min i j) (by omega) (by omega) hm
      have e2 := signed_sv (a := b) (base := min i j) (by omega) (by omega) hn
      have hq : (0 : Int) < ((2 ^ (min i j + 1074).toNat : Nat) : Int) := Int.natCast_pos.2 (Nat.two_pow_pos _)
      generalize ((2 ^ (min i j + 1074).toNat : Nat) : Int) = q at e1 e2 hq
      refine cmp_congr ?_ ?_
      · rw [← sv_lt, ← e1, ← e2]
        exact (Int.mul_lt_mul_right hq).symm
      · rw [← sv_eq, ← e1, ← e2]
        exact (Int.mul_eq_mul_right_iff (by omega)).symm

/-! ### The comparisons -/
def ltF (a b : Nat) : Bool := F.order a b == some .lt
def gtF (a b : Nat) : Bool := F.order a b == some .gt
def eqF (a b : Nat) : Bool := F.order a b == some .eq
def neF (a b : Nat) : Bool := F.order a b != some .eq
def leF (a b : Nat) : Bool := F.order a b == some .lt || F.order a b == some .eq
def geF (a b : Nat) : Bool := F.order a b == some .gt || F.order a b == some .eq
section
variable {a b : Nat}
theorem lt_is (ha : nanB a = false) (hb : nanB b = false) : ltF a b = decide (kv a < kv b) := by
  unfold ltF
  rw [order_eq ha hb]
  rcases Int.lt_trichotomy (kv a) (kv b) with h | h | h
  · rw [compare_ne h]; simp [h]
  · rw [compare_eq h]; simp [h]
  · rw [compare_gt h]; simp; omega
theorem gt_is (ha : nanB a = false) (hb : nanB b = false) : gtF a b = decide (kv b < kv a) := by
  unfold gtF
  rw [order_eq ha hb]
  rcases Int.lt_trichotomy (kv a) (kv b) with h | h | h
  · rw [compare_ne h]; simp; omega
  · rw [compare_eq h]; simp [h]
  · rw [compare_gt h]; simp [h]
theorem eq_is (ha : nanB a = false) (hb : nanB b = false) : eqF a b = decide (kv a = kv b) := by
  unfold eqF
  rw [order_eq ha hb]
  rcases Int.lt_trichotomy (kv a) (kv b) with h | h | h
  · rw [compare_ne h]; simp; omega
  · rw [compare_eq h]; simp [h]
  · rw [compare_gt h]; simp; omega
theorem ne_is : neF a b = !eqF a b := rfl
theorem le_is (ha : nanB a = false) (hb : nanB b = false) : leF a b = decide (kv a ≤ kv b) := by
  have h1 := lt_is ha hb
  have h2 := eq_is ha hb
  unfold leF
  unfold ltF at h1
  unfold eqF at h2
  rw [h1, h2]
  rw [Bool.eq_iff_iff, Bool.or_eq_true, decide_eq_true_eq, decide_eq_true_eq, decide_eq_true_eq]
  omega
theorem ge_is (ha : nanB a = false) (hb : nanB b = false) : geF a b = decide (kv b ≤ kv a) := by
  have h1 := gt_is ha hb
  have h2 := eq_is ha hb
  unfold geF
  unfold gtF at h1
  unfold eqF at h2
  rw [h1, h2]
  rw [Bool.eq_iff_iff, Bool.or_eq_true, decide_eq_true_eq, decide_eq_true_eq, decide_eq_true_eq]
  omega
theorem lt_nan (h : nanB a = true ∨ nanB b = true) : ltF a b = false := by unfold ltF; rw [order_nan h]; rfl
theorem gt_nan (h : nanB a = true ∨ nanB b = true) : gtF a b = false := by unfold gtF; rw [order_nan h]; rfl
theorem eq_nan (h : nanB a = true ∨ nanB b = true) : eqF a b = false := by unfold eqF; rw [order_nan h]; rfl
theorem le_nan (h : nanB a = true ∨ nanB b = true) : leF a b = false := by unfold leF; rw [order_nan h]; rfl
theorem ge_nan (h : nanB a = true ∨ nanB b = true) : geF a b = false := by unfold geF; rw [order_nan h]; rfl
theorem ne_self (a : Nat) : neF a a = nanB a := by
  rw [ne_is]
  cases h : nanB a
  · rw [eq_is h h]; simp
  · rw [eq_nan (.inl h)]; rfl
end
end Go.Proofs.Ytikmjecjolppdaa.Fl
