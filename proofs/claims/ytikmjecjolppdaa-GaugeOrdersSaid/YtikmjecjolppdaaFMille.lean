/- Proved: whole numbers among words: what is rounded down, what is cut towards zero, what comes of a whole number; and a number plus zero; the conditions stand in the statements. -/
import Derived.Test.YtikmjecjolppdaaFLaw
import Derived.Laws.FloatArith
set_option linter.unusedVariables false
set_option linter.unusedSimpArgs false
namespace Go.Proofs.Ytikmjecjolppdaa.Fl
open Ieee

def P2 (k : Nat) : Nat := 2 ^ k
theorem P2_pos (k : Nat) : 0 < P2 k := Nat.two_pow_pos _
theorem U_is : ∃ u : Nat, u = P2 1074 := ⟨_, rfl⟩
noncomputable def U : Nat := Classical.choose U_is
theorem U_eq : U = P2 1074 := Classical.choose_spec U_is
def IsU (K : Nat) : Prop := U = P2 K
theorem U_ex : ∃ K : Nat, K = 1074 ∧ IsU K := ⟨1074, rfl, U_eq⟩
theorem U_pos : 0 < U := by rw [U_eq]; exact P2_pos _
theorem b52_pos : 0 < b52 := by decide
theorem shl (n k : Nat) : n <<< k = n * 2 ^ k := Nat.shiftLeft_eq n k

/-- Nothing is cut off where nothing is there. -/
theorem cut_exact (way : Toward) (neg : Bool) (m k : Nat) : way.cut neg (m * 2 ^ k) k = m := by
  have key : (m * 2 ^ k) / (1 <<< min k ((m * 2 ^ k).log2 + 2)) = m ∧ (m * 2 ^ k) % (1 <<< min k ((m * 2 ^ k).log2 + 2)) = 0 := by
    by_cases h0 : m = 0
    · subst h0; simp
    · have h1 : k ≤ (m * 2 ^ k).log2 := (Nat.le_log2 (by have := Nat.two_pow_pos k; exact Nat.mul_ne_zero h0 (by omega))).2 (Nat.le_mul_of_pos_left _ (by omega))
      rw [Nat.min_eq_left (by omega), shl, Nat.one_mul]
      exact ⟨Nat.mul_div_cancel _ (Nat.two_pow_pos _), Nat.mul_mod_left _ _⟩
  have hg : 0 < 1 <<< min k ((m * 2 ^ k).log2 + 2) := by rw [shl, Nat.one_mul]; exact Nat.two_pow_pos _
  unfold Toward.cut
  dsimp only
  rw [key.1, key.2]
  generalize 1 <<< min k ((m * 2 ^ k).log2 + 2) = g at hg
  have e1 : decide (g < 2 * 0) = false := decide_eq_false (by omega)
  have e2 : (g == 2 * 0) = false := by rw [beq_eq_false_iff_ne]; omega
  cases way <;> simp [e1, e2] <;> omega

theorem cut_scale (neg : Bool) (n d k : Nat) (h : n ≠ 0) : Toward.even.cut neg (n * 2 ^ k) (d + k) = Toward.even.cut neg n d := by
  have hk := Nat.two_pow_pos k
  have hl : (n * 2 ^ k).log2 = n.log2 + k := by
    have h1 := Nat.log2_self_le h
    have h2 := Nat.lt_log2_self (n := n)
    have h3 : n * 2 ^ k ≠ 0 := Nat.mul_ne_zero h (by omega)
    apply Nat.le_antisymm
    · have : (n * 2 ^ k).log2 < n.log2 + k + 1 := (Nat.log2_lt h3).2 (by
        rw [show n.log2 + k + 1 = n.log2 + 1 + k by omega, Nat.pow_add]
        exact Nat.mul_lt_mul_of_pos_right h2 hk)
      omega
    · exact (Nat.le_log2 h3).2 (by rw [Nat.pow_add]; exact Nat.mul_le_mul_right _ h1)
  have hg : 1 <<< min (d + k) ((n * 2 ^ k).log2 + 2) = (1 <<< min d (n.log2 + 2)) * 2 ^ k := by
    rw [hl, shl, shl, Nat.one_mul, Nat.one_mul, ← Nat.pow_add]
    congr 1
    omega
  unfold Toward.cut
  dsimp only
  rw [hg]
  generalize 1 <<< min d (n.log2 + 2) = g
  rw [Nat.mul_div_mul_right _ _ hk, Nat.mul_mod_mul_right]
  generalize n % g = r
  generalize n / g = q
  have e1 : decide (g * 2 ^ k < 2 * (r * 2 ^ k)) = decide (g < 2 * r) := decide_eq_decide.2 (by
    rw [← Nat.mul_assoc]; exact Nat.mul_lt_mul_right hk)
  have e2 : (g * 2 ^ k == 2 * (r * 2 ^ k)) = (g == 2 * r) := by
    rw [← Nat.mul_assoc, Bool.eq_iff_iff, beq_iff_eq, beq_iff_eq]
    exact ⟨fun h => Nat.eq_of_mul_eq_mul_right hk h, fun h => by rw [h]⟩
  rw [e1, e2]

theorem log2_scale (n k : Nat) (h : n ≠ 0) : (n * 2 ^ k).log2 = n.log2 + k := by
  have hk := Nat.two_pow_pos k
  have h1 := Nat.log2_self_le h
  have h2 := Nat.lt_log2_self (n := n)
  have h3 : n * 2 ^ k ≠ 0 := Nat.mul_ne_zero h (by omega)
  apply Nat.le_antisymm
  · have : (n * 2 ^ k).log2 < n.log2 + k + 1 := (Nat.log2_lt h3).2 (by
      rw [show n.log2 + k + 1 = n.log2 + 1 + k by omega, Nat.pow_add]
      exact Nat.mul_lt_mul_of_pos_right h2 hk)
    omega
  · exact (Nat.le_log2 h3).2 (by rw [Nat.pow_add]; exact Nat.mul_le_mul_right _ h1)

/-- A word hangs on what is written alone, not on how. -/
theorem nearest_scale (s : Bool) (m k : Nat) (p : Int) : F.nearest s (m * 2 ^ k) (p - k) = F.nearest s m p := by
  have hk := Nat.two_pow_pos k
  unfold Format.nearest
  by_cases h0 : m = 0
  · subst h0; simp
  · rw [if_neg (Nat.mul_ne_zero h0 (by omega)), if_neg h0, log2_scale m k h0]
    dsimp only
    rw [show p - (k : Int) + ((m.log2 + k : Nat) : Int) - (F.fractionBits : Int) = p + (m.log2 : Int) - (F.fractionBits : Int) by omega]
    generalize max (p + (m.log2 : Int) - (F.fractionBits : Int)) F.leastPlace = L
    congr 2
    congr 1
    rcases Int.le_total L p with h | h
    · rw [show (L - p).toNat = 0 by omega, shl, shl]
      have e0 := cut_exact .even s (m * 2 ^ (p - L).toNat) 0
      rw [Nat.pow_zero, Nat.mul_one] at e0
      rw [e0]
      by_cases h2 : L ≤ p - k
      · rw [show (L - (p - k)).toNat = 0 by omega]
        have e1 := cut_exact .even s (m * 2 ^ k * 2 ^ (p - k - L).toNat) 0
        rw [Nat.pow_zero, Nat.mul_one] at e1
        rw [e1, Nat.mul_assoc, ← Nat.pow_add]
        congr 2
        omega
      · rw [show (p - k - L).toNat = 0 by omega, Nat.pow_zero, Nat.mul_one]
        have e1 := cut_exact .even s (m * 2 ^ (p - L).toNat) (L - (p - k)).toNat
        rw [Nat.mul_assoc, ← Nat.pow_add, show (p - L).toNat + (L - (p - k)).toNat = k by omega] at e1
        exact e1
    · rw [show (p - k - L).toNat = 0 by omega, show (p - L).toNat = 0 by omega, shl, shl, Nat.pow_zero, Nat.mul_one, Nat.mul_one, show (L - (p - k)).toNat = (L - p).toNat + k by omega]
      exact cut_scale s m (L - p).toNat k h0

theorem log2_is {n k : Nat} (h1 : 2 ^ k ≤ n) (h2 : n < 2 ^ (k + 1)) : n.log2 = k := by
  have h0 : n ≠ 0 := by have := Nat.two_pow_pos k; omega
  have a := (Nat.le_log2 h0).2 h1
  have b := (Nat.log2_lt h0).2 h2
  omega

/-- A magnitude is written as its own rung. -/
theorem nearest_mg (s : Bool) {r : Nat} (h : r < infR) : F.nearest s (mg r) (-1074) = F.word s r := by
  unfold Format.nearest
  have hb := b52_pos
  by_cases h0 : r = 0
  · subst h0; rfl
  · have hm : mg r ≠ 0 := by have := mg_lt (r := 0) (r' := r) (by omega); rw [mg_zero] at this; omega
    rw [if_neg hm]
    dsimp only
    rw [lp_eq, binade_eq, infR_eq, show (F.fractionBits : Int) = 52 from rfl]
    by_cases h1 : r < b52
    · have e : mg r = r := if_pos h1
      rw [e]
      have hl : r.log2 ≤ 51 := by
        have := (Nat.log2_lt h0).2 (show r < 2 ^ 52 from h1)
        omega
      rw [show max ((-1074 : Int) + (r.log2 : Int) - 52) (-1074) = -1074 by omega]
      have e1 := cut_exact .even s r 0
      rw [Nat.pow_zero, Nat.mul_one] at e1
      rw [show ((-1074 : Int) - -1074).toNat = 0 from rfl, shl, Nat.pow_zero, Nat.mul_one, e1]
      congr 1
      rw [Nat.zero_mul]
      omega
    · have e : mg r = (b52 + r % b52) * 2 ^ (r / b52 - 1) := if_neg h1
      have m1 := Nat.mod_lt r hb
      have e1 := Nat.div_add_mod r b52
      have q1 : 1 ≤ r / b52 := (Nat.le_div_iff_mul_le hb).2 (by omega)
      have e52 : b52 = 2 ^ 52 := rfl
      have hl : (b52 + r % b52).log2 = 52 := log2_is (by rw [e52]; omega) (by rw [e52] at m1 ⊢; rw [Nat.pow_succ]; omega)
      rw [e, log2_scale _ _ (by omega), hl]
      generalize r / b52 = q at *
      rw [show max ((-1074 : Int) + ((52 + (q - 1) : Nat) : Int) - 52) (-1074) = -1074 + ((q - 1 : Nat) : Int) by omega, show ((-1074 : Int) - (-1074 + ((q - 1 : Nat) : Int))).toNat = 0 by omega,
        show (-1074 + ((q - 1 : Nat) : Int) - -1074).toNat = q - 1 by omega, shl, Nat.pow_zero, Nat.mul_one, cut_exact]
      congr 1
      have : (q - 1) * b52 + (b52 + r % b52) = r := by
        rw [Nat.sub_mul, Nat.one_mul]
        have : b52 * 1 ≤ b52 * q := Nat.mul_le_mul_left _ q1
        rw [Nat.mul_comm q b52]
        omega
      rw [this]
      omega
/-- A whole number that there is a rung for. -/
theorem nearest_whole (s : Bool) {r M : Nat} (h : r < infR) (hm : mg r = M * U) : F.nearest s M 0 = F.word s r := by
  obtain ⟨K, hK, hUK⟩ := U_ex
  have h1 := nearest_scale s M K 0
  have e : M * 2 ^ K = mg r := by rw [hm, show U = 2 ^ K from hUK]
  have e2 : (0 : Int) - (K : Int) = -1074 := by omega
  rw [e, e2] at h1
  rw [nearest_mg s h] at h1
  exact h1.symm
theorem rep_pow {m e : Nat} (h1 : b52 ≤ m) (h2 : m < 2 * b52) (he : e ≤ 2045) : e * b52 + m < infR ∧ mg (e * b52 + m) = m * 2 ^ e := by
  have hb := b52_pos
  have hI : infR = 2047 * b52 := by decide
  have h3 : e * b52 ≤ 2045 * b52 := Nat.mul_le_mul_right _ he
  refine ⟨by omega, ?_⟩
  have d : (e * b52 + m) / b52 = e + 1 := by
    rw [show e * b52 + m = (m - b52) + (e + 1) * b52 by rw [Nat.add_mul]; omega, Nat.add_mul_div_right _ _ hb, Nat.div_eq_of_lt (by omega)]; omega
  have r : (e * b52 + m) % b52 = m - b52 := by
    rw [show e * b52 + m = (m - b52) + (e + 1) * b52 by rw [Nat.add_mul]; omega, Nat.add_mul_mod_self_right, Nat.mod_eq_of_lt (by omega)]
  unfold mg
  rw [if_neg (by omega), d, r, show b52 + (m - b52) = m by omega, Nat.add_sub_cancel]
theorem rep {C : Nat} (h : C ≤ 9007199254740992) : ∃ r, r < infR ∧ mg r = C * U := by
  have e52 : b52 = 2 ^ 52 := rfl
  obtain ⟨K, hK, hUK⟩ := U_ex
  by_cases h0 : C = 0
  · exact ⟨0, by decide, by rw [h0, Nat.zero_mul]; rfl⟩
  · by_cases h1 : C = 9007199254740992
    · obtain ⟨a, b⟩ := rep_pow (m := b52) (e := K + 1) (Nat.le_refl _) (by decide) (by omega)
      refine ⟨_, a, ?_⟩
      rw [b, h1, show (9007199254740992 : Nat) = b52 * 2 by decide, Nat.mul_assoc, show U = 2 ^ K from hUK, Nat.pow_succ, Nat.mul_comm (2 ^ K) 2]
    · have hl := Nat.log2_self_le h0
      have hl2 := Nat.lt_log2_self (n := C)
      have hL : C.log2 ≤ 52 := by
        have := (Nat.log2_lt h0).2 (show C < 2 ^ 53 by have : (2 : Nat) ^ 53 = 9007199254740992 := by decide
                                                       omega)
        omega
      have p : 2 ^ C.log2 * 2 ^ (52 - C.log2) = b52 := by rw [← Nat.pow_add, e52]; congr 1; omega
      have p2 : 2 ^ (C.log2 + 1) * 2 ^ (52 - C.log2) = 2 * b52 := by rw [Nat.pow_succ, Nat.mul_assoc, Nat.mul_comm 2, ← Nat.mul_assoc, p, Nat.mul_comm]
      obtain ⟨a, b⟩ := rep_pow (m := C * 2 ^ (52 - C.log2)) (e := 1022 + C.log2) (by rw [← p]; exact Nat.mul_le_mul_right _ hl) (by rw [← p2]; exact Nat.mul_lt_mul_of_pos_right hl2 (Nat.two_pow_pos _)) (by omega)
      refine ⟨_, a, ?_⟩
      rw [b, Nat.mul_assoc, ← Nat.pow_add, show 52 - C.log2 + (1022 + C.log2) = K by omega, show U = 2 ^ K from hUK]

/-! ### Rounded down, cut off -/
noncomputable def floorI (a : Nat) : Int := sv a / (U : Int)
theorem ediv_is {x U k : Int} (hU : 0 < U) (h1 : k * U ≤ x) (h2 : x < (k + 1) * U) : x / U = k := by
  have a := (Int.le_ediv_iff_mul_le hU).2 h1
  have b := (Int.ediv_lt_iff_lt_mul hU).2 h2
  omega
theorem sv_word (s : Bool) {r : Nat} (h : r < 9223372036854775808) : sv (F.word s r) = if s = true then -(mg r : Int) else mg r := by
  unfold sv
  rw [sg_word s h, rg_word s h]

theorem cut_gap (m k : Nat) : m / (1 <<< min k (m.log2 + 2)) = m / 2 ^ k ∧ m % (1 <<< min k (m.log2 + 2)) = m % 2 ^ k := by
  rw [shl, Nat.one_mul]
  by_cases h : k ≤ m.log2 + 2
  · rw [Nat.min_eq_left h]; exact ⟨rfl, rfl⟩
  · rw [Nat.min_eq_right (by omega)]
    have h1 : m < 2 ^ (m.log2 + 2) := Nat.lt_trans (Nat.lt_log2_self (n := m)) (Nat.pow_lt_pow_right (by decide) (by omega))
    have h2 : 2 ^ (m.log2 + 2) ≤ 2 ^ k := Nat.pow_le_pow_right (by decide) (by omega)
    rw [Nat.div_eq_of_lt h1, Nat.mod_eq_of_lt h1, Nat.div_eq_of_lt (by omega), Nat.mod_eq_of_lt (by omega)]
    exact ⟨rfl, rfl⟩
theorem cut_down (s : Bool) (m k : Nat) : Toward.down.cut s m k = m / 2 ^ k + (s && decide (m % 2 ^ k ≠ 0)).toNat := by
  have h := cut_gap m k
  unfold Toward.cut
  dsimp only
  rw [h.1, h.2]
  congr 3
  by_cases h0 : m % 2 ^ k = 0 <;> simp [h0]
theorem cut_zero (s : Bool) (m k : Nat) : Toward.zero.cut s m k = m / 2 ^ k := by
  have h := cut_gap m k
  unfold Toward.cut
  dsimp only
  rw [h.1]
  rfl
/-- What is rounded down is the whole number below. -/
theorem floor_sv {a : Nat} (h : nanB a = false) : ∃ r s, Format.write F ((F.read a).integral .down) = F.word s r ∧ r ≤ infR ∧ (if s = true then -(mg r : Int) else mg r) = floorI a * (U : Int) := by
  have hU := U_pos
  obtain ⟨K, hK, hUK⟩ := U_ex
  have hr := rg_le h
  by_cases hI : rg a = infR
  · rw [read_inf hI]
    refine ⟨infR, sg a, by show F.word _ F.infRung = _; rw [infR_eq], Nat.le_refl _, ?_⟩
    have e1 : mg infR = P2 1024 * U := by rw [U_eq]; decide +kernel
    unfold floorI sv
    rw [hI, e1]
    have hU' : (U : Int) ≠ 0 := by omega
    cases sg a
    · simp only [Bool.false_eq_true, if_false, Int.natCast_mul]
      rw [Int.mul_ediv_cancel _ hU']
    · simp only [if_true, Int.natCast_mul]
      rw [← Int.neg_mul, Int.mul_ediv_cancel _ hU']
  · obtain ⟨m, i, hrd, hi, hi2, hm, hmg⟩ := read_num (a := a) (by omega)
    rw [hrd]
    show ∃ r s, F.nearest (sg a) (Toward.down.cut (sg a) (m <<< i.toNat) (-i).toNat) 0 = _ ∧ _
    generalize hC : Toward.down.cut (sg a) (m <<< i.toNat) (-i).toNat = C
    have key : (∃ r, r < infR ∧ mg r = C * U) ∧ (if sg a = true then -((C * U : Nat) : Int) else ((C * U : Nat) : Int)) = floorI a * (U : Int) := by
      rcases Int.lt_or_le i 0 with h0 | h0
      · rw [show i.toNat = 0 by omega, shl, Nat.pow_zero, Nat.mul_one, cut_down] at hC
        generalize hk : (-i).toNat = k at hC
        have hp := Nat.two_pow_pos k
        have hmod := Nat.mod_lt m hp
        have hdm := Nat.div_add_mod m (2 ^ k)
        have hT : (sg a && decide (m % 2 ^ k ≠ 0)).toNat ≤ 1 := by cases (sg a && decide (m % 2 ^ k ≠ 0)) <;> simp
        have hC53 : C ≤ 9007199254740992 := by
          have h1 : 2 ≤ 2 ^ k := by
            have : (2 : Nat) ^ 1 ≤ 2 ^ k := Nat.pow_le_pow_right (by decide) (by omega)
            omega
          have h2 : m / 2 ^ k ≤ m / 2 := Nat.div_le_div_left h1 (by decide)
          omega
        refine ⟨rep hC53, ?_⟩
        -- units
        generalize hV : 2 ^ (i + 1074).toNat = V at hmg
        have hVU : 2 ^ k * V = U := by
          rw [← hV, ← Nat.pow_add, show U = 2 ^ K from hUK]
          congr 1
          omega
        have hVp : 0 < V := by rw [← hV]; exact Nat.two_pow_pos _
        have hfl : (if sg a = true then -(C : Int) else (C : Int)) = floorI a := by
          symm
          unfold floorI
          refine ediv_is (by omega) ?_ ?_
          · unfold sv
            rw [← hmg, ← hVU]
            cases hs : sg a
            · simp only [Bool.false_eq_true, if_false]
              rw [hs] at hC
              simp only [Bool.false_and, Bool.toNat_false, Nat.add_zero] at hC
              have : C * (2 ^ k * V) ≤ m * V := by rw [← Nat.mul_assoc, ← hC]; exact Nat.mul_le_mul_right _ (Nat.div_mul_le_self _ _)
              exact_mod_cast this
            · simp only [if_true]
              rw [hs] at hC
              have h3 : m ≤ C * 2 ^ k := by
                rw [← hC, Nat.add_mul, Nat.mul_comm (m / 2 ^ k)]
                by_cases hz : m % 2 ^ k = 0
                · omega
                · simp only [hz, ne_eq, not_false_eq_true, decide_true, Bool.true_and, Bool.toNat_true, Nat.one_mul]
                  omega
              have h4 : m * V ≤ C * (2 ^ k * V) := by rw [← Nat.mul_assoc]; exact Nat.mul_le_mul_right _ h3
              have h5 : ((m * V : Nat) : Int) ≤ ((C * (2 ^ k * V) : Nat) : Int) := by omega
              rw [Int.neg_mul, ← Int.natCast_mul]
              omega
          · unfold sv
            rw [← hmg, ← hVU]
            cases hs : sg a
            · simp only [Bool.false_eq_true, if_false]
              rw [hs] at hC
              simp only [Bool.false_and, Bool.toNat_false, Nat.add_zero] at hC
              have h3 : m < (C + 1) * 2 ^ k := by rw [← hC, Nat.add_mul, Nat.mul_comm (m / 2 ^ k)]; omega
              have h4 : m * V < (C + 1) * (2 ^ k * V) := by rw [← Nat.mul_assoc]; exact Nat.mul_lt_mul_of_pos_right h3 hVp
              exact_mod_cast h4
            · simp only [if_true]
              rw [hs] at hC
              have h3 : C * 2 ^ k < m + 2 ^ k := by
                rw [← hC, Nat.add_mul, Nat.mul_comm (m / 2 ^ k)]
                by_cases hz : m % 2 ^ k = 0
                · simp only [hz, ne_eq, not_true_eq_false, decide_false, Bool.and_false, Bool.toNat_false, Nat.zero_mul]
                  omega
                · simp only [hz, ne_eq, not_false_eq_true, decide_true, Bool.true_and, Bool.toNat_true, Nat.one_mul]
                  omega
              have h4 : C * (2 ^ k * V) < m * V + 2 ^ k * V := by
                rw [← Nat.mul_assoc, ← Nat.add_mul]; exact Nat.mul_lt_mul_of_pos_right h3 hVp
              have h5 : ((C * (2 ^ k * V) : Nat) : Int) < ((m * V : Nat) : Int) + ((2 ^ k * V : Nat) : Int) := by omega
              rw [Int.add_mul, Int.neg_mul, Int.one_mul, ← Int.natCast_mul]
              omega
        rw [← hfl]
        cases sg a
        · simp only [Bool.false_eq_true, if_false, Int.natCast_mul]
        · simp only [if_true, Int.natCast_mul, Int.neg_mul]
      · rw [show (-i).toNat = 0 by omega, shl] at hC
        have e1 := cut_exact .down (sg a) (m * 2 ^ i.toNat) 0
        rw [Nat.pow_zero, Nat.mul_one] at e1
        rw [e1] at hC
        have hCU : mg (rg a) = C * U := by
          rw [← hmg, ← hC, Nat.mul_assoc]
          congr 1
          rw [show U = 2 ^ K from hUK, ← Nat.pow_add]
          congr 1
          omega
        refine ⟨⟨rg a, by omega, hCU⟩, ?_⟩
        unfold floorI sv
        rw [hCU]
        have hU' : (U : Int) ≠ 0 := by omega
        cases sg a
        · simp only [Bool.false_eq_true, if_false, Int.natCast_mul]
          rw [Int.mul_ediv_cancel _ hU']
        · simp only [if_true, Int.natCast_mul]
          rw [← Int.neg_mul, Int.mul_ediv_cancel _ hU']
    obtain ⟨⟨r, hr1, hr2⟩, hs⟩ := key
    refine ⟨r, sg a, nearest_whole (sg a) hr1 hr2, by omega, ?_⟩
    rw [hr2]
    exact hs

/-! ### What is cut towards zero -/
theorem toInt_is {a : Nat} (h : rg a < infR) : (F.read a).toInt .zero = some ((sv a).tdiv (U : Int)) := by
  have hU := U_pos
  obtain ⟨K, hK, hUK⟩ := U_ex
  obtain ⟨m, i, hrd, hi, hi2, hm, hmg⟩ := read_num h
  rw [hrd]
  show some (signed (sg a) (Toward.zero.cut (sg a) (m <<< i.toNat) (-i).toNat) 0) = _
  congr 1
  have hC : Toward.zero.cut (sg a) (m <<< i.toNat) (-i).toNat = mg (rg a) / U := by
    rw [cut_zero, shl, ← hmg]
    rcases Int.lt_or_le i 0 with h0 | h0
    · rw [show i.toNat = 0 by omega, Nat.pow_zero, Nat.mul_one]
      have e : U = 2 ^ (-i).toNat * 2 ^ (i + 1074).toNat := by
        rw [← Nat.pow_add, show U = 2 ^ K from hUK]; congr 1; omega
      rw [e, Nat.mul_div_mul_right _ _ (Nat.two_pow_pos _)]
    · rw [show (-i).toNat = 0 by omega, Nat.pow_zero, Nat.div_one]
      have e : 2 ^ (i + 1074).toNat = 2 ^ i.toNat * U := by
        rw [show U = 2 ^ K from hUK, ← Nat.pow_add]; congr 1; omega
      rw [e, ← Nat.mul_assoc, Nat.mul_div_cancel _ hU]
  rw [hC]
  unfold signed sv
  rw [shl, Nat.pow_zero, Nat.mul_one]
  cases sg a
  · simp only [Bool.false_eq_true, if_false]
    rw [Int.tdiv_eq_ediv_of_nonneg (by omega)]
    exact Int.natCast_ediv _ _
  · simp only [if_true]
    rw [Int.neg_tdiv, Int.tdiv_eq_ediv_of_nonneg (by omega)]
    exact congrArg Neg.neg (Int.natCast_ediv _ _)

theorem trunc_floor {x V : Int} (hV : 0 < V) : (if x < x.tdiv V * V then x.tdiv V - 1 else x.tdiv V) = x / V := by
  rcases Int.lt_or_le x 0 with h | h
  · have e : x.tdiv V = -((-x) / V) := by
      have h1 : (-(-x)).tdiv V = -((-x).tdiv V) := Int.neg_tdiv ..
      rw [Int.neg_neg] at h1
      rw [h1, Int.tdiv_eq_ediv_of_nonneg (by omega)]
    have h2 := Int.mul_ediv_add_emod (-x) V
    have h3 := Int.emod_nonneg (-x) (show V ≠ 0 by omega)
    have h4 := Int.emod_lt_of_pos (-x) hV
    rw [e]
    generalize (-x) / V = q at *
    generalize (-x) % V = r at *
    have h5 : -q * V = -(V * q) := by rw [Int.neg_mul, Int.mul_comm]
    split
    · rename_i hlt
      refine (ediv_is hV ?_ ?_).symm
      · rw [Int.sub_mul, h5]; omega
      · rw [Int.add_mul, Int.sub_mul, h5]; omega
    · rename_i hlt
      refine (ediv_is hV ?_ ?_).symm
      · rw [h5]; omega
      · rw [Int.add_mul, h5]; omega
  · rw [Int.tdiv_eq_ediv_of_nonneg h]
    have := Int.ediv_mul_le x (show V ≠ 0 by omega)
    rw [if_neg (by omega)]

/-- A whole number as a word. -/
theorem ofInt_sv {n : Int} (h1 : -9007199254740992 ≤ n) (h2 : n ≤ 9007199254740992) : nanB (ofInt n) = false ∧ sv (ofInt n) = n * (U : Int) ∧ ofInt n < 18446744073709551616 := by
  obtain ⟨r, hr, hm⟩ := rep (C := n.natAbs) (by omega)
  have hI := infR_lt
  have e : ofInt n = F.word (decide (n < 0)) r := nearest_whole (decide (n < 0)) hr hm
  rw [e]
  refine ⟨nan_word _ (by omega), ?_, word_lt' _ (by omega)⟩
  rw [sv_word _ (by omega), hm]
  by_cases h : n < 0
  · rw [decide_eq_true h, if_pos rfl, Int.natCast_mul, ← Int.neg_mul]
    congr 1; omega
  · rw [decide_eq_false h, if_neg (by simp), Int.natCast_mul]
    congr 1; omega

/-! ### A thousand times a number -/
def kW : Nat := 4652007308841189376
def c1 : Nat := 13970166044103278592
def c2 : Nat := 4746794007244308480
def c3 : Nat := 4746794007248502784
theorem sv_c1 : sv c1 = -2147483648 * (U : Int) := by
  have h : mg (rg c1) = 2147483648 * P2 1074 := by decide +kernel
  rw [← U_eq] at h
  unfold sv
  rw [h, if_pos (by decide)]
  omega
theorem sv_c2 : sv c2 = 2147483647 * (U : Int) := by
  have h : mg (rg c2) = 2147483647 * P2 1074 := by decide +kernel
  rw [← U_eq] at h
  unfold sv
  rw [h, if_neg (by decide)]
  omega
theorem sv_c3 : sv c3 = 2147483648 * (U : Int) := by
  have h : mg (rg c3) = 2147483648 * P2 1074 := by decide +kernel
  rw [← U_eq] at h
  unfold sv
  rw [h, if_neg (by decide)]
  omega
theorem nan_c1 : nanB c1 = false := by decide
theorem nan_c2 : nanB c2 = false := by decide
theorem nan_c3 : nanB c3 = false := by decide
/-- Is it in the range? -/
noncomputable def okY (y : Nat) : Bool := decide (-2147483648 ≤ floorI y ∧ floorI y ≤ 2147483647)
noncomputable def millY (x : Nat) : Nat := (F.mul kW x).getD 0
noncomputable def millN (x : Nat) : Int := if nanB x = true then 0 else if okY (millY x) = true then floorI (millY x) else 0
noncomputable def millE (x : Nat) : Int := if nanB x = true then 2 else if okY (millY x) = true then 0 else 3
section
variable {y : Nat}
theorem floorW_ok (h : nanB y = false) : nanB (Format.write F ((F.read y).integral .down)) = false ∧ sv (Format.write F ((F.read y).integral .down)) = floorI y * (U : Int) := by
  obtain ⟨r, s, e, hr, hs⟩ := floor_sv h
  have hI := infR_lt
  rw [e]
  exact ⟨nan_word _ hr, (sv_word _ (by omega)).trans hs⟩
theorem lt_c {f c : Nat} {m k : Int} (hf : nanB f = false) (hc : nanB c = false) (h1 : sv f = m * (U : Int)) (h2 : sv c = k * (U : Int)) : ltF f c = decide (m < k) ∧ gtF f c = decide (k < m) := by
  have hU := U_pos
  rw [lt_is hf hc, gt_is hf hc]
  refine ⟨decide_eq_decide.2 ?_, decide_eq_decide.2 ?_⟩
  · rw [← sv_lt, h1, h2]; exact Int.mul_lt_mul_right (by omega)
  · rw [← sv_lt, h1, h2]; exact Int.mul_lt_mul_right (by omega)
theorem floor_int {f : Nat} {m : Int} (hf : nanB f = false) (h1 : sv f = m * (U : Int)) (a : -2147483648 ≤ m) (b : m ≤ 2147483648) : Go.floatToIntVal .f64 f .i64 = some m := by
  have hU := U_pos
  have hr : rg f < infR := by
    have := rg_le hf
    rcases Nat.lt_or_ge (rg f) infR with h | h
    · exact h
    · exfalso
      have e : rg f = infR := by omega
      have e1 : mg infR = P2 1024 * U := by rw [U_eq]; decide +kernel
      unfold sv at h1
      rw [e, e1, Int.natCast_mul] at h1
      have e2 : ((P2 1024 : Nat) : Int) * (U : Int) ≥ 4294967296 * (U : Int) := Int.mul_le_mul_of_nonneg_right (by decide +kernel) (by omega)
      have b2 : m * (U : Int) ≤ 2147483648 * (U : Int) := Int.mul_le_mul_of_nonneg_right b (by omega)
      have a2 : -2147483648 * (U : Int) ≤ m * (U : Int) := Int.mul_le_mul_of_nonneg_right a (by omega)
      generalize ((P2 1024 : Nat) : Int) * (U : Int) = X at h1 e2
      generalize m * (U : Int) = Y at h1 a2 b2
      split at h1 <;> omega
  have h2 := toInt_is hr
  rw [h1, Int.mul_tdiv_cancel _ (by omega)] at h2
  unfold Go.floatToIntVal
  have e : Go.FloatKind.decode .f64 f = F.read f := rfl
  rw [e, h2]
  have h3 : Go.IntKind.i64.min ≤ m ∧ m ≤ Go.IntKind.i64.max := by
    have : Go.IntKind.i64.min = -9223372036854775808 := by decide
    have : Go.IntKind.i64.max = 9223372036854775807 := by decide
    omega
  simp only [h3.1, h3.2, and_self, if_true]
theorem ge_c1 (h : nanB y = false) : geF y c1 = decide (-2147483648 ≤ floorI y) := by
  have hU := U_pos
  rw [ge_is h nan_c1]
  refine decide_eq_decide.2 ?_
  have e := sv_lt y c1
  rw [sv_c1] at e
  unfold floorI
  rw [Int.le_ediv_iff_mul_le (by omega)]
  omega
theorem lt_c3 (h : nanB y = false) : ltF y c3 = decide (floorI y ≤ 2147483647) := by
  have hU := U_pos
  rw [lt_is h nan_c3]
  refine decide_eq_decide.2 ?_
  have e := sv_lt y c3
  rw [sv_c3] at e
  unfold floorI
  have e2 : sv y / (U : Int) < 2147483648 ↔ sv y < 2147483648 * (U : Int) := Int.ediv_lt_iff_lt_mul (by omega)
  omega
theorem trunc_int (h : nanB y = false) (hk : okY y = true) : Go.floatToIntVal .f64 y .i64 = some ((sv y).tdiv (U : Int)) ∧ -2147483648 ≤ (sv y).tdiv (U : Int) ∧ (sv y).tdiv (U : Int) ≤ 2147483648 := by
  have hU := U_pos
  have hk := of_decide_eq_true hk
  have hf : floorI y = sv y / (U : Int) := rfl
  have ht := trunc_floor (x := sv y) (V := (U : Int)) (by omega)
  rw [← hf] at ht
  have hb : -2147483648 ≤ (sv y).tdiv (U : Int) ∧ (sv y).tdiv (U : Int) ≤ 2147483648 := by
    split at ht <;> omega
  have hr : rg y < infR := by
    have := rg_le h
    rcases Nat.lt_or_ge (rg y) infR with h' | h'
    · exact h'
    · exfalso
      have e : rg y = infR := by omega
      have e1 : mg infR = P2 1024 * U := by rw [U_eq]; decide +kernel
      have hU' : (U : Int) ≠ 0 := by omega
      unfold floorI sv at hk
      rw [e, e1, Int.natCast_mul] at hk
      have hX : ((P2 1024 : Nat) : Int) ≥ 4294967296 := by decide +kernel
      generalize ((P2 1024 : Nat) : Int) = X at hk hX
      split at hk
      · rw [← Int.neg_mul, Int.mul_ediv_cancel _ hU'] at hk; omega
      · rw [Int.mul_ediv_cancel _ hU'] at hk; omega
  have h2 := toInt_is hr
  unfold Go.floatToIntVal
  have e : Go.FloatKind.decode .f64 y = F.read y := rfl
  rw [e, h2]
  have h3 : Go.IntKind.i64.min ≤ (sv y).tdiv (U : Int) ∧ (sv y).tdiv (U : Int) ≤ Go.IntKind.i64.max := by
    have : Go.IntKind.i64.min = -9223372036854775808 := by decide
    have : Go.IntKind.i64.max = 9223372036854775807 := by decide
    omega
  simp only [h3.1, h3.2, and_self, if_true]
  exact ⟨trivial, hb⟩
theorem gt_trunc (h : nanB y = false) {t : Int} (a : -2147483648 ≤ t) (b : t ≤ 2147483648) : gtF (ofInt t) y = decide (sv y < t * (U : Int)) := by
  obtain ⟨h1, h2, _⟩ := ofInt_sv (n := t) (by omega) (by omega)
  rw [gt_is h1 h, ← h2]
  exact decide_eq_decide.2 (sv_lt _ _).symm
theorem mul_k {x : Nat} (h : nanB x = false) : ∃ y, F.mul kW x = some y := by
  have hr : F.read kW = .number false 4503599627370496 (-43) ∨ ∃ m i, F.read kW = .number false m i ∧ m ≠ 0 := by
    right
    exact ⟨_, _, rfl, by decide⟩
  have hm : ∃ m i, F.read kW = .number false m i ∧ m ≠ 0 := ⟨_, _, rfl, by decide⟩
  obtain ⟨m, i, e, h0⟩ := hm
  have := rg_le h
  unfold Format.mul
  rw [e]
  by_cases hI : rg x = infR
  · rw [read_inf hI]
    refine ⟨F.word (sg x ^^ false) F.infRung, ?_⟩
    show Option.map F.write (if m = 0 then none else some (.infinity (sg x ^^ false))) = some (F.word (sg x ^^ false) F.infRung)
    rw [if_neg h0]; rfl
  · obtain ⟨m', i', hrd, _⟩ := read_num (a := x) (by omega)
    rw [hrd]
    exact ⟨_, rfl⟩
end
/-! ### A number plus zero -/
theorem mul_zero {d : Nat} (h : rg d < infR) : F.mul d 0 = some (F.word (sg d) 0) := by
  obtain ⟨m, i, hrd, _⟩ := read_num h
  have h0 : F.read 0 = .number false 0 (-1074) := rfl
  unfold Format.mul
  rw [hrd, h0]
  show some (F.nearest (sg d ^^ false) (m * 0) (i + -1074)) = _
  rw [Nat.mul_zero, Bool.xor_false]
  rfl
theorem mul_inf {d : Nat} (h : rg d = infR) : F.mul d 0 = none := by
  have h0 : F.read 0 = .number false 0 (-1074) := rfl
  unfold Format.mul
  rw [read_inf h, h0]
  rfl
theorem add_zero {a : Nat} (h : rg a < infR) (s : Bool) : ∃ r, F.add a (F.word s 0) = some r ∧ nanB r = false ∧ kv r = kv a := by
  obtain ⟨m, i, hrd, hi, hi2, hm, hmg⟩ := read_num h
  have hz : F.read (F.word s 0) = .number s 0 (-1074) := by cases s <;> rfl
  have hI := infR_lt
  unfold Format.add
  rw [hrd, hz]
  have e1 : signed s 0 ((-1074 : Int) - min i (-1074)).toNat = 0 := by unfold signed; rw [shl, Nat.zero_mul]; cases s <;> rfl
  have e2 := signed_sv (a := a) (base := min i (-1074)) (by omega) (by omega) hmg
  rw [show (min i (-1074) + 1074).toNat = 0 by omega, Nat.pow_zero, show ((1 : Nat) : Int) = 1 from rfl, Int.mul_one] at e2
  refine ⟨F.nearest (if sv a = 0 then sg a && s else decide (sv a < 0)) (sv a).natAbs (-1074), ?_, ?_⟩
  · show some (F.nearest (if signed (sg a) m (i - min i (-1074)).toNat + signed s 0 ((-1074 : Int) - min i (-1074)).toNat = 0 then sg a && s else decide (signed (sg a) m (i - min i (-1074)).toNat + signed s 0 ((-1074 : Int) - min i (-1074)).toNat < 0)) (signed (sg a) m (i - min i (-1074)).toNat + signed s 0 ((-1074 : Int) - min i (-1074)).toNat).natAbs (min i (-1074))) = _
    rw [e1, e2, Int.add_zero, show min i (-1074) = -1074 by omega]
  · have e3 : (sv a).natAbs = mg (rg a) := by unfold sv; split <;> omega
    rw [e3, nearest_mg _ h]
    refine ⟨nan_word _ (by omega), ?_⟩
    unfold kv
    rw [sg_word _ (by omega), rg_word _ (by omega)]
    have h3 := mg_iff 0 (rg a)
    rw [mg_zero] at h3
    by_cases h0 : rg a = 0
    · rw [h0]; simp
    · have hs : sv a ≠ 0 := by unfold sv; split <;> omega
      rw [if_neg hs]
      have : decide (sv a < 0) = sg a := by
        unfold sv
        cases sg a
        · simp
        · simp; omega
      rw [this]
/-! ### Infinite words -/
theorem inf_abs {a : Nat} (h : nanB a = false) : infB a 0 = decide (rg a = infR) := by
  unfold infB
  rw [if_pos rfl]
  have h1 := rg_le h
  have h2 := infR_lt
  have e1 : rg (rg a) = rg a := by unfold rg; omega
  have e2 : sg (rg a) = false := by unfold sg rg; rw [Nat.div_eq_of_lt (Nat.mod_lt _ (by decide))]; rfl
  have e3 : kv (rg a) = rg a := by unfold kv; rw [e2, e1]; rfl
  have hn : nanB (rg a) = false := by unfold nanB; rw [e1]; exact h
  rw [gt_is hn nan_max, e3, kv_max]
  have : infR = 9218868437227405312 := rfl
  exact decide_eq_decide.2 (by omega)
theorem inf_absN {a : Nat} (h : nanB a = true) : infB a 0 = false := by
  unfold infB
  rw [if_pos rfl]
  have e1 : rg (rg a) = rg a := by unfold rg; omega
  have hn : nanB (rg a) = true := by unfold nanB; rw [e1]; exact h
  exact gt_nan (.inl hn)
theorem word_neg (s : Bool) : (F.word s infR) ^^^ 9223372036854775808 = F.word (!s) infR := by cases s <;> decide
theorem inf_word (s : Bool) : infB (F.word s infR) 1 = !s ∧ infB (F.word s infR) (-1) = s := by
  unfold infB
  rw [if_neg (by decide), if_neg (by decide), if_neg (by decide), if_pos (by decide), word_neg]
  cases s <;> decide +kernel
theorem div_zero {a b : Nat} (ha : nanB a = false) (ha0 : rg a ≠ 0) (hb : rg b = 0) : F.div a b = some (F.word (sg a ^^ sg b) infR) := by
  have h1 := rg_le ha
  have hz : F.read b = .number (sg b) 0 (-1074) := by rw [read_eq, hb, if_pos (by decide)]
  unfold Format.div
  rw [hz]
  by_cases hI : rg a = infR
  · rw [read_inf hI]
    show some (F.word (sg a ^^ sg b) F.infRung) = _
    rw [infR_eq]
  · obtain ⟨m, i, hrd, _, _, _, hmg⟩ := read_num (a := a) (by omega)
    have hm : m ≠ 0 := by
      intro e
      rw [e, Nat.zero_mul] at hmg
      have := mg_lt (r := 0) (r' := rg a) (by omega)
      omega
    have hq : (Datum.number (sg a) m i).quotient (F.fractionBits + 2) (.number (sg b) 0 (-1074)) = some (.infinity (sg a ^^ sg b)) := by
      simp [Datum.quotient, hm]
    rw [hrd, hq]
    show some (F.word (sg a ^^ sg b) F.infRung) = _
    rw [infR_eq]
theorem div_none {a b : Nat} (ha : rg a = 0) (hb : rg b = 0) : F.div a b = none := by
  have hz : F.read b = .number (sg b) 0 (-1074) := by rw [read_eq, hb, if_pos (by decide)]
  have hy : F.read a = .number (sg a) 0 (-1074) := by rw [read_eq, ha, if_pos (by decide)]
  unfold Format.div
  rw [hz, hy]
  rfl
end Go.Proofs.Ytikmjecjolppdaa.Fl
