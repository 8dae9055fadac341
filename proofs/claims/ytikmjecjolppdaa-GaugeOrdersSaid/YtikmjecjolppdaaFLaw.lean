/- Proved: the order of all words, the least of a list, means and smoothed numbers, as plain functions of the words, and their laws; the conditions stand in the statements. -/
import Derived.Test.YtikmjecjolppdaaFBase
import GoSem.Core.Float
namespace Go.Proofs.Ytikmjecjolppdaa.Fl
open Ieee

/-! ### Words up to which none of the numbers it is -/
def cls (a : Nat) : Option Nat := if nanB a = true then none else some a
/-- r is what o says: this word, or some word that is no number. -/
def FR (o : Option Nat) (r : Nat) : Prop := cls r = o ∧ r < 18446744073709551616
def sameB (a b : Nat) : Bool := (nanB a && nanB b) || (a == b)
theorem cls_nan {a : Nat} (h : nanB a = true) : cls a = none := if_pos h
theorem cls_num {a : Nat} (h : nanB a = false) : cls a = some a := if_neg (by simp [h])
theorem same_is (a b : Nat) : sameB a b = true ↔ cls a = cls b := by
  unfold sameB
  cases h : nanB a <;> cases h' : nanB b
  · rw [cls_num h, cls_num h']; simp
  · rw [cls_num h, cls_nan h']; simp; rintro rfl; rw [h] at h'; cases h'
  · rw [cls_nan h, cls_num h']; simp; rintro rfl; rw [h] at h'; cases h'
  · rw [cls_nan h, cls_nan h']; simp
theorem same_of {o : Option Nat} {a b : Nat} (ha : FR o a) (hb : FR o b) : sameB a b = true := (same_is a b).2 (ha.1.trans hb.1.symm)
theorem FR.num {b r : Nat} (h : FR (some b) r) : r = b ∧ nanB r = false := by
  have h1 := h.1
  unfold cls at h1
  split at h1
  · cases h1
  · rename_i hn
    exact ⟨Option.some.inj h1, by simpa using hn⟩
theorem FR.none {r : Nat} (h : FR none r) : nanB r = true := by
  have h1 := h.1
  unfold cls at h1
  split at h1
  · assumption
  · cases h1
theorem FR.self {a : Nat} (h : a < 18446744073709551616) : FR (cls a) a := ⟨rfl, h⟩

theorem rg_word (s : Bool) {r : Nat} (h : r < 9223372036854775808) : rg (F.word s r) = r := by
  unfold Format.word rg
  rw [sw_eq]
  split <;> omega
theorem sg_word (s : Bool) {r : Nat} (h : r < 9223372036854775808) : sg (F.word s r) = s := by
  unfold Format.word sg
  rw [sw_eq]
  cases s
  · simp only [Bool.false_eq_true, if_false]
    rw [Nat.div_eq_of_lt h]; rfl
  · simp only [if_true]
    rw [show (9223372036854775808 + r) / 9223372036854775808 = 1 by omega]; rfl
theorem word_lt' (s : Bool) {r : Nat} (h : r < 9223372036854775808) : F.word s r < 18446744073709551616 := by
  unfold Format.word
  rw [sw_eq]
  split <;> omega
theorem infR_lt : infR < 9223372036854775808 := by decide
theorem nan_word (s : Bool) {r : Nat} (h : r ≤ infR) : nanB (F.word s r) = false := by
  have := infR_lt
  unfold nanB
  rw [rg_word s (by omega)]
  exact decide_eq_false (by omega)
theorem nearest_word (s : Bool) (m : Nat) (p : Int) : ∃ r, r ≤ infR ∧ F.nearest s m p = F.word s r := by
  unfold Format.nearest
  split
  · exact ⟨0, Nat.zero_le _, rfl⟩
  · rw [infR_eq]
    exact ⟨_, Nat.min_le_right .., rfl⟩
theorem write_num {d : Datum} (h : d.isNaN = false) : nanB (F.write d) = false ∧ F.write d < 18446744073709551616 := by
  have := infR_lt
  cases d with
  | number s m p =>
    obtain ⟨r, hr, e⟩ := nearest_word s m p
    show nanB (F.nearest s m p) = false ∧ F.nearest s m p < _
    rw [e]
    exact ⟨nan_word s hr, word_lt' s (by omega)⟩
  | infinity s =>
    show nanB (F.word s F.infRung) = false ∧ F.word s F.infRung < _
    rw [infR_eq]
    exact ⟨nan_word s (Nat.le_refl _), word_lt' s (by omega)⟩
  | nan => cases h
theorem of_map {o : Option Datum} (h : ∀ d, o = some d → d.isNaN = false) {r : Nat} (hr : o.map F.write = some r) : FR (some r) r := by
  cases o with
  | none => cases hr
  | some d =>
    have := write_num (h d rfl)
    simp only [Option.map_some, Option.some.injEq] at hr
    subst hr
    exact ⟨cls_num this.1, this.2⟩
theorem sum_num (x y : Datum) : ∀ d, x.sum y = some d → d.isNaN = false := by
  intro d h
  cases x <;> cases y <;> simp only [Datum.sum] at h <;> first | (cases h; done) | skip
  all_goals first | (cases h; rfl) | (split at h <;> first | (cases h; done) | (cases h; rfl))
theorem product_num (x y : Datum) : ∀ d, x.product y = some d → d.isNaN = false := by
  intro d h
  cases x <;> cases y <;> simp only [Datum.product] at h <;> first | (cases h; done) | skip
  all_goals first | (cases h; rfl) | (split at h <;> first | (cases h; done) | (cases h; rfl))
theorem quotient_num (k : Nat) (x y : Datum) : ∀ d, x.quotient k y = some d → d.isNaN = false := by
  intro d h
  cases x <;> cases y <;> simp only [Datum.quotient] at h <;> first | (cases h; done) | skip
  all_goals first | (cases h; rfl) | (split at h <;> first | (cases h; done) | (cases h; rfl) | (split at h <;> first | (cases h; done) | (cases h; rfl)))
theorem add_num {a b r : Nat} (h : F.add a b = some r) : FR (some r) r := of_map (sum_num _ _) h
theorem sub_num {a b r : Nat} (h : F.sub a b = some r) : FR (some r) r := of_map (sum_num _ _) h
theorem mul_num {a b r : Nat} (h : F.mul a b = some r) : FR (some r) r := of_map (product_num _ _) h
theorem div_num {a b r : Nat} (h : F.div a b = some r) : FR (some r) r := of_map (quotient_num _ _ _) h

theorem nan_is {a : Nat} (h : nanB a = true) : ∃ s t, F.read a = .nan s t := by
  rw [← nan_read] at h
  cases hr : F.read a <;> rw [hr] at h <;> first | (cases h; done) | exact ⟨_, _, rfl⟩
theorem add_nan1 {a b : Nat} (h : nanB a = true) : F.add a b = none := by
  obtain ⟨s, t, e⟩ := nan_is h
  unfold Format.add; rw [e]; rfl
theorem add_nan2 {a b : Nat} (h : nanB b = true) : F.add a b = none := by
  obtain ⟨s, t, e⟩ := nan_is h
  unfold Format.add; rw [e]; cases F.read a <;> rfl
theorem mul_nan1 {a b : Nat} (h : nanB a = true) : F.mul a b = none := by
  obtain ⟨s, t, e⟩ := nan_is h
  unfold Format.mul; rw [e]; rfl
theorem mul_nan2 {a b : Nat} (h : nanB b = true) : F.mul a b = none := by
  obtain ⟨s, t, e⟩ := nan_is h
  unfold Format.mul; rw [e]; cases F.read a <;> rfl
theorem div_nan1 {a b : Nat} (h : nanB a = true) : F.div a b = none := by
  obtain ⟨s, t, e⟩ := nan_is h
  unfold Format.div; rw [e]; rfl
theorem div_nan2 {a b : Nat} (h : nanB b = true) : F.div a b = none := by
  obtain ⟨s, t, e⟩ := nan_is h
  unfold Format.div; rw [e]; cases F.read a <;> rfl
theorem sub_nan1 {a b : Nat} (h : nanB a = true) : F.sub a b = none := by
  obtain ⟨s, t, e⟩ := nan_is h
  unfold Format.sub; rw [e]; rfl
theorem sub_nan2 {a b : Nat} (h : nanB b = true) : F.sub a b = none := by
  obtain ⟨s, t, e⟩ := nan_is h
  unfold Format.sub; rw [e]; cases F.read a <;> rfl

/-! ### The order of all -/
def tk (a : Nat) : Int := if nanB a = true then 18446744073709551616 else if sg a = true then -(rg a : Int) - 1 else rg a
def cmpF (a b : Nat) : Int := if tk a < tk b then -1 else if tk b < tk a then 1 else 0
theorem tk_nan {a : Nat} (h : nanB a = true) : tk a = 18446744073709551616 := if_pos h
theorem tk_lt {a : Nat} (h : nanB a = false) : tk a < 9223372036854775808 ∧ -9223372036854775809 < tk a := by
  have := rg_lt a
  unfold tk
  rw [if_neg (by simp [h])]
  split <;> omega
theorem tk_num {a : Nat} (h : nanB a = false) : tk a = if sg a = true then -(rg a : Int) - 1 else rg a := if_neg (by simp [h])
theorem tk_kv {a : Nat} (h : nanB a = false) : (kv a < 0 ∧ tk a = kv a - 1) ∨ (0 < kv a ∧ tk a = kv a) ∨ (kv a = 0 ∧ sg a = true ∧ tk a = -1) ∨ (kv a = 0 ∧ sg a = false ∧ tk a = 0) := by
  rw [tk_num h]
  unfold kv
  by_cases hs : sg a = true
  · rw [if_pos hs, if_pos hs]
    by_cases hz : rg a = 0
    · exact .inr (.inr (.inl ⟨by omega, hs, by omega⟩))
    · exact .inl (by omega)
  · rw [if_neg hs, if_neg hs]
    by_cases hz : rg a = 0
    · exact .inr (.inr (.inr ⟨by omega, by simpa using hs, by omega⟩))
    · exact .inr (.inl (by omega))
theorem sg_div {a : Nat} (h : a < 18446744073709551616) : a / 9223372036854775808 = (sg a).toNat := by
  unfold sg
  have : a / 9223372036854775808 < 2 := by omega
  rcases (by omega : a / 9223372036854775808 = 0 ∨ a / 9223372036854775808 = 1) with e | e <;> rw [e] <;> rfl
theorem sg_ge {a : Nat} (h : a < 18446744073709551616) : sg a = decide (9223372036854775808 ≤ a) := by
  have h1 := sg_div h
  rw [Bool.eq_iff_iff, decide_eq_true_eq]
  cases hs : sg a <;> rw [hs] at h1 <;> simp at h1 ⊢ <;> omega
theorem word_of {a : Nat} (h : a < 18446744073709551616) : a = if sg a = true then 9223372036854775808 + rg a else rg a := by
  have h1 := sg_div h
  have h2 := Nat.div_add_mod a 9223372036854775808
  unfold rg
  cases hs : sg a <;> rw [hs] at h1 <;> simp at h1 ⊢ <;> omega
theorem tk_inj {a b : Nat} (ha : a < 18446744073709551616) (hb : b < 18446744073709551616) : tk a = tk b ↔ cls a = cls b := by
  cases h : nanB a <;> cases h' : nanB b
  · rw [cls_num h, cls_num h']
    have e1 := word_of ha
    have e2 := word_of hb
    rw [tk_num h, tk_num h']
    constructor
    · intro e
      congr 1
      cases hs : sg a <;> cases hs' : sg b <;> rw [hs] at e e1 <;> rw [hs'] at e e2 <;> simp at e e1 e2 <;> omega
    · intro e
      rw [Option.some.inj e]
  · have := tk_lt h
    rw [cls_num h, cls_nan h', tk_nan h']
    constructor
    · intro e; omega
    · intro e; cases e
  · have := tk_lt h'
    rw [cls_nan h, cls_num h', tk_nan h]
    constructor
    · intro e; omega
    · intro e; cases e
  · rw [cls_nan h, cls_nan h', tk_nan h, tk_nan h']; simp
theorem cmp_same {a b : Nat} (ha : a < 18446744073709551616) (hb : b < 18446744073709551616) : sameB a b = decide (cmpF a b = 0) := by
  rw [Bool.eq_iff_iff, same_is, ← tk_inj ha hb, decide_eq_true_eq]
  unfold cmpF
  split
  · omega
  · split <;> omega
theorem cmp_1 {a b : Nat} (h : tk a < tk b) : cmpF a b = -1 := if_pos h
theorem cmp1 {a b : Nat} (h : tk b < tk a) : cmpF a b = 1 := by unfold cmpF; rw [if_neg (by omega), if_pos h]
theorem cmp0 {a b : Nat} (h : tk a = tk b) : cmpF a b = 0 := by unfold cmpF; rw [if_neg (by omega), if_neg (by omega)]
theorem cmp_neg (a b : Nat) : cmpF a b = 0 - cmpF b a := by
  rcases Int.lt_trichotomy (tk a) (tk b) with h | h | h
  · rw [cmp_1 h, cmp1 h]; rfl
  · rw [cmp0 h, cmp0 h.symm]; rfl
  · rw [cmp1 h, cmp_1 h]; rfl
theorem cmp_trans {a b c : Nat} (h1 : cmpF a b ≤ 0) (h2 : cmpF b c ≤ 0) : cmpF a c ≤ 0 := by
  unfold cmpF at *
  split at h1
  · split at h2
    · rw [if_pos (by omega)]; omega
    · split at h2
      · omega
      · rw [if_pos (by omega)]; omega
  · split at h1
    · omega
    · split at h2
      · rw [if_pos (by omega)]; omega
      · split at h2
        · omega
        · rw [if_neg (by omega), if_neg (by omega)]; omega
theorem cmp_bounds (a b : Nat) : -1 ≤ cmpF a b ∧ cmpF a b ≤ 1 := by
  unfold cmpF; split
  · omega
  · split <;> omega
theorem cmp_lt {a b : Nat} (h : ltF a b = true) : cmpF a b = -1 := by
  cases ha : nanB a
  · cases hb : nanB b
    · rw [lt_is ha hb] at h
      have h := of_decide_eq_true h
      have := tk_kv ha
      have := tk_kv hb
      exact cmp_1 (by omega)
    · rw [lt_nan (.inr hb)] at h; cases h
  · rw [lt_nan (.inl ha)] at h; cases h

/-- The least of a list, or a word that is no number. -/
def nanW : Nat := 9221120237041090561
def leastG : List Nat → Nat
  | l => l.foldl (fun m x => if tk x < tk m then x else m) nanW
theorem least_nil : leastG [] = nanW := rfl
theorem least_snoc (l : List Nat) (x : Nat) : leastG (l ++ [x]) = if tk x < tk (leastG l) then x else leastG l := by
  unfold leastG
  rw [List.foldl_append]; rfl
theorem least_step (l : List Nat) (j : Nat) (h : j < l.length) : leastG (l.take (j + 1)) = if tk l[j] < tk (leastG (l.take j)) then l[j] else leastG (l.take j) := by
  rw [List.take_succ_eq_append_getElem h, least_snoc]

/-! ### Sums, means, smoothed numbers -/
def sumC : List Nat → Option Nat
  | [] => none
  | x :: l => l.foldl (fun s y => s.bind fun s => F.add s y) (cls x)
theorem sum_one {l : List Nat} (h : 0 < l.length) : sumC (l.take 1) = cls l[0] := by
  cases l with
  | nil => simp at h
  | cons x l => rfl
theorem sum_step (l : List Nat) (j : Nat) (h0 : 0 < j) (h : j < l.length) : sumC (l.take (j + 1)) = (sumC (l.take j)).bind fun s => F.add s l[j] := by
  rw [List.take_succ_eq_append_getElem h]
  cases l with
  | nil => simp at h
  | cons x l =>
    obtain ⟨j, rfl⟩ : ∃ k, j = k + 1 := ⟨j - 1, by omega⟩
    rw [List.take_succ_cons]
    show sumC (x :: (l.take j ++ [l[j]'(by simpa using h)])) = _
    simp only [sumC, List.foldl_append, List.foldl_cons, List.foldl_nil]
    rfl
theorem bind_add {o : Option Nat} {a b : Nat} (h : FR o a) : F.add a b = o.bind fun s => F.add s b := by
  cases o with
  | none => exact add_nan1 h.none
  | some x => rw [(h.num).1]; rfl
theorem bind_div {o : Option Nat} {a b : Nat} (h : FR o a) : F.div a b = o.bind fun s => F.div s b := by
  cases o with
  | none => exact div_nan1 h.none
  | some x => rw [(h.num).1]; rfl
theorem bind_mul {o : Option Nat} {a b : Nat} (h : FR o a) : F.mul a b = o.bind fun s => F.mul s b := by
  cases o with
  | none => exact mul_nan1 h.none
  | some x => rw [(h.num).1]; rfl
theorem bind_add2 {o : Option Nat} {a b : Nat} (h : FR o b) : F.add a b = o.bind fun s => F.add a s := by
  cases o with
  | none => exact add_nan2 h.none
  | some x => rw [(h.num).1]; rfl
def ofInt (n : Int) : Nat := Go.FloatKind.nearest .f64 n
def meanC (l : List Nat) : Option Nat := (sumC l).bind fun s => F.div s (ofInt l.length)
def oneW : Nat := 4607182418800017408
def badW (w : Nat) : Bool := nanB w || ltF w 0 || gtF w oneW
def smoothC (old now w : Nat) : Option Nat :=
  if badW w = true then some 0 else if nanB old = true then cls now else if nanB now = true then cls old
  else ((F.sub now old).bind fun d => F.mul d w).bind fun p => F.add old p
def smoothE (w : Nat) : Int := if badW w = true then 2 else 0
theorem nan_zero : nanB 0 = false := by decide
theorem nan_one : nanB oneW = false := by decide
theorem bad_is (w : Nat) : badW w = !(geF w 0 && leF w oneW) := by
  unfold badW
  cases h : nanB w
  · rw [lt_is h nan_zero, gt_is h nan_one, ge_is h nan_zero, le_is h nan_one, Bool.eq_iff_iff]
    simp
  · rw [ge_nan (.inl h)]; rfl
/-- A number that is smoothed. -/
theorem smooth_of {old now w d p r : Nat} (hw : badW w = false) (ho : nanB old = false) (hn : nanB now = false) (hd : FR (F.sub now old) d) (hp : FR (F.mul d w) p) (hr : FR (F.add old p) r) : FR (smoothC old now w) r := by
  unfold smoothC
  rw [if_neg (by simp [hw]), if_neg (by simp [ho]), if_neg (by simp [hn])]
  have e1 := bind_mul (b := w) hd
  rw [e1] at hp
  have e2 := bind_add2 (a := old) hp
  rw [e2] at hr
  exact hr
theorem smooth_bad {old now w : Nat} (hw : badW w = true) : smoothC old now w = some 0 := if_pos hw
theorem smooth_old {old now w : Nat} (hw : badW w = false) (ho : nanB old = true) : smoothC old now w = cls now := by
  unfold smoothC; rw [if_neg (by simp [hw]), if_pos ho]
theorem smooth_now {old now w : Nat} (hw : badW w = false) (ho : nanB old = false) (hn : nanB now = true) : smoothC old now w = cls old := by
  unfold smoothC; rw [if_neg (by simp [hw]), if_neg (by simp [ho]), if_pos hn]
theorem smoothE_bad {w : Nat} (hw : badW w = true) : smoothE w = 2 := if_pos hw
theorem smoothE_ok {w : Nat} (hw : badW w = false) : smoothE w = 0 := if_neg (by simp [hw])

/-! ### Infinite words -/
def maxW : Nat := 9218868437227405311
def infB (x : Nat) (s : Int) : Bool := gtF (if s = 0 then rg x else if s < 0 then x ^^^ 9223372036854775808 else x) maxW
theorem nan_max : nanB maxW = false := by decide
theorem kv_max : kv maxW = 9218868437227405311 := by decide
end Go.Proofs.Ytikmjecjolppdaa.Fl
