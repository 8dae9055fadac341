/- Proved: plain laws on a row of keys of which all but one are held; the conditions stand in the statements. -/
import Derived.Test.YtpbpenlceigddaaLruFacts
set_option linter.unusedVariables false
set_option linter.unusedSimpArgs false
set_option linter.unusedSectionVars false
namespace Go.Proofs.Ytpbpenlceigddaa.Lru
open Go Go.RowKit Go.Proofs.Ytpbpenlceigddaa.Eng

def seedK : Nat → Ks
  | 0 => []
  | i + 1 => (-1 - (i : Int), decide (0 < i)) :: seedK i
def pinL : Nat → Ks
  | 0 => []
  | 1 => []
  | n + 2 => (-1 - ((n + 1 : Nat) : Int), true) :: pinL (n + 1)
theorem seed_len (i : Nat) : (seedK i).length = i := by
  induction i with
  | zero => rfl
  | succ i ih => rw [seedK, List.length_cons, ih]
theorem seed_low {i : Nat} : ∀ x ∈ seedK i, -(i : Int) ≤ x.1 := by
  induction i with
  | zero => intro x hx; cases hx
  | succ i ih =>
    intro x hx
    rw [seedK] at hx
    rcases List.mem_cons.1 hx with rfl | hx
    · simp; omega
    · have := ih x hx; omega
theorem seed_none (i : Nat) : plc (seedK i) (-1 - (i : Int)) = none := plc_none.2 fun x hx => by have := seed_low x hx; omega
theorem seed_O {n i : Nat} (h : i < n) : touchO (n : Int) (seedK i) (-1 - (i : Int)) = (0, false, 0) := touchO_b (seed_none i) (by rw [seed_len]; omega)
theorem seed_K {n i : Nat} (h : i < n) : touchK (n : Int) (seedK i) (-1 - (i : Int)) = (-1 - (i : Int), false) :: seedK i := touchK_b (seed_none i) (by rw [seed_len]; omega)
theorem plc_head (k : Int) (p : Bool) (t : Ks) : plc ((k, p) :: t) k = some 0 := by unfold plc; simp [List.findIdx?_cons]
theorem seed_pin {i : Nat} (h : 0 < i) : pinK ((-1 - (i : Int), false) :: seedK i) (-1 - (i : Int)) true = seedK (i + 1) := by
  rw [pinK_a (plc_head _ _ _), seedK, decide_eq_true h]; rfl
theorem seed_err (i : Nat) : errK ((-1 - (i : Int), false) :: seedK i) (-1 - (i : Int)) = 0 := errK_a (plc_head _ _ _)
theorem seed_0 {i : Nat} (h : ¬ 0 < i) : (-1 - (i : Int), false) :: seedK i = seedK (i + 1) := by rw [seedK, decide_eq_false h]
def PIV (n : Nat) (ks : Ks) : Prop := ∃ x, ks.Perm ((x, false) :: pinL n)
theorem seed_piv : ∀ {n : Nat}, 1 ≤ n → PIV n (seedK n)
  | 1, _ => ⟨-1, List.Perm.refl _⟩
  | n + 2, _ => by
    obtain ⟨x, hx⟩ := seed_piv (n := n + 1) (by omega)
    refine ⟨x, ?_⟩
    rw [seedK, decide_eq_true (Nat.succ_pos n)]
    exact (hx.cons _).trans (List.Perm.swap _ _ _)
theorem pinL_len : ∀ {n : Nat}, 1 ≤ n → (pinL n).length + 1 = n
  | 1, _ => rfl
  | n + 2, _ => by
    have := pinL_len (n := n + 1) (by omega)
    rw [pinL, List.length_cons]; omega
theorem pinL_mem : ∀ {n m : Nat}, 1 ≤ m → m < n → (-1 - (m : Int), true) ∈ pinL n
  | 0, _, _, h => by omega
  | 1, _, _, h => by omega
  | n + 2, m, h1, h2 => by
    rw [pinL]
    rcases Nat.lt_or_ge m (n + 1) with h | h
    · exact List.mem_cons_of_mem _ (pinL_mem h1 h)
    · have : m = n + 1 := by omega
      subst this; exact List.mem_cons_self ..
theorem pinL_true : ∀ {n : Nat} (x : Int × Bool), x ∈ pinL n → x.2 = true
  | 0, x, h => by cases h
  | 1, x, h => by cases h
  | n + 2, x, h => by
    rw [pinL] at h
    rcases List.mem_cons.1 h with rfl | h
    · rfl
    · exact pinL_true x h
theorem lfK_free' {ks : Ks} {i : Nat} : ∀ {j : Nat}, lfK ks j = some i → (ks.getD i d0).2 = false
  | 0, h => by cases h
  | j + 1, h => by
    unfold lfK at h
    split at h
    · cases h; assumption
    · exact lfK_free' h
theorem lfK_none' {ks : Ks} : ∀ {j : Nat}, lfK ks j = none → ∀ i, i < j → (ks.getD i d0).2 = true
  | 0, _, i, h => absurd h (Nat.not_lt_zero _)
  | j + 1, h, i, hi => by
    unfold lfK at h
    split at h
    · cases h
    · rename_i hc
      rcases Nat.lt_or_ge i j with h1 | h1
      · exact lfK_none' h i h1
      · have : i = j := by omega
        subst this
        cases hb : (ks.getD i d0).2 with
        | true => rfl
        | false => exact absurd hb hc
theorem lfK_all {ks : Ks} : ∀ {j : Nat}, (∀ i, i < j → (ks.getD i d0).2 = true) → lfK ks j = none
  | 0, _ => rfl
  | j + 1, h => by
    unfold lfK
    rw [if_neg (by rw [h j (by omega)]; decide)]
    exact lfK_all fun i hi => h i (by omega)
theorem piv_touch {n : Nat} {ks : Ks} (h1 : 1 ≤ n) (h : PIV n ks) (k : Int) : (touchO (n : Int) ks k).2.2 = 0 ∧ PIV n (touchK (n : Int) ks k) := by
  obtain ⟨x, hx⟩ := h
  have hl : ks.length = n := by rw [hx.length_eq, List.length_cons]; exact pinL_len h1
  cases hpl : plc ks k with
  | some i =>
    obtain ⟨y, hy, _⟩ := plc_is hpl
    rw [touchO_a hpl, touchK_a hpl, getD_some hy]
    exact ⟨rfl, x, (perm_erase hy).symm.trans hx⟩
  | none =>
    have hlt : ¬ (ks.length : Int) < (n : Int) := by omega
    cases hlf : lfK ks ks.length with
    | none =>
      exfalso
      have hm : (x, false) ∈ ks := hx.mem_iff.2 (List.mem_cons_self ..)
      obtain ⟨i, hi⟩ := List.getElem?_of_mem hm
      have := lfK_none' hlf i (List.getElem?_eq_some_iff.1 hi).1
      rw [getD_some hi] at this
      cases this
    | some i =>
      have hi := lfK_lt hlf
      have hf := lfK_free' hlf
      rw [touchO_d hpl hlt hlf, touchK_d hpl hlt hlf]
      refine ⟨rfl, k, ?_⟩
      have hp := perm_erase (at_getD hi)
      have he : ks.getD i d0 = (x, false) := by
        have hm : ks.getD i d0 ∈ (x, false) :: pinL n := hx.mem_iff.1 (List.mem_of_getElem? (at_getD hi))
        rcases List.mem_cons.1 hm with h | h
        · exact h
        · have := pinL_true _ h; rw [hf] at this; cases this
      rw [he] at hp
      exact (List.Perm.cons_inv (hp.symm.trans hx)).cons _
theorem piv_has {n m : Nat} {ks : Ks} (hnd : (keyK ks).Nodup) (h : PIV n ks) (h1 : 1 ≤ m) (h2 : m < n) : hasK ks (-1 - (m : Int)) = true ∧ pndK ks (-1 - (m : Int)) = true := by
  obtain ⟨x, hx⟩ := h
  have hm : (-1 - (m : Int), true) ∈ ks := hx.mem_iff.2 (List.mem_cons_of_mem _ (pinL_mem h1 h2))
  obtain ⟨i, hi⟩ := List.getElem?_of_mem hm
  have hpl := plc_some (k := -1 - (m : Int)) hnd hi rfl
  rw [hasK_a hpl, pndK_a hpl, getD_some hi]
  exact ⟨rfl, rfl⟩
theorem piv_len {n : Nat} {ks : Ks} (h1 : 1 ≤ n) (h : PIV n ks) : (keyK ks).length = n := by
  obtain ⟨x, hx⟩ := h
  rw [keyK_len', hx.length_eq, List.length_cons]; exact pinL_len h1
def AllP (ks : Ks) (i : Nat) : Prop := ∀ m, m < i → (ks.getD m d0).2 = true
theorem allp_0 {ks : Ks} : AllP ks 0 := fun m h => absurd h (Nat.not_lt_zero _)
theorem pin_step {ks k0 : Ks} {i : Nat} {k : Int} (hnd : (keyK ks).Nodup) (hk : keyK ks = keyK k0) (hi : (keyK k0)[i]? = some k) (ha : AllP ks i) : errK ks k = 0 ∧ keyK (pinK ks k true) = keyK k0 ∧ AllP (pinK ks k true) (i + 1) := by
  have hil : i < ks.length := by
    have := (List.getElem?_eq_some_iff.1 hi).1
    rw [← hk, keyK_len'] at this; exact this
  have hat := key_at hil
  rw [hk, hi] at hat
  have hke : (ks.getD i d0).1 = k := (Option.some.inj hat).symm
  have hpl := plc_some (k := k) hnd (at_getD hil) hke
  rw [errK_a hpl, pinK_a hpl]
  refine ⟨rfl, ?_, ?_⟩
  · rw [← hk]
    unfold keyK
    apply List.ext_getElem?
    intro m
    rw [List.getElem?_map, List.getElem?_set, List.getElem?_map]
    by_cases e : i = m
    · subst e; rw [if_pos rfl, if_pos hil, at_getD hil]; rfl
    · rw [if_neg e]
  · intro m hm
    rw [List.getD_eq_getElem?_getD, List.getElem?_set]
    by_cases e : i = m
    · subst e; rw [if_pos rfl, if_pos hil]; rfl
    · rw [if_neg e, ← List.getD_eq_getElem?_getD]; exact ha m (by omega)
theorem all_full {n : Nat} {ks : Ks} (hl : ks.length = n) (ha : AllP ks n) (k : Int) : (hasK ks k = true ∧ touchO (n : Int) ks k = (0, false, 0) ∧ hasK (touchK (n : Int) ks k) k = true) ∨ (touchO (n : Int) ks k = (0, false, 10) ∧ touchK (n : Int) ks k = ks) := by
  cases hpl : plc ks k with
  | some i =>
    refine .inl ⟨hasK_a hpl, touchO_a hpl, ?_⟩
    obtain ⟨y, hy, hk⟩ := plc_is hpl
    rw [touchK_a hpl, getD_some hy, has_iff]
    show k ∈ y.1 :: _
    rw [hk]; exact List.mem_cons_self ..
  | none =>
    have hlt : ¬ (ks.length : Int) < (n : Int) := by omega
    have hlf : lfK ks ks.length = none := lfK_all (by rw [hl]; exact ha)
    exact .inr ⟨touchO_c hpl hlt hlf, touchK_c hpl hlt hlf⟩
section
variable {n : Nat} {ks k0 : Ks} (hl : ks.length = n) (ha : AllP ks n) (k : Int)
include hl ha
theorem full_gone : (touchO (n : Int) ks k).2.1 = false := by rcases all_full hl ha k with ⟨_, h, _⟩ | ⟨h, _⟩ <;> rw [h]
theorem full_ten (h : (touchO (n : Int) ks k).2.2 = 10) : touchK (n : Int) ks k = ks := by
  rcases all_full hl ha k with ⟨_, h2, _⟩ | ⟨_, h2⟩
  · rw [h2] at h; cases h
  · exact h2
theorem full_not (h : ¬ (touchO (n : Int) ks k).2.2 = 10) : hasK (touchK (n : Int) ks k) k = true := by
  rcases all_full hl ha k with ⟨_, _, h2⟩ | ⟨h2, _⟩
  · exact h2
  · rw [h2] at h; exact absurd rfl h
end
end Go.Proofs.Ytpbpenlceigddaa.Lru
