/- Proved: plain laws on a row of keys that are touched one behind the other; the conditions stand in the statements. -/
import Derived.Test.YtpbpenlceigddaaLruFacts
set_option linter.unusedVariables false
set_option linter.unusedSimpArgs false
set_option linter.unusedSectionVars false
namespace Go.Proofs.Ytpbpenlceigddaa.Lru
open Go Go.RowKit Go.Proofs.Ytpbpenlceigddaa.Eng

def FreeP (ks : Ks) : Prop := ∀ x ∈ ks, x.2 = false
theorem free_lf {ks : Ks} (h : FreeP ks) (hl : 0 < ks.length) : lfK ks ks.length = some (ks.length - 1) := by
  obtain ⟨m, hm⟩ : ∃ m, ks.length = m + 1 := ⟨ks.length - 1, by omega⟩
  rw [hm]
  exact lfK_free (h _ (List.mem_of_getElem? (at_getD (by omega))))
theorem free_touch {n : Nat} {ks : Ks} (h : FreeP ks) (hn : 1 ≤ n) (k : Int) : (touchO (n : Int) ks k).2.2 = 0 ∧ FreeP (touchK (n : Int) ks k) := by
  cases hpl : plc ks k with
  | some i =>
    rw [touchO_a hpl, touchK_a hpl]
    refine ⟨rfl, fun x hx => ?_⟩
    rcases List.mem_cons.1 hx with rfl | hx
    · exact h _ (List.mem_of_getElem? (at_getD (plc_lt hpl)))
    · exact h _ (List.mem_of_mem_eraseIdx hx)
  | none =>
    by_cases hlt : (ks.length : Int) < (n : Int)
    · rw [touchO_b hpl hlt, touchK_b hpl hlt]
      refine ⟨rfl, fun x hx => ?_⟩
      rcases List.mem_cons.1 hx with rfl | hx
      · rfl
      · exact h _ hx
    · have hlf := free_lf h (by omega)
      rw [touchO_d hpl hlt hlf, touchK_d hpl hlt hlf]
      refine ⟨rfl, fun x hx => ?_⟩
      rcases List.mem_cons.1 hx with rfl | hx
      · rfl
      · exact h _ (List.mem_of_mem_eraseIdx hx)
theorem erase_filter {k : Int} : ∀ {l : List Int} {i : Nat}, l.Nodup → l[i]? = some k → l.eraseIdx i = l.filter (fun x => x ≠ k)
  | [], i, _, h => by simp at h
  | a :: l, 0, hnd, h => by
    simp at h; subst h
    obtain ⟨h1, _⟩ := List.nodup_cons.1 hnd
    show l = _
    rw [List.filter_cons_of_neg (by simp)]
    exact (List.filter_eq_self.2 fun x hx => by simp; rintro rfl; exact h1 hx).symm
  | a :: l, i + 1, hnd, h => by
    obtain ⟨h1, h2⟩ := List.nodup_cons.1 hnd
    have h : l[i]? = some k := by simpa using h
    have hne : a ≠ k := by rintro rfl; exact h1 (List.mem_of_getElem? h)
    rw [List.eraseIdx_cons_succ, List.filter_cons_of_pos (by simpa using hne), erase_filter h2 h]
theorem filter_no {k : Int} {l : List Int} (h : k ∉ l) : l.filter (fun x => x ≠ k) = l := List.filter_eq_self.2 fun x hx => by simp; rintro rfl; exact h hx
theorem key_touch {n : Nat} {ks : Ks} (hf : FreeP ks) (hnd : (keyK ks).Nodup) (hle : ks.length ≤ n) (hn : 1 ≤ n) (k : Int) : keyK (touchK (n : Int) ks k) = (k :: (keyK ks).filter (fun x => x ≠ k)).take n := by
  have hkl := keyK_len' ks
  cases hpl : plc ks k with
  | some i =>
    obtain ⟨y, hy, hk⟩ := plc_is hpl
    have hi := plc_lt hpl
    have hat := key_at hi
    rw [getD_some hy, hk] at hat
    rw [touchK_a hpl, getD_some hy]
    show y.1 :: keyK (ks.eraseIdx i) = _
    rw [hk, key_erase, erase_filter hnd hat, List.take_of_length_le]
    rw [List.length_cons, ← erase_filter hnd hat, List.length_eraseIdx_of_lt (by omega)]; omega
  | none =>
    have hk := has_not.1 (hasK_n hpl)
    rw [filter_no hk]
    by_cases hlt : (ks.length : Int) < (n : Int)
    · rw [touchK_b hpl hlt, List.take_of_length_le (by rw [List.length_cons]; omega)]; rfl
    · rw [touchK_d hpl hlt (free_lf hf (by omega))]
      show k :: keyK (ks.eraseIdx (ks.length - 1)) = _
      obtain ⟨m, rfl⟩ : ∃ m, n = m + 1 := ⟨n - 1, by omega⟩
      rw [key_erase, List.take_succ_cons, List.eraseIdx_eq_take_drop_succ, List.drop_eq_nil_of_le (by omega), List.append_nil, show ks.length - 1 = m from by omega]
theorem take_filter {k : Int} : ∀ {A : List Int} {m : Nat}, A.Nodup → ((A.take (m + 1)).filter (fun x => x ≠ k)).take m = (A.filter (fun x => x ≠ k)).take m
  | [], m, _ => by simp
  | a :: A, m, hnd => by
    obtain ⟨h1, h2⟩ := List.nodup_cons.1 hnd
    rw [List.take_succ_cons]
    by_cases e : a = k
    · subst e
      rw [List.filter_cons_of_neg (by simp), List.filter_cons_of_neg (by simp), filter_no h1, filter_no (fun h => h1 (List.mem_of_mem_take h)), List.take_take, Nat.min_self]
    · rw [List.filter_cons_of_pos (by simpa using e), List.filter_cons_of_pos (by simpa using e)]
      cases m with
      | zero => rfl
      | succ m => rw [List.take_succ_cons, List.take_succ_cons, take_filter h2]
def stepU (acc : List Int) (x : Int) : List Int := if x ∈ acc then acc else acc ++ [x]
def U (xs : List Int) : List Int := xs.foldl stepU []
theorem U_snoc (xs : List Int) (x : Int) : U (xs ++ [x]) = stepU (U xs) x := by unfold U; rw [List.foldl_append]; rfl
theorem U_cons (x : Int) (xs : List Int) : U (x :: xs) = x :: (U xs).filter (fun y => y ≠ x) := by
  suffices h : ∀ ys : List Int, U (x :: ys.reverse) = x :: (U ys.reverse).filter (fun y => y ≠ x) by
    have := h xs.reverse
    rwa [List.reverse_reverse] at this
  intro ys
  induction ys with
  | nil => rfl
  | cons y ys ih =>
    rw [List.reverse_cons, ← List.cons_append, U_snoc, U_snoc, ih]
    unfold stepU
    by_cases e : y = x
    · subst e
      rw [if_pos (List.mem_cons_self ..)]
      split
      · rfl
      · rw [List.filter_append]; simp
    · by_cases hm : y ∈ U ys.reverse
      · rw [if_pos hm, if_pos (List.mem_cons_of_mem _ (List.mem_filter.2 ⟨hm, by simpa using e⟩))]
      · rw [if_neg hm, if_neg (fun h => by rcases List.mem_cons.1 h with h | h; exact e h; exact hm (List.mem_filter.1 h).1), List.filter_append, List.filter_cons_of_pos (by simpa using e)]; rfl
theorem U_nd (xs : List Int) : (U xs).Nodup := by
  suffices h : ∀ ys : List Int, (U ys.reverse).Nodup by
    have := h xs.reverse
    rwa [List.reverse_reverse] at this
  intro ys
  induction ys with
  | nil => exact List.nodup_nil
  | cons y ys ih =>
    rw [List.reverse_cons, U_snoc]
    unfold stepU
    split
    · exact ih
    · rename_i h
      exact (List.perm_append_singleton y (U ys.reverse)).nodup_iff.2 (List.nodup_cons.2 ⟨h, ih⟩)
theorem U_pre (xs ys : List Int) : ∃ t, U (xs ++ ys) = U xs ++ t := by
  suffices h : ∀ zs : List Int, ∃ t, U (xs ++ zs.reverse) = U xs ++ t by
    have := h ys.reverse
    rwa [List.reverse_reverse] at this
  intro zs
  induction zs with
  | nil => exact ⟨[], by simp⟩
  | cons z zs ih =>
    obtain ⟨t, ht⟩ := ih
    rw [List.reverse_cons, ← List.append_assoc, U_snoc, ht]
    unfold stepU
    split
    · exact ⟨t, rfl⟩
    · exact ⟨t ++ [z], by rw [List.append_assoc]⟩
def tAll (n : Nat) (L : List Int) : Nat → Ks
  | 0 => []
  | j + 1 => touchK (n : Int) (tAll n L j) (L.getD j 0)
theorem tAll_s {n : Nat} {L : List Int} {j : Nat} {x : Int} (h : L[j]? = some x) : touchK (n : Int) (tAll n L j) x = tAll n L (j + 1) := by
  rw [tAll, List.getD_eq_getElem?_getD, h]; rfl
theorem tAll_free {n : Nat} (hn : 1 ≤ n) (L : List Int) (j : Nat) : FreeP (tAll n L j) := by
  induction j with
  | zero => intro x hx; cases hx
  | succ j ih => exact (free_touch ih hn _).2
theorem tAll_nd {n : Nat} (L : List Int) (j : Nat) : (keyK (tAll n L j)).Nodup := by
  induction j with
  | zero => exact List.nodup_nil
  | succ j ih => exact (touch_facts (r := (n : Int)) ih _).nd
theorem tAll_key {n : Nat} (hn : 1 ≤ n) (L : List Int) : ∀ j, j ≤ L.length → keyK (tAll n L j) = (U (L.take j).reverse).take n ∧ (tAll n L j).length ≤ n
  | 0, _ => ⟨by simp [tAll, keyK, U], Nat.zero_le _⟩
  | j + 1, hj => by
    obtain ⟨h1, h2⟩ := tAll_key hn L j (by omega)
    have hx : L[j]? = some L[j] := List.getElem?_eq_getElem (by omega)
    have hk : keyK (tAll n L (j + 1)) = (U (L.take (j + 1)).reverse).take n := by
      rw [← tAll_s hx, key_touch (tAll_free hn L j) (tAll_nd L j) h2 hn, h1, List.take_succ_eq_append_getElem (by omega), List.reverse_append, List.reverse_singleton, List.singleton_append, U_cons]
      obtain ⟨m, rfl⟩ : ∃ m, n = m + 1 := ⟨n - 1, by omega⟩
      rw [List.take_succ_cons, List.take_succ_cons, take_filter (U_nd _)]
    refine ⟨hk, ?_⟩
    have := congrArg List.length hk
    rw [keyK_len', List.length_take] at this
    omega
/-- The row wanted, told from the end. -/
def Wt (L : List Int) (c : Nat) : List Int := U (L.reverse.take c)
theorem Wt_0 (L : List Int) : Wt L 0 = [] := by unfold Wt; rfl
theorem Wt_s {L : List Int} {c i : Nat} {x : Int} (h : L[i]? = some x) (hi : L.length = c + 1 + i) : Wt L (c + 1) = stepU (Wt L c) x := by
  unfold Wt
  have hr : L.reverse[c]? = some x := by
    rw [List.getElem?_reverse (by omega), show L.length - 1 - c = i from by omega]; exact h
  have hlt : c < L.reverse.length := by rw [List.length_reverse]; omega
  rw [List.take_succ_eq_append_getElem hlt, U_snoc, (List.getElem?_eq_some_iff.1 hr).2]
theorem Wt_new {L : List Int} {c i : Nat} {x : Int} (h : L[i]? = some x) (hi : L.length = c + 1 + i) (hx : ¬ x ∈ Wt L c) : Wt L c ++ [x] = Wt L (c + 1) := by rw [Wt_s h hi, stepU, if_neg hx]
theorem Wt_old {L : List Int} {c i : Nat} {x : Int} (h : L[i]? = some x) (hi : L.length = c + 1 + i) (hx : x ∈ Wt L c) : Wt L (c + 1) = Wt L c := by rw [Wt_s h hi, stepU, if_pos hx]
theorem Wt_end {n : Nat} (hn : 1 ≤ n) {L : List Int} {c : Nat} (hl : (Wt L c).length ≤ n) (h : L.length ≤ c ∨ n ≤ (Wt L c).length) : keyK (tAll n L L.length) = Wt L c := by
  rw [(tAll_key hn L L.length (Nat.le_refl _)).1, List.take_length]
  rcases h with h | h
  · unfold Wt at hl ⊢
    rw [List.take_of_length_le (l := L.reverse) (by rw [List.length_reverse]; exact h)] at hl ⊢
    exact List.take_of_length_le hl
  · obtain ⟨t, ht⟩ := U_pre (L.reverse.take c) (L.reverse.drop c)
    rw [List.take_append_drop] at ht
    rw [ht]
    have : n = (U (L.reverse.take c)).length := Nat.le_antisymm h hl
    rw [this, List.take_left]; rfl
theorem Wt_len (L : List Int) (c : Nat) : (Wt L c).length ≤ c := by
  have key : ∀ xs : List Int, (U xs.reverse).length ≤ xs.length := by
    intro xs
    induction xs with
    | nil => exact Nat.le_refl _
    | cons y ys ih =>
      rw [List.reverse_cons, U_snoc, stepU, List.length_cons]
      split
      · omega
      · rw [List.length_append, List.length_singleton]; omega
  have := key (L.reverse.take c).reverse
  rw [List.reverse_reverse, List.length_reverse, List.length_take] at this
  unfold Wt; omega
theorem any_t {W : List Int} {x : Int} {m : Nat} (h : decide (x ∈ W.take m) = true) : true = decide (x ∈ W.take (m + 1)) := by
  refine (decide_eq_true ?_).symm
  have := of_decide_eq_true h
  exact (List.take_subset_take_left W (Nat.le_succ m)) this
theorem any_f {W : List Int} {x : Int} {m : Nat} (hm : m < W.length) (h : decide (x ∈ W.take m) = false) : decide (W[m] = x) = decide (x ∈ W.take (m + 1)) := by
  have := of_decide_eq_false h
  rw [List.take_succ_eq_append_getElem hm]
  refine decide_eq_decide.2 ⟨fun h => List.mem_append_right _ (List.mem_singleton.2 h.symm), fun h => ?_⟩
  rcases List.mem_append.1 h with h | h
  · exact absurd h this
  · exact (List.mem_singleton.1 h).symm
end Go.Proofs.Ytpbpenlceigddaa.Lru
