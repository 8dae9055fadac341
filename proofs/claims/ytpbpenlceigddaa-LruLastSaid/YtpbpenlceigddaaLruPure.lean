/- Proved: how a ring of nodes turns, and what a list's acts come to as acts on a row of keys; the conditions stand in the statements. -/
import Derived.Test.YtpbpenlceigddaaLruLaw
set_option linter.unusedVariables false
set_option linter.unusedSimpArgs false
set_option linter.unnecessarySimpa false
set_option linter.unusedSectionVars false
namespace Go.Proofs.Ytpbpenlceigddaa.Lru
open Go Go.RowKit Go.Proofs.Ytpbpenlceigddaa.Eng

/-! ### The ring's turns -/
theorem W_inj {e : Nat} {gs : List Nat} {i j : Nat} (hnd : (e :: gs).Nodup) (hi : i ≤ gs.length) (hj : j ≤ gs.length) (h : W e gs i = W e gs j) : i = j := by
  have g : ∀ m, m ≤ gs.length → (e :: gs)[m]? = some (W e gs m) := by
    intro m hm
    cases m with
    | zero => rfl
    | succ m => rw [W_s e gs m hm, List.getElem?_cons_succ, List.getElem?_eq_getElem]
  have h1 := (List.getElem?_eq_some_iff.1 (g i hi))
  have h2 := (List.getElem?_eq_some_iff.1 (g j hj))
  exact (List.getElem_inj hnd).1 (h1.2.trans (h.trans h2.2.symm))
theorem W_inj2 {e : Nat} {gs : List Nat} {i j : Nat} (hnd : (e :: gs).Nodup) (hi : i ≤ gs.length) (hj : j ≤ gs.length) (h : W e gs (i + 1) = W e gs (j + 1)) : i = j := by
  rcases Nat.lt_or_ge i gs.length with h1 | h1
  · rcases Nat.lt_or_ge j gs.length with h2 | h2
    · have := W_inj hnd (i := i + 1) (j := j + 1) (by omega) (by omega) h; omega
    · have e2 : j = gs.length := by omega
      subst e2
      rw [W_n] at h
      have := W_zero hnd (j := i + 1) (by omega) h; omega
  · have e1 : i = gs.length := by omega
    subst e1
    rw [W_n] at h
    rcases Nat.lt_or_ge j gs.length with h2 | h2
    · have := W_zero hnd (j := j + 1) (by omega) h.symm; omega
    · omega
theorem W_cons (e x : Nat) (gs : List Nat) (j : Nat) : W e (x :: gs) (j + 2) = W e gs (j + 1) := rfl
theorem W_cons1 (e x : Nat) (gs : List Nat) : W e (x :: gs) 1 = x := rfl
theorem W_erase (e : Nat) (gs : List Nat) (i j : Nat) (hi : i < gs.length) (hj : j ≤ gs.length) : W e (gs.eraseIdx i) j = if j ≤ i then W e gs j else W e gs (j + 1) := by
  have hl : (gs.eraseIdx i).length = gs.length - 1 := List.length_eraseIdx_of_lt hi
  cases j with
  | zero => rw [if_pos (Nat.zero_le _)]; rfl
  | succ j =>
    rcases Nat.lt_or_ge j (gs.length - 1) with h1 | h1
    · rw [W_s _ _ _ (by omega), List.getElem_eraseIdx]
      by_cases h2 : j < i
      · rw [dif_pos h2, if_pos (by omega), W_s _ _ _ (by omega)]
      · rw [dif_neg h2, if_neg (by omega), W_s _ _ _ (by omega)]
    · have e1 : j = (gs.eraseIdx i).length := by omega
      have e2 : W e (gs.eraseIdx i) (j + 1) = e := by rw [e1]; exact W_n e _
      rw [e2, if_neg (by omega)]
      have e3 : j + 1 = gs.length := by omega
      rw [e3]; exact (W_n e gs).symm
theorem unlink_lk {f : Nat → Nd} {e : Nat} {gs : List Nat} {i : Nat} (hnd : (e :: gs).Nodup) (hlk : Lk f e gs) (hi : i < gs.length) : Lk (unl f (W e gs (i + 1)) (W e gs i) (W e gs (i + 1 + 1))) e (gs.eraseIdx i) := by
  have hl : (gs.eraseIdx i).length = gs.length - 1 := List.length_eraseIdx_of_lt hi
  intro j hj
  rw [hl] at hj
  rw [W_erase e gs i j hi (by omega), W_erase e gs i (j + 1) hi (by omega)]
  have keyB : ∀ u, u ≤ gs.length → u ≠ i → (unl f (W e gs (i + 1)) (W e gs i) (W e gs (i + 1 + 1)) (W e gs u)).b = (f (W e gs u)).b := by
    intro u hu hne
    unfold unl
    rw [setA_b, setB_ne _ _ _ _ (fun h => hne (W_inj hnd hu (by omega) h))]
  have keyA : ∀ u, u ≤ gs.length → u ≠ i + 1 → (unl f (W e gs (i + 1)) (W e gs i) (W e gs (i + 1 + 1)) (W e gs (u + 1))).a = (f (W e gs (u + 1))).a := by
    intro u hu hne
    unfold unl
    rw [setA_ne _ _ _ _ (fun h => hne (W_inj2 hnd hu (by omega) h)), setB_a]
  rcases Nat.lt_trichotomy j i with h | h | h
  · rw [if_pos (by omega), if_pos (by omega), keyB j (by omega) (by omega), keyA j (by omega) (by omega)]
    exact hlk j (by omega)
  · subst h
    rw [if_pos (Nat.le_refl _), if_neg (by omega)]
    unfold unl
    rw [setA_b, setB_b, setA_a]
    exact ⟨rfl, rfl⟩
  · rw [if_neg (by omega), if_neg (by omega), keyB (j + 1) (by omega) (by omega), keyA (j + 1) (by omega) (by omega)]
    exact hlk (j + 1) (by omega)
theorem first_lk {f : Nat → Nd} {e x : Nat} {gs : List Nat} (hnd : (e :: gs).Nodup) (hlk : Lk f e gs) (hx : x ∉ e :: gs) : Lk (frs f x e (W e gs 1)) e (x :: gs) := by
  have hne : ∀ u, W e gs u ≠ x := fun u h => hx (h ▸ W_mem e gs u)
  have hxe : x ≠ e := fun h => hx (h ▸ List.mem_cons_self ..)
  intro j hj
  simp only [List.length_cons] at hj
  unfold frs
  rcases j with _ | _ | j
  · show (_ : Value) = PP x ∧ _
    rw [setA_b, W_0, setB_b]
    refine ⟨rfl, ?_⟩
    show (setA (setB (setB (setA f x (PP e)) x (PP (W e gs 1))) e (PP x)) (W e gs 1) (PP x) x).a = PP e
    rw [setA_ne _ _ _ _ (fun h => hne 1 h.symm), setB_a, setB_a, setA_a]
  · show (setA (setB (setB (setA f x (PP e)) x (PP (W e gs 1))) e (PP x)) (W e gs 1) (PP x) x).b = PP (W e gs 1) ∧ (setA (setB (setB (setA f x (PP e)) x (PP (W e gs 1))) e (PP x)) (W e gs 1) (PP x) (W e gs 1)).a = PP x
    rw [setA_b, setB_ne _ _ _ _ hxe, setB_b, setA_a]
    exact ⟨rfl, rfl⟩
  · rw [W_cons, W_cons]
    rw [setA_b, setB_ne _ _ _ _ (fun h => by have := W_zero hnd (j := j + 1) (by omega) h; omega), setB_ne _ _ _ _ (hne _), setA_b,
      setA_ne _ _ _ _ (fun h => by have := W_inj2 hnd (i := j + 1) (j := 0) (by omega) (by omega) h; omega), setB_a, setB_a, setA_ne _ _ _ _ (hne _)]
    exact hlk (j + 1) (by omega)
theorem lk_congr {f f' : Nat → Nd} {e : Nat} {gs : List Nat} (hlk : Lk f e gs) (h : ∀ g ∈ e :: gs, (f' g).a = (f g).a ∧ (f' g).b = (f g).b) : Lk f' e gs := by
  intro j hj
  rw [(h _ (W_mem e gs j)).2, (h _ (W_mem e gs (j + 1))).1]
  exact hlk j hj

/-! ### Rows of keys -/
abbrev Ks := List (Int × Bool)
def d0 : Int × Bool := (0, false)
def plc (ks : Ks) (k : Int) : Option Nat := ks.findIdx? fun p => p.1 = k
def lfK (ks : Ks) : Nat → Option Nat
  | 0 => none
  | j + 1 => if (ks.getD j d0).2 = false then some j else lfK ks j
def touchO (r : Int) (ks : Ks) (k : Int) : Int × Bool × Int :=
  match plc ks k with
  | some _ => (0, false, 0)
  | none => if (ks.length : Int) < r then (0, false, 0) else match lfK ks ks.length with
    | none => (0, false, 10)
    | some j => ((ks.getD j d0).1, true, 0)
def touchK (r : Int) (ks : Ks) (k : Int) : Ks :=
  match plc ks k with
  | some i => ks.getD i d0 :: ks.eraseIdx i
  | none => if (ks.length : Int) < r then (k, false) :: ks else match lfK ks ks.length with
    | none => ks
    | some j => (k, false) :: ks.eraseIdx j
def errK (ks : Ks) (k : Int) : Int := match plc ks k with | some _ => 0 | none => 7
def pinK (ks : Ks) (k : Int) (b : Bool) : Ks := match plc ks k with | some i => ks.set i ((ks.getD i d0).1, b) | none => ks
def dropK (ks : Ks) (k : Int) : Ks := match plc ks k with | some i => ks.eraseIdx i | none => ks
def hasK (ks : Ks) (k : Int) : Bool := (plc ks k).isSome
def pndK (ks : Ks) (k : Int) : Bool := match plc ks k with | some i => (ks.getD i d0).2 | none => false
def keyK (ks : Ks) : List Int := ks.map (·.1)
theorem getD_some {ks : Ks} {i : Nat} {x : Int × Bool} (h : ks[i]? = some x) : ks.getD i d0 = x := by rw [List.getD_eq_getElem?_getD, h]; rfl
theorem plc_some {ks : Ks} {k : Int} {i : Nat} {x : Int × Bool} (hnd : (ks.map (·.1)).Nodup) (h : ks[i]? = some x) (hk : x.1 = k) : plc ks k = some i := by
  unfold plc
  rw [List.findIdx?_eq_some_iff_getElem]
  obtain ⟨h1, h2⟩ := List.getElem?_eq_some_iff.1 h
  refine ⟨h1, by simp [h2, hk], fun j hj => ?_⟩
  simp only [decide_eq_true_eq]
  intro hjk
  have e1 : (ks.map (·.1))[j]'(by simp; omega) = (ks.map (·.1))[i]'(by simpa using h1) := by simp [h2, hk, hjk]
  have := (List.getElem_inj hnd).1 e1
  omega
theorem plc_is {ks : Ks} {k : Int} {i : Nat} (h : plc ks k = some i) : ∃ x, ks[i]? = some x ∧ x.1 = k := by
  unfold plc at h
  rw [List.findIdx?_eq_some_iff_getElem] at h
  obtain ⟨h1, h2, _⟩ := h
  exact ⟨_, List.getElem?_eq_getElem h1, by simpa using h2⟩
theorem plc_none {ks : Ks} {k : Int} : plc ks k = none ↔ ∀ x ∈ ks, x.1 ≠ k := by
  unfold plc
  simp [List.findIdx?_eq_none_iff]
theorem take_next {α : Type} {l m : List α} {j : Nat} (h : l.take j = m.take j) (h1 : j < l.length) (h2 : j < m.length) (e : l[j] = m[j]) : l.take (j + 1) = m.take (j + 1) := by
  rw [List.take_succ_eq_append_getElem h1, List.take_succ_eq_append_getElem h2, h, e]
theorem take_all {α : Type} {l m : List α} {j : Nat} (h : l.take j = m.take j) (h1 : l.length ≤ j) (h2 : m.length ≤ j) : l = m := by
  rwa [List.take_of_length_le h1, List.take_of_length_le h2] at h
end Go.Proofs.Ytpbpenlceigddaa.Lru
