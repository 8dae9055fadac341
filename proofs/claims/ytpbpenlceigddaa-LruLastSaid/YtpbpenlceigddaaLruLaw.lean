/- Proved: how a list of package lru lies in memory, and what its functions come to in plain words; the conditions stand in the statements. -/
import Derived.Test.YtpbpenlceigddaaLruBase
set_option linter.unusedVariables false
set_option linter.unusedSimpArgs false
set_option linter.unnecessarySimpa false
set_option linter.unusedSectionVars false
namespace Go.Proofs.Ytpbpenlceigddaa.Lru
open Go Go.RowKit Go.Proofs.Ytpbpenlceigddaa.Eng

theorem um46 : Try.prog.underlying 46 = some (.map (Try.prog.mapKeyOf 46) (Try.prog.mapElemOf 46)) := by kernel_rfl

/-! ### A ring -/
def W (e : Nat) (gs : List Nat) (j : Nat) : Nat := (e :: (gs ++ [e])).getD j e
theorem W_0 (e : Nat) (gs : List Nat) : W e gs 0 = e := rfl
theorem W_s (e : Nat) (gs : List Nat) (j : Nat) (h : j < gs.length) : W e gs (j + 1) = gs[j] := by
  unfold W
  rw [List.getD_cons_succ, List.getD_eq_getElem?_getD, List.getElem?_append_left h, List.getElem?_eq_getElem h]; rfl
theorem W_n (e : Nat) (gs : List Nat) : W e gs (gs.length + 1) = e := by
  unfold W
  rw [List.getD_cons_succ, List.getD_eq_getElem?_getD]; simp
theorem W_mem (e : Nat) (gs : List Nat) (j : Nat) : W e gs j ∈ e :: gs := by
  cases j with
  | zero => exact List.mem_cons_self ..
  | succ j =>
    by_cases h : j < gs.length
    · rw [W_s e gs j h]; exact List.mem_cons_of_mem _ (List.getElem_mem h)
    · unfold W
      rw [List.getD_cons_succ, List.getD_eq_getElem?_getD]
      by_cases h2 : j = gs.length
      · subst h2; simp
      · rw [List.getElem?_eq_none (by simp; omega)]; exact List.mem_cons_self ..
def Lk (f : Nat → Nd) (e : Nat) (gs : List Nat) : Prop := ∀ i, i ≤ gs.length → (f (W e gs i)).b = PP (W e gs (i + 1)) ∧ (f (W e gs (i + 1))).a = PP (W e gs i)
def unl (f : Nat → Nd) (x p q : Nat) : Nat → Nd := setA (setB f p (PP q)) q (PP p)
def frs (f : Nat → Nd) (x e h : Nat) : Nat → Nd := setA (setB (setB (setA f x (PP e)) x (PP h)) e (PP x)) h (PP x)
theorem ne_mem {a b : Nat} {l : List Nat} (h : a ∈ l) (h2 : b ∉ l) : a ≠ b := by rintro rfl; exact h2 h
theorem putN_ne (f : Nat → Nd) (g i : Nat) {x : Nd} (h : i ≠ g) : putN f g x i = f i := if_neg h
theorem putN_is (f : Nat → Nd) (g : Nat) (x : Nd) : putN f g x g = x := if_pos rfl
theorem unl_k (f : Nat → Nd) (x p q i : Nat) : (unl f x p q i).k = (f i).k := (setA_k ..).trans (setB_k ..)
theorem unl_p (f : Nat → Nd) (x p q i : Nat) : (unl f x p q i).p = (f i).p := (setA_p ..).trans (setB_p ..)
theorem frs_k (f : Nat → Nd) (x e h i : Nat) : (frs f x e h i).k = (f i).k := by simp only [frs, setA_k, setB_k]
theorem frs_p (f : Nat → Nd) (x e h i : Nat) : (frs f x e h i).p = (f i).p := by simp only [frs, setA_p, setB_p]
/-- The last place behind which nothing is free: of the first j, counted from 0. -/
def lf (f : Nat → Nd) (e : Nat) (gs : List Nat) : Nat → Option Nat
  | 0 => none
  | j + 1 => if (f (W e gs (j + 1))).p = false then some j else lf f e gs j
theorem lf_pin {f : Nat → Nd} {e : Nat} {gs : List Nat} {j : Nat} (hj : j ≠ 0) (h : (f (W e gs j)).p = true) : lf f e gs j = lf f e gs (j - 1) := by
  cases j with
  | zero => exact absurd rfl hj
  | succ j => rw [lf, if_neg (by rw [h]; decide)]; rfl
theorem lf_free {f : Nat → Nd} {e : Nat} {gs : List Nat} {j : Nat} (hj : j ≠ 0) (h : (f (W e gs j)).p = false) : lf f e gs j = some (j - 1) := by
  cases j with
  | zero => exact absurd rfl hj
  | succ j => rw [lf, if_pos h]; rfl
theorem W_zero {e : Nat} {gs : List Nat} {j : Nat} (hnd : (e :: gs).Nodup) (hj : j ≤ gs.length) (h : W e gs j = e) : j = 0 := by
  cases j with
  | zero => rfl
  | succ j =>
    rw [W_s e gs j (by omega)] at h
    exact absurd (h ▸ List.getElem_mem (by omega)) (List.nodup_cons.1 hnd).1
theorem W_lt {e : Nat} {gs : List Nat} {j : Nat} (hj : j ≤ gs.length) (h : W e gs (j + 1) ≠ e) : j < gs.length := by
  rcases Nat.lt_or_ge j gs.length with h1 | h1
  · exact h1
  · have : j = gs.length := by omega
    subst this; exact absurd (W_n e gs) h
theorem W_eq {e : Nat} {gs : List Nat} {j : Nat} (hnd : (e :: gs).Nodup) (hj : j ≤ gs.length) (h : W e gs (j + 1) = e) : j = gs.length := by
  rcases Nat.lt_or_ge j gs.length with h1 | h1
  · have := W_zero hnd (by omega) h; omega
  · omega
def kys (f : Nat → Nd) (gs : List Nat) (j : Nat) : List Int := (gs.take j).map fun g => (f g).k
theorem kys_s (f : Nat → Nd) (e : Nat) (gs : List Nat) (j : Nat) (h : j < gs.length) : kys f gs j ++ [(f (W e gs (j + 1))).k] = kys f gs (j + 1) := by
  unfold kys
  rw [List.take_succ_eq_append_getElem h, List.map_append, W_s e gs j h]; rfl
theorem kys_len (f : Nat → Nd) (gs : List Nat) (j : Nat) (h : j ≤ gs.length) : (kys f gs j).length = j := by
  unfold kys
  rw [List.length_map, List.length_take]; omega
theorem lookM_none {mp : List (Int × Nat)} {k : Int} : lookM mp k = none ↔ ∀ p ∈ mp, p.1 ≠ k := by
  unfold lookM
  simp [Option.map_eq_none_iff, List.find?_eq_none]
theorem lookM_cut {mp mp' : List (Int × Nat)} {k : Int} {a : Int × Nat} (h : lookM mp k = none) (hp : mp.Perm (a :: mp')) : lookM mp' k = none :=
  lookM_none.2 fun p hp' => lookM_none.1 h p (hp.mem_iff.2 (List.mem_cons_of_mem _ hp'))
theorem len_eq {a : Option Addr} {m n c : Nat} (h : m = n) : Value.slice a m c = .slice a n c := by rw [h]
end Go.Proofs.Ytpbpenlceigddaa.Lru
