/- Proved: how the reference's list lies in memory, and plain laws on its row of keys; the conditions stand in the statements. -/
import Derived.Test.YtpbpenlceigddaaLruPure
set_option linter.unusedVariables false
set_option linter.unusedSimpArgs false
set_option linter.unusedSectionVars false
namespace Go.Proofs.Ytpbpenlceigddaa.Lru
open Go Go.RowKit Go.Proofs.Ytpbpenlceigddaa.Eng

theorem _root_.Go.Proofs.Ytpbpenlceigddaa.Eng.SlG.rd' {w0 : World} {S : Nat → Prop} {H : Hp} {α : Type} {E : Enc α} {l : List α} {a : Option Addr} {b o cap : Nat} (h : SlG E w0 S H l a b o cap) {i : Nat} {x : α} (hx : l[i]? = some x) : Rd w0 S H b (o + i * E.sz) (E.enc x) := by
  obtain ⟨hi, rfl⟩ := List.getElem?_eq_some_iff.1 hx
  exact h.rd i hi
def RefK (gr : Nat) (r : Int) (ks : Ks) (H : Hp) : Prop := ∃ (a : Option Addr) (g cap : Nat) (Hs : Hp), H = [(gr, .cells #[.int .i64 r, .slice a ks.length cap] 59 (0, 0))] ++ Hs ∧ OwnV eKey 62 ks a g cap Hs
theorem refk_eq {gr : Nat} {r : Int} {ks ks' : Ks} {H : Hp} (h : ks' = ks) (hR : RefK gr r ks H) : RefK gr r ks' H := by subst h; exact hR
theorem at_getD {l : Ks} {i : Nat} (h : i < l.length) : l[i]? = some (l.getD i d0) := by
  rw [List.getD_eq_getElem?_getD, List.getElem?_eq_getElem h]; rfl
theorem key_set (l : Ks) (i : Nat) (h : i < l.length) (b : Bool) : (eKey.enc l[i]).take 1 ++ (Value.bool b).cells.toList ++ (eKey.enc l[i]).drop (1 + (Value.bool b).cells.size) = eKey.enc ((l.getD i d0).1, b) := by
  rw [show l.getD i d0 = l[i] from by rw [List.getD_eq_getElem?_getD, List.getElem?_eq_getElem h]; rfl]
  simp [eKey, Value.cells]
def placeI (ks : Ks) (k : Int) : Int := match plc ks k with | some i => i | none => -1
theorem placeI_some {ks : Ks} {k : Int} {i : Nat} (h : plc ks k = some i) : placeI ks k = i := by unfold placeI; rw [h]
theorem placeI_none {ks : Ks} {k : Int} (h : plc ks k = none) : placeI ks k = -1 := by unfold placeI; rw [h]
def NoK (ks : Ks) (k : Int) (j : Nat) : Prop := ∀ i, i < j → (ks.getD i d0).1 ≠ k
theorem nok_0 {ks : Ks} {k : Int} : NoK ks k 0 := fun i h => absurd h (Nat.not_lt_zero i)
theorem nok_s {ks : Ks} {k : Int} {j : Nat} (h : NoK ks k j) (e : ¬ (ks.getD j d0).1 = k) : NoK ks k (j + 1) := fun i hi => by
  rcases Nat.lt_or_ge i j with h1 | h1
  · exact h i h1
  · have : i = j := by omega
    subst this; exact e
theorem place_t {ks : Ks} {k : Int} {j : Nat} (h : NoK ks k j) (hj : j < ks.length) (e : (ks.getD j d0).1 = k) : placeI ks k = j := by
  refine placeI_some ?_
  unfold plc
  rw [List.findIdx?_eq_some_iff_getElem]
  have g : ∀ i (hi : i < ks.length), ks.getD i d0 = ks[i] := fun i hi => by rw [List.getD_eq_getElem?_getD, List.getElem?_eq_getElem hi]; rfl
  refine ⟨hj, by rw [← g j hj]; simpa using e, fun i hi => ?_⟩
  rw [← g i (by omega)]
  simpa using h i hi
theorem place_f {ks : Ks} {k : Int} (h : NoK ks k ks.length) : placeI ks k = -1 := by
  refine placeI_none (plc_none.2 fun x hx => ?_)
  obtain ⟨i, hi⟩ := List.getElem?_of_mem hx
  rw [← getD_some hi]
  exact h i (List.getElem?_eq_some_iff.1 hi).1
theorem plc_lt {ks : Ks} {k : Int} {i : Nat} (h : plc ks k = some i) : i < ks.length := by
  obtain ⟨x, hx, _⟩ := plc_is h
  exact (List.getElem?_eq_some_iff.1 hx).1
theorem erase_eq (ks : Ks) (i : Nat) (hi : i < ks.length) : ks.eraseIdx i = ks.take i ++ (ks.drop (i + 1)).take (ks.length - (i + 1)) := by
  rw [List.take_of_length_le (l := ks.drop (i + 1)) (by rw [List.length_drop]; omega)]
  exact List.eraseIdx_eq_take_drop_succ ..
theorem lfK_free {ks : Ks} {j : Nat} (h : (ks.getD j d0).2 = false) : lfK ks (j + 1) = some j := if_pos h
theorem lfK_pin {ks : Ks} {j : Nat} (h : (ks.getD j d0).2 = true) : lfK ks (j + 1) = lfK ks j := if_neg (by rw [h]; decide)
theorem lfK_lt {ks : Ks} {i : Nat} : ∀ {j : Nat}, lfK ks j = some i → i < j
  | 0, h => by cases h
  | j + 1, h => by
    unfold lfK at h
    split at h
    · cases h; omega
    · have := lfK_lt h; omega
section
variable {ks : Ks} {k r : Int} {i : Nat} {b : Bool}
theorem touchK_a (h : plc ks k = some i) : touchK r ks k = ks.getD i d0 :: ks.eraseIdx i := by unfold touchK; rw [h]
theorem touchK_b (h : plc ks k = none) (hlt : (ks.length : Int) < r) : touchK r ks k = (k, false) :: ks := by unfold touchK; rw [h]; simp only; rw [if_pos hlt]
theorem touchK_c (h : plc ks k = none) (hlt : ¬ (ks.length : Int) < r) (hl : lfK ks ks.length = none) : touchK r ks k = ks := by unfold touchK; rw [h]; simp only; rw [if_neg hlt, hl]
theorem touchK_d (h : plc ks k = none) (hlt : ¬ (ks.length : Int) < r) (hl : lfK ks ks.length = some i) : touchK r ks k = (k, false) :: ks.eraseIdx i := by unfold touchK; rw [h]; simp only; rw [if_neg hlt, hl]
theorem touchO_a (h : plc ks k = some i) : touchO r ks k = (0, false, 0) := by unfold touchO; rw [h]
theorem touchO_b (h : plc ks k = none) (hlt : (ks.length : Int) < r) : touchO r ks k = (0, false, 0) := by unfold touchO; rw [h]; simp only; rw [if_pos hlt]
theorem touchO_c (h : plc ks k = none) (hlt : ¬ (ks.length : Int) < r) (hl : lfK ks ks.length = none) : touchO r ks k = (0, false, 10) := by unfold touchO; rw [h]; simp only; rw [if_neg hlt, hl]
theorem touchO_d (h : plc ks k = none) (hlt : ¬ (ks.length : Int) < r) (hl : lfK ks ks.length = some i) : touchO r ks k = ((ks.getD i d0).1, true, 0) := by unfold touchO; rw [h]; simp only; rw [if_neg hlt, hl]
theorem pinK_a (h : plc ks k = some i) : pinK ks k b = ks.set i ((ks.getD i d0).1, b) := by unfold pinK; rw [h]
theorem pinK_n (h : plc ks k = none) : pinK ks k b = ks := by unfold pinK; rw [h]
theorem dropK_a (h : plc ks k = some i) : dropK ks k = ks.eraseIdx i := by unfold dropK; rw [h]
theorem dropK_n (h : plc ks k = none) : dropK ks k = ks := by unfold dropK; rw [h]
theorem errK_a (h : plc ks k = some i) : errK ks k = 0 := by unfold errK; rw [h]
theorem errK_n (h : plc ks k = none) : errK ks k = 7 := by unfold errK; rw [h]
theorem hasK_a (h : plc ks k = some i) : hasK ks k = true := by unfold hasK; rw [h]; rfl
theorem hasK_n (h : plc ks k = none) : hasK ks k = false := by unfold hasK; rw [h]; rfl
theorem pndK_a (h : plc ks k = some i) : pndK ks k = (ks.getD i d0).2 := by unfold pndK; rw [h]
theorem pndK_n (h : plc ks k = none) : pndK ks k = false := by unfold pndK; rw [h]
end
def kyR (ks : Ks) (j : Nat) : List Int := (ks.take j).map (·.1)
theorem kyR_s (ks : Ks) (j : Nat) (h : j < ks.length) : kyR ks j ++ [(ks.getD j d0).1] = kyR ks (j + 1) := by
  unfold kyR
  rw [List.take_succ_eq_append_getElem h, List.map_append, List.getD_eq_getElem?_getD, List.getElem?_eq_getElem h]; rfl
theorem kyR_len (ks : Ks) (j : Nat) (h : j ≤ ks.length) : (kyR ks j).length = j := by
  unfold kyR
  rw [List.length_map, List.length_take]; omega
theorem kyR_all (ks : Ks) : kyR ks ks.length = keyK ks := by unfold kyR keyK; rw [List.take_length]
end Go.Proofs.Ytpbpenlceigddaa.Lru
