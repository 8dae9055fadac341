/- Proved: plain laws on a row of keys under its acts; the conditions stand in the statements. -/
import Derived.Test.YtpbpenlceigddaaLruRef
set_option linter.unusedVariables false
set_option linter.unusedSimpArgs false
set_option linter.unusedSectionVars false
namespace Go.Proofs.Ytpbpenlceigddaa.Lru
open Go Go.RowKit Go.Proofs.Ytpbpenlceigddaa.Eng

theorem keyK_len' (ks : Ks) : (keyK ks).length = ks.length := List.length_map _
theorem errK_has (ks : Ks) (k : Int) : decide (errK ks k = 0) = hasK ks k := by
  unfold errK hasK
  cases plc ks k <;> rfl
theorem has_iff {ks : Ks} {k : Int} : hasK ks k = true ↔ k ∈ keyK ks := by
  unfold hasK keyK
  cases hpl : plc ks k with
  | some i =>
    obtain ⟨x, hx, hk⟩ := plc_is hpl
    exact ⟨fun _ => List.mem_map.2 ⟨x, List.mem_of_getElem? hx, hk⟩, fun _ => rfl⟩
  | none =>
    refine ⟨fun h => (by cases h), fun h => ?_⟩
    obtain ⟨x, hx, hk⟩ := List.mem_map.1 h
    exact absurd hk (plc_none.1 hpl x hx)
theorem has_not {ks : Ks} {k : Int} : hasK ks k = false ↔ k ∉ keyK ks := by
  rw [← has_iff]; cases hasK ks k <;> simp
theorem key_erase (ks : Ks) (i : Nat) : keyK (ks.eraseIdx i) = (keyK ks).eraseIdx i := map_erase _ _ _
theorem key_at {ks : Ks} {i : Nat} (hi : i < ks.length) : (keyK ks)[i]? = some (ks.getD i d0).1 := by
  unfold keyK
  rw [List.getElem?_map, at_getD hi]; rfl
theorem nd_erase {l : List Int} {i : Nat} {x : Int} (hnd : l.Nodup) (hx : l[i]? = some x) : x ∉ l.eraseIdx i ∧ (l.eraseIdx i).Nodup := by
  have h := (perm_erase hx).nodup_iff.1 hnd
  exact ⟨(List.nodup_cons.1 h).1, (List.nodup_cons.1 h).2⟩
theorem drop_has {ks : Ks} (hnd : (keyK ks).Nodup) (k : Int) : hasK (dropK ks k) k = false := by
  rw [has_not]
  cases hpl : plc ks k with
  | some i =>
    obtain ⟨x, hx, hk⟩ := plc_is hpl
    rw [dropK_a hpl, key_erase]
    refine (nd_erase hnd (x := k) ?_).1
    rw [key_at (plc_lt hpl), getD_some hx, hk]
  | none =>
    rw [dropK_n hpl, ← has_not, hasK_n hpl]
structure TF (r : Int) (ks : Ks) (k : Int) : Prop where
  full : (touchO r ks k).2.2 ≠ 0 → hasK ks k = false ∧ touchK r ks k = ks ∧ (touchO r ks k).2.2 = 10 ∧ lfK ks ks.length = none ∧ ¬ (ks.length : Int) < r
  head : (touchO r ks k).2.2 = 0 → ∃ p t, touchK r ks k = (k, p) :: t
  same : (touchO r ks k).2.2 = 0 → hasK ks k = true → (touchO r ks k).2.1 = false ∧ (touchK r ks k).length = ks.length
  out : (touchO r ks k).2.2 = 0 → (touchO r ks k).2.1 = true → (touchK r ks k).length = ks.length ∧ hasK (touchK r ks k) (touchO r ks k).1 = false ∧ (touchO r ks k).1 ≠ k
  new : (touchO r ks k).2.2 = 0 → hasK ks k = false → (touchO r ks k).2.1 = false → (touchK r ks k).length = ks.length + 1
  nd : (keyK (touchK r ks k)).Nodup
theorem touch_facts {r : Int} {ks : Ks} (hnd : (keyK ks).Nodup) (k : Int) : TF r ks k := by
  cases hpl : plc ks k with
  | some i =>
    obtain ⟨x, hx, hk⟩ := plc_is hpl
    have hi := plc_lt hpl
    have hat := key_at hi
    rw [getD_some hx, hk] at hat
    have hh := hasK_a hpl
    have hl : (ks.getD i d0 :: ks.eraseIdx i).length = ks.length := by rw [List.length_cons, List.length_eraseIdx_of_lt hi]; omega
    refine ⟨?_, ?_, ?_, ?_, ?_, ?_⟩ <;> (try rw [touchO_a hpl]) <;> (try rw [touchK_a hpl])
    · intro h; exact absurd rfl h
    · intro _; rw [getD_some hx]; exact ⟨x.2, _, by rw [← hk]⟩
    · intro _ _; exact ⟨rfl, hl⟩
    · intro _ h; cases h
    · intro _ h; rw [hh] at h; cases h
    · rw [getD_some hx]
      show (x.1 :: keyK (ks.eraseIdx i)).Nodup
      rw [key_erase, hk]
      exact List.nodup_cons.2 (nd_erase hnd hat)
  | none =>
    have hh := hasK_n hpl
    have hk := has_not.1 hh
    by_cases hlt : (ks.length : Int) < r
    · refine ⟨?_, ?_, ?_, ?_, ?_, ?_⟩ <;> (try rw [touchO_b hpl hlt]) <;> (try rw [touchK_b hpl hlt])
      · intro h; exact absurd rfl h
      · intro _; exact ⟨false, _, rfl⟩
      · intro _ h; rw [hh] at h; cases h
      · intro _ h; cases h
      · intro _ _ _; rfl
      · exact List.nodup_cons.2 ⟨hk, hnd⟩
    · cases hlf : lfK ks ks.length with
      | none =>
        refine ⟨?_, ?_, ?_, ?_, ?_, ?_⟩ <;> (try rw [touchO_c hpl hlt hlf]) <;> (try rw [touchK_c hpl hlt hlf])
        · intro _; exact ⟨hh, rfl, rfl, hlf, hlt⟩
        · intro h; cases h
        · intro h; cases h
        · intro h; cases h
        · intro h; cases h
        · exact hnd
      | some i =>
        have hi := lfK_lt hlf
        have hat := key_at hi
        have he := nd_erase hnd hat
        have hl : ((k, false) :: ks.eraseIdx i).length = ks.length := by rw [List.length_cons, List.length_eraseIdx_of_lt hi]; omega
        have hne : (ks.getD i d0).1 ≠ k := fun h => hk (h ▸ List.mem_of_getElem? hat)
        refine ⟨?_, ?_, ?_, ?_, ?_, ?_⟩ <;> (try rw [touchO_d hpl hlt hlf]) <;> (try rw [touchK_d hpl hlt hlf])
        · intro h; exact absurd rfl h
        · intro _; exact ⟨false, _, rfl⟩
        · intro _ h; rw [hh] at h; cases h
        · intro _ _
          refine ⟨hl, has_not.2 ?_, hne⟩
          show (ks.getD i d0).1 ∉ k :: keyK (ks.eraseIdx i)
          rw [key_erase]
          exact fun h => (List.mem_cons.1 h).elim hne he.1
        · intro _ _ h; cases h
        · show (k :: keyK (ks.eraseIdx i)).Nodup
          rw [key_erase]
          exact List.nodup_cons.2 ⟨fun h => hk (List.mem_of_mem_eraseIdx h), he.2⟩
theorem head0 {l : List Int} {k : Int} (h : ∃ t, l = k :: t) (hl : 0 < l.length) : l[0] = k := by obtain ⟨t, rfl⟩ := h; rfl
theorem nd_ne {l : List Int} (h : l.Nodup) {i j : Nat} (hi : i < l.length) (hj : j < i) : l[i] ≠ l[j]'(by omega) := fun e => by
  have := (List.getElem_inj h).1 e; omega
end Go.Proofs.Ytpbpenlceigddaa.Lru
