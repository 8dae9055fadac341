/- Proved: what is so of a line behind each of its functions; the conditions stand in the statements. -/
import Derived.Test.YtediblifbfhahaaLineBase
set_option linter.unusedVariables false
set_option linter.unusedSimpArgs false
set_option linter.unusedSectionVars false
namespace Go.Proofs.Ytediblifbfhahaa.Line
open Go Go.RowKit Go.Proofs.Ytediblifbfhahaa.Eng

section
variable (s : LS) (m : Int) (b : Blk) (q : Int)
theorem mem_learn : (learnS s m b).mem = s.mem := by unfold learnS; split <;> rfl
theorem mem_set : (setS s m b q).mem = s.mem := by unfold setS; split <;> first | rfl | (split <;> rfl)
theorem mem_forget : (forgetS s m).mem = s.mem := by unfold forgetS; split <;> rfl
theorem mem_clean : (cleanS s).mem = s.mem := by unfold cleanS; split <;> rfl
theorem fs_learn : (learnS s m b).fs = s.fs := by unfold learnS; split <;> rfl
theorem fs_forget : (forgetS s m).fs = s.fs := by unfold forgetS; split <;> rfl
end
theorem getD_set {α : Type} (l : List α) (i j : Nat) (x d : α) (hi : i < l.length) : (l.set i x).getD j d = if i = j then x else l.getD j d := by
  rw [List.getD_eq_getElem?_getD, List.getElem?_set, List.getD_eq_getElem?_getD]
  by_cases e : i = j
  · subst e; simp [hi]
  · simp [e]

/-! ### What is dirty is known -/
def DK (s : LS) : Prop := ∀ i, i < 16 → s.dt.getD i false = true → s.kn.getD i false = true
theorem dk_new (n : Int) : DK (newL n) := by
  intro i hi h
  exfalso
  unfold newL at h
  simp only [List.getD_eq_getElem?_getD, List.getElem?_replicate, hi, if_true] at h
  cases h
theorem dk_kn {s : LS} (h : DK s) (i : Nat) (hi : i < 16) : DK (s.setKn i true) := by
  intro j hj hd
  show (s.kn.set i true).getD j false = true
  rw [getD_set _ _ _ _ _ (by rw [s.hk]; exact hi)]
  split
  · rfl
  · exact h j hj hd
theorem dk_bl {s : LS} (h : DK s) (i : Nat) (b : Blk) : DK (s.setBl i b) := h
theorem dk_fs {s : LS} (h : DK s) (q : Int) : DK (s.setFs q) := h
theorem dk_kd {s : LS} (h : DK s) (i : Nat) (hi : i < 16) : DK ((s.setKn i true).setDt i true) := by
  intro j hj hd
  show (s.kn.set i true).getD j false = true
  have hd : (s.dt.set i true).getD j false = true := hd
  rw [getD_set _ _ _ _ _ (by rw [s.hk]; exact hi)]
  rw [getD_set _ _ _ _ _ (by rw [s.hd]; exact hi)] at hd
  split
  · rfl
  · rename_i e
    rw [if_neg e] at hd
    exact h j hj hd
theorem dk_no {s : LS} (h : DK s) (i : Nat) (hi : i < 16) : DK ((s.setKn i false).setDt i false) := by
  intro j hj hd
  show (s.kn.set i false).getD j false = true
  have hd : (s.dt.set i false).getD j false = true := hd
  rw [getD_set _ _ _ _ _ (by rw [s.hk]; exact hi)]
  rw [getD_set _ _ _ _ _ (by rw [s.hd]; exact hi)] at hd
  split
  · rename_i e; rw [if_pos e] at hd; cases hd
  · rename_i e
    rw [if_neg e] at hd
    exact h j hj hd
section
variable {s : LS} (h : DK s) (hm : s.mem ≤ 16)
include h hm
theorem dk_learn (m : Int) (b : Blk) : DK (learnS s m b) := by
  unfold learnS
  split
  · rename_i c
    have := ask0 c.1
    exact dk_bl (dk_kn h _ (by omega)) _ _
  · exact h
theorem dk_set (m : Int) (b : Blk) (q : Int) : DK (setS s m b q) := by
  unfold setS
  split
  · rename_i c
    unfold setE at c
    have ha : askE s.mem m = 0 := by
      split at c
      · assumption
      · exact c
    have := ask0 ha
    split
    · exact dk_fs (dk_bl (dk_kd h _ (by omega)) _ _) _
    · exact dk_bl (dk_kd h _ (by omega)) _ _
  · exact h
theorem dk_forget (m : Int) : DK (forgetS s m) := by
  unfold forgetS
  split
  · rename_i c
    have := ask0 c
    exact dk_bl (dk_no h _ (by omega)) _ _
  · exact h
theorem dk_clean : DK (cleanS s) := by
  unfold cleanS
  split
  · exact h
  · intro i hi hd
    exfalso
    have hd : (List.replicate 16 false).getD i false = true := hd
    simp only [List.getD_eq_getElem?_getD, List.getElem?_replicate, hi, if_true] at hd
    cases hd
end
theorem dsel_mem {d : List Bool} {j : Nat} {x : Int} (h : x ∈ dsel d j) : ∃ i : Nat, i < j ∧ x = i ∧ d.getD i false = true := by
  induction j with
  | zero => cases h
  | succ j ih =>
    rw [dsel] at h
    by_cases e : d.getD j false = true
    · rw [if_pos e, List.mem_append, List.mem_singleton] at h
      rcases h with h | h
      · obtain ⟨i, h1, h2⟩ := ih h; exact ⟨i, by omega, h2⟩
      · exact ⟨j, by omega, h, e⟩
    · rw [if_neg e] at h
      obtain ⟨i, h1, h2⟩ := ih h; exact ⟨i, by omega, h2⟩
theorem dirty_known {s : LS} (h : DK s) (hm : 0 ≤ s.mem ∧ s.mem ≤ 16) {x : Int} (hx : x ∈ dirtyL s) : getK s x = true ∧ 0 ≤ x ∧ x ≤ 15 := by
  obtain ⟨i, h1, rfl, h3⟩ := dsel_mem hx
  refine ⟨getK_is (ask_ok (by omega) (by omega)) ?_, by omega, by omega⟩
  rw [Int.toNat_natCast]
  exact h i (by omega) h3
theorem dsel_none {d : List Bool} (h : ∀ i, d.getD i false = false) (j : Nat) : dsel d j = [] := by
  induction j with
  | zero => rfl
  | succ j ih => rw [dsel_f (h j), ih]
theorem rep_no (i : Nat) : (List.replicate 16 false).getD i false = false := by
  simp only [List.getD_eq_getElem?_getD, List.getElem?_replicate]
  split <;> rfl
theorem dirty_clean {s : LS} (h : s.mem ≠ 0) : dirtyL (cleanS s) = [] := by
  unfold cleanS
  rw [if_neg h]
  exact dsel_none rep_no _
theorem fs_clean {s : LS} (h : s.mem ≠ 0) : (cleanS s).fs = 0 := by unfold cleanS; rw [if_neg h]; rfl
theorem cleanE_ok {s : LS} (h : s.mem ≠ 0) : cleanE s = 0 := if_neg h
theorem set_fs {s : LS} {m : Int} {b : Blk} {q : Int} (h : setE s m q = 0) : (setS s m b q).fs = if s.fs = 0 ∨ q < s.fs then q else s.fs := by
  unfold setS
  rw [if_pos h]
  split <;> rfl
theorem set_no {s : LS} {m : Int} {b : Blk} {q : Int} (h : setE s m q ≠ 0) : setS s m b q = s := if_neg h

/-! ### A line of which one cell alone is told -/
def lone (M : Int) (k d : Bool) (b : Blk) (q : Int) : LS := ((((newL 16).setKn M.toNat k).setDt M.toNat d).setBl M.toNat b).setFs q
theorem set_rep {α : Type} (n i : Nat) (x : α) : (List.replicate n x).set i x = List.replicate n x := by
  apply List.ext_getElem?
  intro j
  rw [List.getElem?_set]
  split
  · rename_i e; subst e
    rw [List.length_replicate, List.getElem?_replicate]
  · rfl
theorem LS.ext' {s t : LS} (h1 : s.mem = t.mem) (h2 : s.kn = t.kn) (h3 : s.dt = t.dt) (h4 : s.bl = t.bl) (h5 : s.fs = t.fs) : s = t := by
  cases s; cases t; simp only at h1 h2 h3 h4 h5; subst h1 h2 h3 h4 h5; rfl
section
variable {M : Int} {k d : Bool} {b x : Blk} {q r : Int}
theorem lone_mem : 0 ≤ (lone M k d b q).mem ∧ (lone M k d b q).mem ≤ 16 := ⟨(by decide : (0 : Int) ≤ 16), (by decide : (16 : Int) ≤ 16)⟩
theorem lone_new : newL 16 = lone M false false zB 0 := LS.ext' rfl (set_rep _ _ _).symm (set_rep _ _ _).symm (set_rep _ _ _).symm rfl
variable (hM : 0 ≤ M ∧ M < 16)
include hM
theorem lone_ask : askE (lone M k d b q).mem M = 0 := ask_ok (by omega) (by show M < 16; omega)
theorem lone_kn : (lone M k d b q).kn.getD M.toNat false = k := by
  show ((List.replicate 16 false).set M.toNat k).getD M.toNat false = k
  rw [getD_set _ _ _ _ _ (by rw [List.length_replicate]; omega), if_pos rfl]
theorem lone_bl : (lone M k d b q).bl.getD M.toNat zB = b := by
  show ((List.replicate 16 zB).set M.toNat b).getD M.toNat zB = b
  rw [getD_set _ _ _ _ _ (by rw [List.length_replicate]; omega), if_pos rfl]
theorem lone_dt (i : Nat) : (lone M k d b q).dt.getD i false = if M.toNat = i then d else false := by
  show ((List.replicate 16 false).set M.toNat d).getD i false = _
  rw [getD_set _ _ _ _ _ (by rw [List.length_replicate]; omega), rep_no]
theorem learn_f : learnS (lone M false d b q) M x = lone M true d x q := by
  unfold learnS
  rw [if_pos ⟨lone_ask hM, lone_kn hM⟩]
  refine LS.ext' rfl ?_ rfl ?_ rfl
  · exact List.set_set ..
  · exact List.set_set ..
theorem learn_t : learnS (lone M true d b q) M x = lone M true d b q := by
  unfold learnS
  rw [if_neg (fun h => by rw [lone_kn hM] at h; cases h.2)]
theorem setE_0 : setE (lone M k d b q) M 0 = 2 := by unfold setE; rw [if_pos (lone_ask hM), if_pos rfl]
theorem setE_1 (h : r ≠ 0) : setE (lone M k d b q) M r = 0 := by unfold setE; rw [if_pos (lone_ask hM), if_neg h]
theorem set_q0 : setS (lone M k d b q) M x 0 = lone M k d b q := if_neg (by rw [setE_0 hM]; decide)
theorem set_q1 (h : r ≠ 0) : setS (lone M k d b 0) M x r = lone M true true x r := by
  unfold setS
  rw [if_pos (setE_1 hM h), if_pos (.inl rfl)]
  refine LS.ext' rfl ?_ ?_ ?_ rfl
  · exact List.set_set ..
  · exact List.set_set ..
  · exact List.set_set ..
theorem get_1 : getV (lone M true d b q) M = b := by rw [getV_is (lone_ask hM) (lone_kn hM), lone_bl hM]
theorem get_k : getK (lone M true d b q) M = true := getK_is (lone_ask hM) (lone_kn hM)
theorem clean_1 : cleanS (lone M k d b q) = lone M k false b 0 := by
  unfold cleanS
  rw [if_neg (by show ¬ (16 : Int) = 0; decide)]
  exact LS.ext' rfl rfl (set_rep _ _ _).symm rfl rfl
theorem dirty_0 : dirtyL (lone M k false b q) = [] := dsel_none (fun i => by rw [lone_dt hM]; split <;> rfl) _
theorem dirty_1 : dirtyL (lone M k true b q) = [M] := by
  have hd := lone_dt hM (k := k) (d := true) (b := b) (q := q)
  have key : ∀ j, dsel (lone M k true b q).dt j = if M.toNat < j then [M] else [] := by
    intro j
    induction j with
    | zero => rfl
    | succ j ih =>
      rw [dsel, hd j, ih]
      by_cases e : M.toNat = j
      · rw [if_pos e, if_pos rfl, if_neg (by omega), if_pos (by omega), List.nil_append]
        congr 1; omega
      · rw [if_neg e, if_neg (by decide)]
        by_cases e2 : M.toNat < j
        · rw [if_pos e2, if_pos (by omega)]
        · rw [if_neg e2, if_neg (by omega)]
  unfold dirtyL
  rw [key, if_pos (by show M.toNat < (16 : Int).toNat; omega)]
end
/-! ### A line without cells -/
section
variable {m q : Int} {b : Blk}
theorem ask_z : askE (newL 0).mem m = 1 := if_pos rfl
theorem learn_z : learnS (newL 0) m b = newL 0 := if_neg (fun h => by rw [ask_z] at h; cases h.1)
theorem setE_z : setE (newL 0) m q = 1 := by unfold setE; rw [if_neg (by rw [ask_z]; decide), ask_z]
theorem set_z : setS (newL 0) m b q = newL 0 := if_neg (by rw [setE_z]; decide)
theorem forget_z : forgetS (newL 0) m = newL 0 := if_neg (by rw [ask_z]; decide)
theorem clean_z : cleanS (newL 0) = newL 0 := if_pos rfl
theorem getK_z : getK (newL 0) m = false := getK_no (.inl (by rw [ask_z]; decide))
end
end Go.Proofs.Ytediblifbfhahaa.Line
