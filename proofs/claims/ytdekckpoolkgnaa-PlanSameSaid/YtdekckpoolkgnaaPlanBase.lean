/- Proved: small facts on lists of numbers and of blocks, and what the program's rows say of their types; the conditions stand in the statements. -/
import Derived.Test.YtdekckpoolkgnaaProg
import Derived.Test.YtdekckpoolkgnaaEngG
namespace Go.Proofs.Ytdekckpoolkgnaa.Plan
open Go Go.RowKit Go.Proofs.Ytdekckpoolkgnaa.Eng

theorem s3 : (Try.prog.info? 3).map (·.size) = some 1 := by kernel_rfl
theorem s4 : (Try.prog.info? 4).map (·.size) = some 1 := by kernel_rfl
theorem s5 : (Try.prog.info? 5).map (·.size) = some 1 := by kernel_rfl
theorem s22 : (Try.prog.info? 22).map (·.size) = some 1 := by kernel_rfl
theorem s23 : (Try.prog.info? 23).map (·.size) = some 1 := by kernel_rfl
theorem s25 : (Try.prog.info? 25).map (·.size) = some 2 := by kernel_rfl
theorem s46 : (Try.prog.info? 46).map (·.size) = some 3 := by kernel_rfl
theorem s35 : (Try.prog.info? 35).map (·.size) = some 64 := by kernel_rfl
theorem T35 : BlkType Try.prog 35 5 := ⟨Try.underlying35, Try.underlying5, s35, s5, by kernel_rfl⟩
def zB : Blk := Vector.replicate 64 0
theorem z35 : (Try.prog.info? 35).map (·.zero) = some (some (.agg (bv zB))) := by kernel_rfl
theorem z25 : (Try.prog.info? 25).map (·.zero) = some (some (.agg #[.int .u8 0, .slice none 0 0])) := by kernel_rfl
theorem z46 : (Try.prog.info? 46).map (·.zero) = some (some (.agg #[.slice none 0 0, .slice none 0 0, .int .i64 0])) := by kernel_rfl
theorem SL22 : SlType Try.prog 22 4 eBool 1 := SlType.mk' (.bool false) Try.underlying22 (by kernel_rfl) (by simp [Value.cells, eBool])
theorem SL23 : SlType Try.prog 23 3 eInt 8 := SlType.mk' (.int .i64 0) Try.underlying23 (by kernel_rfl) (by simp [Value.cells, eInt])
theorem SL33 : SlType Try.prog 33 35 eBlk 64 := SlType.mk' (.agg (bv zB)) Try.underlying33 (by kernel_rfl) (by simp [Value.cells, bv_size, eBlk])
theorem zr22 : (Try.prog.info? 4).map (fun i => i.zero.map (·.cells)) = some (some (eBool.enc false).toArray) := by kernel_rfl

theorem b8 : Bodied Try.prog 8 := ⟨_, Try.func8, by kernel_rfl, rfl⟩
theorem b9 : Bodied Try.prog 9 := ⟨_, Try.func9, by kernel_rfl, rfl⟩
theorem b10 : Bodied Try.prog 10 := ⟨_, Try.func10, by kernel_rfl, rfl⟩
theorem b11 : Bodied Try.prog 11 := ⟨_, Try.func11, by kernel_rfl, rfl⟩
theorem b12 : Bodied Try.prog 12 := ⟨_, Try.func12, by kernel_rfl, rfl⟩
theorem b13 : Bodied Try.prog 13 := ⟨_, Try.func13, by kernel_rfl, rfl⟩
theorem b14 : Bodied Try.prog 14 := ⟨_, Try.func14, by kernel_rfl, rfl⟩
theorem b15 : Bodied Try.prog 15 := ⟨_, Try.func15, by kernel_rfl, rfl⟩
theorem b16 : Bodied Try.prog 16 := ⟨_, Try.func16, by kernel_rfl, rfl⟩
theorem b17 : Bodied Try.prog 17 := ⟨_, Try.func17, by kernel_rfl, rfl⟩
theorem b18 : Bodied Try.prog 18 := ⟨_, Try.func18, by kernel_rfl, rfl⟩
theorem b19 : Bodied Try.prog 19 := ⟨_, Try.func19, by kernel_rfl, rfl⟩
theorem b20 : Bodied Try.prog 20 := ⟨_, Try.func20, by kernel_rfl, rfl⟩
theorem b21 : Bodied Try.prog 21 := ⟨_, Try.func21, by kernel_rfl, rfl⟩
theorem b22 : Bodied Try.prog 22 := ⟨_, Try.func22, by kernel_rfl, rfl⟩
theorem b23 : Bodied Try.prog 23 := ⟨_, Try.func23, by kernel_rfl, rfl⟩
theorem b24 : Bodied Try.prog 24 := ⟨_, Try.func24, by kernel_rfl, rfl⟩

/-- How many of the first are written. -/
def cnt (w : List Bool) : Nat → Nat
  | 0 => 0
  | j + 1 => if w.getD j false = true then cnt w j + 1 else cnt w j
theorem cnt_le (w : List Bool) (j : Nat) : cnt w j ≤ j := by
  induction j with
  | zero => exact Nat.le_refl _
  | succ j ih => rw [cnt]; split <;> omega
theorem getD_get (w : List Bool) (j : Nat) (h : j < w.length) : w.getD j false = w[j] := by simp [List.getD_eq_getElem?_getD, h]
theorem cnt_t (w : List Bool) (j : Nat) (h : j < w.length) (e : w[j] = true) : cnt w (j + 1) = cnt w j + 1 := by
  rw [cnt, getD_get w j h, if_pos e]
theorem cnt_f (w : List Bool) (j : Nat) (h : j < w.length) (e : w[j] = false) : cnt w (j + 1) = cnt w j := by
  rw [cnt, getD_get w j h, if_neg (by simp [e])]

/-- Those of the first that a way reads. -/
def pick (w k : List Bool) (f : Bool) (j : Nat) : Bool := w.getD j false == f && !(k.getD j false)
def sel (w k : List Bool) (f : Bool) : Nat → List Int
  | 0 => []
  | j + 1 => if pick w k f j = true then sel w k f j ++ [(j : Int)] else sel w k f j
/-- Is the lost one among them? -/
def hit (w k : List Bool) (f : Bool) (lost : Int) : Nat → Bool
  | 0 => false
  | j + 1 => hit w k f lost j || (pick w k f j && decide ((j : Int) = lost))
theorem pick_t (w k : List Bool) (f : Bool) (j : Nat) (h : j < w.length) (h2 : j < k.length) (e : w[j] = f) (e2 : k[j] = false) : pick w k f j = true := by
  simp [pick, List.getD_eq_getElem?_getD, h, h2, e, e2]
theorem pick_w (w k : List Bool) (f : Bool) (j : Nat) (h : j < w.length) (e : w[j] ≠ f) : pick w k f j = false := by
  simp [pick, List.getD_eq_getElem?_getD, h]; intro x; exact absurd x e
theorem pick_k (w k : List Bool) (f : Bool) (j : Nat) (h2 : j < k.length) (e2 : k[j] = true) : pick w k f j = false := by
  simp [pick, List.getD_eq_getElem?_getD, h2, e2]
theorem sel_t {w k : List Bool} {f : Bool} {j : Nat} (h : pick w k f j = true) : sel w k f j ++ [(j : Int)] = sel w k f (j + 1) := by rw [sel, if_pos h]
theorem sel_f {w k : List Bool} {f : Bool} {j : Nat} (h : pick w k f j = false) : sel w k f (j + 1) = sel w k f j := by rw [sel, if_neg (by simp [h])]
theorem hit_f {w k : List Bool} {f : Bool} {lost : Int} {j : Nat} (h : pick w k f j = false) : hit w k f lost (j + 1) = hit w k f lost j := by rw [hit, h]; simp
theorem hit_n {w k : List Bool} {f : Bool} {lost : Int} {j : Nat} (h : ¬ (j : Int) = lost) : hit w k f lost (j + 1) = hit w k f lost j := by rw [hit]; simp [h]
theorem hit_t {w k : List Bool} {f : Bool} {lost : Int} {j : Nat} (h : pick w k f j = true) (e : (j : Int) = lost) : hit w k f lost (j + 1) = true := by rw [hit, h]; simp [e]
theorem hit_mono {w k : List Bool} {f : Bool} {lost : Int} {i j : Nat} (h : i ≤ j) (hi : hit w k f lost i = true) : hit w k f lost j = true := by
  induction h with
  | refl => exact hi
  | step _ ih => rw [hit, ih]; rfl
theorem sel_le (w k : List Bool) (f : Bool) (j : Nat) : (sel w k f j).length ≤ j := by
  induction j with
  | zero => exact Nat.le_refl _
  | succ j ih =>
    rw [sel]; split
    · rw [List.length_append, List.length_singleton]; omega
    · omega
theorem hit_is {w k : List Bool} {f : Bool} {lost : Int} {j : Nat} (h : hit w k f lost j = true) : ∃ i, i < j ∧ pick w k f i = true ∧ (i : Int) = lost := by
  induction j with
  | zero => cases h
  | succ j ih =>
    rw [hit] at h
    rcases Bool.or_eq_true .. ▸ h with h | h
    · obtain ⟨i, h1, h2⟩ := ih h; exact ⟨i, by omega, h2⟩
    · simp at h; exact ⟨j, by omega, h.1, h.2⟩
theorem pick_one {w k : List Bool} {j : Nat} (h : pick w k false j = true) : pick w k true j = false := by
  simp [pick] at h ⊢; intro x; rw [h.1] at x; cases x
theorem hit_one {w k : List Bool} {lost : Int} {j : Nat} (h : hit w k false lost j = true) : hit w k true lost j = false := by
  cases e : hit w k true lost j with
  | false => rfl
  | true =>
    obtain ⟨i, _, h2, h3⟩ := hit_is h
    obtain ⟨i', _, h2', h3'⟩ := hit_is e
    have : i = i' := by omega
    subst this
    rw [pick_one h2] at h2'; cases h2'

/-- What a way reads; nothing, if the lost one is among it. -/
def rdsL (w k : List Bool) (f : Bool) (lost : Int) : List Int := if hit w k f lost w.length = true then [] else sel w k f w.length
def rdsB (w k : List Bool) (f : Bool) (lost : Int) : Bool := !hit w k f lost w.length
theorem rdsL_hit {w k : List Bool} {f : Bool} {lost : Int} (h : hit w k f lost w.length = true) : rdsL w k f lost = [] := if_pos h
theorem rdsL_not {w k : List Bool} {f : Bool} {lost : Int} (h : hit w k f lost w.length = false) : rdsL w k f lost = sel w k f w.length := if_neg (by simp [h])
theorem rdsB_hit {w k : List Bool} {f : Bool} {lost : Int} (h : hit w k f lost w.length = true) : rdsB w k f lost = false := by simp [rdsB, h]
theorem rdsB_not {w k : List Bool} {f : Bool} {lost : Int} (h : hit w k f lost w.length = false) : rdsB w k f lost = true := by simp [rdsB, h]
/-- What the way by the old ones reads. -/
def dltL (w k : List Bool) (p : Bool) (lost : Int) : List Int := if hit w k true lost w.length = true then [] else if p = true then sel w k true w.length else sel w k true w.length ++ [(w.length : Int)]
theorem dltL_hit {w k : List Bool} {p : Bool} {lost : Int} (h : hit w k true lost w.length = true) : dltL w k p lost = [] := if_pos h
theorem dltL_p {w k : List Bool} {p : Bool} {lost : Int} (h : hit w k true lost w.length = false) (hp : p = true) : dltL w k p lost = sel w k true w.length := by rw [dltL, if_neg (by simp [h]), if_pos hp]
theorem dltL_n {w k : List Bool} {p : Bool} {lost : Int} (h : hit w k true lost w.length = false) (hp : p = false) : dltL w k p lost = sel w k true w.length ++ [(w.length : Int)] := by rw [dltL, if_neg (by simp [h]), if_neg (by simp [hp])]
theorem rds_le (w k : List Bool) (f : Bool) (lost : Int) : (rdsL w k f lost).length ≤ w.length := by
  unfold rdsL; split
  · simp
  · exact sel_le ..
theorem dlt_le (w k : List Bool) (p : Bool) (lost : Int) : (dltL w k p lost).length ≤ w.length + 1 := by
  have := sel_le w k true w.length
  unfold dltL; split
  · simp
  · split <;> simp <;> omega

theorem rdsB_f {w k : List Bool} {f : Bool} {lost : Int} (h : rdsB w k f lost = false) : hit w k f lost w.length = true := by simpa [rdsB] using h
theorem rdsB_t {w k : List Bool} {f : Bool} {lost : Int} (h : rdsB w k f lost = true) : hit w k f lost w.length = false := by simpa [rdsB] using h
theorem rdsB_one {w k : List Bool} {lost : Int} (h : rdsB w k true lost = false) : rdsB w k false lost = true := by
  cases e : rdsB w k false lost with
  | true => rfl
  | false => have := hit_one (rdsB_f e); rw [rdsB_f h] at this; cases this
theorem dltL_pB {w k : List Bool} {p : Bool} {lost : Int} (h : rdsB w k true lost = true) (hp : p = true) : rdsL w k true lost = dltL w k p lost := by
  rw [dltL_p (rdsB_t h) hp, rdsL_not (rdsB_t h)]
theorem dltL_nB {w k : List Bool} {p : Bool} {lost : Int} (h : rdsB w k true lost = true) (hp : p = false) : rdsL w k true lost ++ [(w.length : Int)] = dltL w k p lost := by
  rw [dltL_n (rdsB_t h) hp, rdsL_not (rdsB_t h)]
def bad (w k : List Bool) (lost : Int) : Prop := w.length < 2 ∨ 15 < w.length ∨ k.length ≠ w.length ∨ lost < -1 ∨ (w.length : Int) < lost ∨ cnt w w.length = 0
instance (w k : List Bool) (lost : Int) : Decidable (bad w k lost) := by unfold bad; infer_instance
def useRest (w k : List Bool) (p : Bool) (lost : Int) : Prop := rdsB w k false lost = true ∧ (rdsB w k true lost = false ∨ (rdsL w k false lost).length ≤ (dltL w k p lost).length)
instance (w k : List Bool) (p : Bool) (lost : Int) : Decidable (useRest w k p lost) := by unfold useRest; infer_instance
/-- The plan: its way, what it reads, its error. -/
def planOf (w k : List Bool) (p : Bool) (lost : Int) : Int × List Int × Int :=
  if bad w k lost then (0, [], 2) else if lost = w.length then (1, [], 0) else if cnt w w.length = w.length then (2, [], 0)
  else if useRest w k p lost then (3, rdsL w k false lost, 0) else (4, dltL w k p lost, 0)
def planW (w k : List Bool) (p : Bool) (lost : Int) : Int := (planOf w k p lost).1
def planR (w k : List Bool) (p : Bool) (lost : Int) : List Int := (planOf w k p lost).2.1
def planE (w k : List Bool) (p : Bool) (lost : Int) : Int := (planOf w k p lost).2.2
section
variable {w k : List Bool} {p : Bool} {lost : Int}
theorem plan_bad (h : bad w k lost) : planOf w k p lost = (0, [], 2) := if_pos h
theorem plan_none (h : ¬ bad w k lost) (h1 : lost = w.length) : planOf w k p lost = (1, [], 0) := by rw [planOf, if_neg h, if_pos h1]
theorem plan_full (h : ¬ bad w k lost) (h1 : ¬ lost = w.length) (h2 : cnt w w.length = w.length) : planOf w k p lost = (2, [], 0) := by rw [planOf, if_neg h, if_neg h1, if_pos h2]
theorem plan_rest (h : ¬ bad w k lost) (h1 : ¬ lost = w.length) (h2 : ¬ cnt w w.length = w.length) (h3 : useRest w k p lost) : planOf w k p lost = (3, rdsL w k false lost, 0) := by rw [planOf, if_neg h, if_neg h1, if_neg h2, if_pos h3]
theorem plan_delta (h : ¬ bad w k lost) (h1 : ¬ lost = w.length) (h2 : ¬ cnt w w.length = w.length) (h3 : ¬ useRest w k p lost) : planOf w k p lost = (4, dltL w k p lost, 0) := by rw [planOf, if_neg h, if_neg h1, if_neg h2, if_neg h3]
end
theorem sel_mem {w k : List Bool} {f : Bool} {j : Nat} {x : Int} (h : x ∈ sel w k f j) : ∃ i : Nat, i < j ∧ x = i ∧ pick w k f i = true := by
  induction j with
  | zero => cases h
  | succ j ih =>
    rw [sel] at h
    by_cases e : pick w k f j = true
    · rw [if_pos e, List.mem_append, List.mem_singleton] at h
      rcases h with h | h
      · obtain ⟨i, h1, h2⟩ := ih h; exact ⟨i, by omega, h2⟩
      · exact ⟨j, by omega, h, e⟩
    · rw [if_neg e] at h
      obtain ⟨i, h1, h2⟩ := ih h; exact ⟨i, by omega, h2⟩
theorem sel_sorted (w k : List Bool) (f : Bool) (j : Nat) : (sel w k f j).Pairwise (· < ·) := by
  induction j with
  | zero => exact .nil
  | succ j ih =>
    rw [sel]
    split
    · refine List.pairwise_append.2 ⟨ih, List.pairwise_singleton .., fun a ha b hb => ?_⟩
      obtain ⟨i, h1, rfl, _⟩ := sel_mem ha
      rw [List.mem_singleton.1 hb]
      omega
    · exact ih
theorem hit_pick {w k : List Bool} {f : Bool} {lost : Int} {j i : Nat} (h : hit w k f lost j = false) (hi : i < j) (hp : pick w k f i = true) : (i : Int) ≠ lost := by
  intro e
  have := hit_mono (lost := lost) (j := j) (by omega) (hit_t hp e)
  rw [h] at this; cases this
theorem pick_is {w k : List Bool} {f : Bool} {i : Nat} (h : pick w k f i = true) : k.getD i false = false ∧ w.getD i false = f := by
  unfold pick at h
  simp only [Bool.and_eq_true, Bool.not_eq_true', beq_iff_eq] at h
  exact ⟨h.2, h.1⟩
/-- What is so of a plan that is not refused. -/
structure Good (w k : List Bool) (p : Bool) (lost W : Int) (R : List Int) : Prop where
  e : planOf w k p lost = (W, R, 0)
  len : k.length = w.length
  n2 : 2 ≤ w.length
  n15 : w.length ≤ 15
  w1 : 1 ≤ W
  w4 : W ≤ 4
  lo : W = 1 ↔ lost = w.length
  mem : ∀ x ∈ R, 0 ≤ x ∧ x ≤ w.length ∧ x ≠ lost ∧ (x = w.length → p = false ∧ W = 4) ∧ (x < w.length → k.getD x.toNat false = false ∧ w.getD x.toNat false = decide (W = 4))
  srt : R.Pairwise (· < ·)
  nil : W ≤ 2 → R = []
  many : 3 ≤ W → R.length = (sel w k (decide (W = 4)) w.length).length + (if W = 4 ∧ p = false then 1 else 0)
theorem plan_good (w k : List Bool) (p : Bool) (lost : Int) : planOf w k p lost = (0, [], 2) ∨ Good w k p lost (planW w k p lost) (planR w k p lost) := by
  by_cases h : bad w k lost
  · exact .inl (plan_bad h)
  have hb := h
  unfold bad at hb
  right
  have mem : ∀ (f : Bool) (W : Int), hit w k f lost w.length = false → decide (W = 4) = f → ∀ x ∈ sel w k f w.length, 0 ≤ x ∧ x ≤ w.length ∧ x ≠ lost ∧ (x = w.length → p = false ∧ W = 4) ∧ (x < w.length → k.getD x.toNat false = false ∧ w.getD x.toNat false = decide (W = 4)) := by
    intro f W hh hf x hx
    obtain ⟨i, h1, rfl, hp⟩ := sel_mem hx
    refine ⟨by omega, by omega, hit_pick hh h1 hp, fun e => by omega, fun _ => ?_⟩
    rw [hf]
    exact pick_is hp
  by_cases h1 : lost = w.length
  · have e := plan_none (p := p) h h1
    simp only [planW, planR, e]
    exact ⟨e, by omega, by omega, by omega, by omega, by omega, ⟨fun _ => h1, fun _ => rfl⟩, fun x hx => (by cases hx), .nil, fun _ => rfl, fun h => by omega⟩
  by_cases h2 : cnt w w.length = w.length
  · have e := plan_full (p := p) h h1 h2
    simp only [planW, planR, e]
    exact ⟨e, by omega, by omega, by omega, by omega, by omega, ⟨fun h => by omega, fun h => absurd h h1⟩, fun x hx => (by cases hx), .nil, fun _ => rfl, fun h => by omega⟩
  by_cases h3 : useRest w k p lost
  · have e := plan_rest h h1 h2 h3
    have hh := rdsB_t h3.1
    simp only [planW, planR, e]
    rw [rdsL_not hh] at e ⊢
    exact ⟨e, by omega, by omega, by omega, by omega, by omega, ⟨fun h => by omega, fun h => absurd h h1⟩, mem false 3 hh rfl, sel_sorted .., fun h => by omega, fun _ => by simp⟩
  · have e := plan_delta h h1 h2 h3
    have hh : hit w k true lost w.length = false := by
      cases hq : rdsB w k true lost with
      | true => exact rdsB_t hq
      | false => exact absurd ⟨rdsB_one hq, .inl hq⟩ h3
    simp only [planW, planR, e]
    cases hp : p with
    | true =>
      rw [hp] at e mem
      rw [dltL_p hh rfl] at e ⊢
      exact ⟨e, by omega, by omega, by omega, by omega, by omega, ⟨fun h => by omega, fun h => absurd h h1⟩, mem true 4 hh rfl, sel_sorted .., fun h => by omega, fun _ => by simp⟩
    | false =>
      rw [hp] at e mem
      rw [dltL_n hh rfl] at e ⊢
      refine ⟨e, by omega, by omega, by omega, by omega, by omega, ⟨fun h => by omega, fun h => absurd h h1⟩, ?_, ?_, fun h => by omega, fun _ => by simp⟩
      · intro x hx
        rcases List.mem_append.1 hx with hx | hx
        · exact mem true 4 hh rfl x hx
        · rw [List.mem_singleton.1 hx]
          exact ⟨by omega, by omega, by omega, fun _ => ⟨rfl, rfl⟩, fun h => by omega⟩
      · refine List.pairwise_append.2 ⟨sel_sorted .., List.pairwise_singleton .., fun a ha b hb => ?_⟩
        obtain ⟨i, h1, rfl, _⟩ := sel_mem ha
        rw [List.mem_singleton.1 hb]
        omega
theorem srt_at {R : List Int} (h : R.Pairwise (· < ·)) (j : Nat) (hj : j < R.length) (h0 : 0 < j) : R[j - 1] < R[j] := by
  rw [List.pairwise_iff_getElem] at h
  exact h (j - 1) j (by omega) hj (by omega)
def xorB (a b : Blk) : Blk := Vector.zipWith (· ^^^ ·) a b
def mixB (j : Nat) (a b : Blk) : Blk := Vector.ofFn fun i => if i.val < j then a[i] else b[i]


theorem mixB_get (j : Nat) (a b : Blk) (i : Nat) (h : i < 64) : (mixB j a b)[i] = if i < j then a[i] else b[i] := by simp [mixB]
theorem mixB_zero (a b : Blk) : mixB 0 a b = b := by
  apply Vector.ext; intro i h; simp [mixB_get]
theorem mixB_full (a b : Blk) : mixB 64 a b = a := by
  apply Vector.ext; intro i h; simp [mixB_get, h]
theorem mixB_succ (j : Nat) (a b : Blk) (h : j < 64) : (mixB j a b).set j a[j] h = mixB (j + 1) a b := by
  apply Vector.ext
  intro i hi
  rw [Vector.getElem_set, mixB_get, mixB_get]
  by_cases e : j = i
  · subst e; simp
  · rw [if_neg e]
    by_cases h1 : i < j
    · rw [if_pos h1, if_pos (by omega)]
    · rw [if_neg h1, if_neg (by omega)]
theorem xorB_get (a b : Blk) (i : Nat) (h : i < 64) : (xorB a b)[i] = a[i] ^^^ b[i] := by simp [xorB]
theorem mix_xor (a b : Blk) (j : Nat) (h : j < 64) : (mixB j (xorB a b) a).set j ((mixB j (xorB a b) a)[j] ^^^ b[j]) h = mixB (j + 1) (xorB a b) a := by
  rw [← mixB_succ j _ _ h, mixB_get]
  simp [xorB_get]

theorem mix_xor' (a b : Blk) (j : Nat) (h : j < 64) (y : Blk) : (mixB j (xorB a b) y).set j (a[j] ^^^ b[j]) h = mixB (j + 1) (xorB a b) y := by
  rw [← mixB_succ j _ _ h, xorB_get]

theorem xorB_comm (a b : Blk) : xorB a b = xorB b a := by
  apply Vector.ext; intro i h; rw [xorB_get _ _ _ h, xorB_get _ _ _ h, UInt8.xor_comm]
theorem xorB_assoc (a b c : Blk) : xorB (xorB a b) c = xorB a (xorB b c) := by
  apply Vector.ext; intro i h; simp only [xorB_get _ _ _ h, UInt8.xor_assoc]
theorem xorB_self (a : Blk) : xorB a a = zB := by
  apply Vector.ext; intro i h; simp [xorB_get _ _ _ h, zB]
theorem xorB_zero (a : Blk) : xorB a zB = a := by
  apply Vector.ext; intro i h; simp [xorB_get _ _ _ h, zB]
theorem zero_xorB (a : Blk) : xorB zB a = a := by rw [xorB_comm, xorB_zero]

def foldB (l : List Blk) : Blk := l.foldl xorB zB
theorem foldB_zero (l : List Blk) : foldB (l.take 0) = zB := rfl
theorem foldB_snoc (l : List Blk) (x : Blk) : foldB (l ++ [x]) = xorB (foldB l) x := by simp [foldB]
theorem foldB_succ (l : List Blk) (j : Nat) (h : j < l.length) : foldB (l.take (j + 1)) = xorB (foldB (l.take j)) l[j] := by
  rw [List.take_succ_eq_append_getElem h, foldB_snoc]
theorem foldl_xorB (l : List Blk) (x : Blk) : l.foldl xorB x = xorB x (foldB l) := by
  induction l generalizing x with
  | nil => simp [foldB, xorB_zero]
  | cons y l ih =>
    have e : foldB (y :: l) = l.foldl xorB (xorB zB y) := rfl
    rw [List.foldl_cons, ih, e, ih, zero_xorB, xorB_assoc]
theorem foldB_append (l m : List Blk) : foldB (l ++ m) = xorB (foldB l) (foldB m) := by
  rw [foldB, List.foldl_append, foldl_xorB]; rfl
theorem foldB_cons (x : Blk) (l : List Blk) : foldB (x :: l) = xorB x (foldB l) := by
  have := foldB_append [x] l
  have e : foldB [x] = x := zero_xorB x
  rw [e] at this; exact this


/-- The blocks as they are to be. -/
def mixL (w : List Bool) (o n : List Blk) : Nat → List Blk
  | 0 => []
  | j + 1 => mixL w o n j ++ [if w.getD j false = true then n.getD j zB else o.getD j zB]
def dltB (w : List Bool) (o n : List Blk) (p : Blk) : Nat → List Blk
  | 0 => [p]
  | j + 1 => if w.getD j false = true then dltB w o n p j ++ [o.getD j zB, n.getD j zB] else dltB w o n p j
theorem getB (o : List Blk) (j : Nat) (h : j < o.length) : o.getD j zB = o[j] := by simp [List.getD_eq_getElem?_getD, h]
section
variable {w : List Bool} {o n : List Blk} {p : Blk} {j : Nat}
theorem mixL_t (h1 : j < w.length) (h3 : j < n.length) (e : w[j] = true) : mixL w o n j ++ [n[j]] = mixL w o n (j + 1) := by
  rw [mixL, getD_get w j h1, if_pos e, getB n j h3]
theorem mixL_f (h1 : j < w.length) (h2 : j < o.length) (e : w[j] = false) : mixL w o n j ++ [o[j]] = mixL w o n (j + 1) := by
  rw [mixL, getD_get w j h1, if_neg (by simp [e]), getB o j h2]
theorem mixL_len (w : List Bool) (o n : List Blk) (j : Nat) : (mixL w o n j).length = j := by
  induction j with
  | zero => rfl
  | succ j ih => rw [mixL, List.length_append, ih]; rfl
theorem dltB_t (h1 : j < w.length) (h2 : j < o.length) (h3 : j < n.length) (e : w[j] = true) : dltB w o n p j ++ [o[j], n[j]] = dltB w o n p (j + 1) := by
  rw [dltB, getD_get w j h1, if_pos e, getB o j h2, getB n j h3]
theorem dltB_f (h1 : j < w.length) (e : w[j] = false) : dltB w o n p (j + 1) = dltB w o n p j := by
  rw [dltB, getD_get w j h1, if_neg (by simp [e])]
theorem dltB_le (w : List Bool) (o n : List Blk) (p : Blk) (j : Nat) : (dltB w o n p j).length ≤ 2 * j + 1 := by
  induction j with
  | zero => exact Nat.le_refl _
  | succ j ih =>
    rw [dltB]; split
    · rw [List.length_append]; simp only [List.length_cons, List.length_nil]; omega
    · omega
theorem fold_mix_t (h1 : j < w.length) (h3 : j < n.length) (e : w[j] = true) : foldB (mixL w o n (j + 1)) = xorB (foldB (mixL w o n j)) n[j] := by
  rw [← mixL_t h1 h3 e, foldB_snoc]
theorem fold_mix_f (h1 : j < w.length) (h2 : j < o.length) (e : w[j] = false) : foldB (mixL w o n (j + 1)) = xorB (foldB (mixL w o n j)) o[j] := by
  rw [← mixL_f h1 h2 e, foldB_snoc]
theorem fold_dlt_t (h1 : j < w.length) (h2 : j < o.length) (h3 : j < n.length) (e : w[j] = true) : foldB (dltB w o n p (j + 1)) = xorB (xorB (foldB (dltB w o n p j)) o[j]) n[j] := by
  rw [← dltB_t h1 h2 h3 e, show dltB w o n p j ++ [o[j], n[j]] = (dltB w o n p j ++ [o[j]]) ++ [n[j]] by simp, foldB_snoc, foldB_snoc]
theorem fold_one : foldB (dltB w o n p 0) = p := zero_xorB p
theorem mixL_same (h3 : n.length = w.length) : ∀ j, j ≤ w.length → mixL w n n j = n.take j := by
  intro j
  induction j with
  | zero => intro _; rfl
  | succ j ih =>
    intro hj
    rw [mixL, ih (by omega), ite_self, getB n j (by omega), List.take_succ_eq_append_getElem (by omega)]
/-- The old parity with each new block in its old one's place is the new parity. -/
theorem fold_dlt (h2 : o.length = w.length) : ∀ j, j ≤ w.length → foldB (dltB w o n p j) = xorB (xorB p (foldB (o.take j))) (foldB (mixL w o n j)) := by
  intro j
  induction j with
  | zero => intro _; rw [fold_one]; exact (by rw [show foldB (o.take 0) = zB from rfl, show foldB (mixL w o n 0) = zB from rfl, xorB_zero, xorB_zero])
  | succ j ih =>
    intro hj
    have ih := ih (by omega)
    rw [foldB_succ o j (by omega), mixL, foldB_snoc, dltB]
    by_cases e : w.getD j false = true
    · rw [if_pos e, if_pos e, show dltB w o n p j ++ [o.getD j zB, n.getD j zB] = (dltB w o n p j ++ [o.getD j zB]) ++ [n.getD j zB] by simp, foldB_snoc, foldB_snoc, ih, getB o j (by omega)]
      simp only [xorB_assoc]
      congr 2
      rw [← xorB_assoc, ← xorB_assoc, xorB_comm (foldB (mixL w o n j)) o[j], xorB_assoc]
    · rw [if_neg e, if_neg e, ih, getB o j (by omega)]
      simp only [xorB_assoc]
      congr 2
      rw [xorB_comm (foldB (mixL w o n j)) o[j], ← xorB_assoc, xorB_self, zero_xorB]
end
def badP (w : List Bool) (o n : List Blk) : Prop := w.length < 2 ∨ 15 < w.length ∨ o.length ≠ w.length ∨ n.length ≠ w.length
instance (w : List Bool) (o n : List Blk) : Decidable (badP w o n) := by unfold badP; infer_instance
def parOf (way : Int) (w : List Bool) (o n : List Blk) (p : Blk) : Blk × Int :=
  if badP w o n then (zB, 2) else if way = 4 then (foldB (dltB w o n p w.length), 0) else if way = 2 then (foldB n, 0) else if way = 3 then (foldB (mixL w o n w.length), 0) else (zB, 2)
def parB (way : Int) (w : List Bool) (o n : List Blk) (p : Blk) : Blk := (parOf way w o n p).1
def parE (way : Int) (w : List Bool) (o n : List Blk) (p : Blk) : Int := (parOf way w o n p).2
section
variable {way : Int} {w : List Bool} {o n : List Blk} {p : Blk}
theorem par_bad (h : badP w o n) : parOf way w o n p = (zB, 2) := if_pos h
theorem par_4 (h : ¬ badP w o n) (e : way = 4) : parOf way w o n p = (foldB (dltB w o n p w.length), 0) := by rw [parOf, if_neg h, if_pos e]
theorem par_2 (h : ¬ badP w o n) (e : way = 2) : parOf way w o n p = (foldB n, 0) := by rw [parOf, if_neg h, if_neg (by omega), if_pos e]
theorem par_3 (h : ¬ badP w o n) (e : way = 3) : parOf way w o n p = (foldB (mixL w o n w.length), 0) := by rw [parOf, if_neg h, if_neg (by omega), if_neg (by omega), if_pos e]
theorem par_none (h : ¬ badP w o n) (e4 : way ≠ 4) (e2 : way ≠ 2) (e3 : way ≠ 3) : parOf way w o n p = (zB, 2) := by rw [parOf, if_neg h, if_neg e4, if_neg e2, if_neg e3]
end
theorem tf {b : Bool} (h : b = true) (h' : b = false) : False := by rw [h] at h'; cases h'
theorem dltL_len {w k : List Bool} {p : Bool} {lost : Int} (h : rdsB w k true lost = true) (hp : p = false) : (rdsL w k true lost).length + 1 = (dltL w k p lost).length := by
  rw [← dltL_nB h hp]; simp
theorem take_next {α : Type} {l m : List α} {j : Nat} (h : l.take j = m.take j) (h1 : j < l.length) (h2 : j < m.length) (e : l[j] = m[j]) : l.take (j + 1) = m.take (j + 1) := by
  rw [List.take_succ_eq_append_getElem h1, List.take_succ_eq_append_getElem h2, h, e]
theorem take_all {α : Type} {l m : List α} {j : Nat} (h : l.take j = m.take j) (h1 : l.length ≤ j) (h2 : m.length ≤ j) : l = m := by
  rwa [List.take_of_length_le h1, List.take_of_length_le h2] at h
theorem len_eq {a : Option Addr} {m m' c : Nat} (h : m = m') : Value.slice a m c = Value.slice a m' c := by rw [h]
end Go.Proofs.Ytdekckpoolkgnaa.Plan
