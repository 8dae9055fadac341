/- Proved: what the program's rows say of its functions and types, and the ways of an order; the conditions stand in the statements. -/
import Derived.Test.YtikmjecjolppdaaProg
import Derived.Test.YtikmjecjolppdaaEngI
import Derived.Test.YtikmjecjolppdaaFMille
namespace Go.Proofs.Ytikmjecjolppdaa.Gauge
open Go Go.RowKit Go.Proofs.Ytikmjecjolppdaa.Eng Go.Proofs.Ytikmjecjolppdaa.Fl

theorem s3 : (Try.prog.info? 3).map (·.size) = some 1 := by kernel_rfl
theorem s22 : (Try.prog.info? 22).map (·.size) = some 1 := by kernel_rfl
theorem s30 : (Try.prog.info? 30).map (·.size) = some 1 := by kernel_rfl
def eFl : Enc Nat := ⟨fun x => [.float .f64 x], 1, fun _ => rfl, by simp [Value.oneCell'], by omega⟩
theorem SL30 : SlType Try.prog 30 22 eFl 8 := SlType.mk' (.float .f64 0) Try.underlying30 (by kernel_rfl) (by simp [Value.cells, eFl])
theorem x13 : Ext Try.prog 13 Extern.MathFloatBits.float64bits := ⟨_, Try.func13, by kernel_rfl, rfl, by kernel_rfl, by kernel_rfl⟩
theorem x32 : Ext Try.prog 32 Extern.MathFloatBits.float64frombits := ⟨_, Try.func32, by kernel_rfl, rfl, by kernel_rfl, by kernel_rfl⟩
theorem x33 : Ext Try.prog 33 (Extern.MathFloor.toIntegral "math.archFloor" .down) := ⟨_, Try.func33, by kernel_rfl, rfl, by kernel_rfl, by kernel_rfl⟩
theorem b9 : Bodied Try.prog 9 := ⟨_, Try.func9, by kernel_rfl, rfl⟩
theorem b10 : Bodied Try.prog 10 := ⟨_, Try.func10, by kernel_rfl, rfl⟩
theorem b11 : Bodied Try.prog 11 := ⟨_, Try.func11, by kernel_rfl, rfl⟩
theorem b12 : Bodied Try.prog 12 := ⟨_, Try.func12, by kernel_rfl, rfl⟩
theorem b14 : Bodied Try.prog 14 := ⟨_, Try.func14, by kernel_rfl, rfl⟩
theorem b15 : Bodied Try.prog 15 := ⟨_, Try.func15, by kernel_rfl, rfl⟩
theorem b16 : Bodied Try.prog 16 := ⟨_, Try.func16, by kernel_rfl, rfl⟩
theorem b17 : Bodied Try.prog 17 := ⟨_, Try.func17, by kernel_rfl, rfl⟩
theorem b18 : Bodied Try.prog 18 := ⟨_, Try.func18, by kernel_rfl, rfl⟩
theorem b19 : Bodied Try.prog 19 := ⟨_, Try.func19, by kernel_rfl, rfl⟩
theorem b20 : Bodied Try.prog 20 := ⟨_, Try.func20, by kernel_rfl, rfl⟩
theorem b21 : Bodied Try.prog 21 := ⟨_, Try.func21, by kernel_rfl, rfl⟩
theorem b22 : Bodied Try.prog 22 := ⟨_, Try.func22, by kernel_rfl, rfl⟩
theorem b23 : Bodied Try.prog 23 := ⟨_, Try.func23, by kernel_rfl, rfl⟩
theorem b24 : Bodied Try.prog 24 := ⟨_, Try.func24, by kernel_rfl, rfl⟩
theorem b25 : Bodied Try.prog 25 := ⟨_, Try.func25, by kernel_rfl, rfl⟩
theorem b26 : Bodied Try.prog 26 := ⟨_, Try.func26, by kernel_rfl, rfl⟩
theorem b27 : Bodied Try.prog 27 := ⟨_, Try.func27, by kernel_rfl, rfl⟩
theorem b28 : Bodied Try.prog 28 := ⟨_, Try.func28, by kernel_rfl, rfl⟩
theorem b29 : Bodied Try.prog 29 := ⟨_, Try.func29, by kernel_rfl, rfl⟩
theorem b30 : Bodied Try.prog 30 := ⟨_, Try.func30, by kernel_rfl, rfl⟩
theorem b31 : Bodied Try.prog 31 := ⟨_, Try.func31, by kernel_rfl, rfl⟩
theorem cb {a b : Nat} : decide ((a : Int) = (b : Int)) = (a == b) := by
  rw [Bool.eq_iff_iff, decide_eq_true_eq, beq_iff_eq]; omega
theorem FR.lt {o : Option Nat} {r : Nat} (h : FR o r) : r < 18446744073709551616 := h.2

theorem cmp_is (a b : Nat) (ha : a < 18446744073709551616) (hb : b < 18446744073709551616) : cmpF a b =
    if nanB a = true then (if nanB b = true then 0 else 1) else if nanB b = true then -1 else if ltF a b = true then -1 else if gtF a b = true then 1 else if neF a 0 = true then 0 else ((b / 9223372036854775808 : Nat) : Int) - ((a / 9223372036854775808 : Nat) : Int) := by
  cases h : nanB a
  · have ta := tk_lt h
    rw [if_neg (by simp)]
    cases h' : nanB b
    · rw [if_neg (by simp), lt_is h h', gt_is h h', ne_is, eq_is h nan_zero]
      have k1 := tk_kv h
      have k2 := tk_kv h'
      have e0 : kv 0 = 0 := by decide
      rw [e0, sg_div ha, sg_div hb]
      by_cases c1 : kv a < kv b
      · rw [decide_eq_true c1, if_pos rfl]; exact cmp_1 (by omega)
      · rw [decide_eq_false c1, if_neg (by simp)]
        by_cases c2 : kv b < kv a
        · rw [decide_eq_true c2, if_pos rfl]; exact cmp1 (by omega)
        · rw [decide_eq_false c2, if_neg (by simp)]
          by_cases c3 : kv a = 0
          · rw [decide_eq_true c3, if_neg (by simp)]
            cases hs : sg a <;> cases hs' : sg b <;> rw [hs] at k1 <;> rw [hs'] at k2 <;> simp at k1 k2
            · exact cmp0 (by omega)
            · exact cmp1 (by omega)
            · exact cmp_1 (by omega)
            · exact cmp0 (by omega)
          · rw [decide_eq_false c3, if_pos (by simp)]; exact cmp0 (by omega)
    · rw [if_pos rfl]; have := tk_nan h'; exact cmp_1 (by omega)
  · have ta := tk_nan h
    rw [if_pos rfl]
    cases h' : nanB b
    · rw [if_neg (by simp)]; have := tk_lt h'; exact cmp1 (by omega)
    · rw [if_pos rfl]; exact cmp0 (by rw [tk_nan h']; exact ta)
theorem cmp_ref (a b : Nat) (ha : a < 18446744073709551616) (hb : b < 18446744073709551616) : cmpF a b =
    if sameB a b = true then 0 else if (nanB a || (!nanB b && (gtF a b || (eqF a b && sg b)))) = true then 1 else -1 := by
  rw [cmp_same ha hb]
  by_cases h0 : cmpF a b = 0
  · rw [decide_eq_true h0, if_pos rfl]; exact h0
  · rw [decide_eq_false h0, if_neg (by simp)]
    cases h : nanB a
    · have ta := tk_lt h
      cases h' : nanB b
      · have k1 := tk_kv h
        have k2 := tk_kv h'
        rw [gt_is h h', eq_is h h']
        simp only [Bool.false_or, Bool.not_false, Bool.true_and]
        by_cases c2 : kv b < kv a
        · rw [decide_eq_true c2, Bool.true_or, if_pos rfl]; exact cmp1 (by omega)
        · rw [decide_eq_false c2, Bool.false_or]
          by_cases c3 : kv a = kv b
          · rw [decide_eq_true c3, Bool.true_and]
            have ne : tk a ≠ tk b := fun e => h0 (cmp0 e)
            cases hs : sg b
            · rw [if_neg (by simp)]
              rw [hs] at k2
              exact cmp_1 (by simp at k2; omega)
            · rw [if_pos rfl]
              rw [hs] at k2
              exact cmp1 (by simp at k2; omega)
          · rw [decide_eq_false c3, Bool.false_and, if_neg (by simp)]; exact cmp_1 (by omega)
      · simp only [Bool.not_true, Bool.false_and, Bool.or_false]
        rw [if_neg (by simp)]; have := tk_nan h'; exact cmp_1 (by omega)
    · rw [Bool.true_or, if_pos rfl]
      have ta := tk_nan h
      cases h' : nanB b
      · have := tk_lt h'; exact cmp1 (by omega)
      · exact absurd (cmp0 (by rw [tk_nan h', ta])) h0

theorem eqF_of {o : Option Nat} {b r : Nat} (h : FR o r) (ho : o = some b) : eqF r b = true := by
  subst ho
  have h2 := h.num
  rw [eq_is h2.2 (h2.1 ▸ h2.2), h2.1]
  exact decide_eq_true rfl
theorem nan_of {o : Option Nat} {r : Nat} (h : FR o r) (ho : o = none) : nanB r = true := by subst ho; exact FR.none h
theorem least_lt {l : List Nat} (h : ∀ x ∈ l, x < 18446744073709551616) : leastG l < 18446744073709551616 := by
  unfold leastG
  have key : ∀ (l : List Nat) (m : Nat), m < 18446744073709551616 → (∀ x ∈ l, x < 18446744073709551616) → l.foldl (fun m x => if tk x < tk m then x else m) m < 18446744073709551616 := by
    intro l
    induction l with
    | nil => intro m hm _; exact hm
    | cons x l ih =>
      intro m hm h
      rw [List.foldl_cons]
      refine ih _ ?_ fun y hy => h y (List.mem_cons_of_mem _ hy)
      split
      · exact h x (List.mem_cons_self ..)
      · exact hm
  exact key l nanW (by decide) h
def lstW (m : Nat) : Nat := if nanB m = true then 0 else m
theorem cmp_lt0 {a b : Nat} : cmpF a b < 0 ↔ tk a < tk b := by
  unfold cmpF
  split
  · constructor <;> intro <;> omega
  · split
    · constructor <;> intro <;> omega
    · constructor <;> intro <;> omega
section
variable {l : List Nat} {j : Nat} (hj : j < l.length)
include hj
theorem st_lt (h : cmpF l[j] (leastG (l.take j)) < 0) : leastG (l.take (j + 1)) = l[j] := by rw [least_step l j hj, if_pos (cmp_lt0.1 h)]
theorem st_ge (h : ¬ cmpF l[j] (leastG (l.take j)) < 0) : leastG (l.take (j + 1)) = leastG (l.take j) := by rw [least_step l j hj, if_neg (fun x => h (cmp_lt0.2 x))]
theorem st_nan (h : nanB l[j] = true) : leastG (l.take (j + 1)) = leastG (l.take j) := by
  refine st_ge hj fun x => ?_
  have x := cmp_lt0.1 x
  rw [tk_nan h] at x
  cases hm : nanB (leastG (l.take j))
  · have := tk_lt hm; omega
  · have := tk_nan hm; omega
theorem st_new (h : nanB l[j] = false) (hm : nanB (leastG (l.take j)) = true) : leastG (l.take (j + 1)) = l[j] := by
  refine st_lt hj (cmp_lt0.2 ?_)
  have := tk_lt h
  rw [tk_nan hm]; omega
end
theorem lst_num {m : Nat} (h : nanB m = false) : lstW m = m := if_neg (by simp [h])
theorem lst_nan {m : Nat} (h : nanB m = true) : lstW m = 0 := if_pos h
theorem lst_lt {m : Nat} (h : m < 18446744073709551616) : lstW m < 18446744073709551616 := by unfold lstW; split <;> omega
theorem mean_of {l : List Nat} {j q r : Nat} (hj : j = l.length) (h : j = 0 ∨ cls q = sumC (l.take j)) (h0 : j = 0 → q = 0) (hq : q < 18446744073709551616) (hr : FR (F.div q (ofInt (l.length : Int))) r) : FR (meanC l) r := by
  subst hj
  rw [List.take_length] at h
  by_cases h1 : l.length = 0
  · have e : l = [] := List.eq_nil_of_length_eq_zero h1
    rw [h0 h1, h1] at hr
    subst e
    have e2 : F.div 0 (ofInt ((0 : Nat) : Int)) = none := by decide +kernel
    rw [e2] at hr
    exact hr
  · have h2 := h.resolve_left h1
    rw [bind_div (o := sumC l) ⟨h2, hq⟩] at hr
    exact hr
theorem mean_nil {l : List Nat} (h : l.length = 0) : FR (meanC l) nanW := by
  have e : l = [] := List.eq_nil_of_length_eq_zero h
  subst e
  exact ⟨by decide, by decide⟩
theorem sum_go {l : List Nat} {j q r : Nat} (h0 : 0 < j) (h : j < l.length) (hq : FR (sumC (l.take j)) q) (hr : FR (F.add q l[j]) r) : cls r = sumC (l.take (j + 1)) := by
  rw [sum_step l j h0 h, ← bind_add hq]; exact hr.1
section
variable {r : Nat} (hn : nanB r = false)
include hn
theorem mille_lim (h : ltF (floorW r) c1 = true ∨ gtF (floorW r) c2 = true) : okY r = false := by
  have hf := floorW_ok hn
  have e1 := (lt_c hf.1 nan_c1 hf.2 sv_c1).1
  have e2 := (lt_c hf.1 nan_c2 hf.2 sv_c2).2
  refine decide_eq_false ?_
  rcases h with h | h
  · have := of_decide_eq_true (e1.symm.trans h); omega
  · have := of_decide_eq_true (e2.symm.trans h); omega
theorem mille_ok (h1 : ltF (floorW r) c1 = false) (h2 : gtF (floorW r) c2 = false) : okY r = true := by
  have hf := floorW_ok hn
  have e1 := (lt_c hf.1 nan_c1 hf.2 sv_c1).1
  have e2 := (lt_c hf.1 nan_c2 hf.2 sv_c2).2
  refine decide_eq_true ?_
  have := of_decide_eq_false (e1.symm.trans h1)
  have := of_decide_eq_false (e2.symm.trans h2)
  omega
theorem mille_int (h1 : ltF (floorW r) c1 = false) (h2 : gtF (floorW r) c2 = false) : floatToIntVal .f64 (floorW r) .i64 = some (floorI r) := by
  have hf := floorW_ok hn
  have hk := of_decide_eq_true (mille_ok hn h1 h2)
  exact floor_int hf.1 hf.2 (by omega) (by omega)
theorem ref_lim (h : geF r c1 = false ∨ ltF r c3 = false) : okY r = false := by
  refine decide_eq_false ?_
  rw [ge_c1 hn, lt_c3 hn] at h
  rcases h with h | h
  · have := of_decide_eq_false h; omega
  · have := of_decide_eq_false h; omega
theorem ref_ok (h1 : geF r c1 = true) (h2 : ltF r c3 = true) : okY r = true := by
  rw [ge_c1 hn] at h1
  rw [lt_c3 hn] at h2
  exact decide_eq_true ⟨of_decide_eq_true h1, of_decide_eq_true h2⟩
theorem ref_val (hk : okY r = true) : (gtF (ofInt ((sv r).tdiv (U : Int))) r = true → (sv r).tdiv (U : Int) - 1 = floorI r) ∧ (gtF (ofInt ((sv r).tdiv (U : Int))) r = false → (sv r).tdiv (U : Int) = floorI r) := by
  have hU := U_pos
  have ht := trunc_floor (x := sv r) (V := (U : Int)) (by omega)
  have hb := (trunc_int hn hk).2
  rw [gt_trunc hn hb.1 hb.2]
  refine ⟨fun h => ?_, fun h => ?_⟩
  · rw [if_pos (of_decide_eq_true h)] at ht; exact ht
  · rw [if_neg (of_decide_eq_false h)] at ht; exact ht
end
theorem mill_nan {x : Nat} (h : nanB x = true) : millN x = 0 ∧ millE x = 2 := ⟨if_pos h, if_pos h⟩
theorem mill_lim {x r : Nat} (h : nanB x = false) (hy : millY x = r) (hk : okY r = false) : millN x = 0 ∧ millE x = 3 := by
  unfold millN millE
  rw [hy, h, hk]
  exact ⟨rfl, rfl⟩
theorem mill_ok {x r : Nat} (h : nanB x = false) (hy : millY x = r) (hk : okY r = true) : millN x = floorI r ∧ millE x = 0 := by
  unfold millN millE
  rw [hy, h, hk]
  exact ⟨rfl, rfl⟩
theorem mill_r {x r : Nat} (h : nanB x = false) (hr : FR (F.mul kW x) r) : millY x = r ∧ nanB r = false := by
  obtain ⟨y, hy⟩ := mul_k h
  rw [hy] at hr
  unfold millY
  rw [hy]
  exact ⟨(hr.num).1.symm, (hr.num).2⟩
theorem mill_1 : millN 4589168020290535424 = 62 ∧ millE 4589168020290535424 = 0 := by
  have hy : millY 4589168020290535424 = 4633992062512267264 ∨ True := .inr trivial
  have h := mill_ok (x := 4589168020290535424) (r := millY 4589168020290535424) (by decide) rfl
  have e : floorI (millY 4589168020290535424) = 62 := by unfold floorI millY; rw [U_eq]; decide +kernel
  have hk : okY (millY 4589168020290535424) = true := by unfold okY; rw [e]; decide
  rw [(h hk).1, (h hk).2, e]
  exact ⟨rfl, rfl⟩

theorem nan_same {o : Option Nat} {a b : Nat} (ha : FR o a) (hb : FR o b) : nanB a = nanB b := by
  cases o with
  | none => rw [ha.none, hb.none]
  | some x => rw [ha.num.2, hb.num.2]
theorem zero_of {a : Nat} (h : eqF a 0 = true) : nanB a = false ∧ rg a = 0 := by
  cases hn : nanB a
  · rw [eq_is hn nan_zero] at h
    have h := of_decide_eq_true h
    have e0 : kv 0 = 0 := by decide
    rw [e0] at h
    refine ⟨rfl, ?_⟩
    unfold kv at h
    split at h <;> omega
  · rw [eq_nan (.inl hn)] at h; cases h
theorem zero_ne {a : Nat} (h : neF a 0 = false) : rg a = 0 := (zero_of (by rw [ne_is] at h; simpa using h)).2
theorem eq_zero {a : Nat} (h : eqF a 0 = false) (hn : nanB a = false) : rg a ≠ 0 := by
  rw [eq_is hn nan_zero] at h
  have h := of_decide_eq_false h
  have e0 : kv 0 = 0 := by decide
  intro e
  apply h
  rw [e0]
  unfold kv
  rw [e]; split <;> rfl
theorem sgi {d : Nat} (h : d < 18446744073709551616) : decide ((9223372036854775808 : Int) ≤ (d : Int)) = sg d := by
  rw [sg_ge h]; exact decide_eq_decide.2 (by omega)
theorem share_inf {d a r : Nat} (hn : nanB d = false) (h0 : eqF d 0 = false) (ha : neF a 0 = false) (hr : FR (F.div d a) r) : r = F.word (sg d ^^ sg a) infR := by
  rw [div_zero hn (eq_zero h0 hn) (zero_ne ha)] at hr
  exact hr.num.1
theorem bad0 : badW 0 = false := by decide
theorem stays_inf {old now d r : Nat} (ho : nanB old = false) (hn : nanB now = false) (hd : FR (F.sub now old) d) (hi : infB d 0 = true ∨ nanB d = true) (hr : FR (smoothC old now 0) r) : nanB r = true := by
  unfold smoothC at hr
  rw [if_neg (by simp [bad0]), if_neg (by simp [ho]), if_neg (by simp [hn])] at hr
  rw [← bind_mul hd] at hr
  cases hdn : nanB d
  · have hi := hi.resolve_right (by simp [hdn])
    rw [inf_abs hdn] at hi
    rw [mul_inf (of_decide_eq_true hi)] at hr
    exact hr.none
  · rw [mul_nan1 hdn] at hr
    exact hr.none
theorem sub_inf {now old d : Nat} (hn : nanB now = false) (hI : rg old = infR) (hd : FR (F.sub now old) d) : nanB d = true ∨ rg d = infR := by
  have hlt := infR_lt
  have key : F.sub now old = none ∨ ∃ s, F.sub now old = some (F.word s infR) := by
    have := rg_le hn
    unfold Ieee.Format.sub
    rw [read_inf hI]
    by_cases h2 : rg now = infR
    · rw [read_inf h2]
      show Option.map F.write (if sg now = !(sg old) then some (.infinity (sg now)) else none) = none ∨ ∃ s, Option.map F.write (if sg now = !(sg old) then some (.infinity (sg now)) else none) = _
      split
      · exact .inr ⟨sg now, by show some (F.word _ F.infRung) = _; rw [infR_eq]⟩
      · exact .inl rfl
    · obtain ⟨m, i, hrd, _⟩ := read_num (a := now) (by omega)
      rw [hrd]
      exact .inr ⟨!(sg old), by show some (F.word _ F.infRung) = _; rw [infR_eq]⟩
  rcases key with e | ⟨s, e⟩
  · rw [e] at hd; exact .inl hd.none
  · rw [e] at hd
    right
    rw [hd.num.1, rg_word s hlt]
theorem stays_ok {old now d r : Nat} (ho : nanB old = false) (hn : nanB now = false) (hd : FR (F.sub now old) d) (hi : infB d 0 = false) (hdn : nanB d = false) (hr : FR (smoothC old now 0) r) : eqF r old = true := by
  rw [inf_abs hdn] at hi
  have hi := of_decide_eq_false hi
  have h1 := rg_le hdn
  have h2 := rg_le ho
  have hoI : rg old ≠ infR := by
    intro e
    rcases sub_inf hn e hd with h | h
    · rw [hdn] at h; cases h
    · exact hi h
  unfold smoothC at hr
  rw [if_neg (by simp [bad0]), if_neg (by simp [ho]), if_neg (by simp [hn])] at hr
  rw [← bind_mul hd, mul_zero (by omega)] at hr
  obtain ⟨x, e, hx, hk⟩ := add_zero (a := old) (by omega) (sg d)
  rw [show (some (F.word (sg d) 0)).bind (fun p => F.add old p) = F.add old (F.word (sg d) 0) from rfl, e] at hr
  rw [hr.num.1, eq_is hx ho]
  exact decide_eq_true hk
theorem mill_2 : millE nanW = 2 := if_pos (by decide)
theorem mill_3 : millE infR = 3 := by
  have hk : okY (millY infR) = false := by unfold okY floorI millY; rw [U_eq]; decide +kernel
  exact (mill_lim (x := infR) (by decide) rfl hk).2
end Go.Proofs.Ytikmjecjolppdaa.Gauge
