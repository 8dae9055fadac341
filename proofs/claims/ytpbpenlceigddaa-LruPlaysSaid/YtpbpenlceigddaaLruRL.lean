/- Proved: what the functions of the reference's list come to, said of the row of its keys; the conditions stand in the statements. -/
import Derived.Test.YtpbpenlceigddaaLruR
import Derived.Test.YtpbpenlceigddaaLruList
set_option linter.unusedVariables false
set_option linter.unusedSimpArgs false
set_option linter.unusedSectionVars false
namespace Go.Proofs.Ytpbpenlceigddaa.Lru
open Go Go.RowKit Go.Proofs.Ytpbpenlceigddaa.Eng

section
variable {gr : Nat} {r : Int} {ks : Ks} {H0 : Hp} (hR : RefK gr r ks H0) (h64 : ks.length ≤ 64) (k : Int) (w : World) (hat : At H0 w)
include hR h64 hat
theorem RL_touch : Calls Try.prog 27 [.pointer (some ⟨gr, 0, none⟩), .int .i64 k].toArray w fun e w' => ∃ v H', e = .returned v ∧ St w (ids H0) H' w' ∧ v = tupO (touchO r ks k) ∧ RefK gr r (touchK r ks k) H' := by
  cases hpl : plc ks k with
  | some i => rw [touchO_a hpl]; exact f27_RTouchIs gr r ks H0 k i w hR h64 hpl hat
  | none =>
    by_cases hlt : (ks.length : Int) < r
    · rw [touchO_b hpl hlt]; exact f27_RTouchNew gr r ks H0 k w hR h64 hpl hlt hat
    · cases hlf : lfK ks ks.length with
      | none =>
        rw [touchO_c hpl hlt hlf, touchK_c hpl hlt hlf]
        refine (f27_RTouchFull gr r ks H0 k w hR h64 hpl hlt hlf hat).mono ?_
        rintro e w' ⟨he, hb⟩
        exact ⟨_, _, he, At.below hat hb, rfl, hR⟩
      | some i => rw [touchO_d hpl hlt hlf]; exact f27_RTouchOut gr r ks H0 k i w hR h64 hpl hlt hlf hat
theorem RL_pin (b : Bool) : Calls Try.prog 28 [.pointer (some ⟨gr, 0, none⟩), .int .i64 k, .bool b].toArray w fun e w' => ∃ v H', e = .returned v ∧ St w (ids H0) H' w' ∧ v = .int .i64 (errK ks k) ∧ RefK gr r (pinK ks k b) H' := by
  cases hpl : plc ks k with
  | some i => rw [errK_a hpl]; exact f28_RPinIs gr r ks H0 k b i w hR h64 hpl hat
  | none =>
    rw [errK_n hpl, pinK_n hpl]
    refine (f28_RPinNo gr r ks H0 k b w hR h64 hpl hat).mono ?_
    rintro e w' ⟨he, hb⟩
    exact ⟨_, _, he, At.below hat hb, rfl, hR⟩
theorem RL_drop : Calls Try.prog 29 [.pointer (some ⟨gr, 0, none⟩), .int .i64 k].toArray w fun e w' => ∃ v H', e = .returned v ∧ St w (ids H0) H' w' ∧ v = .int .i64 (errK ks k) ∧ RefK gr r (dropK ks k) H' := by
  cases hpl : plc ks k with
  | some i => rw [errK_a hpl]; exact f29_RDropIs gr r ks H0 k i w hR h64 hpl hat
  | none =>
    rw [errK_n hpl, dropK_n hpl]
    refine (f29_RDropNo gr r ks H0 k w hR h64 hpl hat).mono ?_
    rintro e w' ⟨he, hb⟩
    exact ⟨_, _, he, At.below hat hb, rfl, hR⟩
theorem RL_has : Calls Try.prog 30 [.pointer (some ⟨gr, 0, none⟩), .int .i64 k].toArray w fun e w' => e = .returned (.bool (hasK ks k)) ∧ Below w.heap.size w w' := by
  cases hpl : plc ks k with
  | some i => rw [hasK_a hpl]; exact f30_RHasIs gr r ks H0 k i w hR h64 hpl hat
  | none => rw [hasK_n hpl]; exact f30_RHasNo gr r ks H0 k w hR h64 hpl hat
theorem RL_pnd : Calls Try.prog 31 [.pointer (some ⟨gr, 0, none⟩), .int .i64 k].toArray w fun e w' => e = .returned (.bool (pndK ks k)) ∧ Below w.heap.size w w' := by
  cases hpl : plc ks k with
  | some i => rw [pndK_a hpl]; exact f31_RPinnedIs gr r ks H0 k i w hR h64 hpl hat
  | none => rw [pndK_n hpl]; exact f31_RPinnedNo gr r ks H0 k w hR h64 hpl hat
omit k
theorem RL_keys : Calls Try.prog 19 [.pointer (some ⟨gr, 0, none⟩)].toArray w fun e w' => ∃ v H', e = .returned v ∧ St w (fun _ => False) H' w' ∧ ∃ a g2 cap, v = .slice a (keyK ks).length cap ∧ OwnV eInt 3 (keyK ks) a g2 cap H' := by
  have := f19_RKeys gr r ks H0 w hR h64 hat
  rw [kyR_all] at this
  exact this
end
theorem _root_.Go.Proofs.Ytpbpenlceigddaa.Eng.o_callF {P : Program} {n : Nat} {w0 : World} {S : Nat → Prop} {H : Hp} {R : Regs} {ty : TypeId} {pos : String} {after : Array Go.Edge} {Q : Exit → Regs → Hp → Prop} {ops : Array Oper} {rest : List Oper} {d : Option Tmp} {f : FuncId} {args : Array Operand} {at_ : Array TypeId} {vs : List Value} {T : Value → Hp → Prop} (hf : Bodied P f) (hd : (match d with | some d => decide (d < n) | none => true) = true)
    (hv : args.toList.map (ev R) = vs)
    (hc : ∀ w, St w0 S H w → Calls P f vs.toArray w fun e w' => ∃ v H', e = .returned v ∧ St w (fun _ => False) H' w' ∧ T v H')
    (h : ∀ v H', T v H' → opsG P n w0 S ops Q rest (put R d v) H) :
    opsG P n w0 S ops Q (⟨d, .call { callee := .value (.func f), args := args, argTypes := at_ }, ty, pos, after, none⟩ :: rest) R H :=
  o_callNew hf hd hv hc fun v H' hT => o_forget (List.sublist_append_right H' H) (h v H' hT)
theorem keyK_len (ks : Ks) : (keyK ks).length = ks.length := List.length_map _
theorem wrap_u64 (x : Int) : 0 ≤ IntKind.u64.wrap x ∧ IntKind.u64.wrap x ≤ 18446744073709551615 := by
  simp only [IntKind.wrap, IntKind.signed, IntKind.bits]
  simp
  omega
theorem rem_lt {x y : Int} (hx : 0 ≤ x) (hy : 0 < y) : 0 ≤ x.tmod y ∧ x.tmod y < y := by
  rw [Int.tmod_eq_emod_of_nonneg hx]
  exact ⟨Int.emod_nonneg _ (by omega), Int.emod_lt_of_pos _ hy⟩
theorem touch_len {r : Int} {ks : Ks} {k : Int} (h : (ks.length : Int) ≤ r) (h1 : 1 ≤ r) : ((touchK r ks k).length : Int) ≤ r := by
  cases hpl : plc ks k with
  | some i => rw [touchK_a hpl, List.length_cons, List.length_eraseIdx_of_lt (plc_lt hpl)]; have := plc_lt hpl; omega
  | none =>
    by_cases hlt : (ks.length : Int) < r
    · rw [touchK_b hpl hlt, List.length_cons]; omega
    · cases hlf : lfK ks ks.length with
      | none => rw [touchK_c hpl hlt hlf]; exact h
      | some i => rw [touchK_d hpl hlt hlf, List.length_cons, List.length_eraseIdx_of_lt (lfK_lt hlf)]; have := lfK_lt hlf; omega
theorem pin_len (ks : Ks) (k : Int) (b : Bool) : (pinK ks k b).length = ks.length := by unfold pinK; split <;> simp
theorem drop_len (ks : Ks) (k : Int) : (dropK ks k).length ≤ ks.length := by
  unfold dropK; split
  · exact List.length_eraseIdx_le ..
  · exact Nat.le_refl _
end Go.Proofs.Ytpbpenlceigddaa.Lru
