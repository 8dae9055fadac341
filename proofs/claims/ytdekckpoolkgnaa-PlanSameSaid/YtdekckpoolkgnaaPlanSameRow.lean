/- Proved: the given statement PlanSameSaid; it has no further condition. -/
import Derived.Test.YtdekckpoolkgnaaRows
import Derived.Test.YtdekckpoolkgnaaEngR
import Derived.Test.YtdekckpoolkgnaaPlanL67
import Derived.WalkKit
import Derived.ProofKit
import Derived.OpenShut
import Derived.ShutString
import Derived.ChangeOld
import Derived.Below
import Derived.SizedLaws
set_option linter.unusedVariables false
set_option linter.unusedSimpArgs false
namespace Go.Proofs.Ytdekckpoolkgnaa.planSame
open Go.ChangeShapes Go.WideShapes Go.ChangeAt Go.RowKit Go.Proofs.Ytdekckpoolkgnaa.Eng
open Go.ChangeMaps (open_string shut_string)
open Go.Proofs.Ytdekckpoolkgnaa.Plan
theorem own : ownKnob Try.prog.godebug = none := by kernel_rfl
theorem laidOut : laidOutB Try.prog = true := by kernel_rfl
set_option maxRecDepth 100000 in
theorem lifted (os : Os) (started : os.Started) (H : Type) (enc : TypeId × Value → H) :
    ReturnsInHanded {} Try.checked os 7 .any (Rows.planSameSpec.pre6 enc Try.prog Try.f7 Rows.planSameRow.domain false) (Rows.planSameSpec.post enc Try.prog Try.f7 false true false false) := by
  refine returnsInHanded_of_change_sized (C := Try.checked) own started (by kernel_rfl) Try.func7
    (ChangeSpec.witness6 (enc := enc) (C := Try.checked) false ⟨#[], #[.slice none 0 0, .slice none 0 0, .slice none 0 0], []⟩ 8 (by kernel_rfl) (by kernel_rfl) (by kernel_rfl) (by kernel_rfl)) ?_
  intro W base args ds gs before hval0 hW hcnd hsz0 _
  have hsz : (DataW.weightsEach Try.prog (Try.f7.params.toList ++ Rows.planSameSpec.plain.varTypes Try.prog) (ds ++ gs)).all (· ≤ reachBytes) = true := hsz0
  have hval : ∀ (j : Nat) t v, Try.f7.params[j]? = some t → args[j]? = some v → Value.okWide Try.prog W .any base t v := hval0
  have hW' := hW
  obtain ⟨p, q, hA0, hV, rfl, hfz, hnd⟩ := hW
  have hA : DataW.TrodAll enc Try.prog W 0 (fun _ => true) true Try.f7.params.toList args.toList ds p := hA0
  rw [Try.params7] at hA hval hsz
  obtain ⟨v0, vs0, d0, ds0, p0, q0, hargs, rfl, rfl, h0, r0⟩ := trodAll_cons hA
  obtain ⟨v1, vs1, d1, ds1, p1, q1, rfl, rfl, rfl, h1, r1⟩ := trodAll_cons r0
  obtain ⟨v2, vs2, d2, ds2, p2, q2, rfl, rfl, rfl, h2, r2⟩ := trodAll_cons r1
  obtain ⟨rfl, rfl, rfl⟩ := trodAll_nil r2
  obtain rfl : args = #[v0, v1, v2] := by cases args; simp_all
  obtain ⟨rfl, rfl⟩ := trodVars_none hV
  have k0 := h0
  have lt0 : ∀ x ∈ p0, x.block < W.heap.size := by obtain ⟨m, hm⟩ := k0; exact DataW.trod_lt m _ _ _ hm
  obtain ⟨l0, s0, b0, o0, c0, rfl, hs0⟩ := open_sl eBool Try.underlying22 (by kernel_rfl) (fun _ _ _ h => trod_boolv Try.underlying4 h) (hval 0 22 v0 rfl rfl) h0
  have y0 := sized_sl hsz (j := 0) (t := 22) rfl rfl Try.underlying22 (B := 1) (by kernel_rfl) h0
  have k1 := h1
  have lt1 : ∀ x ∈ p1, x.block < W.heap.size := by obtain ⟨m, hm⟩ := k1; exact DataW.trod_lt m _ _ _ hm
  obtain ⟨l1, s1, b1, o1, c1, rfl, hs1⟩ := open_sl eBlk Try.underlying33 (by kernel_rfl) (fun _ _ _ h => trod_blk Try.underlying35 Try.underlying5 (by kernel_rfl) (by kernel_rfl) h) (hval 1 33 v1 rfl rfl) h1
  have y1 := sized_sl hsz (j := 1) (t := 33) rfl rfl Try.underlying33 (B := 64) (by kernel_rfl) h1
  have k2 := h2
  have lt2 : ∀ x ∈ p2, x.block < W.heap.size := by obtain ⟨m, hm⟩ := k2; exact DataW.trod_lt m _ _ _ hm
  obtain ⟨l2, s2, b2, o2, c2, rfl, hs2⟩ := open_sl eBlk Try.underlying33 (by kernel_rfl) (fun _ _ _ h => trod_blk Try.underlying35 Try.underlying5 (by kernel_rfl) (by kernel_rfl) h) (hval 2 33 v2 rfl rfl) h2
  have y2 := sized_sl hsz (j := 2) (t := 33) rfl rfl Try.underlying33 (B := 64) (by kernel_rfl) h2
  clear hA0 hval0 hsz0 hsz
  refine (f7_PlanSame l0 s0 b0 o0 c0 _ l1 s1 b1 o1 c1 _ l2 s2 b2 o2 c2 _ W rfl hs0 rfl hs1 rfl hs2).mono fun e W' ⟨he, bel⟩ => ?_
  subst he
  exact ⟨_, rfl, _, _, _, [], _, [], hW', trodAll_mk1 (shut_bool Try.underlying4 _), (trodAll_cons_mk (Below.trod laidOut (by kernel_rfl) (of_decide_eq_true (by kernel_rfl)) k0 bel lt0) (trodAll_cons_mk (Below.trod laidOut (by kernel_rfl) (of_decide_eq_true (by kernel_rfl)) k1 bel lt1) (trodAll_cons_mk (Below.trod laidOut (by kernel_rfl) (of_decide_eq_true (by kernel_rfl)) k2 bel lt2) trodAll_mk0))), rfl, bel.frame _, fun h => by cases h⟩
theorem over : Rows.planSameRow.holds Try.pinned (OpenSpec.ofChange Rows.planSameSpec) :=
  OpenClaim.holds_of_wide 7 Try.f7 rfl rfl rfl rfl rfl rfl rfl ⟨rfl, rfl, rfl, rfl, rfl⟩ rfl rfl rfl rfl rfl (by kernel_rfl) Try.func7 (by kernel_rfl)
    (of_decide_eq_true (by kernel_rfl)) (by unfold Func.isWrapper; first | (rw [if_pos (by decide +kernel)]; kernel_rfl) | (rw [if_neg (by decide +kernel)]; exact ⟨rfl, rfl⟩))
    (fun os started H enc _ => lifted os started H enc)
end Go.Proofs.Ytdekckpoolkgnaa.planSame
namespace Go.Proofs.Ytdekckpoolkgnaa
theorem planSame_holds : Rows.PlanSameSaid := planSame.over
end Go.Proofs.Ytdekckpoolkgnaa
