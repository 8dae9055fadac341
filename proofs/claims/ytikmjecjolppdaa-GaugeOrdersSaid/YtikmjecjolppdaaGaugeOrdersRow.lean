/- Proved: the given statement GaugeOrdersSaid; it has no further condition. -/
import Derived.Test.YtikmjecjolppdaaRows
import Derived.Test.YtikmjecjolppdaaEngR
import Derived.Test.YtikmjecjolppdaaGaugeL4
import Derived.WalkKit
import Derived.ProofKit
import Derived.OpenShut
import Derived.ShutString
import Derived.ChangeOld
import Derived.Below
import Derived.SizedLaws
set_option linter.unusedVariables false
set_option linter.unusedSimpArgs false
namespace Go.Proofs.Ytikmjecjolppdaa.gaugeOrders
open Go.ChangeShapes Go.WideShapes Go.ChangeAt Go.RowKit Go.Proofs.Ytikmjecjolppdaa.Eng
open Go.ChangeMaps (open_string shut_string)
open Go.Proofs.Ytikmjecjolppdaa.Gauge Go.Proofs.Ytikmjecjolppdaa.Fl
theorem own : ownKnob Try.prog.godebug = none := by kernel_rfl
theorem laidOut : laidOutB Try.prog = true := by kernel_rfl
theorem wl {b : Nat} (h : (Lit.float .f64 b).wf = true) : b < 18446744073709551616 := by simpa [Lit.wf] using h
def eFlb : Enc {n : Nat // n < 18446744073709551616} := ⟨fun x => [.float .f64 x.1], 1, fun _ => rfl, by simp [Value.oneCell'], by omega⟩
theorem trod_fl {H : Type} {enc : TypeId × Value → H} {W : World} {base : Nat} {spare : Nat → Bool} {held : Bool} {fuel : Nat} {cs : List Value} {x : DataW H × List MemPlace} (h : DataW.trod enc Try.prog W base spare held fuel 22 cs = some x) : ∃ y, cs = eFlb.enc y := by
  cases fuel with
  | zero => simp [DataW.trod] at h
  | succ m =>
    unfold DataW.trod at h
    rw [Try.underlying22] at h
    split at h <;> first | (cases h; done) | (simp at h; done) | skip
    all_goals first
      | (rename_i k k' b e; split at h <;> first | (cases h; done) | (rename_i hw; obtain ⟨rfl, hw⟩ := hw; cases e; exact ⟨⟨_, wl hw⟩, rfl⟩))
      | (simp_all; done)
theorem sl_map {W : World} {l : List {n : Nat // n < 18446744073709551616}} {a : Option Addr} {b o cap : Nat} (h : Sl eFlb W l a b o cap) : Sl eFl W (l.map (·.1)) a b o cap :=
  ⟨fun hp => h.at_ (by simpa using hp), fun i hi => by have h1 := h.rd i (by simpa using hi); simpa [eFl, eFlb] using h1, by simpa using h.le, h.mx⟩
theorem all_lt (l : List {n : Nat // n < 18446744073709551616}) : ∀ x ∈ l.map (·.1), x < 18446744073709551616 := by
  intro x hx
  obtain ⟨y, _, rfl⟩ := List.mem_map.1 hx
  exact y.2
set_option maxRecDepth 100000 in
theorem lifted (os : Os) (started : os.Started) (H : Type) (enc : TypeId × Value → H) :
    ReturnsInHanded {} Try.checked os 4 .any (Rows.gaugeOrdersSpec.pre6 enc Try.prog Try.f4 Rows.gaugeOrdersRow.domain false) (Rows.gaugeOrdersSpec.post enc Try.prog Try.f4 false true false false) := by
  refine returnsInHanded_of_change_sized (C := Try.checked) own started (by kernel_rfl) Try.func4
    (ChangeSpec.witness6 (enc := enc) (C := Try.checked) false ⟨#[], #[.float .f64 0, .float .f64 0, .slice none 0 0], []⟩ 8 (by kernel_rfl) (by kernel_rfl) (by kernel_rfl) (by kernel_rfl)) ?_
  intro W base args ds gs before hval0 hW hcnd hsz0 _
  have hsz : (DataW.weightsEach Try.prog (Try.f4.params.toList ++ Rows.gaugeOrdersSpec.plain.varTypes Try.prog) (ds ++ gs)).all (· ≤ reachBytes) = true := hsz0
  have hval : ∀ (j : Nat) t v, Try.f4.params[j]? = some t → args[j]? = some v → Value.okWide Try.prog W .any base t v := hval0
  have hW' := hW
  obtain ⟨p, q, hA0, hV, rfl, hfz, hnd⟩ := hW
  have hA : DataW.TrodAll enc Try.prog W 0 (fun _ => true) true Try.f4.params.toList args.toList ds p := hA0
  rw [Try.params4] at hA hval hsz
  obtain ⟨v0, vs0, d0, ds0, p0, q0, hargs, rfl, rfl, h0, r0⟩ := trodAll_cons hA
  obtain ⟨v1, vs1, d1, ds1, p1, q1, rfl, rfl, rfl, h1, r1⟩ := trodAll_cons r0
  obtain ⟨v2, vs2, d2, ds2, p2, q2, rfl, rfl, rfl, h2, r2⟩ := trodAll_cons r1
  obtain ⟨rfl, rfl, rfl⟩ := trodAll_nil r2
  obtain rfl : args = #[v0, v1, v2] := by cases args; simp_all
  obtain ⟨rfl, rfl⟩ := trodVars_none hV
  obtain ⟨a0, rfl, rfl, rfl, w0⟩ := open_float Try.underlying22 (hval 0 22 v0 rfl rfl) h0
  obtain ⟨a1, rfl, rfl, rfl, w1⟩ := open_float Try.underlying22 (hval 1 22 v1 rfl rfl) h1
  have k2 := h2
  have lt2 : ∀ x ∈ p2, x.block < W.heap.size := by obtain ⟨m, hm⟩ := k2; exact DataW.trod_lt m _ _ _ hm
  obtain ⟨l2, s2, b2, o2, c2, rfl, hs2⟩ := open_sl eFlb Try.underlying30 (by kernel_rfl) (fun _ _ _ h => trod_fl h) (hval 2 30 v2 rfl rfl) h2
  have y2 := sized_sl hsz (j := 2) (t := 30) rfl rfl Try.underlying30 (B := 8) (by kernel_rfl) h2
  clear hA0 hval0 hsz0 hsz
  refine (f4_GaugeOrders a0 a1 (l2.map (·.1)) s2 b2 o2 c2 _ W (wl w0) (wl w1) (by simp) (sl_map hs2) (all_lt l2)).mono fun e W' ⟨he, bel⟩ => ?_
  subst he
  exact ⟨_, rfl, _, _, _, [], _, [], hW', trodAll_mk1 (shut_bool Try.underlying4 _), (trodAll_cons_mk (shut_float Try.underlying22 w0) (trodAll_cons_mk (shut_float Try.underlying22 w1) (trodAll_cons_mk (Below.trod laidOut (by kernel_rfl) (of_decide_eq_true (by kernel_rfl)) k2 bel lt2) trodAll_mk0))), rfl, bel.frame _, fun h => by cases h⟩
theorem over : Rows.gaugeOrdersRow.holds Try.pinned (OpenSpec.ofChange Rows.gaugeOrdersSpec) :=
  OpenClaim.holds_of_wide 4 Try.f4 rfl rfl rfl rfl rfl rfl rfl ⟨rfl, rfl, rfl, rfl, rfl⟩ rfl rfl rfl rfl rfl (by kernel_rfl) Try.func4 (by kernel_rfl)
    (of_decide_eq_true (by kernel_rfl)) (by unfold Func.isWrapper; first | (rw [if_pos (by decide +kernel)]; kernel_rfl) | (rw [if_neg (by decide +kernel)]; exact ⟨rfl, rfl⟩))
    (fun os started H enc _ => lifted os started H enc)
end Go.Proofs.Ytikmjecjolppdaa.gaugeOrders
namespace Go.Proofs.Ytikmjecjolppdaa
theorem gaugeOrders_holds : Rows.GaugeOrdersSaid := gaugeOrders.over
end Go.Proofs.Ytikmjecjolppdaa
