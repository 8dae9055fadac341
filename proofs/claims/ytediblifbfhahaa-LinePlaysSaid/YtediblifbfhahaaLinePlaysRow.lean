/- Proved: the given statement LinePlaysSaid; it has no further condition. -/
import Derived.Test.YtediblifbfhahaaRows
import Derived.Test.YtediblifbfhahaaEngR
import Derived.Test.YtediblifbfhahaaLineL5
import Derived.WalkKit
import Derived.ProofKit
import Derived.OpenShut
import Derived.ShutString
import Derived.ChangeOld
import Derived.Below
import Derived.SizedLaws
set_option linter.unusedVariables false
set_option linter.unusedSimpArgs false
namespace Go.Proofs.Ytediblifbfhahaa.linePlays
open Go.ChangeShapes Go.WideShapes Go.ChangeAt Go.RowKit Go.Proofs.Ytediblifbfhahaa.Eng
open Go.ChangeMaps (open_string shut_string)
open Go.Proofs.Ytediblifbfhahaa.Line
theorem own : ownKnob Try.prog.godebug = none := by kernel_rfl
theorem laidOut : laidOutB Try.prog = true := by kernel_rfl
theorem u64_in {x : Int} (h : (Lit.int .u64 x).wf = true) : 0 ≤ x ∧ x ≤ 18446744073709551615 := by
  simp [Lit.wf, IntKind.min, IntKind.max, IntKind.signed, IntKind.bits] at h; omega
theorem u8_in {x : Int} (h : (Lit.int .u8 x).wf = true) : 0 ≤ x ∧ x ≤ 255 := by
  simp [Lit.wf, IntKind.min, IntKind.max, IntKind.signed, IntKind.bits] at h; omega
def eActb : Enc {x : Line.Act // 0 ≤ x.q ∧ x.q ≤ 18446744073709551615} := ⟨fun x => eAct.enc x.1, 67, fun x => eAct.len x.1, fun x => eAct.one x.1, by omega⟩
theorem trod_act {H : Type} {enc : TypeId × Value → H} {W : World} {base : Nat} {spare : Nat → Bool} {held : Bool} {fuel : Nat} {cs : List Value} {x : DataW H × List MemPlace} (h : DataW.trod enc Try.prog W base spare held fuel 41 cs = some x) : ∃ y, cs = eActb.enc y := by
  obtain ⟨xs, n, _, _, hl, hxl, hi⟩ := DataW.trod_struct Try.underlying41 h
  have c41 : Try.prog.cellsOf 41 = 67 := by kernel_rfl
  have c3 : Try.prog.cellsOf 3 = 1 := by kernel_rfl
  have c23 : Try.prog.cellsOf 23 = 64 := by kernel_rfl
  have c24 : Try.prog.cellsOf 24 = 1 := by kernel_rfl
  rw [c41] at hl
  have hx4 : xs.length = 4 := hxl
  have g : ∀ i (h4 : i < 4), xs[i]? = some (xs[i]'(by omega)) := fun i h4 => List.getElem?_eq_getElem _
  have h0 := (hi 0 _ rfl).trans (g 0 (by omega))
  have h1 := (hi 1 _ rfl).trans (g 1 (by omega))
  have h2 := (hi 2 _ rfl).trans (g 2 (by omega))
  have h3 := (hi 3 _ rfl).trans (g 3 (by omega))
  obtain ⟨a, ha, _, _⟩ := DataW.trod_int Try.underlying3 h0
  obtain ⟨m, hm, _, _⟩ := DataW.trod_int Try.underlying3 h1
  obtain ⟨b, hb⟩ := trod_blk Try.underlying23 Try.underlying5 (by kernel_rfl) c23 h2
  obtain ⟨q, hq, _, wq⟩ := DataW.trod_int Try.underlying24 h3
  refine ⟨⟨⟨a, m, b, q⟩, u64_in wq⟩, ?_⟩
  have ha : (cs.drop 0).take 1 = [Value.int .i64 a] := ha
  have hm : (cs.drop 1).take 1 = [Value.int .i64 m] := hm
  have hb : (cs.drop 2).take 64 = (bv b).toList := hb
  have hq : (cs.drop 66).take 1 = [Value.int .u64 q] := hq
  show cs = [Value.int .i64 a, .int .i64 m] ++ (bv b).toList ++ [.int .u64 q]
  have e1 : cs = (cs.drop 0).take 1 ++ ((cs.drop 1).take 1 ++ ((cs.drop 2).take 64 ++ (cs.drop 66).take 1)) := by
    apply List.ext_getElem?
    intro j
    simp only [List.getElem?_append, List.getElem?_take, List.getElem?_drop, List.length_take, List.length_drop, hl]
    by_cases j0 : j < 1
    · rw [if_pos (by omega), if_pos j0]; congr 1; omega
    · rw [if_neg (by omega)]
      by_cases j1 : j < 2
      · rw [if_pos (by omega), if_pos (by omega)]; congr 1; omega
      · rw [if_neg (by omega)]
        by_cases j2 : j < 66
        · rw [if_pos (by omega), if_pos (by omega)]; congr 1; omega
        · rw [if_neg (by omega)]
          by_cases j3 : j < 67
          · rw [if_pos (by omega)]; congr 1; omega
          · rw [if_neg (by omega)]; exact List.getElem?_eq_none (by omega)
  rw [ha, hm, hb, hq] at e1
  rw [e1]
  simp
theorem sl_map {W : World} {l : List {x : Line.Act // 0 ≤ x.q ∧ x.q ≤ 18446744073709551615}} {a : Option Addr} {b o cap : Nat} (h : Sl eActb W l a b o cap) : Sl eAct W (l.map (·.1)) a b o cap :=
  ⟨fun hp => h.at_ (by simpa using hp), fun i hi => by have h1 := h.rd i (by simpa using hi); rw [List.getElem_map]; exact h1, by simpa using h.le, h.mx⟩
theorem all_q (l : List {x : Line.Act // 0 ≤ x.q ∧ x.q ≤ 18446744073709551615}) : ∀ x ∈ l.map (·.1), 0 ≤ x.q ∧ x.q ≤ 18446744073709551615 := by
  intro x hx
  obtain ⟨y, _, rfl⟩ := List.mem_map.1 hx
  exact y.2
set_option maxRecDepth 100000 in
theorem lifted (os : Os) (started : os.Started) (H : Type) (enc : TypeId × Value → H) :
    ReturnsInHanded {} Try.checked os 5 .any (Rows.linePlaysSpec.pre6 enc Try.prog Try.f5 Rows.linePlaysRow.domain false) (Rows.linePlaysSpec.post enc Try.prog Try.f5 false true false false) := by
  refine returnsInHanded_of_change_sized (C := Try.checked) own started (by kernel_rfl) Try.func5
    (ChangeSpec.witness6 (enc := enc) (C := Try.checked) false ⟨#[], #[.int .i64 0, .slice none 0 0], []⟩ 8 (by kernel_rfl) (by kernel_rfl) (by kernel_rfl) (by kernel_rfl)) ?_
  intro W base args ds gs before hval0 hW hcnd hsz0 _
  have hsz : (DataW.weightsEach Try.prog (Try.f5.params.toList ++ Rows.linePlaysSpec.plain.varTypes Try.prog) (ds ++ gs)).all (· ≤ reachBytes) = true := hsz0
  have hval : ∀ (j : Nat) t v, Try.f5.params[j]? = some t → args[j]? = some v → Value.okWide Try.prog W .any base t v := hval0
  have hW' := hW
  obtain ⟨p, q, hA0, hV, rfl, hfz, hnd⟩ := hW
  have hA : DataW.TrodAll enc Try.prog W 0 (fun _ => true) true Try.f5.params.toList args.toList ds p := hA0
  rw [Try.params5] at hA hval hsz
  obtain ⟨v0, vs0, d0, ds0, p0, q0, hargs, rfl, rfl, h0, r0⟩ := trodAll_cons hA
  obtain ⟨v1, vs1, d1, ds1, p1, q1, rfl, rfl, rfl, h1, r1⟩ := trodAll_cons r0
  obtain ⟨rfl, rfl, rfl⟩ := trodAll_nil r1
  obtain rfl : args = #[v0, v1] := by cases args; simp_all
  obtain ⟨rfl, rfl⟩ := trodVars_none hV
  obtain ⟨a0, rfl, rfl, rfl, w0⟩ := open_int Try.underlying3 (hval 0 3 v0 rfl rfl) h0
  have k1 := h1
  have lt1 : ∀ x ∈ p1, x.block < W.heap.size := by obtain ⟨m, hm⟩ := k1; exact DataW.trod_lt m _ _ _ hm
  obtain ⟨l1, s1, b1, o1, c1, rfl, hs1⟩ := open_sl eActb Try.underlying39 (by kernel_rfl) (fun _ _ _ h => trod_act h) (hval 1 39 v1 rfl rfl) h1
  have y1 := sized_sl hsz (j := 1) (t := 39) rfl rfl Try.underlying39 (B := 88) (by kernel_rfl) h1
  clear hA0 hval0 hsz0 hsz
  refine (f5_LinePlays a0 (l1.map (·.1)) s1 b1 o1 c1 _ W (by simp) (sl_map hs1) (all_q l1)).mono fun e W' ⟨he, bel⟩ => ?_
  subst he
  exact ⟨_, rfl, _, _, _, [], _, [], hW', trodAll_mk1 (shut_bool Try.underlying4 _), (trodAll_cons_mk (shut_int Try.underlying3 w0) (trodAll_cons_mk (Below.trod laidOut (by kernel_rfl) (of_decide_eq_true (by kernel_rfl)) k1 bel lt1) trodAll_mk0)), rfl, bel.frame _, fun h => by cases h⟩
theorem over : Rows.linePlaysRow.holds Try.pinned (OpenSpec.ofChange Rows.linePlaysSpec) :=
  OpenClaim.holds_of_wide 5 Try.f5 rfl rfl rfl rfl rfl rfl rfl ⟨rfl, rfl, rfl, rfl, rfl⟩ rfl rfl rfl rfl rfl (by kernel_rfl) Try.func5 (by kernel_rfl)
    (of_decide_eq_true (by kernel_rfl)) (by unfold Func.isWrapper; first | (rw [if_pos (by decide +kernel)]; kernel_rfl) | (rw [if_neg (by decide +kernel)]; exact ⟨rfl, rfl⟩))
    (fun os started H enc _ => lifted os started H enc)
end Go.Proofs.Ytediblifbfhahaa.linePlays
namespace Go.Proofs.Ytediblifbfhahaa
theorem linePlays_holds : Rows.LinePlaysSaid := linePlays.over
end Go.Proofs.Ytediblifbfhahaa
