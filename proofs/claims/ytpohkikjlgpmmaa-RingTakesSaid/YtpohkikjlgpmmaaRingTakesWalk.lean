/- Proved: the walk of the law RingTakes comes to what its printed function tells; no condition. (A text of the kit's print, with two rows of this session's added.) -/
import Derived.Test.YtpohkikjlgpmmaaPRingTakesx0
import Derived.Test.YtpohkikjlgpmmaaPRingTakesx1
namespace Go.Proofs.Ytpohkikjlgpmmaa.PRingTakes
open Go.RowKit Go.Proofs.YtpohkikjlgpmmaaW.PrintWords Go.Proofs.YtpohkikjlgpmmaaW.PrintLast Go.Proofs.YtpohkikjlgpmmaaW.PrintMore
attribute [local go_sem] max2_int min2_int max_two min_two max_three min_three max_four min_four   -- for this text's walks alone
set_option linter.unusedVariables false
set_option linter.unusedSimpArgs false

/-! ### ashlarlaw12_RingTakes: function 5 -/
mutual
def ashlarlaw12_RingTakes.l0 : Nat → Int → List Int → Int → Int → Int → Option (Bool)
  | 0, _, _, _, _, _ => none
  | k + 1, x1, x2, x7, x8, x9 => if x9 < (x2.length : Int) then (ashlarlaw12_RingTakes.j1 k x1 x2 x7 x8 x9 (decide (x9 < 60))) else (ashlarlaw12_RingTakes.j1 k x1 x2 x7 x8 x9 false)
def ashlarlaw12_RingTakes.j1 : Nat → Int → List Int → Int → Int → Int → Bool → Option (Bool)
  | 0, _, _, _, _, _, _ => none
  | k + 1, x1, x2, x7, x8, x9, x29 => if x29 = true then ((ring_Free.f x7 x1 x8).bind fun bt132 => (if bt132.2 = 0 then (ashlarlaw12_RingTakes.j2 k x1 x2 x7 x8 x9 bt132.1 (bt132.1 != (wrap64 (x7 - (wrap64 (IntKind.u64.wrap (x8 - x1))))))) else (ashlarlaw12_RingTakes.j2 k x1 x2 x7 x8 x9 bt132.1 true))) else ((ashlarlaw12_lives.f k).bind fun t131 => (some t131))
def ashlarlaw12_RingTakes.j2 : Nat → Int → List Int → Int → Int → Int → Int → Bool → Option (Bool)
  | 0, _, _, _, _, _, _, _ => none
  | k + 1, x1, x2, x7, x8, x9, x10, x50 => if x50 = true then (some false) else (if 0 ≤ x9 then (if x9 < (x2.length : Int) then (if (rd x2 x9) ≥ 160 then (ashlarlaw12_RingTakes.l0 k (IntKind.u64.wrap (x1 + (mn (IntKind.u64.wrap (wrap64 (Int.tmod (rd x2 x9) 80))) (IntKind.u64.wrap (x8 - x1))))) x2 x7 x8 (wrap64 (x9 + 1))) else ((ring_Take.f k x7 x1 x8 (wrap64 (Int.tmod (rd x2 x9) 80))).bind fun bt136 => (if ((bt136.2 == 0) != (decide ((wrap64 (Int.tmod (rd x2 x9) 80)) ≤ x10))) = true then (ashlarlaw12_RingTakes.j3 k x1 x2 x7 x8 x9 bt136.1 bt136.2 true) else (if bt136.2 = 0 then (ashlarlaw12_RingTakes.j3 k x1 x2 x7 x8 x9 bt136.1 bt136.2 (bt136.1 != (IntKind.u64.wrap (x8 + (IntKind.u64.wrap (wrap64 (Int.tmod (rd x2 x9) 80))))))) else (if bt136.2 = 10 then (ashlarlaw12_RingTakes.j3 k x1 x2 x7 x8 x9 bt136.1 bt136.2 false) else (ashlarlaw12_RingTakes.j3 k x1 x2 x7 x8 x9 bt136.1 bt136.2 true)))))) else (none)) else (none))
def ashlarlaw12_RingTakes.j3 : Nat → Int → List Int → Int → Int → Int → Int → Int → Bool → Option (Bool)
  | 0, _, _, _, _, _, _, _, _ => none
  | k + 1, x1, x2, x7, x8, x9, x13, x14, x103 => if x103 = true then (some false) else (if x14 = 0 then (ashlarlaw12_RingTakes.l0 k x1 x2 x7 x13 (wrap64 (x9 + 1))) else (ashlarlaw12_RingTakes.l0 k x1 x2 x7 x8 (wrap64 (x9 + 1))))
end
def ashlarlaw12_RingTakes.f (k : Nat) (a0 : Int) (a1 : Int) (l2 : List Int) : Option (Bool) := if a1 > 2305843009213693952 then ((ashlarlaw12_lives.f k).bind fun t130 => (some t130)) else (ashlarlaw12_RingTakes.l0 k a1 l2 (wrap64 (1 + (wrap64 (a0)))) a1 0)
theorem ashlarlaw12_RingTakes.mono_l : ∀ k, (∀ y0 y1 y2 y3 y4, LeO (ashlarlaw12_RingTakes.l0 k y0 y1 y2 y3 y4) (ashlarlaw12_RingTakes.l0 (k + 1) y0 y1 y2 y3 y4)) ∧ (∀ y0 y1 y2 y3 y4 y5, LeO (ashlarlaw12_RingTakes.j1 k y0 y1 y2 y3 y4 y5) (ashlarlaw12_RingTakes.j1 (k + 1) y0 y1 y2 y3 y4 y5)) ∧ (∀ y0 y1 y2 y3 y4 y5 y6, LeO (ashlarlaw12_RingTakes.j2 k y0 y1 y2 y3 y4 y5 y6) (ashlarlaw12_RingTakes.j2 (k + 1) y0 y1 y2 y3 y4 y5 y6)) ∧ (∀ y0 y1 y2 y3 y4 y5 y6 y7, LeO (ashlarlaw12_RingTakes.j3 k y0 y1 y2 y3 y4 y5 y6 y7) (ashlarlaw12_RingTakes.j3 (k + 1) y0 y1 y2 y3 y4 y5 y6 y7))
  | 0 => ⟨fun _ _ _ _ _ r h => by simp [ashlarlaw12_RingTakes.l0] at h, fun _ _ _ _ _ _ r h => by simp [ashlarlaw12_RingTakes.j1] at h, fun _ _ _ _ _ _ _ r h => by simp [ashlarlaw12_RingTakes.j2] at h, fun _ _ _ _ _ _ _ _ r h => by simp [ashlarlaw12_RingTakes.j3] at h⟩
  | k + 1 => by
    obtain ⟨ih0, ih1, ih2, ih3⟩ := ashlarlaw12_RingTakes.mono_l k
    refine ⟨?_, ?_, ?_, ?_⟩
    · intro y0 y1 y2 y3 y4
      unfold ashlarlaw12_RingTakes.l0
      repeat' first
      | (with_reducible exact ih0 _ _ _ _ _)
      | (with_reducible exact ih1 _ _ _ _ _ _)
      | (with_reducible exact ih2 _ _ _ _ _ _ _)
      | (with_reducible exact ih3 _ _ _ _ _ _ _ _)
      | (with_reducible exact ashlarlaw12_lives.mono _)
      | (with_reducible exact ring_Take.mono _ _ _ _ _)
      | (with_reducible exact LeO.refl _)
      | (with_reducible exact LeO.none _)
      | (with_reducible refine LeO.ite ?_ ?_)
      | (with_reducible refine LeO.bind ?_ (fun _ => ?_))
      | exact ih0 _ _ _ _ _
      | exact ih1 _ _ _ _ _ _
      | exact ih2 _ _ _ _ _ _ _
      | exact ih3 _ _ _ _ _ _ _ _
      | exact ashlarlaw12_lives.mono _
      | exact ring_Take.mono _ _ _ _ _
      | exact LeO.none _
      | refine LeO.ite ?_ ?_
      | refine LeO.bind ?_ (fun _ => ?_)
    · intro y0 y1 y2 y3 y4 y5
      unfold ashlarlaw12_RingTakes.j1
      repeat' first
      | (with_reducible exact ih0 _ _ _ _ _)
      | (with_reducible exact ih1 _ _ _ _ _ _)
      | (with_reducible exact ih2 _ _ _ _ _ _ _)
      | (with_reducible exact ih3 _ _ _ _ _ _ _ _)
      | (with_reducible exact ashlarlaw12_lives.mono _)
      | (with_reducible exact ring_Take.mono _ _ _ _ _)
      | (with_reducible exact LeO.refl _)
      | (with_reducible exact LeO.none _)
      | (with_reducible refine LeO.ite ?_ ?_)
      | (with_reducible refine LeO.bind ?_ (fun _ => ?_))
      | exact ih0 _ _ _ _ _
      | exact ih1 _ _ _ _ _ _
      | exact ih2 _ _ _ _ _ _ _
      | exact ih3 _ _ _ _ _ _ _ _
      | exact ashlarlaw12_lives.mono _
      | exact ring_Take.mono _ _ _ _ _
      | exact LeO.none _
      | refine LeO.ite ?_ ?_
      | refine LeO.bind ?_ (fun _ => ?_)
    · intro y0 y1 y2 y3 y4 y5 y6
      unfold ashlarlaw12_RingTakes.j2
      repeat' first
      | (with_reducible exact ih0 _ _ _ _ _)
      | (with_reducible exact ih1 _ _ _ _ _ _)
      | (with_reducible exact ih2 _ _ _ _ _ _ _)
      | (with_reducible exact ih3 _ _ _ _ _ _ _ _)
      | (with_reducible exact ashlarlaw12_lives.mono _)
      | (with_reducible exact ring_Take.mono _ _ _ _ _)
      | (with_reducible exact LeO.refl _)
      | (with_reducible exact LeO.none _)
      | (with_reducible refine LeO.ite ?_ ?_)
      | (with_reducible refine LeO.bind ?_ (fun _ => ?_))
      | exact ih0 _ _ _ _ _
      | exact ih1 _ _ _ _ _ _
      | exact ih2 _ _ _ _ _ _ _
      | exact ih3 _ _ _ _ _ _ _ _
      | exact ashlarlaw12_lives.mono _
      | exact ring_Take.mono _ _ _ _ _
      | exact LeO.none _
      | refine LeO.ite ?_ ?_
      | refine LeO.bind ?_ (fun _ => ?_)
    · intro y0 y1 y2 y3 y4 y5 y6 y7
      unfold ashlarlaw12_RingTakes.j3
      repeat' first
      | (with_reducible exact ih0 _ _ _ _ _)
      | (with_reducible exact ih1 _ _ _ _ _ _)
      | (with_reducible exact ih2 _ _ _ _ _ _ _)
      | (with_reducible exact ih3 _ _ _ _ _ _ _ _)
      | (with_reducible exact ashlarlaw12_lives.mono _)
      | (with_reducible exact ring_Take.mono _ _ _ _ _)
      | (with_reducible exact LeO.refl _)
      | (with_reducible exact LeO.none _)
      | (with_reducible refine LeO.ite ?_ ?_)
      | (with_reducible refine LeO.bind ?_ (fun _ => ?_))
      | exact ih0 _ _ _ _ _
      | exact ih1 _ _ _ _ _ _
      | exact ih2 _ _ _ _ _ _ _
      | exact ih3 _ _ _ _ _ _ _ _
      | exact ashlarlaw12_lives.mono _
      | exact ring_Take.mono _ _ _ _ _
      | exact LeO.none _
      | refine LeO.ite ?_ ?_
      | refine LeO.bind ?_ (fun _ => ?_)
theorem ashlarlaw12_RingTakes.mono : ∀ a0 a1 a2 k, LeO (ashlarlaw12_RingTakes.f k a0 a1 a2) (ashlarlaw12_RingTakes.f (k + 1) a0 a1 a2) := by
  intro a0 a1 a2 k
  obtain ⟨ih0, ih1, ih2, ih3⟩ := ashlarlaw12_RingTakes.mono_l k
  unfold ashlarlaw12_RingTakes.f
  repeat' first
      | (with_reducible exact ih0 _ _ _ _ _)
      | (with_reducible exact ih1 _ _ _ _ _ _)
      | (with_reducible exact ih2 _ _ _ _ _ _ _)
      | (with_reducible exact ih3 _ _ _ _ _ _ _ _)
      | (with_reducible exact ashlarlaw12_lives.mono _)
      | (with_reducible exact ring_Take.mono _ _ _ _ _)
      | (with_reducible exact LeO.refl _)
      | (with_reducible exact LeO.none _)
      | (with_reducible refine LeO.ite ?_ ?_)
      | (with_reducible refine LeO.bind ?_ (fun _ => ?_))
      | exact ih0 _ _ _ _ _
      | exact ih1 _ _ _ _ _ _
      | exact ih2 _ _ _ _ _ _ _
      | exact ih3 _ _ _ _ _ _ _ _
      | exact ashlarlaw12_lives.mono _
      | exact ring_Take.mono _ _ _ _ _
      | exact LeO.none _
      | refine LeO.ite ?_ ?_
      | refine LeO.bind ?_ (fun _ => ?_)
set_option maxHeartbeats 8000000 in
set_option maxRecDepth 100000 in
theorem ashlarlaw12_RingTakes.calls (k : Nat) (a0 : Int) (a1 : Int) (A2 : Option Addr) (c2 : Nat) (l2 : List Int) (r : Bool) (w : World) (hr2 : Kd.C (Kd.int .u8) w A2 l2.length l2) (hc2 : l2.length ≤ c2) (h : ashlarlaw12_RingTakes.f k a0 a1 l2 = some r) :
    Calls Try.prog 5 #[.int .u8 a0, .int .u64 a1, .slice A2 l2.length c2] w fun e w' => e = .returned (.bool r) ∧ Below w.heap.size w w' := by
  have HR2 := Aside0.mk hr2
  have HC2 := Aside0.mk hc2
  clear hr2 hc2
  have HB := Aside0.mk (Below.refl w.heap.size w)
  have H : (if a1 > 2305843009213693952 then ((ashlarlaw12_lives.f k).bind fun t130 => (some t130)) else (ashlarlaw12_RingTakes.l0 k a1 l2 (wrap64 (1 + (wrap64 (a0)))) a1 0)) = some r := h
  clear h
  by_cases c4 : a1 > 2305843009213693952
  · rw [if_pos c4] at H
    have c4b0 : decide (2305843009213693952 < a1) = true := decide_eq_true c4
    clear c4
    replace H := Option.bind_eq_some_iff.mp H
    obtain ⟨t130, A50, H⟩ := H
    replace H : (some t130) = some r := H
    have A5 := Aside0.mk A50
    clear A50
    obtain rfl := Option.some.inj H
    go_enter Try.func5, Try.ntmps5
    go_wp2_with (first | ((with_reducible refine gate_callee (f := 15) rfl ?_); refine goesL_ (some 20) rfl rfl Try.func15 (by kernel_rfl) rfl #[] rfl (by (try simp only [List.map_toArray, List.map_cons, List.map_nil]); first | done | rfl | (simp only [List.length_drop, List.length_take]; rfl)) ?_; (with_reducible refine (ashlarlaw12_lives.calls k  t130 _ A5.out).mono ?_); rintro e w6 ⟨rfl, hb⟩; refine ⟨_, rfl, ?_⟩; have n0_ := Aside0.mk (below_step (by repeat (first | (with_reducible first | exact HB.out | apply below_alloc | apply pw_below_drewN | apply below_drew1) | exact HB.out)) hb); clear HB; have HB := n0_; clear n0_; (try clear hb); (try clear hb2); (try clear hk); (try clear hi)))
    go_ret
    exact ⟨by first | rfl | (simp [errW_none, errW_some] <;> rfl) | (simp [*, errW_none, errW_some] <;> rfl), by repeat (first | (with_reducible first | exact HB.out | apply below_alloc | apply pw_below_drewN | apply below_drew1) | exact HB.out)⟩
  · rw [if_neg c4] at H
    have c4b0 : decide (2305843009213693952 < a1) = false := decide_eq_false c4
    clear c4
    have H' := Aside0.mk H
    clear H
    go_enter Try.func5, Try.ntmps5
    go_wp2
    go_loopg [1, 8, 9] k (fun kq v1 v8 v9 w' => ∃ (x1_1 : Int) (x8_1 : Int) (x9_1 : Int), v1 = .int .u64 x1_1 ∧ v8 = .int .u64 x8_1 ∧ v9 = .int .i64 x9_1 ∧ Aside0 (ashlarlaw12_RingTakes.l0 kq x1_1 l2 (wrap64 (1 + (wrap64 (a0)))) x8_1 x9_1 = some r) ∧ Aside0 (kq ≤ k) ∧ Aside0 (Below w.heap.size w w'))
    case atStart => exact ⟨(a1), (a1), (0), (by first | rfl | (simp; done) | (simp [*]; done)), (by first | rfl | (simp; done) | (simp [*]; done)), (by first | rfl | (simp; done) | (simp [*]; done)), H', ⟨Nat.le_refl _⟩, ⟨by repeat (first | (with_reducible first | exact HB.out | apply below_alloc | apply pw_below_drewN | apply below_drew1) | exact HB.out)⟩⟩
    case round =>
      clear H'
      try clear c1
      try clear c2
      try clear p2
      try clear c4
      try clear c4b0
      try clear c5
      try clear p6
      obtain ⟨x1_1, x8_1, x9_1, rfl, rfl, rfl, HA, HK1, HB⟩ := hrel
      cases gk with
      | zero => exact absurd HA.out (by simp [ashlarlaw12_RingTakes.l0])
      | succ k1 =>
        have H := HA.out
        clear HA
        simp only [ashlarlaw12_RingTakes.l0] at H
        have HC7 := Aside0.mk H
        clear H
        go_upto_region 6 with (fail)
        go_cut [29] (fun v29 wc => ∃ (kq : Nat) (x29_6 : Bool), v29 = .bool x29_6 ∧ Aside0 (ashlarlaw12_RingTakes.j1 kq x1_1 l2 (wrap64 (1 + (wrap64 (a0)))) x8_1 x9_1 x29_6 = some r) ∧ Aside0 (kq ≤ k1) ∧ Aside0 (Below w.heap.size w wc))
        case first =>
          have H := HC7.out
          clear HC7
          by_cases c8 : x9_1 < (l2.length : Int)
          · rw [if_pos c8] at H
            have c8b0 : decide (x9_1 < (l2.length : Int)) = true := decide_eq_true c8
            clear c8
            (first | rw [c8b0] | (simp only [i64_w, i32_w]; rw [c8b0]) | skip)
            have H' := Aside0.mk H
            clear H
            go_wp2
            go_meet
            case rel => exact ⟨_, (decide (x9_1 < 60)), (by first | rfl | (simp; done) | (simp [*]; done)), H', ⟨by have := HK1.out; first | omega | exact Nat.le_refl _⟩, ⟨by repeat (first | (with_reducible first | exact HB.out | apply below_alloc | apply pw_below_drewN | apply below_drew1) | exact HB.out)⟩⟩
          · rw [if_neg c8] at H
            have c8b0 : decide (x9_1 < (l2.length : Int)) = false := decide_eq_false c8
            clear c8
            (first | rw [c8b0] | (simp only [i64_w, i32_w]; rw [c8b0]) | skip)
            have H' := Aside0.mk H
            clear H
            go_wp2
            go_meet
            case rel => exact ⟨_, (false), (by first | rfl | (simp; done) | (simp [*]; done)), H', ⟨by have := HK1.out; first | omega | exact Nat.le_refl _⟩, ⟨by repeat (first | (with_reducible first | exact HB.out | apply below_alloc | apply pw_below_drewN | apply below_drew1) | exact HB.out)⟩⟩
        case rest =>
          clear HC7
          try clear c1
          try clear c2
          try clear p2
          try clear c4
          try clear c4b0
          try clear c5
          try clear p6
          try clear c8
          try clear c8b0
          try clear p2
          try clear p6
          obtain ⟨kq, x29_6, rfl, HA, HJ6, HB⟩ := hcut
          cases kq with
          | zero => exact absurd HA.out (by simp [ashlarlaw12_RingTakes.j1])
          | succ kj6 =>
            have H := HA.out
            clear HA
            simp only [ashlarlaw12_RingTakes.j1] at H
            by_cases c9 : x29_6 = true
            · subst c9
              have H1 : ((ring_Free.f (wrap64 (1 + (wrap64 (a0)))) x1_1 x8_1).bind fun bt132 => (if bt132.2 = 0 then (ashlarlaw12_RingTakes.j2 kj6 x1_1 l2 (wrap64 (1 + (wrap64 (a0)))) x8_1 x9_1 bt132.1 (bt132.1 != (wrap64 ((wrap64 (1 + (wrap64 (a0)))) - (wrap64 (IntKind.u64.wrap (x8_1 - x1_1))))))) else (ashlarlaw12_RingTakes.j2 kj6 x1_1 l2 (wrap64 (1 + (wrap64 (a0)))) x8_1 x9_1 bt132.1 true))) = some r := by rw [if_pos rfl] at H; exact H
              clear H
              have H := H1
              clear H1
              replace H := Option.bind_eq_some_iff.mp H
              obtain ⟨⟨t132, t133⟩, A100, H⟩ := H
              replace H : (if t133 = 0 then (ashlarlaw12_RingTakes.j2 kj6 x1_1 l2 (wrap64 (1 + (wrap64 (a0)))) x8_1 x9_1 t132 (t132 != (wrap64 ((wrap64 (1 + (wrap64 (a0)))) - (wrap64 (IntKind.u64.wrap (x8_1 - x1_1))))))) else (ashlarlaw12_RingTakes.j2 kj6 x1_1 l2 (wrap64 (1 + (wrap64 (a0)))) x8_1 x9_1 t132 true)) = some r := H
              have A10 := Aside0.mk A100
              clear A100
              have HC11 := Aside0.mk H
              clear H
              go_upto_region 9 with (first | ((with_reducible refine gate_callee (f := 8) rfl ?_); refine goesL_ (some 36) rfl rfl Try.func8 (by kernel_rfl) rfl #[.int .i64 (wrap64 (1 + (wrap64 (a0)))), .int .u64 x1_1, .int .u64 x8_1] rfl (by (try simp only [List.map_toArray, List.map_cons, List.map_nil]); first | done | rfl | (simp only [List.length_drop, List.length_take]; rfl)) ?_; (with_reducible refine (ring_Free.calls (wrap64 (1 + (wrap64 (a0)))) x1_1 x8_1 t132 t133 _ A10.out).mono ?_); rintro e w' ⟨rfl, ⟨nd, rfl⟩⟩; refine ⟨_, rfl, ?_⟩))
              (try simp only [Act.put, List.setIfInBounds_toArray, List.set_cons_zero, List.set_cons_succ])
              go_cut [50] (fun v50 wc => ∃ (kq : Nat) (x50_10 : Bool), v50 = .bool x50_10 ∧ Aside0 (ashlarlaw12_RingTakes.j2 kq x1_1 l2 (wrap64 (1 + (wrap64 (a0)))) x8_1 x9_1 t132 x50_10 = some r) ∧ Aside0 (kq ≤ kj6) ∧ Aside0 (Below w.heap.size w wc))
              case first =>
                have H := HC11.out
                clear HC11
                by_cases c12 : t133 = 0
                · rw [if_pos c12] at H
                  have c12b0 : (t133 == 0) = true := beq_iff_eq.mpr c12
                  have c12b1 : (t133 != 0) = false := bne_eq_false_iff_eq.mpr c12
                  clear c12
                  (first | rw [c12b0] | (simp only [i64_w, i32_w]; rw [c12b0]) | skip)
                  have H' := Aside0.mk H
                  clear H
                  go_wp2
                  go_meet
                  case rel => exact ⟨_, ((t132 != (wrap64 ((wrap64 (1 + (wrap64 (a0)))) - (wrap64 (IntKind.u64.wrap (x8_1 - x1_1))))))), (by first | rfl | (simp; done) | (simp [*]; done)), H', ⟨by have := HK1.out; have := HJ6.out; first | omega | exact Nat.le_refl _⟩, ⟨by repeat (first | (with_reducible first | exact HB.out | apply below_alloc | apply pw_below_drewN | apply below_drew1) | exact HB.out)⟩⟩
                · rw [if_neg c12] at H
                  have c12b0 : (t133 == 0) = false := beq_eq_false_iff_ne.mpr c12
                  have c12b1 : (t133 != 0) = true := bne_iff_ne.mpr c12
                  (first | rw [c12b0] | (simp only [i64_w, i32_w]; rw [c12b0]) | skip)
                  have H' := Aside0.mk H
                  clear H
                  go_wp2
                  go_meet
                  case rel => exact ⟨_, (true), (by first | rfl | (simp; done) | (simp [*]; done)), H', ⟨by have := HK1.out; have := HJ6.out; first | omega | exact Nat.le_refl _⟩, ⟨by repeat (first | (with_reducible first | exact HB.out | apply below_alloc | apply pw_below_drewN | apply below_drew1) | exact HB.out)⟩⟩
              case rest =>
                clear HC11
                try clear c1
                try clear c2
                try clear p2
                try clear c4
                try clear c4b0
                try clear c5
                try clear p6
                try clear c8
                try clear c8b0
                try clear c9
                try clear c12
                try clear c12b0
                try clear c12b1
                try clear p2
                try clear p6
                obtain ⟨kq, x50_10, rfl, HA, HJ10, HB⟩ := hcut
                cases kq with
                | zero => exact absurd HA.out (by simp [ashlarlaw12_RingTakes.j2])
                | succ kj10 =>
                  have H := HA.out
                  clear HA
                  simp only [ashlarlaw12_RingTakes.j2] at H
                  by_cases c13 : x50_10 = true
                  · subst c13
                    have H1 : (some false) = some r := by rw [if_pos rfl] at H; exact H
                    clear H
                    have H := H1
                    clear H1
                    obtain rfl := Option.some.inj H
                    go_wp2
                    go_ret
                    exact ⟨by first | rfl | (simp [errW_none, errW_some] <;> rfl) | (simp [*, errW_none, errW_some] <;> rfl), by repeat (first | (with_reducible first | exact HB.out | apply below_alloc | apply pw_below_drewN | apply below_drew1) | exact HB.out)⟩
                  · replace c13 := Bool.eq_false_iff.mpr c13
                    subst c13
                    have H1 : (if 0 ≤ x9_1 then (if x9_1 < (l2.length : Int) then (if (rd l2 x9_1) ≥ 160 then (ashlarlaw12_RingTakes.l0 kj10 (IntKind.u64.wrap (x1_1 + (mn (IntKind.u64.wrap (wrap64 (Int.tmod (rd l2 x9_1) 80))) (IntKind.u64.wrap (x8_1 - x1_1))))) l2 (wrap64 (1 + (wrap64 (a0)))) x8_1 (wrap64 (x9_1 + 1))) else ((ring_Take.f kj10 (wrap64 (1 + (wrap64 (a0)))) x1_1 x8_1 (wrap64 (Int.tmod (rd l2 x9_1) 80))).bind fun bt136 => (if ((bt136.2 == 0) != (decide ((wrap64 (Int.tmod (rd l2 x9_1) 80)) ≤ t132))) = true then (ashlarlaw12_RingTakes.j3 kj10 x1_1 l2 (wrap64 (1 + (wrap64 (a0)))) x8_1 x9_1 bt136.1 bt136.2 true) else (if bt136.2 = 0 then (ashlarlaw12_RingTakes.j3 kj10 x1_1 l2 (wrap64 (1 + (wrap64 (a0)))) x8_1 x9_1 bt136.1 bt136.2 (bt136.1 != (IntKind.u64.wrap (x8_1 + (IntKind.u64.wrap (wrap64 (Int.tmod (rd l2 x9_1) 80))))))) else (if bt136.2 = 10 then (ashlarlaw12_RingTakes.j3 kj10 x1_1 l2 (wrap64 (1 + (wrap64 (a0)))) x8_1 x9_1 bt136.1 bt136.2 false) else (ashlarlaw12_RingTakes.j3 kj10 x1_1 l2 (wrap64 (1 + (wrap64 (a0)))) x8_1 x9_1 bt136.1 bt136.2 true)))))) else (none)) else (none)) = some r := by rw [if_neg (show ¬ (false = true) by decide)] at H; exact H
                    clear H
                    have H := H1
                    clear H1
                    by_cases c14 : 0 ≤ x9_1
                    · rw [if_pos c14] at H
                      have c14b0 : decide (0 ≤ x9_1) = true := decide_eq_true c14
                      clear c14
                      by_cases c15 : x9_1 < (l2.length : Int)
                      · rw [if_pos c15] at H
                        have c15b0 : decide (x9_1 < (l2.length : Int)) = true := decide_eq_true c15
                        clear c15
                        by_cases c16 : (rd l2 x9_1) ≥ 160
                        · rw [if_pos c16] at H
                          have c16b0 : decide (160 ≤ (rd l2 x9_1)) = true := decide_eq_true c16
                          clear c16
                          obtain ⟨ji17, hji17⟩ : ∃ j_ : Int, (mn (IntKind.u64.wrap (wrap64 (Int.tmod (rd l2 x9_1) 80))) (IntKind.u64.wrap (x8_1 - x1_1))) = j_ := ⟨_, rfl⟩
                          replace H : (ashlarlaw12_RingTakes.l0 kj10 (IntKind.u64.wrap (x1_1 + (ji17))) l2 (wrap64 (1 + (wrap64 (a0)))) x8_1 (wrap64 (x9_1 + 1))) = some r := by first | (rw [hji17] at H; exact H) | (simp only [hji17] at H ⊢; exact H)
                          have hji17_ : (if (IntKind.u64.wrap (x8_1 - x1_1)) < (IntKind.u64.wrap (wrap64 (Int.tmod (rd l2 x9_1) 80))) then (IntKind.u64.wrap (x8_1 - x1_1)) else (IntKind.u64.wrap (wrap64 (Int.tmod (rd l2 x9_1) 80)))) = ji17 := hji17
                          have H' := Aside0.mk H
                          clear H
                          have p134 : 0 ≤ (x9_1 : Int) := of_decide_eq_true (by first | (with_reducible assumption) | assumption)
                          have q134 : x9_1 < (l2.length : Int) := of_decide_eq_true (by first | (with_reducible assumption) | assumption)
                          obtain ⟨ad134, e134, hx134_0⟩ := Kd.at_int HR2.out x9_1 p134 q134
                          cases e134
                          replace hx134_0 := (HB.out.cell (World.block_lt_of_cell? w _ hx134_0)).trans hx134_0
                          replace p134 := eq_true p134
                          replace q134 := eq_true q134
                          have p135 : 0 ≤ (x9_1 : Int) := of_decide_eq_true (by first | (with_reducible assumption) | assumption)
                          have q135 : x9_1 < (l2.length : Int) := of_decide_eq_true (by first | (with_reducible assumption) | assumption)
                          obtain ⟨ad135, e135, hx135_0⟩ := Kd.at_int HR2.out x9_1 p135 q135
                          obtain rfl : ad134 = ad135 := (by injection e135)
                          replace hx135_0 := (HB.out.cell (World.block_lt_of_cell? w _ hx135_0)).trans hx135_0
                          replace p135 := eq_true p135
                          replace q135 := eq_true q135
                          go_wp2
                          go_roundg kj10
                          case measure => have := HK1.out; have := HJ6.out; have := HJ10.out; omega
                          case rel => exact ⟨(IntKind.u64.wrap (x1_1 + (ji17))), (x8_1), (wrap64 (x9_1 + 1)), (by first | rfl | (simp; done) | (simp only [← hji17] <;> (first | rfl | simp)) | (simp [*]; done)), (by first | rfl | (simp; done) | (simp [*]; done)), (by first | rfl | (simp; done) | (simp [*]; done)), H', ⟨by have := HK1.out; have := HJ6.out; have := HJ10.out; omega⟩, ⟨by repeat (first | (with_reducible first | exact HB.out | apply below_alloc | apply pw_below_drewN | apply below_drew1) | exact HB.out)⟩⟩
                        · rw [if_neg c16] at H
                          have c16b0 : decide (160 ≤ (rd l2 x9_1)) = false := decide_eq_false c16
                          clear c16
                          replace H := Option.bind_eq_some_iff.mp H
                          obtain ⟨⟨t136, t137⟩, A180, H⟩ := H
                          replace H : (if ((t137 == 0) != (decide ((wrap64 (Int.tmod (rd l2 x9_1) 80)) ≤ t132))) = true then (ashlarlaw12_RingTakes.j3 kj10 x1_1 l2 (wrap64 (1 + (wrap64 (a0)))) x8_1 x9_1 t136 t137 true) else (if t137 = 0 then (ashlarlaw12_RingTakes.j3 kj10 x1_1 l2 (wrap64 (1 + (wrap64 (a0)))) x8_1 x9_1 t136 t137 (t136 != (IntKind.u64.wrap (x8_1 + (IntKind.u64.wrap (wrap64 (Int.tmod (rd l2 x9_1) 80))))))) else (if t137 = 10 then (ashlarlaw12_RingTakes.j3 kj10 x1_1 l2 (wrap64 (1 + (wrap64 (a0)))) x8_1 x9_1 t136 t137 false) else (ashlarlaw12_RingTakes.j3 kj10 x1_1 l2 (wrap64 (1 + (wrap64 (a0)))) x8_1 x9_1 t136 t137 true)))) = some r := H
                          have A18 := Aside0.mk A180
                          clear A180
                          have HC19 := Aside0.mk H
                          clear H
                          have p134 : 0 ≤ (x9_1 : Int) := of_decide_eq_true (by first | (with_reducible assumption) | assumption)
                          have q134 : x9_1 < (l2.length : Int) := of_decide_eq_true (by first | (with_reducible assumption) | assumption)
                          obtain ⟨ad134, e134, hx134_0⟩ := Kd.at_int HR2.out x9_1 p134 q134
                          cases e134
                          replace hx134_0 := (HB.out.cell (World.block_lt_of_cell? w _ hx134_0)).trans hx134_0
                          replace p134 := eq_true p134
                          replace q134 := eq_true q134
                          have p135 : 0 ≤ (x9_1 : Int) := of_decide_eq_true (by first | (with_reducible assumption) | assumption)
                          have q135 : x9_1 < (l2.length : Int) := of_decide_eq_true (by first | (with_reducible assumption) | assumption)
                          obtain ⟨ad135, e135, hx135_0⟩ := Kd.at_int HR2.out x9_1 p135 q135
                          obtain rfl : ad134 = ad135 := (by injection e135)
                          replace hx135_0 := (HB.out.cell (World.block_lt_of_cell? w _ hx135_0)).trans hx135_0
                          replace p135 := eq_true p135
                          replace q135 := eq_true q135
                          go_upto_region 15 with (first | ((with_reducible refine gate_callee (f := 10) rfl ?_); refine goesL_ (some 75) rfl rfl Try.func10 (by kernel_rfl) rfl #[.int .i64 (wrap64 (1 + (wrap64 (a0)))), .int .u64 x1_1, .int .u64 x8_1, .int .i64 (wrap64 (Int.tmod (rd l2 x9_1) 80))] rfl (by (try simp only [List.map_toArray, List.map_cons, List.map_nil]); first | done | rfl | (simp only [List.length_drop, List.length_take]; rfl)) ?_; (with_reducible refine (ring_Take.calls kj10 (wrap64 (1 + (wrap64 (a0)))) x1_1 x8_1 (wrap64 (Int.tmod (rd l2 x9_1) 80)) t136 t137 _ A18.out).mono ?_); rintro e w' ⟨rfl, ⟨nd, rfl⟩⟩; refine ⟨_, rfl, ?_⟩))
                          (try simp only [Act.put, List.setIfInBounds_toArray, List.set_cons_zero, List.set_cons_succ])
                          go_cut [103] (fun v103 wc => ∃ (kq : Nat) (x103_18 : Bool), v103 = .bool x103_18 ∧ Aside0 (ashlarlaw12_RingTakes.j3 kq x1_1 l2 (wrap64 (1 + (wrap64 (a0)))) x8_1 x9_1 t136 t137 x103_18 = some r) ∧ Aside0 (kq ≤ kj10) ∧ Aside0 (Below w.heap.size w wc))
                          case first =>
                            have H := HC19.out
                            clear HC19
                            by_cases c20 : ((t137 == 0) != (decide ((wrap64 (Int.tmod (rd l2 x9_1) 80)) ≤ t132))) = true
                            · rw [if_pos c20] at H
                              have c20b0 : ((t137 == 0) != (decide ((wrap64 (Int.tmod (rd l2 x9_1) 80)) ≤ t132))) = true := c20
                              (try (have c20b1 : decide ((t137 == 0) = (decide ((wrap64 (Int.tmod (rd l2 x9_1) 80)) ≤ t132))) = false := by simpa using c20))
                              (try (have c20b2 : ((t137 == 0) == (decide ((wrap64 (Int.tmod (rd l2 x9_1) 80)) ≤ t132))) = false := by simpa using c20))
                              (try (have c20b3 : ¬ ((t137 == 0) = (decide ((wrap64 (Int.tmod (rd l2 x9_1) 80)) ≤ t132))) := by simpa using c20))
                              clear c20
                              (first | rw [c20b0] | (simp only [i64_w, i32_w]; rw [c20b0]) | skip)
                              have H' := Aside0.mk H
                              clear H
                              go_wp2
                              go_meet
                              case rel => exact ⟨_, (true), (by first | rfl | (simp; done) | (simp [*]; done)), H', ⟨by have := HK1.out; have := HJ6.out; have := HJ10.out; first | omega | exact Nat.le_refl _⟩, ⟨by repeat (first | (with_reducible first | exact HB.out | apply below_alloc | apply pw_below_drewN | apply below_drew1) | exact HB.out)⟩⟩
                            · rw [if_neg c20] at H
                              have c20b0 : ((t137 == 0) != (decide ((wrap64 (Int.tmod (rd l2 x9_1) 80)) ≤ t132))) = false := by simpa using c20
                              (try (have c20b1 : decide ((t137 == 0) = (decide ((wrap64 (Int.tmod (rd l2 x9_1) 80)) ≤ t132))) = true := by simpa using c20))
                              (try (have c20b2 : ((t137 == 0) == (decide ((wrap64 (Int.tmod (rd l2 x9_1) 80)) ≤ t132))) = true := by simpa using c20))
                              clear c20
                              (first | rw [c20b0] | (simp only [i64_w, i32_w]; rw [c20b0]) | skip)
                              by_cases c21 : t137 = 0
                              · rw [if_pos c21] at H
                                have c20c : decide ((wrap64 (Int.tmod (rd l2 x9_1) 80)) ≤ t132) = true := by simpa [c21] using c20b0
                                have c21b0 : (t137 == 0) = true := beq_iff_eq.mpr c21
                                have c21b1 : (t137 != 0) = false := bne_eq_false_iff_eq.mpr c21
                                clear c21
                                have H' := Aside0.mk H
                                clear H
                                go_wp2
                                go_meet
                                case rel => exact ⟨_, ((t136 != (IntKind.u64.wrap (x8_1 + (IntKind.u64.wrap (wrap64 (Int.tmod (rd l2 x9_1) 80))))))), (by first | rfl | (simp; done) | (simp [*]; done)), H', ⟨by have := HK1.out; have := HJ6.out; have := HJ10.out; first | omega | exact Nat.le_refl _⟩, ⟨by repeat (first | (with_reducible first | exact HB.out | apply below_alloc | apply pw_below_drewN | apply below_drew1) | exact HB.out)⟩⟩
                              · rw [if_neg c21] at H
                                have c20c : decide ((wrap64 (Int.tmod (rd l2 x9_1) 80)) ≤ t132) = false := by have c21n : (t137 == 0) = false := beq_eq_false_iff_ne.mpr c21; rw [c21n] at c20b0; simpa using c20b0
                                have c21b0 : (t137 == 0) = false := beq_eq_false_iff_ne.mpr c21
                                have c21b1 : (t137 != 0) = true := bne_iff_ne.mpr c21
                                by_cases c22 : t137 = 10
                                · rw [if_pos c22] at H
                                  have c22b0 : (t137 == 10) = true := beq_iff_eq.mpr c22
                                  have c22b1 : (t137 != 10) = false := bne_eq_false_iff_eq.mpr c22
                                  clear c22
                                  have H' := Aside0.mk H
                                  clear H
                                  go_wp2
                                  go_meet
                                  case rel => exact ⟨_, (false), (by first | rfl | (simp; done) | (simp [*]; done)), H', ⟨by have := HK1.out; have := HJ6.out; have := HJ10.out; first | omega | exact Nat.le_refl _⟩, ⟨by repeat (first | (with_reducible first | exact HB.out | apply below_alloc | apply pw_below_drewN | apply below_drew1) | exact HB.out)⟩⟩
                                · rw [if_neg c22] at H
                                  have c22b0 : (t137 == 10) = false := beq_eq_false_iff_ne.mpr c22
                                  have c22b1 : (t137 != 10) = true := bne_iff_ne.mpr c22
                                  have H' := Aside0.mk H
                                  clear H
                                  go_wp2
                                  go_meet
                                  case rel => exact ⟨_, (true), (by first | rfl | (simp; done) | (simp [*]; done)), H', ⟨by have := HK1.out; have := HJ6.out; have := HJ10.out; first | omega | exact Nat.le_refl _⟩, ⟨by repeat (first | (with_reducible first | exact HB.out | apply below_alloc | apply pw_below_drewN | apply below_drew1) | exact HB.out)⟩⟩
                          case rest =>
                            clear HC19
                            try clear c1
                            try clear p1
                            try clear q1
                            try clear hx1
                            try clear c2
                            try clear p2
                            try clear c4
                            try clear c4b0
                            try clear c5
                            try clear p6
                            try clear c8
                            try clear c8b0
                            try clear c9
                            try clear c10
                            try clear c12
                            try clear c12b0
                            try clear c12b1
                            try clear c13
                            try clear p13
                            try clear q13
                            try clear hx13
                            try clear c14
                            try clear c14b0
                            try clear c15
                            try clear c15b0
                            try clear c16
                            try clear c16b0
                            try clear c20
                            try clear c20b0
                            try clear c20b1
                            try clear c20b2
                            try clear c21
                            try clear c21b0
                            try clear c21b1
                            try clear c22
                            try clear c22b0
                            try clear c22b1
                            try clear hx134_0
                            try clear hx135_0
                            try clear p134
                            try clear p135
                            try clear p2
                            try clear p6
                            try clear q134
                            try clear q135
                            obtain ⟨kq, x103_18, rfl, HA, HJ18, HB⟩ := hcut
                            cases kq with
                            | zero => exact absurd HA.out (by simp [ashlarlaw12_RingTakes.j3])
                            | succ kj18 =>
                              have H := HA.out
                              clear HA
                              simp only [ashlarlaw12_RingTakes.j3] at H
                              by_cases c23 : x103_18 = true
                              · subst c23
                                have H1 : (some false) = some r := by rw [if_pos rfl] at H; exact H
                                clear H
                                have H := H1
                                clear H1
                                obtain rfl := Option.some.inj H
                                go_wp2
                                go_ret
                                exact ⟨by first | rfl | (simp [errW_none, errW_some] <;> rfl) | (simp [*, errW_none, errW_some] <;> rfl), by repeat (first | (with_reducible first | exact HB.out | apply below_alloc | apply pw_below_drewN | apply below_drew1) | exact HB.out)⟩
                              · replace c23 := Bool.eq_false_iff.mpr c23
                                subst c23
                                have H1 : (if t137 = 0 then (ashlarlaw12_RingTakes.l0 kj18 x1_1 l2 (wrap64 (1 + (wrap64 (a0)))) t136 (wrap64 (x9_1 + 1))) else (ashlarlaw12_RingTakes.l0 kj18 x1_1 l2 (wrap64 (1 + (wrap64 (a0)))) x8_1 (wrap64 (x9_1 + 1)))) = some r := by rw [if_neg (show ¬ (false = true) by decide)] at H; exact H
                                clear H
                                have H := H1
                                clear H1
                                by_cases c24 : t137 = 0
                                · rw [if_pos c24] at H
                                  have c24b0 : (t137 == 0) = true := beq_iff_eq.mpr c24
                                  have c24b1 : (t137 != 0) = false := bne_eq_false_iff_eq.mpr c24
                                  clear c24
                                  have H' := Aside0.mk H
                                  clear H
                                  go_wp2
                                  go_roundg kj18
                                  case measure => have := HK1.out; have := HJ6.out; have := HJ10.out; have := HJ18.out; omega
                                  case rel => exact ⟨(x1_1), (t136), (wrap64 (x9_1 + 1)), (by first | rfl | (simp; done) | (simp [*]; done)), (by first | rfl | (simp; done) | (simp [*]; done)), (by first | rfl | (simp; done) | (simp [*]; done)), H', ⟨by have := HK1.out; have := HJ6.out; have := HJ10.out; have := HJ18.out; omega⟩, ⟨by repeat (first | (with_reducible first | exact HB.out | apply below_alloc | apply pw_below_drewN | apply below_drew1) | exact HB.out)⟩⟩
                                · rw [if_neg c24] at H
                                  have c24b0 : (t137 == 0) = false := beq_eq_false_iff_ne.mpr c24
                                  have c24b1 : (t137 != 0) = true := bne_iff_ne.mpr c24
                                  have H' := Aside0.mk H
                                  clear H
                                  go_wp2
                                  go_roundg kj18
                                  case measure => have := HK1.out; have := HJ6.out; have := HJ10.out; have := HJ18.out; omega
                                  case rel => exact ⟨(x1_1), (x8_1), (wrap64 (x9_1 + 1)), (by first | rfl | (simp; done) | (simp [*]; done)), (by first | rfl | (simp; done) | (simp [*]; done)), (by first | rfl | (simp; done) | (simp [*]; done)), H', ⟨by have := HK1.out; have := HJ6.out; have := HJ10.out; have := HJ18.out; omega⟩, ⟨by repeat (first | (with_reducible first | exact HB.out | apply below_alloc | apply pw_below_drewN | apply below_drew1) | exact HB.out)⟩⟩
                      · rw [if_neg c15] at H
                        exact absurd H (by simp)
                    · rw [if_neg c14] at H
                      exact absurd H (by simp)
            · replace c9 := Bool.eq_false_iff.mpr c9
              subst c9
              have H1 : ((ashlarlaw12_lives.f kj6).bind fun t131 => (some t131)) = some r := by rw [if_neg (show ¬ (false = true) by decide)] at H; exact H
              clear H
              have H := H1
              clear H1
              replace H := Option.bind_eq_some_iff.mp H
              obtain ⟨t131, A250, H⟩ := H
              replace H : (some t131) = some r := H
              have A25 := Aside0.mk A250
              clear A250
              obtain rfl := Option.some.inj H
              go_wp2_with (first | ((with_reducible refine gate_callee (f := 15) rfl ?_); refine goesL_ (some 107) rfl rfl Try.func15 (by kernel_rfl) rfl #[] rfl (by (try simp only [List.map_toArray, List.map_cons, List.map_nil]); first | done | rfl | (simp only [List.length_drop, List.length_take]; rfl)) ?_; (with_reducible refine (ashlarlaw12_lives.calls kj6  t131 _ A25.out).mono ?_); rintro e w26 ⟨rfl, hb⟩; refine ⟨_, rfl, ?_⟩; have n0_ := Aside0.mk (below_step (by repeat (first | (with_reducible first | exact HB.out | apply below_alloc | apply pw_below_drewN | apply below_drew1) | exact HB.out)) hb); clear HB; have HB := n0_; clear n0_; (try clear hb); (try clear hb2); (try clear hk); (try clear hi)))
              go_ret
              exact ⟨by first | rfl | (simp [errW_none, errW_some] <;> rfl) | (simp [*, errW_none, errW_some] <;> rfl), by repeat (first | (with_reducible first | exact HB.out | apply below_alloc | apply pw_below_drewN | apply below_drew1) | exact HB.out)⟩

/-- THE ONE PURE STATEMENT of ashlarlaw12_RingTakes: yours. -/
def ashlarlaw12_RingTakes.Pure : Prop := ∀ (a0 : Int) (a1 : Int) (l2 : List Int), (Lit.int .u8 a0).wf = true → (Lit.int .u64 a1).wf = true → l2.length ≤ maxLen → l2.length * 1 ≤ 140737488351232 → (∀ x ∈ l2, (Lit.int .u8 x).wf = true) → ∃ k, ashlarlaw12_RingTakes.f k a0 a1 l2 = some true
theorem ashlarlaw12_RingTakes.walk (P : ashlarlaw12_RingTakes.Pure) (a0 : Int) (a1 : Int) (a2 : Option Addr) (len2 cap2 : Nat) (z2 : List Int) (w : World) (w0 : (Lit.int .u8 a0).wf = true) (w1 : (Lit.int .u64 a1).wf = true) (w2 : (a2 = none ∧ len2 = 0 ∧ cap2 = 0 ∧ z2 = []) ∨ ∃ x, a2 = some x ∧ len2 ≤ cap2 ∧ cap2 ≤ maxLen ∧ z2.length = cap2 ∧ (∀ i, i < z2.length → w.cell? (x.add i) = some (.int .u8 (z2.getD i 0))) ∧ ∀ n ∈ z2, (Lit.int .u8 n).wf = true) (y2 : len2 * 1 ≤ 140737488351232) :
    Calls Try.prog 5 #[.int .u8 a0, .int .u64 a1, .slice a2 len2 cap2] w fun e w' => e = .returned (.bool true) ∧ Below w.heap.size w w' := by
  obtain ⟨l2, rfl, hr2, hm2, hw2, hc2⟩ := ReadsInt.ofRowC w2
  obtain ⟨k, h⟩ := P a0 a1 l2 w0 w1 hm2 y2 hw2
  refine (ashlarlaw12_RingTakes.calls k a0 a1 _ _ l2 true w (Kd.C_of_reads (d := (0 : Int)) (h1 := fun _ => rfl) hr2) hc2 h).mono ?_
  rintro e w' ⟨rfl, hd⟩
  exact ⟨rfl, hd⟩

end Go.Proofs.Ytpohkikjlgpmmaa.PRingTakes
