/- Proved: what a law of package gauge comes to; the conditions stand in the statements. -/
import Derived.Test.YtikmjecjolppdaaGaugeH
set_option linter.unusedVariables false
set_option linter.unusedSimpArgs false
namespace Go.Proofs.Ytikmjecjolppdaa.Gauge
open Go Go.RowKit Go.Proofs.Ytikmjecjolppdaa.Eng Go.Proofs.Ytikmjecjolppdaa.Fl

set_option maxRecDepth 100000 in
set_option maxHeartbeats 4000000 in
theorem f5_GaugeOrder (a b c : Nat) (w : World) (ha : a < 18446744073709551616) (hb : b < 18446744073709551616) (hc : c < 18446744073709551616) :
    Calls Try.prog 5 [.float .f64 (a), .float .f64 (b), .float .f64 (c)].toArray w fun e w' => e = .returned (.bool (true)) ∧ Below w.heap.size w w' := by
  have hb1 := cmp_bounds b a
  refine (calls_of (P := Try.prog) (n := 54) (w0 := w) (S := fun _ => False) (H := []) (T := fun v _ => v = (.bool (true))) Try.func5 rfl Try.ntmps5 (Nat.le_of_ble_eq_true rfl) [.tmp 6] rfl (St.nil w _) ?_).mono fun e w' ⟨v, H', he, hs, hT⟩ => ⟨by rw [he, hT], hs.below⟩
  refine c_seq fun K1 hK1 => ?_
  refine c_region ?_
  refine o_y (v := .bool (false)) rfl rfl (y_assign rfl) ?_
  refine o_nil ?_
  refine hK1 _ _ ?_
  refine c_seq fun K2 hK2 => ?_
  refine c_seq fun K3 hK3 => ?_
  refine c_region ?_
  refine o_y (v := .float .f64 (a)) rfl rfl (y_move rfl) ?_
  refine o_y (v := .float .f64 (b)) rfl rfl (y_move rfl) ?_
  refine o_y (v := .int .i64 (cmpF (a) (b))) rfl rfl (y_call (vs := [.float .f64 (a), .float .f64 (b)]) b17 rfl (fun w hw => f17_Compare _ _ w (by first | assumption | omega | decide | exact FR.lt ‹_› | exact hB _ (List.getElem_mem _) | exact least_lt (fun x hx => hB x (List.mem_of_mem_take hx)) | exact lst_lt (least_lt (fun x hx => hB x (List.mem_of_mem_take hx)))) (by first | assumption | omega | decide | exact FR.lt ‹_› | exact hB _ (List.getElem_mem _) | exact least_lt (fun x hx => hB x (List.mem_of_mem_take hx)) | exact lst_lt (least_lt (fun x hx => hB x (List.mem_of_mem_take hx)))))) ?_
  refine o_y (v := .float .f64 (b)) rfl rfl (y_move rfl) ?_
  refine o_y (v := .float .f64 (a)) rfl rfl (y_move rfl) ?_
  refine o_y (v := .int .i64 (cmpF (b) (a))) rfl rfl (y_call (vs := [.float .f64 (b), .float .f64 (a)]) b17 rfl (fun w hw => f17_Compare _ _ w (by first | assumption | omega | decide | exact FR.lt ‹_› | exact hB _ (List.getElem_mem _) | exact least_lt (fun x hx => hB x (List.mem_of_mem_take hx)) | exact lst_lt (least_lt (fun x hx => hB x (List.mem_of_mem_take hx)))) (by first | assumption | omega | decide | exact FR.lt ‹_› | exact hB _ (List.getElem_mem _) | exact least_lt (fun x hx => hB x (List.mem_of_mem_take hx)) | exact lst_lt (least_lt (fun x hx => hB x (List.mem_of_mem_take hx)))))) ?_
  refine o_y (v := .int .i64 (0 - (cmpF (b) (a)))) rfl rfl (y_sub rfl rfl (wi_i64 (by omega) (by omega))) ?_
  refine o_y (v := .bool (false)) rfl rfl (y_bool (y_neq rfl rfl rfl) (decide_eq_false (fun h => h (cmp_neg a b)))) ?_
  refine o_y (v := .bool (false)) rfl rfl (y_move rfl) ?_
  refine o_guard (j := 8) (d := 15) (b := false) rfl rfl rfl (fun _ => ?_) rfl (fun h => by cases h)
  refine o_y (v := .float .f64 (a)) rfl rfl (y_move rfl) ?_
  refine o_guard (j := 8) (d := 15) (b := false) rfl rfl rfl (fun _ => ?_) rfl (fun h => by cases h)
  refine o_y (v := .float .f64 (b)) rfl rfl (y_move rfl) ?_
  refine o_guard (j := 8) (d := 15) (b := false) rfl rfl rfl (fun _ => ?_) rfl (fun h => by cases h)
  refine o_y (v := .int .i64 (cmpF (a) (b))) rfl rfl (y_call (vs := [.float .f64 (a), .float .f64 (b)]) b17 rfl (fun w hw => f17_Compare _ _ w (by first | assumption | omega | decide | exact FR.lt ‹_› | exact hB _ (List.getElem_mem _) | exact least_lt (fun x hx => hB x (List.mem_of_mem_take hx)) | exact lst_lt (least_lt (fun x hx => hB x (List.mem_of_mem_take hx)))) (by first | assumption | omega | decide | exact FR.lt ‹_› | exact hB _ (List.getElem_mem _) | exact least_lt (fun x hx => hB x (List.mem_of_mem_take hx)) | exact lst_lt (least_lt (fun x hx => hB x (List.mem_of_mem_take hx)))))) ?_
  refine o_guard (j := 8) (d := 15) (b := false) rfl rfl rfl (fun _ => ?_) rfl (fun h => by cases h)
  refine o_y (v := .bool (decide (cmpF (a) (b) = 0))) rfl rfl (y_eql rfl rfl rfl) ?_
  refine o_guard (j := 8) (d := 15) (b := false) rfl rfl rfl (fun _ => ?_) rfl (fun h => by cases h)
  refine o_y (v := .float .f64 (a)) rfl rfl (y_move rfl) ?_
  refine o_guard (j := 8) (d := 15) (b := false) rfl rfl rfl (fun _ => ?_) rfl (fun h => by cases h)
  refine o_y (v := .float .f64 (b)) rfl rfl (y_move rfl) ?_
  refine o_guard (j := 8) (d := 15) (b := false) rfl rfl rfl (fun _ => ?_) rfl (fun h => by cases h)
  refine o_y (v := .bool (sameB (a) (b))) rfl rfl (y_call (vs := [.float .f64 (a), .float .f64 (b)]) b10 rfl (fun w hw => f10_same _ _ w)) ?_
  refine o_guard (j := 8) (d := 15) (b := false) rfl rfl rfl (fun _ => ?_) rfl (fun h => by cases h)
  refine o_y (v := .bool (false)) rfl rfl (y_bool (y_neqB rfl rfl Try.underlying4 rfl) (by rw [cmp_same ha hb]; simp)) ?_
  refine o_y (v := .bool (false)) rfl rfl (y_pick (b := false) rfl rfl) ?_
  refine o_nil ?_
  refine hK3 _ _ ?_
  refine c_cond (t := false) rfl (fun h => by cases h) (fun _ => ?_)
  refine c_skip ?_
  refine hK2 _ _ ?_
  refine c_seq fun K4 hK4 => ?_
  refine c_seq fun K5 hK5 => ?_
  refine c_region ?_
  refine o_y (v := .float .f64 (a)) rfl rfl (y_move rfl) ?_
  refine o_y (v := .float .f64 (b)) rfl rfl (y_move rfl) ?_
  refine o_y (v := .int .i64 (cmpF (a) (b))) rfl rfl (y_call (vs := [.float .f64 (a), .float .f64 (b)]) b17 rfl (fun w hw => f17_Compare _ _ w (by first | assumption | omega | decide | exact FR.lt ‹_› | exact hB _ (List.getElem_mem _) | exact least_lt (fun x hx => hB x (List.mem_of_mem_take hx)) | exact lst_lt (least_lt (fun x hx => hB x (List.mem_of_mem_take hx)))) (by first | assumption | omega | decide | exact FR.lt ‹_› | exact hB _ (List.getElem_mem _) | exact least_lt (fun x hx => hB x (List.mem_of_mem_take hx)) | exact lst_lt (least_lt (fun x hx => hB x (List.mem_of_mem_take hx)))))) ?_
  refine o_y (v := .bool (decide (cmpF (a) (b) ≤ 0))) rfl rfl (y_leq rfl rfl rfl) ?_
  refine o_y (v := .bool (decide (cmpF (a) (b) ≤ 0))) rfl rfl (y_move rfl) ?_
  cases hc1 : (decide (cmpF (a) (b) ≤ 0) : Bool)
  ·
    have hc1' := of_decide_eq_false hc1
    -- way F
    refine o_guard (j := 4) (d := 29) (b := false) rfl rfl rfl (fun h => by cases h) rfl (fun _ => ?_)
    refine o_guard (j := 4) (d := 29) (b := false) rfl rfl rfl (fun h => by cases h) rfl (fun _ => ?_)
    refine o_guard (j := 4) (d := 29) (b := false) rfl rfl rfl (fun h => by cases h) rfl (fun _ => ?_)
    refine o_guard (j := 4) (d := 29) (b := false) rfl rfl rfl (fun h => by cases h) rfl (fun _ => ?_)
    refine o_y (v := .bool (false)) rfl rfl (y_pick (b := false) rfl rfl) ?_
    refine o_y (v := .bool (false)) rfl rfl (y_move rfl) ?_
    refine o_guard (j := 10) (d := 35) (b := false) rfl rfl rfl (fun h => by cases h) rfl (fun _ => ?_)
    refine o_guard (j := 10) (d := 35) (b := false) rfl rfl rfl (fun h => by cases h) rfl (fun _ => ?_)
    refine o_guard (j := 10) (d := 35) (b := false) rfl rfl rfl (fun h => by cases h) rfl (fun _ => ?_)
    refine o_guard (j := 10) (d := 35) (b := false) rfl rfl rfl (fun h => by cases h) rfl (fun _ => ?_)
    refine o_y (v := .bool (false)) rfl rfl (y_pick (b := false) rfl rfl) ?_
    refine o_nil ?_
    refine hK5 _ _ ?_
    refine c_cond (t := false) rfl (fun h => by cases h) (fun _ => ?_)
    refine c_skip ?_
    refine hK4 _ _ ?_
    refine c_seq fun K6 hK6 => ?_
    refine c_region ?_
    refine o_y (v := .float .f64 (a)) rfl rfl (y_move rfl) ?_
    refine o_y (v := .float .f64 (b)) rfl rfl (y_move rfl) ?_
    refine o_y (v := .bool (ltF (a) (b))) rfl rfl (y_flt rfl rfl) ?_
    refine o_y (v := .bool (!(ltF (a) (b)))) rfl rfl (y_not rfl rfl) ?_
    refine o_y (v := .bool (!(ltF (a) (b)))) rfl rfl (y_move rfl) ?_
    cases hc2 : (!(ltF (a) (b)) : Bool)
    ·
      try have hc2' : (ltF (a) (b)) = true := by simpa using hc2
      -- way FF
      refine o_guard (j := 4) (d := 45) (b := false) rfl rfl rfl (fun _ => ?_) rfl (fun h => by cases h)
      refine o_y (v := .float .f64 (a)) rfl rfl (y_move rfl) ?_
      refine o_guard (j := 4) (d := 45) (b := false) rfl rfl rfl (fun _ => ?_) rfl (fun h => by cases h)
      refine o_y (v := .float .f64 (b)) rfl rfl (y_move rfl) ?_
      refine o_guard (j := 4) (d := 45) (b := false) rfl rfl rfl (fun _ => ?_) rfl (fun h => by cases h)
      refine o_y (v := .int .i64 (cmpF (a) (b))) rfl rfl (y_call (vs := [.float .f64 (a), .float .f64 (b)]) b17 rfl (fun w hw => f17_Compare _ _ w (by first | assumption | omega | decide | exact FR.lt ‹_› | exact hB _ (List.getElem_mem _) | exact least_lt (fun x hx => hB x (List.mem_of_mem_take hx)) | exact lst_lt (least_lt (fun x hx => hB x (List.mem_of_mem_take hx)))) (by first | assumption | omega | decide | exact FR.lt ‹_› | exact hB _ (List.getElem_mem _) | exact least_lt (fun x hx => hB x (List.mem_of_mem_take hx)) | exact lst_lt (least_lt (fun x hx => hB x (List.mem_of_mem_take hx)))))) ?_
      refine o_guard (j := 4) (d := 45) (b := false) rfl rfl rfl (fun _ => ?_) rfl (fun h => by cases h)
      refine o_y (v := .bool (true)) rfl rfl (y_bool (y_eql rfl rfl rfl) (decide_eq_true (cmp_lt (by assumption)))) ?_
      refine o_y (v := .bool (true)) rfl rfl (y_pick (b := false) rfl rfl) ?_
      refine o_y (v := .bool (true)) rfl rfl (y_move rfl) ?_
      refine o_guard (j := 10) (d := 51) (b := true) rfl rfl rfl (fun _ => ?_) rfl (fun h => by cases h)
      refine o_y (v := .bool (true)) rfl rfl (y_call (vs := []) b12 rfl (fun w hw => f12_lives w)) ?_
      refine o_y (v := .bool (true)) rfl rfl (y_pick (b := true) rfl rfl) ?_
      refine o_y (v := .bool (true)) rfl rfl (y_assign rfl) ?_
      refine o_nil ?_
      refine hK6 _ _ ?_
      refine c_ret ?_
      refine fun w hw => ⟨[.bool (true)], ⟨rfl, trivial⟩, ?_⟩
      exact rfl
    ·
      try have hc2' : (ltF (a) (b)) = false := by simpa using hc2
      -- way FT
      refine o_guard (j := 4) (d := 45) (b := true) rfl rfl rfl (fun h => by cases h) rfl (fun _ => ?_)
      refine o_guard (j := 4) (d := 45) (b := true) rfl rfl rfl (fun h => by cases h) rfl (fun _ => ?_)
      refine o_guard (j := 4) (d := 45) (b := true) rfl rfl rfl (fun h => by cases h) rfl (fun _ => ?_)
      refine o_guard (j := 4) (d := 45) (b := true) rfl rfl rfl (fun h => by cases h) rfl (fun _ => ?_)
      refine o_y (v := .bool (true)) rfl rfl (y_pick (b := true) rfl rfl) ?_
      refine o_y (v := .bool (true)) rfl rfl (y_move rfl) ?_
      refine o_guard (j := 10) (d := 51) (b := true) rfl rfl rfl (fun _ => ?_) rfl (fun h => by cases h)
      refine o_y (v := .bool (true)) rfl rfl (y_call (vs := []) b12 rfl (fun w hw => f12_lives w)) ?_
      refine o_y (v := .bool (true)) rfl rfl (y_pick (b := true) rfl rfl) ?_
      refine o_y (v := .bool (true)) rfl rfl (y_assign rfl) ?_
      refine o_nil ?_
      refine hK6 _ _ ?_
      refine c_ret ?_
      refine fun w hw => ⟨[.bool (true)], ⟨rfl, trivial⟩, ?_⟩
      exact rfl
  ·
    have hc1' := of_decide_eq_true hc1
    -- way T
    refine o_guard (j := 4) (d := 29) (b := true) rfl rfl rfl (fun _ => ?_) rfl (fun h => by cases h)
    refine o_y (v := .float .f64 (b)) rfl rfl (y_move rfl) ?_
    refine o_guard (j := 4) (d := 29) (b := true) rfl rfl rfl (fun _ => ?_) rfl (fun h => by cases h)
    refine o_y (v := .float .f64 (c)) rfl rfl (y_move rfl) ?_
    refine o_guard (j := 4) (d := 29) (b := true) rfl rfl rfl (fun _ => ?_) rfl (fun h => by cases h)
    refine o_y (v := .int .i64 (cmpF (b) (c))) rfl rfl (y_call (vs := [.float .f64 (b), .float .f64 (c)]) b17 rfl (fun w hw => f17_Compare _ _ w (by first | assumption | omega | decide | exact FR.lt ‹_› | exact hB _ (List.getElem_mem _) | exact least_lt (fun x hx => hB x (List.mem_of_mem_take hx)) | exact lst_lt (least_lt (fun x hx => hB x (List.mem_of_mem_take hx)))) (by first | assumption | omega | decide | exact FR.lt ‹_› | exact hB _ (List.getElem_mem _) | exact least_lt (fun x hx => hB x (List.mem_of_mem_take hx)) | exact lst_lt (least_lt (fun x hx => hB x (List.mem_of_mem_take hx)))))) ?_
    refine o_guard (j := 4) (d := 29) (b := true) rfl rfl rfl (fun _ => ?_) rfl (fun h => by cases h)
    refine o_y (v := .bool (decide (cmpF (b) (c) ≤ 0))) rfl rfl (y_leq rfl rfl rfl) ?_
    refine o_y (v := .bool (decide (cmpF (b) (c) ≤ 0))) rfl rfl (y_pick (b := true) rfl rfl) ?_
    refine o_y (v := .bool (decide (cmpF (b) (c) ≤ 0))) rfl rfl (y_move rfl) ?_
    cases hc3 : (decide (cmpF (b) (c) ≤ 0) : Bool)
    ·
      have hc3' := of_decide_eq_false hc3
      -- way TF
      refine o_guard (j := 10) (d := 35) (b := false) rfl rfl rfl (fun h => by cases h) rfl (fun _ => ?_)
      refine o_guard (j := 10) (d := 35) (b := false) rfl rfl rfl (fun h => by cases h) rfl (fun _ => ?_)
      refine o_guard (j := 10) (d := 35) (b := false) rfl rfl rfl (fun h => by cases h) rfl (fun _ => ?_)
      refine o_guard (j := 10) (d := 35) (b := false) rfl rfl rfl (fun h => by cases h) rfl (fun _ => ?_)
      refine o_y (v := .bool (false)) rfl rfl (y_pick (b := false) rfl rfl) ?_
      refine o_nil ?_
      refine hK5 _ _ ?_
      refine c_cond (t := false) rfl (fun h => by cases h) (fun _ => ?_)
      refine c_skip ?_
      refine hK4 _ _ ?_
      refine c_seq fun K7 hK7 => ?_
      refine c_region ?_
      refine o_y (v := .float .f64 (a)) rfl rfl (y_move rfl) ?_
      refine o_y (v := .float .f64 (b)) rfl rfl (y_move rfl) ?_
      refine o_y (v := .bool (ltF (a) (b))) rfl rfl (y_flt rfl rfl) ?_
      refine o_y (v := .bool (!(ltF (a) (b)))) rfl rfl (y_not rfl rfl) ?_
      refine o_y (v := .bool (!(ltF (a) (b)))) rfl rfl (y_move rfl) ?_
      cases hc4 : (!(ltF (a) (b)) : Bool)
      ·
        try have hc4' : (ltF (a) (b)) = true := by simpa using hc4
        -- way TFF
        refine o_guard (j := 4) (d := 45) (b := false) rfl rfl rfl (fun _ => ?_) rfl (fun h => by cases h)
        refine o_y (v := .float .f64 (a)) rfl rfl (y_move rfl) ?_
        refine o_guard (j := 4) (d := 45) (b := false) rfl rfl rfl (fun _ => ?_) rfl (fun h => by cases h)
        refine o_y (v := .float .f64 (b)) rfl rfl (y_move rfl) ?_
        refine o_guard (j := 4) (d := 45) (b := false) rfl rfl rfl (fun _ => ?_) rfl (fun h => by cases h)
        refine o_y (v := .int .i64 (cmpF (a) (b))) rfl rfl (y_call (vs := [.float .f64 (a), .float .f64 (b)]) b17 rfl (fun w hw => f17_Compare _ _ w (by first | assumption | omega | decide | exact FR.lt ‹_› | exact hB _ (List.getElem_mem _) | exact least_lt (fun x hx => hB x (List.mem_of_mem_take hx)) | exact lst_lt (least_lt (fun x hx => hB x (List.mem_of_mem_take hx)))) (by first | assumption | omega | decide | exact FR.lt ‹_› | exact hB _ (List.getElem_mem _) | exact least_lt (fun x hx => hB x (List.mem_of_mem_take hx)) | exact lst_lt (least_lt (fun x hx => hB x (List.mem_of_mem_take hx)))))) ?_
        refine o_guard (j := 4) (d := 45) (b := false) rfl rfl rfl (fun _ => ?_) rfl (fun h => by cases h)
        refine o_y (v := .bool (true)) rfl rfl (y_bool (y_eql rfl rfl rfl) (decide_eq_true (cmp_lt (by assumption)))) ?_
        refine o_y (v := .bool (true)) rfl rfl (y_pick (b := false) rfl rfl) ?_
        refine o_y (v := .bool (true)) rfl rfl (y_move rfl) ?_
        refine o_guard (j := 10) (d := 51) (b := true) rfl rfl rfl (fun _ => ?_) rfl (fun h => by cases h)
        refine o_y (v := .bool (true)) rfl rfl (y_call (vs := []) b12 rfl (fun w hw => f12_lives w)) ?_
        refine o_y (v := .bool (true)) rfl rfl (y_pick (b := true) rfl rfl) ?_
        refine o_y (v := .bool (true)) rfl rfl (y_assign rfl) ?_
        refine o_nil ?_
        refine hK7 _ _ ?_
        refine c_ret ?_
        refine fun w hw => ⟨[.bool (true)], ⟨rfl, trivial⟩, ?_⟩
        exact rfl
      ·
        try have hc4' : (ltF (a) (b)) = false := by simpa using hc4
        -- way TFT
        refine o_guard (j := 4) (d := 45) (b := true) rfl rfl rfl (fun h => by cases h) rfl (fun _ => ?_)
        refine o_guard (j := 4) (d := 45) (b := true) rfl rfl rfl (fun h => by cases h) rfl (fun _ => ?_)
        refine o_guard (j := 4) (d := 45) (b := true) rfl rfl rfl (fun h => by cases h) rfl (fun _ => ?_)
        refine o_guard (j := 4) (d := 45) (b := true) rfl rfl rfl (fun h => by cases h) rfl (fun _ => ?_)
        refine o_y (v := .bool (true)) rfl rfl (y_pick (b := true) rfl rfl) ?_
        refine o_y (v := .bool (true)) rfl rfl (y_move rfl) ?_
        refine o_guard (j := 10) (d := 51) (b := true) rfl rfl rfl (fun _ => ?_) rfl (fun h => by cases h)
        refine o_y (v := .bool (true)) rfl rfl (y_call (vs := []) b12 rfl (fun w hw => f12_lives w)) ?_
        refine o_y (v := .bool (true)) rfl rfl (y_pick (b := true) rfl rfl) ?_
        refine o_y (v := .bool (true)) rfl rfl (y_assign rfl) ?_
        refine o_nil ?_
        refine hK7 _ _ ?_
        refine c_ret ?_
        refine fun w hw => ⟨[.bool (true)], ⟨rfl, trivial⟩, ?_⟩
        exact rfl
    ·
      have hc3' := of_decide_eq_true hc3
      -- way TT
      refine o_guard (j := 10) (d := 35) (b := true) rfl rfl rfl (fun _ => ?_) rfl (fun h => by cases h)
      refine o_y (v := .float .f64 (a)) rfl rfl (y_move rfl) ?_
      refine o_guard (j := 10) (d := 35) (b := true) rfl rfl rfl (fun _ => ?_) rfl (fun h => by cases h)
      refine o_y (v := .float .f64 (c)) rfl rfl (y_move rfl) ?_
      refine o_guard (j := 10) (d := 35) (b := true) rfl rfl rfl (fun _ => ?_) rfl (fun h => by cases h)
      refine o_y (v := .int .i64 (cmpF (a) (c))) rfl rfl (y_call (vs := [.float .f64 (a), .float .f64 (c)]) b17 rfl (fun w hw => f17_Compare _ _ w (by first | assumption | omega | decide | exact FR.lt ‹_› | exact hB _ (List.getElem_mem _) | exact least_lt (fun x hx => hB x (List.mem_of_mem_take hx)) | exact lst_lt (least_lt (fun x hx => hB x (List.mem_of_mem_take hx)))) (by first | assumption | omega | decide | exact FR.lt ‹_› | exact hB _ (List.getElem_mem _) | exact least_lt (fun x hx => hB x (List.mem_of_mem_take hx)) | exact lst_lt (least_lt (fun x hx => hB x (List.mem_of_mem_take hx)))))) ?_
      refine o_guard (j := 10) (d := 35) (b := true) rfl rfl rfl (fun _ => ?_) rfl (fun h => by cases h)
      refine o_y (v := .bool (false)) rfl rfl (y_bool (y_gtr rfl rfl rfl) (decide_eq_false (by have h9 := @cmp_trans a b c; omega))) ?_
      refine o_y (v := .bool (false)) rfl rfl (y_pick (b := true) rfl rfl) ?_
      refine o_nil ?_
      refine hK5 _ _ ?_
      refine c_cond (t := false) rfl (fun h => by cases h) (fun _ => ?_)
      refine c_skip ?_
      refine hK4 _ _ ?_
      refine c_seq fun K8 hK8 => ?_
      refine c_region ?_
      refine o_y (v := .float .f64 (a)) rfl rfl (y_move rfl) ?_
      refine o_y (v := .float .f64 (b)) rfl rfl (y_move rfl) ?_
      refine o_y (v := .bool (ltF (a) (b))) rfl rfl (y_flt rfl rfl) ?_
      refine o_y (v := .bool (!(ltF (a) (b)))) rfl rfl (y_not rfl rfl) ?_
      refine o_y (v := .bool (!(ltF (a) (b)))) rfl rfl (y_move rfl) ?_
      cases hc5 : (!(ltF (a) (b)) : Bool)
      ·
        try have hc5' : (ltF (a) (b)) = true := by simpa using hc5
        -- way TTF
        refine o_guard (j := 4) (d := 45) (b := false) rfl rfl rfl (fun _ => ?_) rfl (fun h => by cases h)
        refine o_y (v := .float .f64 (a)) rfl rfl (y_move rfl) ?_
        refine o_guard (j := 4) (d := 45) (b := false) rfl rfl rfl (fun _ => ?_) rfl (fun h => by cases h)
        refine o_y (v := .float .f64 (b)) rfl rfl (y_move rfl) ?_
        refine o_guard (j := 4) (d := 45) (b := false) rfl rfl rfl (fun _ => ?_) rfl (fun h => by cases h)
        refine o_y (v := .int .i64 (cmpF (a) (b))) rfl rfl (y_call (vs := [.float .f64 (a), .float .f64 (b)]) b17 rfl (fun w hw => f17_Compare _ _ w (by first | assumption | omega | decide | exact FR.lt ‹_› | exact hB _ (List.getElem_mem _) | exact least_lt (fun x hx => hB x (List.mem_of_mem_take hx)) | exact lst_lt (least_lt (fun x hx => hB x (List.mem_of_mem_take hx)))) (by first | assumption | omega | decide | exact FR.lt ‹_› | exact hB _ (List.getElem_mem _) | exact least_lt (fun x hx => hB x (List.mem_of_mem_take hx)) | exact lst_lt (least_lt (fun x hx => hB x (List.mem_of_mem_take hx)))))) ?_
        refine o_guard (j := 4) (d := 45) (b := false) rfl rfl rfl (fun _ => ?_) rfl (fun h => by cases h)
        refine o_y (v := .bool (true)) rfl rfl (y_bool (y_eql rfl rfl rfl) (decide_eq_true (cmp_lt (by assumption)))) ?_
        refine o_y (v := .bool (true)) rfl rfl (y_pick (b := false) rfl rfl) ?_
        refine o_y (v := .bool (true)) rfl rfl (y_move rfl) ?_
        refine o_guard (j := 10) (d := 51) (b := true) rfl rfl rfl (fun _ => ?_) rfl (fun h => by cases h)
        refine o_y (v := .bool (true)) rfl rfl (y_call (vs := []) b12 rfl (fun w hw => f12_lives w)) ?_
        refine o_y (v := .bool (true)) rfl rfl (y_pick (b := true) rfl rfl) ?_
        refine o_y (v := .bool (true)) rfl rfl (y_assign rfl) ?_
        refine o_nil ?_
        refine hK8 _ _ ?_
        refine c_ret ?_
        refine fun w hw => ⟨[.bool (true)], ⟨rfl, trivial⟩, ?_⟩
        exact rfl
      ·
        try have hc5' : (ltF (a) (b)) = false := by simpa using hc5
        -- way TTT
        refine o_guard (j := 4) (d := 45) (b := true) rfl rfl rfl (fun h => by cases h) rfl (fun _ => ?_)
        refine o_guard (j := 4) (d := 45) (b := true) rfl rfl rfl (fun h => by cases h) rfl (fun _ => ?_)
        refine o_guard (j := 4) (d := 45) (b := true) rfl rfl rfl (fun h => by cases h) rfl (fun _ => ?_)
        refine o_guard (j := 4) (d := 45) (b := true) rfl rfl rfl (fun h => by cases h) rfl (fun _ => ?_)
        refine o_y (v := .bool (true)) rfl rfl (y_pick (b := true) rfl rfl) ?_
        refine o_y (v := .bool (true)) rfl rfl (y_move rfl) ?_
        refine o_guard (j := 10) (d := 51) (b := true) rfl rfl rfl (fun _ => ?_) rfl (fun h => by cases h)
        refine o_y (v := .bool (true)) rfl rfl (y_call (vs := []) b12 rfl (fun w hw => f12_lives w)) ?_
        refine o_y (v := .bool (true)) rfl rfl (y_pick (b := true) rfl rfl) ?_
        refine o_y (v := .bool (true)) rfl rfl (y_assign rfl) ?_
        refine o_nil ?_
        refine hK8 _ _ ?_
        refine c_ret ?_
        refine fun w hw => ⟨[.bool (true)], ⟨rfl, trivial⟩, ?_⟩
        exact rfl

end Go.Proofs.Ytikmjecjolppdaa.Gauge
