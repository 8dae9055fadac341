/- Proved: what a law of package gauge comes to; the conditions stand in the statements. -/
import Derived.Test.YtikmjecjolppdaaGaugeH
set_option linter.unusedVariables false
set_option linter.unusedSimpArgs false
namespace Go.Proofs.Ytikmjecjolppdaa.Gauge
open Go Go.RowKit Go.Proofs.Ytikmjecjolppdaa.Eng Go.Proofs.Ytikmjecjolppdaa.Fl

set_option maxRecDepth 100000 in
set_option maxHeartbeats 4000000 in
theorem f3_GaugeShares (d a : Nat) (w : World) (h1 : d < 18446744073709551616) (h2 : a < 18446744073709551616) :
    Calls Try.prog 3 [.float .f64 (d), .float .f64 (a)].toArray w fun e w' => e = .returned (.bool (true)) ∧ Below w.heap.size w w' := by
  refine (calls_of (P := Try.prog) (n := 51) (w0 := w) (S := fun _ => False) (H := []) (T := fun v _ => v = (.bool (true))) Try.func3 rfl Try.ntmps3 (Nat.le_of_ble_eq_true rfl) [.tmp 4] rfl (St.nil w _) ?_).mono fun e w' ⟨v, H', he, hs, hT⟩ => ⟨by rw [he, hT], hs.below⟩
  refine c_seq fun K1 hK1 => ?_
  refine c_region ?_
  refine o_y (v := .bool (false)) rfl rfl (y_assign rfl) ?_
  refine o_nil ?_
  refine hK1 _ _ ?_
  refine c_seq fun K2 hK2 => ?_
  refine c_region ?_
  refine o_y (v := .float .f64 (d)) rfl rfl (y_move rfl) ?_
  refine o_y (v := .float .f64 (a)) rfl rfl (y_move rfl) ?_
  refine o_callF (vs := [.float .f64 (d), .float .f64 (a)]) b9 rfl rfl (fun w hw => f9_Share (d) (a) w) ?_
  rintro _ _ ⟨r9, rfl, hfr9⟩
  refine o_y (v := .float .f64 (r9)) rfl rfl (y_assign rfl) ?_
  refine o_nil ?_
  refine hK2 _ _ ?_
  refine c_seq fun K3 hK3 => ?_
  refine c_seq fun K4 hK4 => ?_
  refine c_region ?_
  refine o_y (v := .float .f64 (r9)) rfl rfl (y_move rfl) ?_
  refine o_y (v := .float .f64 (d)) rfl rfl (y_move rfl) ?_
  refine o_y (v := .float .f64 (a)) rfl rfl (y_move rfl) ?_
  refine o_float (F.div (d) (a)) rfl rfl rfl rfl (by simp) fun r13 hfr13 => ?_
  refine o_y (v := .bool (true)) rfl rfl (y_bool (y_call (vs := [.float .f64 (r9), .float .f64 (r13)]) b10 rfl (fun w hw => f10_same _ _ w)) (same_of hfr9 hfr13)) ?_
  refine o_y (v := .bool (false)) rfl rfl (y_not rfl rfl) ?_
  refine o_nil ?_
  refine hK4 _ _ ?_
  refine c_cond (t := false) rfl (fun h => by cases h) (fun _ => ?_)
  refine c_skip ?_
  refine hK3 _ _ ?_
  refine c_seq fun K5 hK5 => ?_
  refine c_seq fun K6 hK6 => ?_
  refine c_region ?_
  refine o_y (v := .float .f64 (a)) rfl rfl (y_move rfl) ?_
  refine o_y (v := .bool (neF (a) (0))) rfl rfl (y_fne rfl rfl) ?_
  refine o_y (v := .bool (neF (a) (0))) rfl rfl (y_move rfl) ?_
  cases hc1 : (neF (a) (0) : Bool)
  ·
    -- way F
    refine o_guard (j := 2) (d := 18) (b := false) rfl rfl rfl (fun _ => ?_) rfl (fun h => by cases h)
    refine o_y (v := .float .f64 (d)) rfl rfl (y_move rfl) ?_
    refine o_guard (j := 2) (d := 18) (b := false) rfl rfl rfl (fun _ => ?_) rfl (fun h => by cases h)
    refine o_y (v := .bool (nanB (d))) rfl rfl (y_call (vs := [.float .f64 (d)]) b11 rfl (fun w hw => f11_none _ w)) ?_
    refine o_y (v := .bool (nanB (d))) rfl rfl (y_pick (b := false) rfl rfl) ?_
    refine o_nil ?_
    refine hK6 _ _ ?_
    refine c_cond (t := nanB (d)) rfl (fun hc2 => ?_) (fun hc2 => ?_)
    ·
      -- way FT
      refine c_seq fun K7 hK7 => ?_
      refine c_region ?_
      refine o_y (v := .bool (true)) rfl rfl (y_call (vs := []) b12 rfl (fun w hw => f12_lives w)) ?_
      refine o_y (v := .bool (true)) rfl rfl (y_assign rfl) ?_
      refine o_nil ?_
      refine hK7 _ _ ?_
      refine c_ret ?_
      refine fun w hw => ⟨[.bool (true)], ⟨rfl, trivial⟩, ?_⟩
      exact rfl
    ·
      -- way FF
      refine c_skip ?_
      refine hK5 _ _ ?_
      refine c_seq fun K8 hK8 => ?_
      refine c_seq fun K9 hK9 => ?_
      refine c_region ?_
      refine o_y (v := .float .f64 (d)) rfl rfl (y_move rfl) ?_
      refine o_y (v := .bool (eqF (d) (0))) rfl rfl (y_feq rfl rfl) ?_
      refine o_nil ?_
      refine hK9 _ _ ?_
      refine c_cond (t := eqF (d) (0)) rfl (fun hc3 => ?_) (fun hc3 => ?_)
      ·
        -- way FFT
        refine c_seq fun K10 hK10 => ?_
        refine c_region ?_
        refine o_y (v := .float .f64 (r9)) rfl rfl (y_move rfl) ?_
        refine o_y (v := .bool (true)) rfl rfl (y_bool (y_call (vs := [.float .f64 (r9)]) b11 rfl (fun w hw => f11_none _ w)) (nan_of hfr9 (div_none (zero_of (by assumption)).2 (zero_ne (by assumption))))) ?_
        refine o_y (v := .bool (true)) rfl rfl (y_move rfl) ?_
        refine o_guard (j := 2) (d := 27) (b := true) rfl rfl rfl (fun _ => ?_) rfl (fun h => by cases h)
        refine o_y (v := .bool (true)) rfl rfl (y_call (vs := []) b12 rfl (fun w hw => f12_lives w)) ?_
        refine o_y (v := .bool (true)) rfl rfl (y_pick (b := true) rfl rfl) ?_
        refine o_y (v := .bool (true)) rfl rfl (y_assign rfl) ?_
        refine o_nil ?_
        refine hK10 _ _ ?_
        refine c_ret ?_
        refine fun w hw => ⟨[.bool (true)], ⟨rfl, trivial⟩, ?_⟩
        exact rfl
      ·
        -- way FFF
        have hq := share_inf (by assumption) (by assumption) (by assumption) hfr9
        refine c_skip ?_
        refine hK8 _ _ ?_
        refine c_seq fun K11 hK11 => ?_
        refine c_region ?_
        refine o_y (v := .float .f64 (d)) rfl rfl (y_move rfl) ?_
        refine o_y (v := .int .u64 (((d : Nat) : Int))) rfl rfl (y_ext (vs := [.float .f64 (d)]) x13 rfl (fun w => x_bits (d) w)) ?_
        refine o_y (v := .bool (decide (9223372036854775808 ≤ ((d : Nat) : Int)))) rfl rfl (y_geq rfl rfl rfl) ?_
        refine o_y (v := .float .f64 (a)) rfl rfl (y_move rfl) ?_
        refine o_y (v := .int .u64 (((a : Nat) : Int))) rfl rfl (y_ext (vs := [.float .f64 (a)]) x13 rfl (fun w => x_bits (a) w)) ?_
        refine o_y (v := .bool (decide (9223372036854775808 ≤ ((a : Nat) : Int)))) rfl rfl (y_geq rfl rfl rfl) ?_
        refine o_y (v := .bool ((decide (9223372036854775808 ≤ ((d : Nat) : Int))) == (decide (9223372036854775808 ≤ ((a : Nat) : Int))))) rfl rfl (y_eqlB rfl rfl Try.underlying4 rfl) ?_
        refine o_y (v := .bool ((decide (9223372036854775808 ≤ ((d : Nat) : Int))) == (decide (9223372036854775808 ≤ ((a : Nat) : Int))))) rfl rfl (y_assign rfl) ?_
        refine o_nil ?_
        refine hK11 _ _ ?_
        refine c_seq fun K12 hK12 => ?_
        refine c_region ?_
        refine o_y (v := .float .f64 (r9)) rfl rfl (y_move rfl) ?_
        refine o_y (v := .bool (infB (r9) (1))) rfl rfl (y_call (vs := [.float .f64 (r9), .int .i64 (1)]) b14 rfl (fun w hw => f14_IsInf _ _ w (by first | assumption | omega | decide | exact FR.lt ‹_› | exact hB _ (List.getElem_mem _) | exact least_lt (fun x hx => hB x (List.mem_of_mem_take hx)) | exact lst_lt (least_lt (fun x hx => hB x (List.mem_of_mem_take hx)))))) ?_
        refine o_y (v := .bool ((decide (9223372036854775808 ≤ ((d : Nat) : Int))) == (decide (9223372036854775808 ≤ ((a : Nat) : Int))))) rfl rfl (y_move rfl) ?_
        refine o_y (v := .bool (true)) rfl rfl (y_bool (y_eqlB rfl rfl Try.underlying4 rfl) (by rw [hq, (inf_word _).1, sgi h1, sgi h2]; cases sg d <;> cases sg a <;> rfl)) ?_
        refine o_y (v := .bool (true)) rfl rfl (y_move rfl) ?_
        refine o_guard (j := 4) (d := 41) (b := true) rfl rfl rfl (fun _ => ?_) rfl (fun h => by cases h)
        refine o_y (v := .float .f64 (r9)) rfl rfl (y_move rfl) ?_
        refine o_guard (j := 4) (d := 41) (b := true) rfl rfl rfl (fun _ => ?_) rfl (fun h => by cases h)
        refine o_y (v := .bool (infB (r9) (-1))) rfl rfl (y_call (vs := [.float .f64 (r9), .int .i64 (-1)]) b14 rfl (fun w hw => f14_IsInf _ _ w (by first | assumption | omega | decide | exact FR.lt ‹_› | exact hB _ (List.getElem_mem _) | exact least_lt (fun x hx => hB x (List.mem_of_mem_take hx)) | exact lst_lt (least_lt (fun x hx => hB x (List.mem_of_mem_take hx)))))) ?_
        refine o_guard (j := 4) (d := 41) (b := true) rfl rfl rfl (fun _ => ?_) rfl (fun h => by cases h)
        refine o_y (v := .bool ((decide (9223372036854775808 ≤ ((d : Nat) : Int))) == (decide (9223372036854775808 ≤ ((a : Nat) : Int))))) rfl rfl (y_move rfl) ?_
        refine o_guard (j := 4) (d := 41) (b := true) rfl rfl rfl (fun _ => ?_) rfl (fun h => by cases h)
        refine o_y (v := .bool (!((decide (9223372036854775808 ≤ ((d : Nat) : Int))) == (decide (9223372036854775808 ≤ ((a : Nat) : Int)))))) rfl rfl (y_not rfl rfl) ?_
        refine o_guard (j := 4) (d := 41) (b := true) rfl rfl rfl (fun _ => ?_) rfl (fun h => by cases h)
        refine o_y (v := .bool (true)) rfl rfl (y_bool (y_eqlB rfl rfl Try.underlying4 rfl) (by rw [hq, (inf_word _).2, sgi h1, sgi h2]; cases sg d <;> cases sg a <;> rfl)) ?_
        refine o_y (v := .bool (true)) rfl rfl (y_pick (b := true) rfl rfl) ?_
        refine o_y (v := .bool (true)) rfl rfl (y_move rfl) ?_
        refine o_guard (j := 11) (d := 48) (b := true) rfl rfl rfl (fun _ => ?_) rfl (fun h => by cases h)
        refine o_y (v := .bool (true)) rfl rfl (y_call (vs := []) b12 rfl (fun w hw => f12_lives w)) ?_
        refine o_y (v := .bool (true)) rfl rfl (y_pick (b := true) rfl rfl) ?_
        refine o_y (v := .bool (true)) rfl rfl (y_assign rfl) ?_
        refine o_nil ?_
        refine hK12 _ _ ?_
        refine c_ret ?_
        refine fun w hw => ⟨[.bool (true)], ⟨rfl, trivial⟩, ?_⟩
        exact rfl
  ·
    -- way T
    refine o_guard (j := 2) (d := 18) (b := true) rfl rfl rfl (fun h => by cases h) rfl (fun _ => ?_)
    refine o_guard (j := 2) (d := 18) (b := true) rfl rfl rfl (fun h => by cases h) rfl (fun _ => ?_)
    refine o_y (v := .bool (true)) rfl rfl (y_pick (b := true) rfl rfl) ?_
    refine o_nil ?_
    refine hK6 _ _ ?_
    refine c_cond (t := true) rfl (fun _ => ?_) (fun h => by cases h)
    refine c_seq fun K13 hK13 => ?_
    refine c_region ?_
    refine o_y (v := .bool (true)) rfl rfl (y_call (vs := []) b12 rfl (fun w hw => f12_lives w)) ?_
    refine o_y (v := .bool (true)) rfl rfl (y_assign rfl) ?_
    refine o_nil ?_
    refine hK13 _ _ ?_
    refine c_ret ?_
    refine fun w hw => ⟨[.bool (true)], ⟨rfl, trivial⟩, ?_⟩
    exact rfl

end Go.Proofs.Ytikmjecjolppdaa.Gauge
