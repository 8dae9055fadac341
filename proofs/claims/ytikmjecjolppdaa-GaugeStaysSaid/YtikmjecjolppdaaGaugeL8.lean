/- Proved: what a law of package gauge comes to; the conditions stand in the statements. -/
import Derived.Test.YtikmjecjolppdaaGaugeH
set_option linter.unusedVariables false
set_option linter.unusedSimpArgs false
namespace Go.Proofs.Ytikmjecjolppdaa.Gauge
open Go Go.RowKit Go.Proofs.Ytikmjecjolppdaa.Eng Go.Proofs.Ytikmjecjolppdaa.Fl

set_option maxRecDepth 100000 in
set_option maxHeartbeats 4000000 in
theorem f8_GaugeStays (old now : Nat) (w : World) (h1 : old < 18446744073709551616) (h2 : now < 18446744073709551616) :
    Calls Try.prog 8 [.float .f64 (old), .float .f64 (now)].toArray w fun e w' => e = .returned (.bool (true)) ∧ Below w.heap.size w w' := by
  refine (calls_of (P := Try.prog) (n := 52) (w0 := w) (S := fun _ => False) (H := []) (T := fun v _ => v = (.bool (true))) Try.func8 rfl Try.ntmps8 (Nat.le_of_ble_eq_true rfl) [.tmp 4] rfl (St.nil w _) ?_).mono fun e w' ⟨v, H', he, hs, hT⟩ => ⟨by rw [he, hT], hs.below⟩
  refine c_seq fun K1 hK1 => ?_
  refine c_region ?_
  refine o_y (v := .bool (false)) rfl rfl (y_assign rfl) ?_
  refine o_nil ?_
  refine hK1 _ _ ?_
  refine c_seq fun K2 hK2 => ?_
  refine c_region ?_
  refine o_y (v := .float .f64 (old)) rfl rfl (y_move rfl) ?_
  refine o_y (v := .float .f64 (now)) rfl rfl (y_move rfl) ?_
  refine o_callF (vs := [.float .f64 (old), .float .f64 (now), .float .f64 (0)]) b19 rfl rfl (fun w hw => f19_Smooth (old) (now) (0) w (by first | assumption | omega | decide | exact FR.lt ‹_› | exact hB _ (List.getElem_mem _) | exact least_lt (fun x hx => hB x (List.mem_of_mem_take hx)) | exact lst_lt (least_lt (fun x hx => hB x (List.mem_of_mem_take hx)))) (by first | assumption | omega | decide | exact FR.lt ‹_› | exact hB _ (List.getElem_mem _) | exact least_lt (fun x hx => hB x (List.mem_of_mem_take hx)) | exact lst_lt (least_lt (fun x hx => hB x (List.mem_of_mem_take hx)))) (by first | assumption | omega | decide | exact FR.lt ‹_› | exact hB _ (List.getElem_mem _) | exact least_lt (fun x hx => hB x (List.mem_of_mem_take hx)) | exact lst_lt (least_lt (fun x hx => hB x (List.mem_of_mem_take hx))))) ?_
  rintro _ _ ⟨r10, rfl, hfr10⟩
  refine o_y (v := .tuple #[.float .f64 (r10), .int .i64 (smoothE (0))]) rfl rfl (y_move rfl) ?_
  refine o_y (v := .float .f64 (r10)) rfl rfl (y_extract (vs := #[.float .f64 (r10), .int .i64 (smoothE (0))]) rfl rfl) ?_
  refine o_y (v := .int .i64 (smoothE (0))) rfl rfl (y_extract (vs := #[.float .f64 (r10), .int .i64 (smoothE (0))]) rfl rfl) ?_
  refine o_y (v := .float .f64 (r10)) rfl rfl (y_assign rfl) ?_
  refine o_y (v := .int .i64 (smoothE (0))) rfl rfl (y_assign rfl) ?_
  refine o_nil ?_
  refine hK2 _ _ ?_
  refine c_seq fun K3 hK3 => ?_
  refine c_seq fun K4 hK4 => ?_
  refine c_region ?_
  refine o_y (v := .int .i64 (smoothE (0))) rfl rfl (y_move rfl) ?_
  refine o_y (v := .bool (false)) rfl rfl (y_bool (y_neq rfl rfl rfl) (by decide +kernel)) ?_
  refine o_nil ?_
  refine hK4 _ _ ?_
  refine c_cond (t := false) rfl (fun h => by cases h) (fun _ => ?_)
  refine c_skip ?_
  refine hK3 _ _ ?_
  refine c_seq fun K5 hK5 => ?_
  refine c_seq fun K6 hK6 => ?_
  refine c_region ?_
  refine o_y (v := .float .f64 (old)) rfl rfl (y_move rfl) ?_
  refine o_y (v := .bool (nanB (old))) rfl rfl (y_call (vs := [.float .f64 (old)]) b11 rfl (fun w hw => f11_none _ w)) ?_
  refine o_nil ?_
  refine hK6 _ _ ?_
  refine c_cond (t := nanB (old)) rfl (fun hc1 => ?_) (fun hc1 => ?_)
  ·
    -- way T
    refine c_seq fun K7 hK7 => ?_
    refine c_region ?_
    refine o_y (v := .float .f64 (r10)) rfl rfl (y_move rfl) ?_
    refine o_y (v := .float .f64 (now)) rfl rfl (y_move rfl) ?_
    refine o_y (v := .bool (true)) rfl rfl (y_bool (y_call (vs := [.float .f64 (r10), .float .f64 (now)]) b10 rfl (fun w hw => f10_same _ _ w)) ((same_is _ _).2 (hfr10.1.trans (smooth_old bad0 (by assumption))))) ?_
    refine o_y (v := .bool (true)) rfl rfl (y_move rfl) ?_
    refine o_guard (j := 3) (d := 20) (b := true) rfl rfl rfl (fun _ => ?_) rfl (fun h => by cases h)
    refine o_y (v := .bool (true)) rfl rfl (y_call (vs := []) b12 rfl (fun w hw => f12_lives w)) ?_
    refine o_y (v := .bool (true)) rfl rfl (y_pick (b := true) rfl rfl) ?_
    refine o_y (v := .bool (true)) rfl rfl (y_assign rfl) ?_
    refine o_nil ?_
    refine hK7 _ _ ?_
    refine c_ret ?_
    refine fun w hw => ⟨[.bool (true)], ⟨rfl, trivial⟩, ?_⟩
    exact rfl
  ·
    -- way F
    refine c_skip ?_
    refine hK5 _ _ ?_
    refine c_seq fun K8 hK8 => ?_
    refine c_seq fun K9 hK9 => ?_
    refine c_region ?_
    refine o_y (v := .float .f64 (now)) rfl rfl (y_move rfl) ?_
    refine o_y (v := .bool (nanB (now))) rfl rfl (y_call (vs := [.float .f64 (now)]) b11 rfl (fun w hw => f11_none _ w)) ?_
    refine o_nil ?_
    refine hK9 _ _ ?_
    refine c_cond (t := nanB (now)) rfl (fun hc2 => ?_) (fun hc2 => ?_)
    ·
      -- way FT
      refine c_seq fun K10 hK10 => ?_
      refine c_region ?_
      refine o_y (v := .float .f64 (r10)) rfl rfl (y_move rfl) ?_
      refine o_y (v := .float .f64 (old)) rfl rfl (y_move rfl) ?_
      refine o_y (v := .bool (true)) rfl rfl (y_bool (y_call (vs := [.float .f64 (r10), .float .f64 (old)]) b10 rfl (fun w hw => f10_same _ _ w)) ((same_is _ _).2 (hfr10.1.trans (smooth_now bad0 (by assumption) (by assumption))))) ?_
      refine o_y (v := .bool (true)) rfl rfl (y_move rfl) ?_
      refine o_guard (j := 3) (d := 28) (b := true) rfl rfl rfl (fun _ => ?_) rfl (fun h => by cases h)
      refine o_y (v := .bool (true)) rfl rfl (y_call (vs := []) b12 rfl (fun w hw => f12_lives w)) ?_
      refine o_y (v := .bool (true)) rfl rfl (y_pick (b := true) rfl rfl) ?_
      refine o_y (v := .bool (true)) rfl rfl (y_assign rfl) ?_
      refine o_nil ?_
      refine hK10 _ _ ?_
      refine c_ret ?_
      refine fun w hw => ⟨[.bool (true)], ⟨rfl, trivial⟩, ?_⟩
      exact rfl
    ·
      -- way FF
      refine c_skip ?_
      refine hK8 _ _ ?_
      refine c_seq fun K11 hK11 => ?_
      refine c_seq fun K12 hK12 => ?_
      refine c_region ?_
      refine o_y (v := .float .f64 (now)) rfl rfl (y_move rfl) ?_
      refine o_y (v := .float .f64 (old)) rfl rfl (y_move rfl) ?_
      refine o_float (F.sub (now) (old)) rfl rfl rfl rfl (by simp) fun r33 hfr33 => ?_
      refine o_y (v := .bool (infB (r33) (0))) rfl rfl (y_call (vs := [.float .f64 (r33), .int .i64 (0)]) b14 rfl (fun w hw => f14_IsInf _ _ w (by first | assumption | omega | decide | exact FR.lt ‹_› | exact hB _ (List.getElem_mem _) | exact least_lt (fun x hx => hB x (List.mem_of_mem_take hx)) | exact lst_lt (least_lt (fun x hx => hB x (List.mem_of_mem_take hx)))))) ?_
      refine o_y (v := .bool (infB (r33) (0))) rfl rfl (y_move rfl) ?_
      cases hc3 : (infB (r33) (0) : Bool)
      ·
        -- way FFF
        refine o_guard (j := 4) (d := 35) (b := false) rfl rfl rfl (fun _ => ?_) rfl (fun h => by cases h)
        refine o_y (v := .float .f64 (now)) rfl rfl (y_move rfl) ?_
        refine o_guard (j := 4) (d := 35) (b := false) rfl rfl rfl (fun _ => ?_) rfl (fun h => by cases h)
        refine o_y (v := .float .f64 (old)) rfl rfl (y_move rfl) ?_
        refine o_guard (j := 4) (d := 35) (b := false) rfl rfl rfl (fun _ => ?_) rfl (fun h => by cases h)
        refine o_float (F.sub (now) (old)) rfl rfl rfl rfl (by simp) fun r38 hfr38 => ?_
        refine o_guard (j := 4) (d := 35) (b := false) rfl rfl rfl (fun _ => ?_) rfl (fun h => by cases h)
        refine o_y (v := .bool (nanB (r38))) rfl rfl (y_call (vs := [.float .f64 (r38)]) b11 rfl (fun w hw => f11_none _ w)) ?_
        refine o_y (v := .bool (nanB (r38))) rfl rfl (y_pick (b := false) rfl rfl) ?_
        refine o_nil ?_
        refine hK12 _ _ ?_
        refine c_cond (t := nanB (r38)) rfl (fun hc4 => ?_) (fun hc4 => ?_)
        ·
          -- way FFFT
          refine c_seq fun K13 hK13 => ?_
          refine c_region ?_
          refine o_y (v := .float .f64 (r10)) rfl rfl (y_move rfl) ?_
          refine o_y (v := .bool (true)) rfl rfl (y_bool (y_call (vs := [.float .f64 (r10)]) b11 rfl (fun w hw => f11_none _ w)) (by first | exact stays_inf (by assumption) (by assumption) hfr33 (.inl (by assumption)) hfr10 | exact stays_inf (by assumption) (by assumption) hfr38 (.inr (by assumption)) hfr10)) ?_
          refine o_y (v := .bool (true)) rfl rfl (y_move rfl) ?_
          refine o_guard (j := 2) (d := 43) (b := true) rfl rfl rfl (fun _ => ?_) rfl (fun h => by cases h)
          refine o_y (v := .bool (true)) rfl rfl (y_call (vs := []) b12 rfl (fun w hw => f12_lives w)) ?_
          refine o_y (v := .bool (true)) rfl rfl (y_pick (b := true) rfl rfl) ?_
          refine o_y (v := .bool (true)) rfl rfl (y_assign rfl) ?_
          refine o_nil ?_
          refine hK13 _ _ ?_
          refine c_ret ?_
          refine fun w hw => ⟨[.bool (true)], ⟨rfl, trivial⟩, ?_⟩
          exact rfl
        ·
          -- way FFFF
          refine c_skip ?_
          refine hK11 _ _ ?_
          refine c_seq fun K14 hK14 => ?_
          refine c_region ?_
          refine o_y (v := .float .f64 (r10)) rfl rfl (y_move rfl) ?_
          refine o_y (v := .float .f64 (old)) rfl rfl (y_move rfl) ?_
          refine o_y (v := .bool (true)) rfl rfl (y_bool (y_feq rfl rfl) (stays_ok (by assumption) (by assumption) hfr33 (by assumption) (by rw [nan_same hfr33 hfr38]; assumption) hfr10)) ?_
          refine o_y (v := .bool (true)) rfl rfl (y_move rfl) ?_
          refine o_guard (j := 3) (d := 49) (b := true) rfl rfl rfl (fun _ => ?_) rfl (fun h => by cases h)
          refine o_y (v := .bool (true)) rfl rfl (y_call (vs := []) b12 rfl (fun w hw => f12_lives w)) ?_
          refine o_y (v := .bool (true)) rfl rfl (y_pick (b := true) rfl rfl) ?_
          refine o_y (v := .bool (true)) rfl rfl (y_assign rfl) ?_
          refine o_nil ?_
          refine hK14 _ _ ?_
          refine c_ret ?_
          refine fun w hw => ⟨[.bool (true)], ⟨rfl, trivial⟩, ?_⟩
          exact rfl
      ·
        -- way FFT
        refine o_guard (j := 4) (d := 35) (b := true) rfl rfl rfl (fun h => by cases h) rfl (fun _ => ?_)
        refine o_guard (j := 4) (d := 35) (b := true) rfl rfl rfl (fun h => by cases h) rfl (fun _ => ?_)
        refine o_guard (j := 4) (d := 35) (b := true) rfl rfl rfl (fun h => by cases h) rfl (fun _ => ?_)
        refine o_guard (j := 4) (d := 35) (b := true) rfl rfl rfl (fun h => by cases h) rfl (fun _ => ?_)
        refine o_y (v := .bool (true)) rfl rfl (y_pick (b := true) rfl rfl) ?_
        refine o_nil ?_
        refine hK12 _ _ ?_
        refine c_cond (t := true) rfl (fun _ => ?_) (fun h => by cases h)
        refine c_seq fun K15 hK15 => ?_
        refine c_region ?_
        refine o_y (v := .float .f64 (r10)) rfl rfl (y_move rfl) ?_
        refine o_y (v := .bool (true)) rfl rfl (y_bool (y_call (vs := [.float .f64 (r10)]) b11 rfl (fun w hw => f11_none _ w)) (by first | exact stays_inf (by assumption) (by assumption) hfr33 (.inl (by assumption)) hfr10 | exact stays_inf (by assumption) (by assumption) hfr38 (.inr (by assumption)) hfr10)) ?_
        refine o_y (v := .bool (true)) rfl rfl (y_move rfl) ?_
        refine o_guard (j := 2) (d := 43) (b := true) rfl rfl rfl (fun _ => ?_) rfl (fun h => by cases h)
        refine o_y (v := .bool (true)) rfl rfl (y_call (vs := []) b12 rfl (fun w hw => f12_lives w)) ?_
        refine o_y (v := .bool (true)) rfl rfl (y_pick (b := true) rfl rfl) ?_
        refine o_y (v := .bool (true)) rfl rfl (y_assign rfl) ?_
        refine o_nil ?_
        refine hK15 _ _ ?_
        refine c_ret ?_
        refine fun w hw => ⟨[.bool (true)], ⟨rfl, trivial⟩, ?_⟩
        exact rfl

end Go.Proofs.Ytikmjecjolppdaa.Gauge
