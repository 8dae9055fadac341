/- Proved: what the plan and its reference come to; the conditions stand in the statements. -/
import Derived.Test.YtdekckpoolkgnaaPlanF
set_option linter.unusedVariables false
set_option linter.unusedSimpArgs false
namespace Go.Proofs.Ytdekckpoolkgnaa.Plan
open Go Go.RowKit Go.Proofs.Ytdekckpoolkgnaa.Eng

set_option maxRecDepth 100000 in
set_option maxHeartbeats 4000000 in
theorem f8_Of (w1 w2 : List Bool) (a1 : Option Addr) (b1 o1 cap1 m1 : Nat) (a2 : Option Addr) (b2 o2 cap2 m2 : Nat) (p : Bool) (lost : Int) (w : World) (hl0 : -9223372036854775808 ≤ lost) (hl1 : lost ≤ 9223372036854775807) (hm1 : m1 = w1.length) (hs1 : Sl eBool w w1 a1 b1 o1 cap1) (hm2 : m2 = w2.length) (hs2 : Sl eBool w w2 a2 b2 o2 cap2) :
    Calls Try.prog 8 [.slice (a1) (m1) (cap1), .slice (a2) (m2) (cap2), .bool (p), .int .i64 (lost)].toArray w fun e w' => ∃ v H', e = .returned v ∧ St w (fun _ => False) H' w' ∧ (fun v H => ∃ a g cap, v = .tuple #[.agg #[.int .u8 (planW w1 w2 p lost), .slice a (planR w1 w2 p lost).length cap], .int .i64 (planE w1 w2 p lost)] ∧ OwnV eInt 3 (planR w1 w2 p lost) a g cap H) v H' := by
  subst hm1
  subst hm2
  have hle1 := hs1.le
  have hmx1 := hs1.mx
  have hle2 := hs2.le
  have hmx2 := hs2.mx
  simp only [maxLen] at hmx1 hmx2
  have hc15 := cnt_le w1 w1.length
  refine (calls_of (P := Try.prog) (n := 82) (w0 := w) (S := fun _ => False) (H := []) (T := fun v H => ∃ H', H'.Sublist H ∧ (fun v H => ∃ a g cap, v = .tuple #[.agg #[.int .u8 (planW w1 w2 p lost), .slice a (planR w1 w2 p lost).length cap], .int .i64 (planE w1 w2 p lost)] ∧ OwnV eInt 3 (planR w1 w2 p lost) a g cap H) v H') Try.func8 rfl Try.ntmps8 (Nat.le_of_ble_eq_true rfl) [.cell 8 25, .tmp 9] rfl (St.nil w _) ?_).mono fun e w' ⟨v, H', he, hs, H2, hsub, hT⟩ => ⟨v, H2, he, hs.drop hsub, hT⟩
  refine c_seq fun K1 hK1 => ?_
  refine c_region ?_
  refine o_alloc (z := .agg (#[.int .u8 (0), .slice none 0 0])) rfl z25 fun g1 => ?_
  refine o_y (v := .int .i64 (0)) rfl rfl (y_assign rfl) ?_
  refine o_nil ?_
  refine hK1 _ _ ?_
  refine c_seq fun K2 hK2 => ?_
  refine c_region ?_
  refine o_y (v := .slice (a1) ((w1).length) (cap1)) rfl rfl (y_move rfl) ?_
  refine o_y (v := .int .i64 ((((w1).length : Nat) : Int))) rfl rfl (y_len rfl Try.underlying22) ?_
  refine o_y (v := .int .i64 ((((w1).length : Nat) : Int))) rfl rfl (y_assign rfl) ?_
  refine o_nil ?_
  refine hK2 _ _ ?_
  refine c_seq fun K3 hK3 => ?_
  refine c_seq fun K4 hK4 => ?_
  refine c_region ?_
  refine o_y (v := .int .i64 ((((w1).length : Nat) : Int))) rfl rfl (y_move rfl) ?_
  refine o_y (v := .bool (decide (2 ≤ (((w1).length : Nat) : Int) ∧ (((w1).length : Nat) : Int) ≤ 15))) rfl rfl (y_call (vs := [.int .i64 ((((w1).length : Nat) : Int))]) b16 rfl (fun w hw => f16_many _ w)) ?_
  refine o_y (v := .bool (!(decide (2 ≤ (((w1).length : Nat) : Int) ∧ (((w1).length : Nat) : Int) ≤ 15)))) rfl rfl (y_not rfl rfl) ?_
  refine o_y (v := .bool (!(decide (2 ≤ (((w1).length : Nat) : Int) ∧ (((w1).length : Nat) : Int) ≤ 15)))) rfl rfl (y_move rfl) ?_
  cases hc1 : (!(decide (2 ≤ (((w1).length : Nat) : Int) ∧ (((w1).length : Nat) : Int) ≤ 15)) : Bool)
  ·
    have hc1' := hc1
    simp only [Bool.not_eq_true', Bool.not_eq_false', decide_eq_true_eq, decide_eq_false_iff_not] at hc1'
    -- way F
    refine o_guard (j := 3) (d := 21) (b := false) rfl rfl rfl (fun _ => ?_) rfl (fun h => by cases h)
    refine o_y (v := .slice (a2) ((w2).length) (cap2)) rfl rfl (y_move rfl) ?_
    refine o_guard (j := 3) (d := 21) (b := false) rfl rfl rfl (fun _ => ?_) rfl (fun h => by cases h)
    refine o_y (v := .int .i64 ((((w2).length : Nat) : Int))) rfl rfl (y_len rfl Try.underlying22) ?_
    refine o_guard (j := 3) (d := 21) (b := false) rfl rfl rfl (fun _ => ?_) rfl (fun h => by cases h)
    refine o_y (v := .int .i64 ((((w1).length : Nat) : Int))) rfl rfl (y_move rfl) ?_
    refine o_guard (j := 3) (d := 21) (b := false) rfl rfl rfl (fun _ => ?_) rfl (fun h => by cases h)
    refine o_y (v := .bool (decide ((((w2).length : Nat) : Int) ≠ (((w1).length : Nat) : Int)))) rfl rfl (y_neq rfl rfl rfl) ?_
    refine o_y (v := .bool (decide ((((w2).length : Nat) : Int) ≠ (((w1).length : Nat) : Int)))) rfl rfl (y_pick (b := false) rfl rfl) ?_
    refine o_y (v := .bool (decide ((((w2).length : Nat) : Int) ≠ (((w1).length : Nat) : Int)))) rfl rfl (y_move rfl) ?_
    cases hc2 : (decide ((((w2).length : Nat) : Int) ≠ (((w1).length : Nat) : Int)) : Bool)
    ·
      have hc2' := of_decide_eq_false hc2
      -- way FF
      refine o_guard (j := 9) (d := 27) (b := false) rfl rfl rfl (fun _ => ?_) rfl (fun h => by cases h)
      refine o_y (v := .int .i64 (lost)) rfl rfl (y_move rfl) ?_
      refine o_guard (j := 9) (d := 27) (b := false) rfl rfl rfl (fun _ => ?_) rfl (fun h => by cases h)
      refine o_y (v := .bool (decide (lost < -1))) rfl rfl (y_lss rfl rfl rfl) ?_
      refine o_y (v := .bool (decide (lost < -1))) rfl rfl (y_pick (b := false) rfl rfl) ?_
      refine o_y (v := .bool (decide (lost < -1))) rfl rfl (y_move rfl) ?_
      cases hc3 : (decide (lost < -1) : Bool)
      ·
        have hc3' := of_decide_eq_false hc3
        -- way FFF
        refine o_guard (j := 13) (d := 31) (b := false) rfl rfl rfl (fun _ => ?_) rfl (fun h => by cases h)
        refine o_y (v := .int .i64 (lost)) rfl rfl (y_move rfl) ?_
        refine o_guard (j := 13) (d := 31) (b := false) rfl rfl rfl (fun _ => ?_) rfl (fun h => by cases h)
        refine o_y (v := .int .i64 ((((w1).length : Nat) : Int))) rfl rfl (y_move rfl) ?_
        refine o_guard (j := 13) (d := 31) (b := false) rfl rfl rfl (fun _ => ?_) rfl (fun h => by cases h)
        refine o_y (v := .bool (decide ((((w1).length : Nat) : Int) < lost))) rfl rfl (y_gtr rfl rfl rfl) ?_
        refine o_y (v := .bool (decide ((((w1).length : Nat) : Int) < lost))) rfl rfl (y_pick (b := false) rfl rfl) ?_
        refine o_y (v := .bool (decide ((((w1).length : Nat) : Int) < lost))) rfl rfl (y_move rfl) ?_
        cases hc4 : (decide ((((w1).length : Nat) : Int) < lost) : Bool)
        ·
          have hc4' := of_decide_eq_false hc4
          -- way FFFF
          refine o_guard (j := 18) (d := 36) (b := false) rfl rfl rfl (fun _ => ?_) rfl (fun h => by cases h)
          refine o_y (v := .slice (a1) ((w1).length) (cap1)) rfl rfl (y_move rfl) ?_
          refine o_guard (j := 18) (d := 36) (b := false) rfl rfl rfl (fun _ => ?_) rfl (fun h => by cases h)
          refine o_y (v := .int .i64 (((cnt (w1) (w1).length : Nat) : Int))) rfl rfl (y_call (vs := [.slice (a1) ((w1).length) (cap1)]) b17 rfl (fun w hw => f17_counted (w1) _ _ _ _ _ w (by simp) ((SlG.old hs1 (fun _ h => h)) w hw))) ?_
          refine o_guard (j := 18) (d := 36) (b := false) rfl rfl rfl (fun _ => ?_) rfl (fun h => by cases h)
          refine o_y (v := .bool (decide (((cnt (w1) (w1).length : Nat) : Int) = 0))) rfl rfl (y_eql rfl rfl rfl) ?_
          refine o_y (v := .bool (decide (((cnt (w1) (w1).length : Nat) : Int) = 0))) rfl rfl (y_pick (b := false) rfl rfl) ?_
          refine o_nil ?_
          refine hK4 _ _ ?_
          refine c_cond (t := decide (((cnt (w1) (w1).length : Nat) : Int) = 0)) rfl (fun hc5 => ?_) (fun hc5 => ?_)
          ·
            replace hc5 := of_decide_eq_true hc5
            -- way FFFFT
            refine c_seq fun K5 hK5 => ?_
            refine c_region ?_
            refine o_y (v := .agg (#[.int .u8 (0), .slice none 0 0])) rfl rfl (y_build rfl (by first | kernel_rfl | simp [])) ?_
            refine o_storeS (H' := [(g1, .cells (#[.int .u8 (0), .slice none 0 0]) 25 (0, 0))]) 0 rfl rfl rfl s25 rfl (by simp [Value.oneCell']) rfl ?_
            refine o_y (v := .int .i64 (2)) rfl rfl (y_assign rfl) ?_
            refine o_nil ?_
            refine hK5 _ _ ?_
            refine c_ret ?_
            refine fun w hw => ⟨[.agg (#[.int .u8 (0), .slice none 0 0]), .int .i64 (2)], ⟨⟨_, rfl, loadS Try.underlying25 rfl s25 ((Rd.whole (k := 0) rfl) w hw)⟩, rfl, trivial⟩, ?_⟩
            have hq := plan_bad (p := p) (show bad w1 w2 lost by unfold bad; omega)
            simp only [planW, planR, planE, hq]
            exact ⟨_, List.nil_sublist _, none, 0, 0, rfl, .none'⟩
            first | done | rfl
          ·
            replace hc5 := of_decide_eq_false hc5
            -- way FFFFF
            refine c_skip ?_
            refine hK3 _ _ ?_
            refine c_seq fun K6 hK6 => ?_
            refine c_seq fun K7 hK7 => ?_
            refine c_region ?_
            refine o_y (v := .int .i64 (lost)) rfl rfl (y_move rfl) ?_
            refine o_y (v := .int .i64 ((((w1).length : Nat) : Int))) rfl rfl (y_move rfl) ?_
            refine o_y (v := .bool (decide (lost = (((w1).length : Nat) : Int)))) rfl rfl (y_eql rfl rfl rfl) ?_
            refine o_nil ?_
            refine hK7 _ _ ?_
            refine c_cond (t := decide (lost = (((w1).length : Nat) : Int))) rfl (fun hc6 => ?_) (fun hc6 => ?_)
            ·
              replace hc6 := of_decide_eq_true hc6
              -- way FFFFFT
              refine c_seq fun K8 hK8 => ?_
              refine c_region ?_
              refine o_y (v := .agg (#[.int .u8 (1), .slice none 0 0])) rfl rfl (y_build rfl (by first | kernel_rfl | simp [])) ?_
              refine o_storeS (H' := [(g1, .cells (#[.int .u8 (1), .slice none 0 0]) 25 (0, 0))]) 0 rfl rfl rfl s25 rfl (by simp [Value.oneCell']) rfl ?_
              refine o_y (v := .int .i64 (0)) rfl rfl (y_assign rfl) ?_
              refine o_nil ?_
              refine hK8 _ _ ?_
              refine c_ret ?_
              refine fun w hw => ⟨[.agg (#[.int .u8 (1), .slice none 0 0]), .int .i64 (0)], ⟨⟨_, rfl, loadS Try.underlying25 rfl s25 ((Rd.whole (k := 0) rfl) w hw)⟩, rfl, trivial⟩, ?_⟩
              have hq := plan_none (p := p) (show ¬ bad w1 w2 lost by unfold bad; omega) (by omega)
              simp only [planW, planR, planE, hq]
              exact ⟨_, List.nil_sublist _, none, 0, 0, rfl, .none'⟩
              first | done | rfl
            ·
              replace hc6 := of_decide_eq_false hc6
              -- way FFFFFF
              refine c_skip ?_
              refine hK6 _ _ ?_
              refine c_seq fun K9 hK9 => ?_
              refine c_seq fun K10 hK10 => ?_
              refine c_region ?_
              refine o_y (v := .slice (a1) ((w1).length) (cap1)) rfl rfl (y_move rfl) ?_
              refine o_y (v := .int .i64 (((cnt (w1) (w1).length : Nat) : Int))) rfl rfl (y_call (vs := [.slice (a1) ((w1).length) (cap1)]) b17 rfl (fun w hw => f17_counted (w1) _ _ _ _ _ w (by simp) ((SlG.old hs1 (fun _ h => h)) w hw))) ?_
              refine o_y (v := .int .i64 ((((w1).length : Nat) : Int))) rfl rfl (y_move rfl) ?_
              refine o_y (v := .bool (decide (((cnt (w1) (w1).length : Nat) : Int) = (((w1).length : Nat) : Int)))) rfl rfl (y_eql rfl rfl rfl) ?_
              refine o_nil ?_
              refine hK10 _ _ ?_
              refine c_cond (t := decide (((cnt (w1) (w1).length : Nat) : Int) = (((w1).length : Nat) : Int))) rfl (fun hc7 => ?_) (fun hc7 => ?_)
              ·
                replace hc7 := of_decide_eq_true hc7
                -- way FFFFFFT
                refine c_seq fun K11 hK11 => ?_
                refine c_region ?_
                refine o_y (v := .agg (#[.int .u8 (2), .slice none 0 0])) rfl rfl (y_build rfl (by first | kernel_rfl | simp [])) ?_
                refine o_storeS (H' := [(g1, .cells (#[.int .u8 (2), .slice none 0 0]) 25 (0, 0))]) 0 rfl rfl rfl s25 rfl (by simp [Value.oneCell']) rfl ?_
                refine o_y (v := .int .i64 (0)) rfl rfl (y_assign rfl) ?_
                refine o_nil ?_
                refine hK11 _ _ ?_
                refine c_ret ?_
                refine fun w hw => ⟨[.agg (#[.int .u8 (2), .slice none 0 0]), .int .i64 (0)], ⟨⟨_, rfl, loadS Try.underlying25 rfl s25 ((Rd.whole (k := 0) rfl) w hw)⟩, rfl, trivial⟩, ?_⟩
                have hq := plan_full (p := p) (show ¬ bad w1 w2 lost by unfold bad; omega) (by omega) (by omega)
                simp only [planW, planR, planE, hq]
                exact ⟨_, List.nil_sublist _, none, 0, 0, rfl, .none'⟩
                first | done | rfl
              ·
                replace hc7 := of_decide_eq_false hc7
                -- way FFFFFFF
                refine c_skip ?_
                refine hK9 _ _ ?_
                refine c_seq fun K12 hK12 => ?_
                refine c_region ?_
                refine o_y (v := .slice (a1) ((w1).length) (cap1)) rfl rfl (y_move rfl) ?_
                refine o_y (v := .slice (a2) ((w2).length) (cap2)) rfl rfl (y_move rfl) ?_
                refine o_y (v := .int .i64 (lost)) rfl rfl (y_move rfl) ?_
                refine o_y (v := .agg (#[.slice (a1) ((w1).length) (cap1), .slice (a2) ((w2).length) (cap2), .int .i64 (lost)])) rfl rfl (y_build rfl (by first | kernel_rfl | simp [])) ?_
                refine o_alloc (z := .agg (#[.slice none 0 0, .slice none 0 0, .int .i64 (0)])) rfl z46 fun g2 => ?_
                refine o_storeS (H' := [(g2, .cells (#[.slice (a1) ((w1).length) (cap1), .slice (a2) ((w2).length) (cap2), .int .i64 (lost)]) 46 (0, 0)), (g1, .cells (#[.int .u8 (0), .slice none 0 0]) 25 (0, 0))]) 0 rfl rfl rfl s46 rfl (by simp [Value.oneCell']) rfl ?_
                refine o_nil ?_
                refine hK12 _ _ ?_
                refine c_seq fun K13 hK13 => ?_
                refine c_region ?_
                refine o_y (v := .agg (#[.slice (a1) ((w1).length) (cap1), .slice (a2) ((w2).length) (cap2), .int .i64 (lost)])) rfl rfl (y_loadS rfl Try.underlying46 rfl s46 (Rd.whole (k := 0) rfl)) ?_
                refine o_callV (fun Hy => [(g2, .cells (#[.slice (a1) ((w1).length) (cap1), .slice (a2) ((w2).length) (cap2), .int .i64 (lost)]) 46 (0, 0)), (g1, .cells (#[.int .u8 (0), .slice none 0 0]) 25 (0, 0))] ++ (Hy)) (fun Hy => by have h := List.perm_append_comm (l₁ := ([(g2, .cells (#[.slice (a1) ((w1).length) (cap1), .slice (a2) ((w2).length) (cap2), .int .i64 (lost)]) 46 (0, 0)), (g1, .cells (#[.int .u8 (0), .slice none 0 0]) 25 (0, 0))] : Hp)) (l₂ := Hy); first | exact h | simpa [Value.cells] using h) (vs := [.agg (#[.slice (a1) ((w1).length) (cap1), .slice (a2) ((w2).length) (cap2), .int .i64 (lost)])]) b18 rfl rfl (fun w hw => f18_rest (w1) (w2) _ _ _ _ _ _ _ _ _ _ (lost) w (by omega) (by omega) (by omega) (by omega) (by first | rfl | (simp; done) | (simp; omega)) ((SlG.old hs1 (fun _ h => h)) w hw) (by first | rfl | (simp; done) | (simp; omega)) ((SlG.old hs2 (fun _ h => h)) w hw)) ?_
                rintro _ Hp3 ⟨ap3, gp3, capp3, rfl, hvp3⟩
                have hxp3 := rds_le (w1) (w2) false (lost)
                have hzp3 := hvp3.le
                have hyp3 := hvp3.mx
                simp only [maxLen] at hyp3
                refine o_y (v := .tuple #[.slice (ap3) ((rdsL (w1) (w2) false (lost)).length) (capp3), .bool (rdsB (w1) (w2) false (lost))]) rfl rfl (y_move rfl) ?_
                refine o_y (v := .slice (ap3) ((rdsL (w1) (w2) false (lost)).length) (capp3)) rfl rfl (y_extract (vs := #[.slice (ap3) ((rdsL (w1) (w2) false (lost)).length) (capp3), .bool (rdsB (w1) (w2) false (lost))]) rfl rfl) ?_
                refine o_y (v := .bool (rdsB (w1) (w2) false (lost))) rfl rfl (y_extract (vs := #[.slice (ap3) ((rdsL (w1) (w2) false (lost)).length) (capp3), .bool (rdsB (w1) (w2) false (lost))]) rfl rfl) ?_
                refine o_y (v := .slice (ap3) ((rdsL (w1) (w2) false (lost)).length) (capp3)) rfl rfl (y_assign rfl) ?_
                refine o_y (v := .bool (rdsB (w1) (w2) false (lost))) rfl rfl (y_assign rfl) ?_
                refine o_nil ?_
                refine hK13 _ _ ?_
                refine c_seq fun K14 hK14 => ?_
                refine c_region ?_
                refine o_y (v := .agg (#[.slice (a1) ((w1).length) (cap1), .slice (a2) ((w2).length) (cap2), .int .i64 (lost)])) rfl rfl (y_loadS rfl Try.underlying46 rfl s46 (Rd.whole (k := 0) rfl)) ?_
                refine o_y (v := .bool (p)) rfl rfl (y_move rfl) ?_
                refine o_callV (fun Hy => [(g2, .cells (#[.slice (a1) ((w1).length) (cap1), .slice (a2) ((w2).length) (cap2), .int .i64 (lost)]) 46 (0, 0)), (g1, .cells (#[.int .u8 (0), .slice none 0 0]) 25 (0, 0))] ++ (Hp3 ++ Hy)) (fun Hy => by have h := List.perm_append_comm (l₁ := ([(g2, .cells (#[.slice (a1) ((w1).length) (cap1), .slice (a2) ((w2).length) (cap2), .int .i64 (lost)]) 46 (0, 0)), (g1, .cells (#[.int .u8 (0), .slice none 0 0]) 25 (0, 0))] ++ (Hp3) : Hp)) (l₂ := Hy); first | exact h | simpa [Value.cells] using h) (vs := [.agg (#[.slice (a1) ((w1).length) (cap1), .slice (a2) ((w2).length) (cap2), .int .i64 (lost)]), .bool (p)]) b19 rfl rfl (fun w hw => f19_delta (w1) (w2) _ _ _ _ _ _ _ _ _ _ (p) (lost) w (by omega) (by omega) (by omega) (by omega) (by first | rfl | (simp; done) | (simp; omega)) ((SlG.old hs1 (fun _ h => h)) w hw) (by first | rfl | (simp; done) | (simp; omega)) ((SlG.old hs2 (fun _ h => h)) w hw)) ?_
                rintro _ Hp4 ⟨ap4, gp4, capp4, rfl, hvp4⟩
                have hxp4 := dlt_le (w1) (w2) (p) (lost)
                have hzp4 := hvp4.le
                have hyp4 := hvp4.mx
                simp only [maxLen] at hyp4
                refine o_y (v := .tuple #[.slice (ap4) ((dltL (w1) (w2) (p) (lost)).length) (capp4), .bool (rdsB (w1) (w2) true (lost))]) rfl rfl (y_move rfl) ?_
                refine o_y (v := .slice (ap4) ((dltL (w1) (w2) (p) (lost)).length) (capp4)) rfl rfl (y_extract (vs := #[.slice (ap4) ((dltL (w1) (w2) (p) (lost)).length) (capp4), .bool (rdsB (w1) (w2) true (lost))]) rfl rfl) ?_
                refine o_y (v := .bool (rdsB (w1) (w2) true (lost))) rfl rfl (y_extract (vs := #[.slice (ap4) ((dltL (w1) (w2) (p) (lost)).length) (capp4), .bool (rdsB (w1) (w2) true (lost))]) rfl rfl) ?_
                refine o_y (v := .slice (ap4) ((dltL (w1) (w2) (p) (lost)).length) (capp4)) rfl rfl (y_assign rfl) ?_
                refine o_y (v := .bool (rdsB (w1) (w2) true (lost))) rfl rfl (y_assign rfl) ?_
                refine o_nil ?_
                refine hK14 _ _ ?_
                refine c_seq fun K15 hK15 => ?_
                refine c_seq fun K16 hK16 => ?_
                refine c_region ?_
                refine o_y (v := .bool (rdsB (w1) (w2) false (lost))) rfl rfl (y_move rfl) ?_
                refine o_y (v := .bool (rdsB (w1) (w2) false (lost))) rfl rfl (y_move rfl) ?_
                cases hc8 : (rdsB (w1) (w2) false (lost) : Bool)
                ·
                  -- way FFFFFFFF
                  refine o_guard (j := 1) (d := 67) (b := false) rfl rfl rfl (fun h => by cases h) rfl (fun _ => ?_)
                  refine o_guard (j := 1) (d := 67) (b := false) rfl rfl rfl (fun h => by cases h) rfl (fun _ => ?_)
                  refine o_guard (j := 1) (d := 67) (b := false) rfl rfl rfl (fun h => by cases h) rfl (fun _ => ?_)
                  refine o_guardU (j := 4) (d := 70) rfl rfl rfl rfl ?_
                  refine o_guardU (j := 4) (d := 70) rfl rfl rfl rfl ?_
                  refine o_guardU (j := 4) (d := 70) rfl rfl rfl rfl ?_
                  refine o_guardU (j := 4) (d := 70) rfl rfl rfl rfl ?_
                  refine o_guardU (j := 4) (d := 70) rfl rfl rfl rfl ?_
                  refine o_guard (j := 1) (d := 67) (b := false) rfl rfl rfl (fun h => by cases h) rfl (fun _ => ?_)
                  refine o_y (v := .bool (false)) rfl rfl (y_pick (b := false) rfl rfl) ?_
                  refine o_nil ?_
                  refine hK16 _ _ ?_
                  refine c_cond (t := false) rfl (fun h => by cases h) (fun _ => ?_)
                  refine c_skip ?_
                  refine hK15 _ _ ?_
                  refine c_seq fun K17 hK17 => ?_
                  refine c_region ?_
                  refine o_y (v := .slice (ap4) ((dltL (w1) (w2) (p) (lost)).length) (capp4)) rfl rfl (y_move rfl) ?_
                  refine o_y (v := .agg (#[.int .u8 (4), .slice (ap4) ((dltL (w1) (w2) (p) (lost)).length) (capp4)])) rfl rfl (y_build rfl (by first | kernel_rfl | simp [])) ?_
                  refine o_storeS (H' := [(g2, .cells (#[.slice (a1) ((w1).length) (cap1), .slice (a2) ((w2).length) (cap2), .int .i64 (lost)]) 46 (0, 0)), (g1, .cells (#[.int .u8 (4), .slice (ap4) ((dltL (w1) (w2) (p) (lost)).length) (capp4)]) 25 (0, 0))] ++ (Hp3 ++ Hp4)) 1 rfl rfl rfl s25 rfl (by simp [Value.oneCell']) rfl ?_
                  refine o_y (v := .int .i64 (0)) rfl rfl (y_assign rfl) ?_
                  refine o_nil ?_
                  refine hK17 _ _ ?_
                  refine c_ret ?_
                  refine fun w hw => ⟨[.agg (#[.int .u8 (4), .slice (ap4) ((dltL (w1) (w2) (p) (lost)).length) (capp4)]), .int .i64 (0)], ⟨⟨_, rfl, loadS Try.underlying25 rfl s25 ((Rd.whole (k := 1) rfl) w hw)⟩, rfl, trivial⟩, ?_⟩
                  have hu : ¬ useRest w1 w2 p lost := by
                    rintro ⟨hA, hB | hB⟩ <;> first | omega | exact tf hA (by assumption) | exact tf (by assumption) hB
                  have hq := plan_delta (p := p) (show ¬ bad w1 w2 lost by unfold bad; omega) (by omega) (by omega) hu
                  simp only [planW, planR, planE, hq]
                  exact ⟨Hp4, (((List.Sublist.trans (List.Sublist.refl _) (List.sublist_append_right _ _)).cons _).cons _), _, _, _, rfl, hvp4⟩
                  first | done | rfl
                ·
                  -- way FFFFFFFT
                  refine o_guard (j := 1) (d := 67) (b := true) rfl rfl rfl (fun _ => ?_) rfl (fun h => by cases h)
                  refine o_y (v := .bool (rdsB (w1) (w2) true (lost))) rfl rfl (y_move rfl) ?_
                  refine o_guard (j := 1) (d := 67) (b := true) rfl rfl rfl (fun _ => ?_) rfl (fun h => by cases h)
                  refine o_y (v := .bool (!(rdsB (w1) (w2) true (lost)))) rfl rfl (y_not rfl rfl) ?_
                  refine o_guard (j := 1) (d := 67) (b := true) rfl rfl rfl (fun _ => ?_) rfl (fun h => by cases h)
                  refine o_y (v := .bool (!(rdsB (w1) (w2) true (lost)))) rfl rfl (y_move rfl) ?_
                  cases hc9 : (!(rdsB (w1) (w2) true (lost)) : Bool)
                  ·
                    try have hc9' : (rdsB (w1) (w2) true (lost)) = true := by simpa using hc9
                    -- way FFFFFFFTF
                    refine o_guard (j := 4) (d := 70) (b := false) rfl rfl rfl (fun _ => ?_) rfl (fun h => by cases h)
                    refine o_y (v := .slice (ap3) ((rdsL (w1) (w2) false (lost)).length) (capp3)) rfl rfl (y_move rfl) ?_
                    refine o_guard (j := 4) (d := 70) (b := false) rfl rfl rfl (fun _ => ?_) rfl (fun h => by cases h)
                    refine o_y (v := .int .i64 ((((rdsL (w1) (w2) false (lost)).length : Nat) : Int))) rfl rfl (y_len rfl Try.underlying23) ?_
                    refine o_guard (j := 4) (d := 70) (b := false) rfl rfl rfl (fun _ => ?_) rfl (fun h => by cases h)
                    refine o_y (v := .slice (ap4) ((dltL (w1) (w2) (p) (lost)).length) (capp4)) rfl rfl (y_move rfl) ?_
                    refine o_guard (j := 4) (d := 70) (b := false) rfl rfl rfl (fun _ => ?_) rfl (fun h => by cases h)
                    refine o_y (v := .int .i64 ((((dltL (w1) (w2) (p) (lost)).length : Nat) : Int))) rfl rfl (y_len rfl Try.underlying23) ?_
                    refine o_guard (j := 4) (d := 70) (b := false) rfl rfl rfl (fun _ => ?_) rfl (fun h => by cases h)
                    refine o_y (v := .bool (decide ((((rdsL (w1) (w2) false (lost)).length : Nat) : Int) ≤ (((dltL (w1) (w2) (p) (lost)).length : Nat) : Int)))) rfl rfl (y_leq rfl rfl rfl) ?_
                    refine o_guard (j := 1) (d := 67) (b := true) rfl rfl rfl (fun _ => ?_) rfl (fun h => by cases h)
                    refine o_y (v := .bool (decide ((((rdsL (w1) (w2) false (lost)).length : Nat) : Int) ≤ (((dltL (w1) (w2) (p) (lost)).length : Nat) : Int)))) rfl rfl (y_pick (b := false) rfl rfl) ?_
                    refine o_y (v := .bool (decide ((((rdsL (w1) (w2) false (lost)).length : Nat) : Int) ≤ (((dltL (w1) (w2) (p) (lost)).length : Nat) : Int)))) rfl rfl (y_pick (b := true) rfl rfl) ?_
                    refine o_nil ?_
                    refine hK16 _ _ ?_
                    refine c_cond (t := decide ((((rdsL (w1) (w2) false (lost)).length : Nat) : Int) ≤ (((dltL (w1) (w2) (p) (lost)).length : Nat) : Int))) rfl (fun hc10 => ?_) (fun hc10 => ?_)
                    ·
                      replace hc10 := of_decide_eq_true hc10
                      -- way FFFFFFFTFT
                      refine c_seq fun K18 hK18 => ?_
                      refine c_region ?_
                      refine o_y (v := .slice (ap3) ((rdsL (w1) (w2) false (lost)).length) (capp3)) rfl rfl (y_move rfl) ?_
                      refine o_y (v := .agg (#[.int .u8 (3), .slice (ap3) ((rdsL (w1) (w2) false (lost)).length) (capp3)])) rfl rfl (y_build rfl (by first | kernel_rfl | simp [])) ?_
                      refine o_storeS (H' := [(g2, .cells (#[.slice (a1) ((w1).length) (cap1), .slice (a2) ((w2).length) (cap2), .int .i64 (lost)]) 46 (0, 0)), (g1, .cells (#[.int .u8 (3), .slice (ap3) ((rdsL (w1) (w2) false (lost)).length) (capp3)]) 25 (0, 0))] ++ (Hp3 ++ Hp4)) 1 rfl rfl rfl s25 rfl (by simp [Value.oneCell']) rfl ?_
                      refine o_y (v := .int .i64 (0)) rfl rfl (y_assign rfl) ?_
                      refine o_nil ?_
                      refine hK18 _ _ ?_
                      refine c_ret ?_
                      refine fun w hw => ⟨[.agg (#[.int .u8 (3), .slice (ap3) ((rdsL (w1) (w2) false (lost)).length) (capp3)]), .int .i64 (0)], ⟨⟨_, rfl, loadS Try.underlying25 rfl s25 ((Rd.whole (k := 1) rfl) w hw)⟩, rfl, trivial⟩, ?_⟩
                      have hu : useRest w1 w2 p lost := ⟨by first | assumption | exact rdsB_one (by assumption), by first | exact .inl (by assumption) | exact .inr (by omega) | exact .inr (by have hD : rdsL w1 w2 true lost = dltL w1 w2 p lost := dltL_pB (by assumption) (by assumption); rw [← hD]; omega)⟩
                      have hq := plan_rest (p := p) (show ¬ bad w1 w2 lost by unfold bad; omega) (by omega) (by omega) hu
                      simp only [planW, planR, planE, hq]
                      exact ⟨Hp3, (((List.sublist_append_left _ _).cons _).cons _), _, _, _, rfl, hvp3⟩
                      first | done | rfl
                    ·
                      replace hc10 := of_decide_eq_false hc10
                      -- way FFFFFFFTFF
                      refine c_skip ?_
                      refine hK15 _ _ ?_
                      refine c_seq fun K19 hK19 => ?_
                      refine c_region ?_
                      refine o_y (v := .slice (ap4) ((dltL (w1) (w2) (p) (lost)).length) (capp4)) rfl rfl (y_move rfl) ?_
                      refine o_y (v := .agg (#[.int .u8 (4), .slice (ap4) ((dltL (w1) (w2) (p) (lost)).length) (capp4)])) rfl rfl (y_build rfl (by first | kernel_rfl | simp [])) ?_
                      refine o_storeS (H' := [(g2, .cells (#[.slice (a1) ((w1).length) (cap1), .slice (a2) ((w2).length) (cap2), .int .i64 (lost)]) 46 (0, 0)), (g1, .cells (#[.int .u8 (4), .slice (ap4) ((dltL (w1) (w2) (p) (lost)).length) (capp4)]) 25 (0, 0))] ++ (Hp3 ++ Hp4)) 1 rfl rfl rfl s25 rfl (by simp [Value.oneCell']) rfl ?_
                      refine o_y (v := .int .i64 (0)) rfl rfl (y_assign rfl) ?_
                      refine o_nil ?_
                      refine hK19 _ _ ?_
                      refine c_ret ?_
                      refine fun w hw => ⟨[.agg (#[.int .u8 (4), .slice (ap4) ((dltL (w1) (w2) (p) (lost)).length) (capp4)]), .int .i64 (0)], ⟨⟨_, rfl, loadS Try.underlying25 rfl s25 ((Rd.whole (k := 1) rfl) w hw)⟩, rfl, trivial⟩, ?_⟩
                      have hu : ¬ useRest w1 w2 p lost := by
                        rintro ⟨hA, hB | hB⟩ <;> first | omega | exact tf hA (by assumption) | exact tf (by assumption) hB
                      have hq := plan_delta (p := p) (show ¬ bad w1 w2 lost by unfold bad; omega) (by omega) (by omega) hu
                      simp only [planW, planR, planE, hq]
                      exact ⟨Hp4, (((List.Sublist.trans (List.Sublist.refl _) (List.sublist_append_right _ _)).cons _).cons _), _, _, _, rfl, hvp4⟩
                      first | done | rfl
                  ·
                    try have hc9' : (rdsB (w1) (w2) true (lost)) = false := by simpa using hc9
                    -- way FFFFFFFTT
                    refine o_guard (j := 4) (d := 70) (b := true) rfl rfl rfl (fun h => by cases h) rfl (fun _ => ?_)
                    refine o_guard (j := 4) (d := 70) (b := true) rfl rfl rfl (fun h => by cases h) rfl (fun _ => ?_)
                    refine o_guard (j := 4) (d := 70) (b := true) rfl rfl rfl (fun h => by cases h) rfl (fun _ => ?_)
                    refine o_guard (j := 4) (d := 70) (b := true) rfl rfl rfl (fun h => by cases h) rfl (fun _ => ?_)
                    refine o_guard (j := 4) (d := 70) (b := true) rfl rfl rfl (fun h => by cases h) rfl (fun _ => ?_)
                    refine o_guard (j := 1) (d := 67) (b := true) rfl rfl rfl (fun _ => ?_) rfl (fun h => by cases h)
                    refine o_y (v := .bool (true)) rfl rfl (y_pick (b := true) rfl rfl) ?_
                    refine o_y (v := .bool (true)) rfl rfl (y_pick (b := true) rfl rfl) ?_
                    refine o_nil ?_
                    refine hK16 _ _ ?_
                    refine c_cond (t := true) rfl (fun _ => ?_) (fun h => by cases h)
                    refine c_seq fun K20 hK20 => ?_
                    refine c_region ?_
                    refine o_y (v := .slice (ap3) ((rdsL (w1) (w2) false (lost)).length) (capp3)) rfl rfl (y_move rfl) ?_
                    refine o_y (v := .agg (#[.int .u8 (3), .slice (ap3) ((rdsL (w1) (w2) false (lost)).length) (capp3)])) rfl rfl (y_build rfl (by first | kernel_rfl | simp [])) ?_
                    refine o_storeS (H' := [(g2, .cells (#[.slice (a1) ((w1).length) (cap1), .slice (a2) ((w2).length) (cap2), .int .i64 (lost)]) 46 (0, 0)), (g1, .cells (#[.int .u8 (3), .slice (ap3) ((rdsL (w1) (w2) false (lost)).length) (capp3)]) 25 (0, 0))] ++ (Hp3 ++ Hp4)) 1 rfl rfl rfl s25 rfl (by simp [Value.oneCell']) rfl ?_
                    refine o_y (v := .int .i64 (0)) rfl rfl (y_assign rfl) ?_
                    refine o_nil ?_
                    refine hK20 _ _ ?_
                    refine c_ret ?_
                    refine fun w hw => ⟨[.agg (#[.int .u8 (3), .slice (ap3) ((rdsL (w1) (w2) false (lost)).length) (capp3)]), .int .i64 (0)], ⟨⟨_, rfl, loadS Try.underlying25 rfl s25 ((Rd.whole (k := 1) rfl) w hw)⟩, rfl, trivial⟩, ?_⟩
                    have hu : useRest w1 w2 p lost := ⟨by first | assumption | exact rdsB_one (by assumption), by first | exact .inl (by assumption) | exact .inr (by omega) | exact .inr (by have hD : rdsL w1 w2 true lost = dltL w1 w2 p lost := dltL_pB (by assumption) (by assumption); rw [← hD]; omega)⟩
                    have hq := plan_rest (p := p) (show ¬ bad w1 w2 lost by unfold bad; omega) (by omega) (by omega) hu
                    simp only [planW, planR, planE, hq]
                    exact ⟨Hp3, (((List.sublist_append_left _ _).cons _).cons _), _, _, _, rfl, hvp3⟩
                    first | done | rfl
        ·
          have hc4' := of_decide_eq_true hc4
          -- way FFFT
          refine o_guard (j := 18) (d := 36) (b := true) rfl rfl rfl (fun h => by cases h) rfl (fun _ => ?_)
          refine o_guard (j := 18) (d := 36) (b := true) rfl rfl rfl (fun h => by cases h) rfl (fun _ => ?_)
          refine o_guard (j := 18) (d := 36) (b := true) rfl rfl rfl (fun h => by cases h) rfl (fun _ => ?_)
          refine o_y (v := .bool (true)) rfl rfl (y_pick (b := true) rfl rfl) ?_
          refine o_nil ?_
          refine hK4 _ _ ?_
          refine c_cond (t := true) rfl (fun _ => ?_) (fun h => by cases h)
          refine c_seq fun K21 hK21 => ?_
          refine c_region ?_
          refine o_y (v := .agg (#[.int .u8 (0), .slice none 0 0])) rfl rfl (y_build rfl (by first | kernel_rfl | simp [])) ?_
          refine o_storeS (H' := [(g1, .cells (#[.int .u8 (0), .slice none 0 0]) 25 (0, 0))]) 0 rfl rfl rfl s25 rfl (by simp [Value.oneCell']) rfl ?_
          refine o_y (v := .int .i64 (2)) rfl rfl (y_assign rfl) ?_
          refine o_nil ?_
          refine hK21 _ _ ?_
          refine c_ret ?_
          refine fun w hw => ⟨[.agg (#[.int .u8 (0), .slice none 0 0]), .int .i64 (2)], ⟨⟨_, rfl, loadS Try.underlying25 rfl s25 ((Rd.whole (k := 0) rfl) w hw)⟩, rfl, trivial⟩, ?_⟩
          have hq := plan_bad (p := p) (show bad w1 w2 lost by unfold bad; omega)
          simp only [planW, planR, planE, hq]
          exact ⟨_, List.nil_sublist _, none, 0, 0, rfl, .none'⟩
          first | done | rfl
      ·
        have hc3' := of_decide_eq_true hc3
        -- way FFT
        refine o_guard (j := 13) (d := 31) (b := true) rfl rfl rfl (fun h => by cases h) rfl (fun _ => ?_)
        refine o_guard (j := 13) (d := 31) (b := true) rfl rfl rfl (fun h => by cases h) rfl (fun _ => ?_)
        refine o_guard (j := 13) (d := 31) (b := true) rfl rfl rfl (fun h => by cases h) rfl (fun _ => ?_)
        refine o_y (v := .bool (true)) rfl rfl (y_pick (b := true) rfl rfl) ?_
        refine o_y (v := .bool (true)) rfl rfl (y_move rfl) ?_
        refine o_guard (j := 18) (d := 36) (b := true) rfl rfl rfl (fun h => by cases h) rfl (fun _ => ?_)
        refine o_guard (j := 18) (d := 36) (b := true) rfl rfl rfl (fun h => by cases h) rfl (fun _ => ?_)
        refine o_guard (j := 18) (d := 36) (b := true) rfl rfl rfl (fun h => by cases h) rfl (fun _ => ?_)
        refine o_y (v := .bool (true)) rfl rfl (y_pick (b := true) rfl rfl) ?_
        refine o_nil ?_
        refine hK4 _ _ ?_
        refine c_cond (t := true) rfl (fun _ => ?_) (fun h => by cases h)
        refine c_seq fun K22 hK22 => ?_
        refine c_region ?_
        refine o_y (v := .agg (#[.int .u8 (0), .slice none 0 0])) rfl rfl (y_build rfl (by first | kernel_rfl | simp [])) ?_
        refine o_storeS (H' := [(g1, .cells (#[.int .u8 (0), .slice none 0 0]) 25 (0, 0))]) 0 rfl rfl rfl s25 rfl (by simp [Value.oneCell']) rfl ?_
        refine o_y (v := .int .i64 (2)) rfl rfl (y_assign rfl) ?_
        refine o_nil ?_
        refine hK22 _ _ ?_
        refine c_ret ?_
        refine fun w hw => ⟨[.agg (#[.int .u8 (0), .slice none 0 0]), .int .i64 (2)], ⟨⟨_, rfl, loadS Try.underlying25 rfl s25 ((Rd.whole (k := 0) rfl) w hw)⟩, rfl, trivial⟩, ?_⟩
        have hq := plan_bad (p := p) (show bad w1 w2 lost by unfold bad; omega)
        simp only [planW, planR, planE, hq]
        exact ⟨_, List.nil_sublist _, none, 0, 0, rfl, .none'⟩
        first | done | rfl
    ·
      have hc2' := of_decide_eq_true hc2
      -- way FT
      refine o_guard (j := 9) (d := 27) (b := true) rfl rfl rfl (fun h => by cases h) rfl (fun _ => ?_)
      refine o_guard (j := 9) (d := 27) (b := true) rfl rfl rfl (fun h => by cases h) rfl (fun _ => ?_)
      refine o_y (v := .bool (true)) rfl rfl (y_pick (b := true) rfl rfl) ?_
      refine o_y (v := .bool (true)) rfl rfl (y_move rfl) ?_
      refine o_guard (j := 13) (d := 31) (b := true) rfl rfl rfl (fun h => by cases h) rfl (fun _ => ?_)
      refine o_guard (j := 13) (d := 31) (b := true) rfl rfl rfl (fun h => by cases h) rfl (fun _ => ?_)
      refine o_guard (j := 13) (d := 31) (b := true) rfl rfl rfl (fun h => by cases h) rfl (fun _ => ?_)
      refine o_y (v := .bool (true)) rfl rfl (y_pick (b := true) rfl rfl) ?_
      refine o_y (v := .bool (true)) rfl rfl (y_move rfl) ?_
      refine o_guard (j := 18) (d := 36) (b := true) rfl rfl rfl (fun h => by cases h) rfl (fun _ => ?_)
      refine o_guard (j := 18) (d := 36) (b := true) rfl rfl rfl (fun h => by cases h) rfl (fun _ => ?_)
      refine o_guard (j := 18) (d := 36) (b := true) rfl rfl rfl (fun h => by cases h) rfl (fun _ => ?_)
      refine o_y (v := .bool (true)) rfl rfl (y_pick (b := true) rfl rfl) ?_
      refine o_nil ?_
      refine hK4 _ _ ?_
      refine c_cond (t := true) rfl (fun _ => ?_) (fun h => by cases h)
      refine c_seq fun K23 hK23 => ?_
      refine c_region ?_
      refine o_y (v := .agg (#[.int .u8 (0), .slice none 0 0])) rfl rfl (y_build rfl (by first | kernel_rfl | simp [])) ?_
      refine o_storeS (H' := [(g1, .cells (#[.int .u8 (0), .slice none 0 0]) 25 (0, 0))]) 0 rfl rfl rfl s25 rfl (by simp [Value.oneCell']) rfl ?_
      refine o_y (v := .int .i64 (2)) rfl rfl (y_assign rfl) ?_
      refine o_nil ?_
      refine hK23 _ _ ?_
      refine c_ret ?_
      refine fun w hw => ⟨[.agg (#[.int .u8 (0), .slice none 0 0]), .int .i64 (2)], ⟨⟨_, rfl, loadS Try.underlying25 rfl s25 ((Rd.whole (k := 0) rfl) w hw)⟩, rfl, trivial⟩, ?_⟩
      have hq := plan_bad (p := p) (show bad w1 w2 lost by unfold bad; omega)
      simp only [planW, planR, planE, hq]
      exact ⟨_, List.nil_sublist _, none, 0, 0, rfl, .none'⟩
      first | done | rfl
  ·
    have hc1' := hc1
    simp only [Bool.not_eq_true', Bool.not_eq_false', decide_eq_true_eq, decide_eq_false_iff_not] at hc1'
    -- way T
    refine o_guard (j := 3) (d := 21) (b := true) rfl rfl rfl (fun h => by cases h) rfl (fun _ => ?_)
    refine o_guard (j := 3) (d := 21) (b := true) rfl rfl rfl (fun h => by cases h) rfl (fun _ => ?_)
    refine o_guard (j := 3) (d := 21) (b := true) rfl rfl rfl (fun h => by cases h) rfl (fun _ => ?_)
    refine o_guard (j := 3) (d := 21) (b := true) rfl rfl rfl (fun h => by cases h) rfl (fun _ => ?_)
    refine o_y (v := .bool (true)) rfl rfl (y_pick (b := true) rfl rfl) ?_
    refine o_y (v := .bool (true)) rfl rfl (y_move rfl) ?_
    refine o_guard (j := 9) (d := 27) (b := true) rfl rfl rfl (fun h => by cases h) rfl (fun _ => ?_)
    refine o_guard (j := 9) (d := 27) (b := true) rfl rfl rfl (fun h => by cases h) rfl (fun _ => ?_)
    refine o_y (v := .bool (true)) rfl rfl (y_pick (b := true) rfl rfl) ?_
    refine o_y (v := .bool (true)) rfl rfl (y_move rfl) ?_
    refine o_guard (j := 13) (d := 31) (b := true) rfl rfl rfl (fun h => by cases h) rfl (fun _ => ?_)
    refine o_guard (j := 13) (d := 31) (b := true) rfl rfl rfl (fun h => by cases h) rfl (fun _ => ?_)
    refine o_guard (j := 13) (d := 31) (b := true) rfl rfl rfl (fun h => by cases h) rfl (fun _ => ?_)
    refine o_y (v := .bool (true)) rfl rfl (y_pick (b := true) rfl rfl) ?_
    refine o_y (v := .bool (true)) rfl rfl (y_move rfl) ?_
    refine o_guard (j := 18) (d := 36) (b := true) rfl rfl rfl (fun h => by cases h) rfl (fun _ => ?_)
    refine o_guard (j := 18) (d := 36) (b := true) rfl rfl rfl (fun h => by cases h) rfl (fun _ => ?_)
    refine o_guard (j := 18) (d := 36) (b := true) rfl rfl rfl (fun h => by cases h) rfl (fun _ => ?_)
    refine o_y (v := .bool (true)) rfl rfl (y_pick (b := true) rfl rfl) ?_
    refine o_nil ?_
    refine hK4 _ _ ?_
    refine c_cond (t := true) rfl (fun _ => ?_) (fun h => by cases h)
    refine c_seq fun K24 hK24 => ?_
    refine c_region ?_
    refine o_y (v := .agg (#[.int .u8 (0), .slice none 0 0])) rfl rfl (y_build rfl (by first | kernel_rfl | simp [])) ?_
    refine o_storeS (H' := [(g1, .cells (#[.int .u8 (0), .slice none 0 0]) 25 (0, 0))]) 0 rfl rfl rfl s25 rfl (by simp [Value.oneCell']) rfl ?_
    refine o_y (v := .int .i64 (2)) rfl rfl (y_assign rfl) ?_
    refine o_nil ?_
    refine hK24 _ _ ?_
    refine c_ret ?_
    refine fun w hw => ⟨[.agg (#[.int .u8 (0), .slice none 0 0]), .int .i64 (2)], ⟨⟨_, rfl, loadS Try.underlying25 rfl s25 ((Rd.whole (k := 0) rfl) w hw)⟩, rfl, trivial⟩, ?_⟩
    have hq := plan_bad (p := p) (show bad w1 w2 lost by unfold bad; omega)
    simp only [planW, planR, planE, hq]
    exact ⟨_, List.nil_sublist _, none, 0, 0, rfl, .none'⟩
    first | done | rfl

set_option maxRecDepth 100000 in
set_option maxHeartbeats 4000000 in
theorem f9_rOf (w1 w2 : List Bool) (a1 : Option Addr) (b1 o1 cap1 m1 : Nat) (a2 : Option Addr) (b2 o2 cap2 m2 : Nat) (p : Bool) (lost : Int) (w : World) (hl0 : -9223372036854775808 ≤ lost) (hl1 : lost ≤ 9223372036854775807) (hm1 : m1 = w1.length) (hs1 : Sl eBool w w1 a1 b1 o1 cap1) (hm2 : m2 = w2.length) (hs2 : Sl eBool w w2 a2 b2 o2 cap2) :
    Calls Try.prog 9 [.slice (a1) (m1) (cap1), .slice (a2) (m2) (cap2), .bool (p), .int .i64 (lost)].toArray w fun e w' => ∃ v H', e = .returned v ∧ St w (fun _ => False) H' w' ∧ (fun v H => ∃ a g cap, v = .tuple #[.agg #[.int .u8 (planW w1 w2 p lost), .slice a (planR w1 w2 p lost).length cap], .int .i64 (planE w1 w2 p lost)] ∧ OwnV eInt 3 (planR w1 w2 p lost) a g cap H) v H' := by
  subst hm1
  subst hm2
  have hle1 := hs1.le
  have hmx1 := hs1.mx
  have hle2 := hs2.le
  have hmx2 := hs2.mx
  simp only [maxLen] at hmx1 hmx2
  have hc15 := cnt_le w1 w1.length
  refine (calls_of (P := Try.prog) (n := 92) (w0 := w) (S := fun _ => False) (H := []) (T := fun v H => ∃ H', H'.Sublist H ∧ (fun v H => ∃ a g cap, v = .tuple #[.agg #[.int .u8 (planW w1 w2 p lost), .slice a (planR w1 w2 p lost).length cap], .int .i64 (planE w1 w2 p lost)] ∧ OwnV eInt 3 (planR w1 w2 p lost) a g cap H) v H') Try.func9 rfl Try.ntmps9 (Nat.le_of_ble_eq_true rfl) [.cell 8 25, .tmp 9] rfl (St.nil w _) ?_).mono fun e w' ⟨v, H', he, hs, H2, hsub, hT⟩ => ⟨v, H2, he, hs.drop hsub, hT⟩
  refine c_seq fun K1 hK1 => ?_
  refine c_region ?_
  refine o_alloc (z := .agg (#[.int .u8 (0), .slice none 0 0])) rfl z25 fun g1 => ?_
  refine o_y (v := .int .i64 (0)) rfl rfl (y_assign rfl) ?_
  refine o_nil ?_
  refine hK1 _ _ ?_
  refine c_seq fun K2 hK2 => ?_
  refine c_region ?_
  refine o_y (v := .slice (a1) ((w1).length) (cap1)) rfl rfl (y_move rfl) ?_
  refine o_y (v := .int .i64 ((((w1).length : Nat) : Int))) rfl rfl (y_len rfl Try.underlying22) ?_
  refine o_y (v := .int .i64 ((((w1).length : Nat) : Int))) rfl rfl (y_assign rfl) ?_
  refine o_nil ?_
  refine hK2 _ _ ?_
  refine c_seq fun K3 hK3 => ?_
  refine c_seq fun K4 hK4 => ?_
  refine c_region ?_
  refine o_y (v := .int .i64 ((((w1).length : Nat) : Int))) rfl rfl (y_move rfl) ?_
  refine o_y (v := .bool (decide ((((w1).length : Nat) : Int) < 2))) rfl rfl (y_lss rfl rfl rfl) ?_
  refine o_y (v := .bool (decide ((((w1).length : Nat) : Int) < 2))) rfl rfl (y_move rfl) ?_
  cases hc1 : (decide ((((w1).length : Nat) : Int) < 2) : Bool)
  ·
    have hc1' := of_decide_eq_false hc1
    -- way F
    refine o_guard (j := 2) (d := 19) (b := false) rfl rfl rfl (fun _ => ?_) rfl (fun h => by cases h)
    refine o_y (v := .int .i64 ((((w1).length : Nat) : Int))) rfl rfl (y_move rfl) ?_
    refine o_guard (j := 2) (d := 19) (b := false) rfl rfl rfl (fun _ => ?_) rfl (fun h => by cases h)
    refine o_y (v := .bool (decide (15 < (((w1).length : Nat) : Int)))) rfl rfl (y_gtr rfl rfl rfl) ?_
    refine o_y (v := .bool (decide (15 < (((w1).length : Nat) : Int)))) rfl rfl (y_pick (b := false) rfl rfl) ?_
    refine o_y (v := .bool (decide (15 < (((w1).length : Nat) : Int)))) rfl rfl (y_move rfl) ?_
    cases hc2 : (decide (15 < (((w1).length : Nat) : Int)) : Bool)
    ·
      have hc2' := of_decide_eq_false hc2
      -- way FF
      refine o_guard (j := 6) (d := 23) (b := false) rfl rfl rfl (fun _ => ?_) rfl (fun h => by cases h)
      refine o_y (v := .slice (a2) ((w2).length) (cap2)) rfl rfl (y_move rfl) ?_
      refine o_guard (j := 6) (d := 23) (b := false) rfl rfl rfl (fun _ => ?_) rfl (fun h => by cases h)
      refine o_y (v := .int .i64 ((((w2).length : Nat) : Int))) rfl rfl (y_len rfl Try.underlying22) ?_
      refine o_guard (j := 6) (d := 23) (b := false) rfl rfl rfl (fun _ => ?_) rfl (fun h => by cases h)
      refine o_y (v := .int .i64 ((((w1).length : Nat) : Int))) rfl rfl (y_move rfl) ?_
      refine o_guard (j := 6) (d := 23) (b := false) rfl rfl rfl (fun _ => ?_) rfl (fun h => by cases h)
      refine o_y (v := .bool (decide ((((w2).length : Nat) : Int) ≠ (((w1).length : Nat) : Int)))) rfl rfl (y_neq rfl rfl rfl) ?_
      refine o_y (v := .bool (decide ((((w2).length : Nat) : Int) ≠ (((w1).length : Nat) : Int)))) rfl rfl (y_pick (b := false) rfl rfl) ?_
      refine o_y (v := .bool (decide ((((w2).length : Nat) : Int) ≠ (((w1).length : Nat) : Int)))) rfl rfl (y_move rfl) ?_
      cases hc3 : (decide ((((w2).length : Nat) : Int) ≠ (((w1).length : Nat) : Int)) : Bool)
      ·
        have hc3' := of_decide_eq_false hc3
        -- way FFF
        refine o_guard (j := 12) (d := 29) (b := false) rfl rfl rfl (fun _ => ?_) rfl (fun h => by cases h)
        refine o_y (v := .slice (a1) ((w1).length) (cap1)) rfl rfl (y_move rfl) ?_
        refine o_guard (j := 12) (d := 29) (b := false) rfl rfl rfl (fun _ => ?_) rfl (fun h => by cases h)
        refine o_y (v := .int .i64 (((cnt (w1) (w1).length : Nat) : Int))) rfl rfl (y_call (vs := [.slice (a1) ((w1).length) (cap1)]) b20 rfl (fun w hw => f20_count (w1) _ _ _ _ _ w (by simp) ((SlG.old hs1 (fun _ h => h)) w hw))) ?_
        refine o_guard (j := 12) (d := 29) (b := false) rfl rfl rfl (fun _ => ?_) rfl (fun h => by cases h)
        refine o_y (v := .bool (decide (((cnt (w1) (w1).length : Nat) : Int) = 0))) rfl rfl (y_eql rfl rfl rfl) ?_
        refine o_y (v := .bool (decide (((cnt (w1) (w1).length : Nat) : Int) = 0))) rfl rfl (y_pick (b := false) rfl rfl) ?_
        refine o_y (v := .bool (decide (((cnt (w1) (w1).length : Nat) : Int) = 0))) rfl rfl (y_move rfl) ?_
        cases hc4 : (decide (((cnt (w1) (w1).length : Nat) : Int) = 0) : Bool)
        ·
          have hc4' := of_decide_eq_false hc4
          -- way FFFF
          refine o_guard (j := 17) (d := 34) (b := false) rfl rfl rfl (fun _ => ?_) rfl (fun h => by cases h)
          refine o_y (v := .int .i64 (lost)) rfl rfl (y_move rfl) ?_
          refine o_guard (j := 17) (d := 34) (b := false) rfl rfl rfl (fun _ => ?_) rfl (fun h => by cases h)
          refine o_y (v := .bool (decide (lost < -1))) rfl rfl (y_lss rfl rfl rfl) ?_
          refine o_y (v := .bool (decide (lost < -1))) rfl rfl (y_pick (b := false) rfl rfl) ?_
          refine o_y (v := .bool (decide (lost < -1))) rfl rfl (y_move rfl) ?_
          cases hc5 : (decide (lost < -1) : Bool)
          ·
            have hc5' := of_decide_eq_false hc5
            -- way FFFFF
            refine o_guard (j := 21) (d := 38) (b := false) rfl rfl rfl (fun _ => ?_) rfl (fun h => by cases h)
            refine o_y (v := .int .i64 (lost)) rfl rfl (y_move rfl) ?_
            refine o_guard (j := 21) (d := 38) (b := false) rfl rfl rfl (fun _ => ?_) rfl (fun h => by cases h)
            refine o_y (v := .int .i64 ((((w1).length : Nat) : Int))) rfl rfl (y_move rfl) ?_
            refine o_guard (j := 21) (d := 38) (b := false) rfl rfl rfl (fun _ => ?_) rfl (fun h => by cases h)
            refine o_y (v := .bool (decide ((((w1).length : Nat) : Int) < lost))) rfl rfl (y_gtr rfl rfl rfl) ?_
            refine o_y (v := .bool (decide ((((w1).length : Nat) : Int) < lost))) rfl rfl (y_pick (b := false) rfl rfl) ?_
            refine o_nil ?_
            refine hK4 _ _ ?_
            refine c_cond (t := decide ((((w1).length : Nat) : Int) < lost)) rfl (fun hc6 => ?_) (fun hc6 => ?_)
            ·
              replace hc6 := of_decide_eq_true hc6
              -- way FFFFFT
              refine c_seq fun K5 hK5 => ?_
              refine c_region ?_
              refine o_y (v := .agg (#[.int .u8 (0), .slice none 0 0])) rfl rfl (y_build rfl (by first | kernel_rfl | simp [])) ?_
              refine o_storeS (H' := [(g1, .cells (#[.int .u8 (0), .slice none 0 0]) 25 (0, 0))]) 0 rfl rfl rfl s25 rfl (by simp [Value.oneCell']) rfl ?_
              refine o_y (v := .int .i64 (2)) rfl rfl (y_assign rfl) ?_
              refine o_nil ?_
              refine hK5 _ _ ?_
              refine c_ret ?_
              refine fun w hw => ⟨[.agg (#[.int .u8 (0), .slice none 0 0]), .int .i64 (2)], ⟨⟨_, rfl, loadS Try.underlying25 rfl s25 ((Rd.whole (k := 0) rfl) w hw)⟩, rfl, trivial⟩, ?_⟩
              have hq := plan_bad (p := p) (show bad w1 w2 lost by unfold bad; omega)
              simp only [planW, planR, planE, hq]
              exact ⟨_, List.nil_sublist _, none, 0, 0, rfl, .none'⟩
              first | done | rfl
            ·
              replace hc6 := of_decide_eq_false hc6
              -- way FFFFFF
              refine c_skip ?_
              refine hK3 _ _ ?_
              refine c_seq fun K6 hK6 => ?_
              refine c_seq fun K7 hK7 => ?_
              refine c_region ?_
              refine o_y (v := .int .i64 (lost)) rfl rfl (y_move rfl) ?_
              refine o_y (v := .int .i64 ((((w1).length : Nat) : Int))) rfl rfl (y_move rfl) ?_
              refine o_y (v := .bool (decide (lost = (((w1).length : Nat) : Int)))) rfl rfl (y_eql rfl rfl rfl) ?_
              refine o_nil ?_
              refine hK7 _ _ ?_
              refine c_cond (t := decide (lost = (((w1).length : Nat) : Int))) rfl (fun hc7 => ?_) (fun hc7 => ?_)
              ·
                replace hc7 := of_decide_eq_true hc7
                -- way FFFFFFT
                refine c_seq fun K8 hK8 => ?_
                refine c_region ?_
                refine o_y (v := .agg (#[.int .u8 (1), .slice none 0 0])) rfl rfl (y_build rfl (by first | kernel_rfl | simp [])) ?_
                refine o_storeS (H' := [(g1, .cells (#[.int .u8 (1), .slice none 0 0]) 25 (0, 0))]) 0 rfl rfl rfl s25 rfl (by simp [Value.oneCell']) rfl ?_
                refine o_y (v := .int .i64 (0)) rfl rfl (y_assign rfl) ?_
                refine o_nil ?_
                refine hK8 _ _ ?_
                refine c_ret ?_
                refine fun w hw => ⟨[.agg (#[.int .u8 (1), .slice none 0 0]), .int .i64 (0)], ⟨⟨_, rfl, loadS Try.underlying25 rfl s25 ((Rd.whole (k := 0) rfl) w hw)⟩, rfl, trivial⟩, ?_⟩
                have hq := plan_none (p := p) (show ¬ bad w1 w2 lost by unfold bad; omega) (by omega)
                simp only [planW, planR, planE, hq]
                exact ⟨_, List.nil_sublist _, none, 0, 0, rfl, .none'⟩
                first | done | rfl
              ·
                replace hc7 := of_decide_eq_false hc7
                -- way FFFFFFF
                refine c_skip ?_
                refine hK6 _ _ ?_
                refine c_seq fun K9 hK9 => ?_
                refine c_seq fun K10 hK10 => ?_
                refine c_region ?_
                refine o_y (v := .slice (a1) ((w1).length) (cap1)) rfl rfl (y_move rfl) ?_
                refine o_y (v := .int .i64 (((cnt (w1) (w1).length : Nat) : Int))) rfl rfl (y_call (vs := [.slice (a1) ((w1).length) (cap1)]) b20 rfl (fun w hw => f20_count (w1) _ _ _ _ _ w (by simp) ((SlG.old hs1 (fun _ h => h)) w hw))) ?_
                refine o_y (v := .int .i64 ((((w1).length : Nat) : Int))) rfl rfl (y_move rfl) ?_
                refine o_y (v := .bool (decide (((cnt (w1) (w1).length : Nat) : Int) = (((w1).length : Nat) : Int)))) rfl rfl (y_eql rfl rfl rfl) ?_
                refine o_nil ?_
                refine hK10 _ _ ?_
                refine c_cond (t := decide (((cnt (w1) (w1).length : Nat) : Int) = (((w1).length : Nat) : Int))) rfl (fun hc8 => ?_) (fun hc8 => ?_)
                ·
                  replace hc8 := of_decide_eq_true hc8
                  -- way FFFFFFFT
                  refine c_seq fun K11 hK11 => ?_
                  refine c_region ?_
                  refine o_y (v := .agg (#[.int .u8 (2), .slice none 0 0])) rfl rfl (y_build rfl (by first | kernel_rfl | simp [])) ?_
                  refine o_storeS (H' := [(g1, .cells (#[.int .u8 (2), .slice none 0 0]) 25 (0, 0))]) 0 rfl rfl rfl s25 rfl (by simp [Value.oneCell']) rfl ?_
                  refine o_y (v := .int .i64 (0)) rfl rfl (y_assign rfl) ?_
                  refine o_nil ?_
                  refine hK11 _ _ ?_
                  refine c_ret ?_
                  refine fun w hw => ⟨[.agg (#[.int .u8 (2), .slice none 0 0]), .int .i64 (0)], ⟨⟨_, rfl, loadS Try.underlying25 rfl s25 ((Rd.whole (k := 0) rfl) w hw)⟩, rfl, trivial⟩, ?_⟩
                  have hq := plan_full (p := p) (show ¬ bad w1 w2 lost by unfold bad; omega) (by omega) (by omega)
                  simp only [planW, planR, planE, hq]
                  exact ⟨_, List.nil_sublist _, none, 0, 0, rfl, .none'⟩
                  first | done | rfl
                ·
                  replace hc8 := of_decide_eq_false hc8
                  -- way FFFFFFFF
                  refine c_skip ?_
                  refine hK9 _ _ ?_
                  refine c_seq fun K12 hK12 => ?_
                  refine c_region ?_
                  refine o_y (v := .slice (a1) ((w1).length) (cap1)) rfl rfl (y_move rfl) ?_
                  refine o_y (v := .slice (a2) ((w2).length) (cap2)) rfl rfl (y_move rfl) ?_
                  refine o_y (v := .int .i64 (lost)) rfl rfl (y_move rfl) ?_
                  refine o_callV (fun Hy => [(g1, .cells (#[.int .u8 (0), .slice none 0 0]) 25 (0, 0))] ++ (Hy)) (fun Hy => by have h := List.perm_append_comm (l₁ := ([(g1, .cells (#[.int .u8 (0), .slice none 0 0]) 25 (0, 0))] : Hp)) (l₂ := Hy); first | exact h | simpa [Value.cells] using h) (vs := [.slice (a1) ((w1).length) (cap1), .slice (a2) ((w2).length) (cap2), .bool (false), .int .i64 (lost)]) b21 rfl rfl (fun w hw => f21_reads (w1) (w2) _ _ _ _ _ _ _ _ _ _ (false) (lost) w (by omega) (by omega) (by omega) (by omega) (by first | rfl | (simp; done) | (simp; omega)) ((SlG.old hs1 (fun _ h => h)) w hw) (by first | rfl | (simp; done) | (simp; omega)) ((SlG.old hs2 (fun _ h => h)) w hw)) ?_
                  rintro _ Hp2 ⟨ap2, gp2, capp2, rfl, hvp2⟩
                  have hxp2 := rds_le (w1) (w2) false (lost)
                  have hzp2 := hvp2.le
                  have hyp2 := hvp2.mx
                  simp only [maxLen] at hyp2
                  refine o_y (v := .tuple #[.slice (ap2) ((rdsL (w1) (w2) false (lost)).length) (capp2), .bool (rdsB (w1) (w2) false (lost))]) rfl rfl (y_move rfl) ?_
                  refine o_y (v := .slice (ap2) ((rdsL (w1) (w2) false (lost)).length) (capp2)) rfl rfl (y_extract (vs := #[.slice (ap2) ((rdsL (w1) (w2) false (lost)).length) (capp2), .bool (rdsB (w1) (w2) false (lost))]) rfl rfl) ?_
                  refine o_y (v := .bool (rdsB (w1) (w2) false (lost))) rfl rfl (y_extract (vs := #[.slice (ap2) ((rdsL (w1) (w2) false (lost)).length) (capp2), .bool (rdsB (w1) (w2) false (lost))]) rfl rfl) ?_
                  refine o_y (v := .slice (ap2) ((rdsL (w1) (w2) false (lost)).length) (capp2)) rfl rfl (y_assign rfl) ?_
                  refine o_y (v := .bool (rdsB (w1) (w2) false (lost))) rfl rfl (y_assign rfl) ?_
                  refine o_nil ?_
                  refine hK12 _ _ ?_
                  refine c_seq fun K13 hK13 => ?_
                  refine c_region ?_
                  refine o_y (v := .slice (a1) ((w1).length) (cap1)) rfl rfl (y_move rfl) ?_
                  refine o_y (v := .slice (a2) ((w2).length) (cap2)) rfl rfl (y_move rfl) ?_
                  refine o_y (v := .int .i64 (lost)) rfl rfl (y_move rfl) ?_
                  refine o_callV (fun Hy => [(g1, .cells (#[.int .u8 (0), .slice none 0 0]) 25 (0, 0))] ++ (Hp2 ++ Hy)) (fun Hy => by have h := List.perm_append_comm (l₁ := ([(g1, .cells (#[.int .u8 (0), .slice none 0 0]) 25 (0, 0))] ++ (Hp2) : Hp)) (l₂ := Hy); first | exact h | simpa [Value.cells] using h) (vs := [.slice (a1) ((w1).length) (cap1), .slice (a2) ((w2).length) (cap2), .bool (true), .int .i64 (lost)]) b21 rfl rfl (fun w hw => f21_reads (w1) (w2) _ _ _ _ _ _ _ _ _ _ (true) (lost) w (by omega) (by omega) (by omega) (by omega) (by first | rfl | (simp; done) | (simp; omega)) ((SlG.old hs1 (fun _ h => h)) w hw) (by first | rfl | (simp; done) | (simp; omega)) ((SlG.old hs2 (fun _ h => h)) w hw)) ?_
                  rintro _ Hp3 ⟨ap3, gp3, capp3, rfl, hvp3⟩
                  have hxp3 := rds_le (w1) (w2) true (lost)
                  have hzp3 := hvp3.le
                  have hyp3 := hvp3.mx
                  simp only [maxLen] at hyp3
                  refine o_y (v := .tuple #[.slice (ap3) ((rdsL (w1) (w2) true (lost)).length) (capp3), .bool (rdsB (w1) (w2) true (lost))]) rfl rfl (y_move rfl) ?_
                  refine o_y (v := .slice (ap3) ((rdsL (w1) (w2) true (lost)).length) (capp3)) rfl rfl (y_extract (vs := #[.slice (ap3) ((rdsL (w1) (w2) true (lost)).length) (capp3), .bool (rdsB (w1) (w2) true (lost))]) rfl rfl) ?_
                  refine o_y (v := .bool (rdsB (w1) (w2) true (lost))) rfl rfl (y_extract (vs := #[.slice (ap3) ((rdsL (w1) (w2) true (lost)).length) (capp3), .bool (rdsB (w1) (w2) true (lost))]) rfl rfl) ?_
                  refine o_y (v := .slice (ap3) ((rdsL (w1) (w2) true (lost)).length) (capp3)) rfl rfl (y_assign rfl) ?_
                  refine o_y (v := .bool (rdsB (w1) (w2) true (lost))) rfl rfl (y_assign rfl) ?_
                  refine o_nil ?_
                  refine hK13 _ _ ?_
                  refine c_seq fun K14 hK14 => ?_
                  refine c_seq fun K15 hK15 => ?_
                  refine c_region ?_
                  refine o_y (v := .bool (rdsB (w1) (w2) true (lost))) rfl rfl (y_move rfl) ?_
                  refine o_y (v := .bool (rdsB (w1) (w2) true (lost))) rfl rfl (y_move rfl) ?_
                  cases hc9 : (rdsB (w1) (w2) true (lost) : Bool)
                  ·
                    -- way FFFFFFFFF
                    refine o_guard (j := 1) (d := 68) (b := false) rfl rfl rfl (fun h => by cases h) rfl (fun _ => ?_)
                    refine o_guard (j := 1) (d := 68) (b := false) rfl rfl rfl (fun h => by cases h) rfl (fun _ => ?_)
                    refine o_y (v := .bool (false)) rfl rfl (y_pick (b := false) rfl rfl) ?_
                    refine o_nil ?_
                    refine hK15 _ _ ?_
                    refine c_cond (t := false) rfl (fun h => by cases h) (fun _ => ?_)
                    refine c_skip ?_
                    refine hK14 _ _ ?_
                    refine c_seq fun K16 hK16 => ?_
                    refine c_seq fun K17 hK17 => ?_
                    refine c_region ?_
                    refine o_y (v := .bool (false)) rfl rfl (y_move rfl) ?_
                    refine o_y (v := .bool (true)) rfl rfl (y_not rfl rfl) ?_
                    refine o_y (v := .bool (true)) rfl rfl (y_move rfl) ?_
                    refine o_guard (j := 2) (d := 78) (b := true) rfl rfl rfl (fun h => by cases h) rfl (fun _ => ?_)
                    refine o_guard (j := 2) (d := 78) (b := true) rfl rfl rfl (fun h => by cases h) rfl (fun _ => ?_)
                    refine o_guardU (j := 4) (d := 80) rfl rfl rfl rfl ?_
                    refine o_guardU (j := 4) (d := 80) rfl rfl rfl rfl ?_
                    refine o_guardU (j := 4) (d := 80) rfl rfl rfl rfl ?_
                    refine o_guardU (j := 4) (d := 80) rfl rfl rfl rfl ?_
                    refine o_guardU (j := 4) (d := 80) rfl rfl rfl rfl ?_
                    refine o_guard (j := 2) (d := 78) (b := true) rfl rfl rfl (fun h => by cases h) rfl (fun _ => ?_)
                    refine o_y (v := .bool (true)) rfl rfl (y_pick (b := true) rfl rfl) ?_
                    refine o_nil ?_
                    refine hK17 _ _ ?_
                    refine c_cond (t := true) rfl (fun _ => ?_) (fun h => by cases h)
                    refine c_seq fun K18 hK18 => ?_
                    refine c_region ?_
                    refine o_y (v := .slice (ap2) ((rdsL (w1) (w2) false (lost)).length) (capp2)) rfl rfl (y_move rfl) ?_
                    refine o_y (v := .agg (#[.int .u8 (3), .slice (ap2) ((rdsL (w1) (w2) false (lost)).length) (capp2)])) rfl rfl (y_build rfl (by first | kernel_rfl | simp [])) ?_
                    refine o_storeS (H' := [(g1, .cells (#[.int .u8 (3), .slice (ap2) ((rdsL (w1) (w2) false (lost)).length) (capp2)]) 25 (0, 0))] ++ (Hp2 ++ Hp3)) 0 rfl rfl rfl s25 rfl (by simp [Value.oneCell']) rfl ?_
                    refine o_y (v := .int .i64 (0)) rfl rfl (y_assign rfl) ?_
                    refine o_nil ?_
                    refine hK18 _ _ ?_
                    refine c_ret ?_
                    refine fun w hw => ⟨[.agg (#[.int .u8 (3), .slice (ap2) ((rdsL (w1) (w2) false (lost)).length) (capp2)]), .int .i64 (0)], ⟨⟨_, rfl, loadS Try.underlying25 rfl s25 ((Rd.whole (k := 0) rfl) w hw)⟩, rfl, trivial⟩, ?_⟩
                    have hu : useRest w1 w2 p lost := ⟨by first | assumption | exact rdsB_one (by assumption), by first | exact .inl (by assumption) | exact .inr (by omega) | exact .inr (by have hD : rdsL w1 w2 true lost = dltL w1 w2 p lost := dltL_pB (by assumption) (by assumption); rw [← hD]; omega)⟩
                    have hq := plan_rest (p := p) (show ¬ bad w1 w2 lost by unfold bad; omega) (by omega) (by omega) hu
                    simp only [planW, planR, planE, hq]
                    exact ⟨Hp2, ((List.sublist_append_left _ _).cons _), _, _, _, rfl, hvp2⟩
                    first | done | rfl
                  ·
                    -- way FFFFFFFFT
                    refine o_guard (j := 1) (d := 68) (b := true) rfl rfl rfl (fun _ => ?_) rfl (fun h => by cases h)
                    refine o_y (v := .bool (p)) rfl rfl (y_move rfl) ?_
                    refine o_guard (j := 1) (d := 68) (b := true) rfl rfl rfl (fun _ => ?_) rfl (fun h => by cases h)
                    refine o_y (v := .bool (!(p))) rfl rfl (y_not rfl rfl) ?_
                    refine o_y (v := .bool (!(p))) rfl rfl (y_pick (b := true) rfl rfl) ?_
                    refine o_nil ?_
                    refine hK15 _ _ ?_
                    refine c_cond (t := !(p)) rfl (fun hc10 => ?_) (fun hc10 => ?_)
                    ·
                      try have hc10' : (p) = false := by simpa using hc10
                      -- way FFFFFFFFTT
                      refine c_region ?_
                      refine o_y (v := .slice (ap3) ((rdsL (w1) (w2) true (lost)).length) (capp3)) rfl rfl (y_move rfl) ?_
                      refine o_y (v := .int .i64 ((((w1).length : Nat) : Int))) rfl rfl (y_move rfl) ?_
                      refine o_buildRow SL23 ([((((w1).length : Nat) : Int))] : List Int) (fun x => .int .i64 x) (fun _ => rfl) rfl rfl (by rw [Array.toList_map]; rfl) (by simp) (by simp [eInt]) fun g4 cg4 hrg4 => ?_
                      refine o_appendV SL23 ([(g4, .cells (cg4) 3 (0, 0)), (g1, .cells (#[.int .u8 (0), .slice none 0 0]) 25 (0, 0))] ++ (Hp2)) (fun Hy => [(g4, .cells (cg4) 3 (0, 0)), (g1, .cells (#[.int .u8 (0), .slice none 0 0]) 25 (0, 0))] ++ (Hp2 ++ Hy)) rfl (fun Hy => by have h := List.perm_append_comm (l₁ := ([(g4, .cells (cg4) 3 (0, 0)), (g1, .cells (#[.int .u8 (0), .slice none 0 0]) 25 (0, 0))] ++ (Hp2) : Hp)) (l₂ := Hy); first | exact h | simpa [Value.cells] using h) (by have h := List.perm_append_comm_assoc ([(g4, .cells (cg4) 3 (0, 0)), (g1, .cells (#[.int .u8 (0), .slice none 0 0]) 25 (0, 0))] ++ (Hp2) : Hp) Hp3 ([] : Hp); first | exact h | simpa [Value.cells] using h) hvp3 rfl (by first | omega | (simp; done) | (simp; omega)) rfl (by first | omega | (simp; done) | (simp; omega)) (SlG.row (k := 0) rfl hrg4) (by simp only [maxLen] <;> first | omega | (simp; omega)) (by first | omega | (simp; done) | (simp; omega)) fun ap6 gp6 capp6 Hp6 hvp6 => ?_
                      have hwp6 := hvp6
                      rw [show (rdsL (w1) (w2) true (lost)) ++ ([((((w1).length : Nat) : Int))]) = dltL w1 w2 p lost from dltL_nB (by assumption) (by first | assumption | simpa using ‹(!(p)) = true›)] at hwp6
                      refine o_y (v := .slice (ap6) (((rdsL (w1) (w2) true (lost)).length) + 1) (capp6)) rfl rfl (y_assign rfl) ?_
                      refine o_nil ?_
                      refine hK14 _ _ ?_
                      refine c_seq fun K19 hK19 => ?_
                      refine c_seq fun K20 hK20 => ?_
                      refine c_region ?_
                      refine o_y (v := .bool (true)) rfl rfl (y_move rfl) ?_
                      refine o_y (v := .bool (false)) rfl rfl (y_not rfl rfl) ?_
                      refine o_y (v := .bool (false)) rfl rfl (y_move rfl) ?_
                      refine o_guard (j := 2) (d := 78) (b := false) rfl rfl rfl (fun _ => ?_) rfl (fun h => by cases h)
                      refine o_y (v := .bool (rdsB (w1) (w2) false (lost))) rfl rfl (y_move rfl) ?_
                      refine o_guard (j := 2) (d := 78) (b := false) rfl rfl rfl (fun _ => ?_) rfl (fun h => by cases h)
                      refine o_y (v := .bool (rdsB (w1) (w2) false (lost))) rfl rfl (y_move rfl) ?_
                      cases hc12 : (rdsB (w1) (w2) false (lost) : Bool)
                      ·
                        -- way FFFFFFFFTTF
                        refine o_guard (j := 4) (d := 80) (b := false) rfl rfl rfl (fun h => by cases h) rfl (fun _ => ?_)
                        refine o_guard (j := 4) (d := 80) (b := false) rfl rfl rfl (fun h => by cases h) rfl (fun _ => ?_)
                        refine o_guard (j := 4) (d := 80) (b := false) rfl rfl rfl (fun h => by cases h) rfl (fun _ => ?_)
                        refine o_guard (j := 4) (d := 80) (b := false) rfl rfl rfl (fun h => by cases h) rfl (fun _ => ?_)
                        refine o_guard (j := 4) (d := 80) (b := false) rfl rfl rfl (fun h => by cases h) rfl (fun _ => ?_)
                        refine o_guard (j := 2) (d := 78) (b := false) rfl rfl rfl (fun _ => ?_) rfl (fun h => by cases h)
                        refine o_y (v := .bool (false)) rfl rfl (y_pick (b := false) rfl rfl) ?_
                        refine o_y (v := .bool (false)) rfl rfl (y_pick (b := false) rfl rfl) ?_
                        refine o_nil ?_
                        refine hK20 _ _ ?_
                        refine c_cond (t := false) rfl (fun h => by cases h) (fun _ => ?_)
                        refine c_skip ?_
                        refine hK19 _ _ ?_
                        refine c_seq fun K21 hK21 => ?_
                        refine c_region ?_
                        refine o_y (v := .slice (ap6) (((rdsL (w1) (w2) true (lost)).length) + 1) (capp6)) rfl rfl (y_move rfl) ?_
                        refine o_y (v := .agg (#[.int .u8 (4), .slice (ap6) (((rdsL (w1) (w2) true (lost)).length) + 1) (capp6)])) rfl rfl (y_build rfl (by first | kernel_rfl | simp [])) ?_
                        refine o_storeS (H' := [(g4, .cells (cg4) 3 (0, 0)), (g1, .cells (#[.int .u8 (4), .slice (ap6) (((rdsL (w1) (w2) true (lost)).length) + 1) (capp6)]) 25 (0, 0))] ++ (Hp2 ++ Hp6)) 1 rfl rfl rfl s25 rfl (by simp [Value.oneCell']) rfl ?_
                        refine o_y (v := .int .i64 (0)) rfl rfl (y_assign rfl) ?_
                        refine o_nil ?_
                        refine hK21 _ _ ?_
                        refine c_ret ?_
                        refine fun w hw => ⟨[.agg (#[.int .u8 (4), .slice (ap6) (((rdsL (w1) (w2) true (lost)).length) + 1) (capp6)]), .int .i64 (0)], ⟨⟨_, rfl, loadS Try.underlying25 rfl s25 ((Rd.whole (k := 1) rfl) w hw)⟩, rfl, trivial⟩, ?_⟩
                        have hN := dltL_len (w := w1) (k := w2) (p := p) (lost := lost) (by assumption) (by assumption)
                        rw [hN]
                        have hu : ¬ useRest w1 w2 p lost := by
                          rintro ⟨hA, hB | hB⟩ <;> first | omega | exact tf hA (by assumption) | exact tf (by assumption) hB
                        have hq := plan_delta (p := p) (show ¬ bad w1 w2 lost by unfold bad; omega) (by omega) (by omega) hu
                        simp only [planW, planR, planE, hq]
                        exact ⟨Hp6, (((List.Sublist.trans (List.Sublist.refl _) (List.sublist_append_right _ _)).cons _).cons _), _, _, _, rfl, hwp6⟩
                        first | done | rfl
                      ·
                        -- way FFFFFFFFTTT
                        refine o_guard (j := 4) (d := 80) (b := true) rfl rfl rfl (fun _ => ?_) rfl (fun h => by cases h)
                        refine o_y (v := .slice (ap2) ((rdsL (w1) (w2) false (lost)).length) (capp2)) rfl rfl (y_move rfl) ?_
                        refine o_guard (j := 4) (d := 80) (b := true) rfl rfl rfl (fun _ => ?_) rfl (fun h => by cases h)
                        refine o_y (v := .int .i64 ((((rdsL (w1) (w2) false (lost)).length : Nat) : Int))) rfl rfl (y_len rfl Try.underlying23) ?_
                        refine o_guard (j := 4) (d := 80) (b := true) rfl rfl rfl (fun _ => ?_) rfl (fun h => by cases h)
                        refine o_y (v := .slice (ap6) (((rdsL (w1) (w2) true (lost)).length) + 1) (capp6)) rfl rfl (y_move rfl) ?_
                        refine o_guard (j := 4) (d := 80) (b := true) rfl rfl rfl (fun _ => ?_) rfl (fun h => by cases h)
                        refine o_y (v := .int .i64 (((((rdsL (w1) (w2) true (lost)).length) + 1 : Nat) : Int))) rfl rfl (y_len rfl Try.underlying23) ?_
                        refine o_guard (j := 4) (d := 80) (b := true) rfl rfl rfl (fun _ => ?_) rfl (fun h => by cases h)
                        refine o_y (v := .bool (decide ((((rdsL (w1) (w2) false (lost)).length : Nat) : Int) ≤ ((((rdsL (w1) (w2) true (lost)).length) + 1 : Nat) : Int)))) rfl rfl (y_leq rfl rfl rfl) ?_
                        refine o_guard (j := 2) (d := 78) (b := false) rfl rfl rfl (fun _ => ?_) rfl (fun h => by cases h)
                        refine o_y (v := .bool (decide ((((rdsL (w1) (w2) false (lost)).length : Nat) : Int) ≤ ((((rdsL (w1) (w2) true (lost)).length) + 1 : Nat) : Int)))) rfl rfl (y_pick (b := true) rfl rfl) ?_
                        refine o_y (v := .bool (decide ((((rdsL (w1) (w2) false (lost)).length : Nat) : Int) ≤ ((((rdsL (w1) (w2) true (lost)).length) + 1 : Nat) : Int)))) rfl rfl (y_pick (b := false) rfl rfl) ?_
                        refine o_nil ?_
                        refine hK20 _ _ ?_
                        refine c_cond (t := decide ((((rdsL (w1) (w2) false (lost)).length : Nat) : Int) ≤ ((((rdsL (w1) (w2) true (lost)).length) + 1 : Nat) : Int))) rfl (fun hc13 => ?_) (fun hc13 => ?_)
                        ·
                          replace hc13 := of_decide_eq_true hc13
                          -- way FFFFFFFFTTTT
                          refine c_seq fun K22 hK22 => ?_
                          refine c_region ?_
                          refine o_y (v := .slice (ap2) ((rdsL (w1) (w2) false (lost)).length) (capp2)) rfl rfl (y_move rfl) ?_
                          refine o_y (v := .agg (#[.int .u8 (3), .slice (ap2) ((rdsL (w1) (w2) false (lost)).length) (capp2)])) rfl rfl (y_build rfl (by first | kernel_rfl | simp [])) ?_
                          refine o_storeS (H' := [(g4, .cells (cg4) 3 (0, 0)), (g1, .cells (#[.int .u8 (3), .slice (ap2) ((rdsL (w1) (w2) false (lost)).length) (capp2)]) 25 (0, 0))] ++ (Hp2 ++ Hp6)) 1 rfl rfl rfl s25 rfl (by simp [Value.oneCell']) rfl ?_
                          refine o_y (v := .int .i64 (0)) rfl rfl (y_assign rfl) ?_
                          refine o_nil ?_
                          refine hK22 _ _ ?_
                          refine c_ret ?_
                          refine fun w hw => ⟨[.agg (#[.int .u8 (3), .slice (ap2) ((rdsL (w1) (w2) false (lost)).length) (capp2)]), .int .i64 (0)], ⟨⟨_, rfl, loadS Try.underlying25 rfl s25 ((Rd.whole (k := 1) rfl) w hw)⟩, rfl, trivial⟩, ?_⟩
                          have hN := dltL_len (w := w1) (k := w2) (p := p) (lost := lost) (by assumption) (by assumption)
                          have hu : useRest w1 w2 p lost := ⟨by first | assumption | exact rdsB_one (by assumption), by first | exact .inl (by assumption) | exact .inr (by omega) | exact .inr (by have hD : rdsL w1 w2 true lost = dltL w1 w2 p lost := dltL_pB (by assumption) (by assumption); rw [← hD]; omega)⟩
                          have hq := plan_rest (p := p) (show ¬ bad w1 w2 lost by unfold bad; omega) (by omega) (by omega) hu
                          simp only [planW, planR, planE, hq]
                          exact ⟨Hp2, (((List.sublist_append_left _ _).cons _).cons _), _, _, _, rfl, hvp2⟩
                          first | done | rfl
                        ·
                          replace hc13 := of_decide_eq_false hc13
                          -- way FFFFFFFFTTTF
                          refine c_skip ?_
                          refine hK19 _ _ ?_
                          refine c_seq fun K23 hK23 => ?_
                          refine c_region ?_
                          refine o_y (v := .slice (ap6) (((rdsL (w1) (w2) true (lost)).length) + 1) (capp6)) rfl rfl (y_move rfl) ?_
                          refine o_y (v := .agg (#[.int .u8 (4), .slice (ap6) (((rdsL (w1) (w2) true (lost)).length) + 1) (capp6)])) rfl rfl (y_build rfl (by first | kernel_rfl | simp [])) ?_
                          refine o_storeS (H' := [(g4, .cells (cg4) 3 (0, 0)), (g1, .cells (#[.int .u8 (4), .slice (ap6) (((rdsL (w1) (w2) true (lost)).length) + 1) (capp6)]) 25 (0, 0))] ++ (Hp2 ++ Hp6)) 1 rfl rfl rfl s25 rfl (by simp [Value.oneCell']) rfl ?_
                          refine o_y (v := .int .i64 (0)) rfl rfl (y_assign rfl) ?_
                          refine o_nil ?_
                          refine hK23 _ _ ?_
                          refine c_ret ?_
                          refine fun w hw => ⟨[.agg (#[.int .u8 (4), .slice (ap6) (((rdsL (w1) (w2) true (lost)).length) + 1) (capp6)]), .int .i64 (0)], ⟨⟨_, rfl, loadS Try.underlying25 rfl s25 ((Rd.whole (k := 1) rfl) w hw)⟩, rfl, trivial⟩, ?_⟩
                          have hN := dltL_len (w := w1) (k := w2) (p := p) (lost := lost) (by assumption) (by assumption)
                          rw [hN]
                          have hu : ¬ useRest w1 w2 p lost := by
                            rintro ⟨hA, hB | hB⟩ <;> first | omega | exact tf hA (by assumption) | exact tf (by assumption) hB
                          have hq := plan_delta (p := p) (show ¬ bad w1 w2 lost by unfold bad; omega) (by omega) (by omega) hu
                          simp only [planW, planR, planE, hq]
                          exact ⟨Hp6, (((List.Sublist.trans (List.Sublist.refl _) (List.sublist_append_right _ _)).cons _).cons _), _, _, _, rfl, hwp6⟩
                          first | done | rfl
                    ·
                      try have hc10' : (p) = true := by simpa using hc10
                      -- way FFFFFFFFTF
                      refine c_skip ?_
                      refine hK14 _ _ ?_
                      refine c_seq fun K24 hK24 => ?_
                      refine c_seq fun K25 hK25 => ?_
                      refine c_region ?_
                      refine o_y (v := .bool (true)) rfl rfl (y_move rfl) ?_
                      refine o_y (v := .bool (false)) rfl rfl (y_not rfl rfl) ?_
                      refine o_y (v := .bool (false)) rfl rfl (y_move rfl) ?_
                      refine o_guard (j := 2) (d := 78) (b := false) rfl rfl rfl (fun _ => ?_) rfl (fun h => by cases h)
                      refine o_y (v := .bool (rdsB (w1) (w2) false (lost))) rfl rfl (y_move rfl) ?_
                      refine o_guard (j := 2) (d := 78) (b := false) rfl rfl rfl (fun _ => ?_) rfl (fun h => by cases h)
                      refine o_y (v := .bool (rdsB (w1) (w2) false (lost))) rfl rfl (y_move rfl) ?_
                      cases hc14 : (rdsB (w1) (w2) false (lost) : Bool)
                      ·
                        -- way FFFFFFFFTFF
                        refine o_guard (j := 4) (d := 80) (b := false) rfl rfl rfl (fun h => by cases h) rfl (fun _ => ?_)
                        refine o_guard (j := 4) (d := 80) (b := false) rfl rfl rfl (fun h => by cases h) rfl (fun _ => ?_)
                        refine o_guard (j := 4) (d := 80) (b := false) rfl rfl rfl (fun h => by cases h) rfl (fun _ => ?_)
                        refine o_guard (j := 4) (d := 80) (b := false) rfl rfl rfl (fun h => by cases h) rfl (fun _ => ?_)
                        refine o_guard (j := 4) (d := 80) (b := false) rfl rfl rfl (fun h => by cases h) rfl (fun _ => ?_)
                        refine o_guard (j := 2) (d := 78) (b := false) rfl rfl rfl (fun _ => ?_) rfl (fun h => by cases h)
                        refine o_y (v := .bool (false)) rfl rfl (y_pick (b := false) rfl rfl) ?_
                        refine o_y (v := .bool (false)) rfl rfl (y_pick (b := false) rfl rfl) ?_
                        refine o_nil ?_
                        refine hK25 _ _ ?_
                        refine c_cond (t := false) rfl (fun h => by cases h) (fun _ => ?_)
                        refine c_skip ?_
                        refine hK24 _ _ ?_
                        refine c_seq fun K26 hK26 => ?_
                        refine c_region ?_
                        refine o_y (v := .slice (ap3) ((rdsL (w1) (w2) true (lost)).length) (capp3)) rfl rfl (y_move rfl) ?_
                        refine o_y (v := .agg (#[.int .u8 (4), .slice (ap3) ((rdsL (w1) (w2) true (lost)).length) (capp3)])) rfl rfl (y_build rfl (by first | kernel_rfl | simp [])) ?_
                        refine o_storeS (H' := [(g1, .cells (#[.int .u8 (4), .slice (ap3) ((rdsL (w1) (w2) true (lost)).length) (capp3)]) 25 (0, 0))] ++ (Hp2 ++ Hp3)) 0 rfl rfl rfl s25 rfl (by simp [Value.oneCell']) rfl ?_
                        refine o_y (v := .int .i64 (0)) rfl rfl (y_assign rfl) ?_
                        refine o_nil ?_
                        refine hK26 _ _ ?_
                        refine c_ret ?_
                        refine fun w hw => ⟨[.agg (#[.int .u8 (4), .slice (ap3) ((rdsL (w1) (w2) true (lost)).length) (capp3)]), .int .i64 (0)], ⟨⟨_, rfl, loadS Try.underlying25 rfl s25 ((Rd.whole (k := 0) rfl) w hw)⟩, rfl, trivial⟩, ?_⟩
                        have hD : rdsL w1 w2 true lost = dltL w1 w2 p lost := dltL_pB (by assumption) (by assumption)
                        have hDl := congrArg List.length hD
                        rw [hD] at hvp3
                        rw [hD]
                        have hu : ¬ useRest w1 w2 p lost := by
                          rintro ⟨hA, hB | hB⟩ <;> first | omega | exact tf hA (by assumption) | exact tf (by assumption) hB
                        have hq := plan_delta (p := p) (show ¬ bad w1 w2 lost by unfold bad; omega) (by omega) (by omega) hu
                        simp only [planW, planR, planE, hq]
                        exact ⟨Hp3, ((List.Sublist.trans (List.Sublist.refl _) (List.sublist_append_right _ _)).cons _), _, _, _, rfl, hvp3⟩
                        first | done | rfl
                      ·
                        -- way FFFFFFFFTFT
                        refine o_guard (j := 4) (d := 80) (b := true) rfl rfl rfl (fun _ => ?_) rfl (fun h => by cases h)
                        refine o_y (v := .slice (ap2) ((rdsL (w1) (w2) false (lost)).length) (capp2)) rfl rfl (y_move rfl) ?_
                        refine o_guard (j := 4) (d := 80) (b := true) rfl rfl rfl (fun _ => ?_) rfl (fun h => by cases h)
                        refine o_y (v := .int .i64 ((((rdsL (w1) (w2) false (lost)).length : Nat) : Int))) rfl rfl (y_len rfl Try.underlying23) ?_
                        refine o_guard (j := 4) (d := 80) (b := true) rfl rfl rfl (fun _ => ?_) rfl (fun h => by cases h)
                        refine o_y (v := .slice (ap3) ((rdsL (w1) (w2) true (lost)).length) (capp3)) rfl rfl (y_move rfl) ?_
                        refine o_guard (j := 4) (d := 80) (b := true) rfl rfl rfl (fun _ => ?_) rfl (fun h => by cases h)
                        refine o_y (v := .int .i64 ((((rdsL (w1) (w2) true (lost)).length : Nat) : Int))) rfl rfl (y_len rfl Try.underlying23) ?_
                        refine o_guard (j := 4) (d := 80) (b := true) rfl rfl rfl (fun _ => ?_) rfl (fun h => by cases h)
                        refine o_y (v := .bool (decide ((((rdsL (w1) (w2) false (lost)).length : Nat) : Int) ≤ (((rdsL (w1) (w2) true (lost)).length : Nat) : Int)))) rfl rfl (y_leq rfl rfl rfl) ?_
                        refine o_guard (j := 2) (d := 78) (b := false) rfl rfl rfl (fun _ => ?_) rfl (fun h => by cases h)
                        refine o_y (v := .bool (decide ((((rdsL (w1) (w2) false (lost)).length : Nat) : Int) ≤ (((rdsL (w1) (w2) true (lost)).length : Nat) : Int)))) rfl rfl (y_pick (b := true) rfl rfl) ?_
                        refine o_y (v := .bool (decide ((((rdsL (w1) (w2) false (lost)).length : Nat) : Int) ≤ (((rdsL (w1) (w2) true (lost)).length : Nat) : Int)))) rfl rfl (y_pick (b := false) rfl rfl) ?_
                        refine o_nil ?_
                        refine hK25 _ _ ?_
                        refine c_cond (t := decide ((((rdsL (w1) (w2) false (lost)).length : Nat) : Int) ≤ (((rdsL (w1) (w2) true (lost)).length : Nat) : Int))) rfl (fun hc15 => ?_) (fun hc15 => ?_)
                        ·
                          replace hc15 := of_decide_eq_true hc15
                          -- way FFFFFFFFTFTT
                          refine c_seq fun K27 hK27 => ?_
                          refine c_region ?_
                          refine o_y (v := .slice (ap2) ((rdsL (w1) (w2) false (lost)).length) (capp2)) rfl rfl (y_move rfl) ?_
                          refine o_y (v := .agg (#[.int .u8 (3), .slice (ap2) ((rdsL (w1) (w2) false (lost)).length) (capp2)])) rfl rfl (y_build rfl (by first | kernel_rfl | simp [])) ?_
                          refine o_storeS (H' := [(g1, .cells (#[.int .u8 (3), .slice (ap2) ((rdsL (w1) (w2) false (lost)).length) (capp2)]) 25 (0, 0))] ++ (Hp2 ++ Hp3)) 0 rfl rfl rfl s25 rfl (by simp [Value.oneCell']) rfl ?_
                          refine o_y (v := .int .i64 (0)) rfl rfl (y_assign rfl) ?_
                          refine o_nil ?_
                          refine hK27 _ _ ?_
                          refine c_ret ?_
                          refine fun w hw => ⟨[.agg (#[.int .u8 (3), .slice (ap2) ((rdsL (w1) (w2) false (lost)).length) (capp2)]), .int .i64 (0)], ⟨⟨_, rfl, loadS Try.underlying25 rfl s25 ((Rd.whole (k := 0) rfl) w hw)⟩, rfl, trivial⟩, ?_⟩
                          have hu : useRest w1 w2 p lost := ⟨by first | assumption | exact rdsB_one (by assumption), by first | exact .inl (by assumption) | exact .inr (by omega) | exact .inr (by have hD : rdsL w1 w2 true lost = dltL w1 w2 p lost := dltL_pB (by assumption) (by assumption); rw [← hD]; omega)⟩
                          have hq := plan_rest (p := p) (show ¬ bad w1 w2 lost by unfold bad; omega) (by omega) (by omega) hu
                          simp only [planW, planR, planE, hq]
                          exact ⟨Hp2, ((List.sublist_append_left _ _).cons _), _, _, _, rfl, hvp2⟩
                          first | done | rfl
                        ·
                          replace hc15 := of_decide_eq_false hc15
                          -- way FFFFFFFFTFTF
                          refine c_skip ?_
                          refine hK24 _ _ ?_
                          refine c_seq fun K28 hK28 => ?_
                          refine c_region ?_
                          refine o_y (v := .slice (ap3) ((rdsL (w1) (w2) true (lost)).length) (capp3)) rfl rfl (y_move rfl) ?_
                          refine o_y (v := .agg (#[.int .u8 (4), .slice (ap3) ((rdsL (w1) (w2) true (lost)).length) (capp3)])) rfl rfl (y_build rfl (by first | kernel_rfl | simp [])) ?_
                          refine o_storeS (H' := [(g1, .cells (#[.int .u8 (4), .slice (ap3) ((rdsL (w1) (w2) true (lost)).length) (capp3)]) 25 (0, 0))] ++ (Hp2 ++ Hp3)) 0 rfl rfl rfl s25 rfl (by simp [Value.oneCell']) rfl ?_
                          refine o_y (v := .int .i64 (0)) rfl rfl (y_assign rfl) ?_
                          refine o_nil ?_
                          refine hK28 _ _ ?_
                          refine c_ret ?_
                          refine fun w hw => ⟨[.agg (#[.int .u8 (4), .slice (ap3) ((rdsL (w1) (w2) true (lost)).length) (capp3)]), .int .i64 (0)], ⟨⟨_, rfl, loadS Try.underlying25 rfl s25 ((Rd.whole (k := 0) rfl) w hw)⟩, rfl, trivial⟩, ?_⟩
                          have hD : rdsL w1 w2 true lost = dltL w1 w2 p lost := dltL_pB (by assumption) (by assumption)
                          have hDl := congrArg List.length hD
                          rw [hD] at hvp3
                          rw [hD]
                          have hu : ¬ useRest w1 w2 p lost := by
                            rintro ⟨hA, hB | hB⟩ <;> first | omega | exact tf hA (by assumption) | exact tf (by assumption) hB
                          have hq := plan_delta (p := p) (show ¬ bad w1 w2 lost by unfold bad; omega) (by omega) (by omega) hu
                          simp only [planW, planR, planE, hq]
                          exact ⟨Hp3, ((List.Sublist.trans (List.Sublist.refl _) (List.sublist_append_right _ _)).cons _), _, _, _, rfl, hvp3⟩
                          first | done | rfl
          ·
            have hc5' := of_decide_eq_true hc5
            -- way FFFFT
            refine o_guard (j := 21) (d := 38) (b := true) rfl rfl rfl (fun h => by cases h) rfl (fun _ => ?_)
            refine o_guard (j := 21) (d := 38) (b := true) rfl rfl rfl (fun h => by cases h) rfl (fun _ => ?_)
            refine o_guard (j := 21) (d := 38) (b := true) rfl rfl rfl (fun h => by cases h) rfl (fun _ => ?_)
            refine o_y (v := .bool (true)) rfl rfl (y_pick (b := true) rfl rfl) ?_
            refine o_nil ?_
            refine hK4 _ _ ?_
            refine c_cond (t := true) rfl (fun _ => ?_) (fun h => by cases h)
            refine c_seq fun K29 hK29 => ?_
            refine c_region ?_
            refine o_y (v := .agg (#[.int .u8 (0), .slice none 0 0])) rfl rfl (y_build rfl (by first | kernel_rfl | simp [])) ?_
            refine o_storeS (H' := [(g1, .cells (#[.int .u8 (0), .slice none 0 0]) 25 (0, 0))]) 0 rfl rfl rfl s25 rfl (by simp [Value.oneCell']) rfl ?_
            refine o_y (v := .int .i64 (2)) rfl rfl (y_assign rfl) ?_
            refine o_nil ?_
            refine hK29 _ _ ?_
            refine c_ret ?_
            refine fun w hw => ⟨[.agg (#[.int .u8 (0), .slice none 0 0]), .int .i64 (2)], ⟨⟨_, rfl, loadS Try.underlying25 rfl s25 ((Rd.whole (k := 0) rfl) w hw)⟩, rfl, trivial⟩, ?_⟩
            have hq := plan_bad (p := p) (show bad w1 w2 lost by unfold bad; omega)
            simp only [planW, planR, planE, hq]
            exact ⟨_, List.nil_sublist _, none, 0, 0, rfl, .none'⟩
            first | done | rfl
        ·
          have hc4' := of_decide_eq_true hc4
          -- way FFFT
          refine o_guard (j := 17) (d := 34) (b := true) rfl rfl rfl (fun h => by cases h) rfl (fun _ => ?_)
          refine o_guard (j := 17) (d := 34) (b := true) rfl rfl rfl (fun h => by cases h) rfl (fun _ => ?_)
          refine o_y (v := .bool (true)) rfl rfl (y_pick (b := true) rfl rfl) ?_
          refine o_y (v := .bool (true)) rfl rfl (y_move rfl) ?_
          refine o_guard (j := 21) (d := 38) (b := true) rfl rfl rfl (fun h => by cases h) rfl (fun _ => ?_)
          refine o_guard (j := 21) (d := 38) (b := true) rfl rfl rfl (fun h => by cases h) rfl (fun _ => ?_)
          refine o_guard (j := 21) (d := 38) (b := true) rfl rfl rfl (fun h => by cases h) rfl (fun _ => ?_)
          refine o_y (v := .bool (true)) rfl rfl (y_pick (b := true) rfl rfl) ?_
          refine o_nil ?_
          refine hK4 _ _ ?_
          refine c_cond (t := true) rfl (fun _ => ?_) (fun h => by cases h)
          refine c_seq fun K30 hK30 => ?_
          refine c_region ?_
          refine o_y (v := .agg (#[.int .u8 (0), .slice none 0 0])) rfl rfl (y_build rfl (by first | kernel_rfl | simp [])) ?_
          refine o_storeS (H' := [(g1, .cells (#[.int .u8 (0), .slice none 0 0]) 25 (0, 0))]) 0 rfl rfl rfl s25 rfl (by simp [Value.oneCell']) rfl ?_
          refine o_y (v := .int .i64 (2)) rfl rfl (y_assign rfl) ?_
          refine o_nil ?_
          refine hK30 _ _ ?_
          refine c_ret ?_
          refine fun w hw => ⟨[.agg (#[.int .u8 (0), .slice none 0 0]), .int .i64 (2)], ⟨⟨_, rfl, loadS Try.underlying25 rfl s25 ((Rd.whole (k := 0) rfl) w hw)⟩, rfl, trivial⟩, ?_⟩
          have hq := plan_bad (p := p) (show bad w1 w2 lost by unfold bad; omega)
          simp only [planW, planR, planE, hq]
          exact ⟨_, List.nil_sublist _, none, 0, 0, rfl, .none'⟩
          first | done | rfl
      ·
        have hc3' := of_decide_eq_true hc3
        -- way FFT
        refine o_guard (j := 12) (d := 29) (b := true) rfl rfl rfl (fun h => by cases h) rfl (fun _ => ?_)
        refine o_guard (j := 12) (d := 29) (b := true) rfl rfl rfl (fun h => by cases h) rfl (fun _ => ?_)
        refine o_guard (j := 12) (d := 29) (b := true) rfl rfl rfl (fun h => by cases h) rfl (fun _ => ?_)
        refine o_y (v := .bool (true)) rfl rfl (y_pick (b := true) rfl rfl) ?_
        refine o_y (v := .bool (true)) rfl rfl (y_move rfl) ?_
        refine o_guard (j := 17) (d := 34) (b := true) rfl rfl rfl (fun h => by cases h) rfl (fun _ => ?_)
        refine o_guard (j := 17) (d := 34) (b := true) rfl rfl rfl (fun h => by cases h) rfl (fun _ => ?_)
        refine o_y (v := .bool (true)) rfl rfl (y_pick (b := true) rfl rfl) ?_
        refine o_y (v := .bool (true)) rfl rfl (y_move rfl) ?_
        refine o_guard (j := 21) (d := 38) (b := true) rfl rfl rfl (fun h => by cases h) rfl (fun _ => ?_)
        refine o_guard (j := 21) (d := 38) (b := true) rfl rfl rfl (fun h => by cases h) rfl (fun _ => ?_)
        refine o_guard (j := 21) (d := 38) (b := true) rfl rfl rfl (fun h => by cases h) rfl (fun _ => ?_)
        refine o_y (v := .bool (true)) rfl rfl (y_pick (b := true) rfl rfl) ?_
        refine o_nil ?_
        refine hK4 _ _ ?_
        refine c_cond (t := true) rfl (fun _ => ?_) (fun h => by cases h)
        refine c_seq fun K31 hK31 => ?_
        refine c_region ?_
        refine o_y (v := .agg (#[.int .u8 (0), .slice none 0 0])) rfl rfl (y_build rfl (by first | kernel_rfl | simp [])) ?_
        refine o_storeS (H' := [(g1, .cells (#[.int .u8 (0), .slice none 0 0]) 25 (0, 0))]) 0 rfl rfl rfl s25 rfl (by simp [Value.oneCell']) rfl ?_
        refine o_y (v := .int .i64 (2)) rfl rfl (y_assign rfl) ?_
        refine o_nil ?_
        refine hK31 _ _ ?_
        refine c_ret ?_
        refine fun w hw => ⟨[.agg (#[.int .u8 (0), .slice none 0 0]), .int .i64 (2)], ⟨⟨_, rfl, loadS Try.underlying25 rfl s25 ((Rd.whole (k := 0) rfl) w hw)⟩, rfl, trivial⟩, ?_⟩
        have hq := plan_bad (p := p) (show bad w1 w2 lost by unfold bad; omega)
        simp only [planW, planR, planE, hq]
        exact ⟨_, List.nil_sublist _, none, 0, 0, rfl, .none'⟩
        first | done | rfl
    ·
      have hc2' := of_decide_eq_true hc2
      -- way FT
      refine o_guard (j := 6) (d := 23) (b := true) rfl rfl rfl (fun h => by cases h) rfl (fun _ => ?_)
      refine o_guard (j := 6) (d := 23) (b := true) rfl rfl rfl (fun h => by cases h) rfl (fun _ => ?_)
      refine o_guard (j := 6) (d := 23) (b := true) rfl rfl rfl (fun h => by cases h) rfl (fun _ => ?_)
      refine o_guard (j := 6) (d := 23) (b := true) rfl rfl rfl (fun h => by cases h) rfl (fun _ => ?_)
      refine o_y (v := .bool (true)) rfl rfl (y_pick (b := true) rfl rfl) ?_
      refine o_y (v := .bool (true)) rfl rfl (y_move rfl) ?_
      refine o_guard (j := 12) (d := 29) (b := true) rfl rfl rfl (fun h => by cases h) rfl (fun _ => ?_)
      refine o_guard (j := 12) (d := 29) (b := true) rfl rfl rfl (fun h => by cases h) rfl (fun _ => ?_)
      refine o_guard (j := 12) (d := 29) (b := true) rfl rfl rfl (fun h => by cases h) rfl (fun _ => ?_)
      refine o_y (v := .bool (true)) rfl rfl (y_pick (b := true) rfl rfl) ?_
      refine o_y (v := .bool (true)) rfl rfl (y_move rfl) ?_
      refine o_guard (j := 17) (d := 34) (b := true) rfl rfl rfl (fun h => by cases h) rfl (fun _ => ?_)
      refine o_guard (j := 17) (d := 34) (b := true) rfl rfl rfl (fun h => by cases h) rfl (fun _ => ?_)
      refine o_y (v := .bool (true)) rfl rfl (y_pick (b := true) rfl rfl) ?_
      refine o_y (v := .bool (true)) rfl rfl (y_move rfl) ?_
      refine o_guard (j := 21) (d := 38) (b := true) rfl rfl rfl (fun h => by cases h) rfl (fun _ => ?_)
      refine o_guard (j := 21) (d := 38) (b := true) rfl rfl rfl (fun h => by cases h) rfl (fun _ => ?_)
      refine o_guard (j := 21) (d := 38) (b := true) rfl rfl rfl (fun h => by cases h) rfl (fun _ => ?_)
      refine o_y (v := .bool (true)) rfl rfl (y_pick (b := true) rfl rfl) ?_
      refine o_nil ?_
      refine hK4 _ _ ?_
      refine c_cond (t := true) rfl (fun _ => ?_) (fun h => by cases h)
      refine c_seq fun K32 hK32 => ?_
      refine c_region ?_
      refine o_y (v := .agg (#[.int .u8 (0), .slice none 0 0])) rfl rfl (y_build rfl (by first | kernel_rfl | simp [])) ?_
      refine o_storeS (H' := [(g1, .cells (#[.int .u8 (0), .slice none 0 0]) 25 (0, 0))]) 0 rfl rfl rfl s25 rfl (by simp [Value.oneCell']) rfl ?_
      refine o_y (v := .int .i64 (2)) rfl rfl (y_assign rfl) ?_
      refine o_nil ?_
      refine hK32 _ _ ?_
      refine c_ret ?_
      refine fun w hw => ⟨[.agg (#[.int .u8 (0), .slice none 0 0]), .int .i64 (2)], ⟨⟨_, rfl, loadS Try.underlying25 rfl s25 ((Rd.whole (k := 0) rfl) w hw)⟩, rfl, trivial⟩, ?_⟩
      have hq := plan_bad (p := p) (show bad w1 w2 lost by unfold bad; omega)
      simp only [planW, planR, planE, hq]
      exact ⟨_, List.nil_sublist _, none, 0, 0, rfl, .none'⟩
      first | done | rfl
  ·
    have hc1' := of_decide_eq_true hc1
    -- way T
    refine o_guard (j := 2) (d := 19) (b := true) rfl rfl rfl (fun h => by cases h) rfl (fun _ => ?_)
    refine o_guard (j := 2) (d := 19) (b := true) rfl rfl rfl (fun h => by cases h) rfl (fun _ => ?_)
    refine o_y (v := .bool (true)) rfl rfl (y_pick (b := true) rfl rfl) ?_
    refine o_y (v := .bool (true)) rfl rfl (y_move rfl) ?_
    refine o_guard (j := 6) (d := 23) (b := true) rfl rfl rfl (fun h => by cases h) rfl (fun _ => ?_)
    refine o_guard (j := 6) (d := 23) (b := true) rfl rfl rfl (fun h => by cases h) rfl (fun _ => ?_)
    refine o_guard (j := 6) (d := 23) (b := true) rfl rfl rfl (fun h => by cases h) rfl (fun _ => ?_)
    refine o_guard (j := 6) (d := 23) (b := true) rfl rfl rfl (fun h => by cases h) rfl (fun _ => ?_)
    refine o_y (v := .bool (true)) rfl rfl (y_pick (b := true) rfl rfl) ?_
    refine o_y (v := .bool (true)) rfl rfl (y_move rfl) ?_
    refine o_guard (j := 12) (d := 29) (b := true) rfl rfl rfl (fun h => by cases h) rfl (fun _ => ?_)
    refine o_guard (j := 12) (d := 29) (b := true) rfl rfl rfl (fun h => by cases h) rfl (fun _ => ?_)
    refine o_guard (j := 12) (d := 29) (b := true) rfl rfl rfl (fun h => by cases h) rfl (fun _ => ?_)
    refine o_y (v := .bool (true)) rfl rfl (y_pick (b := true) rfl rfl) ?_
    refine o_y (v := .bool (true)) rfl rfl (y_move rfl) ?_
    refine o_guard (j := 17) (d := 34) (b := true) rfl rfl rfl (fun h => by cases h) rfl (fun _ => ?_)
    refine o_guard (j := 17) (d := 34) (b := true) rfl rfl rfl (fun h => by cases h) rfl (fun _ => ?_)
    refine o_y (v := .bool (true)) rfl rfl (y_pick (b := true) rfl rfl) ?_
    refine o_y (v := .bool (true)) rfl rfl (y_move rfl) ?_
    refine o_guard (j := 21) (d := 38) (b := true) rfl rfl rfl (fun h => by cases h) rfl (fun _ => ?_)
    refine o_guard (j := 21) (d := 38) (b := true) rfl rfl rfl (fun h => by cases h) rfl (fun _ => ?_)
    refine o_guard (j := 21) (d := 38) (b := true) rfl rfl rfl (fun h => by cases h) rfl (fun _ => ?_)
    refine o_y (v := .bool (true)) rfl rfl (y_pick (b := true) rfl rfl) ?_
    refine o_nil ?_
    refine hK4 _ _ ?_
    refine c_cond (t := true) rfl (fun _ => ?_) (fun h => by cases h)
    refine c_seq fun K33 hK33 => ?_
    refine c_region ?_
    refine o_y (v := .agg (#[.int .u8 (0), .slice none 0 0])) rfl rfl (y_build rfl (by first | kernel_rfl | simp [])) ?_
    refine o_storeS (H' := [(g1, .cells (#[.int .u8 (0), .slice none 0 0]) 25 (0, 0))]) 0 rfl rfl rfl s25 rfl (by simp [Value.oneCell']) rfl ?_
    refine o_y (v := .int .i64 (2)) rfl rfl (y_assign rfl) ?_
    refine o_nil ?_
    refine hK33 _ _ ?_
    refine c_ret ?_
    refine fun w hw => ⟨[.agg (#[.int .u8 (0), .slice none 0 0]), .int .i64 (2)], ⟨⟨_, rfl, loadS Try.underlying25 rfl s25 ((Rd.whole (k := 0) rfl) w hw)⟩, rfl, trivial⟩, ?_⟩
    have hq := plan_bad (p := p) (show bad w1 w2 lost by unfold bad; omega)
    simp only [planW, planR, planE, hq]
    exact ⟨_, List.nil_sublist _, none, 0, 0, rfl, .none'⟩
    first | done | rfl

set_option maxRecDepth 100000 in
set_option maxHeartbeats 4000000 in
theorem f10_Same (x1 x2 : Int) (l1 l2 : List Int) (a1 : Option Addr) (b1 o1 cap1 m1 : Nat) (a2 : Option Addr) (b2 o2 cap2 m2 : Nat) (w : World) (hm1 : m1 = l1.length) (hs1 : Sl eInt w l1 a1 b1 o1 cap1) (hm2 : m2 = l2.length) (hs2 : Sl eInt w l2 a2 b2 o2 cap2) :
    Calls Try.prog 10 [.agg (#[.int .u8 (x1), .slice (a1) ((l1).length) (cap1)]), .agg (#[.int .u8 (x2), .slice (a2) ((l2).length) (cap2)])].toArray w fun e w' => e = .returned (.bool (decide (x1 = x2 ∧ l1 = l2))) ∧ Below w.heap.size w w' := by
  subst hm1
  subst hm2
  have hle1 := hs1.le
  have hmx1 := hs1.mx
  have hle2 := hs2.le
  have hmx2 := hs2.mx
  simp only [maxLen] at hmx1 hmx2
  refine (calls_of (P := Try.prog) (n := 38) (w0 := w) (S := fun _ => False) (H := []) (T := fun v _ => v = (.bool (decide (x1 = x2 ∧ l1 = l2)))) Try.func10 rfl Try.ntmps10 (Nat.le_of_ble_eq_true rfl) [.tmp 4] rfl (St.nil w _) ?_).mono fun e w' ⟨v, H', he, hs, hT⟩ => ⟨by rw [he, hT], hs.below⟩
  refine c_seq fun K1 hK1 => ?_
  refine c_region ?_
  refine o_box (v := .agg (#[.int .u8 (x1), .slice (a1) ((l1).length) (cap1)])) rfl rfl fun g1 => ?_
  refine o_box (v := .agg (#[.int .u8 (x2), .slice (a2) ((l2).length) (cap2)])) rfl rfl fun g2 => ?_
  refine o_y (v := .bool (false)) rfl rfl (y_assign rfl) ?_
  refine o_nil ?_
  refine hK1 _ _ ?_
  refine c_seq fun K2 hK2 => ?_
  refine c_seq fun K3 hK3 => ?_
  refine c_region ?_
  refine o_y (v := .pointer (some ⟨g1, 0, none⟩)) rfl rfl (y_fieldAddr (k := 0) rfl Try.underlying25 rfl rfl ⟨_, s5⟩ (by first | rfl | omega)) ?_
  refine o_y (v := .int .u8 (x1)) rfl rfl (y_load rfl Try.underlying5 rfl (Rd.one (k := 1) rfl rfl)) ?_
  refine o_y (v := .pointer (some ⟨g2, 0, none⟩)) rfl rfl (y_fieldAddr (k := 0) rfl Try.underlying25 rfl rfl ⟨_, s5⟩ (by first | rfl | omega)) ?_
  refine o_y (v := .int .u8 (x2)) rfl rfl (y_load rfl Try.underlying5 rfl (Rd.one (k := 0) rfl rfl)) ?_
  refine o_y (v := .bool (decide (x1 ≠ x2))) rfl rfl (y_neq rfl rfl rfl) ?_
  refine o_y (v := .bool (decide (x1 ≠ x2))) rfl rfl (y_move rfl) ?_
  cases hc1 : (decide (x1 ≠ x2) : Bool)
  ·
    have hc1' := of_decide_eq_false hc1
    -- way F
    refine o_guard (j := 5) (d := 11) (b := false) rfl rfl rfl (fun _ => ?_) rfl (fun h => by cases h)
    refine o_y (v := .pointer (some ⟨g1, 1, none⟩)) rfl rfl (y_fieldAddr (k := 1) rfl Try.underlying25 rfl rfl ⟨_, s23⟩ (by first | rfl | omega)) ?_
    refine o_guard (j := 5) (d := 11) (b := false) rfl rfl rfl (fun _ => ?_) rfl (fun h => by cases h)
    refine o_y (v := .slice (a1) ((l1).length) (cap1)) rfl rfl (y_load rfl Try.underlying23 rfl (Rd.one (k := 1) rfl rfl)) ?_
    refine o_guard (j := 5) (d := 11) (b := false) rfl rfl rfl (fun _ => ?_) rfl (fun h => by cases h)
    refine o_y (v := .int .i64 ((((l1).length : Nat) : Int))) rfl rfl (y_len rfl Try.underlying23) ?_
    refine o_guard (j := 5) (d := 11) (b := false) rfl rfl rfl (fun _ => ?_) rfl (fun h => by cases h)
    refine o_y (v := .pointer (some ⟨g2, 1, none⟩)) rfl rfl (y_fieldAddr (k := 1) rfl Try.underlying25 rfl rfl ⟨_, s23⟩ (by first | rfl | omega)) ?_
    refine o_guard (j := 5) (d := 11) (b := false) rfl rfl rfl (fun _ => ?_) rfl (fun h => by cases h)
    refine o_y (v := .slice (a2) ((l2).length) (cap2)) rfl rfl (y_load rfl Try.underlying23 rfl (Rd.one (k := 0) rfl rfl)) ?_
    refine o_guard (j := 5) (d := 11) (b := false) rfl rfl rfl (fun _ => ?_) rfl (fun h => by cases h)
    refine o_y (v := .int .i64 ((((l2).length : Nat) : Int))) rfl rfl (y_len rfl Try.underlying23) ?_
    refine o_guard (j := 5) (d := 11) (b := false) rfl rfl rfl (fun _ => ?_) rfl (fun h => by cases h)
    refine o_y (v := .bool (decide ((((l1).length : Nat) : Int) ≠ (((l2).length : Nat) : Int)))) rfl rfl (y_neq rfl rfl rfl) ?_
    refine o_y (v := .bool (decide ((((l1).length : Nat) : Int) ≠ (((l2).length : Nat) : Int)))) rfl rfl (y_pick (b := false) rfl rfl) ?_
    refine o_nil ?_
    refine hK3 _ _ ?_
    refine c_cond (t := decide ((((l1).length : Nat) : Int) ≠ (((l2).length : Nat) : Int))) rfl (fun hc2 => ?_) (fun hc2 => ?_)
    ·
      replace hc2 := of_decide_eq_true hc2
      -- way FT
      refine c_seq fun K4 hK4 => ?_
      refine c_region ?_
      refine o_y (v := .bool (false)) rfl rfl (y_assign rfl) ?_
      refine o_nil ?_
      refine hK4 _ _ ?_
      refine c_ret ?_
      refine fun w hw => ⟨[.bool (false)], ⟨rfl, trivial⟩, ?_⟩
      exact congrArg Value.bool (Eq.symm (decide_eq_false (by rintro ⟨h1, h2⟩; subst h2; first | omega | (simp_all; done))))
      first | done | rfl
    ·
      replace hc2 := of_decide_eq_false hc2
      -- way FF
      refine c_skip ?_
      refine hK2 _ _ ?_
      refine c_seq fun K5 hK5 => ?_
      refine c_seq fun K6 hK6 => ?_
      refine c_region ?_
      refine o_y (v := .int .i64 (0)) rfl rfl (y_assign rfl) ?_
      refine o_nil ?_
      refine hK6 _ _ ?_
      refine c_block ?_
      refine c_loop (fun d R H => ∃ (j : Nat), d = l1.length - (j) ∧ (j ≤ l1.length) ∧ (x1 = x2 ∧ l1.length = l2.length) ∧ (l1.take (j) = l2.take (j)) ∧ R 2 = .pointer (some ⟨g1, 0, none⟩) ∧ R 3 = .pointer (some ⟨g2, 0, none⟩) ∧ R 5 = .int .i64 (((j : Nat) : Int)) ∧ H = ([(g2, .cells (#[.int .u8 (x2), .slice (a2) ((l2).length) (cap2)]) 25 (0, 0)), (g1, .cells (#[.int .u8 (x1), .slice (a1) ((l1).length) (cap1)]) 25 (0, 0))] : Hp)) (l1.length - (0)) ?_ ?_
      ·
        refine ⟨0, rfl, by omega, ⟨by omega, by omega⟩, rfl, rfl, rfl, (ie (a := 0) (b := ((0 : Nat) : Int)) (by omega)), rfl⟩
      ·
        rintro d1 R1 _ ⟨j, hd1, hv1_0, hv1_1, hv1_2, h1_2, h1_3, h1_5, rfl⟩
        refine c_seq fun K7 hK7 => ?_
        refine c_seq fun K8 hK8 => ?_
        refine c_region ?_
        refine o_y (v := .int .i64 (((j : Nat) : Int))) rfl rfl (y_move h1_5) ?_
        refine o_y (v := .pointer (some ⟨g1, 1, none⟩)) rfl rfl (y_fieldAddr (k := 1) h1_2 Try.underlying25 rfl rfl ⟨_, s23⟩ (by first | rfl | omega)) ?_
        refine o_y (v := .slice (a1) ((l1).length) (cap1)) rfl rfl (y_load rfl Try.underlying23 rfl (Rd.one (k := 1) rfl rfl)) ?_
        refine o_y (v := .int .i64 ((((l1).length : Nat) : Int))) rfl rfl (y_len rfl Try.underlying23) ?_
        refine o_y (v := .bool (decide (((j : Nat) : Int) < (((l1).length : Nat) : Int)))) rfl rfl (y_lss rfl rfl rfl) ?_
        refine o_nil ?_
        refine hK8 _ _ ?_
        refine c_cond (t := decide (((j : Nat) : Int) < (((l1).length : Nat) : Int))) rfl (fun hc3 => ?_) (fun hc3 => ?_)
        ·
          replace hc3 := of_decide_eq_true hc3
          -- way FFLT
          refine c_skip ?_
          refine hK7 _ _ ?_
          refine c_seq fun K9 hK9 => ?_
          refine c_block ?_
          refine c_seq fun K10 hK10 => ?_
          refine c_draw 11 (by kernel_rfl) (by kernel_rfl) ?_
          refine q_y (v := .pointer (some ⟨g1, 1, none⟩)) rfl (y_fieldAddr (k := 1) h1_2 Try.underlying25 rfl rfl ⟨_, s23⟩ (by first | rfl | omega)) ?_
          refine q_y (v := .slice (a1) ((l1).length) (cap1)) rfl (y_load rfl Try.underlying23 rfl (Rd.one (k := 1) rfl rfl)) ?_
          refine q_y (v := .int .i64 (((j : Nat) : Int))) rfl (y_move h1_5) ?_
          refine q_y (v := .pointer (some ⟨b1, o1 + j * 1, none⟩)) rfl (y_ixO j (hs1.at_ (by omega)) rfl rfl Try.underlying23 s3 (by omega) (by first | omega | (simp; done) | (simp; omega))) ?_
          refine q_y (v := .int .i64 ((l1)[j])) rfl (y_load rfl Try.underlying3 rfl (SlG.rd (SlG.old hs1 (fun _ h => h)) j (by first | omega | (simp; done) | (simp; omega)))) ?_
          refine q_y (v := .pointer (some ⟨g2, 1, none⟩)) rfl (y_fieldAddr (k := 1) h1_3 Try.underlying25 rfl rfl ⟨_, s23⟩ (by first | rfl | omega)) ?_
          refine q_y (v := .slice (a2) ((l2).length) (cap2)) rfl (y_load rfl Try.underlying23 rfl (Rd.one (k := 0) rfl rfl)) ?_
          refine q_y (v := .int .i64 (((j : Nat) : Int))) rfl (y_move h1_5) ?_
          refine q_y (v := .pointer (some ⟨b2, o2 + j * 1, none⟩)) rfl (y_ixO j (hs2.at_ (by omega)) rfl rfl Try.underlying23 s3 (by omega) (by first | omega | (simp; done) | (simp; omega))) ?_
          refine q_y (v := .int .i64 ((l2)[j])) rfl (y_load rfl Try.underlying3 rfl (SlG.rd (SlG.old hs2 (fun _ h => h)) j (by first | omega | (simp; done) | (simp; omega)))) ?_
          refine q_y (v := .bool (decide ((l1)[j] ≠ (l2)[j]))) rfl (y_neq rfl rfl rfl) ?_
          refine q_nil ?_
          refine o_nil ?_
          refine hK10 _ _ ?_
          refine c_cond (t := decide ((l1)[j] ≠ (l2)[j])) rfl (fun hc4 => ?_) (fun hc4 => ?_)
          ·
            replace hc4 := of_decide_eq_true hc4
            -- way FFLTT
            refine c_seq fun K11 hK11 => ?_
            refine c_region ?_
            refine o_y (v := .bool (false)) rfl rfl (y_assign rfl) ?_
            refine o_nil ?_
            refine hK11 _ _ ?_
            refine c_ret ?_
            refine fun w hw => ⟨[.bool (false)], ⟨rfl, trivial⟩, ?_⟩
            exact congrArg Value.bool (Eq.symm (decide_eq_false (by rintro ⟨h1, h2⟩; subst h2; first | omega | (simp_all; done))))
            first | done | rfl
          ·
            replace hc4 := of_decide_eq_false hc4
            -- way FFLTF
            refine c_skip ?_
            refine hK9 _ _ ?_
            refine c_region ?_
            refine o_y (v := .int .i64 (((j : Nat) : Int))) rfl rfl (y_move h1_5) ?_
            refine o_y (v := .int .i64 ((((j : Nat) : Int)) + 1)) rfl rfl (y_add rfl rfl (wi_i64 (by omega) (by omega))) ?_
            refine o_y (v := .int .i64 ((((j : Nat) : Int)) + 1)) rfl rfl (y_assign rfl) ?_
            refine o_nil ?_
            refine ⟨_, by omega, j + 1, rfl, by omega, hv1_1, take_next hv1_2 (by omega) (by omega) (by first | assumption | omega), h1_2, h1_3, (ie (a := (((j : Nat) : Int)) + 1) (b := ((j + 1 : Nat) : Int)) (by omega)), rfl⟩
        ·
          replace hc3 := of_decide_eq_false hc3
          -- way FFLF
          refine c_exit ?_
          refine hK5 _ _ ?_
          refine c_seq fun K12 hK12 => ?_
          refine c_region ?_
          refine o_y (v := .bool (true)) rfl rfl (y_assign rfl) ?_
          refine o_nil ?_
          refine hK12 _ _ ?_
          refine c_ret ?_
          refine fun w hw => ⟨[.bool (true)], ⟨rfl, trivial⟩, ?_⟩
          exact congrArg Value.bool (Eq.symm (decide_eq_true ⟨by omega, take_all hv1_2 (by omega) (by omega)⟩))
          first | done | rfl
  ·
    have hc1' := of_decide_eq_true hc1
    -- way T
    refine o_guard (j := 5) (d := 11) (b := true) rfl rfl rfl (fun h => by cases h) rfl (fun _ => ?_)
    refine o_guard (j := 5) (d := 11) (b := true) rfl rfl rfl (fun h => by cases h) rfl (fun _ => ?_)
    refine o_guard (j := 5) (d := 11) (b := true) rfl rfl rfl (fun h => by cases h) rfl (fun _ => ?_)
    refine o_guard (j := 5) (d := 11) (b := true) rfl rfl rfl (fun h => by cases h) rfl (fun _ => ?_)
    refine o_guard (j := 5) (d := 11) (b := true) rfl rfl rfl (fun h => by cases h) rfl (fun _ => ?_)
    refine o_guard (j := 5) (d := 11) (b := true) rfl rfl rfl (fun h => by cases h) rfl (fun _ => ?_)
    refine o_guard (j := 5) (d := 11) (b := true) rfl rfl rfl (fun h => by cases h) rfl (fun _ => ?_)
    refine o_y (v := .bool (true)) rfl rfl (y_pick (b := true) rfl rfl) ?_
    refine o_nil ?_
    refine hK3 _ _ ?_
    refine c_cond (t := true) rfl (fun _ => ?_) (fun h => by cases h)
    refine c_seq fun K13 hK13 => ?_
    refine c_region ?_
    refine o_y (v := .bool (false)) rfl rfl (y_assign rfl) ?_
    refine o_nil ?_
    refine hK13 _ _ ?_
    refine c_ret ?_
    refine fun w hw => ⟨[.bool (false)], ⟨rfl, trivial⟩, ?_⟩
    exact congrArg Value.bool (Eq.symm (decide_eq_false (by rintro ⟨h1, h2⟩; subst h2; first | omega | (simp_all; done))))
    first | done | rfl

end Go.Proofs.Ytdekckpoolkgnaa.Plan
