/- Proved: what a law of package wall comes to; the conditions stand in the statements. -/
import Derived.Test.YtaekfjidnbcajaaWallG
set_option linter.unusedVariables false
set_option linter.unusedSimpArgs false
namespace Go.Proofs.Ytaekfjidnbcajaa.Wall
open Go Go.RowKit Go.Proofs.Ytaekfjidnbcajaa.Eng

set_option maxRecDepth 100000 in
set_option maxHeartbeats 4000000 in
theorem f5_WallTorn (a b : Blk) (n : Int) (w : World) (hn0 : -9223372036854775808 ≤ n) (hn1 : n ≤ 9223372036854775807) :
    Calls Try.prog 5 [.agg (bv (a)), .agg (bv (b)), .int .i64 (n)].toArray w fun e w' => e = .returned (.bool (true)) ∧ Below w.heap.size w w' := by
  refine (calls_of (P := Try.prog) (n := 41) (w0 := w) (S := fun _ => False) (H := []) (T := fun v _ => v = (.bool (true))) Try.func5 rfl Try.ntmps5 (Nat.le_of_ble_eq_true rfl) [.tmp 6] rfl (St.nil w _) ?_).mono fun e w' ⟨v, H', he, hs, hT⟩ => ⟨by rw [he, hT], hs.below⟩
  refine c_seq fun K1 hK1 => ?_
  refine c_region ?_
  refine o_box (v := .agg (bv (a))) rfl rfl fun g1 => ?_
  refine o_box (v := .agg (bv (b))) rfl rfl fun g2 => ?_
  refine o_y (v := .bool (false)) rfl rfl (y_assign rfl) ?_
  refine o_nil ?_
  refine hK1 _ _ ?_
  refine c_seq fun K2 hK2 => ?_
  refine c_region ?_
  refine o_y (v := .agg (bv (a))) rfl rfl (y_loadB T25 rfl (Rd.whole (k := 1) rfl)) ?_
  refine o_y (v := .agg (bv (b))) rfl rfl (y_loadB T25 rfl (Rd.whole (k := 0) rfl)) ?_
  refine o_y (v := .int .i64 (n)) rfl rfl (y_move rfl) ?_
  refine o_y (v := .agg (bv (mixB (n : Int).toNat (b) (a)))) rfl rfl (y_call (vs := [.agg (bv (a)), .agg (bv (b)), .int .i64 (n)]) b13 rfl (fun w hw => f13_torn _ _ _ w (by omega) (by omega))) ?_
  refine o_alloc (z := .agg (bv (zB))) rfl z25 fun g3 => ?_
  refine o_storeB (H' := [(g3, .cells (bv (mixB (n : Int).toNat (b) (a))) 25 (0, 0)), (g2, .cells (bv (b)) 25 (0, 0)), (g1, .cells (bv (a)) 25 (0, 0))]) T25 0 rfl rfl rfl rfl ?_
  refine o_nil ?_
  refine hK2 _ _ ?_
  refine c_seq fun K3 hK3 => ?_
  refine c_seq fun K4 hK4 => ?_
  refine c_region ?_
  refine o_y (v := .int .i64 (0)) rfl rfl (y_assign rfl) ?_
  refine o_nil ?_
  refine hK4 _ _ ?_
  refine c_block ?_
  refine c_loop (fun d R H => ∃ (j : Nat), d = 64 - (j) ∧ (j ≤ 64) ∧ R 2 = .int .i64 (n) ∧ R 3 = .pointer (some ⟨g1, 0, none⟩) ∧ R 4 = .pointer (some ⟨g2, 0, none⟩) ∧ R 7 = .pointer (some ⟨g3, 0, none⟩) ∧ R 8 = .int .i64 (((j : Nat) : Int)) ∧ H = ([(g3, .cells (bv (mixB (n : Int).toNat (b) (a))) 25 (0, 0)), (g2, .cells (bv (b)) 25 (0, 0)), (g1, .cells (bv (a)) 25 (0, 0))] : Hp)) (64 - (0)) ?_ ?_
  ·
    refine ⟨0, rfl, by omega, rfl, rfl, rfl, rfl, (ie (a := 0) (b := ((0 : Nat) : Int)) (by omega)), rfl⟩
  ·
    rintro d1 R1 _ ⟨j, hd1, hv1_0, h1_2, h1_3, h1_4, h1_7, h1_8, rfl⟩
    refine c_seq fun K5 hK5 => ?_
    refine c_seq fun K6 hK6 => ?_
    refine c_region ?_
    refine o_y (v := .int .i64 (((j : Nat) : Int))) rfl rfl (y_move h1_8) ?_
    refine o_y (v := .bool (decide (((j : Nat) : Int) < 64))) rfl rfl (y_lss rfl rfl rfl) ?_
    refine o_nil ?_
    refine hK6 _ _ ?_
    refine c_cond (t := decide (((j : Nat) : Int) < 64)) rfl (fun hc1 => ?_) (fun hc1 => ?_)
    ·
      replace hc1 := of_decide_eq_true hc1
      -- way LT
      refine c_skip ?_
      refine hK5 _ _ ?_
      refine c_seq fun K7 hK7 => ?_
      refine c_block ?_
      refine c_seq fun K8 hK8 => ?_
      refine c_region ?_
      refine o_y (v := .int .i64 (((j : Nat) : Int))) rfl rfl (y_move h1_8) ?_
      refine o_y (v := .pointer (some ⟨g1, j, none⟩)) rfl rfl (y_ixArr (sz := 1) h1_3 rfl Try.underlying25 s5 (by omega) (by omega) (by omega)) ?_
      refine o_y (v := .int .u8 (((a)[j]).toNat : Int)) rfl rfl (y_load rfl Try.underlying5 rfl (Rd.one (k := 2) rfl (bv_get _ _ (by omega)))) ?_
      refine o_y (v := .int .u8 (((a)[j]).toNat : Int)) rfl rfl (y_assign rfl) ?_
      refine o_nil ?_
      refine hK8 _ _ ?_
      refine c_seq fun K9 hK9 => ?_
      refine c_seq fun K10 hK10 => ?_
      refine c_region ?_
      refine o_y (v := .int .i64 (((j : Nat) : Int))) rfl rfl (y_move h1_8) ?_
      refine o_y (v := .int .i64 (n)) rfl rfl (y_move h1_2) ?_
      refine o_y (v := .bool (decide (((j : Nat) : Int) < n))) rfl rfl (y_lss rfl rfl rfl) ?_
      refine o_nil ?_
      refine hK10 _ _ ?_
      refine c_cond (t := decide (((j : Nat) : Int) < n)) rfl (fun hc2 => ?_) (fun hc2 => ?_)
      ·
        replace hc2 := of_decide_eq_true hc2
        -- way LTT
        refine c_region ?_
        refine o_y (v := .int .i64 (((j : Nat) : Int))) rfl rfl (y_move h1_8) ?_
        refine o_y (v := .pointer (some ⟨g2, j, none⟩)) rfl rfl (y_ixArr (sz := 1) h1_4 rfl Try.underlying25 s5 (by omega) (by omega) (by omega)) ?_
        refine o_y (v := .int .u8 (((b)[j]).toNat : Int)) rfl rfl (y_load rfl Try.underlying5 rfl (Rd.one (k := 1) rfl (bv_get _ _ (by omega)))) ?_
        refine o_y (v := .int .u8 (((b)[j]).toNat : Int)) rfl rfl (y_assign rfl) ?_
        refine o_nil ?_
        refine hK9 _ _ ?_
        refine c_seq fun K11 hK11 => ?_
        refine c_region ?_
        refine o_y (v := .int .i64 (((j : Nat) : Int))) rfl rfl (y_move h1_8) ?_
        refine o_y (v := .pointer (some ⟨g3, j, none⟩)) rfl rfl (y_ixArr (sz := 1) h1_7 rfl Try.underlying25 s5 (by omega) (by omega) (by omega)) ?_
        refine o_y (v := .int .u8 (((mixB (n : Int).toNat (b) (a))[j]).toNat : Int)) rfl rfl (y_load rfl Try.underlying5 rfl (Rd.one (k := 0) rfl (bv_get _ _ (by omega)))) ?_
        refine o_y (v := .int .u8 (((b)[j]).toNat : Int)) rfl rfl (y_move rfl) ?_
        refine o_y (v := .bool (false)) rfl rfl (y_bool (y_neqB8 rfl rfl) (decide_eq_false (torn_byte n j a b (by omega) (by first | exact .inl ⟨by omega, rfl⟩ | exact .inr ⟨by omega, rfl⟩)))) ?_
        refine o_nil ?_
        refine hK11 _ _ ?_
        refine c_cond (t := false) rfl (fun h => by cases h) (fun _ => ?_)
        refine c_skip ?_
        refine hK7 _ _ ?_
        refine c_region ?_
        refine o_y (v := .int .i64 (((j : Nat) : Int))) rfl rfl (y_move h1_8) ?_
        refine o_y (v := .int .i64 ((((j : Nat) : Int)) + 1)) rfl rfl (y_add rfl rfl (wi_i64 (by omega) (by omega))) ?_
        refine o_y (v := .int .i64 ((((j : Nat) : Int)) + 1)) rfl rfl (y_assign rfl) ?_
        refine o_nil ?_
        refine ⟨_, by omega, j + 1, rfl, by omega, h1_2, h1_3, h1_4, h1_7, (ie (a := (((j : Nat) : Int)) + 1) (b := ((j + 1 : Nat) : Int)) (by omega)), rfl⟩
      ·
        replace hc2 := of_decide_eq_false hc2
        -- way LTF
        refine c_skip ?_
        refine hK9 _ _ ?_
        refine c_seq fun K12 hK12 => ?_
        refine c_region ?_
        refine o_y (v := .int .i64 (((j : Nat) : Int))) rfl rfl (y_move h1_8) ?_
        refine o_y (v := .pointer (some ⟨g3, j, none⟩)) rfl rfl (y_ixArr (sz := 1) h1_7 rfl Try.underlying25 s5 (by omega) (by omega) (by omega)) ?_
        refine o_y (v := .int .u8 (((mixB (n : Int).toNat (b) (a))[j]).toNat : Int)) rfl rfl (y_load rfl Try.underlying5 rfl (Rd.one (k := 0) rfl (bv_get _ _ (by omega)))) ?_
        refine o_y (v := .int .u8 (((a)[j]).toNat : Int)) rfl rfl (y_move rfl) ?_
        refine o_y (v := .bool (false)) rfl rfl (y_bool (y_neqB8 rfl rfl) (decide_eq_false (torn_byte n j a b (by omega) (by first | exact .inl ⟨by omega, rfl⟩ | exact .inr ⟨by omega, rfl⟩)))) ?_
        refine o_nil ?_
        refine hK12 _ _ ?_
        refine c_cond (t := false) rfl (fun h => by cases h) (fun _ => ?_)
        refine c_skip ?_
        refine hK7 _ _ ?_
        refine c_region ?_
        refine o_y (v := .int .i64 (((j : Nat) : Int))) rfl rfl (y_move h1_8) ?_
        refine o_y (v := .int .i64 ((((j : Nat) : Int)) + 1)) rfl rfl (y_add rfl rfl (wi_i64 (by omega) (by omega))) ?_
        refine o_y (v := .int .i64 ((((j : Nat) : Int)) + 1)) rfl rfl (y_assign rfl) ?_
        refine o_nil ?_
        refine ⟨_, by omega, j + 1, rfl, by omega, h1_2, h1_3, h1_4, h1_7, (ie (a := (((j : Nat) : Int)) + 1) (b := ((j + 1 : Nat) : Int)) (by omega)), rfl⟩
    ·
      replace hc1 := of_decide_eq_false hc1
      -- way LF
      refine c_exit ?_
      refine hK3 _ _ ?_
      refine c_seq fun K13 hK13 => ?_
      refine c_draw 10 (by kernel_rfl) (by kernel_rfl) ?_
      refine q_y (v := .agg (bv (a))) rfl (y_loadB T25 h1_3 (Rd.whole (k := 2) rfl)) ?_
      refine q_y (v := .agg (bv (a))) rfl (y_loadB T25 h1_3 (Rd.whole (k := 2) rfl)) ?_
      refine q_y (v := .int .i64 (n)) rfl (y_move h1_2) ?_
      refine q_y (v := .agg (bv (mixB (n : Int).toNat (a) (a)))) rfl (y_call (vs := [.agg (bv (a)), .agg (bv (a)), .int .i64 (n)]) b13 rfl (fun w hw => f13_torn _ _ _ w (by omega) (by omega))) ?_
      refine q_y (v := .agg (bv (a))) rfl (y_loadB T25 h1_3 (Rd.whole (k := 2) rfl)) ?_
      refine q_y (v := .bool (true)) rfl (y_bool (y_eqlV T25 rfl rfl) (decide_eq_true (mixB_same _ _))) ?_
      refine q_y (v := .bool (true)) rfl (y_move rfl) ?_
      refine q_guardT (j := 6) (d := 38) rfl rfl rfl ?_
      refine q_y (v := .bool (true)) rfl (y_call (vs := []) b11 rfl (fun w hw => f11_lives w)) ?_
      refine q_y (v := .bool (true)) rfl (y_pick (b := true) rfl rfl) ?_
      refine q_y (v := .bool (true)) rfl (y_assign rfl) ?_
      refine q_nil ?_
      refine o_nil ?_
      refine hK13 _ _ ?_
      refine c_ret ?_
      refine fun w hw => ⟨[.bool (true)], ⟨rfl, trivial⟩, ?_⟩
      exact rfl

end Go.Proofs.Ytaekfjidnbcajaa.Wall
