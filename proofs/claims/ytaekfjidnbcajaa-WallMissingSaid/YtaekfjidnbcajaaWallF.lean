/- Proved: what the functions of package wall, and of its reference, come to; the conditions stand in the statements. -/
import Derived.Test.YtaekfjidnbcajaaWallBase
set_option linter.unusedVariables false
set_option linter.unusedSimpArgs false
namespace Go.Proofs.Ytaekfjidnbcajaa.Wall
open Go Go.RowKit Go.Proofs.Ytaekfjidnbcajaa.Eng

set_option maxRecDepth 100000 in
set_option maxHeartbeats 4000000 in
theorem f12_xor (a b : Blk) (w : World)  :
    Calls Try.prog 12 [.agg (bv (a)), .agg (bv (b))].toArray w fun e w' => e = .returned (.agg (bv (xorB a b))) ∧ Below w.heap.size w w' := by
  refine (calls_of (P := Try.prog) (n := 20) (w0 := w) (S := fun _ => False) (H := []) (T := fun v _ => v = (.agg (bv (xorB a b)))) Try.func12 rfl Try.ntmps12 (Nat.le_of_ble_eq_true rfl) [.cell 4 25] rfl (St.nil w _) ?_).mono fun e w' ⟨v, H', he, hs, hT⟩ => ⟨by rw [he, hT], hs.below⟩
  refine c_seq fun K1 hK1 => ?_
  refine c_region ?_
  refine o_box (v := .agg (bv (a))) rfl rfl fun g1 => ?_
  refine o_box (v := .agg (bv (b))) rfl rfl fun g2 => ?_
  refine o_alloc (z := .agg (bv (zB))) rfl z25 fun g3 => ?_
  refine o_nil ?_
  refine hK1 _ _ ?_
  refine c_seq fun K2 hK2 => ?_
  refine c_seq fun K3 hK3 => ?_
  refine c_region ?_
  refine o_y (v := .agg (bv (b))) rfl rfl (y_loadB T25 rfl (Rd.whole (k := 1) rfl)) ?_
  refine o_y (v := .int .i64 (0)) rfl rfl (y_move rfl) ?_
  refine o_nil ?_
  refine hK3 _ _ ?_
  refine c_block ?_
  refine c_loop (fun d R H => ∃ (j : Nat), d = 64 - (j) ∧ (j ≤ 64) ∧ R 2 = .pointer (some ⟨g1, 0, none⟩) ∧ R 4 = .pointer (some ⟨g3, 0, none⟩) ∧ R 7 = .agg (bv (b)) ∧ R 8 = .int .i64 (((j : Nat) : Int)) ∧ H = ([(g3, .cells (bv (zB)) 25 (0, 0)), (g2, .cells (bv (b)) 25 (0, 0)), (g1, .cells (bv (mixB (j) (xorB a b) a)) 25 (0, 0))] : Hp)) (64 - (0)) ?_ ?_
  ·
    refine ⟨0, rfl, by omega, rfl, rfl, rfl, (ie (a := 0) (b := ((0 : Nat) : Int)) (by omega)), ?_⟩
    rw [mixB_zero]; first | done | rfl
  ·
    rintro d1 R1 _ ⟨j, hd1, hv1_0, h1_2, h1_4, h1_7, h1_8, rfl⟩
    refine c_seq fun K4 hK4 => ?_
    refine c_region ?_
    refine o_y (v := .bool (decide (((j : Nat) : Int) < 64))) rfl rfl (y_lss h1_8 rfl rfl) ?_
    refine o_nil ?_
    refine hK4 _ _ ?_
    refine c_seq fun K5 hK5 => ?_
    refine c_cond (t := decide (((j : Nat) : Int) < 64)) rfl (fun hc1 => ?_) (fun hc1 => ?_)
    ·
      replace hc1 := of_decide_eq_true hc1
      -- way LT
      refine c_skip ?_
      refine hK5 _ _ ?_
      refine c_seq fun K6 hK6 => ?_
      refine c_block ?_
      refine c_seq fun K7 hK7 => ?_
      refine c_region ?_
      refine o_y (v := .int .i64 (((j : Nat) : Int))) rfl rfl (y_move h1_8) ?_
      refine o_y (v := .int .u8 (((b)[j]).toNat : Int)) rfl rfl (y_ixVal h1_7 h1_8 Try.underlying25 s5 Try.underlying5 rfl (by omega) (by omega) (bv_get _ _ (by omega))) ?_
      refine o_y (v := .int .i64 (((j : Nat) : Int))) rfl rfl (y_assign rfl) ?_
      refine o_y (v := .int .u8 (((b)[j]).toNat : Int)) rfl rfl (y_assign rfl) ?_
      refine o_nil ?_
      refine hK7 _ _ ?_
      refine c_region ?_
      refine o_y (v := .int .i64 (((j : Nat) : Int))) rfl rfl (y_move rfl) ?_
      refine o_y (v := .pointer (some ⟨g1, j, none⟩)) rfl rfl (y_ixArr (sz := 1) h1_2 rfl Try.underlying25 s5 (by omega) (by omega) (by omega)) ?_
      refine o_y (v := .int .u8 (((mixB (j) (xorB a b) a)[j]).toNat : Int)) rfl rfl (y_load rfl Try.underlying5 rfl (Rd.one (k := 2) rfl (bv_get _ _ (by omega)))) ?_
      refine o_y (v := .int .u8 (((b)[j]).toNat : Int)) rfl rfl (y_move rfl) ?_
      refine o_y (v := .int .u8 ((((mixB (j) (xorB a b) a)[j]) ^^^ ((b)[j])).toNat : Int)) rfl rfl (y_xorB rfl rfl) ?_
      refine o_y (v := .pointer (some ⟨g1, j, none⟩)) rfl rfl (y_ixArr (sz := 1) h1_2 rfl Try.underlying25 s5 (by omega) (by omega) (by omega)) ?_
      refine o_storeB1 (H' := [(g3, .cells (bv (zB)) 25 (0, 0)), (g2, .cells (bv (b)) 25 (0, 0)), (g1, .cells (bv ((mixB (j) (xorB a b) a).set j (((mixB (j) (xorB a b) a)[j]) ^^^ ((b)[j])) (by omega))) 25 (0, 0))]) 2 (by omega) s5 rfl rfl rfl rfl ?_
      refine o_nil ?_
      refine hK6 _ _ ?_
      refine c_region ?_
      refine o_y (v := .int .i64 ((((j : Nat) : Int)) + 1)) rfl rfl (y_add h1_8 rfl (wi_i64 (by omega) (by omega))) ?_
      refine o_y (v := .int .i64 ((((j : Nat) : Int)) + 1)) rfl rfl (y_move rfl) ?_
      refine o_nil ?_
      refine ⟨_, by omega, j + 1, rfl, by omega, h1_2, h1_4, h1_7, (ie (a := (((j : Nat) : Int)) + 1) (b := ((j + 1 : Nat) : Int)) (by omega)), ?_⟩
      rw [mix_xor]; first | done | rfl
    ·
      replace hc1 := of_decide_eq_false hc1
      -- way LF
      refine c_exit ?_
      refine hK2 _ _ ?_
      refine c_seq fun K8 hK8 => ?_
      refine c_region ?_
      refine o_y (v := .agg (bv (mixB (j) (xorB a b) a))) rfl rfl (y_loadB T25 h1_2 (Rd.whole (k := 2) rfl)) ?_
      refine o_storeB (H' := [(g3, .cells (bv (mixB (j) (xorB a b) a)) 25 (0, 0)), (g2, .cells (bv (b)) 25 (0, 0)), (g1, .cells (bv (mixB (j) (xorB a b) a)) 25 (0, 0))]) T25 0 h1_4 rfl rfl rfl ?_
      refine o_nil ?_
      refine hK8 _ _ ?_
      refine c_ret ?_
      refine fun w hw => ⟨[.agg (bv (mixB (j) (xorB a b) a))], ⟨⟨_, h1_4, loadB T25 ((Rd.whole (k := 0) rfl) w hw)⟩, trivial⟩, ?_⟩
      obtain rfl : j = 64 := by omega
      rw [mixB_full]
      first | done | rfl

set_option maxRecDepth 100000 in
set_option maxHeartbeats 4000000 in
theorem f16_rxor (a b : Blk) (w : World)  :
    Calls Try.prog 16 [.agg (bv (a)), .agg (bv (b))].toArray w fun e w' => e = .returned (.agg (bv (xorB a b))) ∧ Below w.heap.size w w' := by
  refine (calls_of (P := Try.prog) (n := 21) (w0 := w) (S := fun _ => False) (H := []) (T := fun v _ => v = (.agg (bv (xorB a b)))) Try.func16 rfl Try.ntmps16 (Nat.le_of_ble_eq_true rfl) [.cell 4 25] rfl (St.nil w _) ?_).mono fun e w' ⟨v, H', he, hs, hT⟩ => ⟨by rw [he, hT], hs.below⟩
  refine c_seq fun K1 hK1 => ?_
  refine c_region ?_
  refine o_box (v := .agg (bv (a))) rfl rfl fun g1 => ?_
  refine o_box (v := .agg (bv (b))) rfl rfl fun g2 => ?_
  refine o_alloc (z := .agg (bv (zB))) rfl z25 fun g3 => ?_
  refine o_nil ?_
  refine hK1 _ _ ?_
  refine c_seq fun K2 hK2 => ?_
  refine c_region ?_
  refine o_alloc (z := .agg (bv (zB))) rfl z25 fun g4 => ?_
  refine o_nil ?_
  refine hK2 _ _ ?_
  refine c_seq fun K3 hK3 => ?_
  refine c_seq fun K4 hK4 => ?_
  refine c_region ?_
  refine o_y (v := .int .i64 (0)) rfl rfl (y_assign rfl) ?_
  refine o_nil ?_
  refine hK4 _ _ ?_
  refine c_block ?_
  refine c_loop (fun d R H => ∃ (j : Nat), d = 64 - (j) ∧ (j ≤ 64) ∧ R 2 = .pointer (some ⟨g1, 0, none⟩) ∧ R 3 = .pointer (some ⟨g2, 0, none⟩) ∧ R 4 = .pointer (some ⟨g3, 0, none⟩) ∧ R 5 = .pointer (some ⟨g4, 0, none⟩) ∧ R 6 = .int .i64 (((j : Nat) : Int)) ∧ H = ([(g4, .cells (bv (mixB (j) (xorB a b) zB)) 25 (0, 0)), (g3, .cells (bv (zB)) 25 (0, 0)), (g2, .cells (bv (b)) 25 (0, 0)), (g1, .cells (bv (a)) 25 (0, 0))] : Hp)) (64 - (0)) ?_ ?_
  ·
    refine ⟨0, rfl, by omega, rfl, rfl, rfl, rfl, (ie (a := 0) (b := ((0 : Nat) : Int)) (by omega)), ?_⟩
    rw [mixB_zero]; first | done | rfl
  ·
    rintro d1 R1 _ ⟨j, hd1, hv1_0, h1_2, h1_3, h1_4, h1_5, h1_6, rfl⟩
    refine c_seq fun K5 hK5 => ?_
    refine c_seq fun K6 hK6 => ?_
    refine c_region ?_
    refine o_y (v := .int .i64 (((j : Nat) : Int))) rfl rfl (y_move h1_6) ?_
    refine o_y (v := .bool (decide (((j : Nat) : Int) < 64))) rfl rfl (y_lss rfl rfl rfl) ?_
    refine o_nil ?_
    refine hK6 _ _ ?_
    refine c_cond (t := decide (((j : Nat) : Int) < 64)) rfl (fun hc1 => ?_) (fun hc1 => ?_)
    ·
      replace hc1 := of_decide_eq_true hc1
      -- way LT
      refine c_skip ?_
      refine hK5 _ _ ?_
      refine c_seq fun K7 hK7 => ?_
      refine c_block ?_
      refine c_draw 9 (by kernel_rfl) (by kernel_rfl) ?_
      refine q_y (v := .int .i64 (((j : Nat) : Int))) rfl (y_move h1_6) ?_
      refine q_y (v := .int .i64 (((j : Nat) : Int))) rfl (y_move h1_6) ?_
      refine q_y (v := .pointer (some ⟨g1, j, none⟩)) rfl (y_ixArr (sz := 1) h1_2 rfl Try.underlying25 s5 (by omega) (by omega) (by omega)) ?_
      refine q_y (v := .int .u8 (((a)[j]).toNat : Int)) rfl (y_load rfl Try.underlying5 rfl (Rd.one (k := 3) rfl (bv_get _ _ (by omega)))) ?_
      refine q_y (v := .int .i64 (((j : Nat) : Int))) rfl (y_move h1_6) ?_
      refine q_y (v := .pointer (some ⟨g2, j, none⟩)) rfl (y_ixArr (sz := 1) h1_3 rfl Try.underlying25 s5 (by omega) (by omega) (by omega)) ?_
      refine q_y (v := .int .u8 (((b)[j]).toNat : Int)) rfl (y_load rfl Try.underlying5 rfl (Rd.one (k := 2) rfl (bv_get _ _ (by omega)))) ?_
      refine q_y (v := .int .u8 ((((a)[j]) ^^^ ((b)[j])).toNat : Int)) rfl (y_xorB rfl rfl) ?_
      refine q_y (v := .pointer (some ⟨g4, j, none⟩)) rfl (y_ixArr (sz := 1) h1_5 rfl Try.underlying25 s5 (by omega) (by omega) (by omega)) ?_
      refine q_nil ?_
      refine o_storeB1 (H' := [(g4, .cells (bv ((mixB (j) (xorB a b) zB).set j (((a)[j]) ^^^ ((b)[j])) (by omega))) 25 (0, 0)), (g3, .cells (bv (zB)) 25 (0, 0)), (g2, .cells (bv (b)) 25 (0, 0)), (g1, .cells (bv (a)) 25 (0, 0))]) 0 (by omega) s5 rfl rfl rfl rfl ?_
      refine o_nil ?_
      refine hK7 _ _ ?_
      refine c_region ?_
      refine o_y (v := .int .i64 (((j : Nat) : Int))) rfl rfl (y_move h1_6) ?_
      refine o_y (v := .int .i64 ((((j : Nat) : Int)) + 1)) rfl rfl (y_add rfl rfl (wi_i64 (by omega) (by omega))) ?_
      refine o_y (v := .int .i64 ((((j : Nat) : Int)) + 1)) rfl rfl (y_assign rfl) ?_
      refine o_nil ?_
      refine ⟨_, by omega, j + 1, rfl, by omega, h1_2, h1_3, h1_4, h1_5, (ie (a := (((j : Nat) : Int)) + 1) (b := ((j + 1 : Nat) : Int)) (by omega)), ?_⟩
      rw [mix_xor']; first | done | rfl
    ·
      replace hc1 := of_decide_eq_false hc1
      -- way LF
      refine c_exit ?_
      refine hK3 _ _ ?_
      refine c_seq fun K8 hK8 => ?_
      refine c_region ?_
      refine o_y (v := .agg (bv (mixB (j) (xorB a b) zB))) rfl rfl (y_loadB T25 h1_5 (Rd.whole (k := 0) rfl)) ?_
      refine o_storeB (H' := [(g4, .cells (bv (mixB (j) (xorB a b) zB)) 25 (0, 0)), (g3, .cells (bv (mixB (j) (xorB a b) zB)) 25 (0, 0)), (g2, .cells (bv (b)) 25 (0, 0)), (g1, .cells (bv (a)) 25 (0, 0))]) T25 1 h1_4 rfl rfl rfl ?_
      refine o_nil ?_
      refine hK8 _ _ ?_
      refine c_ret ?_
      refine fun w hw => ⟨[.agg (bv (mixB (j) (xorB a b) zB))], ⟨⟨_, h1_4, loadB T25 ((Rd.whole (k := 1) rfl) w hw)⟩, trivial⟩, ?_⟩
      obtain rfl : j = 64 := by omega
      rw [mixB_full]
      first | done | rfl

set_option maxRecDepth 100000 in
set_option maxHeartbeats 4000000 in
theorem f9_fold (l : List Blk) (a1 : Option Addr) (b1 o1 cap1 m1 : Nat) (w : World) (hm1 : m1 = l.length) (hs : Sl eBlk w l a1 b1 o1 cap1) :
    Calls Try.prog 9 [.slice (a1) (m1) (cap1)].toArray w fun e w' => e = .returned (.agg (bv (foldB l))) ∧ Below w.heap.size w w' := by
  subst hm1
  have hle := hs.le
  have hmx := hs.mx
  simp only [maxLen] at hmx
  refine (calls_of (P := Try.prog) (n := 16) (w0 := w) (S := fun _ => False) (H := []) (T := fun v _ => v = (.agg (bv (foldB l)))) Try.func9 rfl Try.ntmps9 (Nat.le_of_ble_eq_true rfl) [.cell 2 25] rfl (St.nil w _) ?_).mono fun e w' ⟨v, H', he, hs, hT⟩ => ⟨by rw [he, hT], hs.below⟩
  refine c_seq fun K1 hK1 => ?_
  refine c_region ?_
  refine o_alloc (z := .agg (bv (zB))) rfl z25 fun g1 => ?_
  refine o_nil ?_
  refine hK1 _ _ ?_
  refine c_seq fun K2 hK2 => ?_
  refine c_seq fun K3 hK3 => ?_
  refine c_region ?_
  refine o_y (v := .slice (a1) ((l).length) (cap1)) rfl rfl (y_move rfl) ?_
  refine o_y (v := .int .i64 ((((l).length : Nat) : Int))) rfl rfl (y_len rfl Try.underlying22) ?_
  refine o_y (v := .int .i64 (0)) rfl rfl (y_move rfl) ?_
  refine o_nil ?_
  refine hK3 _ _ ?_
  refine c_block ?_
  refine c_loop (fun d R H => ∃ (j : Nat), d = l.length - (j) ∧ (j ≤ l.length) ∧ R 2 = .pointer (some ⟨g1, 0, none⟩) ∧ R 5 = .slice (a1) ((l).length) (cap1) ∧ R 6 = .int .i64 ((((l).length : Nat) : Int)) ∧ R 7 = .int .i64 (((j : Nat) : Int)) ∧ H = ([(g1, .cells (bv (foldB (l.take (j)))) 25 (0, 0))] : Hp)) (l.length - (0)) ?_ ?_
  ·
    refine ⟨0, rfl, by omega, rfl, rfl, rfl, (ie (a := 0) (b := ((0 : Nat) : Int)) (by omega)), ?_⟩
    rw [foldB_zero]; first | done | rfl
  ·
    rintro d1 R1 _ ⟨j, hd1, hv1_0, h1_2, h1_5, h1_6, h1_7, rfl⟩
    refine c_seq fun K4 hK4 => ?_
    refine c_region ?_
    refine o_y (v := .bool (decide (((j : Nat) : Int) < (((l).length : Nat) : Int)))) rfl rfl (y_lss h1_7 h1_6 rfl) ?_
    refine o_nil ?_
    refine hK4 _ _ ?_
    refine c_seq fun K5 hK5 => ?_
    refine c_cond (t := decide (((j : Nat) : Int) < (((l).length : Nat) : Int))) rfl (fun hc1 => ?_) (fun hc1 => ?_)
    ·
      replace hc1 := of_decide_eq_true hc1
      -- way LT
      refine c_skip ?_
      refine hK5 _ _ ?_
      refine c_seq fun K6 hK6 => ?_
      refine c_block ?_
      refine c_seq fun K7 hK7 => ?_
      refine c_region ?_
      refine o_y (v := .pointer (some ⟨b1, o1 + j * 64, none⟩)) rfl rfl (y_ixO j (hs.at_ (by omega)) h1_5 h1_7 Try.underlying22 s25 (by omega) (by first | omega | (simp; done) | (simp; omega))) ?_
      refine o_y (v := .agg (bv ((l)[j]))) rfl rfl (y_loadB T25 rfl (SlG.rd (SlG.old hs (fun _ h => h)) j (by first | omega | (simp; done) | (simp; omega)))) ?_
      refine o_alloc (z := .agg (bv (zB))) rfl z25 fun g2 => ?_
      refine o_storeB (H' := [(g2, .cells (bv ((l)[j])) 25 (0, 0)), (g1, .cells (bv (foldB (l.take (j)))) 25 (0, 0))]) T25 0 rfl rfl rfl rfl ?_
      refine o_nil ?_
      refine hK7 _ _ ?_
      refine c_region ?_
      refine o_y (v := .agg (bv (foldB (l.take (j))))) rfl rfl (y_loadB T25 h1_2 (Rd.whole (k := 1) rfl)) ?_
      refine o_y (v := .agg (bv ((l)[j]))) rfl rfl (y_loadB T25 rfl (Rd.whole (k := 0) rfl)) ?_
      refine o_y (v := .agg (bv (xorB (foldB (l.take (j))) ((l)[j])))) rfl rfl (y_call (vs := [.agg (bv (foldB (l.take (j)))), .agg (bv ((l)[j]))]) b12 rfl (fun w hw => f12_xor _ _ w)) ?_
      refine o_storeB (H' := [(g2, .cells (bv ((l)[j])) 25 (0, 0)), (g1, .cells (bv (xorB (foldB (l.take (j))) ((l)[j]))) 25 (0, 0))]) T25 1 h1_2 rfl rfl rfl ?_
      refine o_nil ?_
      refine hK6 _ _ ?_
      refine c_region ?_
      refine o_y (v := .int .i64 ((((j : Nat) : Int)) + 1)) rfl rfl (y_add h1_7 rfl (wi_i64 (by omega) (by omega))) ?_
      refine o_y (v := .int .i64 ((((j : Nat) : Int)) + 1)) rfl rfl (y_move rfl) ?_
      refine o_forget ((List.Sublist.slnil.cons_cons _).cons _) ?_
      refine o_nil ?_
      refine ⟨_, by omega, j + 1, rfl, by omega, h1_2, h1_5, h1_6, (ie (a := (((j : Nat) : Int)) + 1) (b := ((j + 1 : Nat) : Int)) (by omega)), ?_⟩
      rw [foldB_succ _ _ (by omega)]; first | done | rfl
    ·
      replace hc1 := of_decide_eq_false hc1
      -- way LF
      refine c_exit ?_
      refine hK2 _ _ ?_
      refine c_seq fun K8 hK8 => ?_
      refine c_region ?_
      refine o_y (v := .agg (bv (foldB (l.take (j))))) rfl rfl (y_loadB T25 h1_2 (Rd.whole (k := 0) rfl)) ?_
      refine o_storeB (H' := [(g1, .cells (bv (foldB (l.take (j)))) 25 (0, 0))]) T25 0 h1_2 rfl rfl rfl ?_
      refine o_nil ?_
      refine hK8 _ _ ?_
      refine c_ret ?_
      refine fun w hw => ⟨[.agg (bv (foldB (l.take (j))))], ⟨⟨_, h1_2, loadB T25 ((Rd.whole (k := 0) rfl) w hw)⟩, trivial⟩, ?_⟩
      obtain rfl : j = l.length := by omega
      rw [List.take_length]
      first | done | rfl

set_option maxRecDepth 100000 in
set_option maxHeartbeats 4000000 in
theorem f17_rfold (l : List Blk) (a1 : Option Addr) (b1 o1 cap1 m1 : Nat) (w : World) (hm1 : m1 = l.length) (hs : Sl eBlk w l a1 b1 o1 cap1) :
    Calls Try.prog 17 [.slice (a1) (m1) (cap1)].toArray w fun e w' => e = .returned (.agg (bv (foldB l))) ∧ Below w.heap.size w w' := by
  subst hm1
  have hle := hs.le
  have hmx := hs.mx
  simp only [maxLen] at hmx
  refine (calls_of (P := Try.prog) (n := 18) (w0 := w) (S := fun _ => False) (H := []) (T := fun v _ => v = (.agg (bv (foldB l)))) Try.func17 rfl Try.ntmps17 (Nat.le_of_ble_eq_true rfl) [.cell 2 25] rfl (St.nil w _) ?_).mono fun e w' ⟨v, H', he, hs, hT⟩ => ⟨by rw [he, hT], hs.below⟩
  refine c_seq fun K1 hK1 => ?_
  refine c_region ?_
  refine o_alloc (z := .agg (bv (zB))) rfl z25 fun g1 => ?_
  refine o_nil ?_
  refine hK1 _ _ ?_
  refine c_seq fun K2 hK2 => ?_
  refine c_region ?_
  refine o_alloc (z := .agg (bv (zB))) rfl z25 fun g2 => ?_
  refine o_nil ?_
  refine hK2 _ _ ?_
  refine c_seq fun K3 hK3 => ?_
  refine c_seq fun K4 hK4 => ?_
  refine c_region ?_
  refine o_y (v := .int .i64 (0)) rfl rfl (y_assign rfl) ?_
  refine o_nil ?_
  refine hK4 _ _ ?_
  refine c_block ?_
  refine c_loop (fun d R H => ∃ (j : Nat), d = l.length - (j) ∧ (j ≤ l.length) ∧ R 0 = .slice (a1) ((l).length) (cap1) ∧ R 2 = .pointer (some ⟨g1, 0, none⟩) ∧ R 3 = .pointer (some ⟨g2, 0, none⟩) ∧ R 4 = .int .i64 (((j : Nat) : Int)) ∧ H = ([(g2, .cells (bv (foldB (l.take (j)))) 25 (0, 0)), (g1, .cells (bv (zB)) 25 (0, 0))] : Hp)) (l.length - (0)) ?_ ?_
  ·
    refine ⟨0, rfl, by omega, rfl, rfl, rfl, (ie (a := 0) (b := ((0 : Nat) : Int)) (by omega)), ?_⟩
    rw [foldB_zero]; first | done | rfl
  ·
    rintro d1 R1 _ ⟨j, hd1, hv1_0, h1_0, h1_2, h1_3, h1_4, rfl⟩
    refine c_seq fun K5 hK5 => ?_
    refine c_seq fun K6 hK6 => ?_
    refine c_region ?_
    refine o_y (v := .int .i64 (((j : Nat) : Int))) rfl rfl (y_move h1_4) ?_
    refine o_y (v := .slice (a1) ((l).length) (cap1)) rfl rfl (y_move h1_0) ?_
    refine o_y (v := .int .i64 ((((l).length : Nat) : Int))) rfl rfl (y_len rfl Try.underlying22) ?_
    refine o_y (v := .bool (decide (((j : Nat) : Int) < (((l).length : Nat) : Int)))) rfl rfl (y_lss rfl rfl rfl) ?_
    refine o_nil ?_
    refine hK6 _ _ ?_
    refine c_cond (t := decide (((j : Nat) : Int) < (((l).length : Nat) : Int))) rfl (fun hc1 => ?_) (fun hc1 => ?_)
    ·
      replace hc1 := of_decide_eq_true hc1
      -- way LT
      refine c_skip ?_
      refine hK5 _ _ ?_
      refine c_seq fun K7 hK7 => ?_
      refine c_block ?_
      refine c_draw 6 (by kernel_rfl) (by kernel_rfl) ?_
      refine q_y (v := .agg (bv (foldB (l.take (j))))) rfl (y_loadB T25 h1_3 (Rd.whole (k := 0) rfl)) ?_
      refine q_y (v := .slice (a1) ((l).length) (cap1)) rfl (y_move h1_0) ?_
      refine q_y (v := .int .i64 (((j : Nat) : Int))) rfl (y_move h1_4) ?_
      refine q_y (v := .pointer (some ⟨b1, o1 + j * 64, none⟩)) rfl (y_ixO j (hs.at_ (by omega)) rfl rfl Try.underlying22 s25 (by omega) (by first | omega | (simp; done) | (simp; omega))) ?_
      refine q_y (v := .agg (bv ((l)[j]))) rfl (y_loadB T25 rfl (SlG.rd (SlG.old hs (fun _ h => h)) j (by first | omega | (simp; done) | (simp; omega)))) ?_
      refine q_y (v := .agg (bv (xorB (foldB (l.take (j))) ((l)[j])))) rfl (y_call (vs := [.agg (bv (foldB (l.take (j)))), .agg (bv ((l)[j]))]) b16 rfl (fun w hw => f16_rxor _ _ w)) ?_
      refine q_nil ?_
      refine o_storeB (H' := [(g2, .cells (bv (xorB (foldB (l.take (j))) ((l)[j]))) 25 (0, 0)), (g1, .cells (bv (zB)) 25 (0, 0))]) T25 0 h1_3 rfl rfl rfl ?_
      refine o_nil ?_
      refine hK7 _ _ ?_
      refine c_region ?_
      refine o_y (v := .int .i64 (((j : Nat) : Int))) rfl rfl (y_move h1_4) ?_
      refine o_y (v := .int .i64 ((((j : Nat) : Int)) + 1)) rfl rfl (y_add rfl rfl (wi_i64 (by omega) (by omega))) ?_
      refine o_y (v := .int .i64 ((((j : Nat) : Int)) + 1)) rfl rfl (y_assign rfl) ?_
      refine o_nil ?_
      refine ⟨_, by omega, j + 1, rfl, by omega, h1_0, h1_2, h1_3, (ie (a := (((j : Nat) : Int)) + 1) (b := ((j + 1 : Nat) : Int)) (by omega)), ?_⟩
      rw [foldB_succ _ _ (by omega)]; first | done | rfl
    ·
      replace hc1 := of_decide_eq_false hc1
      -- way LF
      refine c_exit ?_
      refine hK3 _ _ ?_
      refine c_seq fun K8 hK8 => ?_
      refine c_region ?_
      refine o_y (v := .agg (bv (foldB (l.take (j))))) rfl rfl (y_loadB T25 h1_3 (Rd.whole (k := 0) rfl)) ?_
      refine o_storeB (H' := [(g2, .cells (bv (foldB (l.take (j)))) 25 (0, 0)), (g1, .cells (bv (foldB (l.take (j)))) 25 (0, 0))]) T25 1 h1_2 rfl rfl rfl ?_
      refine o_nil ?_
      refine hK8 _ _ ?_
      refine c_ret ?_
      refine fun w hw => ⟨[.agg (bv (foldB (l.take (j))))], ⟨⟨_, h1_2, loadB T25 ((Rd.whole (k := 1) rfl) w hw)⟩, trivial⟩, ?_⟩
      obtain rfl : j = l.length := by omega
      rw [List.take_length]
      first | done | rfl

set_option maxRecDepth 100000 in
set_option maxHeartbeats 4000000 in
theorem f18_delta (a b c : Blk) (w : World)  :
    Calls Try.prog 18 [.agg (bv (a)), .agg (bv (b)), .agg (bv (c))].toArray w fun e w' => e = .returned (.agg (bv (xorB a (xorB b c)))) ∧ Below w.heap.size w w' := by
  refine (calls_of (P := Try.prog) (n := 12) (w0 := w) (S := fun _ => False) (H := []) (T := fun v _ => v = (.agg (bv (xorB a (xorB b c))))) Try.func18 rfl Try.ntmps18 (Nat.le_of_ble_eq_true rfl) [.cell 6 25] rfl (St.nil w _) ?_).mono fun e w' ⟨v, H', he, hs, hT⟩ => ⟨by rw [he, hT], hs.below⟩
  refine c_seq fun K1 hK1 => ?_
  refine c_region ?_
  refine o_box (v := .agg (bv (a))) rfl rfl fun g1 => ?_
  refine o_box (v := .agg (bv (b))) rfl rfl fun g2 => ?_
  refine o_box (v := .agg (bv (c))) rfl rfl fun g3 => ?_
  refine o_alloc (z := .agg (bv (zB))) rfl z25 fun g4 => ?_
  refine o_nil ?_
  refine hK1 _ _ ?_
  refine c_seq fun K2 hK2 => ?_
  refine c_draw 5 (by kernel_rfl) (by kernel_rfl) ?_
  refine q_y (v := .agg (bv (a))) rfl (y_loadB T25 rfl (Rd.whole (k := 3) rfl)) ?_
  refine q_y (v := .agg (bv (b))) rfl (y_loadB T25 rfl (Rd.whole (k := 2) rfl)) ?_
  refine q_y (v := .agg (bv (c))) rfl (y_loadB T25 rfl (Rd.whole (k := 1) rfl)) ?_
  refine q_y (v := .agg (bv (xorB (b) (c)))) rfl (y_call (vs := [.agg (bv (b)), .agg (bv (c))]) b12 rfl (fun w hw => f12_xor _ _ w)) ?_
  refine q_y (v := .agg (bv (xorB (a) (xorB (b) (c))))) rfl (y_call (vs := [.agg (bv (a)), .agg (bv (xorB (b) (c)))]) b12 rfl (fun w hw => f12_xor _ _ w)) ?_
  refine q_nil ?_
  refine o_storeB (H' := [(g4, .cells (bv (xorB (a) (xorB (b) (c)))) 25 (0, 0)), (g3, .cells (bv (c)) 25 (0, 0)), (g2, .cells (bv (b)) 25 (0, 0)), (g1, .cells (bv (a)) 25 (0, 0))]) T25 0 rfl rfl rfl rfl ?_
  refine o_nil ?_
  refine hK2 _ _ ?_
  refine c_ret ?_
  refine fun w hw => ⟨[.agg (bv (xorB (a) (xorB (b) (c))))], ⟨⟨_, rfl, loadB T25 ((Rd.whole (k := 0) rfl) w hw)⟩, trivial⟩, ?_⟩
  exact rfl

set_option maxRecDepth 100000 in
set_option maxHeartbeats 4000000 in
theorem f19_rdelta (a b c : Blk) (w : World)  :
    Calls Try.prog 19 [.agg (bv (a)), .agg (bv (b)), .agg (bv (c))].toArray w fun e w' => e = .returned (.agg (bv (xorB a (xorB b c)))) ∧ Below w.heap.size w w' := by
  refine (calls_of (P := Try.prog) (n := 12) (w0 := w) (S := fun _ => False) (H := []) (T := fun v _ => v = (.agg (bv (xorB a (xorB b c))))) Try.func19 rfl Try.ntmps19 (Nat.le_of_ble_eq_true rfl) [.cell 6 25] rfl (St.nil w _) ?_).mono fun e w' ⟨v, H', he, hs, hT⟩ => ⟨by rw [he, hT], hs.below⟩
  refine c_seq fun K1 hK1 => ?_
  refine c_region ?_
  refine o_box (v := .agg (bv (a))) rfl rfl fun g1 => ?_
  refine o_box (v := .agg (bv (b))) rfl rfl fun g2 => ?_
  refine o_box (v := .agg (bv (c))) rfl rfl fun g3 => ?_
  refine o_alloc (z := .agg (bv (zB))) rfl z25 fun g4 => ?_
  refine o_nil ?_
  refine hK1 _ _ ?_
  refine c_seq fun K2 hK2 => ?_
  refine c_draw 5 (by kernel_rfl) (by kernel_rfl) ?_
  refine q_y (v := .agg (bv (a))) rfl (y_loadB T25 rfl (Rd.whole (k := 3) rfl)) ?_
  refine q_y (v := .agg (bv (b))) rfl (y_loadB T25 rfl (Rd.whole (k := 2) rfl)) ?_
  refine q_y (v := .agg (bv (xorB (a) (b)))) rfl (y_call (vs := [.agg (bv (a)), .agg (bv (b))]) b16 rfl (fun w hw => f16_rxor _ _ w)) ?_
  refine q_y (v := .agg (bv (c))) rfl (y_loadB T25 rfl (Rd.whole (k := 1) rfl)) ?_
  refine q_y (v := .agg (bv (xorB (xorB (a) (b)) (c)))) rfl (y_call (vs := [.agg (bv (xorB (a) (b))), .agg (bv (c))]) b16 rfl (fun w hw => f16_rxor _ _ w)) ?_
  refine q_nil ?_
  refine o_storeB (H' := [(g4, .cells (bv (xorB (xorB (a) (b)) (c))) 25 (0, 0)), (g3, .cells (bv (c)) 25 (0, 0)), (g2, .cells (bv (b)) 25 (0, 0)), (g1, .cells (bv (a)) 25 (0, 0))]) T25 0 rfl rfl rfl rfl ?_
  refine o_nil ?_
  refine hK2 _ _ ?_
  refine c_ret ?_
  refine fun w hw => ⟨[.agg (bv (xorB (xorB (a) (b)) (c)))], ⟨⟨_, rfl, loadB T25 ((Rd.whole (k := 0) rfl) w hw)⟩, trivial⟩, ?_⟩
  show Value.agg _ = Value.agg _
  rw [xorB_assoc]
  first | done | rfl

set_option maxRecDepth 100000 in
set_option maxHeartbeats 4000000 in
theorem f21_zero (a : Blk) (w : World)  :
    Calls Try.prog 21 [.agg (bv (a))].toArray w fun e w' => e = .returned (.bool (decide (a = zB))) ∧ Below w.heap.size w w' := by
  refine (calls_of (P := Try.prog) (n := 6) (w0 := w) (S := fun _ => False) (H := []) (T := fun v _ => v = (.bool (decide (a = zB)))) Try.func21 rfl Try.ntmps21 (Nat.le_of_ble_eq_true rfl) [.tmp 2] rfl (St.nil w _) ?_).mono fun e w' ⟨v, H', he, hs, hT⟩ => ⟨by rw [he, hT], hs.below⟩
  refine c_seq fun K1 hK1 => ?_
  refine c_region ?_
  refine o_box (v := .agg (bv (a))) rfl rfl fun g1 => ?_
  refine o_y (v := .bool (false)) rfl rfl (y_assign rfl) ?_
  refine o_nil ?_
  refine hK1 _ _ ?_
  refine c_seq fun K2 hK2 => ?_
  refine c_region ?_
  refine o_y (v := .agg (bv (a))) rfl rfl (y_loadB T25 rfl (Rd.whole (k := 0) rfl)) ?_
  refine o_y (v := .agg (bv (zB))) rfl rfl (y_build rfl (by kernel_rfl)) ?_
  refine o_y (v := .bool (decide (a = zB))) rfl rfl (y_eqlV T25 rfl rfl) ?_
  refine o_y (v := .bool (decide (a = zB))) rfl rfl (y_assign rfl) ?_
  refine o_nil ?_
  refine hK2 _ _ ?_
  refine c_ret ?_
  refine fun w hw => ⟨[.bool (decide (a = zB))], ⟨rfl, trivial⟩, ?_⟩
  exact rfl

set_option maxRecDepth 100000 in
set_option maxHeartbeats 4000000 in
theorem f22_rzero (a : Blk) (w : World)  :
    Calls Try.prog 22 [.agg (bv (a))].toArray w fun e w' => e = .returned (.bool (decide (a = zB))) ∧ Below w.heap.size w w' := by
  refine (calls_of (P := Try.prog) (n := 12) (w0 := w) (S := fun _ => False) (H := []) (T := fun v _ => v = (.bool (decide (a = zB)))) Try.func22 rfl Try.ntmps22 (Nat.le_of_ble_eq_true rfl) [.tmp 2] rfl (St.nil w _) ?_).mono fun e w' ⟨v, H', he, hs, hT⟩ => ⟨by rw [he, hT], hs.below⟩
  refine c_seq fun K1 hK1 => ?_
  refine c_region ?_
  refine o_box (v := .agg (bv (a))) rfl rfl fun g1 => ?_
  refine o_y (v := .bool (false)) rfl rfl (y_assign rfl) ?_
  refine o_nil ?_
  refine hK1 _ _ ?_
  refine c_seq fun K2 hK2 => ?_
  refine c_seq fun K3 hK3 => ?_
  refine c_region ?_
  refine o_y (v := .int .i64 (0)) rfl rfl (y_assign rfl) ?_
  refine o_nil ?_
  refine hK3 _ _ ?_
  refine c_block ?_
  refine c_loop (fun d R H => ∃ (j : Nat), d = 64 - (j) ∧ (j ≤ 64) ∧ (∀ (i : Nat) (h : i < 64), i < j → a[i] = 0) ∧ R 1 = .pointer (some ⟨g1, 0, none⟩) ∧ R 3 = .int .i64 (((j : Nat) : Int)) ∧ H = ([(g1, .cells (bv (a)) 25 (0, 0))] : Hp)) (64 - (0)) ?_ ?_
  ·
    refine ⟨0, rfl, by omega, fun i _ h => absurd h (by omega), rfl, (ie (a := 0) (b := ((0 : Nat) : Int)) (by omega)), rfl⟩
  ·
    rintro d1 R1 _ ⟨j, hd1, hv1_0, hv1_1, h1_1, h1_3, rfl⟩
    refine c_seq fun K4 hK4 => ?_
    refine c_seq fun K5 hK5 => ?_
    refine c_region ?_
    refine o_y (v := .int .i64 (((j : Nat) : Int))) rfl rfl (y_move h1_3) ?_
    refine o_y (v := .bool (decide (((j : Nat) : Int) < 64))) rfl rfl (y_lss rfl rfl rfl) ?_
    refine o_nil ?_
    refine hK5 _ _ ?_
    refine c_cond (t := decide (((j : Nat) : Int) < 64)) rfl (fun hc1 => ?_) (fun hc1 => ?_)
    ·
      replace hc1 := of_decide_eq_true hc1
      -- way LT
      refine c_skip ?_
      refine hK4 _ _ ?_
      refine c_seq fun K6 hK6 => ?_
      refine c_block ?_
      refine c_seq fun K7 hK7 => ?_
      refine c_region ?_
      refine o_y (v := .int .i64 (((j : Nat) : Int))) rfl rfl (y_move h1_3) ?_
      refine o_y (v := .pointer (some ⟨g1, j, none⟩)) rfl rfl (y_ixArr (sz := 1) h1_1 rfl Try.underlying25 s5 (by omega) (by omega) (by omega)) ?_
      refine o_y (v := .int .u8 (((a)[j]).toNat : Int)) rfl rfl (y_load rfl Try.underlying5 rfl (Rd.one (k := 0) rfl (bv_get _ _ (by omega)))) ?_
      refine o_y (v := .bool (decide ((((a)[j]).toNat : Int) ≠ 0))) rfl rfl (y_neq rfl rfl rfl) ?_
      refine o_nil ?_
      refine hK7 _ _ ?_
      refine c_cond (t := decide ((((a)[j]).toNat : Int) ≠ 0)) rfl (fun hc2 => ?_) (fun hc2 => ?_)
      ·
        replace hc2 := of_decide_eq_true hc2
        -- way LTT
        refine c_seq fun K8 hK8 => ?_
        refine c_region ?_
        refine o_y (v := .bool (false)) rfl rfl (y_assign rfl) ?_
        refine o_nil ?_
        refine hK8 _ _ ?_
        refine c_ret ?_
        refine fun w hw => ⟨[.bool (false)], ⟨rfl, trivial⟩, ?_⟩
        exact congrArg Value.bool (zero_not (j := j) (by omega) (fun e => hc2 (by rw [e]; rfl))).symm
        first | done | rfl
      ·
        replace hc2 := of_decide_eq_false hc2
        -- way LTF
        refine c_skip ?_
        refine hK6 _ _ ?_
        refine c_region ?_
        refine o_y (v := .int .i64 (((j : Nat) : Int))) rfl rfl (y_move h1_3) ?_
        refine o_y (v := .int .i64 ((((j : Nat) : Int)) + 1)) rfl rfl (y_add rfl rfl (wi_i64 (by omega) (by omega))) ?_
        refine o_y (v := .int .i64 ((((j : Nat) : Int)) + 1)) rfl rfl (y_assign rfl) ?_
        refine o_nil ?_
        refine ⟨_, by omega, j + 1, rfl, by omega, zero_next hv1_1 (by omega) (u8z (by simpa using hc2)), h1_1, (ie (a := (((j : Nat) : Int)) + 1) (b := ((j + 1 : Nat) : Int)) (by omega)), rfl⟩
    ·
      replace hc1 := of_decide_eq_false hc1
      -- way LF
      refine c_exit ?_
      refine hK2 _ _ ?_
      refine c_seq fun K9 hK9 => ?_
      refine c_region ?_
      refine o_y (v := .bool (true)) rfl rfl (y_assign rfl) ?_
      refine o_nil ?_
      refine hK9 _ _ ?_
      refine c_ret ?_
      refine fun w hw => ⟨[.bool (true)], ⟨rfl, trivial⟩, ?_⟩
      obtain rfl : j = 64 := by omega
      exact congrArg Value.bool (zero_all hv1_1).symm
      first | done | rfl

set_option maxRecDepth 100000 in
set_option maxHeartbeats 4000000 in
theorem f10_missing (l : List Blk) (a1 : Option Addr) (b1 o1 cap1 m1 : Nat) (n : Int) (w : World) (hn0 : -9223372036854775808 ≤ n) (hn1 : n ≤ 9223372036854775807) (hm1 : m1 = l.length) (hs : Sl eBlk w l a1 b1 o1 cap1) :
    Calls Try.prog 10 [.slice (a1) (m1) (cap1), .int .i64 (n)].toArray w fun e w' => e = .returned (.tuple #[.agg (bv (missB l n)), .int .i64 (missE l n)]) ∧ Below w.heap.size w w' := by
  subst hm1
  have hle := hs.le
  have hmx := hs.mx
  simp only [maxLen] at hmx
  refine (calls_of (P := Try.prog) (n := 22) (w0 := w) (S := fun _ => False) (H := []) (T := fun v _ => v = (.tuple #[.agg (bv (missB l n)), .int .i64 (missE l n)])) Try.func10 rfl Try.ntmps10 (Nat.le_of_ble_eq_true rfl) [.cell 4 25, .tmp 5] rfl (St.nil w _) ?_).mono fun e w' ⟨v, H', he, hs, hT⟩ => ⟨by rw [he, hT], hs.below⟩
  refine c_seq fun K1 hK1 => ?_
  refine c_region ?_
  refine o_alloc (z := .agg (bv (zB))) rfl z25 fun g1 => ?_
  refine o_y (v := .int .i64 (0)) rfl rfl (y_assign rfl) ?_
  refine o_nil ?_
  refine hK1 _ _ ?_
  refine c_seq fun K2 hK2 => ?_
  refine c_seq fun K3 hK3 => ?_
  refine c_region ?_
  refine o_y (v := .int .i64 (n)) rfl rfl (y_move rfl) ?_
  refine o_y (v := .bool (decide (n < 0))) rfl rfl (y_lss rfl rfl rfl) ?_
  refine o_y (v := .bool (decide (n < 0))) rfl rfl (y_move rfl) ?_
  cases hc1 : (decide (n < 0) : Bool)
  ·
    have hc1' := of_decide_eq_false hc1
    -- way F
    refine o_guard (j := 2) (d := 8) (b := false) rfl rfl rfl (fun _ => ?_) rfl (fun h => by cases h)
    refine o_y (v := .int .i64 (n)) rfl rfl (y_move rfl) ?_
    refine o_guard (j := 2) (d := 8) (b := false) rfl rfl rfl (fun _ => ?_) rfl (fun h => by cases h)
    refine o_y (v := .slice (a1) ((l).length) (cap1)) rfl rfl (y_move rfl) ?_
    refine o_guard (j := 2) (d := 8) (b := false) rfl rfl rfl (fun _ => ?_) rfl (fun h => by cases h)
    refine o_y (v := .int .i64 ((((l).length : Nat) : Int))) rfl rfl (y_len rfl Try.underlying22) ?_
    refine o_guard (j := 2) (d := 8) (b := false) rfl rfl rfl (fun _ => ?_) rfl (fun h => by cases h)
    refine o_y (v := .bool (decide ((((l).length : Nat) : Int) ≤ n))) rfl rfl (y_geq rfl rfl rfl) ?_
    refine o_y (v := .bool (decide ((((l).length : Nat) : Int) ≤ n))) rfl rfl (y_pick (b := false) rfl rfl) ?_
    refine o_nil ?_
    refine hK3 _ _ ?_
    refine c_cond (t := decide ((((l).length : Nat) : Int) ≤ n)) rfl (fun hc2 => ?_) (fun hc2 => ?_)
    ·
      replace hc2 := of_decide_eq_true hc2
      -- way FT
      refine c_seq fun K4 hK4 => ?_
      refine c_region ?_
      refine o_y (v := .agg (bv (zB))) rfl rfl (y_build rfl (by kernel_rfl)) ?_
      refine o_storeB (H' := [(g1, .cells (bv (zB)) 25 (0, 0))]) T25 0 rfl rfl rfl rfl ?_
      refine o_y (v := .int .i64 (2)) rfl rfl (y_assign rfl) ?_
      refine o_nil ?_
      refine hK4 _ _ ?_
      refine c_ret ?_
      refine fun w hw => ⟨[.agg (bv (zB)), .int .i64 (2)], ⟨⟨_, rfl, loadB T25 ((Rd.whole (k := 0) rfl) w hw)⟩, rfl, trivial⟩, ?_⟩
      rw [missB_out _ _ (by omega), missE_out _ _ (by omega)]
      first | done | rfl
    ·
      replace hc2 := of_decide_eq_false hc2
      -- way FF
      refine c_skip ?_
      refine hK2 _ _ ?_
      refine c_seq fun K5 hK5 => ?_
      refine c_draw 7 (by kernel_rfl) (by kernel_rfl) ?_
      refine q_y (v := .slice (a1) ((l).length) (cap1)) rfl (y_move rfl) ?_
      refine q_y (v := .agg (bv (foldB (l)))) rfl (y_call (vs := [.slice (a1) ((l).length) (cap1)]) b9 rfl (fun w hw => f9_fold _ _ _ _ _ _ w (by first | (simp; done) | (simp; omega) | omega) ((SlG.old hs (fun _ h => h)) w hw))) ?_
      refine q_y (v := .slice (a1) ((l).length) (cap1)) rfl (y_move rfl) ?_
      refine q_y (v := .int .i64 (n)) rfl (y_move rfl) ?_
      refine q_y (v := .pointer (some ⟨b1, o1 + ((n).toNat) * 64, none⟩)) rfl (y_ixO ((n).toNat) (hs.at_ (by omega)) rfl rfl Try.underlying22 s25 (by omega) (by first | omega | (simp; done) | (simp; omega))) ?_
      refine q_y (v := .agg (bv ((l)[(n).toNat]))) rfl (y_loadB T25 rfl (SlG.rd (SlG.old hs (fun _ h => h)) ((n).toNat) (by first | omega | (simp; done) | (simp; omega)))) ?_
      refine q_y (v := .agg (bv (xorB (foldB (l)) ((l)[(n).toNat])))) rfl (y_call (vs := [.agg (bv (foldB (l))), .agg (bv ((l)[(n).toNat]))]) b12 rfl (fun w hw => f12_xor _ _ w)) ?_
      refine q_nil ?_
      refine o_storeB (H' := [(g1, .cells (bv (xorB (foldB (l)) ((l)[(n).toNat]))) 25 (0, 0))]) T25 0 rfl rfl rfl rfl ?_
      refine o_y (v := .int .i64 (0)) rfl rfl (y_assign rfl) ?_
      refine o_nil ?_
      refine hK5 _ _ ?_
      refine c_ret ?_
      refine fun w hw => ⟨[.agg (bv (xorB (foldB (l)) ((l)[(n).toNat]))), .int .i64 (0)], ⟨⟨_, rfl, loadB T25 ((Rd.whole (k := 0) rfl) w hw)⟩, rfl, trivial⟩, ?_⟩
      rw [missB_in _ _ (by omega) (by omega), missE_in _ _ (by omega) (by omega)]
      first | done | rfl
  ·
    have hc1' := of_decide_eq_true hc1
    -- way T
    refine o_guard (j := 2) (d := 8) (b := true) rfl rfl rfl (fun h => by cases h) rfl (fun _ => ?_)
    refine o_guard (j := 2) (d := 8) (b := true) rfl rfl rfl (fun h => by cases h) rfl (fun _ => ?_)
    refine o_guard (j := 2) (d := 8) (b := true) rfl rfl rfl (fun h => by cases h) rfl (fun _ => ?_)
    refine o_guard (j := 2) (d := 8) (b := true) rfl rfl rfl (fun h => by cases h) rfl (fun _ => ?_)
    refine o_y (v := .bool (true)) rfl rfl (y_pick (b := true) rfl rfl) ?_
    refine o_nil ?_
    refine hK3 _ _ ?_
    refine c_cond (t := true) rfl (fun _ => ?_) (fun h => by cases h)
    refine c_seq fun K6 hK6 => ?_
    refine c_region ?_
    refine o_y (v := .agg (bv (zB))) rfl rfl (y_build rfl (by kernel_rfl)) ?_
    refine o_storeB (H' := [(g1, .cells (bv (zB)) 25 (0, 0))]) T25 0 rfl rfl rfl rfl ?_
    refine o_y (v := .int .i64 (2)) rfl rfl (y_assign rfl) ?_
    refine o_nil ?_
    refine hK6 _ _ ?_
    refine c_ret ?_
    refine fun w hw => ⟨[.agg (bv (zB)), .int .i64 (2)], ⟨⟨_, rfl, loadB T25 ((Rd.whole (k := 0) rfl) w hw)⟩, rfl, trivial⟩, ?_⟩
    rw [missB_out _ _ (by omega), missE_out _ _ (by omega)]
    first | done | rfl

set_option maxRecDepth 100000 in
set_option maxHeartbeats 4000000 in
theorem f15_rmissing (l : List Blk) (a1 : Option Addr) (b1 o1 cap1 m1 : Nat) (n : Int) (w : World) (hn0 : -9223372036854775808 ≤ n) (hn1 : n ≤ 9223372036854775807) (hm1 : m1 = l.length) (hs : Sl eBlk w l a1 b1 o1 cap1) :
    Calls Try.prog 15 [.slice (a1) (m1) (cap1), .int .i64 (n)].toArray w fun e w' => e = .returned (.tuple #[.agg (bv (missB l n)), .int .i64 (missE l n)]) ∧ Below w.heap.size w w' := by
  subst hm1
  have hle := hs.le
  have hmx := hs.mx
  simp only [maxLen] at hmx
  refine (calls_of (P := Try.prog) (n := 33) (w0 := w) (S := fun _ => False) (H := []) (T := fun v _ => v = (.tuple #[.agg (bv (missB l n)), .int .i64 (missE l n)])) Try.func15 rfl Try.ntmps15 (Nat.le_of_ble_eq_true rfl) [.cell 4 25, .tmp 5] rfl (St.nil w _) ?_).mono fun e w' ⟨v, H', he, hs, hT⟩ => ⟨by rw [he, hT], hs.below⟩
  refine c_seq fun K1 hK1 => ?_
  refine c_region ?_
  refine o_alloc (z := .agg (bv (zB))) rfl z25 fun g1 => ?_
  refine o_y (v := .int .i64 (0)) rfl rfl (y_assign rfl) ?_
  refine o_nil ?_
  refine hK1 _ _ ?_
  refine c_seq fun K2 hK2 => ?_
  refine c_seq fun K3 hK3 => ?_
  refine c_region ?_
  refine o_y (v := .int .i64 (n)) rfl rfl (y_move rfl) ?_
  refine o_y (v := .bool (decide (n < 0))) rfl rfl (y_lss rfl rfl rfl) ?_
  refine o_y (v := .bool (decide (n < 0))) rfl rfl (y_move rfl) ?_
  cases hc1 : (decide (n < 0) : Bool)
  ·
    have hc1' := of_decide_eq_false hc1
    -- way F
    refine o_guard (j := 2) (d := 10) (b := false) rfl rfl rfl (fun _ => ?_) rfl (fun h => by cases h)
    refine o_y (v := .int .i64 (n)) rfl rfl (y_move rfl) ?_
    refine o_guard (j := 2) (d := 10) (b := false) rfl rfl rfl (fun _ => ?_) rfl (fun h => by cases h)
    refine o_y (v := .slice (a1) ((l).length) (cap1)) rfl rfl (y_move rfl) ?_
    refine o_guard (j := 2) (d := 10) (b := false) rfl rfl rfl (fun _ => ?_) rfl (fun h => by cases h)
    refine o_y (v := .int .i64 ((((l).length : Nat) : Int))) rfl rfl (y_len rfl Try.underlying22) ?_
    refine o_guard (j := 2) (d := 10) (b := false) rfl rfl rfl (fun _ => ?_) rfl (fun h => by cases h)
    refine o_y (v := .bool (decide ((((l).length : Nat) : Int) ≤ n))) rfl rfl (y_geq rfl rfl rfl) ?_
    refine o_y (v := .bool (decide ((((l).length : Nat) : Int) ≤ n))) rfl rfl (y_pick (b := false) rfl rfl) ?_
    refine o_nil ?_
    refine hK3 _ _ ?_
    refine c_cond (t := decide ((((l).length : Nat) : Int) ≤ n)) rfl (fun hc2 => ?_) (fun hc2 => ?_)
    ·
      replace hc2 := of_decide_eq_true hc2
      -- way FT
      refine c_seq fun K4 hK4 => ?_
      refine c_region ?_
      refine o_y (v := .agg (bv (zB))) rfl rfl (y_build rfl (by kernel_rfl)) ?_
      refine o_storeB (H' := [(g1, .cells (bv (zB)) 25 (0, 0))]) T25 0 rfl rfl rfl rfl ?_
      refine o_y (v := .int .i64 (2)) rfl rfl (y_assign rfl) ?_
      refine o_nil ?_
      refine hK4 _ _ ?_
      refine c_ret ?_
      refine fun w hw => ⟨[.agg (bv (zB)), .int .i64 (2)], ⟨⟨_, rfl, loadB T25 ((Rd.whole (k := 0) rfl) w hw)⟩, rfl, trivial⟩, ?_⟩
      rw [missB_out _ _ (by omega), missE_out _ _ (by omega)]
      first | done | rfl
    ·
      replace hc2 := of_decide_eq_false hc2
      -- way FF
      refine c_skip ?_
      refine hK2 _ _ ?_
      refine c_seq fun K5 hK5 => ?_
      refine c_region ?_
      refine o_alloc (z := .agg (bv (zB))) rfl z25 fun g2 => ?_
      refine o_nil ?_
      refine hK5 _ _ ?_
      refine c_seq fun K6 hK6 => ?_
      refine c_seq fun K7 hK7 => ?_
      refine c_region ?_
      refine o_y (v := .int .i64 (0)) rfl rfl (y_assign rfl) ?_
      refine o_nil ?_
      refine hK7 _ _ ?_
      refine c_block ?_
      refine c_loop (fun d R H => ∃ (j : Nat), d = l.length - (j) ∧ (j ≤ l.length) ∧ R 0 = .slice (a1) ((l).length) (cap1) ∧ R 1 = .int .i64 (n) ∧ R 4 = .pointer (some ⟨g1, 0, none⟩) ∧ R 6 = .pointer (some ⟨g2, 0, none⟩) ∧ R 7 = .int .i64 (((j : Nat) : Int)) ∧ H = ([(g2, .cells (bv (foldX l n (j))) 25 (0, 0)), (g1, .cells (bv (zB)) 25 (0, 0))] : Hp)) (l.length - (0)) ?_ ?_
      ·
        refine ⟨0, rfl, by omega, rfl, rfl, rfl, rfl, (ie (a := 0) (b := ((0 : Nat) : Int)) (by omega)), ?_⟩
        rw [foldX]; first | done | rfl
      ·
        rintro d1 R1 _ ⟨j, hd1, hv1_0, h1_0, h1_1, h1_4, h1_6, h1_7, rfl⟩
        refine c_seq fun K8 hK8 => ?_
        refine c_seq fun K9 hK9 => ?_
        refine c_region ?_
        refine o_y (v := .int .i64 (((j : Nat) : Int))) rfl rfl (y_move h1_7) ?_
        refine o_y (v := .slice (a1) ((l).length) (cap1)) rfl rfl (y_move h1_0) ?_
        refine o_y (v := .int .i64 ((((l).length : Nat) : Int))) rfl rfl (y_len rfl Try.underlying22) ?_
        refine o_y (v := .bool (decide (((j : Nat) : Int) < (((l).length : Nat) : Int)))) rfl rfl (y_lss rfl rfl rfl) ?_
        refine o_nil ?_
        refine hK9 _ _ ?_
        refine c_cond (t := decide (((j : Nat) : Int) < (((l).length : Nat) : Int))) rfl (fun hc3 => ?_) (fun hc3 => ?_)
        ·
          replace hc3 := of_decide_eq_true hc3
          -- way FFLT
          refine c_skip ?_
          refine hK8 _ _ ?_
          refine c_seq fun K10 hK10 => ?_
          refine c_block ?_
          refine c_seq fun K11 hK11 => ?_
          refine c_region ?_
          refine o_y (v := .int .i64 (((j : Nat) : Int))) rfl rfl (y_move h1_7) ?_
          refine o_y (v := .int .i64 (n)) rfl rfl (y_move h1_1) ?_
          refine o_y (v := .bool (decide (((j : Nat) : Int) ≠ n))) rfl rfl (y_neq rfl rfl rfl) ?_
          refine o_nil ?_
          refine hK11 _ _ ?_
          refine c_cond (t := decide (((j : Nat) : Int) ≠ n)) rfl (fun hc4 => ?_) (fun hc4 => ?_)
          ·
            replace hc4 := of_decide_eq_true hc4
            -- way FFLTT
            refine c_draw 6 (by kernel_rfl) (by kernel_rfl) ?_
            refine q_y (v := .agg (bv (foldX l n (j)))) rfl (y_loadB T25 h1_6 (Rd.whole (k := 0) rfl)) ?_
            refine q_y (v := .slice (a1) ((l).length) (cap1)) rfl (y_move h1_0) ?_
            refine q_y (v := .int .i64 (((j : Nat) : Int))) rfl (y_move h1_7) ?_
            refine q_y (v := .pointer (some ⟨b1, o1 + j * 64, none⟩)) rfl (y_ixO j (hs.at_ (by omega)) rfl rfl Try.underlying22 s25 (by omega) (by first | omega | (simp; done) | (simp; omega))) ?_
            refine q_y (v := .agg (bv ((l)[j]))) rfl (y_loadB T25 rfl (SlG.rd (SlG.old hs (fun _ h => h)) j (by first | omega | (simp; done) | (simp; omega)))) ?_
            refine q_y (v := .agg (bv (xorB (foldX l n (j)) ((l)[j])))) rfl (y_call (vs := [.agg (bv (foldX l n (j))), .agg (bv ((l)[j]))]) b16 rfl (fun w hw => f16_rxor _ _ w)) ?_
            refine q_nil ?_
            refine o_storeB (H' := [(g2, .cells (bv (xorB (foldX l n (j)) ((l)[j]))) 25 (0, 0)), (g1, .cells (bv (zB)) 25 (0, 0))]) T25 0 h1_6 rfl rfl rfl ?_
            refine o_nil ?_
            refine hK10 _ _ ?_
            refine c_region ?_
            refine o_y (v := .int .i64 (((j : Nat) : Int))) rfl rfl (y_move h1_7) ?_
            refine o_y (v := .int .i64 ((((j : Nat) : Int)) + 1)) rfl rfl (y_add rfl rfl (wi_i64 (by omega) (by omega))) ?_
            refine o_y (v := .int .i64 ((((j : Nat) : Int)) + 1)) rfl rfl (y_assign rfl) ?_
            refine o_nil ?_
            refine ⟨_, by omega, j + 1, rfl, by omega, h1_0, h1_1, h1_4, h1_6, (ie (a := (((j : Nat) : Int)) + 1) (b := ((j + 1 : Nat) : Int)) (by omega)), ?_⟩
            rw [foldX_succ _ _ _ (by omega), if_neg (by omega)]; first | done | rfl
          ·
            replace hc4 := of_decide_eq_false hc4
            -- way FFLTF
            refine c_skip ?_
            refine hK10 _ _ ?_
            refine c_region ?_
            refine o_y (v := .int .i64 (((j : Nat) : Int))) rfl rfl (y_move h1_7) ?_
            refine o_y (v := .int .i64 ((((j : Nat) : Int)) + 1)) rfl rfl (y_add rfl rfl (wi_i64 (by omega) (by omega))) ?_
            refine o_y (v := .int .i64 ((((j : Nat) : Int)) + 1)) rfl rfl (y_assign rfl) ?_
            refine o_nil ?_
            refine ⟨_, by omega, j + 1, rfl, by omega, h1_0, h1_1, h1_4, h1_6, (ie (a := (((j : Nat) : Int)) + 1) (b := ((j + 1 : Nat) : Int)) (by omega)), ?_⟩
            rw [foldX_succ _ _ _ (by omega), if_pos (by omega)]; first | done | rfl
        ·
          replace hc3 := of_decide_eq_false hc3
          -- way FFLF
          refine c_exit ?_
          refine hK6 _ _ ?_
          refine c_seq fun K12 hK12 => ?_
          refine c_region ?_
          refine o_y (v := .agg (bv (foldX l n (j)))) rfl rfl (y_loadB T25 h1_6 (Rd.whole (k := 0) rfl)) ?_
          refine o_storeB (H' := [(g2, .cells (bv (foldX l n (j))) 25 (0, 0)), (g1, .cells (bv (foldX l n (j))) 25 (0, 0))]) T25 1 h1_4 rfl rfl rfl ?_
          refine o_y (v := .int .i64 (0)) rfl rfl (y_assign rfl) ?_
          refine o_nil ?_
          refine hK12 _ _ ?_
          refine c_ret ?_
          refine fun w hw => ⟨[.agg (bv (foldX l n (j))), .int .i64 (0)], ⟨⟨_, h1_4, loadB T25 ((Rd.whole (k := 1) rfl) w hw)⟩, rfl, trivial⟩, ?_⟩
          obtain rfl : j = l.length := by omega
          rw [missE_in _ _ (by omega) (by omega), foldX_full _ _ (by omega) (by omega), missB, if_pos (by omega)]
          first | done | rfl
  ·
    have hc1' := of_decide_eq_true hc1
    -- way T
    refine o_guard (j := 2) (d := 10) (b := true) rfl rfl rfl (fun h => by cases h) rfl (fun _ => ?_)
    refine o_guard (j := 2) (d := 10) (b := true) rfl rfl rfl (fun h => by cases h) rfl (fun _ => ?_)
    refine o_guard (j := 2) (d := 10) (b := true) rfl rfl rfl (fun h => by cases h) rfl (fun _ => ?_)
    refine o_guard (j := 2) (d := 10) (b := true) rfl rfl rfl (fun h => by cases h) rfl (fun _ => ?_)
    refine o_y (v := .bool (true)) rfl rfl (y_pick (b := true) rfl rfl) ?_
    refine o_nil ?_
    refine hK3 _ _ ?_
    refine c_cond (t := true) rfl (fun _ => ?_) (fun h => by cases h)
    refine c_seq fun K13 hK13 => ?_
    refine c_region ?_
    refine o_y (v := .agg (bv (zB))) rfl rfl (y_build rfl (by kernel_rfl)) ?_
    refine o_storeB (H' := [(g1, .cells (bv (zB)) 25 (0, 0))]) T25 0 rfl rfl rfl rfl ?_
    refine o_y (v := .int .i64 (2)) rfl rfl (y_assign rfl) ?_
    refine o_nil ?_
    refine hK13 _ _ ?_
    refine c_ret ?_
    refine fun w hw => ⟨[.agg (bv (zB)), .int .i64 (2)], ⟨⟨_, rfl, loadB T25 ((Rd.whole (k := 0) rfl) w hw)⟩, rfl, trivial⟩, ?_⟩
    rw [missB_out _ _ (by omega), missE_out _ _ (by omega)]
    first | done | rfl

set_option maxRecDepth 100000 in
set_option maxHeartbeats 4000000 in
theorem f13_torn (a b : Blk) (n : Int) (w : World) (hn0 : -9223372036854775808 ≤ n) (hn1 : n ≤ 9223372036854775807) :
    Calls Try.prog 13 [.agg (bv (a)), .agg (bv (b)), .int .i64 (n)].toArray w fun e w' => e = .returned (.agg (bv (mixB n.toNat b a))) ∧ Below w.heap.size w w' := by
  have hcl := clampN_le n
  refine (calls_of (P := Try.prog) (n := 14) (w0 := w) (S := fun _ => False) (H := []) (T := fun v _ => v = (.agg (bv (mixB n.toNat b a)))) Try.func13 rfl Try.ntmps13 (Nat.le_of_ble_eq_true rfl) [.cell 6 25] rfl (St.nil w _) ?_).mono fun e w' ⟨v, H', he, hs, hT⟩ => ⟨by rw [he, hT], hs.below⟩
  refine c_seq fun K1 hK1 => ?_
  refine c_region ?_
  refine o_box (v := .agg (bv (a))) rfl rfl fun g1 => ?_
  refine o_box (v := .agg (bv (b))) rfl rfl fun g2 => ?_
  refine o_alloc (z := .agg (bv (zB))) rfl z25 fun g3 => ?_
  refine o_nil ?_
  refine hK1 _ _ ?_
  refine c_seq fun K2 hK2 => ?_
  refine c_draw 5 (by kernel_rfl) (by kernel_rfl) ?_
  refine q_y (v := .slice (some ⟨g1, 0, none⟩) (64) (64)) rfl (y_sliceArr0 64 rfl Try.underlying25 s5 rfl (by omega)) ?_
  refine q_y (v := .int .i64 (n)) rfl (y_move rfl) ?_
  refine q_y (v := .int .i64 (max n 0)) rfl (y_max rfl rfl rfl) ?_
  refine q_y (v := .int .i64 (((clampN n : Nat) : Int))) rfl (y_min (c := ((clampN n : Nat) : Int)) rfl rfl (clamp_eq n)) ?_
  refine q_y (v := .slice (some ⟨g2, 0, none⟩) (clampN n) (64)) rfl (y_sliceArr0 (clampN n) rfl Try.underlying25 s5 ⟨_, rfl⟩ (by omega)) ?_
  refine q_nil ?_
  refine o_copy (E := eByte) (c' := bv (mixB (clampN n) (b) (a))) (H' := [(g3, .cells (bv (zB)) 25 (0, 0)), (g2, .cells (bv (b)) 25 (0, 0)), (g1, .cells (bv (mixB (clampN n) (b) (a))) 25 (0, 0))]) 2 rfl rfl rfl (by first | omega | (simp; done) | (simp; omega)) Try.underlying42 s5 rfl (SlG.row (k := 1) rfl ((Row.bytes (b)).first (clampN n))) (by omega) (by show _ ≤ (bv _).size; rw [bv_size]; show 0 + _ * 1 ≤ 64; omega) (copy_bytes _ _ _ (by omega)) rfl ?_
  refine o_nil ?_
  refine hK2 _ _ ?_
  refine c_seq fun K3 hK3 => ?_
  refine c_region ?_
  refine o_y (v := .agg (bv (mixB (clampN n) (b) (a)))) rfl rfl (y_loadB T25 rfl (Rd.whole (k := 2) rfl)) ?_
  refine o_storeB (H' := [(g3, .cells (bv (mixB (clampN n) (b) (a))) 25 (0, 0)), (g2, .cells (bv (b)) 25 (0, 0)), (g1, .cells (bv (mixB (clampN n) (b) (a))) 25 (0, 0))]) T25 0 rfl rfl rfl rfl ?_
  refine o_nil ?_
  refine hK3 _ _ ?_
  refine c_ret ?_
  refine fun w hw => ⟨[.agg (bv (mixB (clampN n) (b) (a)))], ⟨⟨_, rfl, loadB T25 ((Rd.whole (k := 0) rfl) w hw)⟩, trivial⟩, ?_⟩
  show Value.agg _ = Value.agg _
  rw [mix_clamp]
  first | done | rfl

set_option maxRecDepth 100000 in
set_option maxHeartbeats 4000000 in
theorem f20_rtorn (a b : Blk) (n : Int) (w : World) (hn0 : -9223372036854775808 ≤ n) (hn1 : n ≤ 9223372036854775807) :
    Calls Try.prog 20 [.agg (bv (a)), .agg (bv (b)), .int .i64 (n)].toArray w fun e w' => e = .returned (.agg (bv (mixB n.toNat b a))) ∧ Below w.heap.size w w' := by
  refine (calls_of (P := Try.prog) (n := 25) (w0 := w) (S := fun _ => False) (H := []) (T := fun v _ => v = (.agg (bv (mixB n.toNat b a)))) Try.func20 rfl Try.ntmps20 (Nat.le_of_ble_eq_true rfl) [.cell 6 25] rfl (St.nil w _) ?_).mono fun e w' ⟨v, H', he, hs, hT⟩ => ⟨by rw [he, hT], hs.below⟩
  refine c_seq fun K1 hK1 => ?_
  refine c_region ?_
  refine o_box (v := .agg (bv (a))) rfl rfl fun g1 => ?_
  refine o_box (v := .agg (bv (b))) rfl rfl fun g2 => ?_
  refine o_alloc (z := .agg (bv (zB))) rfl z25 fun g3 => ?_
  refine o_nil ?_
  refine hK1 _ _ ?_
  refine c_seq fun K2 hK2 => ?_
  refine c_region ?_
  refine o_y (v := .agg (bv (a))) rfl rfl (y_loadB T25 rfl (Rd.whole (k := 2) rfl)) ?_
  refine o_alloc (z := .agg (bv (zB))) rfl z25 fun g4 => ?_
  refine o_storeB (H' := [(g4, .cells (bv (a)) 25 (0, 0)), (g3, .cells (bv (zB)) 25 (0, 0)), (g2, .cells (bv (b)) 25 (0, 0)), (g1, .cells (bv (a)) 25 (0, 0))]) T25 0 rfl rfl rfl rfl ?_
  refine o_nil ?_
  refine hK2 _ _ ?_
  refine c_seq fun K3 hK3 => ?_
  refine c_seq fun K4 hK4 => ?_
  refine c_region ?_
  refine o_y (v := .int .i64 (0)) rfl rfl (y_assign rfl) ?_
  refine o_nil ?_
  refine hK4 _ _ ?_
  refine c_block ?_
  refine c_loop (fun d R H => ∃ (j : Nat), d = 64 - (j) ∧ (j ≤ 64) ∧ (((j : Nat) : Int) ≤ n.toNat) ∧ R 2 = .int .i64 (n) ∧ R 3 = .pointer (some ⟨g1, 0, none⟩) ∧ R 4 = .pointer (some ⟨g2, 0, none⟩) ∧ R 6 = .pointer (some ⟨g3, 0, none⟩) ∧ R 7 = .pointer (some ⟨g4, 0, none⟩) ∧ R 8 = .int .i64 (((j : Nat) : Int)) ∧ H = ([(g4, .cells (bv (mixB (j) b a)) 25 (0, 0)), (g3, .cells (bv (zB)) 25 (0, 0)), (g2, .cells (bv (b)) 25 (0, 0)), (g1, .cells (bv (a)) 25 (0, 0))] : Hp)) (64 - (0)) ?_ ?_
  ·
    refine ⟨0, rfl, by omega, by omega, rfl, rfl, rfl, rfl, rfl, (ie (a := 0) (b := ((0 : Nat) : Int)) (by omega)), ?_⟩
    rw [mixB_zero]; first | done | rfl
  ·
    rintro d1 R1 _ ⟨j, hd1, hv1_0, hv1_1, h1_2, h1_3, h1_4, h1_6, h1_7, h1_8, rfl⟩
    refine c_seq fun K5 hK5 => ?_
    refine c_seq fun K6 hK6 => ?_
    refine c_region ?_
    refine o_y (v := .int .i64 (((j : Nat) : Int))) rfl rfl (y_move h1_8) ?_
    refine o_y (v := .bool (decide (((j : Nat) : Int) < 64))) rfl rfl (y_lss rfl rfl rfl) ?_
    refine o_y (v := .bool (decide (((j : Nat) : Int) < 64))) rfl rfl (y_move rfl) ?_
    cases hc1 : (decide (((j : Nat) : Int) < 64) : Bool)
    ·
      have hc1' := of_decide_eq_false hc1
      -- way LF
      refine o_guard (j := 2) (d := 12) (b := false) rfl rfl rfl (fun h => by cases h) rfl (fun _ => ?_)
      refine o_guard (j := 2) (d := 12) (b := false) rfl rfl rfl (fun h => by cases h) rfl (fun _ => ?_)
      refine o_guard (j := 2) (d := 12) (b := false) rfl rfl rfl (fun h => by cases h) rfl (fun _ => ?_)
      refine o_y (v := .bool (false)) rfl rfl (y_pick (b := false) rfl rfl) ?_
      refine o_nil ?_
      refine hK6 _ _ ?_
      refine c_cond (t := false) rfl (fun h => by cases h) (fun _ => ?_)
      refine c_exit ?_
      refine hK3 _ _ ?_
      refine c_seq fun K7 hK7 => ?_
      refine c_region ?_
      refine o_y (v := .agg (bv (mixB (j) b a))) rfl rfl (y_loadB T25 h1_7 (Rd.whole (k := 0) rfl)) ?_
      refine o_storeB (H' := [(g4, .cells (bv (mixB (j) b a)) 25 (0, 0)), (g3, .cells (bv (mixB (j) b a)) 25 (0, 0)), (g2, .cells (bv (b)) 25 (0, 0)), (g1, .cells (bv (a)) 25 (0, 0))]) T25 1 h1_6 rfl rfl rfl ?_
      refine o_nil ?_
      refine hK7 _ _ ?_
      refine c_ret ?_
      refine fun w hw => ⟨[.agg (bv (mixB (j) b a))], ⟨⟨_, h1_6, loadB T25 ((Rd.whole (k := 1) rfl) w hw)⟩, trivial⟩, ?_⟩
      rw [mix_toNat n j b a (by omega) (by omega) (by omega)]
      first | done | rfl
    ·
      have hc1' := of_decide_eq_true hc1
      -- way LT
      refine o_guard (j := 2) (d := 12) (b := true) rfl rfl rfl (fun _ => ?_) rfl (fun h => by cases h)
      refine o_y (v := .int .i64 (((j : Nat) : Int))) rfl rfl (y_move h1_8) ?_
      refine o_guard (j := 2) (d := 12) (b := true) rfl rfl rfl (fun _ => ?_) rfl (fun h => by cases h)
      refine o_y (v := .int .i64 (n)) rfl rfl (y_move h1_2) ?_
      refine o_guard (j := 2) (d := 12) (b := true) rfl rfl rfl (fun _ => ?_) rfl (fun h => by cases h)
      refine o_y (v := .bool (decide (((j : Nat) : Int) < n))) rfl rfl (y_lss rfl rfl rfl) ?_
      refine o_y (v := .bool (decide (((j : Nat) : Int) < n))) rfl rfl (y_pick (b := true) rfl rfl) ?_
      refine o_nil ?_
      refine hK6 _ _ ?_
      refine c_cond (t := decide (((j : Nat) : Int) < n)) rfl (fun hc2 => ?_) (fun hc2 => ?_)
      ·
        replace hc2 := of_decide_eq_true hc2
        -- way LTT
        refine c_skip ?_
        refine hK5 _ _ ?_
        refine c_seq fun K8 hK8 => ?_
        refine c_block ?_
        refine c_region ?_
        refine o_y (v := .int .i64 (((j : Nat) : Int))) rfl rfl (y_move h1_8) ?_
        refine o_y (v := .int .i64 (((j : Nat) : Int))) rfl rfl (y_move h1_8) ?_
        refine o_y (v := .pointer (some ⟨g2, j, none⟩)) rfl rfl (y_ixArr (sz := 1) h1_4 rfl Try.underlying25 s5 (by omega) (by omega) (by omega)) ?_
        refine o_y (v := .int .u8 (((b)[j]).toNat : Int)) rfl rfl (y_load rfl Try.underlying5 rfl (Rd.one (k := 2) rfl (bv_get _ _ (by omega)))) ?_
        refine o_y (v := .pointer (some ⟨g4, j, none⟩)) rfl rfl (y_ixArr (sz := 1) h1_7 rfl Try.underlying25 s5 (by omega) (by omega) (by omega)) ?_
        refine o_storeB1 (H' := [(g4, .cells (bv ((mixB (j) b a).set j ((b)[j]) (by omega))) 25 (0, 0)), (g3, .cells (bv (zB)) 25 (0, 0)), (g2, .cells (bv (b)) 25 (0, 0)), (g1, .cells (bv (a)) 25 (0, 0))]) 0 (by omega) s5 rfl rfl rfl rfl ?_
        refine o_nil ?_
        refine hK8 _ _ ?_
        refine c_region ?_
        refine o_y (v := .int .i64 (((j : Nat) : Int))) rfl rfl (y_move h1_8) ?_
        refine o_y (v := .int .i64 ((((j : Nat) : Int)) + 1)) rfl rfl (y_add rfl rfl (wi_i64 (by omega) (by omega))) ?_
        refine o_y (v := .int .i64 ((((j : Nat) : Int)) + 1)) rfl rfl (y_assign rfl) ?_
        refine o_nil ?_
        refine ⟨_, by omega, j + 1, rfl, by omega, by omega, h1_2, h1_3, h1_4, h1_6, h1_7, (ie (a := (((j : Nat) : Int)) + 1) (b := ((j + 1 : Nat) : Int)) (by omega)), ?_⟩
        rw [mixB_succ]; first | done | rfl
      ·
        replace hc2 := of_decide_eq_false hc2
        -- way LTF
        refine c_exit ?_
        refine hK3 _ _ ?_
        refine c_seq fun K9 hK9 => ?_
        refine c_region ?_
        refine o_y (v := .agg (bv (mixB (j) b a))) rfl rfl (y_loadB T25 h1_7 (Rd.whole (k := 0) rfl)) ?_
        refine o_storeB (H' := [(g4, .cells (bv (mixB (j) b a)) 25 (0, 0)), (g3, .cells (bv (mixB (j) b a)) 25 (0, 0)), (g2, .cells (bv (b)) 25 (0, 0)), (g1, .cells (bv (a)) 25 (0, 0))]) T25 1 h1_6 rfl rfl rfl ?_
        refine o_nil ?_
        refine hK9 _ _ ?_
        refine c_ret ?_
        refine fun w hw => ⟨[.agg (bv (mixB (j) b a))], ⟨⟨_, h1_6, loadB T25 ((Rd.whole (k := 1) rfl) w hw)⟩, trivial⟩, ?_⟩
        rw [mix_toNat n j b a (by omega) (by omega) (by omega)]
        first | done | rfl

end Go.Proofs.Ytaekfjidnbcajaa.Wall
