/- Proved: what a law of package wall comes to; the conditions stand in the statements. -/
import Derived.Test.YtaekfjidnbcajaaWallG
set_option linter.unusedVariables false
set_option linter.unusedSimpArgs false
namespace Go.Proofs.Ytaekfjidnbcajaa.Wall
open Go Go.RowKit Go.Proofs.Ytaekfjidnbcajaa.Eng

set_option maxRecDepth 100000 in
set_option maxHeartbeats 4000000 in
theorem f3_WallMissing (l : List Blk) (a1 : Option Addr) (b1 o1 cap1 m1 : Nat) (w : World) (hb : l.length * 64 ≤ 140737488351232) (hpos : 0 < l.length) (hm1 : m1 = l.length) (hs : Sl eBlk w l a1 b1 o1 cap1) :
    Calls Try.prog 3 [.slice (a1) (m1) (cap1)].toArray w fun e w' => e = .returned (.bool (true)) ∧ Below w.heap.size w w' := by
  subst hm1
  have hle := hs.le
  have hmx := hs.mx
  simp only [maxLen] at hmx
  refine (calls_of (P := Try.prog) (n := 61) (w0 := w) (S := fun _ => False) (H := []) (T := fun v _ => v = (.bool (true))) Try.func3 rfl Try.ntmps3 (Nat.le_of_ble_eq_true rfl) [.tmp 2] rfl (St.nil w _) ?_).mono fun e w' ⟨v, H', he, hs, hT⟩ => ⟨by rw [he, hT], hs.below⟩
  refine c_seq fun K1 hK1 => ?_
  refine c_region ?_
  refine o_y (v := .bool (false)) rfl rfl (y_assign rfl) ?_
  refine o_nil ?_
  refine hK1 _ _ ?_
  refine c_seq fun K2 hK2 => ?_
  refine c_region ?_
  refine o_y (v := .slice (a1) ((l).length) (cap1)) rfl rfl (y_move rfl) ?_
  refine o_callNew (vs := [.slice (a1) ((l).length) (cap1)]) b8 rfl rfl (fun w hw => f8_copy (l) _ _ _ _ _ w (by first | omega | (simp; done) | (simp; omega)) (by first | omega | (simp; done) | (simp; omega)) (by simp) ((SlG.old hs (fun _ h => h)) w hw)) ?_
  rintro _ _ ⟨g1, cg1, capg1, rfl, rfl, hrg1⟩
  have hmg1 := hrg1.mx
  have hlg1 := hrg1.le
  simp only [maxLen] at hmg1
  refine o_y (v := .slice (some ⟨g1, 0, none⟩) ((l).length) (capg1)) rfl rfl (y_assign rfl) ?_
  refine o_nil ?_
  refine hK2 _ _ ?_
  refine c_seq fun K3 hK3 => ?_
  refine c_region ?_
  refine o_y (v := .slice (some ⟨g1, 0, none⟩) ((l).length) (capg1)) rfl rfl (y_move rfl) ?_
  refine o_y (v := .slice (a1) ((l).length) (cap1)) rfl rfl (y_move rfl) ?_
  refine o_y (v := .agg (bv (foldB (l)))) rfl rfl (y_call (vs := [.slice (a1) ((l).length) (cap1)]) b9 rfl (fun w hw => f9_fold _ _ _ _ _ _ w (by first | (simp; done) | (simp; omega) | omega) ((SlG.old hs (fun _ h => h)) w hw))) ?_
  refine o_buildSlice SL22 ([foldB (l)] : List Blk) (fun x => .agg (bv x)) (fun _ => rfl) rfl rfl (by rw [Array.toList_map]; rfl) (by simp) (by simp [eBlk]) fun g2 => ?_
  have hrg2 := Row.lit (E := eBlk) ([foldB (l)]) (by simp [maxLen])
  refine o_appendOwn SL22 1 rfl rfl (by first | (simp; done) | (simp; omega) | omega) rfl hrg1 rfl (by first | (simp; done) | (simp; omega) | omega) (SlG.row (k := 0) rfl hrg2) (by simp only [maxLen]; first | omega | (simp; omega)) (by first | omega | (simp; done) | (simp; omega)) fun g3 cg3 capg3 hrg3 => ?_
  refine o_y (v := .slice (some ⟨g3, 0, none⟩) (((l).length) + 1) (capg3)) rfl rfl (y_assign rfl) ?_
  refine o_nil ?_
  refine hK3 _ _ ?_
  refine c_seq fun K4 hK4 => ?_
  refine c_seq fun K5 hK5 => ?_
  refine c_region ?_
  refine o_y (v := .int .i64 (0)) rfl rfl (y_assign rfl) ?_
  refine o_nil ?_
  refine hK5 _ _ ?_
  refine c_block ?_
  refine c_loop (fun d R H => ∃ (j : Nat), d = l.length + 1 - (j) ∧ (j ≤ l.length + 1) ∧ R 3 = .slice (some ⟨g3, 0, none⟩) (((l).length) + 1) (capg3) ∧ R 4 = .int .i64 (((j : Nat) : Int)) ∧ H = ([(g3, .cells (cg3) 25 (0, 0)), (g2, .cells ((([foldB (l)]).flatMap eBlk.enc).toArray) 25 (0, 0))] : Hp)) (l.length + 1 - (0)) ?_ ?_
  ·
    have hcap := hrg3.mx
    simp only [maxLen] at hcap
    have hcle := hrg3.le
    simp only [List.length_append, List.length_singleton] at hcle
    refine ⟨0, rfl, by omega, rfl, (ie (a := 0) (b := ((0 : Nat) : Int)) (by omega)), rfl⟩
  ·
    rintro d1 R1 _ ⟨j, hd1, hv1_0, h1_3, h1_4, rfl⟩
    refine c_seq fun K6 hK6 => ?_
    refine c_seq fun K7 hK7 => ?_
    refine c_region ?_
    refine o_y (v := .int .i64 (((j : Nat) : Int))) rfl rfl (y_move h1_4) ?_
    refine o_y (v := .slice (some ⟨g3, 0, none⟩) (((l).length) + 1) (capg3)) rfl rfl (y_move h1_3) ?_
    refine o_y (v := .int .i64 (((((l).length) + 1 : Nat) : Int))) rfl rfl (y_len rfl Try.underlying22) ?_
    refine o_y (v := .bool (decide (((j : Nat) : Int) < ((((l).length) + 1 : Nat) : Int)))) rfl rfl (y_lss rfl rfl rfl) ?_
    refine o_nil ?_
    refine hK7 _ _ ?_
    refine c_cond (t := decide (((j : Nat) : Int) < ((((l).length) + 1 : Nat) : Int))) rfl (fun hc2 => ?_) (fun hc2 => ?_)
    ·
      replace hc2 := of_decide_eq_true hc2
      -- way LT
      refine c_skip ?_
      refine hK6 _ _ ?_
      refine c_seq fun K8 hK8 => ?_
      refine c_block ?_
      refine c_seq fun K9 hK9 => ?_
      refine c_region ?_
      refine o_y (v := .slice (some ⟨g3, 0, none⟩) (((l).length) + 1) (capg3)) rfl rfl (y_move h1_3) ?_
      refine o_y (v := .int .i64 (((j : Nat) : Int))) rfl rfl (y_move h1_4) ?_
      refine o_y (v := .tuple #[.agg (bv (missB (l ++ ([foldB (l)])) (((j : Nat) : Int)))), .int .i64 (missE (l ++ ([foldB (l)])) (((j : Nat) : Int)))]) rfl rfl (y_call (vs := [.slice (some ⟨g3, 0, none⟩) (((l).length) + 1) (capg3), .int .i64 (((j : Nat) : Int))]) b10 rfl (fun w hw => f10_missing _ _ _ _ _ _ (((j : Nat) : Int)) w (by omega) (by omega) (by first | (simp; done) | (simp; omega) | omega) ((SlG.row (k := 0) rfl hrg3) w hw))) ?_
      refine o_y (v := .tuple #[.agg (bv (missB (l ++ ([foldB (l)])) (((j : Nat) : Int)))), .int .i64 (missE (l ++ ([foldB (l)])) (((j : Nat) : Int)))]) rfl rfl (y_move rfl) ?_
      refine o_y (v := .agg (bv (missB (l ++ ([foldB (l)])) (((j : Nat) : Int))))) rfl rfl (y_extract (vs := #[.agg (bv (missB (l ++ ([foldB (l)])) (((j : Nat) : Int)))), .int .i64 (missE (l ++ ([foldB (l)])) (((j : Nat) : Int)))]) rfl rfl) ?_
      refine o_y (v := .int .i64 (missE (l ++ ([foldB (l)])) (((j : Nat) : Int)))) rfl rfl (y_extract (vs := #[.agg (bv (missB (l ++ ([foldB (l)])) (((j : Nat) : Int)))), .int .i64 (missE (l ++ ([foldB (l)])) (((j : Nat) : Int)))]) rfl rfl) ?_
      refine o_alloc (z := .agg (bv (zB))) rfl z25 fun g4 => ?_
      refine o_storeB (H' := [(g4, .cells (bv (missB (l ++ ([foldB (l)])) (((j : Nat) : Int)))) 25 (0, 0)), (g3, .cells (cg3) 25 (0, 0)), (g2, .cells ((([foldB (l)]).flatMap eBlk.enc).toArray) 25 (0, 0))]) T25 0 rfl rfl rfl rfl ?_
      refine o_y (v := .int .i64 (missE (l ++ ([foldB (l)])) (((j : Nat) : Int)))) rfl rfl (y_assign rfl) ?_
      refine o_nil ?_
      refine hK9 _ _ ?_
      refine c_seq fun K10 hK10 => ?_
      refine c_draw 10 (by kernel_rfl) (by kernel_rfl) ?_
      refine q_y (v := .int .i64 (missE (l ++ ([foldB (l)])) (((j : Nat) : Int)))) rfl (y_move rfl) ?_
      refine q_y (v := .bool (false)) rfl (y_bool (y_neq rfl rfl rfl) (decide_eq_false (not_not_intro (missE_in _ _ (by omega) (by simp; omega))))) ?_
      refine q_y (v := .bool (false)) rfl (y_move rfl) ?_
      refine q_guardT (j := 2) (d := 32) rfl rfl rfl ?_
      refine q_y (v := .agg (bv (missB (l ++ ([foldB (l)])) (((j : Nat) : Int))))) rfl (y_loadB T25 rfl (Rd.whole (k := 0) rfl)) ?_
      refine q_guardT (j := 2) (d := 32) rfl rfl rfl ?_
      refine q_y (v := .slice (some ⟨g3, 0, none⟩) (((l).length) + 1) (capg3)) rfl (y_move h1_3) ?_
      refine q_guardT (j := 2) (d := 32) rfl rfl rfl ?_
      refine q_y (v := .int .i64 (((j : Nat) : Int))) rfl (y_move h1_4) ?_
      refine q_guardT (j := 2) (d := 32) rfl rfl rfl ?_
      refine q_y (v := .pointer (some ⟨g3, 0 + j * 64, none⟩)) rfl (y_ixO j rfl rfl rfl Try.underlying22 s25 (by omega) (by first | omega | (simp; done) | (simp; omega))) ?_
      refine q_guardT (j := 2) (d := 32) rfl rfl rfl ?_
      refine q_y (v := .agg (bv ((l ++ ([foldB (l)]))[j]'(by first | omega | (simp; done) | (simp; omega))))) rfl (y_loadB T25 rfl (SlG.rd (SlG.row (k := 1) rfl hrg3) j (by first | omega | (simp; done) | (simp; omega)))) ?_
      refine q_guardT (j := 2) (d := 32) rfl rfl rfl ?_
      refine q_y (v := .bool (false)) rfl (y_bool (y_neqV T25 rfl rfl) (decide_eq_false (not_not_intro (miss_all l j (by simp at *; omega))))) ?_
      refine q_y (v := .bool (false)) rfl (y_pick (b := false) rfl rfl) ?_
      refine q_nil ?_
      refine o_nil ?_
      refine hK10 _ _ ?_
      refine c_cond (t := false) rfl (fun h => by cases h) (fun _ => ?_)
      refine c_skip ?_
      refine hK8 _ _ ?_
      refine c_region ?_
      refine o_y (v := .int .i64 (((j : Nat) : Int))) rfl rfl (y_move h1_4) ?_
      refine o_y (v := .int .i64 ((((j : Nat) : Int)) + 1)) rfl rfl (y_add rfl rfl (wi_i64 (by omega) (by omega))) ?_
      refine o_y (v := .int .i64 ((((j : Nat) : Int)) + 1)) rfl rfl (y_assign rfl) ?_
      refine o_forget (((List.Sublist.slnil.cons_cons _).cons_cons _).cons _) ?_
      refine o_nil ?_
      refine ⟨_, by omega, j + 1, rfl, by omega, h1_3, (ie (a := (((j : Nat) : Int)) + 1) (b := ((j + 1 : Nat) : Int)) (by omega)), rfl⟩
    ·
      replace hc2 := of_decide_eq_false hc2
      -- way LF
      refine c_exit ?_
      refine hK4 _ _ ?_
      refine c_seq fun K11 hK11 => ?_
      refine c_region ?_
      refine o_y (v := .slice (some ⟨g3, 0, none⟩) (((l).length) + 1) (capg3)) rfl rfl (y_move h1_3) ?_
      refine o_y (v := .slice (some ⟨g3, 0, none⟩) (((l).length) + 1) (capg3)) rfl rfl (y_move h1_3) ?_
      refine o_y (v := .int .i64 (((((l).length) + 1 : Nat) : Int))) rfl rfl (y_len rfl Try.underlying22) ?_
      refine o_y (v := .tuple #[.agg (bv (missB (l ++ ([foldB (l)])) (((((l).length) + 1 : Nat) : Int)))), .int .i64 (missE (l ++ ([foldB (l)])) (((((l).length) + 1 : Nat) : Int)))]) rfl rfl (y_call (vs := [.slice (some ⟨g3, 0, none⟩) (((l).length) + 1) (capg3), .int .i64 (((((l).length) + 1 : Nat) : Int))]) b10 rfl (fun w hw => f10_missing _ _ _ _ _ _ (((((l).length) + 1 : Nat) : Int)) w (by omega) (by omega) (by first | (simp; done) | (simp; omega) | omega) ((SlG.row (k := 0) rfl hrg3) w hw))) ?_
      refine o_y (v := .tuple #[.agg (bv (missB (l ++ ([foldB (l)])) (((((l).length) + 1 : Nat) : Int)))), .int .i64 (missE (l ++ ([foldB (l)])) (((((l).length) + 1 : Nat) : Int)))]) rfl rfl (y_move rfl) ?_
      refine o_y (v := .agg (bv (missB (l ++ ([foldB (l)])) (((((l).length) + 1 : Nat) : Int))))) rfl rfl (y_extract (vs := #[.agg (bv (missB (l ++ ([foldB (l)])) (((((l).length) + 1 : Nat) : Int)))), .int .i64 (missE (l ++ ([foldB (l)])) (((((l).length) + 1 : Nat) : Int)))]) rfl rfl) ?_
      refine o_y (v := .int .i64 (missE (l ++ ([foldB (l)])) (((((l).length) + 1 : Nat) : Int)))) rfl rfl (y_extract (vs := #[.agg (bv (missB (l ++ ([foldB (l)])) (((((l).length) + 1 : Nat) : Int)))), .int .i64 (missE (l ++ ([foldB (l)])) (((((l).length) + 1 : Nat) : Int)))]) rfl rfl) ?_
      refine o_alloc (z := .agg (bv (zB))) rfl z25 fun g5 => ?_
      refine o_storeB (H' := [(g5, .cells (bv (missB (l ++ ([foldB (l)])) (((((l).length) + 1 : Nat) : Int)))) 25 (0, 0)), (g3, .cells (cg3) 25 (0, 0)), (g2, .cells ((([foldB (l)]).flatMap eBlk.enc).toArray) 25 (0, 0))]) T25 0 rfl rfl rfl rfl ?_
      refine o_y (v := .int .i64 (missE (l ++ ([foldB (l)])) (((((l).length) + 1 : Nat) : Int)))) rfl rfl (y_assign rfl) ?_
      refine o_nil ?_
      refine hK11 _ _ ?_
      refine c_seq fun K12 hK12 => ?_
      refine c_region ?_
      refine o_y (v := .slice (some ⟨g3, 0, none⟩) (((l).length) + 1) (capg3)) rfl rfl (y_move h1_3) ?_
      refine o_y (v := .tuple #[.agg (bv (missB (l ++ ([foldB (l)])) (-1))), .int .i64 (missE (l ++ ([foldB (l)])) (-1))]) rfl rfl (y_call (vs := [.slice (some ⟨g3, 0, none⟩) (((l).length) + 1) (capg3), .int .i64 (-1)]) b10 rfl (fun w hw => f10_missing _ _ _ _ _ _ (-1) w (by omega) (by omega) (by first | (simp; done) | (simp; omega) | omega) ((SlG.row (k := 1) rfl hrg3) w hw))) ?_
      refine o_y (v := .tuple #[.agg (bv (missB (l ++ ([foldB (l)])) (-1))), .int .i64 (missE (l ++ ([foldB (l)])) (-1))]) rfl rfl (y_move rfl) ?_
      refine o_y (v := .agg (bv (missB (l ++ ([foldB (l)])) (-1)))) rfl rfl (y_extract (vs := #[.agg (bv (missB (l ++ ([foldB (l)])) (-1))), .int .i64 (missE (l ++ ([foldB (l)])) (-1))]) rfl rfl) ?_
      refine o_y (v := .int .i64 (missE (l ++ ([foldB (l)])) (-1))) rfl rfl (y_extract (vs := #[.agg (bv (missB (l ++ ([foldB (l)])) (-1))), .int .i64 (missE (l ++ ([foldB (l)])) (-1))]) rfl rfl) ?_
      refine o_alloc (z := .agg (bv (zB))) rfl z25 fun g6 => ?_
      refine o_storeB (H' := [(g6, .cells (bv (missB (l ++ ([foldB (l)])) (-1))) 25 (0, 0)), (g5, .cells (bv (missB (l ++ ([foldB (l)])) (((((l).length) + 1 : Nat) : Int)))) 25 (0, 0)), (g3, .cells (cg3) 25 (0, 0)), (g2, .cells ((([foldB (l)]).flatMap eBlk.enc).toArray) 25 (0, 0))]) T25 0 rfl rfl rfl rfl ?_
      refine o_y (v := .int .i64 (missE (l ++ ([foldB (l)])) (-1))) rfl rfl (y_assign rfl) ?_
      refine o_nil ?_
      refine hK12 _ _ ?_
      refine c_seq fun K13 hK13 => ?_
      refine c_region ?_
      refine o_y (v := .int .i64 (missE (l ++ ([foldB (l)])) (((((l).length) + 1 : Nat) : Int)))) rfl rfl (y_move rfl) ?_
      refine o_y (v := .bool (true)) rfl rfl (y_bool (y_eql rfl rfl rfl) (decide_eq_true (missE_out _ _ (by simp)))) ?_
      refine o_y (v := .bool (true)) rfl rfl (y_move rfl) ?_
      refine o_guard (j := 2) (d := 54) (b := true) rfl rfl rfl (fun _ => ?_) rfl (fun h => by cases h)
      refine o_y (v := .int .i64 (missE (l ++ ([foldB (l)])) (-1))) rfl rfl (y_move rfl) ?_
      refine o_guard (j := 2) (d := 54) (b := true) rfl rfl rfl (fun _ => ?_) rfl (fun h => by cases h)
      refine o_y (v := .bool (true)) rfl rfl (y_bool (y_eql rfl rfl rfl) (decide_eq_true (missE_out _ _ (by omega)))) ?_
      refine o_y (v := .bool (true)) rfl rfl (y_pick (b := true) rfl rfl) ?_
      refine o_y (v := .bool (true)) rfl rfl (y_move rfl) ?_
      refine o_guard (j := 6) (d := 58) (b := true) rfl rfl rfl (fun _ => ?_) rfl (fun h => by cases h)
      refine o_y (v := .bool (true)) rfl rfl (y_call (vs := []) b11 rfl (fun w hw => f11_lives w)) ?_
      refine o_y (v := .bool (true)) rfl rfl (y_pick (b := true) rfl rfl) ?_
      refine o_y (v := .bool (true)) rfl rfl (y_assign rfl) ?_
      refine o_nil ?_
      refine hK13 _ _ ?_
      refine c_ret ?_
      refine fun w hw => ⟨[.bool (true)], ⟨rfl, trivial⟩, ?_⟩
      exact rfl

set_option maxRecDepth 100000 in
set_option maxHeartbeats 4000000 in
theorem f3_WallMissing0 (a1 : Option Addr) (cap1 : Nat) (w : World) (hm0 : cap1 ≤ maxLen) :
    Calls Try.prog 3 [.slice (a1) (0) (cap1)].toArray w fun e w' => e = .returned (.bool (true)) ∧ Below w.heap.size w w' := by
  have hm1 := hm0
  simp only [maxLen] at hm1
  refine (calls_of (P := Try.prog) (n := 61) (w0 := w) (S := fun _ => False) (H := []) (T := fun v _ => v = (.bool (true))) Try.func3 rfl Try.ntmps3 (Nat.le_of_ble_eq_true rfl) [.tmp 2] rfl (St.nil w _) ?_).mono fun e w' ⟨v, H', he, hs, hT⟩ => ⟨by rw [he, hT], hs.below⟩
  refine c_seq fun K1 hK1 => ?_
  refine c_region ?_
  refine o_y (v := .bool (false)) rfl rfl (y_assign rfl) ?_
  refine o_nil ?_
  refine hK1 _ _ ?_
  refine c_seq fun K2 hK2 => ?_
  refine c_region ?_
  refine o_y (v := .slice (a1) (0) (cap1)) rfl rfl (y_move rfl) ?_
  refine o_y (v := .slice none 0 0) rfl rfl (y_call (vs := [.slice (a1) (0) (cap1)]) b8 rfl (fun w hw => f8_copy0 _ _ w hm0)) ?_
  refine o_y (v := .slice none 0 0) rfl rfl (y_assign rfl) ?_
  refine o_nil ?_
  refine hK2 _ _ ?_
  refine c_seq fun K3 hK3 => ?_
  refine c_region ?_
  refine o_y (v := .slice none 0 0) rfl rfl (y_move rfl) ?_
  refine o_y (v := .slice (a1) (0) (cap1)) rfl rfl (y_move rfl) ?_
  refine o_y (v := .agg (bv (foldB (([] : List Blk))))) rfl rfl (y_call (vs := [.slice (a1) (0) (cap1)]) b9 rfl (fun w hw => f9_fold _ _ _ _ _ _ w (by first | (simp; done) | (simp; omega) | omega) ((SlG.none (b := 0) (o := 0) hm0) w hw))) ?_
  refine o_buildSlice SL22 ([foldB (([] : List Blk))] : List Blk) (fun x => .agg (bv x)) (fun _ => rfl) rfl rfl (by rw [Array.toList_map]; rfl) (by simp) (by simp [eBlk]) fun g1 => ?_
  have hrg1 := Row.lit (E := eBlk) ([foldB (([] : List Blk))]) (by simp [maxLen])
  refine o_appendNil SL22 rfl rfl rfl (by first | (simp; done) | (simp; omega) | omega) (SlG.row (k := 0) rfl hrg1) (by first | omega | (simp; done) | (simp; omega)) (by first | omega | (simp; done) | (simp; omega)) fun g2 cg2 capg2 hrg2 => ?_
  refine o_y (v := .slice (some ⟨g2, 0, none⟩) (1) (capg2)) rfl rfl (y_assign rfl) ?_
  refine o_nil ?_
  refine hK3 _ _ ?_
  refine c_seq fun K4 hK4 => ?_
  refine c_seq fun K5 hK5 => ?_
  refine c_region ?_
  refine o_y (v := .int .i64 (0)) rfl rfl (y_assign rfl) ?_
  refine o_nil ?_
  refine hK5 _ _ ?_
  refine c_block ?_
  refine c_loop (fun d R H => ∃ (j : Nat), d = 1 - (j) ∧ (j ≤ 1) ∧ R 3 = .slice (some ⟨g2, 0, none⟩) (1) (capg2) ∧ R 4 = .int .i64 (((j : Nat) : Int)) ∧ H = ([(g2, .cells (cg2) 25 (0, 0)), (g1, .cells ((([foldB (([] : List Blk))]).flatMap eBlk.enc).toArray) 25 (0, 0))] : Hp)) (1 - (0)) ?_ ?_
  ·
    refine ⟨0, rfl, by omega, rfl, (ie (a := 0) (b := ((0 : Nat) : Int)) (by omega)), rfl⟩
  ·
    rintro d1 R1 _ ⟨j, hd1, hv1_0, h1_3, h1_4, rfl⟩
    refine c_seq fun K6 hK6 => ?_
    refine c_seq fun K7 hK7 => ?_
    refine c_region ?_
    refine o_y (v := .int .i64 (((j : Nat) : Int))) rfl rfl (y_move h1_4) ?_
    refine o_y (v := .slice (some ⟨g2, 0, none⟩) (1) (capg2)) rfl rfl (y_move h1_3) ?_
    refine o_y (v := .int .i64 (((1 : Nat) : Int))) rfl rfl (y_len rfl Try.underlying22) ?_
    refine o_y (v := .bool (decide (((j : Nat) : Int) < ((1 : Nat) : Int)))) rfl rfl (y_lss rfl rfl rfl) ?_
    refine o_nil ?_
    refine hK7 _ _ ?_
    refine c_cond (t := decide (((j : Nat) : Int) < ((1 : Nat) : Int))) rfl (fun hc2 => ?_) (fun hc2 => ?_)
    ·
      replace hc2 := of_decide_eq_true hc2
      -- way LT
      refine c_skip ?_
      refine hK6 _ _ ?_
      refine c_seq fun K8 hK8 => ?_
      refine c_block ?_
      refine c_seq fun K9 hK9 => ?_
      refine c_region ?_
      refine o_y (v := .slice (some ⟨g2, 0, none⟩) (1) (capg2)) rfl rfl (y_move h1_3) ?_
      refine o_y (v := .int .i64 (((j : Nat) : Int))) rfl rfl (y_move h1_4) ?_
      refine o_y (v := .tuple #[.agg (bv (missB ([foldB (([] : List Blk))]) (((j : Nat) : Int)))), .int .i64 (missE ([foldB (([] : List Blk))]) (((j : Nat) : Int)))]) rfl rfl (y_call (vs := [.slice (some ⟨g2, 0, none⟩) (1) (capg2), .int .i64 (((j : Nat) : Int))]) b10 rfl (fun w hw => f10_missing _ _ _ _ _ _ (((j : Nat) : Int)) w (by omega) (by omega) (by first | (simp; done) | (simp; omega) | omega) ((SlG.row (k := 0) rfl hrg2) w hw))) ?_
      refine o_y (v := .tuple #[.agg (bv (missB ([foldB (([] : List Blk))]) (((j : Nat) : Int)))), .int .i64 (missE ([foldB (([] : List Blk))]) (((j : Nat) : Int)))]) rfl rfl (y_move rfl) ?_
      refine o_y (v := .agg (bv (missB ([foldB (([] : List Blk))]) (((j : Nat) : Int))))) rfl rfl (y_extract (vs := #[.agg (bv (missB ([foldB (([] : List Blk))]) (((j : Nat) : Int)))), .int .i64 (missE ([foldB (([] : List Blk))]) (((j : Nat) : Int)))]) rfl rfl) ?_
      refine o_y (v := .int .i64 (missE ([foldB (([] : List Blk))]) (((j : Nat) : Int)))) rfl rfl (y_extract (vs := #[.agg (bv (missB ([foldB (([] : List Blk))]) (((j : Nat) : Int)))), .int .i64 (missE ([foldB (([] : List Blk))]) (((j : Nat) : Int)))]) rfl rfl) ?_
      refine o_alloc (z := .agg (bv (zB))) rfl z25 fun g3 => ?_
      refine o_storeB (H' := [(g3, .cells (bv (missB ([foldB (([] : List Blk))]) (((j : Nat) : Int)))) 25 (0, 0)), (g2, .cells (cg2) 25 (0, 0)), (g1, .cells ((([foldB (([] : List Blk))]).flatMap eBlk.enc).toArray) 25 (0, 0))]) T25 0 rfl rfl rfl rfl ?_
      refine o_y (v := .int .i64 (missE ([foldB (([] : List Blk))]) (((j : Nat) : Int)))) rfl rfl (y_assign rfl) ?_
      refine o_nil ?_
      refine hK9 _ _ ?_
      refine c_seq fun K10 hK10 => ?_
      refine c_draw 10 (by kernel_rfl) (by kernel_rfl) ?_
      refine q_y (v := .int .i64 (missE ([foldB (([] : List Blk))]) (((j : Nat) : Int)))) rfl (y_move rfl) ?_
      refine q_y (v := .bool (false)) rfl (y_bool (y_neq rfl rfl rfl) (decide_eq_false (not_not_intro (missE_in _ _ (by omega) (by simp; omega))))) ?_
      refine q_y (v := .bool (false)) rfl (y_move rfl) ?_
      refine q_guardT (j := 2) (d := 32) rfl rfl rfl ?_
      refine q_y (v := .agg (bv (missB ([foldB (([] : List Blk))]) (((j : Nat) : Int))))) rfl (y_loadB T25 rfl (Rd.whole (k := 0) rfl)) ?_
      refine q_guardT (j := 2) (d := 32) rfl rfl rfl ?_
      refine q_y (v := .slice (some ⟨g2, 0, none⟩) (1) (capg2)) rfl (y_move h1_3) ?_
      refine q_guardT (j := 2) (d := 32) rfl rfl rfl ?_
      refine q_y (v := .int .i64 (((j : Nat) : Int))) rfl (y_move h1_4) ?_
      refine q_guardT (j := 2) (d := 32) rfl rfl rfl ?_
      refine q_y (v := .pointer (some ⟨g2, 0 + j * 64, none⟩)) rfl (y_ixO j rfl rfl rfl Try.underlying22 s25 (by omega) (by first | omega | (simp; done) | (simp; omega))) ?_
      refine q_guardT (j := 2) (d := 32) rfl rfl rfl ?_
      refine q_y (v := .agg (bv (([foldB (([] : List Blk))])[j]'(by first | omega | (simp; done) | (simp; omega))))) rfl (y_loadB T25 rfl (SlG.rd (SlG.row (k := 1) rfl hrg2) j (by first | omega | (simp; done) | (simp; omega)))) ?_
      refine q_guardT (j := 2) (d := 32) rfl rfl rfl ?_
      refine q_y (v := .bool (false)) rfl (y_bool (y_neqV T25 rfl rfl) (decide_eq_false (not_not_intro (miss_all [] j (by simp at *; omega))))) ?_
      refine q_y (v := .bool (false)) rfl (y_pick (b := false) rfl rfl) ?_
      refine q_nil ?_
      refine o_nil ?_
      refine hK10 _ _ ?_
      refine c_cond (t := false) rfl (fun h => by cases h) (fun _ => ?_)
      refine c_skip ?_
      refine hK8 _ _ ?_
      refine c_region ?_
      refine o_y (v := .int .i64 (((j : Nat) : Int))) rfl rfl (y_move h1_4) ?_
      refine o_y (v := .int .i64 ((((j : Nat) : Int)) + 1)) rfl rfl (y_add rfl rfl (wi_i64 (by omega) (by omega))) ?_
      refine o_y (v := .int .i64 ((((j : Nat) : Int)) + 1)) rfl rfl (y_assign rfl) ?_
      refine o_forget (((List.Sublist.slnil.cons_cons _).cons_cons _).cons _) ?_
      refine o_nil ?_
      refine ⟨_, by omega, j + 1, rfl, by omega, h1_3, (ie (a := (((j : Nat) : Int)) + 1) (b := ((j + 1 : Nat) : Int)) (by omega)), rfl⟩
    ·
      replace hc2 := of_decide_eq_false hc2
      -- way LF
      refine c_exit ?_
      refine hK4 _ _ ?_
      refine c_seq fun K11 hK11 => ?_
      refine c_region ?_
      refine o_y (v := .slice (some ⟨g2, 0, none⟩) (1) (capg2)) rfl rfl (y_move h1_3) ?_
      refine o_y (v := .slice (some ⟨g2, 0, none⟩) (1) (capg2)) rfl rfl (y_move h1_3) ?_
      refine o_y (v := .int .i64 (((1 : Nat) : Int))) rfl rfl (y_len rfl Try.underlying22) ?_
      refine o_y (v := .tuple #[.agg (bv (missB ([foldB (([] : List Blk))]) (((1 : Nat) : Int)))), .int .i64 (missE ([foldB (([] : List Blk))]) (((1 : Nat) : Int)))]) rfl rfl (y_call (vs := [.slice (some ⟨g2, 0, none⟩) (1) (capg2), .int .i64 (((1 : Nat) : Int))]) b10 rfl (fun w hw => f10_missing _ _ _ _ _ _ (((1 : Nat) : Int)) w (by omega) (by omega) (by first | (simp; done) | (simp; omega) | omega) ((SlG.row (k := 0) rfl hrg2) w hw))) ?_
      refine o_y (v := .tuple #[.agg (bv (missB ([foldB (([] : List Blk))]) (((1 : Nat) : Int)))), .int .i64 (missE ([foldB (([] : List Blk))]) (((1 : Nat) : Int)))]) rfl rfl (y_move rfl) ?_
      refine o_y (v := .agg (bv (missB ([foldB (([] : List Blk))]) (((1 : Nat) : Int))))) rfl rfl (y_extract (vs := #[.agg (bv (missB ([foldB (([] : List Blk))]) (((1 : Nat) : Int)))), .int .i64 (missE ([foldB (([] : List Blk))]) (((1 : Nat) : Int)))]) rfl rfl) ?_
      refine o_y (v := .int .i64 (missE ([foldB (([] : List Blk))]) (((1 : Nat) : Int)))) rfl rfl (y_extract (vs := #[.agg (bv (missB ([foldB (([] : List Blk))]) (((1 : Nat) : Int)))), .int .i64 (missE ([foldB (([] : List Blk))]) (((1 : Nat) : Int)))]) rfl rfl) ?_
      refine o_alloc (z := .agg (bv (zB))) rfl z25 fun g4 => ?_
      refine o_storeB (H' := [(g4, .cells (bv (missB ([foldB (([] : List Blk))]) (((1 : Nat) : Int)))) 25 (0, 0)), (g2, .cells (cg2) 25 (0, 0)), (g1, .cells ((([foldB (([] : List Blk))]).flatMap eBlk.enc).toArray) 25 (0, 0))]) T25 0 rfl rfl rfl rfl ?_
      refine o_y (v := .int .i64 (missE ([foldB (([] : List Blk))]) (((1 : Nat) : Int)))) rfl rfl (y_assign rfl) ?_
      refine o_nil ?_
      refine hK11 _ _ ?_
      refine c_seq fun K12 hK12 => ?_
      refine c_region ?_
      refine o_y (v := .slice (some ⟨g2, 0, none⟩) (1) (capg2)) rfl rfl (y_move h1_3) ?_
      refine o_y (v := .tuple #[.agg (bv (missB ([foldB (([] : List Blk))]) (-1))), .int .i64 (missE ([foldB (([] : List Blk))]) (-1))]) rfl rfl (y_call (vs := [.slice (some ⟨g2, 0, none⟩) (1) (capg2), .int .i64 (-1)]) b10 rfl (fun w hw => f10_missing _ _ _ _ _ _ (-1) w (by omega) (by omega) (by first | (simp; done) | (simp; omega) | omega) ((SlG.row (k := 1) rfl hrg2) w hw))) ?_
      refine o_y (v := .tuple #[.agg (bv (missB ([foldB (([] : List Blk))]) (-1))), .int .i64 (missE ([foldB (([] : List Blk))]) (-1))]) rfl rfl (y_move rfl) ?_
      refine o_y (v := .agg (bv (missB ([foldB (([] : List Blk))]) (-1)))) rfl rfl (y_extract (vs := #[.agg (bv (missB ([foldB (([] : List Blk))]) (-1))), .int .i64 (missE ([foldB (([] : List Blk))]) (-1))]) rfl rfl) ?_
      refine o_y (v := .int .i64 (missE ([foldB (([] : List Blk))]) (-1))) rfl rfl (y_extract (vs := #[.agg (bv (missB ([foldB (([] : List Blk))]) (-1))), .int .i64 (missE ([foldB (([] : List Blk))]) (-1))]) rfl rfl) ?_
      refine o_alloc (z := .agg (bv (zB))) rfl z25 fun g5 => ?_
      refine o_storeB (H' := [(g5, .cells (bv (missB ([foldB (([] : List Blk))]) (-1))) 25 (0, 0)), (g4, .cells (bv (missB ([foldB (([] : List Blk))]) (((1 : Nat) : Int)))) 25 (0, 0)), (g2, .cells (cg2) 25 (0, 0)), (g1, .cells ((([foldB (([] : List Blk))]).flatMap eBlk.enc).toArray) 25 (0, 0))]) T25 0 rfl rfl rfl rfl ?_
      refine o_y (v := .int .i64 (missE ([foldB (([] : List Blk))]) (-1))) rfl rfl (y_assign rfl) ?_
      refine o_nil ?_
      refine hK12 _ _ ?_
      refine c_seq fun K13 hK13 => ?_
      refine c_region ?_
      refine o_y (v := .int .i64 (missE ([foldB (([] : List Blk))]) (((1 : Nat) : Int)))) rfl rfl (y_move rfl) ?_
      refine o_y (v := .bool (true)) rfl rfl (y_bool (y_eql rfl rfl rfl) (decide_eq_true (missE_out _ _ (by simp)))) ?_
      refine o_y (v := .bool (true)) rfl rfl (y_move rfl) ?_
      refine o_guard (j := 2) (d := 54) (b := true) rfl rfl rfl (fun _ => ?_) rfl (fun h => by cases h)
      refine o_y (v := .int .i64 (missE ([foldB (([] : List Blk))]) (-1))) rfl rfl (y_move rfl) ?_
      refine o_guard (j := 2) (d := 54) (b := true) rfl rfl rfl (fun _ => ?_) rfl (fun h => by cases h)
      refine o_y (v := .bool (true)) rfl rfl (y_bool (y_eql rfl rfl rfl) (decide_eq_true (missE_out _ _ (by omega)))) ?_
      refine o_y (v := .bool (true)) rfl rfl (y_pick (b := true) rfl rfl) ?_
      refine o_y (v := .bool (true)) rfl rfl (y_move rfl) ?_
      refine o_guard (j := 6) (d := 58) (b := true) rfl rfl rfl (fun _ => ?_) rfl (fun h => by cases h)
      refine o_y (v := .bool (true)) rfl rfl (y_call (vs := []) b11 rfl (fun w hw => f11_lives w)) ?_
      refine o_y (v := .bool (true)) rfl rfl (y_pick (b := true) rfl rfl) ?_
      refine o_y (v := .bool (true)) rfl rfl (y_assign rfl) ?_
      refine o_nil ?_
      refine hK13 _ _ ?_
      refine c_ret ?_
      refine fun w hw => ⟨[.bool (true)], ⟨rfl, trivial⟩, ?_⟩
      exact rfl

end Go.Proofs.Ytaekfjidnbcajaa.Wall
