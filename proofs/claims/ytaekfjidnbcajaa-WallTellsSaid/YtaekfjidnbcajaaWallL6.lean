/- Proved: what a law of package wall comes to; the conditions stand in the statements. -/
import Derived.Test.YtaekfjidnbcajaaWallG
set_option linter.unusedVariables false
set_option linter.unusedSimpArgs false
namespace Go.Proofs.Ytaekfjidnbcajaa.Wall
open Go Go.RowKit Go.Proofs.Ytaekfjidnbcajaa.Eng

set_option maxRecDepth 100000 in
set_option maxHeartbeats 4000000 in
theorem f6_WallTells (a b c : Blk) (l : List Blk) (a1 : Option Addr) (b1 o1 cap1 m1 : Nat) (n : Int) (w : World) (hn0 : -9223372036854775808 ≤ n) (hn1 : n ≤ 9223372036854775807) (hb : l.length * 64 ≤ 140737488351232) (hm1 : m1 = l.length) (hs : Sl eBlk w l a1 b1 o1 cap1) :
    Calls Try.prog 6 [.agg (bv (a)), .agg (bv (b)), .agg (bv (c)), .slice (a1) (m1) (cap1), .int .i64 (n)].toArray w fun e w' => e = .returned (.bool (true)) ∧ Below w.heap.size w w' := by
  subst hm1
  have hle := hs.le
  have hmx := hs.mx
  simp only [maxLen] at hmx
  refine (calls_of (P := Try.prog) (n := 99) (w0 := w) (S := fun _ => False) (H := []) (T := fun v _ => v = (.bool (true))) Try.func6 rfl Try.ntmps6 (Nat.le_of_ble_eq_true rfl) [.tmp 10] rfl (St.nil w _) ?_).mono fun e w' ⟨v, H', he, hs, hT⟩ => ⟨by rw [he, hT], hs.below⟩
  refine c_seq fun K1 hK1 => ?_
  refine c_region ?_
  refine o_box (v := .agg (bv (a))) rfl rfl fun g1 => ?_
  refine o_box (v := .agg (bv (b))) rfl rfl fun g2 => ?_
  refine o_box (v := .agg (bv (c))) rfl rfl fun g3 => ?_
  refine o_y (v := .bool (false)) rfl rfl (y_assign rfl) ?_
  refine o_nil ?_
  refine hK1 _ _ ?_
  refine c_seq fun K2 hK2 => ?_
  refine c_region ?_
  refine o_y (v := .slice (a1) ((l).length) (cap1)) rfl rfl (y_move rfl) ?_
  refine o_callNew (vs := [.slice (a1) ((l).length) (cap1)]) b14 rfl rfl (fun w hw => f14_wide (l) _ _ _ _ _ w (by first | omega | (simp; done) | (simp; omega)) (by simp) ((SlG.old hs (fun _ h => h)) w hw)) ?_
  rintro _ _ ⟨g4, cg4, rfl, rfl, hrg4⟩
  refine o_y (v := .slice (some ⟨g4, 0, none⟩) ((l).length) ((l).length + 2)) rfl rfl (y_assign rfl) ?_
  refine o_nil ?_
  refine hK2 _ _ ?_
  refine c_seq fun K3 hK3 => ?_
  refine c_region ?_
  refine o_y (v := .slice (some ⟨g4, 0, none⟩) ((l).length) ((l).length + 2)) rfl rfl (y_move rfl) ?_
  refine o_y (v := .int .i64 (n)) rfl rfl (y_move rfl) ?_
  refine o_y (v := .tuple #[.agg (bv (missB (l) (n))), .int .i64 (missE (l) (n))]) rfl rfl (y_call (vs := [.slice (some ⟨g4, 0, none⟩) ((l).length) ((l).length + 2), .int .i64 (n)]) b10 rfl (fun w hw => f10_missing _ _ _ _ _ _ (n) w (by omega) (by omega) (by first | (simp; done) | (simp; omega) | omega) ((SlG.pre (SlG.row (k := 0) rfl hrg4)) w hw))) ?_
  refine o_y (v := .tuple #[.agg (bv (missB (l) (n))), .int .i64 (missE (l) (n))]) rfl rfl (y_move rfl) ?_
  refine o_y (v := .agg (bv (missB (l) (n)))) rfl rfl (y_extract (vs := #[.agg (bv (missB (l) (n))), .int .i64 (missE (l) (n))]) rfl rfl) ?_
  refine o_y (v := .int .i64 (missE (l) (n))) rfl rfl (y_extract (vs := #[.agg (bv (missB (l) (n))), .int .i64 (missE (l) (n))]) rfl rfl) ?_
  refine o_alloc (z := .agg (bv (zB))) rfl z25 fun g5 => ?_
  refine o_storeB (H' := [(g5, .cells (bv (missB (l) (n))) 25 (0, 0)), (g4, .cells (cg4) 25 (0, 0)), (g3, .cells (bv (c)) 25 (0, 0)), (g2, .cells (bv (b)) 25 (0, 0)), (g1, .cells (bv (a)) 25 (0, 0))]) T25 0 rfl rfl rfl rfl ?_
  refine o_y (v := .int .i64 (missE (l) (n))) rfl rfl (y_assign rfl) ?_
  refine o_nil ?_
  refine hK3 _ _ ?_
  refine c_seq fun K4 hK4 => ?_
  refine c_region ?_
  refine o_y (v := .slice (a1) ((l).length) (cap1)) rfl rfl (y_move rfl) ?_
  refine o_y (v := .int .i64 (n)) rfl rfl (y_move rfl) ?_
  refine o_y (v := .tuple #[.agg (bv (missB (l) (n))), .int .i64 (missE (l) (n))]) rfl rfl (y_call (vs := [.slice (a1) ((l).length) (cap1), .int .i64 (n)]) b15 rfl (fun w hw => f15_rmissing _ _ _ _ _ _ (n) w (by omega) (by omega) (by first | (simp; done) | (simp; omega) | omega) ((SlG.old hs (fun _ h => h)) w hw))) ?_
  refine o_y (v := .tuple #[.agg (bv (missB (l) (n))), .int .i64 (missE (l) (n))]) rfl rfl (y_move rfl) ?_
  refine o_y (v := .agg (bv (missB (l) (n)))) rfl rfl (y_extract (vs := #[.agg (bv (missB (l) (n))), .int .i64 (missE (l) (n))]) rfl rfl) ?_
  refine o_y (v := .int .i64 (missE (l) (n))) rfl rfl (y_extract (vs := #[.agg (bv (missB (l) (n))), .int .i64 (missE (l) (n))]) rfl rfl) ?_
  refine o_alloc (z := .agg (bv (zB))) rfl z25 fun g6 => ?_
  refine o_storeB (H' := [(g6, .cells (bv (missB (l) (n))) 25 (0, 0)), (g5, .cells (bv (missB (l) (n))) 25 (0, 0)), (g4, .cells (cg4) 25 (0, 0)), (g3, .cells (bv (c)) 25 (0, 0)), (g2, .cells (bv (b)) 25 (0, 0)), (g1, .cells (bv (a)) 25 (0, 0))]) T25 0 rfl rfl rfl rfl ?_
  refine o_y (v := .int .i64 (missE (l) (n))) rfl rfl (y_assign rfl) ?_
  refine o_nil ?_
  refine hK4 _ _ ?_
  refine c_seq fun K5 hK5 => ?_
  refine c_seq fun K6 hK6 => ?_
  refine c_draw 35 (by kernel_rfl) (by kernel_rfl) ?_
  refine q_y (v := .agg (bv (a))) rfl (y_loadB T25 rfl (Rd.whole (k := 5) rfl)) ?_
  refine q_y (v := .agg (bv (b))) rfl (y_loadB T25 rfl (Rd.whole (k := 4) rfl)) ?_
  refine q_y (v := .agg (bv (xorB (a) (b)))) rfl (y_call (vs := [.agg (bv (a)), .agg (bv (b))]) b12 rfl (fun w hw => f12_xor _ _ w)) ?_
  refine q_y (v := .agg (bv (a))) rfl (y_loadB T25 rfl (Rd.whole (k := 5) rfl)) ?_
  refine q_y (v := .agg (bv (b))) rfl (y_loadB T25 rfl (Rd.whole (k := 4) rfl)) ?_
  refine q_y (v := .agg (bv (xorB (a) (b)))) rfl (y_call (vs := [.agg (bv (a)), .agg (bv (b))]) b16 rfl (fun w hw => f16_rxor _ _ w)) ?_
  refine q_y (v := .bool (false)) rfl (y_bool (y_neqV T25 rfl rfl) (by simp)) ?_
  refine q_y (v := .bool (false)) rfl (y_move rfl) ?_
  refine q_guardT (j := 7) (d := 37) rfl rfl rfl ?_
  refine q_y (v := .slice (some ⟨g4, 0, none⟩) ((l).length) ((l).length + 2)) rfl (y_move rfl) ?_
  refine q_guardT (j := 7) (d := 37) rfl rfl rfl ?_
  refine q_y (v := .agg (bv (foldB (l)))) rfl (y_call (vs := [.slice (some ⟨g4, 0, none⟩) ((l).length) ((l).length + 2)]) b9 rfl (fun w hw => f9_fold _ _ _ _ _ _ w (by first | (simp; done) | (simp; omega) | omega) ((SlG.pre (SlG.row (k := 2) rfl hrg4)) w hw))) ?_
  refine q_guardT (j := 7) (d := 37) rfl rfl rfl ?_
  refine q_y (v := .slice (a1) ((l).length) (cap1)) rfl (y_move rfl) ?_
  refine q_guardT (j := 7) (d := 37) rfl rfl rfl ?_
  refine q_y (v := .agg (bv (foldB (l)))) rfl (y_call (vs := [.slice (a1) ((l).length) (cap1)]) b17 rfl (fun w hw => f17_rfold _ _ _ _ _ _ w (by first | (simp; done) | (simp; omega) | omega) ((SlG.old hs (fun _ h => h)) w hw))) ?_
  refine q_guardT (j := 7) (d := 37) rfl rfl rfl ?_
  refine q_y (v := .bool (false)) rfl (y_bool (y_neqV T25 rfl rfl) (by simp)) ?_
  refine q_y (v := .bool (false)) rfl (y_pick (b := false) rfl rfl) ?_
  refine q_y (v := .bool (false)) rfl (y_move rfl) ?_
  refine q_guardT (j := 14) (d := 44) rfl rfl rfl ?_
  refine q_y (v := .agg (bv (a))) rfl (y_loadB T25 rfl (Rd.whole (k := 5) rfl)) ?_
  refine q_guardT (j := 14) (d := 44) rfl rfl rfl ?_
  refine q_y (v := .agg (bv (b))) rfl (y_loadB T25 rfl (Rd.whole (k := 4) rfl)) ?_
  refine q_guardT (j := 14) (d := 44) rfl rfl rfl ?_
  refine q_y (v := .agg (bv (c))) rfl (y_loadB T25 rfl (Rd.whole (k := 3) rfl)) ?_
  refine q_guardT (j := 14) (d := 44) rfl rfl rfl ?_
  refine q_y (v := .agg (bv (xorB (a) (xorB (b) (c))))) rfl (y_call (vs := [.agg (bv (a)), .agg (bv (b)), .agg (bv (c))]) b18 rfl (fun w hw => f18_delta _ _ _ w)) ?_
  refine q_guardT (j := 14) (d := 44) rfl rfl rfl ?_
  refine q_y (v := .agg (bv (a))) rfl (y_loadB T25 rfl (Rd.whole (k := 5) rfl)) ?_
  refine q_guardT (j := 14) (d := 44) rfl rfl rfl ?_
  refine q_y (v := .agg (bv (b))) rfl (y_loadB T25 rfl (Rd.whole (k := 4) rfl)) ?_
  refine q_guardT (j := 14) (d := 44) rfl rfl rfl ?_
  refine q_y (v := .agg (bv (c))) rfl (y_loadB T25 rfl (Rd.whole (k := 3) rfl)) ?_
  refine q_guardT (j := 14) (d := 44) rfl rfl rfl ?_
  refine q_y (v := .agg (bv (xorB (a) (xorB (b) (c))))) rfl (y_call (vs := [.agg (bv (a)), .agg (bv (b)), .agg (bv (c))]) b19 rfl (fun w hw => f19_rdelta _ _ _ w)) ?_
  refine q_guardT (j := 14) (d := 44) rfl rfl rfl ?_
  refine q_y (v := .bool (false)) rfl (y_bool (y_neqV T25 rfl rfl) (by simp)) ?_
  refine q_y (v := .bool (false)) rfl (y_pick (b := false) rfl rfl) ?_
  refine q_y (v := .bool (false)) rfl (y_move rfl) ?_
  refine q_guardT (j := 25) (d := 55) rfl rfl rfl ?_
  refine q_y (v := .agg (bv (missB (l) (n)))) rfl (y_loadB T25 rfl (Rd.whole (k := 1) rfl)) ?_
  refine q_guardT (j := 25) (d := 55) rfl rfl rfl ?_
  refine q_y (v := .agg (bv (missB (l) (n)))) rfl (y_loadB T25 rfl (Rd.whole (k := 0) rfl)) ?_
  refine q_guardT (j := 25) (d := 55) rfl rfl rfl ?_
  refine q_y (v := .bool (false)) rfl (y_bool (y_neqV T25 rfl rfl) (by simp)) ?_
  refine q_y (v := .bool (false)) rfl (y_pick (b := false) rfl rfl) ?_
  refine q_y (v := .bool (false)) rfl (y_move rfl) ?_
  refine q_guardT (j := 30) (d := 60) rfl rfl rfl ?_
  refine q_y (v := .int .i64 (missE (l) (n))) rfl (y_move rfl) ?_
  refine q_guardT (j := 30) (d := 60) rfl rfl rfl ?_
  refine q_y (v := .int .i64 (missE (l) (n))) rfl (y_move rfl) ?_
  refine q_guardT (j := 30) (d := 60) rfl rfl rfl ?_
  refine q_y (v := .bool (false)) rfl (y_bool (y_neq rfl rfl rfl) (by simp)) ?_
  refine q_y (v := .bool (false)) rfl (y_pick (b := false) rfl rfl) ?_
  refine q_nil ?_
  refine o_nil ?_
  refine hK6 _ _ ?_
  refine c_cond (t := false) rfl (fun h => by cases h) (fun _ => ?_)
  refine c_skip ?_
  refine hK5 _ _ ?_
  refine c_seq fun K7 hK7 => ?_
  refine c_draw 35 (by kernel_rfl) (by kernel_rfl) ?_
  refine q_y (v := .agg (bv (a))) rfl (y_loadB T25 rfl (Rd.whole (k := 5) rfl)) ?_
  refine q_y (v := .agg (bv (b))) rfl (y_loadB T25 rfl (Rd.whole (k := 4) rfl)) ?_
  refine q_y (v := .int .i64 (n)) rfl (y_move rfl) ?_
  refine q_y (v := .agg (bv (mixB (n : Int).toNat (b) (a)))) rfl (y_call (vs := [.agg (bv (a)), .agg (bv (b)), .int .i64 (n)]) b13 rfl (fun w hw => f13_torn _ _ _ w (by omega) (by omega))) ?_
  refine q_y (v := .agg (bv (a))) rfl (y_loadB T25 rfl (Rd.whole (k := 5) rfl)) ?_
  refine q_y (v := .agg (bv (b))) rfl (y_loadB T25 rfl (Rd.whole (k := 4) rfl)) ?_
  refine q_y (v := .int .i64 (n)) rfl (y_move rfl) ?_
  refine q_y (v := .agg (bv (mixB (n : Int).toNat (b) (a)))) rfl (y_call (vs := [.agg (bv (a)), .agg (bv (b)), .int .i64 (n)]) b20 rfl (fun w hw => f20_rtorn _ _ _ w (by omega) (by omega))) ?_
  refine q_y (v := .bool (true)) rfl (y_bool (y_eqlV T25 rfl rfl) (by simp)) ?_
  refine q_y (v := .bool (true)) rfl (y_move rfl) ?_
  refine q_guardT (j := 9) (d := 74) rfl rfl rfl ?_
  refine q_y (v := .agg (bv (a))) rfl (y_loadB T25 rfl (Rd.whole (k := 5) rfl)) ?_
  refine q_guardT (j := 9) (d := 74) rfl rfl rfl ?_
  refine q_y (v := .bool (decide (a = zB))) rfl (y_call (vs := [.agg (bv (a))]) b21 rfl (fun w hw => f21_zero _ w)) ?_
  refine q_guardT (j := 9) (d := 74) rfl rfl rfl ?_
  refine q_y (v := .agg (bv (a))) rfl (y_loadB T25 rfl (Rd.whole (k := 5) rfl)) ?_
  refine q_guardT (j := 9) (d := 74) rfl rfl rfl ?_
  refine q_y (v := .bool (decide (a = zB))) rfl (y_call (vs := [.agg (bv (a))]) b22 rfl (fun w hw => f22_rzero _ w)) ?_
  refine q_guardT (j := 9) (d := 74) rfl rfl rfl ?_
  refine q_y (v := .bool (true)) rfl (y_bool (y_eqlB rfl rfl Try.underlying4 rfl) (by simp)) ?_
  refine q_y (v := .bool (true)) rfl (y_pick (b := true) rfl rfl) ?_
  refine q_y (v := .bool (true)) rfl (y_move rfl) ?_
  refine q_guardT (j := 16) (d := 81) rfl rfl rfl ?_
  refine q_y (v := .agg (bv (a))) rfl (y_loadB T25 rfl (Rd.whole (k := 5) rfl)) ?_
  refine q_guardT (j := 16) (d := 81) rfl rfl rfl ?_
  refine q_y (v := .agg (bv (b))) rfl (y_loadB T25 rfl (Rd.whole (k := 4) rfl)) ?_
  refine q_guardT (j := 16) (d := 81) rfl rfl rfl ?_
  refine q_y (v := .agg (bv (xorB (a) (b)))) rfl (y_call (vs := [.agg (bv (a)), .agg (bv (b))]) b12 rfl (fun w hw => f12_xor _ _ w)) ?_
  refine q_guardT (j := 16) (d := 81) rfl rfl rfl ?_
  refine q_y (v := .bool (decide (xorB (a) (b) = zB))) rfl (y_call (vs := [.agg (bv (xorB (a) (b)))]) b21 rfl (fun w hw => f21_zero _ w)) ?_
  refine q_guardT (j := 16) (d := 81) rfl rfl rfl ?_
  refine q_y (v := .agg (bv (a))) rfl (y_loadB T25 rfl (Rd.whole (k := 5) rfl)) ?_
  refine q_guardT (j := 16) (d := 81) rfl rfl rfl ?_
  refine q_y (v := .agg (bv (b))) rfl (y_loadB T25 rfl (Rd.whole (k := 4) rfl)) ?_
  refine q_guardT (j := 16) (d := 81) rfl rfl rfl ?_
  refine q_y (v := .bool (decide (a = b))) rfl (y_eqlV T25 rfl rfl) ?_
  refine q_guardT (j := 16) (d := 81) rfl rfl rfl ?_
  refine q_y (v := .bool (true)) rfl (y_bool (y_eqlB rfl rfl Try.underlying4 rfl) (by rw [xor_zero_iff]; simp)) ?_
  refine q_y (v := .bool (true)) rfl (y_pick (b := true) rfl rfl) ?_
  refine q_y (v := .bool (true)) rfl (y_move rfl) ?_
  refine q_guardT (j := 26) (d := 91) rfl rfl rfl ?_
  refine q_y (v := .slice (some ⟨g4, 0, none⟩) ((l).length) ((l).length + 2)) rfl (y_move rfl) ?_
  refine q_guardT (j := 26) (d := 91) rfl rfl rfl ?_
  refine q_y (v := .slice (a1) ((l).length) (cap1)) rfl (y_move rfl) ?_
  refine q_guardT (j := 26) (d := 91) rfl rfl rfl ?_
  refine q_y (v := .bool (true)) rfl (y_call (vs := [.slice (some ⟨g4, 0, none⟩) ((l).length) ((l).length + 2), .slice (a1) ((l).length) (cap1)]) b23 rfl (fun w hw => f23_left (l) _ _ _ _ _ _ _ _ w ((SlG.row (k := 2) rfl hrg4) w hw) (by simp) ((SlG.old hs (fun _ h => h)) w hw))) ?_
  refine q_y (v := .bool (true)) rfl (y_pick (b := true) rfl rfl) ?_
  refine q_y (v := .bool (true)) rfl (y_move rfl) ?_
  refine q_guardT (j := 31) (d := 96) rfl rfl rfl ?_
  refine q_y (v := .bool (true)) rfl (y_call (vs := []) b11 rfl (fun w hw => f11_lives w)) ?_
  refine q_y (v := .bool (true)) rfl (y_pick (b := true) rfl rfl) ?_
  refine q_y (v := .bool (true)) rfl (y_assign rfl) ?_
  refine q_nil ?_
  refine o_nil ?_
  refine hK7 _ _ ?_
  refine c_ret ?_
  refine fun w hw => ⟨[.bool (true)], ⟨rfl, trivial⟩, ?_⟩
  exact rfl

end Go.Proofs.Ytaekfjidnbcajaa.Wall
