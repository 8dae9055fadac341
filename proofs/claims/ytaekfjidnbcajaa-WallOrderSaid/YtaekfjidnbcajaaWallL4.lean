/- Proved: what a law of package wall comes to; the conditions stand in the statements. -/
import Derived.Test.YtaekfjidnbcajaaWallG
set_option linter.unusedVariables false
set_option linter.unusedSimpArgs false
namespace Go.Proofs.Ytaekfjidnbcajaa.Wall
open Go Go.RowKit Go.Proofs.Ytaekfjidnbcajaa.Eng

set_option maxRecDepth 100000 in
set_option maxHeartbeats 4000000 in
theorem f4_WallOrder0 (a1 : Option Addr) (cap1 : Nat) (n : Int) (w : World) (hm0 : cap1 ≤ maxLen) :
    Calls Try.prog 4 [.slice (a1) (0) (cap1), .int .i64 (n)].toArray w fun e w' => e = .returned (.bool (true)) ∧ Below w.heap.size w w' := by
  have hm1 := hm0
  simp only [maxLen] at hm1
  have hk1 := kN_one n
  refine (calls_of (P := Try.prog) (n := 70) (w0 := w) (S := fun _ => False) (H := []) (T := fun v _ => v = (.bool (true))) Try.func4 rfl Try.ntmps4 (Nat.le_of_ble_eq_true rfl) [.tmp 4] rfl (St.nil w _) ?_).mono fun e w' ⟨v, H', he, hs, hT⟩ => ⟨by rw [he, hT], hs.below⟩
  refine c_seq fun K1 hK1 => ?_
  refine c_region ?_
  refine o_y (v := .bool (false)) rfl rfl (y_assign rfl) ?_
  refine o_nil ?_
  refine hK1 _ _ ?_
  refine c_seq fun K2 hK2 => ?_
  refine c_region ?_
  refine o_y (v := .int .i64 (n)) rfl rfl (y_move rfl) ?_
  refine o_y (v := .int .u64 (n % 18446744073709551616)) rfl rfl (y_conv rfl Try.underlying3 Try.underlying32 (wrap_u64 n)) ?_
  refine o_y (v := .slice (a1) (0) (cap1)) rfl rfl (y_move rfl) ?_
  refine o_y (v := .int .i64 (((0 : Nat) : Int))) rfl rfl (y_len rfl Try.underlying22) ?_
  refine o_y (v := .int .i64 ((((0 : Nat) : Int)) + 1)) rfl rfl (y_add rfl rfl (wi_i64 (by omega) (by omega))) ?_
  refine o_y (v := .int .u64 ((((0 : Nat) : Int)) + 1)) rfl rfl (y_conv rfl Try.underlying3 Try.underlying32 (wi_u64 (by omega) (by omega))) ?_
  refine o_y (v := .int .u64 (((kN n (0 + 1) : Nat) : Int))) rfl rfl (y_rem rfl rfl (by omega) (kN_eq n (0 + 1) (by omega))) ?_
  refine o_y (v := .int .i64 (0)) rfl rfl (y_as (y_conv rfl Try.underlying32 Try.underlying3 (wi_i64 (by omega) (by omega))) (by first | (rw [kN_one]; done) | (rw [kN_one]; rfl))) ?_
  refine o_y (v := .int .i64 (0)) rfl rfl (y_assign rfl) ?_
  refine o_nil ?_
  refine hK2 _ _ ?_
  refine c_seq fun K3 hK3 => ?_
  refine c_region ?_
  refine o_y (v := .slice none 0 0) rfl rfl (y_assign rfl) ?_
  refine o_nil ?_
  refine hK3 _ _ ?_
  refine c_seq fun K4 hK4 => ?_
  refine c_region ?_
  refine o_y (v := .slice none 0 0) rfl rfl (y_move rfl) ?_
  refine o_y (v := .slice (a1) (0) (cap1)) rfl rfl (y_move rfl) ?_
  refine o_y (v := .int .i64 (0)) rfl rfl (y_move rfl) ?_
  refine o_y (v := .slice (part_ (a1) 0 64 (cap1)) (0) (cap1 - 0)) rfl rfl (y_partE (sz := 64) rfl Try.underlying22 s25 ⟨_, rfl⟩ (by first | omega | (simp; done) | (simp; omega))) ?_
  refine o_y (v := .slice none 0 0) rfl rfl (y_appendNil0 SL22 rfl rfl) ?_
  refine o_y (v := .slice none 0 0) rfl rfl (y_assign rfl) ?_
  refine o_nil ?_
  refine hK4 _ _ ?_
  refine c_seq fun K5 hK5 => ?_
  refine c_region ?_
  refine o_y (v := .slice none 0 0) rfl rfl (y_move rfl) ?_
  refine o_y (v := .slice (a1) (0) (cap1)) rfl rfl (y_move rfl) ?_
  refine o_y (v := .int .i64 (0)) rfl rfl (y_move rfl) ?_
  refine o_y (v := .slice (a1) (0) (cap1)) rfl rfl (y_partL (sz := 64) 0 rfl Try.underlying22 s25 ⟨_, rfl⟩ (by first | omega | (simp; done) | (simp; omega))) ?_
  refine o_y (v := .slice none 0 0) rfl rfl (y_appendNil0 SL22 rfl rfl) ?_
  refine o_y (v := .slice none 0 0) rfl rfl (y_assign rfl) ?_
  refine o_nil ?_
  refine hK5 _ _ ?_
  refine c_seq fun K6 hK6 => ?_
  refine c_region ?_
  refine o_y (v := .slice none 0 0) rfl rfl (y_assign rfl) ?_
  refine o_nil ?_
  refine hK6 _ _ ?_
  refine c_seq fun K7 hK7 => ?_
  refine c_seq fun K8 hK8 => ?_
  refine c_region ?_
  refine o_y (v := .slice (a1) (0) (cap1)) rfl rfl (y_move rfl) ?_
  refine o_y (v := .int .i64 (((0 : Nat) : Int))) rfl rfl (y_len rfl Try.underlying22) ?_
  refine o_y (v := .int .i64 ((((0 : Nat) : Int)) - 1)) rfl rfl (y_sub rfl rfl (wi_i64 (by omega) (by omega))) ?_
  refine o_y (v := .int .i64 ((((0 : Nat) : Int)) - 1)) rfl rfl (y_assign rfl) ?_
  refine o_nil ?_
  refine hK8 _ _ ?_
  refine c_block ?_
  refine c_loop (fun d R H => d = 0 ∧ R 0 = .slice (a1) (0) (cap1) ∧ R 5 = .int .i64 (0) ∧ R 6 = .slice none 0 0 ∧ R 7 = .slice none 0 0 ∧ R 8 = .int .i64 (((0 : Nat) : Int) - 1) ∧ H = ([] : Hp)) (0) ?_ ?_
  ·
    refine ⟨rfl, rfl, rfl, rfl, rfl, (ie (a := (((0 : Nat) : Int)) - 1) (b := ((0 : Nat) : Int) - 1) (by omega)), rfl⟩
  ·
    rintro d1 R1 _ ⟨hd1, h1_0, h1_5, h1_6, h1_7, h1_8, rfl⟩
    refine c_seq fun K9 hK9 => ?_
    refine c_seq fun K10 hK10 => ?_
    refine c_region ?_
    refine o_y (v := .int .i64 (((0 : Nat) : Int) - 1)) rfl rfl (y_move h1_8) ?_
    refine o_y (v := .bool (decide (0 ≤ ((0 : Nat) : Int) - 1))) rfl rfl (y_geq rfl rfl rfl) ?_
    refine o_nil ?_
    refine hK10 _ _ ?_
    refine c_cond (t := decide (0 ≤ ((0 : Nat) : Int) - 1)) rfl (fun hc1 => ?_) (fun hc1 => ?_)
    ·
      replace hc1 := of_decide_eq_true hc1
      -- way LT
      exfalso; omega
    ·
      replace hc1 := of_decide_eq_false hc1
      -- way LF
      refine c_exit ?_
      refine hK7 _ _ ?_
      refine c_seq fun K11 hK11 => ?_
      refine c_region ?_
      refine o_y (v := .slice (a1) (0) (cap1)) rfl rfl (y_move h1_0) ?_
      refine o_y (v := .agg (bv (foldB (([] : List Blk))))) rfl rfl (y_call (vs := [.slice (a1) (0) (cap1)]) b9 rfl (fun w hw => f9_fold _ _ _ _ _ _ w (by first | (simp; done) | (simp; omega) | omega) ((SlG.none (b := 0) (o := 0) hm0) w hw))) ?_
      refine o_alloc (z := .agg (bv (zB))) rfl z25 fun g1 => ?_
      refine o_storeB (H' := [(g1, .cells (bv (foldB (([] : List Blk)))) 25 (0, 0))]) T25 0 rfl rfl rfl rfl ?_
      refine o_nil ?_
      refine hK11 _ _ ?_
      refine c_seq fun K12 hK12 => ?_
      refine c_draw 27 (by kernel_rfl) (by kernel_rfl) ?_
      refine q_y (v := .slice none 0 0) rfl (y_move h1_6) ?_
      refine q_y (v := .agg (bv (foldB ([])))) rfl (y_call (vs := [.slice none 0 0]) b9 rfl (fun w hw => f9_fold _ _ _ _ _ _ w (by first | (simp; done) | (simp; omega) | omega) (SlG.nil w hw))) ?_
      refine q_y (v := .agg (bv (foldB (([] : List Blk))))) rfl (y_loadB T25 rfl (Rd.whole (k := 0) rfl)) ?_
      refine q_y (v := .bool (true)) rfl (y_bool (y_eqlV T25 rfl rfl) (by simp)) ?_
      refine q_y (v := .bool (true)) rfl (y_move rfl) ?_
      refine q_guardT (j := 4) (d := 48) rfl rfl rfl ?_
      refine q_y (v := .slice none 0 0) rfl (y_move h1_7) ?_
      refine q_guardT (j := 4) (d := 48) rfl rfl rfl ?_
      refine q_y (v := .agg (bv (foldB ([])))) rfl (y_call (vs := [.slice none 0 0]) b9 rfl (fun w hw => f9_fold _ _ _ _ _ _ w (by first | (simp; done) | (simp; omega) | omega) (SlG.nil w hw))) ?_
      refine q_guardT (j := 4) (d := 48) rfl rfl rfl ?_
      refine q_y (v := .agg (bv (foldB (([] : List Blk))))) rfl (y_loadB T25 rfl (Rd.whole (k := 0) rfl)) ?_
      refine q_guardT (j := 4) (d := 48) rfl rfl rfl ?_
      refine q_y (v := .bool (true)) rfl (y_bool (y_eqlV T25 rfl rfl) (by simp)) ?_
      refine q_y (v := .bool (true)) rfl (y_pick (b := true) rfl rfl) ?_
      refine q_y (v := .bool (true)) rfl (y_move rfl) ?_
      refine q_guardT (j := 10) (d := 54) rfl rfl rfl ?_
      refine q_y (v := .slice (a1) (0) (cap1)) rfl (y_move h1_0) ?_
      refine q_guardT (j := 10) (d := 54) rfl rfl rfl ?_
      refine q_y (v := .int .i64 (0)) rfl (y_move h1_5) ?_
      refine q_guardT (j := 10) (d := 54) rfl rfl rfl ?_
      refine q_y (v := .slice (a1) (0) (cap1)) rfl (y_partL (sz := 64) 0 rfl Try.underlying22 s25 ⟨_, rfl⟩ (by first | omega | (simp; done) | (simp; omega))) ?_
      refine q_guardT (j := 10) (d := 54) rfl rfl rfl ?_
      refine q_y (v := .agg (bv (foldB ([])))) rfl (y_call (vs := [.slice (a1) (0) (cap1)]) b9 rfl (fun w hw => f9_fold _ _ _ _ _ _ w (by first | (simp; done) | (simp; omega) | omega) ((SlG.first (SlG.none (b := 0) (o := 0) hm0) 0) w hw))) ?_
      refine q_guardT (j := 10) (d := 54) rfl rfl rfl ?_
      refine q_y (v := .slice (a1) (0) (cap1)) rfl (y_move h1_0) ?_
      refine q_guardT (j := 10) (d := 54) rfl rfl rfl ?_
      refine q_y (v := .int .i64 (0)) rfl (y_move h1_5) ?_
      refine q_guardT (j := 10) (d := 54) rfl rfl rfl ?_
      refine q_y (v := .slice (part_ (a1) 0 64 (cap1)) (0) (cap1 - 0)) rfl (y_partE (sz := 64) rfl Try.underlying22 s25 ⟨_, rfl⟩ (by first | omega | (simp; done) | (simp; omega))) ?_
      refine q_guardT (j := 10) (d := 54) rfl rfl rfl ?_
      refine q_y (v := .agg (bv (foldB ([])))) rfl (y_call (vs := [.slice (part_ (a1) 0 64 (cap1)) (0) (cap1 - 0)]) b9 rfl (fun w hw => f9_fold _ _ _ _ _ _ w (by first | (simp; done) | (simp; omega) | omega) ((SlG.none (b := 0) (o := 0) (by simp only [maxLen]; omega)) w hw))) ?_
      refine q_guardT (j := 10) (d := 54) rfl rfl rfl ?_
      refine q_y (v := .agg (bv (xorB (foldB ([])) (foldB ([]))))) rfl (y_call (vs := [.agg (bv (foldB ([]))), .agg (bv (foldB ([])))]) b12 rfl (fun w hw => f12_xor _ _ w)) ?_
      refine q_guardT (j := 10) (d := 54) rfl rfl rfl ?_
      refine q_y (v := .agg (bv (foldB (([] : List Blk))))) rfl (y_loadB T25 rfl (Rd.whole (k := 0) rfl)) ?_
      refine q_guardT (j := 10) (d := 54) rfl rfl rfl ?_
      refine q_y (v := .bool (true)) rfl (y_bool (y_eqlV T25 rfl rfl) (by simp [foldB, xorB_zero])) ?_
      refine q_y (v := .bool (true)) rfl (y_pick (b := true) rfl rfl) ?_
      refine q_y (v := .bool (true)) rfl (y_move rfl) ?_
      refine q_guardT (j := 23) (d := 67) rfl rfl rfl ?_
      refine q_y (v := .bool (true)) rfl (y_call (vs := []) b11 rfl (fun w hw => f11_lives w)) ?_
      refine q_y (v := .bool (true)) rfl (y_pick (b := true) rfl rfl) ?_
      refine q_y (v := .bool (true)) rfl (y_assign rfl) ?_
      refine q_nil ?_
      refine o_nil ?_
      refine hK12 _ _ ?_
      refine c_ret ?_
      refine fun w hw => ⟨[.bool (true)], ⟨rfl, trivial⟩, ?_⟩
      exact rfl

set_option maxRecDepth 100000 in
set_option maxHeartbeats 4000000 in
theorem f4_WallOrderB (l : List Blk) (a1 : Option Addr) (b1 o1 cap1 m1 : Nat) (n : Int) (w : World) (hb : l.length * 64 ≤ 140737488351232) (hpos : 0 < l.length) (hk : kN n (l.length + 1) < l.length) (hm1 : m1 = l.length) (hs : Sl eBlk w l a1 b1 o1 cap1) :
    Calls Try.prog 4 [.slice (a1) (m1) (cap1), .int .i64 (n)].toArray w fun e w' => e = .returned (.bool (true)) ∧ Below w.heap.size w w' := by
  subst hm1
  have hle := hs.le
  have hmx := hs.mx
  simp only [maxLen] at hmx
  refine (calls_of (P := Try.prog) (n := 70) (w0 := w) (S := fun _ => False) (H := []) (T := fun v _ => v = (.bool (true))) Try.func4 rfl Try.ntmps4 (Nat.le_of_ble_eq_true rfl) [.tmp 4] rfl (St.nil w _) ?_).mono fun e w' ⟨v, H', he, hs, hT⟩ => ⟨by rw [he, hT], hs.below⟩
  refine c_seq fun K1 hK1 => ?_
  refine c_region ?_
  refine o_y (v := .bool (false)) rfl rfl (y_assign rfl) ?_
  refine o_nil ?_
  refine hK1 _ _ ?_
  refine c_seq fun K2 hK2 => ?_
  refine c_region ?_
  refine o_y (v := .int .i64 (n)) rfl rfl (y_move rfl) ?_
  refine o_y (v := .int .u64 (n % 18446744073709551616)) rfl rfl (y_conv rfl Try.underlying3 Try.underlying32 (wrap_u64 n)) ?_
  refine o_y (v := .slice (a1) ((l).length) (cap1)) rfl rfl (y_move rfl) ?_
  refine o_y (v := .int .i64 ((((l).length : Nat) : Int))) rfl rfl (y_len rfl Try.underlying22) ?_
  refine o_y (v := .int .i64 (((((l).length : Nat) : Int)) + 1)) rfl rfl (y_add rfl rfl (wi_i64 (by omega) (by omega))) ?_
  refine o_y (v := .int .u64 (((((l).length : Nat) : Int)) + 1)) rfl rfl (y_conv rfl Try.underlying3 Try.underlying32 (wi_u64 (by omega) (by omega))) ?_
  refine o_y (v := .int .u64 (((kN n (l.length + 1) : Nat) : Int))) rfl rfl (y_rem rfl rfl (by omega) (kN_eq n (l.length + 1) (by omega))) ?_
  refine o_y (v := .int .i64 (((kN n (l.length + 1) : Nat) : Int))) rfl rfl (y_conv rfl Try.underlying32 Try.underlying3 (wi_i64 (by omega) (by omega))) ?_
  refine o_y (v := .int .i64 (((kN n (l.length + 1) : Nat) : Int))) rfl rfl (y_assign rfl) ?_
  refine o_nil ?_
  refine hK2 _ _ ?_
  refine c_seq fun K3 hK3 => ?_
  refine c_region ?_
  refine o_y (v := .slice none 0 0) rfl rfl (y_assign rfl) ?_
  refine o_nil ?_
  refine hK3 _ _ ?_
  refine c_seq fun K4 hK4 => ?_
  refine c_region ?_
  refine o_y (v := .slice none 0 0) rfl rfl (y_move rfl) ?_
  refine o_y (v := .slice (a1) ((l).length) (cap1)) rfl rfl (y_move rfl) ?_
  refine o_y (v := .int .i64 (((kN n (l.length + 1) : Nat) : Int))) rfl rfl (y_move rfl) ?_
  refine o_y (v := .slice (part_ (a1) (kN n (l.length + 1)) 64 (cap1)) (((l).length) - (kN n (l.length + 1))) (cap1 - (kN n (l.length + 1)))) rfl rfl (y_part (sz := 64) (kN n (l.length + 1)) ((l).length) rfl Try.underlying22 s25 ⟨_, rfl⟩ rfl (by first | omega | (simp; done) | (simp; omega)) (by first | omega | (simp; done) | (simp; omega))) ?_
  refine o_appendNil SL22 rfl rfl rfl (by first | (simp; done) | (simp; omega) | omega) (SlG.part (SlG.old hs (fun _ h => h)) (kN n (l.length + 1)) ((l).length) (by first | omega | (simp; done) | (simp; omega)) (by first | omega | (simp; done) | (simp; omega))) (by first | omega | (simp; done) | (simp; omega)) (by first | omega | (simp; done) | (simp; omega)) fun g1 cg1 capg1 hrg1 => ?_
  refine o_y (v := .slice (some ⟨g1, 0, none⟩) (((l).length) - (kN n (l.length + 1))) (capg1)) rfl rfl (y_assign rfl) ?_
  refine o_nil ?_
  refine hK4 _ _ ?_
  refine c_seq fun K5 hK5 => ?_
  refine c_region ?_
  refine o_y (v := .slice (some ⟨g1, 0, none⟩) (((l).length) - (kN n (l.length + 1))) (capg1)) rfl rfl (y_move rfl) ?_
  refine o_y (v := .slice (a1) ((l).length) (cap1)) rfl rfl (y_move rfl) ?_
  refine o_y (v := .int .i64 (((kN n (l.length + 1) : Nat) : Int))) rfl rfl (y_move rfl) ?_
  refine o_y (v := .slice (a1) (kN n (l.length + 1)) (cap1)) rfl rfl (y_partL (sz := 64) (kN n (l.length + 1)) rfl Try.underlying22 s25 ⟨_, rfl⟩ (by first | omega | (simp; done) | (simp; omega))) ?_
  refine o_appendOwn SL22 0 rfl rfl (by first | (simp; done) | (simp; omega) | omega) rfl hrg1 rfl (by first | (simp; done) | (simp; omega) | omega) (SlG.first (SlG.old hs (fun _ h => h)) (kN n (l.length + 1))) (by simp only [maxLen]; first | omega | (simp; omega)) (by first | omega | (simp; done) | (simp; omega)) fun g2 cg2 capg2 hrg2 => ?_
  refine o_y (v := .slice (some ⟨g2, 0, none⟩) ((((l).length) - (kN n (l.length + 1))) + (kN n (l.length + 1))) (capg2)) rfl rfl (y_assign rfl) ?_
  refine o_nil ?_
  refine hK5 _ _ ?_
  refine c_seq fun K6 hK6 => ?_
  refine c_region ?_
  refine o_y (v := .slice none 0 0) rfl rfl (y_assign rfl) ?_
  refine o_nil ?_
  refine hK6 _ _ ?_
  refine c_seq fun K7 hK7 => ?_
  refine c_seq fun K8 hK8 => ?_
  refine c_region ?_
  refine o_y (v := .slice (a1) ((l).length) (cap1)) rfl rfl (y_move rfl) ?_
  refine o_y (v := .int .i64 ((((l).length : Nat) : Int))) rfl rfl (y_len rfl Try.underlying22) ?_
  refine o_y (v := .int .i64 (((((l).length : Nat) : Int)) - 1)) rfl rfl (y_sub rfl rfl (wi_i64 (by omega) (by omega))) ?_
  refine o_y (v := .int .i64 (((((l).length : Nat) : Int)) - 1)) rfl rfl (y_assign rfl) ?_
  refine o_nil ?_
  refine hK8 _ _ ?_
  refine c_block ?_
  refine c_loop (fun d R H => (d = l.length ∧ R 0 = .slice (a1) ((l).length) (cap1) ∧ R 5 = .int .i64 (((kN n (l.length + 1) : Nat) : Int)) ∧ R 6 = .slice (some ⟨g2, 0, none⟩) ((((l).length) - (kN n (l.length + 1))) + (kN n (l.length + 1))) (capg2) ∧ R 7 = .slice none 0 0 ∧ R 8 = .int .i64 (((l.length : Nat) : Int) - 1) ∧ H = ([(g2, .cells (cg2) 25 (0, 0))] : Hp)) ∨ (∃ (q : Nat) (g : Nat) (cc : Array Value) (cp : Nat), d = l.length - (q) ∧ (0 < q) ∧ (q ≤ l.length) ∧ (Row eBlk (l.reverse.take (q)) cc cp) ∧ R 0 = .slice (a1) ((l).length) (cap1) ∧ R 5 = .int .i64 (((kN n (l.length + 1) : Nat) : Int)) ∧ R 6 = .slice (some ⟨g2, 0, none⟩) ((((l).length) - (kN n (l.length + 1))) + (kN n (l.length + 1))) (capg2) ∧ R 7 = .slice (some ⟨g, 0, none⟩) (q) (cp) ∧ R 8 = .int .i64 (((l.length : Nat) : Int) - 1 - ((q : Nat) : Int)) ∧ H = ([(g, .cells (cc) 25 (0, 0)), (g2, .cells (cg2) 25 (0, 0))] : Hp))) (l.length) ?_ ?_
  ·
    refine .inl ⟨rfl, rfl, rfl, rfl, rfl, (ie (by omega)), rfl⟩
  ·
    rintro d1 R1 H1 (⟨hd1, h1_0, h1_5, h1_6, h1_7, h1_8, rfl⟩ | ⟨q, g, cc, cp, hd1, hv1_0, hv1_1, hv1_2, h1_0, h1_5, h1_6, h1_7, h1_8, rfl⟩)
    ·
      refine c_seq fun K9 hK9 => ?_
      refine c_seq fun K10 hK10 => ?_
      refine c_region ?_
      refine o_y (v := .int .i64 (((l.length : Nat) : Int) - 1)) rfl rfl (y_move h1_8) ?_
      refine o_y (v := .bool (decide (0 ≤ ((l.length : Nat) : Int) - 1))) rfl rfl (y_geq rfl rfl rfl) ?_
      refine o_nil ?_
      refine hK10 _ _ ?_
      refine c_cond (t := decide (0 ≤ ((l.length : Nat) : Int) - 1)) rfl (fun hc3 => ?_) (fun hc3 => ?_)
      ·
        replace hc3 := of_decide_eq_true hc3
        -- way AT
        refine c_skip ?_
        refine hK9 _ _ ?_
        refine c_seq fun K11 hK11 => ?_
        refine c_block ?_
        refine c_region ?_
        refine o_y (v := .slice none 0 0) rfl rfl (y_move h1_7) ?_
        refine o_y (v := .slice (a1) ((l).length) (cap1)) rfl rfl (y_move h1_0) ?_
        refine o_y (v := .int .i64 (((l.length : Nat) : Int) - 1)) rfl rfl (y_move h1_8) ?_
        refine o_y (v := .pointer (some ⟨b1, o1 + ((((l.length : Nat) : Int) - 1).toNat) * 64, none⟩)) rfl rfl (y_ixO ((((l.length : Nat) : Int) - 1).toNat) (hs.at_ (by omega)) rfl rfl Try.underlying22 s25 (by omega) (by first | omega | (simp; done) | (simp; omega))) ?_
        refine o_y (v := .agg (bv ((l)[(((l.length : Nat) : Int) - 1).toNat]))) rfl rfl (y_loadB T25 rfl (SlG.rd (SlG.old hs (fun _ h => h)) ((((l.length : Nat) : Int) - 1).toNat) (by first | omega | (simp; done) | (simp; omega)))) ?_
        refine o_buildSlice SL22 ([(l)[(((l.length : Nat) : Int) - 1).toNat]] : List Blk) (fun x => .agg (bv x)) (fun _ => rfl) rfl rfl (by rw [Array.toList_map]; rfl) (by simp) (by simp [eBlk]) fun g3 => ?_
        have hrg3 := Row.lit (E := eBlk) ([(l)[(((l.length : Nat) : Int) - 1).toNat]]) (by simp [maxLen])
        refine o_appendNil SL22 rfl rfl rfl (by first | (simp; done) | (simp; omega) | omega) (SlG.row (k := 0) rfl hrg3) (by first | omega | (simp; done) | (simp; omega)) (by first | omega | (simp; done) | (simp; omega)) fun g4 cg4 capg4 hrg4 => ?_
        refine o_y (v := .slice (some ⟨g4, 0, none⟩) (1) (capg4)) rfl rfl (y_assign rfl) ?_
        refine o_nil ?_
        refine hK11 _ _ ?_
        refine c_region ?_
        refine o_y (v := .int .i64 (((l.length : Nat) : Int) - 1)) rfl rfl (y_move h1_8) ?_
        refine o_y (v := .int .i64 ((((l.length : Nat) : Int) - 1) - 1)) rfl rfl (y_sub rfl rfl (wi_i64 (by omega) (by omega))) ?_
        refine o_y (v := .int .i64 ((((l.length : Nat) : Int) - 1) - 1)) rfl rfl (y_assign rfl) ?_
        refine o_forget (((List.Sublist.slnil.cons_cons _).cons _).cons_cons _) ?_
        refine o_nil ?_
        refine ⟨_, by omega, .inr ⟨1, g4, cg4, capg4, rfl, by omega, by omega, (by rw [rev_one l hpos]; exact hrg4), h1_0, h1_5, h1_6, rfl, (ie (by omega)), rfl⟩⟩
      ·
        replace hc3 := of_decide_eq_false hc3
        -- way AF
        exfalso; omega
    ·
      have hrl : (l.reverse.take q).length = q := by simp; omega
      refine c_seq fun K12 hK12 => ?_
      refine c_seq fun K13 hK13 => ?_
      refine c_region ?_
      refine o_y (v := .int .i64 (((l.length : Nat) : Int) - 1 - ((q : Nat) : Int))) rfl rfl (y_move h1_8) ?_
      refine o_y (v := .bool (decide (0 ≤ ((l.length : Nat) : Int) - 1 - ((q : Nat) : Int)))) rfl rfl (y_geq rfl rfl rfl) ?_
      refine o_nil ?_
      refine hK13 _ _ ?_
      refine c_cond (t := decide (0 ≤ ((l.length : Nat) : Int) - 1 - ((q : Nat) : Int))) rfl (fun hc5 => ?_) (fun hc5 => ?_)
      ·
        replace hc5 := of_decide_eq_true hc5
        -- way BT
        refine c_skip ?_
        refine hK12 _ _ ?_
        refine c_seq fun K14 hK14 => ?_
        refine c_block ?_
        refine c_region ?_
        refine o_y (v := .slice (some ⟨g, 0, none⟩) (q) (cp)) rfl rfl (y_move h1_7) ?_
        refine o_y (v := .slice (a1) ((l).length) (cap1)) rfl rfl (y_move h1_0) ?_
        refine o_y (v := .int .i64 (((l.length : Nat) : Int) - 1 - ((q : Nat) : Int))) rfl rfl (y_move h1_8) ?_
        refine o_y (v := .pointer (some ⟨b1, o1 + ((((l.length : Nat) : Int) - 1 - ((q : Nat) : Int)).toNat) * 64, none⟩)) rfl rfl (y_ixO ((((l.length : Nat) : Int) - 1 - ((q : Nat) : Int)).toNat) (hs.at_ (by omega)) rfl rfl Try.underlying22 s25 (by omega) (by first | omega | (simp; done) | (simp; omega))) ?_
        refine o_y (v := .agg (bv ((l)[(((l.length : Nat) : Int) - 1 - ((q : Nat) : Int)).toNat]))) rfl rfl (y_loadB T25 rfl (SlG.rd (SlG.old hs (fun _ h => h)) ((((l.length : Nat) : Int) - 1 - ((q : Nat) : Int)).toNat) (by first | omega | (simp; done) | (simp; omega)))) ?_
        refine o_buildSlice SL22 ([(l)[(((l.length : Nat) : Int) - 1 - ((q : Nat) : Int)).toNat]] : List Blk) (fun x => .agg (bv x)) (fun _ => rfl) rfl rfl (by rw [Array.toList_map]; rfl) (by simp) (by simp [eBlk]) fun g5 => ?_
        have hrg5 := Row.lit (E := eBlk) ([(l)[(((l.length : Nat) : Int) - 1 - ((q : Nat) : Int)).toNat]]) (by simp [maxLen])
        refine o_appendOwn SL22 1 rfl rfl (by first | (simp; done) | (simp; omega) | omega) rfl hv1_2 rfl (by first | (simp; done) | (simp; omega) | omega) (SlG.row (k := 0) rfl hrg5) (by simp only [maxLen]; first | omega | (simp; omega)) (by first | omega | (simp; done) | (simp; omega)) fun g6 cg6 capg6 hrg6 => ?_
        refine o_y (v := .slice (some ⟨g6, 0, none⟩) (q + 1) (capg6)) rfl rfl (y_assign rfl) ?_
        refine o_nil ?_
        refine hK14 _ _ ?_
        refine c_region ?_
        refine o_y (v := .int .i64 (((l.length : Nat) : Int) - 1 - ((q : Nat) : Int))) rfl rfl (y_move h1_8) ?_
        refine o_y (v := .int .i64 ((((l.length : Nat) : Int) - 1 - ((q : Nat) : Int)) - 1)) rfl rfl (y_sub rfl rfl (wi_i64 (by omega) (by omega))) ?_
        refine o_y (v := .int .i64 ((((l.length : Nat) : Int) - 1 - ((q : Nat) : Int)) - 1)) rfl rfl (y_assign rfl) ?_
        refine o_forget (((List.Sublist.slnil.cons_cons _).cons _).cons_cons _) ?_
        refine o_nil ?_
        refine ⟨_, by omega, .inr ⟨q + 1, g6, cg6, capg6, rfl, by omega, by omega, (by rw [rev_next l q (by omega)]; exact hrg6), h1_0, h1_5, h1_6, rfl, (ie (by omega)), rfl⟩⟩
      ·
        replace hc5 := of_decide_eq_false hc5
        -- way BF
        refine c_exit ?_
        refine hK7 _ _ ?_
        refine c_seq fun K15 hK15 => ?_
        refine c_region ?_
        refine o_y (v := .slice (a1) ((l).length) (cap1)) rfl rfl (y_move h1_0) ?_
        refine o_y (v := .agg (bv (foldB (l)))) rfl rfl (y_call (vs := [.slice (a1) ((l).length) (cap1)]) b9 rfl (fun w hw => f9_fold _ _ _ _ _ _ w (by first | (simp; done) | (simp; omega) | omega) ((SlG.old hs (fun _ h => h)) w hw))) ?_
        refine o_alloc (z := .agg (bv (zB))) rfl z25 fun g7 => ?_
        refine o_storeB (H' := [(g7, .cells (bv (foldB (l))) 25 (0, 0)), (g, .cells (cc) 25 (0, 0)), (g2, .cells (cg2) 25 (0, 0))]) T25 0 rfl rfl rfl rfl ?_
        refine o_nil ?_
        refine hK15 _ _ ?_
        refine c_seq fun K16 hK16 => ?_
        refine c_draw 27 (by kernel_rfl) (by kernel_rfl) ?_
        refine q_y (v := .slice (some ⟨g2, 0, none⟩) ((((l).length) - (kN n (l.length + 1))) + (kN n (l.length + 1))) (capg2)) rfl (y_move h1_6) ?_
        refine q_y (v := .agg (bv (foldB ((((l).drop (kN n (l.length + 1))).take (((l).length) - (kN n (l.length + 1)))) ++ ((l).take (kN n (l.length + 1))))))) rfl (y_call (vs := [.slice (some ⟨g2, 0, none⟩) ((((l).length) - (kN n (l.length + 1))) + (kN n (l.length + 1))) (capg2)]) b9 rfl (fun w hw => f9_fold _ _ _ _ _ _ w (by first | (simp; done) | (simp; omega) | omega) ((SlG.row (k := 2) rfl hrg2) w hw))) ?_
        refine q_y (v := .agg (bv (foldB (l)))) rfl (y_loadB T25 rfl (Rd.whole (k := 0) rfl)) ?_
        refine q_y (v := .bool (true)) rfl (y_bool (y_eqlV T25 rfl rfl) (decide_eq_true (fold_rot l _ (by omega)))) ?_
        refine q_y (v := .bool (true)) rfl (y_move rfl) ?_
        refine q_guardT (j := 4) (d := 48) rfl rfl rfl ?_
        refine q_y (v := .slice (some ⟨g, 0, none⟩) (q) (cp)) rfl (y_move h1_7) ?_
        refine q_guardT (j := 4) (d := 48) rfl rfl rfl ?_
        refine q_y (v := .agg (bv (foldB (l.reverse.take (q))))) rfl (y_call (vs := [.slice (some ⟨g, 0, none⟩) (q) (cp)]) b9 rfl (fun w hw => f9_fold _ _ _ _ _ _ w (by first | (simp; done) | (simp; omega) | omega) ((SlG.row (k := 1) rfl hv1_2) w hw))) ?_
        refine q_guardT (j := 4) (d := 48) rfl rfl rfl ?_
        refine q_y (v := .agg (bv (foldB (l)))) rfl (y_loadB T25 rfl (Rd.whole (k := 0) rfl)) ?_
        refine q_guardT (j := 4) (d := 48) rfl rfl rfl ?_
        refine q_y (v := .bool (true)) rfl (y_bool (y_eqlV T25 rfl rfl) (decide_eq_true (by rw [show q = l.length by omega]; exact fold_rev l))) ?_
        refine q_y (v := .bool (true)) rfl (y_pick (b := true) rfl rfl) ?_
        refine q_y (v := .bool (true)) rfl (y_move rfl) ?_
        refine q_guardT (j := 10) (d := 54) rfl rfl rfl ?_
        refine q_y (v := .slice (a1) ((l).length) (cap1)) rfl (y_move h1_0) ?_
        refine q_guardT (j := 10) (d := 54) rfl rfl rfl ?_
        refine q_y (v := .int .i64 (((kN n (l.length + 1) : Nat) : Int))) rfl (y_move h1_5) ?_
        refine q_guardT (j := 10) (d := 54) rfl rfl rfl ?_
        refine q_y (v := .slice (a1) (kN n (l.length + 1)) (cap1)) rfl (y_partL (sz := 64) (kN n (l.length + 1)) rfl Try.underlying22 s25 ⟨_, rfl⟩ (by first | omega | (simp; done) | (simp; omega))) ?_
        refine q_guardT (j := 10) (d := 54) rfl rfl rfl ?_
        refine q_y (v := .agg (bv (foldB ((l).take (kN n (l.length + 1)))))) rfl (y_call (vs := [.slice (a1) (kN n (l.length + 1)) (cap1)]) b9 rfl (fun w hw => f9_fold _ _ _ _ _ _ w (by first | (simp; done) | (simp; omega) | omega) ((SlG.first (SlG.old hs (fun _ h => h)) (kN n (l.length + 1))) w hw))) ?_
        refine q_guardT (j := 10) (d := 54) rfl rfl rfl ?_
        refine q_y (v := .slice (a1) ((l).length) (cap1)) rfl (y_move h1_0) ?_
        refine q_guardT (j := 10) (d := 54) rfl rfl rfl ?_
        refine q_y (v := .int .i64 (((kN n (l.length + 1) : Nat) : Int))) rfl (y_move h1_5) ?_
        refine q_guardT (j := 10) (d := 54) rfl rfl rfl ?_
        refine q_y (v := .slice (part_ (a1) (kN n (l.length + 1)) 64 (cap1)) (((l).length) - (kN n (l.length + 1))) (cap1 - (kN n (l.length + 1)))) rfl (y_part (sz := 64) (kN n (l.length + 1)) ((l).length) rfl Try.underlying22 s25 ⟨_, rfl⟩ rfl (by first | omega | (simp; done) | (simp; omega)) (by first | omega | (simp; done) | (simp; omega))) ?_
        refine q_guardT (j := 10) (d := 54) rfl rfl rfl ?_
        refine q_y (v := .agg (bv (foldB (((l).drop (kN n (l.length + 1))).take (((l).length) - (kN n (l.length + 1))))))) rfl (y_call (vs := [.slice (part_ (a1) (kN n (l.length + 1)) 64 (cap1)) (((l).length) - (kN n (l.length + 1))) (cap1 - (kN n (l.length + 1)))]) b9 rfl (fun w hw => f9_fold _ _ _ _ _ _ w (by first | (simp; done) | (simp; omega) | omega) ((SlG.part (SlG.old hs (fun _ h => h)) (kN n (l.length + 1)) ((l).length) (by first | omega | (simp; done) | (simp; omega)) (by first | omega | (simp; done) | (simp; omega))) w hw))) ?_
        refine q_guardT (j := 10) (d := 54) rfl rfl rfl ?_
        refine q_y (v := .agg (bv (xorB (foldB ((l).take (kN n (l.length + 1)))) (foldB (((l).drop (kN n (l.length + 1))).take (((l).length) - (kN n (l.length + 1)))))))) rfl (y_call (vs := [.agg (bv (foldB ((l).take (kN n (l.length + 1))))), .agg (bv (foldB (((l).drop (kN n (l.length + 1))).take (((l).length) - (kN n (l.length + 1))))))]) b12 rfl (fun w hw => f12_xor _ _ w)) ?_
        refine q_guardT (j := 10) (d := 54) rfl rfl rfl ?_
        refine q_y (v := .agg (bv (foldB (l)))) rfl (y_loadB T25 rfl (Rd.whole (k := 0) rfl)) ?_
        refine q_guardT (j := 10) (d := 54) rfl rfl rfl ?_
        refine q_y (v := .bool (true)) rfl (y_bool (y_eqlV T25 rfl rfl) (decide_eq_true (fold_two l _ (by omega)))) ?_
        refine q_y (v := .bool (true)) rfl (y_pick (b := true) rfl rfl) ?_
        refine q_y (v := .bool (true)) rfl (y_move rfl) ?_
        refine q_guardT (j := 23) (d := 67) rfl rfl rfl ?_
        refine q_y (v := .bool (true)) rfl (y_call (vs := []) b11 rfl (fun w hw => f11_lives w)) ?_
        refine q_y (v := .bool (true)) rfl (y_pick (b := true) rfl rfl) ?_
        refine q_y (v := .bool (true)) rfl (y_assign rfl) ?_
        refine q_nil ?_
        refine o_nil ?_
        refine hK16 _ _ ?_
        refine c_ret ?_
        refine fun w hw => ⟨[.bool (true)], ⟨rfl, trivial⟩, ?_⟩
        exact rfl

set_option maxRecDepth 100000 in
set_option maxHeartbeats 4000000 in
theorem f4_WallOrderC (l : List Blk) (a1 : Option Addr) (b1 o1 cap1 m1 : Nat) (n : Int) (w : World) (hb : l.length * 64 ≤ 140737488351232) (hpos : 0 < l.length) (hk : kN n (l.length + 1) = l.length) (hm1 : m1 = l.length) (hs : Sl eBlk w l a1 b1 o1 cap1) :
    Calls Try.prog 4 [.slice (a1) (m1) (cap1), .int .i64 (n)].toArray w fun e w' => e = .returned (.bool (true)) ∧ Below w.heap.size w w' := by
  subst hm1
  have hle := hs.le
  have hmx := hs.mx
  simp only [maxLen] at hmx
  refine (calls_of (P := Try.prog) (n := 70) (w0 := w) (S := fun _ => False) (H := []) (T := fun v _ => v = (.bool (true))) Try.func4 rfl Try.ntmps4 (Nat.le_of_ble_eq_true rfl) [.tmp 4] rfl (St.nil w _) ?_).mono fun e w' ⟨v, H', he, hs, hT⟩ => ⟨by rw [he, hT], hs.below⟩
  refine c_seq fun K1 hK1 => ?_
  refine c_region ?_
  refine o_y (v := .bool (false)) rfl rfl (y_assign rfl) ?_
  refine o_nil ?_
  refine hK1 _ _ ?_
  refine c_seq fun K2 hK2 => ?_
  refine c_region ?_
  refine o_y (v := .int .i64 (n)) rfl rfl (y_move rfl) ?_
  refine o_y (v := .int .u64 (n % 18446744073709551616)) rfl rfl (y_conv rfl Try.underlying3 Try.underlying32 (wrap_u64 n)) ?_
  refine o_y (v := .slice (a1) ((l).length) (cap1)) rfl rfl (y_move rfl) ?_
  refine o_y (v := .int .i64 ((((l).length : Nat) : Int))) rfl rfl (y_len rfl Try.underlying22) ?_
  refine o_y (v := .int .i64 (((((l).length : Nat) : Int)) + 1)) rfl rfl (y_add rfl rfl (wi_i64 (by omega) (by omega))) ?_
  refine o_y (v := .int .u64 (((((l).length : Nat) : Int)) + 1)) rfl rfl (y_conv rfl Try.underlying3 Try.underlying32 (wi_u64 (by omega) (by omega))) ?_
  refine o_y (v := .int .u64 (((kN n (l.length + 1) : Nat) : Int))) rfl rfl (y_rem rfl rfl (by omega) (kN_eq n (l.length + 1) (by omega))) ?_
  refine o_y (v := .int .i64 ((((l).length : Nat) : Int))) rfl rfl (y_as (y_conv rfl Try.underlying32 Try.underlying3 (wi_i64 (by omega) (by omega))) (by first | (rw [hk]; done) | (rw [hk]; rfl))) ?_
  refine o_y (v := .int .i64 ((((l).length : Nat) : Int))) rfl rfl (y_assign rfl) ?_
  refine o_nil ?_
  refine hK2 _ _ ?_
  refine c_seq fun K3 hK3 => ?_
  refine c_region ?_
  refine o_y (v := .slice none 0 0) rfl rfl (y_assign rfl) ?_
  refine o_nil ?_
  refine hK3 _ _ ?_
  refine c_seq fun K4 hK4 => ?_
  refine c_region ?_
  refine o_y (v := .slice none 0 0) rfl rfl (y_move rfl) ?_
  refine o_y (v := .slice (a1) ((l).length) (cap1)) rfl rfl (y_move rfl) ?_
  refine o_y (v := .int .i64 ((((l).length : Nat) : Int))) rfl rfl (y_move rfl) ?_
  refine o_y (v := .slice (part_ (a1) ((l).length) 64 (cap1)) (0) (cap1 - ((l).length))) rfl rfl (y_partE (sz := 64) rfl Try.underlying22 s25 ⟨_, rfl⟩ (by first | omega | (simp; done) | (simp; omega))) ?_
  refine o_y (v := .slice none 0 0) rfl rfl (y_appendNil0 SL22 rfl rfl) ?_
  refine o_y (v := .slice none 0 0) rfl rfl (y_assign rfl) ?_
  refine o_nil ?_
  refine hK4 _ _ ?_
  refine c_seq fun K5 hK5 => ?_
  refine c_region ?_
  refine o_y (v := .slice none 0 0) rfl rfl (y_move rfl) ?_
  refine o_y (v := .slice (a1) ((l).length) (cap1)) rfl rfl (y_move rfl) ?_
  refine o_y (v := .int .i64 ((((l).length : Nat) : Int))) rfl rfl (y_move rfl) ?_
  refine o_y (v := .slice (a1) ((l).length) (cap1)) rfl rfl (y_partL (sz := 64) ((l).length) rfl Try.underlying22 s25 ⟨_, rfl⟩ (by first | omega | (simp; done) | (simp; omega))) ?_
  refine o_appendNil SL22 rfl rfl rfl (by first | (simp; done) | (simp; omega) | omega) (SlG.first (SlG.old hs (fun _ h => h)) ((l).length)) (by first | omega | (simp; done) | (simp; omega)) (by first | omega | (simp; done) | (simp; omega)) fun g1 cg1 capg1 hrg1 => ?_
  refine o_y (v := .slice (some ⟨g1, 0, none⟩) ((l).length) (capg1)) rfl rfl (y_assign rfl) ?_
  refine o_nil ?_
  refine hK5 _ _ ?_
  refine c_seq fun K6 hK6 => ?_
  refine c_region ?_
  refine o_y (v := .slice none 0 0) rfl rfl (y_assign rfl) ?_
  refine o_nil ?_
  refine hK6 _ _ ?_
  refine c_seq fun K7 hK7 => ?_
  refine c_seq fun K8 hK8 => ?_
  refine c_region ?_
  refine o_y (v := .slice (a1) ((l).length) (cap1)) rfl rfl (y_move rfl) ?_
  refine o_y (v := .int .i64 ((((l).length : Nat) : Int))) rfl rfl (y_len rfl Try.underlying22) ?_
  refine o_y (v := .int .i64 (((((l).length : Nat) : Int)) - 1)) rfl rfl (y_sub rfl rfl (wi_i64 (by omega) (by omega))) ?_
  refine o_y (v := .int .i64 (((((l).length : Nat) : Int)) - 1)) rfl rfl (y_assign rfl) ?_
  refine o_nil ?_
  refine hK8 _ _ ?_
  refine c_block ?_
  refine c_loop (fun d R H => (d = l.length ∧ R 0 = .slice (a1) ((l).length) (cap1) ∧ R 5 = .int .i64 ((((l).length : Nat) : Int)) ∧ R 6 = .slice (some ⟨g1, 0, none⟩) ((l).length) (capg1) ∧ R 7 = .slice none 0 0 ∧ R 8 = .int .i64 (((l.length : Nat) : Int) - 1) ∧ H = ([(g1, .cells (cg1) 25 (0, 0))] : Hp)) ∨ (∃ (q : Nat) (g : Nat) (cc : Array Value) (cp : Nat), d = l.length - (q) ∧ (0 < q) ∧ (q ≤ l.length) ∧ (Row eBlk (l.reverse.take (q)) cc cp) ∧ R 0 = .slice (a1) ((l).length) (cap1) ∧ R 5 = .int .i64 ((((l).length : Nat) : Int)) ∧ R 6 = .slice (some ⟨g1, 0, none⟩) ((l).length) (capg1) ∧ R 7 = .slice (some ⟨g, 0, none⟩) (q) (cp) ∧ R 8 = .int .i64 (((l.length : Nat) : Int) - 1 - ((q : Nat) : Int)) ∧ H = ([(g, .cells (cc) 25 (0, 0)), (g1, .cells (cg1) 25 (0, 0))] : Hp))) (l.length) ?_ ?_
  ·
    refine .inl ⟨rfl, rfl, rfl, rfl, rfl, (ie (by omega)), rfl⟩
  ·
    rintro d1 R1 H1 (⟨hd1, h1_0, h1_5, h1_6, h1_7, h1_8, rfl⟩ | ⟨q, g, cc, cp, hd1, hv1_0, hv1_1, hv1_2, h1_0, h1_5, h1_6, h1_7, h1_8, rfl⟩)
    ·
      refine c_seq fun K9 hK9 => ?_
      refine c_seq fun K10 hK10 => ?_
      refine c_region ?_
      refine o_y (v := .int .i64 (((l.length : Nat) : Int) - 1)) rfl rfl (y_move h1_8) ?_
      refine o_y (v := .bool (decide (0 ≤ ((l.length : Nat) : Int) - 1))) rfl rfl (y_geq rfl rfl rfl) ?_
      refine o_nil ?_
      refine hK10 _ _ ?_
      refine c_cond (t := decide (0 ≤ ((l.length : Nat) : Int) - 1)) rfl (fun hc2 => ?_) (fun hc2 => ?_)
      ·
        replace hc2 := of_decide_eq_true hc2
        -- way AT
        refine c_skip ?_
        refine hK9 _ _ ?_
        refine c_seq fun K11 hK11 => ?_
        refine c_block ?_
        refine c_region ?_
        refine o_y (v := .slice none 0 0) rfl rfl (y_move h1_7) ?_
        refine o_y (v := .slice (a1) ((l).length) (cap1)) rfl rfl (y_move h1_0) ?_
        refine o_y (v := .int .i64 (((l.length : Nat) : Int) - 1)) rfl rfl (y_move h1_8) ?_
        refine o_y (v := .pointer (some ⟨b1, o1 + ((((l.length : Nat) : Int) - 1).toNat) * 64, none⟩)) rfl rfl (y_ixO ((((l.length : Nat) : Int) - 1).toNat) (hs.at_ (by omega)) rfl rfl Try.underlying22 s25 (by omega) (by first | omega | (simp; done) | (simp; omega))) ?_
        refine o_y (v := .agg (bv ((l)[(((l.length : Nat) : Int) - 1).toNat]))) rfl rfl (y_loadB T25 rfl (SlG.rd (SlG.old hs (fun _ h => h)) ((((l.length : Nat) : Int) - 1).toNat) (by first | omega | (simp; done) | (simp; omega)))) ?_
        refine o_buildSlice SL22 ([(l)[(((l.length : Nat) : Int) - 1).toNat]] : List Blk) (fun x => .agg (bv x)) (fun _ => rfl) rfl rfl (by rw [Array.toList_map]; rfl) (by simp) (by simp [eBlk]) fun g2 => ?_
        have hrg2 := Row.lit (E := eBlk) ([(l)[(((l.length : Nat) : Int) - 1).toNat]]) (by simp [maxLen])
        refine o_appendNil SL22 rfl rfl rfl (by first | (simp; done) | (simp; omega) | omega) (SlG.row (k := 0) rfl hrg2) (by first | omega | (simp; done) | (simp; omega)) (by first | omega | (simp; done) | (simp; omega)) fun g3 cg3 capg3 hrg3 => ?_
        refine o_y (v := .slice (some ⟨g3, 0, none⟩) (1) (capg3)) rfl rfl (y_assign rfl) ?_
        refine o_nil ?_
        refine hK11 _ _ ?_
        refine c_region ?_
        refine o_y (v := .int .i64 (((l.length : Nat) : Int) - 1)) rfl rfl (y_move h1_8) ?_
        refine o_y (v := .int .i64 ((((l.length : Nat) : Int) - 1) - 1)) rfl rfl (y_sub rfl rfl (wi_i64 (by omega) (by omega))) ?_
        refine o_y (v := .int .i64 ((((l.length : Nat) : Int) - 1) - 1)) rfl rfl (y_assign rfl) ?_
        refine o_forget (((List.Sublist.slnil.cons_cons _).cons _).cons_cons _) ?_
        refine o_nil ?_
        refine ⟨_, by omega, .inr ⟨1, g3, cg3, capg3, rfl, by omega, by omega, (by rw [rev_one l hpos]; exact hrg3), h1_0, h1_5, h1_6, rfl, (ie (by omega)), rfl⟩⟩
      ·
        replace hc2 := of_decide_eq_false hc2
        -- way AF
        exfalso; omega
    ·
      have hrl : (l.reverse.take q).length = q := by simp; omega
      refine c_seq fun K12 hK12 => ?_
      refine c_seq fun K13 hK13 => ?_
      refine c_region ?_
      refine o_y (v := .int .i64 (((l.length : Nat) : Int) - 1 - ((q : Nat) : Int))) rfl rfl (y_move h1_8) ?_
      refine o_y (v := .bool (decide (0 ≤ ((l.length : Nat) : Int) - 1 - ((q : Nat) : Int)))) rfl rfl (y_geq rfl rfl rfl) ?_
      refine o_nil ?_
      refine hK13 _ _ ?_
      refine c_cond (t := decide (0 ≤ ((l.length : Nat) : Int) - 1 - ((q : Nat) : Int))) rfl (fun hc4 => ?_) (fun hc4 => ?_)
      ·
        replace hc4 := of_decide_eq_true hc4
        -- way BT
        refine c_skip ?_
        refine hK12 _ _ ?_
        refine c_seq fun K14 hK14 => ?_
        refine c_block ?_
        refine c_region ?_
        refine o_y (v := .slice (some ⟨g, 0, none⟩) (q) (cp)) rfl rfl (y_move h1_7) ?_
        refine o_y (v := .slice (a1) ((l).length) (cap1)) rfl rfl (y_move h1_0) ?_
        refine o_y (v := .int .i64 (((l.length : Nat) : Int) - 1 - ((q : Nat) : Int))) rfl rfl (y_move h1_8) ?_
        refine o_y (v := .pointer (some ⟨b1, o1 + ((((l.length : Nat) : Int) - 1 - ((q : Nat) : Int)).toNat) * 64, none⟩)) rfl rfl (y_ixO ((((l.length : Nat) : Int) - 1 - ((q : Nat) : Int)).toNat) (hs.at_ (by omega)) rfl rfl Try.underlying22 s25 (by omega) (by first | omega | (simp; done) | (simp; omega))) ?_
        refine o_y (v := .agg (bv ((l)[(((l.length : Nat) : Int) - 1 - ((q : Nat) : Int)).toNat]))) rfl rfl (y_loadB T25 rfl (SlG.rd (SlG.old hs (fun _ h => h)) ((((l.length : Nat) : Int) - 1 - ((q : Nat) : Int)).toNat) (by first | omega | (simp; done) | (simp; omega)))) ?_
        refine o_buildSlice SL22 ([(l)[(((l.length : Nat) : Int) - 1 - ((q : Nat) : Int)).toNat]] : List Blk) (fun x => .agg (bv x)) (fun _ => rfl) rfl rfl (by rw [Array.toList_map]; rfl) (by simp) (by simp [eBlk]) fun g4 => ?_
        have hrg4 := Row.lit (E := eBlk) ([(l)[(((l.length : Nat) : Int) - 1 - ((q : Nat) : Int)).toNat]]) (by simp [maxLen])
        refine o_appendOwn SL22 1 rfl rfl (by first | (simp; done) | (simp; omega) | omega) rfl hv1_2 rfl (by first | (simp; done) | (simp; omega) | omega) (SlG.row (k := 0) rfl hrg4) (by simp only [maxLen]; first | omega | (simp; omega)) (by first | omega | (simp; done) | (simp; omega)) fun g5 cg5 capg5 hrg5 => ?_
        refine o_y (v := .slice (some ⟨g5, 0, none⟩) (q + 1) (capg5)) rfl rfl (y_assign rfl) ?_
        refine o_nil ?_
        refine hK14 _ _ ?_
        refine c_region ?_
        refine o_y (v := .int .i64 (((l.length : Nat) : Int) - 1 - ((q : Nat) : Int))) rfl rfl (y_move h1_8) ?_
        refine o_y (v := .int .i64 ((((l.length : Nat) : Int) - 1 - ((q : Nat) : Int)) - 1)) rfl rfl (y_sub rfl rfl (wi_i64 (by omega) (by omega))) ?_
        refine o_y (v := .int .i64 ((((l.length : Nat) : Int) - 1 - ((q : Nat) : Int)) - 1)) rfl rfl (y_assign rfl) ?_
        refine o_forget (((List.Sublist.slnil.cons_cons _).cons _).cons_cons _) ?_
        refine o_nil ?_
        refine ⟨_, by omega, .inr ⟨q + 1, g5, cg5, capg5, rfl, by omega, by omega, (by rw [rev_next l q (by omega)]; exact hrg5), h1_0, h1_5, h1_6, rfl, (ie (by omega)), rfl⟩⟩
      ·
        replace hc4 := of_decide_eq_false hc4
        -- way BF
        refine c_exit ?_
        refine hK7 _ _ ?_
        refine c_seq fun K15 hK15 => ?_
        refine c_region ?_
        refine o_y (v := .slice (a1) ((l).length) (cap1)) rfl rfl (y_move h1_0) ?_
        refine o_y (v := .agg (bv (foldB (l)))) rfl rfl (y_call (vs := [.slice (a1) ((l).length) (cap1)]) b9 rfl (fun w hw => f9_fold _ _ _ _ _ _ w (by first | (simp; done) | (simp; omega) | omega) ((SlG.old hs (fun _ h => h)) w hw))) ?_
        refine o_alloc (z := .agg (bv (zB))) rfl z25 fun g6 => ?_
        refine o_storeB (H' := [(g6, .cells (bv (foldB (l))) 25 (0, 0)), (g, .cells (cc) 25 (0, 0)), (g1, .cells (cg1) 25 (0, 0))]) T25 0 rfl rfl rfl rfl ?_
        refine o_nil ?_
        refine hK15 _ _ ?_
        refine c_seq fun K16 hK16 => ?_
        refine c_draw 27 (by kernel_rfl) (by kernel_rfl) ?_
        refine q_y (v := .slice (some ⟨g1, 0, none⟩) ((l).length) (capg1)) rfl (y_move h1_6) ?_
        refine q_y (v := .agg (bv (foldB ((l).take ((l).length))))) rfl (y_call (vs := [.slice (some ⟨g1, 0, none⟩) ((l).length) (capg1)]) b9 rfl (fun w hw => f9_fold _ _ _ _ _ _ w (by first | (simp; done) | (simp; omega) | omega) ((SlG.row (k := 2) rfl hrg1) w hw))) ?_
        refine q_y (v := .agg (bv (foldB (l)))) rfl (y_loadB T25 rfl (Rd.whole (k := 0) rfl)) ?_
        refine q_y (v := .bool (true)) rfl (y_bool (y_eqlV T25 rfl rfl) (decide_eq_true (by rw [List.take_length]))) ?_
        refine q_y (v := .bool (true)) rfl (y_move rfl) ?_
        refine q_guardT (j := 4) (d := 48) rfl rfl rfl ?_
        refine q_y (v := .slice (some ⟨g, 0, none⟩) (q) (cp)) rfl (y_move h1_7) ?_
        refine q_guardT (j := 4) (d := 48) rfl rfl rfl ?_
        refine q_y (v := .agg (bv (foldB (l.reverse.take (q))))) rfl (y_call (vs := [.slice (some ⟨g, 0, none⟩) (q) (cp)]) b9 rfl (fun w hw => f9_fold _ _ _ _ _ _ w (by first | (simp; done) | (simp; omega) | omega) ((SlG.row (k := 1) rfl hv1_2) w hw))) ?_
        refine q_guardT (j := 4) (d := 48) rfl rfl rfl ?_
        refine q_y (v := .agg (bv (foldB (l)))) rfl (y_loadB T25 rfl (Rd.whole (k := 0) rfl)) ?_
        refine q_guardT (j := 4) (d := 48) rfl rfl rfl ?_
        refine q_y (v := .bool (true)) rfl (y_bool (y_eqlV T25 rfl rfl) (decide_eq_true (by rw [show q = l.length by omega]; exact fold_rev l))) ?_
        refine q_y (v := .bool (true)) rfl (y_pick (b := true) rfl rfl) ?_
        refine q_y (v := .bool (true)) rfl (y_move rfl) ?_
        refine q_guardT (j := 10) (d := 54) rfl rfl rfl ?_
        refine q_y (v := .slice (a1) ((l).length) (cap1)) rfl (y_move h1_0) ?_
        refine q_guardT (j := 10) (d := 54) rfl rfl rfl ?_
        refine q_y (v := .int .i64 ((((l).length : Nat) : Int))) rfl (y_move h1_5) ?_
        refine q_guardT (j := 10) (d := 54) rfl rfl rfl ?_
        refine q_y (v := .slice (a1) ((l).length) (cap1)) rfl (y_partL (sz := 64) ((l).length) rfl Try.underlying22 s25 ⟨_, rfl⟩ (by first | omega | (simp; done) | (simp; omega))) ?_
        refine q_guardT (j := 10) (d := 54) rfl rfl rfl ?_
        refine q_y (v := .agg (bv (foldB ((l).take ((l).length))))) rfl (y_call (vs := [.slice (a1) ((l).length) (cap1)]) b9 rfl (fun w hw => f9_fold _ _ _ _ _ _ w (by first | (simp; done) | (simp; omega) | omega) ((SlG.first (SlG.old hs (fun _ h => h)) ((l).length)) w hw))) ?_
        refine q_guardT (j := 10) (d := 54) rfl rfl rfl ?_
        refine q_y (v := .slice (a1) ((l).length) (cap1)) rfl (y_move h1_0) ?_
        refine q_guardT (j := 10) (d := 54) rfl rfl rfl ?_
        refine q_y (v := .int .i64 ((((l).length : Nat) : Int))) rfl (y_move h1_5) ?_
        refine q_guardT (j := 10) (d := 54) rfl rfl rfl ?_
        refine q_y (v := .slice (part_ (a1) ((l).length) 64 (cap1)) (0) (cap1 - ((l).length))) rfl (y_partE (sz := 64) rfl Try.underlying22 s25 ⟨_, rfl⟩ (by first | omega | (simp; done) | (simp; omega))) ?_
        refine q_guardT (j := 10) (d := 54) rfl rfl rfl ?_
        refine q_y (v := .agg (bv (foldB ([])))) rfl (y_call (vs := [.slice (part_ (a1) ((l).length) 64 (cap1)) (0) (cap1 - ((l).length))]) b9 rfl (fun w hw => f9_fold _ _ _ _ _ _ w (by first | (simp; done) | (simp; omega) | omega) ((SlG.none (b := 0) (o := 0) (by simp only [maxLen]; omega)) w hw))) ?_
        refine q_guardT (j := 10) (d := 54) rfl rfl rfl ?_
        refine q_y (v := .agg (bv (xorB (foldB ((l).take ((l).length))) (foldB ([]))))) rfl (y_call (vs := [.agg (bv (foldB ((l).take ((l).length)))), .agg (bv (foldB ([])))]) b12 rfl (fun w hw => f12_xor _ _ w)) ?_
        refine q_guardT (j := 10) (d := 54) rfl rfl rfl ?_
        refine q_y (v := .agg (bv (foldB (l)))) rfl (y_loadB T25 rfl (Rd.whole (k := 0) rfl)) ?_
        refine q_guardT (j := 10) (d := 54) rfl rfl rfl ?_
        refine q_y (v := .bool (true)) rfl (y_bool (y_eqlV T25 rfl rfl) (decide_eq_true (by rw [List.take_length]; exact xorB_zero _))) ?_
        refine q_y (v := .bool (true)) rfl (y_pick (b := true) rfl rfl) ?_
        refine q_y (v := .bool (true)) rfl (y_move rfl) ?_
        refine q_guardT (j := 23) (d := 67) rfl rfl rfl ?_
        refine q_y (v := .bool (true)) rfl (y_call (vs := []) b11 rfl (fun w hw => f11_lives w)) ?_
        refine q_y (v := .bool (true)) rfl (y_pick (b := true) rfl rfl) ?_
        refine q_y (v := .bool (true)) rfl (y_assign rfl) ?_
        refine q_nil ?_
        refine o_nil ?_
        refine hK16 _ _ ?_
        refine c_ret ?_
        refine fun w hw => ⟨[.bool (true)], ⟨rfl, trivial⟩, ?_⟩
        exact rfl

end Go.Proofs.Ytaekfjidnbcajaa.Wall
