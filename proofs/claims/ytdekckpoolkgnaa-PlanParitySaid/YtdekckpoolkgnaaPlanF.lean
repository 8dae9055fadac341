/- Proved: what the functions that count and choose come to; the conditions stand in the statements. -/
import Derived.Test.YtdekckpoolkgnaaPlanBase
set_option linter.unusedVariables false
set_option linter.unusedSimpArgs false
namespace Go.Proofs.Ytdekckpoolkgnaa.Plan
open Go Go.RowKit Go.Proofs.Ytdekckpoolkgnaa.Eng

set_option maxRecDepth 100000 in
set_option maxHeartbeats 4000000 in
theorem f16_many (n : Int) (w : World)  :
    Calls Try.prog 16 [.int .i64 (n)].toArray w fun e w' => e = .returned (.bool (decide (2 ≤ n ∧ n ≤ 15))) ∧ Below w.heap.size w w' := by
  refine (calls_of (P := Try.prog) (n := 9) (w0 := w) (S := fun _ => False) (H := []) (T := fun v _ => v = (.bool (decide (2 ≤ n ∧ n ≤ 15)))) Try.func16 rfl Try.ntmps16 (Nat.le_of_ble_eq_true rfl) [.tmp 2] rfl (St.nil w _) ?_).mono fun e w' ⟨v, H', he, hs, hT⟩ => ⟨by rw [he, hT], hs.below⟩
  refine c_seq fun K1 hK1 => ?_
  refine c_region ?_
  refine o_y (v := .bool (false)) rfl rfl (y_assign rfl) ?_
  refine o_nil ?_
  refine hK1 _ _ ?_
  refine c_seq fun K2 hK2 => ?_
  refine c_region ?_
  refine o_y (v := .int .i64 (n)) rfl rfl (y_move rfl) ?_
  refine o_y (v := .bool (decide (2 ≤ n))) rfl rfl (y_geq rfl rfl rfl) ?_
  refine o_y (v := .bool (decide (2 ≤ n))) rfl rfl (y_move rfl) ?_
  cases hc1 : (decide (2 ≤ n) : Bool)
  ·
    have hc1' := of_decide_eq_false hc1
    -- way F
    refine o_guard (j := 2) (d := 5) (b := false) rfl rfl rfl (fun h => by cases h) rfl (fun _ => ?_)
    refine o_guard (j := 2) (d := 5) (b := false) rfl rfl rfl (fun h => by cases h) rfl (fun _ => ?_)
    refine o_y (v := .bool (false)) rfl rfl (y_pick (b := false) rfl rfl) ?_
    refine o_y (v := .bool (false)) rfl rfl (y_assign rfl) ?_
    refine o_nil ?_
    refine hK2 _ _ ?_
    refine c_ret ?_
    refine fun w hw => ⟨[.bool (false)], ⟨rfl, trivial⟩, ?_⟩
    exact congrArg Value.bool (by first | (simp; omega) | omega)
    first | done | rfl
  ·
    have hc1' := of_decide_eq_true hc1
    -- way T
    refine o_guard (j := 2) (d := 5) (b := true) rfl rfl rfl (fun _ => ?_) rfl (fun h => by cases h)
    refine o_y (v := .int .i64 (n)) rfl rfl (y_move rfl) ?_
    refine o_guard (j := 2) (d := 5) (b := true) rfl rfl rfl (fun _ => ?_) rfl (fun h => by cases h)
    refine o_y (v := .bool (decide (n ≤ 15))) rfl rfl (y_leq rfl rfl rfl) ?_
    refine o_y (v := .bool (decide (n ≤ 15))) rfl rfl (y_pick (b := true) rfl rfl) ?_
    refine o_y (v := .bool (decide (n ≤ 15))) rfl rfl (y_assign rfl) ?_
    refine o_nil ?_
    refine hK2 _ _ ?_
    refine c_ret ?_
    refine fun w hw => ⟨[.bool (decide (n ≤ 15))], ⟨rfl, trivial⟩, ?_⟩
    exact congrArg Value.bool (by first | (simp; omega) | omega)
    first | done | rfl

set_option maxRecDepth 100000 in
set_option maxHeartbeats 4000000 in
theorem f17_counted (w1 : List Bool) (a1 : Option Addr) (b1 o1 cap1 m1 : Nat) (w : World) (hm1 : m1 = w1.length) (hs1 : Sl eBool w w1 a1 b1 o1 cap1) :
    Calls Try.prog 17 [.slice (a1) (m1) (cap1)].toArray w fun e w' => e = .returned (.int .i64 (((cnt w1 (w1.length) : Nat) : Int))) ∧ Below w.heap.size w w' := by
  subst hm1
  have hle1 := hs1.le
  have hmx1 := hs1.mx
  simp only [maxLen] at hmx1
  refine (calls_of (P := Try.prog) (n := 17) (w0 := w) (S := fun _ => False) (H := []) (T := fun v _ => v = (.int .i64 (((cnt w1 (w1.length) : Nat) : Int)))) Try.func17 rfl Try.ntmps17 (Nat.le_of_ble_eq_true rfl) [.tmp 2] rfl (St.nil w _) ?_).mono fun e w' ⟨v, H', he, hs, hT⟩ => ⟨by rw [he, hT], hs.below⟩
  refine c_seq fun K1 hK1 => ?_
  refine c_region ?_
  refine o_y (v := .int .i64 (0)) rfl rfl (y_assign rfl) ?_
  refine o_nil ?_
  refine hK1 _ _ ?_
  refine c_seq fun K2 hK2 => ?_
  refine c_region ?_
  refine o_y (v := .int .i64 (0)) rfl rfl (y_assign rfl) ?_
  refine o_nil ?_
  refine hK2 _ _ ?_
  refine c_seq fun K3 hK3 => ?_
  refine c_seq fun K4 hK4 => ?_
  refine c_region ?_
  refine o_y (v := .slice (a1) ((w1).length) (cap1)) rfl rfl (y_move rfl) ?_
  refine o_y (v := .int .i64 ((((w1).length : Nat) : Int))) rfl rfl (y_len rfl Try.underlying22) ?_
  refine o_y (v := .int .i64 (0)) rfl rfl (y_move rfl) ?_
  refine o_nil ?_
  refine hK4 _ _ ?_
  refine c_block ?_
  refine c_loop (fun d R H => ∃ (j : Nat), d = w1.length - (j) ∧ (j ≤ w1.length) ∧ R 6 = .slice (a1) ((w1).length) (cap1) ∧ R 7 = .int .i64 ((((w1).length : Nat) : Int)) ∧ R 8 = .int .i64 (((j : Nat) : Int)) ∧ R 3 = .int .i64 (((cnt w1 (j) : Nat) : Int)) ∧ H = ([] : Hp)) (w1.length - (0)) ?_ ?_
  ·
    refine ⟨0, rfl, by omega, rfl, rfl, (ie (a := 0) (b := ((0 : Nat) : Int)) (by omega)), rfl, rfl⟩
  ·
    rintro d1 R1 _ ⟨j, hd1, hv1_0, h1_6, h1_7, h1_8, h1_3, rfl⟩
    have hcl := cnt_le w1 j
    refine c_seq fun K5 hK5 => ?_
    refine c_region ?_
    refine o_y (v := .bool (decide (((j : Nat) : Int) < (((w1).length : Nat) : Int)))) rfl rfl (y_lss h1_8 h1_7 rfl) ?_
    refine o_nil ?_
    refine hK5 _ _ ?_
    refine c_seq fun K6 hK6 => ?_
    refine c_cond (t := decide (((j : Nat) : Int) < (((w1).length : Nat) : Int))) rfl (fun hc1 => ?_) (fun hc1 => ?_)
    ·
      replace hc1 := of_decide_eq_true hc1
      -- way LT
      refine c_skip ?_
      refine hK6 _ _ ?_
      refine c_seq fun K7 hK7 => ?_
      refine c_block ?_
      refine c_seq fun K8 hK8 => ?_
      refine c_region ?_
      refine o_y (v := .pointer (some ⟨b1, o1 + j * 1, none⟩)) rfl rfl (y_ixO j (hs1.at_ (by omega)) h1_6 h1_8 Try.underlying22 s4 (by omega) (by first | omega | (simp; done) | (simp; omega))) ?_
      refine o_y (v := .bool ((w1)[j])) rfl rfl (y_load rfl Try.underlying4 rfl (SlG.rd (SlG.old hs1 (fun _ h => h)) j (by first | omega | (simp; done) | (simp; omega)))) ?_
      refine o_y (v := .bool ((w1)[j])) rfl rfl (y_assign rfl) ?_
      refine o_nil ?_
      refine hK8 _ _ ?_
      refine c_seq fun K9 hK9 => ?_
      refine c_region ?_
      refine o_y (v := .bool ((w1)[j])) rfl rfl (y_move rfl) ?_
      refine o_nil ?_
      refine hK9 _ _ ?_
      refine c_cond (t := (w1)[j]) rfl (fun hc2 => ?_) (fun hc2 => ?_)
      ·
        -- way LTT
        refine c_region ?_
        refine o_y (v := .int .i64 (((cnt w1 (j) : Nat) : Int))) rfl rfl (y_move h1_3) ?_
        refine o_y (v := .int .i64 ((((cnt w1 (j) : Nat) : Int)) + 1)) rfl rfl (y_add rfl rfl (wi_i64 (by omega) (by omega))) ?_
        refine o_y (v := .int .i64 ((((cnt w1 (j) : Nat) : Int)) + 1)) rfl rfl (y_assign rfl) ?_
        refine o_nil ?_
        refine hK7 _ _ ?_
        refine c_region ?_
        refine o_y (v := .int .i64 ((((j : Nat) : Int)) + 1)) rfl rfl (y_add h1_8 rfl (wi_i64 (by omega) (by omega))) ?_
        refine o_y (v := .int .i64 ((((j : Nat) : Int)) + 1)) rfl rfl (y_move rfl) ?_
        refine o_nil ?_
        refine ⟨_, by omega, j + 1, rfl, by omega, h1_6, h1_7, (ie (a := (((j : Nat) : Int)) + 1) (b := ((j + 1 : Nat) : Int)) (by omega)), (ie (by rw [cnt_t w1 j (by omega) (by assumption)]; omega)), rfl⟩
      ·
        -- way LTF
        refine c_skip ?_
        refine hK7 _ _ ?_
        refine c_region ?_
        refine o_y (v := .int .i64 ((((j : Nat) : Int)) + 1)) rfl rfl (y_add h1_8 rfl (wi_i64 (by omega) (by omega))) ?_
        refine o_y (v := .int .i64 ((((j : Nat) : Int)) + 1)) rfl rfl (y_move rfl) ?_
        refine o_nil ?_
        refine ⟨_, by omega, j + 1, rfl, by omega, h1_6, h1_7, (ie (a := (((j : Nat) : Int)) + 1) (b := ((j + 1 : Nat) : Int)) (by omega)), (by rw [cnt_f w1 j (by omega) (by assumption)]; assumption), rfl⟩
    ·
      replace hc1 := of_decide_eq_false hc1
      -- way LF
      refine c_exit ?_
      refine hK3 _ _ ?_
      refine c_seq fun K10 hK10 => ?_
      refine c_region ?_
      refine o_y (v := .int .i64 (((cnt w1 (j) : Nat) : Int))) rfl rfl (y_move h1_3) ?_
      refine o_y (v := .int .i64 (((cnt w1 (j) : Nat) : Int))) rfl rfl (y_assign rfl) ?_
      refine o_nil ?_
      refine hK10 _ _ ?_
      refine c_ret ?_
      refine fun w hw => ⟨[.int .i64 (((cnt w1 (j) : Nat) : Int))], ⟨rfl, trivial⟩, ?_⟩
      obtain rfl : j = w1.length := by omega
      exact rfl

set_option maxRecDepth 100000 in
set_option maxHeartbeats 4000000 in
theorem f20_count (w1 : List Bool) (a1 : Option Addr) (b1 o1 cap1 m1 : Nat) (w : World) (hm1 : m1 = w1.length) (hs1 : Sl eBool w w1 a1 b1 o1 cap1) :
    Calls Try.prog 20 [.slice (a1) (m1) (cap1)].toArray w fun e w' => e = .returned (.int .i64 (((cnt w1 (w1.length) : Nat) : Int))) ∧ Below w.heap.size w w' := by
  subst hm1
  have hle1 := hs1.le
  have hmx1 := hs1.mx
  simp only [maxLen] at hmx1
  refine (calls_of (P := Try.prog) (n := 18) (w0 := w) (S := fun _ => False) (H := []) (T := fun v _ => v = (.int .i64 (((cnt w1 (w1.length) : Nat) : Int)))) Try.func20 rfl Try.ntmps20 (Nat.le_of_ble_eq_true rfl) [.tmp 2] rfl (St.nil w _) ?_).mono fun e w' ⟨v, H', he, hs, hT⟩ => ⟨by rw [he, hT], hs.below⟩
  refine c_seq fun K1 hK1 => ?_
  refine c_region ?_
  refine o_y (v := .int .i64 (0)) rfl rfl (y_assign rfl) ?_
  refine o_nil ?_
  refine hK1 _ _ ?_
  refine c_seq fun K2 hK2 => ?_
  refine c_region ?_
  refine o_y (v := .int .i64 (0)) rfl rfl (y_assign rfl) ?_
  refine o_nil ?_
  refine hK2 _ _ ?_
  refine c_seq fun K3 hK3 => ?_
  refine c_seq fun K4 hK4 => ?_
  refine c_region ?_
  refine o_y (v := .int .i64 (0)) rfl rfl (y_assign rfl) ?_
  refine o_nil ?_
  refine hK4 _ _ ?_
  refine c_block ?_
  refine c_loop (fun d R H => ∃ (j : Nat), d = w1.length - (j) ∧ (j ≤ w1.length) ∧ R 0 = .slice (a1) ((w1).length) (cap1) ∧ R 4 = .int .i64 (((j : Nat) : Int)) ∧ R 3 = .int .i64 (((cnt w1 (j) : Nat) : Int)) ∧ H = ([] : Hp)) (w1.length - (0)) ?_ ?_
  ·
    refine ⟨0, rfl, by omega, rfl, (ie (a := 0) (b := ((0 : Nat) : Int)) (by omega)), rfl, rfl⟩
  ·
    rintro d1 R1 _ ⟨j, hd1, hv1_0, h1_0, h1_4, h1_3, rfl⟩
    have hcl := cnt_le w1 j
    refine c_seq fun K5 hK5 => ?_
    refine c_seq fun K6 hK6 => ?_
    refine c_region ?_
    refine o_y (v := .int .i64 (((j : Nat) : Int))) rfl rfl (y_move h1_4) ?_
    refine o_y (v := .slice (a1) ((w1).length) (cap1)) rfl rfl (y_move h1_0) ?_
    refine o_y (v := .int .i64 ((((w1).length : Nat) : Int))) rfl rfl (y_len rfl Try.underlying22) ?_
    refine o_y (v := .bool (decide (((j : Nat) : Int) < (((w1).length : Nat) : Int)))) rfl rfl (y_lss rfl rfl rfl) ?_
    refine o_nil ?_
    refine hK6 _ _ ?_
    refine c_cond (t := decide (((j : Nat) : Int) < (((w1).length : Nat) : Int))) rfl (fun hc1 => ?_) (fun hc1 => ?_)
    ·
      replace hc1 := of_decide_eq_true hc1
      -- way LT
      refine c_skip ?_
      refine hK5 _ _ ?_
      refine c_seq fun K7 hK7 => ?_
      refine c_block ?_
      refine c_seq fun K8 hK8 => ?_
      refine c_region ?_
      refine o_y (v := .slice (a1) ((w1).length) (cap1)) rfl rfl (y_move h1_0) ?_
      refine o_y (v := .int .i64 (((j : Nat) : Int))) rfl rfl (y_move h1_4) ?_
      refine o_y (v := .pointer (some ⟨b1, o1 + j * 1, none⟩)) rfl rfl (y_ixO j (hs1.at_ (by omega)) rfl rfl Try.underlying22 s4 (by omega) (by first | omega | (simp; done) | (simp; omega))) ?_
      refine o_y (v := .bool ((w1)[j])) rfl rfl (y_load rfl Try.underlying4 rfl (SlG.rd (SlG.old hs1 (fun _ h => h)) j (by first | omega | (simp; done) | (simp; omega)))) ?_
      refine o_nil ?_
      refine hK8 _ _ ?_
      refine c_cond (t := (w1)[j]) rfl (fun hc2 => ?_) (fun hc2 => ?_)
      ·
        -- way LTT
        refine c_region ?_
        refine o_y (v := .int .i64 (((cnt w1 (j) : Nat) : Int))) rfl rfl (y_move h1_3) ?_
        refine o_y (v := .int .i64 ((((cnt w1 (j) : Nat) : Int)) + 1)) rfl rfl (y_add rfl rfl (wi_i64 (by omega) (by omega))) ?_
        refine o_y (v := .int .i64 ((((cnt w1 (j) : Nat) : Int)) + 1)) rfl rfl (y_assign rfl) ?_
        refine o_nil ?_
        refine hK7 _ _ ?_
        refine c_region ?_
        refine o_y (v := .int .i64 (((j : Nat) : Int))) rfl rfl (y_move h1_4) ?_
        refine o_y (v := .int .i64 ((((j : Nat) : Int)) + 1)) rfl rfl (y_add rfl rfl (wi_i64 (by omega) (by omega))) ?_
        refine o_y (v := .int .i64 ((((j : Nat) : Int)) + 1)) rfl rfl (y_assign rfl) ?_
        refine o_nil ?_
        refine ⟨_, by omega, j + 1, rfl, by omega, h1_0, (ie (a := (((j : Nat) : Int)) + 1) (b := ((j + 1 : Nat) : Int)) (by omega)), (ie (by rw [cnt_t w1 j (by omega) (by assumption)]; omega)), rfl⟩
      ·
        -- way LTF
        refine c_skip ?_
        refine hK7 _ _ ?_
        refine c_region ?_
        refine o_y (v := .int .i64 (((j : Nat) : Int))) rfl rfl (y_move h1_4) ?_
        refine o_y (v := .int .i64 ((((j : Nat) : Int)) + 1)) rfl rfl (y_add rfl rfl (wi_i64 (by omega) (by omega))) ?_
        refine o_y (v := .int .i64 ((((j : Nat) : Int)) + 1)) rfl rfl (y_assign rfl) ?_
        refine o_nil ?_
        refine ⟨_, by omega, j + 1, rfl, by omega, h1_0, (ie (a := (((j : Nat) : Int)) + 1) (b := ((j + 1 : Nat) : Int)) (by omega)), (by rw [cnt_f w1 j (by omega) (by assumption)]; assumption), rfl⟩
    ·
      replace hc1 := of_decide_eq_false hc1
      -- way LF
      refine c_exit ?_
      refine hK3 _ _ ?_
      refine c_seq fun K9 hK9 => ?_
      refine c_region ?_
      refine o_y (v := .int .i64 (((cnt w1 (j) : Nat) : Int))) rfl rfl (y_move h1_3) ?_
      refine o_y (v := .int .i64 (((cnt w1 (j) : Nat) : Int))) rfl rfl (y_assign rfl) ?_
      refine o_nil ?_
      refine hK9 _ _ ?_
      refine c_ret ?_
      refine fun w hw => ⟨[.int .i64 (((cnt w1 (j) : Nat) : Int))], ⟨rfl, trivial⟩, ?_⟩
      obtain rfl : j = w1.length := by omega
      exact rfl

set_option maxRecDepth 100000 in
set_option maxHeartbeats 4000000 in
theorem f21_reads (w1 w2 : List Bool) (a1 : Option Addr) (b1 o1 cap1 m1 : Nat) (a2 : Option Addr) (b2 o2 cap2 m2 : Nat) (f : Bool) (lost : Int) (w : World) (hlk : w2.length = w1.length) (hsm : w1.length ≤ 15) (hl0 : -9223372036854775808 ≤ lost) (hl1 : lost ≤ 9223372036854775807) (hm1 : m1 = w1.length) (hs1 : Sl eBool w w1 a1 b1 o1 cap1) (hm2 : m2 = w2.length) (hs2 : Sl eBool w w2 a2 b2 o2 cap2) :
    Calls Try.prog 21 [.slice (a1) (m1) (cap1), .slice (a2) (m2) (cap2), .bool (f), .int .i64 (lost)].toArray w fun e w' => ∃ v H', e = .returned v ∧ St w (fun _ => False) H' w' ∧ (fun v H => ∃ a g cap, v = .tuple #[.slice a (rdsL w1 w2 f lost).length cap, .bool (rdsB w1 w2 f lost)] ∧ OwnV eInt 3 (rdsL w1 w2 f lost) a g cap H) v H' := by
  subst hm1
  subst hm2
  have hle1 := hs1.le
  have hmx1 := hs1.mx
  have hle2 := hs2.le
  have hmx2 := hs2.mx
  simp only [maxLen] at hmx1 hmx2
  refine (calls_of (P := Try.prog) (n := 39) (w0 := w) (S := fun _ => False) (H := []) (T := fun v H => ∃ H', H'.Sublist H ∧ (fun v H => ∃ a g cap, v = .tuple #[.slice a (rdsL w1 w2 f lost).length cap, .bool (rdsB w1 w2 f lost)] ∧ OwnV eInt 3 (rdsL w1 w2 f lost) a g cap H) v H') Try.func21 rfl Try.ntmps21 (Nat.le_of_ble_eq_true rfl) [.tmp 8, .tmp 9] rfl (St.nil w _) ?_).mono fun e w' ⟨v, H', he, hs, H2, hsub, hT⟩ => ⟨v, H2, he, hs.drop hsub, hT⟩
  refine c_seq fun K1 hK1 => ?_
  refine c_region ?_
  refine o_y (v := .slice none 0 0) rfl rfl (y_assign rfl) ?_
  refine o_y (v := .bool (false)) rfl rfl (y_assign rfl) ?_
  refine o_nil ?_
  refine hK1 _ _ ?_
  refine c_seq fun K2 hK2 => ?_
  refine c_region ?_
  refine o_y (v := .slice none 0 0) rfl rfl (y_assign rfl) ?_
  refine o_nil ?_
  refine hK2 _ _ ?_
  refine c_seq fun K3 hK3 => ?_
  refine c_seq fun K4 hK4 => ?_
  refine c_region ?_
  refine o_y (v := .int .i64 (0)) rfl rfl (y_assign rfl) ?_
  refine o_nil ?_
  refine hK4 _ _ ?_
  refine c_block ?_
  refine c_loop (fun d R H => ∃ (j : Nat) (a : Option Addr) (g : Nat) (cap : Nat) (Hx : Hp), d = w1.length - (j) ∧ (j ≤ w1.length) ∧ (OwnV eInt 3 (sel w1 w2 f (j)) a g cap Hx) ∧ (hit w1 w2 f lost (j) = false) ∧ R 0 = .slice (a1) ((w1).length) (cap1) ∧ R 1 = .slice (a2) ((w2).length) (cap2) ∧ R 2 = .bool (f) ∧ R 3 = .int .i64 (lost) ∧ R 11 = .int .i64 (((j : Nat) : Int)) ∧ R 10 = .slice (a) ((sel w1 w2 f (j)).length) (cap) ∧ H = ((Hx) : Hp)) (w1.length - (0)) ?_ ?_
  ·
    refine ⟨0, none, 0, 0, [], rfl, by omega, OwnV.none', rfl, rfl, rfl, rfl, rfl, (ie (a := 0) (b := ((0 : Nat) : Int)) (by omega)), rfl, ?_⟩
    simp; first | done | rfl
  ·
    rintro d1 R1 Hx ⟨j, a, g, cap, _, hd1, hv1_0, hv1_1, hv1_2, h1_0, h1_1, h1_2, h1_3, h1_11, h1_10, rfl⟩
    have hsl := sel_le w1 w2 f j
    have hol := hv1_1.le
    have hom := hv1_1.mx
    simp only [maxLen] at hom
    refine c_seq fun K5 hK5 => ?_
    refine c_seq fun K6 hK6 => ?_
    refine c_region ?_
    refine o_y (v := .int .i64 (((j : Nat) : Int))) rfl rfl (y_move h1_11) ?_
    refine o_y (v := .slice (a1) ((w1).length) (cap1)) rfl rfl (y_move h1_0) ?_
    refine o_y (v := .int .i64 ((((w1).length : Nat) : Int))) rfl rfl (y_len rfl Try.underlying22) ?_
    refine o_y (v := .bool (decide (((j : Nat) : Int) < (((w1).length : Nat) : Int)))) rfl rfl (y_lss rfl rfl rfl) ?_
    refine o_nil ?_
    refine hK6 _ _ ?_
    refine c_cond (t := decide (((j : Nat) : Int) < (((w1).length : Nat) : Int))) rfl (fun hc1 => ?_) (fun hc1 => ?_)
    ·
      replace hc1 := of_decide_eq_true hc1
      -- way LT
      refine c_skip ?_
      refine hK5 _ _ ?_
      refine c_seq fun K7 hK7 => ?_
      refine c_block ?_
      refine c_seq fun K8 hK8 => ?_
      refine c_region ?_
      refine o_y (v := .slice (a1) ((w1).length) (cap1)) rfl rfl (y_move h1_0) ?_
      refine o_y (v := .int .i64 (((j : Nat) : Int))) rfl rfl (y_move h1_11) ?_
      refine o_y (v := .pointer (some ⟨b1, o1 + j * 1, none⟩)) rfl rfl (y_ixO j (hs1.at_ (by omega)) rfl rfl Try.underlying22 s4 (by omega) (by first | omega | (simp; done) | (simp; omega))) ?_
      refine o_y (v := .bool ((w1)[j])) rfl rfl (y_load rfl Try.underlying4 rfl (SlG.rd (SlG.old hs1 (fun _ h => h)) j (by first | omega | (simp; done) | (simp; omega)))) ?_
      refine o_y (v := .bool (f)) rfl rfl (y_move h1_2) ?_
      refine o_y (v := .bool (((w1)[j]) == (f))) rfl rfl (y_eqlB rfl rfl Try.underlying4 rfl) ?_
      refine o_y (v := .bool (((w1)[j]) == (f))) rfl rfl (y_move rfl) ?_
      cases hc2 : (((w1)[j]) == (f) : Bool)
      ·
        -- way LTF
        have hpk : pick w1 w2 f j = false := pick_w _ _ _ _ (by omega) (by simpa using hc2)
        refine o_guard (j := 6) (d := 24) (b := false) rfl rfl rfl (fun h => by cases h) rfl (fun _ => ?_)
        refine o_guard (j := 6) (d := 24) (b := false) rfl rfl rfl (fun h => by cases h) rfl (fun _ => ?_)
        refine o_guard (j := 6) (d := 24) (b := false) rfl rfl rfl (fun h => by cases h) rfl (fun _ => ?_)
        refine o_guard (j := 6) (d := 24) (b := false) rfl rfl rfl (fun h => by cases h) rfl (fun _ => ?_)
        refine o_guard (j := 6) (d := 24) (b := false) rfl rfl rfl (fun h => by cases h) rfl (fun _ => ?_)
        refine o_y (v := .bool (false)) rfl rfl (y_pick (b := false) rfl rfl) ?_
        refine o_nil ?_
        refine hK8 _ _ ?_
        refine c_cond (t := false) rfl (fun h => by cases h) (fun _ => ?_)
        refine c_skip ?_
        refine hK7 _ _ ?_
        refine c_region ?_
        refine o_y (v := .int .i64 (((j : Nat) : Int))) rfl rfl (y_move h1_11) ?_
        refine o_y (v := .int .i64 ((((j : Nat) : Int)) + 1)) rfl rfl (y_add rfl rfl (wi_i64 (by omega) (by omega))) ?_
        refine o_y (v := .int .i64 ((((j : Nat) : Int)) + 1)) rfl rfl (y_assign rfl) ?_
        refine o_nil ?_
        refine ⟨_, by omega, j + 1, a, g, cap, Hx, rfl, by omega, (by rw [sel_f hpk]; exact hv1_1), (by rw [hit_f hpk]; exact hv1_2), h1_0, h1_1, h1_2, h1_3, (ie (a := (((j : Nat) : Int)) + 1) (b := ((j + 1 : Nat) : Int)) (by omega)), (by rw [sel_f hpk]; assumption), rfl⟩
      ·
        -- way LTT
        refine o_guard (j := 6) (d := 24) (b := true) rfl rfl rfl (fun _ => ?_) rfl (fun h => by cases h)
        refine o_y (v := .slice (a2) ((w2).length) (cap2)) rfl rfl (y_move h1_1) ?_
        refine o_guard (j := 6) (d := 24) (b := true) rfl rfl rfl (fun _ => ?_) rfl (fun h => by cases h)
        refine o_y (v := .int .i64 (((j : Nat) : Int))) rfl rfl (y_move h1_11) ?_
        refine o_guard (j := 6) (d := 24) (b := true) rfl rfl rfl (fun _ => ?_) rfl (fun h => by cases h)
        refine o_y (v := .pointer (some ⟨b2, o2 + j * 1, none⟩)) rfl rfl (y_ixO j (hs2.at_ (by omega)) rfl rfl Try.underlying22 s4 (by omega) (by first | omega | (simp; done) | (simp; omega))) ?_
        refine o_guard (j := 6) (d := 24) (b := true) rfl rfl rfl (fun _ => ?_) rfl (fun h => by cases h)
        refine o_y (v := .bool ((w2)[j])) rfl rfl (y_load rfl Try.underlying4 rfl (SlG.rd (SlG.old hs2 (fun _ h => h)) j (by first | omega | (simp; done) | (simp; omega)))) ?_
        refine o_guard (j := 6) (d := 24) (b := true) rfl rfl rfl (fun _ => ?_) rfl (fun h => by cases h)
        refine o_y (v := .bool (!((w2)[j]))) rfl rfl (y_not rfl rfl) ?_
        refine o_y (v := .bool (!((w2)[j]))) rfl rfl (y_pick (b := true) rfl rfl) ?_
        refine o_nil ?_
        refine hK8 _ _ ?_
        refine c_cond (t := !((w2)[j])) rfl (fun hc3 => ?_) (fun hc3 => ?_)
        ·
          try have hc3' : ((w2)[j]) = false := by simpa using hc3
          -- way LTTT
          have hpk := pick_t w1 w2 f j (by omega) (by omega) (by simpa using hc2) (by simpa using hc3)
          refine c_seq fun K9 hK9 => ?_
          refine c_seq fun K10 hK10 => ?_
          refine c_region ?_
          refine o_y (v := .int .i64 (((j : Nat) : Int))) rfl rfl (y_move h1_11) ?_
          refine o_y (v := .int .i64 (lost)) rfl rfl (y_move h1_3) ?_
          refine o_y (v := .bool (decide (((j : Nat) : Int) = lost))) rfl rfl (y_eql rfl rfl rfl) ?_
          refine o_nil ?_
          refine hK10 _ _ ?_
          refine c_cond (t := decide (((j : Nat) : Int) = lost)) rfl (fun hc4 => ?_) (fun hc4 => ?_)
          ·
            replace hc4 := of_decide_eq_true hc4
            -- way LTTTT
            refine c_seq fun K11 hK11 => ?_
            refine c_region ?_
            refine o_y (v := .slice none 0 0) rfl rfl (y_assign rfl) ?_
            refine o_y (v := .bool (false)) rfl rfl (y_assign rfl) ?_
            refine o_nil ?_
            refine hK11 _ _ ?_
            refine c_ret ?_
            refine fun w hw => ⟨[.slice none 0 0, .bool (false)], ⟨rfl, rfl, trivial⟩, ?_⟩
            have hh := hit_mono (j := w1.length) (by omega) (hit_t (lost := lost) hpk (by assumption))
            rw [rdsL_hit hh, rdsB_hit hh]
            exact ⟨_, List.nil_sublist _, _, _, _, rfl, .none'⟩
            first | done | rfl
          ·
            replace hc4 := of_decide_eq_false hc4
            -- way LTTTF
            refine c_skip ?_
            refine hK9 _ _ ?_
            refine c_region ?_
            refine o_y (v := .slice (a) ((sel w1 w2 f (j)).length) (cap)) rfl rfl (y_move h1_10) ?_
            refine o_y (v := .int .i64 (((j : Nat) : Int))) rfl rfl (y_move h1_11) ?_
            refine o_buildRow SL23 ([(((j : Nat) : Int))] : List Int) (fun x => .int .i64 x) (fun _ => rfl) rfl rfl (by rw [Array.toList_map]; rfl) (by simp) (by simp [eInt]) fun g1 cg1 hrg1 => ?_
            refine o_appendV SL23 ([(g1, .cells (cg1) 3 (0, 0))]) (fun Hy => [(g1, .cells (cg1) 3 (0, 0))] ++ (Hy)) rfl (fun Hy => by have h := List.perm_append_comm (l₁ := ([(g1, .cells (cg1) 3 (0, 0))] : Hp)) (l₂ := Hy); first | exact h | simpa [Value.cells] using h) (by have h := List.perm_append_comm_assoc ([(g1, .cells (cg1) 3 (0, 0))] : Hp) Hx ([] : Hp); first | exact h | simpa [Value.cells] using h) hv1_1 rfl (by first | omega | (simp; done) | (simp; omega)) rfl (by first | omega | (simp; done) | (simp; omega)) (SlG.row (k := 0) rfl hrg1) (by simp only [maxLen] <;> first | omega | (simp; omega)) (by first | omega | (simp; done) | (simp; omega)) fun ap3 gp3 capp3 Hp3 hvp3 => ?_
            have hwp3 := hvp3
            rw [show (sel w1 w2 f (j)) ++ ([(((j : Nat) : Int))]) = sel w1 w2 f (j + 1) from sel_t hpk] at hwp3
            refine o_y (v := .slice (ap3) (((sel w1 w2 f (j)).length) + 1) (capp3)) rfl rfl (y_assign rfl) ?_
            refine o_nil ?_
            refine hK7 _ _ ?_
            refine c_region ?_
            refine o_y (v := .int .i64 (((j : Nat) : Int))) rfl rfl (y_move h1_11) ?_
            refine o_y (v := .int .i64 ((((j : Nat) : Int)) + 1)) rfl rfl (y_add rfl rfl (wi_i64 (by omega) (by omega))) ?_
            refine o_y (v := .int .i64 ((((j : Nat) : Int)) + 1)) rfl rfl (y_assign rfl) ?_
            refine o_forget (H' := (Hp3)) ((List.Sublist.refl _).cons _) ?_
            refine o_nil ?_
            refine ⟨_, by omega, j + 1, ap3, gp3, capp3, Hp3, rfl, by omega, hwp3, (by rw [hit_n (by assumption)]; exact hv1_2), h1_0, h1_1, h1_2, h1_3, (ie (a := (((j : Nat) : Int)) + 1) (b := ((j + 1 : Nat) : Int)) (by omega)), (len_eq (by rw [← sel_t hpk, List.length_append]; rfl)), rfl⟩
        ·
          try have hc3' : ((w2)[j]) = true := by simpa using hc3
          -- way LTTF
          have hpk : pick w1 w2 f j = false := pick_k _ _ _ _ (by omega) (by simpa using hc3)
          refine c_skip ?_
          refine hK7 _ _ ?_
          refine c_region ?_
          refine o_y (v := .int .i64 (((j : Nat) : Int))) rfl rfl (y_move h1_11) ?_
          refine o_y (v := .int .i64 ((((j : Nat) : Int)) + 1)) rfl rfl (y_add rfl rfl (wi_i64 (by omega) (by omega))) ?_
          refine o_y (v := .int .i64 ((((j : Nat) : Int)) + 1)) rfl rfl (y_assign rfl) ?_
          refine o_nil ?_
          refine ⟨_, by omega, j + 1, a, g, cap, Hx, rfl, by omega, (by rw [sel_f hpk]; exact hv1_1), (by rw [hit_f hpk]; exact hv1_2), h1_0, h1_1, h1_2, h1_3, (ie (a := (((j : Nat) : Int)) + 1) (b := ((j + 1 : Nat) : Int)) (by omega)), (by rw [sel_f hpk]; assumption), rfl⟩
    ·
      replace hc1 := of_decide_eq_false hc1
      -- way LF
      refine c_exit ?_
      refine hK3 _ _ ?_
      refine c_seq fun K12 hK12 => ?_
      refine c_region ?_
      refine o_y (v := .slice (a) ((sel w1 w2 f (j)).length) (cap)) rfl rfl (y_move h1_10) ?_
      refine o_y (v := .slice (a) ((sel w1 w2 f (j)).length) (cap)) rfl rfl (y_assign rfl) ?_
      refine o_y (v := .bool (true)) rfl rfl (y_assign rfl) ?_
      refine o_nil ?_
      refine hK12 _ _ ?_
      refine c_ret ?_
      refine fun w hw => ⟨[.slice (a) ((sel w1 w2 f (j)).length) (cap), .bool (true)], ⟨rfl, rfl, trivial⟩, ?_⟩
      obtain rfl : j = w1.length := by omega
      rw [rdsL_not hv1_2, rdsB_not hv1_2]
      exact ⟨Hx, by simp, _, _, _, rfl, hv1_1⟩
      first | done | rfl

set_option maxRecDepth 100000 in
set_option maxHeartbeats 4000000 in
theorem f18_rest (w1 w2 : List Bool) (a1 : Option Addr) (b1 o1 cap1 m1 : Nat) (a2 : Option Addr) (b2 o2 cap2 m2 : Nat) (lost : Int) (w : World) (hlk : w2.length = w1.length) (hsm : w1.length ≤ 15) (hl0 : -9223372036854775808 ≤ lost) (hl1 : lost ≤ 9223372036854775807) (hm1 : m1 = w1.length) (hs1 : Sl eBool w w1 a1 b1 o1 cap1) (hm2 : m2 = w2.length) (hs2 : Sl eBool w w2 a2 b2 o2 cap2) :
    Calls Try.prog 18 [.agg (#[.slice (a1) ((w1).length) (cap1), .slice (a2) ((w2).length) (cap2), .int .i64 (lost)])].toArray w fun e w' => ∃ v H', e = .returned v ∧ St w (fun _ => False) H' w' ∧ (fun v H => ∃ a g cap, v = .tuple #[.slice a (rdsL w1 w2 false lost).length cap, .bool (rdsB w1 w2 false lost)] ∧ OwnV eInt 3 (rdsL w1 w2 false lost) a g cap H) v H' := by
  subst hm1
  subst hm2
  have hle1 := hs1.le
  have hmx1 := hs1.mx
  have hle2 := hs2.le
  have hmx2 := hs2.mx
  simp only [maxLen] at hmx1 hmx2
  refine (calls_of (P := Try.prog) (n := 35) (w0 := w) (S := fun _ => False) (H := []) (T := fun v H => ∃ H', H'.Sublist H ∧ (fun v H => ∃ a g cap, v = .tuple #[.slice a (rdsL w1 w2 false lost).length cap, .bool (rdsB w1 w2 false lost)] ∧ OwnV eInt 3 (rdsL w1 w2 false lost) a g cap H) v H') Try.func18 rfl Try.ntmps18 (Nat.le_of_ble_eq_true rfl) [.tmp 2, .tmp 3] rfl (St.nil w _) ?_).mono fun e w' ⟨v, H', he, hs, H2, hsub, hT⟩ => ⟨v, H2, he, hs.drop hsub, hT⟩
  refine c_seq fun K1 hK1 => ?_
  refine c_region ?_
  refine o_box (v := .agg (#[.slice (a1) ((w1).length) (cap1), .slice (a2) ((w2).length) (cap2), .int .i64 (lost)])) rfl rfl fun g1 => ?_
  refine o_y (v := .slice none 0 0) rfl rfl (y_assign rfl) ?_
  refine o_y (v := .bool (false)) rfl rfl (y_assign rfl) ?_
  refine o_nil ?_
  refine hK1 _ _ ?_
  refine c_seq fun K2 hK2 => ?_
  refine c_region ?_
  refine o_y (v := .slice none 0 0) rfl rfl (y_assign rfl) ?_
  refine o_nil ?_
  refine hK2 _ _ ?_
  refine c_seq fun K3 hK3 => ?_
  refine c_seq fun K4 hK4 => ?_
  refine c_region ?_
  refine o_y (v := .pointer (some ⟨g1, 0, none⟩)) rfl rfl (y_fieldAddr (k := 0) rfl Try.underlying46 rfl rfl ⟨_, s22⟩ (by first | rfl | omega)) ?_
  refine o_y (v := .slice (a1) ((w1).length) (cap1)) rfl rfl (y_load rfl Try.underlying22 rfl (Rd.one (k := 0) rfl rfl)) ?_
  refine o_y (v := .int .i64 ((((w1).length : Nat) : Int))) rfl rfl (y_len rfl Try.underlying22) ?_
  refine o_y (v := .int .i64 (0)) rfl rfl (y_move rfl) ?_
  refine o_nil ?_
  refine hK4 _ _ ?_
  refine c_block ?_
  refine c_loop (fun d R H => ∃ (j : Nat) (a : Option Addr) (g : Nat) (cap : Nat) (Hx : Hp), d = w1.length - (j) ∧ (j ≤ w1.length) ∧ (OwnV eInt 3 (sel w1 w2 false (j)) a g cap Hx) ∧ (hit w1 w2 false lost (j) = false) ∧ R 1 = .pointer (some ⟨g1, 0, none⟩) ∧ R 8 = .slice (a1) ((w1).length) (cap1) ∧ R 9 = .int .i64 ((((w1).length : Nat) : Int)) ∧ R 10 = .int .i64 (((j : Nat) : Int)) ∧ R 4 = .slice (a) ((sel w1 w2 false (j)).length) (cap) ∧ H = ([(g1, .cells (#[.slice (a1) ((w1).length) (cap1), .slice (a2) ((w2).length) (cap2), .int .i64 (lost)]) 46 (0, 0))] ++ (Hx) : Hp)) (w1.length - (0)) ?_ ?_
  ·
    refine ⟨0, none, 0, 0, [], rfl, by omega, OwnV.none', rfl, rfl, rfl, rfl, (ie (a := 0) (b := ((0 : Nat) : Int)) (by omega)), rfl, ?_⟩
    simp; first | done | rfl
  ·
    rintro d1 R1 _ ⟨j, a, g, cap, Hx, hd1, hv1_0, hv1_1, hv1_2, h1_1, h1_8, h1_9, h1_10, h1_4, rfl⟩
    have hsl := sel_le w1 w2 false j
    have hol := hv1_1.le
    have hom := hv1_1.mx
    simp only [maxLen] at hom
    refine c_seq fun K5 hK5 => ?_
    refine c_region ?_
    refine o_y (v := .bool (decide (((j : Nat) : Int) < (((w1).length : Nat) : Int)))) rfl rfl (y_lss h1_10 h1_9 rfl) ?_
    refine o_nil ?_
    refine hK5 _ _ ?_
    refine c_seq fun K6 hK6 => ?_
    refine c_cond (t := decide (((j : Nat) : Int) < (((w1).length : Nat) : Int))) rfl (fun hc1 => ?_) (fun hc1 => ?_)
    ·
      replace hc1 := of_decide_eq_true hc1
      -- way LT
      refine c_skip ?_
      refine hK6 _ _ ?_
      refine c_seq fun K7 hK7 => ?_
      refine c_block ?_
      refine c_seq fun K8 hK8 => ?_
      refine c_region ?_
      refine o_y (v := .int .i64 (((j : Nat) : Int))) rfl rfl (y_move h1_10) ?_
      refine o_y (v := .pointer (some ⟨b1, o1 + j * 1, none⟩)) rfl rfl (y_ixO j (hs1.at_ (by omega)) h1_8 h1_10 Try.underlying22 s4 (by omega) (by first | omega | (simp; done) | (simp; omega))) ?_
      refine o_y (v := .bool ((w1)[j])) rfl rfl (y_load rfl Try.underlying4 rfl (SlG.rd (SlG.old hs1 (fun _ h => h)) j (by first | omega | (simp; done) | (simp; omega)))) ?_
      refine o_y (v := .int .i64 (((j : Nat) : Int))) rfl rfl (y_assign rfl) ?_
      refine o_y (v := .bool ((w1)[j])) rfl rfl (y_assign rfl) ?_
      refine o_nil ?_
      refine hK8 _ _ ?_
      refine c_seq fun K9 hK9 => ?_
      refine c_region ?_
      refine o_y (v := .bool ((w1)[j])) rfl rfl (y_move rfl) ?_
      refine o_y (v := .bool (!((w1)[j]))) rfl rfl (y_not rfl rfl) ?_
      refine o_y (v := .bool (!((w1)[j]))) rfl rfl (y_move rfl) ?_
      cases hc2 : (!((w1)[j]) : Bool)
      ·
        try have hc2' : ((w1)[j]) = true := by simpa using hc2
        -- way LTF
        have hpk : pick w1 w2 false j = false := pick_w _ _ _ _ (by omega) (by simpa using hc2)
        refine o_guard (j := 2) (d := 17) (b := false) rfl rfl rfl (fun h => by cases h) rfl (fun _ => ?_)
        refine o_guard (j := 2) (d := 17) (b := false) rfl rfl rfl (fun h => by cases h) rfl (fun _ => ?_)
        refine o_guard (j := 2) (d := 17) (b := false) rfl rfl rfl (fun h => by cases h) rfl (fun _ => ?_)
        refine o_guard (j := 2) (d := 17) (b := false) rfl rfl rfl (fun h => by cases h) rfl (fun _ => ?_)
        refine o_guard (j := 2) (d := 17) (b := false) rfl rfl rfl (fun h => by cases h) rfl (fun _ => ?_)
        refine o_guard (j := 2) (d := 17) (b := false) rfl rfl rfl (fun h => by cases h) rfl (fun _ => ?_)
        refine o_y (v := .bool (false)) rfl rfl (y_pick (b := false) rfl rfl) ?_
        refine o_nil ?_
        refine hK9 _ _ ?_
        refine c_cond (t := false) rfl (fun h => by cases h) (fun _ => ?_)
        refine c_skip ?_
        refine hK7 _ _ ?_
        refine c_region ?_
        refine o_y (v := .int .i64 ((((j : Nat) : Int)) + 1)) rfl rfl (y_add h1_10 rfl (wi_i64 (by omega) (by omega))) ?_
        refine o_y (v := .int .i64 ((((j : Nat) : Int)) + 1)) rfl rfl (y_move rfl) ?_
        refine o_nil ?_
        refine ⟨_, by omega, j + 1, a, g, cap, Hx, rfl, by omega, (by rw [sel_f hpk]; exact hv1_1), (by rw [hit_f hpk]; exact hv1_2), h1_1, h1_8, h1_9, (ie (a := (((j : Nat) : Int)) + 1) (b := ((j + 1 : Nat) : Int)) (by omega)), (by rw [sel_f hpk]; assumption), rfl⟩
      ·
        try have hc2' : ((w1)[j]) = false := by simpa using hc2
        -- way LTT
        refine o_guard (j := 2) (d := 17) (b := true) rfl rfl rfl (fun _ => ?_) rfl (fun h => by cases h)
        refine o_y (v := .pointer (some ⟨g1, 1, none⟩)) rfl rfl (y_fieldAddr (k := 1) h1_1 Try.underlying46 rfl rfl ⟨_, s22⟩ (by first | rfl | omega)) ?_
        refine o_guard (j := 2) (d := 17) (b := true) rfl rfl rfl (fun _ => ?_) rfl (fun h => by cases h)
        refine o_y (v := .slice (a2) ((w2).length) (cap2)) rfl rfl (y_load rfl Try.underlying22 rfl (Rd.one (k := 0) rfl rfl)) ?_
        refine o_guard (j := 2) (d := 17) (b := true) rfl rfl rfl (fun _ => ?_) rfl (fun h => by cases h)
        refine o_y (v := .int .i64 (((j : Nat) : Int))) rfl rfl (y_move rfl) ?_
        refine o_guard (j := 2) (d := 17) (b := true) rfl rfl rfl (fun _ => ?_) rfl (fun h => by cases h)
        refine o_y (v := .pointer (some ⟨b2, o2 + j * 1, none⟩)) rfl rfl (y_ixO j (hs2.at_ (by omega)) rfl rfl Try.underlying22 s4 (by omega) (by first | omega | (simp; done) | (simp; omega))) ?_
        refine o_guard (j := 2) (d := 17) (b := true) rfl rfl rfl (fun _ => ?_) rfl (fun h => by cases h)
        refine o_y (v := .bool ((w2)[j])) rfl rfl (y_load rfl Try.underlying4 rfl (SlG.rd (SlG.old hs2 (fun _ h => h)) j (by first | omega | (simp; done) | (simp; omega)))) ?_
        refine o_guard (j := 2) (d := 17) (b := true) rfl rfl rfl (fun _ => ?_) rfl (fun h => by cases h)
        refine o_y (v := .bool (!((w2)[j]))) rfl rfl (y_not rfl rfl) ?_
        refine o_y (v := .bool (!((w2)[j]))) rfl rfl (y_pick (b := true) rfl rfl) ?_
        refine o_nil ?_
        refine hK9 _ _ ?_
        refine c_cond (t := !((w2)[j])) rfl (fun hc3 => ?_) (fun hc3 => ?_)
        ·
          try have hc3' : ((w2)[j]) = false := by simpa using hc3
          -- way LTTT
          have hpk := pick_t w1 w2 false j (by omega) (by omega) (by simpa using hc2) (by simpa using hc3)
          refine c_seq fun K10 hK10 => ?_
          refine c_region ?_
          refine o_y (v := .slice (a) ((sel w1 w2 false (j)).length) (cap)) rfl rfl (y_move h1_4) ?_
          refine o_y (v := .int .i64 (((j : Nat) : Int))) rfl rfl (y_move rfl) ?_
          refine o_buildRow SL23 ([(((j : Nat) : Int))] : List Int) (fun x => .int .i64 x) (fun _ => rfl) rfl rfl (by rw [Array.toList_map]; rfl) (by simp) (by simp [eInt]) fun g2 cg2 hrg2 => ?_
          refine o_appendV SL23 ([(g2, .cells (cg2) 3 (0, 0)), (g1, .cells (#[.slice (a1) ((w1).length) (cap1), .slice (a2) ((w2).length) (cap2), .int .i64 (lost)]) 46 (0, 0))]) (fun Hy => [(g2, .cells (cg2) 3 (0, 0)), (g1, .cells (#[.slice (a1) ((w1).length) (cap1), .slice (a2) ((w2).length) (cap2), .int .i64 (lost)]) 46 (0, 0))] ++ (Hy)) rfl (fun Hy => by have h := List.perm_append_comm (l₁ := ([(g2, .cells (cg2) 3 (0, 0)), (g1, .cells (#[.slice (a1) ((w1).length) (cap1), .slice (a2) ((w2).length) (cap2), .int .i64 (lost)]) 46 (0, 0))] : Hp)) (l₂ := Hy); first | exact h | simpa [Value.cells] using h) (by have h := List.perm_append_comm_assoc ([(g2, .cells (cg2) 3 (0, 0)), (g1, .cells (#[.slice (a1) ((w1).length) (cap1), .slice (a2) ((w2).length) (cap2), .int .i64 (lost)]) 46 (0, 0))] : Hp) Hx ([] : Hp); first | exact h | simpa [Value.cells] using h) hv1_1 rfl (by first | omega | (simp; done) | (simp; omega)) rfl (by first | omega | (simp; done) | (simp; omega)) (SlG.row (k := 0) rfl hrg2) (by simp only [maxLen] <;> first | omega | (simp; omega)) (by first | omega | (simp; done) | (simp; omega)) fun ap4 gp4 capp4 Hp4 hvp4 => ?_
          have hwp4 := hvp4
          rw [show (sel w1 w2 false (j)) ++ ([(((j : Nat) : Int))]) = sel w1 w2 false (j + 1) from sel_t hpk] at hwp4
          refine o_y (v := .slice (ap4) (((sel w1 w2 false (j)).length) + 1) (capp4)) rfl rfl (y_assign rfl) ?_
          refine o_nil ?_
          refine hK10 _ _ ?_
          refine c_seq fun K11 hK11 => ?_
          refine c_region ?_
          refine o_y (v := .int .i64 (((j : Nat) : Int))) rfl rfl (y_move rfl) ?_
          refine o_y (v := .pointer (some ⟨g1, 2, none⟩)) rfl rfl (y_fieldAddr (k := 2) h1_1 Try.underlying46 rfl rfl ⟨_, s3⟩ (by first | rfl | omega)) ?_
          refine o_y (v := .int .i64 (lost)) rfl rfl (y_load rfl Try.underlying3 rfl (Rd.one (k := 1) rfl rfl)) ?_
          refine o_y (v := .bool (decide (((j : Nat) : Int) = lost))) rfl rfl (y_eql rfl rfl rfl) ?_
          refine o_nil ?_
          refine hK11 _ _ ?_
          refine c_cond (t := decide (((j : Nat) : Int) = lost)) rfl (fun hc5 => ?_) (fun hc5 => ?_)
          ·
            replace hc5 := of_decide_eq_true hc5
            -- way LTTTT
            refine c_seq fun K12 hK12 => ?_
            refine c_region ?_
            refine o_y (v := .slice none 0 0) rfl rfl (y_assign rfl) ?_
            refine o_y (v := .bool (false)) rfl rfl (y_assign rfl) ?_
            refine o_nil ?_
            refine hK12 _ _ ?_
            refine c_ret ?_
            refine fun w hw => ⟨[.slice none 0 0, .bool (false)], ⟨rfl, rfl, trivial⟩, ?_⟩
            have hh := hit_mono (j := w1.length) (by omega) (hit_t (lost := lost) hpk (by assumption))
            rw [rdsL_hit hh, rdsB_hit hh]
            exact ⟨_, List.nil_sublist _, _, _, _, rfl, .none'⟩
            first | done | rfl
          ·
            replace hc5 := of_decide_eq_false hc5
            -- way LTTTF
            refine c_skip ?_
            refine hK7 _ _ ?_
            refine c_region ?_
            refine o_y (v := .int .i64 ((((j : Nat) : Int)) + 1)) rfl rfl (y_add h1_10 rfl (wi_i64 (by omega) (by omega))) ?_
            refine o_y (v := .int .i64 ((((j : Nat) : Int)) + 1)) rfl rfl (y_move rfl) ?_
            refine o_forget (H' := [(g1, .cells (#[.slice (a1) ((w1).length) (cap1), .slice (a2) ((w2).length) (cap2), .int .i64 (lost)]) 46 (0, 0))] ++ (Hp4)) (((List.Sublist.refl _).cons_cons _).cons _) ?_
            refine o_nil ?_
            refine ⟨_, by omega, j + 1, ap4, gp4, capp4, Hp4, rfl, by omega, hwp4, (by rw [hit_n (by assumption)]; exact hv1_2), h1_1, h1_8, h1_9, (ie (a := (((j : Nat) : Int)) + 1) (b := ((j + 1 : Nat) : Int)) (by omega)), (len_eq (by rw [← sel_t hpk, List.length_append]; rfl)), rfl⟩
        ·
          try have hc3' : ((w2)[j]) = true := by simpa using hc3
          -- way LTTF
          have hpk : pick w1 w2 false j = false := pick_k _ _ _ _ (by omega) (by simpa using hc3)
          refine c_skip ?_
          refine hK7 _ _ ?_
          refine c_region ?_
          refine o_y (v := .int .i64 ((((j : Nat) : Int)) + 1)) rfl rfl (y_add h1_10 rfl (wi_i64 (by omega) (by omega))) ?_
          refine o_y (v := .int .i64 ((((j : Nat) : Int)) + 1)) rfl rfl (y_move rfl) ?_
          refine o_nil ?_
          refine ⟨_, by omega, j + 1, a, g, cap, Hx, rfl, by omega, (by rw [sel_f hpk]; exact hv1_1), (by rw [hit_f hpk]; exact hv1_2), h1_1, h1_8, h1_9, (ie (a := (((j : Nat) : Int)) + 1) (b := ((j + 1 : Nat) : Int)) (by omega)), (by rw [sel_f hpk]; assumption), rfl⟩
    ·
      replace hc1 := of_decide_eq_false hc1
      -- way LF
      refine c_exit ?_
      refine hK3 _ _ ?_
      refine c_seq fun K13 hK13 => ?_
      refine c_region ?_
      refine o_y (v := .slice (a) ((sel w1 w2 false (j)).length) (cap)) rfl rfl (y_move h1_4) ?_
      refine o_y (v := .slice (a) ((sel w1 w2 false (j)).length) (cap)) rfl rfl (y_assign rfl) ?_
      refine o_y (v := .bool (true)) rfl rfl (y_assign rfl) ?_
      refine o_nil ?_
      refine hK13 _ _ ?_
      refine c_ret ?_
      refine fun w hw => ⟨[.slice (a) ((sel w1 w2 false (j)).length) (cap), .bool (true)], ⟨rfl, rfl, trivial⟩, ?_⟩
      obtain rfl : j = w1.length := by omega
      rw [rdsL_not hv1_2, rdsB_not hv1_2]
      exact ⟨Hx, by simp, _, _, _, rfl, hv1_1⟩
      first | done | rfl

set_option maxRecDepth 100000 in
set_option maxHeartbeats 4000000 in
theorem f19_delta (w1 w2 : List Bool) (a1 : Option Addr) (b1 o1 cap1 m1 : Nat) (a2 : Option Addr) (b2 o2 cap2 m2 : Nat) (p : Bool) (lost : Int) (w : World) (hlk : w2.length = w1.length) (hsm : w1.length ≤ 15) (hl0 : -9223372036854775808 ≤ lost) (hl1 : lost ≤ 9223372036854775807) (hm1 : m1 = w1.length) (hs1 : Sl eBool w w1 a1 b1 o1 cap1) (hm2 : m2 = w2.length) (hs2 : Sl eBool w w2 a2 b2 o2 cap2) :
    Calls Try.prog 19 [.agg (#[.slice (a1) ((w1).length) (cap1), .slice (a2) ((w2).length) (cap2), .int .i64 (lost)]), .bool (p)].toArray w fun e w' => ∃ v H', e = .returned v ∧ St w (fun _ => False) H' w' ∧ (fun v H => ∃ a g cap, v = .tuple #[.slice a (dltL w1 w2 p lost).length cap, .bool (rdsB w1 w2 true lost)] ∧ OwnV eInt 3 (dltL w1 w2 p lost) a g cap H) v H' := by
  subst hm1
  subst hm2
  have hle1 := hs1.le
  have hmx1 := hs1.mx
  have hle2 := hs2.le
  have hmx2 := hs2.mx
  simp only [maxLen] at hmx1 hmx2
  refine (calls_of (P := Try.prog) (n := 44) (w0 := w) (S := fun _ => False) (H := []) (T := fun v H => ∃ H', H'.Sublist H ∧ (fun v H => ∃ a g cap, v = .tuple #[.slice a (dltL w1 w2 p lost).length cap, .bool (rdsB w1 w2 true lost)] ∧ OwnV eInt 3 (dltL w1 w2 p lost) a g cap H) v H') Try.func19 rfl Try.ntmps19 (Nat.le_of_ble_eq_true rfl) [.tmp 4, .tmp 5] rfl (St.nil w _) ?_).mono fun e w' ⟨v, H', he, hs, H2, hsub, hT⟩ => ⟨v, H2, he, hs.drop hsub, hT⟩
  refine c_seq fun K1 hK1 => ?_
  refine c_region ?_
  refine o_box (v := .agg (#[.slice (a1) ((w1).length) (cap1), .slice (a2) ((w2).length) (cap2), .int .i64 (lost)])) rfl rfl fun g1 => ?_
  refine o_y (v := .slice none 0 0) rfl rfl (y_assign rfl) ?_
  refine o_y (v := .bool (false)) rfl rfl (y_assign rfl) ?_
  refine o_nil ?_
  refine hK1 _ _ ?_
  refine c_seq fun K2 hK2 => ?_
  refine c_region ?_
  refine o_y (v := .slice none 0 0) rfl rfl (y_assign rfl) ?_
  refine o_nil ?_
  refine hK2 _ _ ?_
  refine c_seq fun K3 hK3 => ?_
  refine c_seq fun K4 hK4 => ?_
  refine c_region ?_
  refine o_y (v := .pointer (some ⟨g1, 0, none⟩)) rfl rfl (y_fieldAddr (k := 0) rfl Try.underlying46 rfl rfl ⟨_, s22⟩ (by first | rfl | omega)) ?_
  refine o_y (v := .slice (a1) ((w1).length) (cap1)) rfl rfl (y_load rfl Try.underlying22 rfl (Rd.one (k := 0) rfl rfl)) ?_
  refine o_y (v := .int .i64 ((((w1).length : Nat) : Int))) rfl rfl (y_len rfl Try.underlying22) ?_
  refine o_y (v := .int .i64 (0)) rfl rfl (y_move rfl) ?_
  refine o_nil ?_
  refine hK4 _ _ ?_
  refine c_block ?_
  refine c_loop (fun d R H => ∃ (j : Nat) (a : Option Addr) (g : Nat) (cap : Nat) (Hx : Hp), d = w1.length - (j) ∧ (j ≤ w1.length) ∧ (OwnV eInt 3 (sel w1 w2 true (j)) a g cap Hx) ∧ (hit w1 w2 true lost (j) = false) ∧ R 1 = .bool (p) ∧ R 2 = .pointer (some ⟨g1, 0, none⟩) ∧ R 10 = .slice (a1) ((w1).length) (cap1) ∧ R 11 = .int .i64 ((((w1).length : Nat) : Int)) ∧ R 12 = .int .i64 (((j : Nat) : Int)) ∧ R 6 = .slice (a) ((sel w1 w2 true (j)).length) (cap) ∧ H = ([(g1, .cells (#[.slice (a1) ((w1).length) (cap1), .slice (a2) ((w2).length) (cap2), .int .i64 (lost)]) 46 (0, 0))] ++ (Hx) : Hp)) (w1.length - (0)) ?_ ?_
  ·
    refine ⟨0, none, 0, 0, [], rfl, by omega, OwnV.none', rfl, rfl, rfl, rfl, rfl, (ie (a := 0) (b := ((0 : Nat) : Int)) (by omega)), rfl, ?_⟩
    simp; first | done | rfl
  ·
    rintro d1 R1 _ ⟨j, a, g, cap, Hx, hd1, hv1_0, hv1_1, hv1_2, h1_1, h1_2, h1_10, h1_11, h1_12, h1_6, rfl⟩
    have hsl := sel_le w1 w2 true j
    have hol := hv1_1.le
    have hom := hv1_1.mx
    simp only [maxLen] at hom
    refine c_seq fun K5 hK5 => ?_
    refine c_region ?_
    refine o_y (v := .bool (decide (((j : Nat) : Int) < (((w1).length : Nat) : Int)))) rfl rfl (y_lss h1_12 h1_11 rfl) ?_
    refine o_nil ?_
    refine hK5 _ _ ?_
    refine c_seq fun K6 hK6 => ?_
    refine c_cond (t := decide (((j : Nat) : Int) < (((w1).length : Nat) : Int))) rfl (fun hc1 => ?_) (fun hc1 => ?_)
    ·
      replace hc1 := of_decide_eq_true hc1
      -- way LT
      refine c_skip ?_
      refine hK6 _ _ ?_
      refine c_seq fun K7 hK7 => ?_
      refine c_block ?_
      refine c_seq fun K8 hK8 => ?_
      refine c_region ?_
      refine o_y (v := .int .i64 (((j : Nat) : Int))) rfl rfl (y_move h1_12) ?_
      refine o_y (v := .pointer (some ⟨b1, o1 + j * 1, none⟩)) rfl rfl (y_ixO j (hs1.at_ (by omega)) h1_10 h1_12 Try.underlying22 s4 (by omega) (by first | omega | (simp; done) | (simp; omega))) ?_
      refine o_y (v := .bool ((w1)[j])) rfl rfl (y_load rfl Try.underlying4 rfl (SlG.rd (SlG.old hs1 (fun _ h => h)) j (by first | omega | (simp; done) | (simp; omega)))) ?_
      refine o_y (v := .int .i64 (((j : Nat) : Int))) rfl rfl (y_assign rfl) ?_
      refine o_y (v := .bool ((w1)[j])) rfl rfl (y_assign rfl) ?_
      refine o_nil ?_
      refine hK8 _ _ ?_
      refine c_seq fun K9 hK9 => ?_
      refine c_region ?_
      refine o_y (v := .bool ((w1)[j])) rfl rfl (y_move rfl) ?_
      refine o_y (v := .bool ((w1)[j])) rfl rfl (y_move rfl) ?_
      cases hc2 : ((w1)[j] : Bool)
      ·
        -- way LTF
        have hpk : pick w1 w2 true j = false := pick_w _ _ _ _ (by omega) (by simpa using hc2)
        refine o_guard (j := 1) (d := 18) (b := false) rfl rfl rfl (fun h => by cases h) rfl (fun _ => ?_)
        refine o_guard (j := 1) (d := 18) (b := false) rfl rfl rfl (fun h => by cases h) rfl (fun _ => ?_)
        refine o_guard (j := 1) (d := 18) (b := false) rfl rfl rfl (fun h => by cases h) rfl (fun _ => ?_)
        refine o_guard (j := 1) (d := 18) (b := false) rfl rfl rfl (fun h => by cases h) rfl (fun _ => ?_)
        refine o_guard (j := 1) (d := 18) (b := false) rfl rfl rfl (fun h => by cases h) rfl (fun _ => ?_)
        refine o_guard (j := 1) (d := 18) (b := false) rfl rfl rfl (fun h => by cases h) rfl (fun _ => ?_)
        refine o_y (v := .bool (false)) rfl rfl (y_pick (b := false) rfl rfl) ?_
        refine o_nil ?_
        refine hK9 _ _ ?_
        refine c_cond (t := false) rfl (fun h => by cases h) (fun _ => ?_)
        refine c_skip ?_
        refine hK7 _ _ ?_
        refine c_region ?_
        refine o_y (v := .int .i64 ((((j : Nat) : Int)) + 1)) rfl rfl (y_add h1_12 rfl (wi_i64 (by omega) (by omega))) ?_
        refine o_y (v := .int .i64 ((((j : Nat) : Int)) + 1)) rfl rfl (y_move rfl) ?_
        refine o_nil ?_
        refine ⟨_, by omega, j + 1, a, g, cap, Hx, rfl, by omega, (by rw [sel_f hpk]; exact hv1_1), (by rw [hit_f hpk]; exact hv1_2), h1_1, h1_2, h1_10, h1_11, (ie (a := (((j : Nat) : Int)) + 1) (b := ((j + 1 : Nat) : Int)) (by omega)), (by rw [sel_f hpk]; assumption), rfl⟩
      ·
        -- way LTT
        refine o_guard (j := 1) (d := 18) (b := true) rfl rfl rfl (fun _ => ?_) rfl (fun h => by cases h)
        refine o_y (v := .pointer (some ⟨g1, 1, none⟩)) rfl rfl (y_fieldAddr (k := 1) h1_2 Try.underlying46 rfl rfl ⟨_, s22⟩ (by first | rfl | omega)) ?_
        refine o_guard (j := 1) (d := 18) (b := true) rfl rfl rfl (fun _ => ?_) rfl (fun h => by cases h)
        refine o_y (v := .slice (a2) ((w2).length) (cap2)) rfl rfl (y_load rfl Try.underlying22 rfl (Rd.one (k := 0) rfl rfl)) ?_
        refine o_guard (j := 1) (d := 18) (b := true) rfl rfl rfl (fun _ => ?_) rfl (fun h => by cases h)
        refine o_y (v := .int .i64 (((j : Nat) : Int))) rfl rfl (y_move rfl) ?_
        refine o_guard (j := 1) (d := 18) (b := true) rfl rfl rfl (fun _ => ?_) rfl (fun h => by cases h)
        refine o_y (v := .pointer (some ⟨b2, o2 + j * 1, none⟩)) rfl rfl (y_ixO j (hs2.at_ (by omega)) rfl rfl Try.underlying22 s4 (by omega) (by first | omega | (simp; done) | (simp; omega))) ?_
        refine o_guard (j := 1) (d := 18) (b := true) rfl rfl rfl (fun _ => ?_) rfl (fun h => by cases h)
        refine o_y (v := .bool ((w2)[j])) rfl rfl (y_load rfl Try.underlying4 rfl (SlG.rd (SlG.old hs2 (fun _ h => h)) j (by first | omega | (simp; done) | (simp; omega)))) ?_
        refine o_guard (j := 1) (d := 18) (b := true) rfl rfl rfl (fun _ => ?_) rfl (fun h => by cases h)
        refine o_y (v := .bool (!((w2)[j]))) rfl rfl (y_not rfl rfl) ?_
        refine o_y (v := .bool (!((w2)[j]))) rfl rfl (y_pick (b := true) rfl rfl) ?_
        refine o_nil ?_
        refine hK9 _ _ ?_
        refine c_cond (t := !((w2)[j])) rfl (fun hc3 => ?_) (fun hc3 => ?_)
        ·
          try have hc3' : ((w2)[j]) = false := by simpa using hc3
          -- way LTTT
          have hpk := pick_t w1 w2 true j (by omega) (by omega) (by simpa using hc2) (by simpa using hc3)
          refine c_seq fun K10 hK10 => ?_
          refine c_region ?_
          refine o_y (v := .slice (a) ((sel w1 w2 true (j)).length) (cap)) rfl rfl (y_move h1_6) ?_
          refine o_y (v := .int .i64 (((j : Nat) : Int))) rfl rfl (y_move rfl) ?_
          refine o_buildRow SL23 ([(((j : Nat) : Int))] : List Int) (fun x => .int .i64 x) (fun _ => rfl) rfl rfl (by rw [Array.toList_map]; rfl) (by simp) (by simp [eInt]) fun g2 cg2 hrg2 => ?_
          refine o_appendV SL23 ([(g2, .cells (cg2) 3 (0, 0)), (g1, .cells (#[.slice (a1) ((w1).length) (cap1), .slice (a2) ((w2).length) (cap2), .int .i64 (lost)]) 46 (0, 0))]) (fun Hy => [(g2, .cells (cg2) 3 (0, 0)), (g1, .cells (#[.slice (a1) ((w1).length) (cap1), .slice (a2) ((w2).length) (cap2), .int .i64 (lost)]) 46 (0, 0))] ++ (Hy)) rfl (fun Hy => by have h := List.perm_append_comm (l₁ := ([(g2, .cells (cg2) 3 (0, 0)), (g1, .cells (#[.slice (a1) ((w1).length) (cap1), .slice (a2) ((w2).length) (cap2), .int .i64 (lost)]) 46 (0, 0))] : Hp)) (l₂ := Hy); first | exact h | simpa [Value.cells] using h) (by have h := List.perm_append_comm_assoc ([(g2, .cells (cg2) 3 (0, 0)), (g1, .cells (#[.slice (a1) ((w1).length) (cap1), .slice (a2) ((w2).length) (cap2), .int .i64 (lost)]) 46 (0, 0))] : Hp) Hx ([] : Hp); first | exact h | simpa [Value.cells] using h) hv1_1 rfl (by first | omega | (simp; done) | (simp; omega)) rfl (by first | omega | (simp; done) | (simp; omega)) (SlG.row (k := 0) rfl hrg2) (by simp only [maxLen] <;> first | omega | (simp; omega)) (by first | omega | (simp; done) | (simp; omega)) fun ap4 gp4 capp4 Hp4 hvp4 => ?_
          have hwp4 := hvp4
          rw [show (sel w1 w2 true (j)) ++ ([(((j : Nat) : Int))]) = sel w1 w2 true (j + 1) from sel_t hpk] at hwp4
          refine o_y (v := .slice (ap4) (((sel w1 w2 true (j)).length) + 1) (capp4)) rfl rfl (y_assign rfl) ?_
          refine o_nil ?_
          refine hK10 _ _ ?_
          refine c_seq fun K11 hK11 => ?_
          refine c_region ?_
          refine o_y (v := .int .i64 (((j : Nat) : Int))) rfl rfl (y_move rfl) ?_
          refine o_y (v := .pointer (some ⟨g1, 2, none⟩)) rfl rfl (y_fieldAddr (k := 2) h1_2 Try.underlying46 rfl rfl ⟨_, s3⟩ (by first | rfl | omega)) ?_
          refine o_y (v := .int .i64 (lost)) rfl rfl (y_load rfl Try.underlying3 rfl (Rd.one (k := 1) rfl rfl)) ?_
          refine o_y (v := .bool (decide (((j : Nat) : Int) = lost))) rfl rfl (y_eql rfl rfl rfl) ?_
          refine o_nil ?_
          refine hK11 _ _ ?_
          refine c_cond (t := decide (((j : Nat) : Int) = lost)) rfl (fun hc5 => ?_) (fun hc5 => ?_)
          ·
            replace hc5 := of_decide_eq_true hc5
            -- way LTTTT
            refine c_seq fun K12 hK12 => ?_
            refine c_region ?_
            refine o_y (v := .slice none 0 0) rfl rfl (y_assign rfl) ?_
            refine o_y (v := .bool (false)) rfl rfl (y_assign rfl) ?_
            refine o_nil ?_
            refine hK12 _ _ ?_
            refine c_ret ?_
            refine fun w hw => ⟨[.slice none 0 0, .bool (false)], ⟨rfl, rfl, trivial⟩, ?_⟩
            have hh := hit_mono (j := w1.length) (by omega) (hit_t (lost := lost) hpk (by assumption))
            rw [dltL_hit hh, rdsB_hit hh]
            exact ⟨_, List.nil_sublist _, _, _, _, rfl, .none'⟩
            first | done | rfl
          ·
            replace hc5 := of_decide_eq_false hc5
            -- way LTTTF
            refine c_skip ?_
            refine hK7 _ _ ?_
            refine c_region ?_
            refine o_y (v := .int .i64 ((((j : Nat) : Int)) + 1)) rfl rfl (y_add h1_12 rfl (wi_i64 (by omega) (by omega))) ?_
            refine o_y (v := .int .i64 ((((j : Nat) : Int)) + 1)) rfl rfl (y_move rfl) ?_
            refine o_forget (H' := [(g1, .cells (#[.slice (a1) ((w1).length) (cap1), .slice (a2) ((w2).length) (cap2), .int .i64 (lost)]) 46 (0, 0))] ++ (Hp4)) (((List.Sublist.refl _).cons_cons _).cons _) ?_
            refine o_nil ?_
            refine ⟨_, by omega, j + 1, ap4, gp4, capp4, Hp4, rfl, by omega, hwp4, (by rw [hit_n (by assumption)]; exact hv1_2), h1_1, h1_2, h1_10, h1_11, (ie (a := (((j : Nat) : Int)) + 1) (b := ((j + 1 : Nat) : Int)) (by omega)), (len_eq (by rw [← sel_t hpk, List.length_append]; rfl)), rfl⟩
        ·
          try have hc3' : ((w2)[j]) = true := by simpa using hc3
          -- way LTTF
          have hpk : pick w1 w2 true j = false := pick_k _ _ _ _ (by omega) (by simpa using hc3)
          refine c_skip ?_
          refine hK7 _ _ ?_
          refine c_region ?_
          refine o_y (v := .int .i64 ((((j : Nat) : Int)) + 1)) rfl rfl (y_add h1_12 rfl (wi_i64 (by omega) (by omega))) ?_
          refine o_y (v := .int .i64 ((((j : Nat) : Int)) + 1)) rfl rfl (y_move rfl) ?_
          refine o_nil ?_
          refine ⟨_, by omega, j + 1, a, g, cap, Hx, rfl, by omega, (by rw [sel_f hpk]; exact hv1_1), (by rw [hit_f hpk]; exact hv1_2), h1_1, h1_2, h1_10, h1_11, (ie (a := (((j : Nat) : Int)) + 1) (b := ((j + 1 : Nat) : Int)) (by omega)), (by rw [sel_f hpk]; assumption), rfl⟩
    ·
      replace hc1 := of_decide_eq_false hc1
      -- way LF
      have hjj : j = w1.length := by omega
      refine c_exit ?_
      refine hK3 _ _ ?_
      refine c_seq fun K13 hK13 => ?_
      refine c_seq fun K14 hK14 => ?_
      refine c_region ?_
      refine o_y (v := .bool (p)) rfl rfl (y_move h1_1) ?_
      refine o_y (v := .bool (!(p))) rfl rfl (y_not rfl rfl) ?_
      refine o_nil ?_
      refine hK14 _ _ ?_
      refine c_cond (t := !(p)) rfl (fun hc6 => ?_) (fun hc6 => ?_)
      ·
        try have hc6' : (p) = false := by simpa using hc6
        -- way LFT
        refine c_region ?_
        refine o_y (v := .slice (a) ((sel w1 w2 true (j)).length) (cap)) rfl rfl (y_move h1_6) ?_
        refine o_y (v := .pointer (some ⟨g1, 0, none⟩)) rfl rfl (y_fieldAddr (k := 0) h1_2 Try.underlying46 rfl rfl ⟨_, s22⟩ (by first | rfl | omega)) ?_
        refine o_y (v := .slice (a1) ((w1).length) (cap1)) rfl rfl (y_load rfl Try.underlying22 rfl (Rd.one (k := 0) rfl rfl)) ?_
        refine o_y (v := .int .i64 ((((w1).length : Nat) : Int))) rfl rfl (y_len rfl Try.underlying22) ?_
        refine o_buildRow SL23 ([((((w1).length : Nat) : Int))] : List Int) (fun x => .int .i64 x) (fun _ => rfl) rfl rfl (by rw [Array.toList_map]; rfl) (by simp) (by simp [eInt]) fun g5 cg5 hrg5 => ?_
        refine o_appendV SL23 ([(g5, .cells (cg5) 3 (0, 0)), (g1, .cells (#[.slice (a1) ((w1).length) (cap1), .slice (a2) ((w2).length) (cap2), .int .i64 (lost)]) 46 (0, 0))]) (fun Hy => [(g5, .cells (cg5) 3 (0, 0)), (g1, .cells (#[.slice (a1) ((w1).length) (cap1), .slice (a2) ((w2).length) (cap2), .int .i64 (lost)]) 46 (0, 0))] ++ (Hy)) rfl (fun Hy => by have h := List.perm_append_comm (l₁ := ([(g5, .cells (cg5) 3 (0, 0)), (g1, .cells (#[.slice (a1) ((w1).length) (cap1), .slice (a2) ((w2).length) (cap2), .int .i64 (lost)]) 46 (0, 0))] : Hp)) (l₂ := Hy); first | exact h | simpa [Value.cells] using h) (by have h := List.perm_append_comm_assoc ([(g5, .cells (cg5) 3 (0, 0)), (g1, .cells (#[.slice (a1) ((w1).length) (cap1), .slice (a2) ((w2).length) (cap2), .int .i64 (lost)]) 46 (0, 0))] : Hp) Hx ([] : Hp); first | exact h | simpa [Value.cells] using h) hv1_1 rfl (by first | omega | (simp; done) | (simp; omega)) rfl (by first | omega | (simp; done) | (simp; omega)) (SlG.row (k := 0) rfl hrg5) (by simp only [maxLen] <;> first | omega | (simp; omega)) (by first | omega | (simp; done) | (simp; omega)) fun ap7 gp7 capp7 Hp7 hvp7 => ?_
        have hwp7 := hvp7
        rw [show (sel w1 w2 true (j)) ++ ([((((w1).length : Nat) : Int))]) = dltL w1 w2 p lost from (by have h := hv1_2; rw [hjj] at h ⊢; exact (dltL_n h (by simpa using hc6)).symm)] at hwp7
        refine o_y (v := .slice (ap7) (((sel w1 w2 true (j)).length) + 1) (capp7)) rfl rfl (y_assign rfl) ?_
        refine o_nil ?_
        refine hK13 _ _ ?_
        refine c_seq fun K15 hK15 => ?_
        refine c_region ?_
        refine o_y (v := .slice (ap7) (((sel w1 w2 true (j)).length) + 1) (capp7)) rfl rfl (y_move rfl) ?_
        refine o_y (v := .slice (ap7) (((sel w1 w2 true (j)).length) + 1) (capp7)) rfl rfl (y_assign rfl) ?_
        refine o_y (v := .bool (true)) rfl rfl (y_assign rfl) ?_
        refine o_nil ?_
        refine hK15 _ _ ?_
        refine c_ret ?_
        refine fun w hw => ⟨[.slice (ap7) (((sel w1 w2 true (j)).length) + 1) (capp7), .bool (true)], ⟨rfl, rfl, trivial⟩, ?_⟩
        subst hjj
        rw [rdsB_not hv1_2]
        have hle : (sel w1 w2 true w1.length).length + 1 = (dltL w1 w2 p lost).length := by rw [dltL_n hv1_2 (by simpa using hc6)]; simp
        rw [hle]
        exact ⟨_, List.sublist_append_right _ _, _, _, _, rfl, hwp7⟩
        first | done | rfl
      ·
        try have hc6' : (p) = true := by simpa using hc6
        -- way LFF
        refine c_skip ?_
        refine hK13 _ _ ?_
        refine c_seq fun K16 hK16 => ?_
        refine c_region ?_
        refine o_y (v := .slice (a) ((sel w1 w2 true (j)).length) (cap)) rfl rfl (y_move h1_6) ?_
        refine o_y (v := .slice (a) ((sel w1 w2 true (j)).length) (cap)) rfl rfl (y_assign rfl) ?_
        refine o_y (v := .bool (true)) rfl rfl (y_assign rfl) ?_
        refine o_nil ?_
        refine hK16 _ _ ?_
        refine c_ret ?_
        refine fun w hw => ⟨[.slice (a) ((sel w1 w2 true (j)).length) (cap), .bool (true)], ⟨rfl, rfl, trivial⟩, ?_⟩
        subst hjj
        rw [dltL_p hv1_2 (by simpa using hc6), rdsB_not hv1_2]
        exact ⟨Hx, List.sublist_append_right _ _, _, _, _, rfl, hv1_1⟩
        first | done | rfl

end Go.Proofs.Ytdekckpoolkgnaa.Plan
