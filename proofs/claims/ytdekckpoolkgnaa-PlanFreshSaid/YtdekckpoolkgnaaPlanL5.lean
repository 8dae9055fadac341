/- Proved: what the law of what is handed in comes to; the conditions stand in the statements. -/
import Derived.Test.YtdekckpoolkgnaaPlanH
set_option linter.unusedVariables false
set_option linter.unusedSimpArgs false
namespace Go.Proofs.Ytdekckpoolkgnaa.Plan
open Go Go.RowKit Go.Proofs.Ytdekckpoolkgnaa.Eng

set_option maxRecDepth 100000 in
set_option maxHeartbeats 4000000 in
theorem f5_PlanFresh (w1 w2 : List Bool) (a1 : Option Addr) (b1 o1 cap1 m1 : Nat) (a2 : Option Addr) (b2 o2 cap2 m2 : Nat) (lost : Int) (w : World) (hB1 : w1.length * 1 ≤ 140737488351232) (hB2 : w2.length * 1 ≤ 140737488351232) (hl0 : -9223372036854775808 ≤ lost) (hl1 : lost ≤ 9223372036854775807) (hm1 : m1 = w1.length) (hs1 : Sl eBool w w1 a1 b1 o1 cap1) (hm2 : m2 = w2.length) (hs2 : Sl eBool w w2 a2 b2 o2 cap2) :
    Calls Try.prog 5 [.slice (a1) (m1) (cap1), .slice (a2) (m2) (cap2), .int .i64 (lost)].toArray w fun e w' => e = .returned (.bool (true)) ∧ Below w.heap.size w w' := by
  subst hm1
  subst hm2
  have hle1 := hs1.le
  have hmx1 := hs1.mx
  have hle2 := hs2.le
  have hmx2 := hs2.mx
  simp only [maxLen] at hmx1 hmx2
  refine (calls_of (P := Try.prog) (n := 102) (w0 := w) (S := fun _ => False) (H := []) (T := fun v _ => v = (.bool (true))) Try.func5 rfl Try.ntmps5 (Nat.le_of_ble_eq_true rfl) [.tmp 6] rfl (St.nil w _) ?_).mono fun e w' ⟨v, H', he, hs, hT⟩ => ⟨by rw [he, hT], hs.below⟩
  refine c_seq fun K1 hK1 => ?_
  refine c_region ?_
  refine o_y (v := .bool (false)) rfl rfl (y_assign rfl) ?_
  refine o_nil ?_
  refine hK1 _ _ ?_
  refine c_seq fun K2 hK2 => ?_
  refine c_region ?_
  refine o_y (v := .slice none 0 0) rfl rfl (y_assign rfl) ?_
  refine o_y (v := .slice none 0 0) rfl rfl (y_assign rfl) ?_
  refine o_nil ?_
  refine hK2 _ _ ?_
  refine c_seq fun K3 hK3 => ?_
  refine c_region ?_
  refine o_y (v := .slice none 0 0) rfl rfl (y_move rfl) ?_
  refine o_y (v := .slice (a1) ((w1).length) (cap1)) rfl rfl (y_move rfl) ?_
  refine o_appendV SL22 ([]) (fun Hy => (Hy)) rfl (fun Hy => by have h := List.perm_append_comm (l₁ := ([] : Hp)) (l₂ := Hy); first | exact h | simpa [Value.cells] using h) (List.Perm.refl _) OwnV.none' rfl (by first | omega | (simp; done) | (simp; omega)) rfl (by first | omega | (simp; done) | (simp; omega)) (SlG.old hs1 (fun _ h => h)) (by simp only [maxLen]; first | omega | (simp; omega)) (by first | omega | (simp; done) | (simp; omega)) fun ap2 gp2 capp2 Hp2 hvp2 => ?_
  rw [List.nil_append] at hvp2
  refine o_y (v := .slice (ap2) (0 + ((w1).length)) (capp2)) rfl rfl (y_assign rfl) ?_
  refine o_nil ?_
  refine hK3 _ _ ?_
  refine c_seq fun K4 hK4 => ?_
  refine c_region ?_
  refine o_y (v := .slice none 0 0) rfl rfl (y_move rfl) ?_
  refine o_y (v := .slice (a2) ((w2).length) (cap2)) rfl rfl (y_move rfl) ?_
  refine o_appendV SL22 ((Hp2)) (fun Hy => (Hp2 ++ Hy)) rfl (fun Hy => by have h := List.perm_append_comm (l₁ := ((Hp2) : Hp)) (l₂ := Hy); first | exact h | simpa [Value.cells] using h) (List.Perm.refl _) OwnV.none' rfl (by first | omega | (simp; done) | (simp; omega)) rfl (by first | omega | (simp; done) | (simp; omega)) (SlG.old hs2 (fun _ h => h)) (by simp only [maxLen]; first | omega | (simp; omega)) (by first | omega | (simp; done) | (simp; omega)) fun ap4 gp4 capp4 Hp4 hvp4 => ?_
  rw [List.nil_append] at hvp4
  refine o_y (v := .slice (ap4) (0 + ((w2).length)) (capp4)) rfl rfl (y_assign rfl) ?_
  refine o_nil ?_
  refine hK4 _ _ ?_
  refine c_seq fun K5 hK5 => ?_
  refine c_region ?_
  refine o_y (v := .slice (ap2) (0 + ((w1).length)) (capp2)) rfl rfl (y_move rfl) ?_
  refine o_y (v := .slice (ap4) (0 + ((w2).length)) (capp4)) rfl rfl (y_move rfl) ?_
  refine o_y (v := .int .i64 (lost)) rfl rfl (y_move rfl) ?_
  refine o_callV (fun Hy => (Hp2 ++ (Hp4 ++ Hy))) (fun Hy => by have h := List.perm_append_comm (l₁ := ((Hp2 ++ Hp4) : Hp)) (l₂ := Hy); first | exact h | simpa [Value.cells] using h) (vs := [.slice (ap2) (0 + ((w1).length)) (capp2), .slice (ap4) (0 + ((w2).length)) (capp4), .bool (false), .int .i64 (lost)]) b8 rfl rfl (fun w hw => f8_Of (w1) (w2) _ _ _ _ _ _ _ _ _ _ (false) (lost) w (by omega) (by omega) (by first | rfl | (simp; done) | (simp; omega)) ((SlG.own hvp2 (fun p hp => (List.mem_append_left _ hp))) w hw) (by first | rfl | (simp; done) | (simp; omega)) ((SlG.own hvp4 (fun p hp => (List.mem_append_right _ hp))) w hw)) ?_
  rintro _ Hp5 ⟨ap5, gp5, capp5, rfl, hvp5⟩
  have hzp5 := hvp5.le
  have hyp5 := hvp5.mx
  simp only [maxLen] at hyp5
  refine o_y (v := .tuple #[.agg (#[.int .u8 (planW (w1) (w2) (false) (lost)), .slice (ap5) ((planR (w1) (w2) (false) (lost)).length) (capp5)]), .int .i64 (planE (w1) (w2) (false) (lost))]) rfl rfl (y_move rfl) ?_
  refine o_y (v := .agg (#[.int .u8 (planW (w1) (w2) (false) (lost)), .slice (ap5) ((planR (w1) (w2) (false) (lost)).length) (capp5)])) rfl rfl (y_extract (vs := #[.agg (#[.int .u8 (planW (w1) (w2) (false) (lost)), .slice (ap5) ((planR (w1) (w2) (false) (lost)).length) (capp5)]), .int .i64 (planE (w1) (w2) (false) (lost))]) rfl rfl) ?_
  refine o_y (v := .int .i64 (planE (w1) (w2) (false) (lost))) rfl rfl (y_extract (vs := #[.agg (#[.int .u8 (planW (w1) (w2) (false) (lost)), .slice (ap5) ((planR (w1) (w2) (false) (lost)).length) (capp5)]), .int .i64 (planE (w1) (w2) (false) (lost))]) rfl rfl) ?_
  refine o_alloc (z := .agg (#[.int .u8 (0), .slice none 0 0])) rfl z25 fun g6 => ?_
  refine o_storeS (H' := [(g6, .cells (#[.int .u8 (planW (w1) (w2) (false) (lost)), .slice (ap5) ((planR (w1) (w2) (false) (lost)).length) (capp5)]) 25 (0, 0))] ++ (Hp2 ++ (Hp4 ++ Hp5))) 0 rfl rfl rfl s25 rfl (by simp [Value.oneCell']) rfl ?_
  refine o_y (v := .int .i64 (planE (w1) (w2) (false) (lost))) rfl rfl (y_assign rfl) ?_
  refine o_nil ?_
  refine hK5 _ _ ?_
  refine c_seq fun K6 hK6 => ?_
  refine c_seq fun K7 hK7 => ?_
  refine c_region ?_
  refine o_y (v := .int .i64 (0)) rfl rfl (y_assign rfl) ?_
  refine o_nil ?_
  refine hK7 _ _ ?_
  refine c_block ?_
  refine c_loop (fun d R H => ∃ (j : Nat) (rr : List Int) (Hx : Hp), d = (planR (w1) (w2) (false) (lost)).length - (j) ∧ (j ≤ (planR (w1) (w2) (false) (lost)).length) ∧ (OwnV eInt 3 rr ap5 gp5 capp5 Hx) ∧ ((rr).length = (planR (w1) (w2) (false) (lost)).length) ∧ R 0 = .slice (a1) ((w1).length) (cap1) ∧ R 1 = .slice (a2) ((w2).length) (cap2) ∧ R 2 = .int .i64 (lost) ∧ R 7 = .slice (ap2) (0 + ((w1).length)) (capp2) ∧ R 8 = .slice (ap4) (0 + ((w2).length)) (capp4) ∧ R 9 = .pointer (some ⟨g6, 0, none⟩) ∧ R 10 = .int .i64 (planE (w1) (w2) (false) (lost)) ∧ R 11 = .int .i64 (((j : Nat) : Int)) ∧ H = ([(g6, .cells (#[.int .u8 (planW (w1) (w2) (false) (lost)), .slice (ap5) ((planR (w1) (w2) (false) (lost)).length) (capp5)]) 25 (0, 0))] ++ (Hp2 ++ (Hp4 ++ Hx)) : Hp)) ((planR (w1) (w2) (false) (lost)).length - (0)) ?_ ?_
  ·
    refine ⟨0, (planR (w1) (w2) (false) (lost)), Hp5, rfl, by omega, hvp5, rfl, rfl, rfl, rfl, rfl, rfl, rfl, rfl, (ie (a := 0) (b := ((0 : Nat) : Int)) (by omega)), rfl⟩
  ·
    rintro d1 R1 _ ⟨j, rr, Hx, hd1, hv1_0, hv1_1, hv1_2, h1_0, h1_1, h1_2, h1_7, h1_8, h1_9, h1_10, h1_11, rfl⟩
    refine c_seq fun K8 hK8 => ?_
    refine c_seq fun K9 hK9 => ?_
    refine c_region ?_
    refine o_y (v := .int .i64 (((j : Nat) : Int))) rfl rfl (y_move h1_11) ?_
    refine o_y (v := .pointer (some ⟨g6, 1, none⟩)) rfl rfl (y_fieldAddr (k := 1) h1_9 Try.underlying25 rfl rfl ⟨_, s23⟩ (by first | rfl | omega)) ?_
    refine o_y (v := .slice (ap5) ((planR (w1) (w2) (false) (lost)).length) (capp5)) rfl rfl (y_load rfl Try.underlying23 rfl (Rd.one (k := 0) rfl rfl)) ?_
    refine o_y (v := .int .i64 ((((planR (w1) (w2) (false) (lost)).length : Nat) : Int))) rfl rfl (y_len rfl Try.underlying23) ?_
    refine o_y (v := .bool (decide (((j : Nat) : Int) < (((planR (w1) (w2) (false) (lost)).length : Nat) : Int)))) rfl rfl (y_lss rfl rfl rfl) ?_
    refine o_nil ?_
    refine hK9 _ _ ?_
    refine c_cond (t := decide (((j : Nat) : Int) < (((planR (w1) (w2) (false) (lost)).length : Nat) : Int))) rfl (fun hc3 => ?_) (fun hc3 => ?_)
    ·
      replace hc3 := of_decide_eq_true hc3
      -- way LT
      refine c_skip ?_
      refine hK8 _ _ ?_
      refine c_seq fun K10 hK10 => ?_
      refine c_block ?_
      refine c_region ?_
      refine o_y (v := .pointer (some ⟨g6, 1, none⟩)) rfl rfl (y_fieldAddr (k := 1) h1_9 Try.underlying25 rfl rfl ⟨_, s23⟩ (by first | rfl | omega)) ?_
      refine o_y (v := .slice (ap5) ((planR (w1) (w2) (false) (lost)).length) (capp5)) rfl rfl (y_load rfl Try.underlying23 rfl (Rd.one (k := 0) rfl rfl)) ?_
      refine o_y (v := .int .i64 (((j : Nat) : Int))) rfl rfl (y_move h1_11) ?_
      refine o_y (v := .pointer (some ⟨gp5, 0 + j * 1, none⟩)) rfl rfl (y_ixO j (hv1_1.at_ (by first | omega | (simp; done) | (simp; omega))) rfl rfl Try.underlying23 s3 (by omega) (by first | omega | (simp; done) | (simp; omega))) ?_
      refine o_storeV (E := eInt) (u := (77)) ([(g6, .cells (#[.int .u8 (planW (w1) (w2) (false) (lost)), .slice (ap5) ((planR (w1) (w2) (false) (lost)).length) (capp5)]) 25 (0, 0))] ++ (Hp2 ++ Hp4)) (fun Hy => [(g6, .cells (#[.int .u8 (planW (w1) (w2) (false) (lost)), .slice (ap5) ((planR (w1) (w2) (false) (lost)).length) (capp5)]) 25 (0, 0))] ++ (Hp2 ++ (Hp4 ++ Hy))) (fun Hy => by have h := List.perm_append_comm (l₁ := ([(g6, .cells (#[.int .u8 (planW (w1) (w2) (false) (lost)), .slice (ap5) ((planR (w1) (w2) (false) (lost)).length) (capp5)]) 25 (0, 0))] ++ (Hp2 ++ Hp4) : Hp)) (l₂ := Hy); first | exact h | simpa [Value.cells] using h) (by have h := List.perm_append_comm_assoc ([(g6, .cells (#[.int .u8 (planW (w1) (w2) (false) (lost)), .slice (ap5) ((planR (w1) (w2) (false) (lost)).length) (capp5)]) 25 (0, 0))] ++ (Hp2 ++ Hp4) : Hp) Hx ([] : Hp); first | exact h | simpa [Value.cells] using h) hv1_1 j rfl (by show _ = _ * 1; omega) rfl rfl s3 (by first | omega | (simp; done) | (simp; omega)) fun Hp7 hvp7 => ?_
      refine o_nil ?_
      refine hK10 _ _ ?_
      refine c_region ?_
      refine o_y (v := .int .i64 (((j : Nat) : Int))) rfl rfl (y_move h1_11) ?_
      refine o_y (v := .int .i64 ((((j : Nat) : Int)) + 1)) rfl rfl (y_add rfl rfl (wi_i64 (by omega) (by omega))) ?_
      refine o_y (v := .int .i64 ((((j : Nat) : Int)) + 1)) rfl rfl (y_assign rfl) ?_
      refine o_nil ?_
      refine ⟨_, by omega, j + 1, ((rr).set j (77)), Hp7, rfl, by omega, hvp7, (by simp [hv1_2]), h1_0, h1_1, h1_2, h1_7, h1_8, h1_9, h1_10, (ie (a := (((j : Nat) : Int)) + 1) (b := ((j + 1 : Nat) : Int)) (by omega)), rfl⟩
    ·
      replace hc3 := of_decide_eq_false hc3
      -- way LF
      refine c_exit ?_
      refine hK6 _ _ ?_
      refine c_seq fun K11 hK11 => ?_
      refine c_region ?_
      refine o_y (v := .slice (ap2) (0 + ((w1).length)) (capp2)) rfl rfl (y_move h1_7) ?_
      refine o_y (v := .slice (ap4) (0 + ((w2).length)) (capp4)) rfl rfl (y_move h1_8) ?_
      refine o_y (v := .int .i64 (lost)) rfl rfl (y_move h1_2) ?_
      refine o_callV (fun Hy => [(g6, .cells (#[.int .u8 (planW (w1) (w2) (false) (lost)), .slice (ap5) ((planR (w1) (w2) (false) (lost)).length) (capp5)]) 25 (0, 0))] ++ (Hp2 ++ (Hp4 ++ (Hx ++ Hy)))) (fun Hy => by have h := List.perm_append_comm (l₁ := ([(g6, .cells (#[.int .u8 (planW (w1) (w2) (false) (lost)), .slice (ap5) ((planR (w1) (w2) (false) (lost)).length) (capp5)]) 25 (0, 0))] ++ (Hp2 ++ (Hp4 ++ Hx)) : Hp)) (l₂ := Hy); first | exact h | simpa [Value.cells] using h) (vs := [.slice (ap2) (0 + ((w1).length)) (capp2), .slice (ap4) (0 + ((w2).length)) (capp4), .bool (false), .int .i64 (lost)]) b8 rfl rfl (fun w hw => f8_Of (w1) (w2) _ _ _ _ _ _ _ _ _ _ (false) (lost) w (by omega) (by omega) (by first | rfl | (simp; done) | (simp; omega)) ((SlG.own hvp2 (fun p hp => (List.mem_cons_of_mem _ (List.mem_append_left _ hp)))) w hw) (by first | rfl | (simp; done) | (simp; omega)) ((SlG.own hvp4 (fun p hp => (List.mem_cons_of_mem _ (List.mem_append_right _ (List.mem_append_left _ hp))))) w hw)) ?_
      rintro _ Hp8 ⟨ap8, gp8, capp8, rfl, hvp8⟩
      have hzp8 := hvp8.le
      have hyp8 := hvp8.mx
      simp only [maxLen] at hyp8
      refine o_y (v := .tuple #[.agg (#[.int .u8 (planW (w1) (w2) (false) (lost)), .slice (ap8) ((planR (w1) (w2) (false) (lost)).length) (capp8)]), .int .i64 (planE (w1) (w2) (false) (lost))]) rfl rfl (y_move rfl) ?_
      refine o_y (v := .agg (#[.int .u8 (planW (w1) (w2) (false) (lost)), .slice (ap8) ((planR (w1) (w2) (false) (lost)).length) (capp8)])) rfl rfl (y_extract (vs := #[.agg (#[.int .u8 (planW (w1) (w2) (false) (lost)), .slice (ap8) ((planR (w1) (w2) (false) (lost)).length) (capp8)]), .int .i64 (planE (w1) (w2) (false) (lost))]) rfl rfl) ?_
      refine o_y (v := .int .i64 (planE (w1) (w2) (false) (lost))) rfl rfl (y_extract (vs := #[.agg (#[.int .u8 (planW (w1) (w2) (false) (lost)), .slice (ap8) ((planR (w1) (w2) (false) (lost)).length) (capp8)]), .int .i64 (planE (w1) (w2) (false) (lost))]) rfl rfl) ?_
      refine o_alloc (z := .agg (#[.int .u8 (0), .slice none 0 0])) rfl z25 fun g9 => ?_
      refine o_storeS (H' := [(g9, .cells (#[.int .u8 (planW (w1) (w2) (false) (lost)), .slice (ap8) ((planR (w1) (w2) (false) (lost)).length) (capp8)]) 25 (0, 0)), (g6, .cells (#[.int .u8 (planW (w1) (w2) (false) (lost)), .slice (ap5) ((planR (w1) (w2) (false) (lost)).length) (capp5)]) 25 (0, 0))] ++ (Hp2 ++ (Hp4 ++ (Hx ++ Hp8)))) 0 rfl rfl rfl s25 rfl (by simp [Value.oneCell']) rfl ?_
      refine o_y (v := .int .i64 (planE (w1) (w2) (false) (lost))) rfl rfl (y_assign rfl) ?_
      refine o_nil ?_
      refine hK11 _ _ ?_
      refine c_seq fun K12 hK12 => ?_
      refine c_region ?_
      refine o_y (v := .slice (a1) ((w1).length) (cap1)) rfl rfl (y_move h1_0) ?_
      refine o_y (v := .slice (a2) ((w2).length) (cap2)) rfl rfl (y_move h1_1) ?_
      refine o_y (v := .int .i64 (lost)) rfl rfl (y_move h1_2) ?_
      refine o_callV (fun Hy => [(g9, .cells (#[.int .u8 (planW (w1) (w2) (false) (lost)), .slice (ap8) ((planR (w1) (w2) (false) (lost)).length) (capp8)]) 25 (0, 0)), (g6, .cells (#[.int .u8 (planW (w1) (w2) (false) (lost)), .slice (ap5) ((planR (w1) (w2) (false) (lost)).length) (capp5)]) 25 (0, 0))] ++ (Hp2 ++ (Hp4 ++ (Hx ++ (Hp8 ++ Hy))))) (fun Hy => by have h := List.perm_append_comm (l₁ := ([(g9, .cells (#[.int .u8 (planW (w1) (w2) (false) (lost)), .slice (ap8) ((planR (w1) (w2) (false) (lost)).length) (capp8)]) 25 (0, 0)), (g6, .cells (#[.int .u8 (planW (w1) (w2) (false) (lost)), .slice (ap5) ((planR (w1) (w2) (false) (lost)).length) (capp5)]) 25 (0, 0))] ++ (Hp2 ++ (Hp4 ++ (Hx ++ Hp8))) : Hp)) (l₂ := Hy); first | exact h | simpa [Value.cells] using h) (vs := [.slice (a1) ((w1).length) (cap1), .slice (a2) ((w2).length) (cap2), .bool (false), .int .i64 (lost)]) b9 rfl rfl (fun w hw => f9_rOf (w1) (w2) _ _ _ _ _ _ _ _ _ _ (false) (lost) w (by omega) (by omega) (by first | rfl | (simp; done) | (simp; omega)) ((SlG.old hs1 (fun _ h => h)) w hw) (by first | rfl | (simp; done) | (simp; omega)) ((SlG.old hs2 (fun _ h => h)) w hw)) ?_
      rintro _ Hp10 ⟨ap10, gp10, capp10, rfl, hvp10⟩
      have hzp10 := hvp10.le
      have hyp10 := hvp10.mx
      simp only [maxLen] at hyp10
      refine o_y (v := .tuple #[.agg (#[.int .u8 (planW (w1) (w2) (false) (lost)), .slice (ap10) ((planR (w1) (w2) (false) (lost)).length) (capp10)]), .int .i64 (planE (w1) (w2) (false) (lost))]) rfl rfl (y_move rfl) ?_
      refine o_y (v := .agg (#[.int .u8 (planW (w1) (w2) (false) (lost)), .slice (ap10) ((planR (w1) (w2) (false) (lost)).length) (capp10)])) rfl rfl (y_extract (vs := #[.agg (#[.int .u8 (planW (w1) (w2) (false) (lost)), .slice (ap10) ((planR (w1) (w2) (false) (lost)).length) (capp10)]), .int .i64 (planE (w1) (w2) (false) (lost))]) rfl rfl) ?_
      refine o_y (v := .int .i64 (planE (w1) (w2) (false) (lost))) rfl rfl (y_extract (vs := #[.agg (#[.int .u8 (planW (w1) (w2) (false) (lost)), .slice (ap10) ((planR (w1) (w2) (false) (lost)).length) (capp10)]), .int .i64 (planE (w1) (w2) (false) (lost))]) rfl rfl) ?_
      refine o_alloc (z := .agg (#[.int .u8 (0), .slice none 0 0])) rfl z25 fun g11 => ?_
      refine o_storeS (H' := [(g11, .cells (#[.int .u8 (planW (w1) (w2) (false) (lost)), .slice (ap10) ((planR (w1) (w2) (false) (lost)).length) (capp10)]) 25 (0, 0)), (g9, .cells (#[.int .u8 (planW (w1) (w2) (false) (lost)), .slice (ap8) ((planR (w1) (w2) (false) (lost)).length) (capp8)]) 25 (0, 0)), (g6, .cells (#[.int .u8 (planW (w1) (w2) (false) (lost)), .slice (ap5) ((planR (w1) (w2) (false) (lost)).length) (capp5)]) 25 (0, 0))] ++ (Hp2 ++ (Hp4 ++ (Hx ++ (Hp8 ++ Hp10))))) 0 rfl rfl rfl s25 rfl (by simp [Value.oneCell']) rfl ?_
      refine o_y (v := .int .i64 (planE (w1) (w2) (false) (lost))) rfl rfl (y_assign rfl) ?_
      refine o_nil ?_
      refine hK12 _ _ ?_
      refine c_seq fun K13 hK13 => ?_
      refine c_seq fun K14 hK14 => ?_
      refine c_region ?_
      refine o_y (v := .int .i64 (0)) rfl rfl (y_assign rfl) ?_
      refine o_nil ?_
      refine hK14 _ _ ?_
      refine c_block ?_
      refine c_loop (fun d R H => ∃ (j : Nat), d = w1.length - (j) ∧ (j ≤ w1.length) ∧ R 0 = .slice (a1) ((w1).length) (cap1) ∧ R 1 = .slice (a2) ((w2).length) (cap2) ∧ R 2 = .int .i64 (lost) ∧ R 7 = .slice (ap2) (0 + ((w1).length)) (capp2) ∧ R 8 = .slice (ap4) (0 + ((w2).length)) (capp4) ∧ R 10 = .int .i64 (planE (w1) (w2) (false) (lost)) ∧ R 12 = .pointer (some ⟨g9, 0, none⟩) ∧ R 13 = .int .i64 (planE (w1) (w2) (false) (lost)) ∧ R 14 = .pointer (some ⟨g11, 0, none⟩) ∧ R 15 = .int .i64 (planE (w1) (w2) (false) (lost)) ∧ R 16 = .int .i64 (((j : Nat) : Int)) ∧ H = ([(g11, .cells (#[.int .u8 (planW (w1) (w2) (false) (lost)), .slice (ap10) ((planR (w1) (w2) (false) (lost)).length) (capp10)]) 25 (0, 0)), (g9, .cells (#[.int .u8 (planW (w1) (w2) (false) (lost)), .slice (ap8) ((planR (w1) (w2) (false) (lost)).length) (capp8)]) 25 (0, 0)), (g6, .cells (#[.int .u8 (planW (w1) (w2) (false) (lost)), .slice (ap5) ((planR (w1) (w2) (false) (lost)).length) (capp5)]) 25 (0, 0))] ++ (Hp2 ++ (Hp4 ++ (Hx ++ (Hp8 ++ Hp10)))) : Hp)) (w1.length - (0)) ?_ ?_
      ·
        refine ⟨0, rfl, by omega, h1_0, h1_1, h1_2, h1_7, h1_8, h1_10, rfl, rfl, rfl, rfl, (ie (a := 0) (b := ((0 : Nat) : Int)) (by omega)), rfl⟩
      ·
        rintro d2 R2 _ ⟨j, hd2, hv2_0, h2_0, h2_1, h2_2, h2_7, h2_8, h2_10, h2_12, h2_13, h2_14, h2_15, h2_16, rfl⟩
        refine c_seq fun K15 hK15 => ?_
        refine c_seq fun K16 hK16 => ?_
        refine c_region ?_
        refine o_y (v := .int .i64 (((j : Nat) : Int))) rfl rfl (y_move h2_16) ?_
        refine o_y (v := .slice (ap2) (0 + ((w1).length)) (capp2)) rfl rfl (y_move h2_7) ?_
        refine o_y (v := .int .i64 (((0 + ((w1).length) : Nat) : Int))) rfl rfl (y_len rfl Try.underlying22) ?_
        refine o_y (v := .bool (decide (((j : Nat) : Int) < ((0 + ((w1).length) : Nat) : Int)))) rfl rfl (y_lss rfl rfl rfl) ?_
        refine o_nil ?_
        refine hK16 _ _ ?_
        refine c_cond (t := decide (((j : Nat) : Int) < ((0 + ((w1).length) : Nat) : Int))) rfl (fun hc4 => ?_) (fun hc4 => ?_)
        ·
          replace hc4 := of_decide_eq_true hc4
          -- way LFLT
          refine c_skip ?_
          refine hK15 _ _ ?_
          refine c_seq fun K17 hK17 => ?_
          refine c_block ?_
          refine c_seq fun K18 hK18 => ?_
          refine c_draw 9 (by kernel_rfl) (by kernel_rfl) ?_
          refine q_y (v := .slice (ap2) (0 + ((w1).length)) (capp2)) rfl (y_move h2_7) ?_
          refine q_y (v := .int .i64 (((j : Nat) : Int))) rfl (y_move h2_16) ?_
          refine q_y (v := .pointer (some ⟨gp2, 0 + j * 1, none⟩)) rfl (y_ixO j (hvp2.at_ (by first | omega | (simp; done) | (simp; omega))) rfl rfl Try.underlying22 s4 (by omega) (by first | omega | (simp; done) | (simp; omega))) ?_
          refine q_y (v := .bool ((w1)[j])) rfl (y_load rfl Try.underlying4 rfl (SlG.rd (SlG.own hvp2 (fun p hp => (List.mem_cons_of_mem _ (List.mem_cons_of_mem _ (List.mem_cons_of_mem _ (List.mem_append_left _ hp)))))) j (by first | omega | (simp; done) | (simp; omega)))) ?_
          refine q_y (v := .slice (a1) ((w1).length) (cap1)) rfl (y_move h2_0) ?_
          refine q_y (v := .int .i64 (((j : Nat) : Int))) rfl (y_move h2_16) ?_
          refine q_y (v := .pointer (some ⟨b1, o1 + j * 1, none⟩)) rfl (y_ixO j (hs1.at_ (by omega)) rfl rfl Try.underlying22 s4 (by omega) (by first | omega | (simp; done) | (simp; omega))) ?_
          refine q_y (v := .bool ((w1)[j])) rfl (y_load rfl Try.underlying4 rfl (SlG.rd (SlG.old hs1 (fun _ h => h)) j (by first | omega | (simp; done) | (simp; omega)))) ?_
          refine q_y (v := .bool (false)) rfl (y_bool (y_neqB rfl rfl Try.underlying4 rfl) (by simp)) ?_
          refine q_nil ?_
          refine o_nil ?_
          refine hK18 _ _ ?_
          refine c_cond (t := false) rfl (fun h => by cases h) (fun _ => ?_)
          refine c_skip ?_
          refine hK17 _ _ ?_
          refine c_region ?_
          refine o_y (v := .int .i64 (((j : Nat) : Int))) rfl rfl (y_move h2_16) ?_
          refine o_y (v := .int .i64 ((((j : Nat) : Int)) + 1)) rfl rfl (y_add rfl rfl (wi_i64 (by omega) (by omega))) ?_
          refine o_y (v := .int .i64 ((((j : Nat) : Int)) + 1)) rfl rfl (y_assign rfl) ?_
          refine o_nil ?_
          refine ⟨_, by omega, j + 1, rfl, by omega, h2_0, h2_1, h2_2, h2_7, h2_8, h2_10, h2_12, h2_13, h2_14, h2_15, (ie (a := (((j : Nat) : Int)) + 1) (b := ((j + 1 : Nat) : Int)) (by omega)), rfl⟩
        ·
          replace hc4 := of_decide_eq_false hc4
          -- way LFLF
          refine c_exit ?_
          refine hK13 _ _ ?_
          refine c_seq fun K19 hK19 => ?_
          refine c_seq fun K20 hK20 => ?_
          refine c_region ?_
          refine o_y (v := .int .i64 (0)) rfl rfl (y_assign rfl) ?_
          refine o_nil ?_
          refine hK20 _ _ ?_
          refine c_block ?_
          refine c_loop (fun d R H => ∃ (k : Nat), d = w2.length - (k) ∧ (k ≤ w2.length) ∧ R 0 = .slice (a1) ((w1).length) (cap1) ∧ R 1 = .slice (a2) ((w2).length) (cap2) ∧ R 2 = .int .i64 (lost) ∧ R 7 = .slice (ap2) (0 + ((w1).length)) (capp2) ∧ R 8 = .slice (ap4) (0 + ((w2).length)) (capp4) ∧ R 10 = .int .i64 (planE (w1) (w2) (false) (lost)) ∧ R 12 = .pointer (some ⟨g9, 0, none⟩) ∧ R 13 = .int .i64 (planE (w1) (w2) (false) (lost)) ∧ R 14 = .pointer (some ⟨g11, 0, none⟩) ∧ R 15 = .int .i64 (planE (w1) (w2) (false) (lost)) ∧ R 17 = .int .i64 (((k : Nat) : Int)) ∧ H = ([(g11, .cells (#[.int .u8 (planW (w1) (w2) (false) (lost)), .slice (ap10) ((planR (w1) (w2) (false) (lost)).length) (capp10)]) 25 (0, 0)), (g9, .cells (#[.int .u8 (planW (w1) (w2) (false) (lost)), .slice (ap8) ((planR (w1) (w2) (false) (lost)).length) (capp8)]) 25 (0, 0)), (g6, .cells (#[.int .u8 (planW (w1) (w2) (false) (lost)), .slice (ap5) ((planR (w1) (w2) (false) (lost)).length) (capp5)]) 25 (0, 0))] ++ (Hp2 ++ (Hp4 ++ (Hx ++ (Hp8 ++ Hp10)))) : Hp)) (w2.length - (0)) ?_ ?_
          ·
            refine ⟨0, rfl, by omega, h2_0, h2_1, h2_2, h2_7, h2_8, h2_10, h2_12, h2_13, h2_14, h2_15, (ie (a := 0) (b := ((0 : Nat) : Int)) (by omega)), rfl⟩
          ·
            rintro d3 R3 _ ⟨k, hd3, hv3_0, h3_0, h3_1, h3_2, h3_7, h3_8, h3_10, h3_12, h3_13, h3_14, h3_15, h3_17, rfl⟩
            refine c_seq fun K21 hK21 => ?_
            refine c_seq fun K22 hK22 => ?_
            refine c_region ?_
            refine o_y (v := .int .i64 (((k : Nat) : Int))) rfl rfl (y_move h3_17) ?_
            refine o_y (v := .slice (ap4) (0 + ((w2).length)) (capp4)) rfl rfl (y_move h3_8) ?_
            refine o_y (v := .int .i64 (((0 + ((w2).length) : Nat) : Int))) rfl rfl (y_len rfl Try.underlying22) ?_
            refine o_y (v := .bool (decide (((k : Nat) : Int) < ((0 + ((w2).length) : Nat) : Int)))) rfl rfl (y_lss rfl rfl rfl) ?_
            refine o_nil ?_
            refine hK22 _ _ ?_
            refine c_cond (t := decide (((k : Nat) : Int) < ((0 + ((w2).length) : Nat) : Int))) rfl (fun hc5 => ?_) (fun hc5 => ?_)
            ·
              replace hc5 := of_decide_eq_true hc5
              -- way LFLFLT
              refine c_skip ?_
              refine hK21 _ _ ?_
              refine c_seq fun K23 hK23 => ?_
              refine c_block ?_
              refine c_seq fun K24 hK24 => ?_
              refine c_draw 9 (by kernel_rfl) (by kernel_rfl) ?_
              refine q_y (v := .slice (ap4) (0 + ((w2).length)) (capp4)) rfl (y_move h3_8) ?_
              refine q_y (v := .int .i64 (((k : Nat) : Int))) rfl (y_move h3_17) ?_
              refine q_y (v := .pointer (some ⟨gp4, 0 + k * 1, none⟩)) rfl (y_ixO k (hvp4.at_ (by first | omega | (simp; done) | (simp; omega))) rfl rfl Try.underlying22 s4 (by omega) (by first | omega | (simp; done) | (simp; omega))) ?_
              refine q_y (v := .bool ((w2)[k])) rfl (y_load rfl Try.underlying4 rfl (SlG.rd (SlG.own hvp4 (fun p hp => (List.mem_cons_of_mem _ (List.mem_cons_of_mem _ (List.mem_cons_of_mem _ (List.mem_append_right _ (List.mem_append_left _ hp))))))) k (by first | omega | (simp; done) | (simp; omega)))) ?_
              refine q_y (v := .slice (a2) ((w2).length) (cap2)) rfl (y_move h3_1) ?_
              refine q_y (v := .int .i64 (((k : Nat) : Int))) rfl (y_move h3_17) ?_
              refine q_y (v := .pointer (some ⟨b2, o2 + k * 1, none⟩)) rfl (y_ixO k (hs2.at_ (by omega)) rfl rfl Try.underlying22 s4 (by omega) (by first | omega | (simp; done) | (simp; omega))) ?_
              refine q_y (v := .bool ((w2)[k])) rfl (y_load rfl Try.underlying4 rfl (SlG.rd (SlG.old hs2 (fun _ h => h)) k (by first | omega | (simp; done) | (simp; omega)))) ?_
              refine q_y (v := .bool (false)) rfl (y_bool (y_neqB rfl rfl Try.underlying4 rfl) (by simp)) ?_
              refine q_nil ?_
              refine o_nil ?_
              refine hK24 _ _ ?_
              refine c_cond (t := false) rfl (fun h => by cases h) (fun _ => ?_)
              refine c_skip ?_
              refine hK23 _ _ ?_
              refine c_region ?_
              refine o_y (v := .int .i64 (((k : Nat) : Int))) rfl rfl (y_move h3_17) ?_
              refine o_y (v := .int .i64 ((((k : Nat) : Int)) + 1)) rfl rfl (y_add rfl rfl (wi_i64 (by omega) (by omega))) ?_
              refine o_y (v := .int .i64 ((((k : Nat) : Int)) + 1)) rfl rfl (y_assign rfl) ?_
              refine o_nil ?_
              refine ⟨_, by omega, k + 1, rfl, by omega, h3_0, h3_1, h3_2, h3_7, h3_8, h3_10, h3_12, h3_13, h3_14, h3_15, (ie (a := (((k : Nat) : Int)) + 1) (b := ((k + 1 : Nat) : Int)) (by omega)), rfl⟩
            ·
              replace hc5 := of_decide_eq_false hc5
              -- way LFLFLF
              refine c_exit ?_
              refine hK19 _ _ ?_
              refine c_seq fun K25 hK25 => ?_
              refine c_region ?_
              refine o_y (v := .int .i64 (planE (w1) (w2) (false) (lost))) rfl rfl (y_move h3_10) ?_
              refine o_y (v := .int .i64 (planE (w1) (w2) (false) (lost))) rfl rfl (y_move h3_13) ?_
              refine o_y (v := .bool (true)) rfl rfl (y_bool (y_eql rfl rfl rfl) (by simp)) ?_
              refine o_y (v := .bool (true)) rfl rfl (y_move rfl) ?_
              refine o_guard (j := 3) (d := 89) (b := true) rfl rfl rfl (fun _ => ?_) rfl (fun h => by cases h)
              refine o_y (v := .int .i64 (planE (w1) (w2) (false) (lost))) rfl rfl (y_move h3_13) ?_
              refine o_guard (j := 3) (d := 89) (b := true) rfl rfl rfl (fun _ => ?_) rfl (fun h => by cases h)
              refine o_y (v := .int .i64 (planE (w1) (w2) (false) (lost))) rfl rfl (y_move h3_15) ?_
              refine o_guard (j := 3) (d := 89) (b := true) rfl rfl rfl (fun _ => ?_) rfl (fun h => by cases h)
              refine o_y (v := .bool (true)) rfl rfl (y_bool (y_eql rfl rfl rfl) (by simp)) ?_
              refine o_y (v := .bool (true)) rfl rfl (y_pick (b := true) rfl rfl) ?_
              refine o_y (v := .bool (true)) rfl rfl (y_move rfl) ?_
              refine o_guard (j := 8) (d := 94) (b := true) rfl rfl rfl (fun _ => ?_) rfl (fun h => by cases h)
              refine o_y (v := .agg (#[.int .u8 (planW (w1) (w2) (false) (lost)), .slice (ap8) ((planR (w1) (w2) (false) (lost)).length) (capp8)])) rfl rfl (y_loadS h3_12 Try.underlying25 rfl s25 (Rd.whole (k := 1) rfl)) ?_
              refine o_guard (j := 8) (d := 94) (b := true) rfl rfl rfl (fun _ => ?_) rfl (fun h => by cases h)
              refine o_y (v := .agg (#[.int .u8 (planW (w1) (w2) (false) (lost)), .slice (ap10) ((planR (w1) (w2) (false) (lost)).length) (capp10)])) rfl rfl (y_loadS h3_14 Try.underlying25 rfl s25 (Rd.whole (k := 0) rfl)) ?_
              refine o_guard (j := 8) (d := 94) (b := true) rfl rfl rfl (fun _ => ?_) rfl (fun h => by cases h)
              refine o_y (v := .bool (true)) rfl rfl (y_bool (y_call (vs := [.agg (#[.int .u8 (planW (w1) (w2) (false) (lost)), .slice (ap8) ((planR (w1) (w2) (false) (lost)).length) (capp8)]), .agg (#[.int .u8 (planW (w1) (w2) (false) (lost)), .slice (ap10) ((planR (w1) (w2) (false) (lost)).length) (capp10)])]) b10 rfl (fun w hw => f10_Same (planW (w1) (w2) (false) (lost)) (planW (w1) (w2) (false) (lost)) (planR (w1) (w2) (false) (lost)) (planR (w1) (w2) (false) (lost)) _ _ _ _ _ _ _ _ _ _ w (by first | rfl | (simp; done) | (simp; omega)) ((SlG.own hvp8 (fun p hp => (List.mem_cons_of_mem _ (List.mem_cons_of_mem _ (List.mem_cons_of_mem _ (List.mem_append_right _ (List.mem_append_right _ (List.mem_append_right _ (List.mem_append_left _ hp))))))))) w hw) (by first | rfl | (simp; done) | (simp; omega)) ((SlG.own hvp10 (fun p hp => (List.mem_cons_of_mem _ (List.mem_cons_of_mem _ (List.mem_cons_of_mem _ (List.mem_append_right _ (List.mem_append_right _ (List.mem_append_right _ (List.mem_append_right _ hp))))))))) w hw))) (by simp)) ?_
              refine o_y (v := .bool (true)) rfl rfl (y_pick (b := true) rfl rfl) ?_
              refine o_y (v := .bool (true)) rfl rfl (y_move rfl) ?_
              refine o_guard (j := 13) (d := 99) (b := true) rfl rfl rfl (fun _ => ?_) rfl (fun h => by cases h)
              refine o_y (v := .bool (true)) rfl rfl (y_call (vs := []) b11 rfl (fun w hw => f11_lives w)) ?_
              refine o_y (v := .bool (true)) rfl rfl (y_pick (b := true) rfl rfl) ?_
              refine o_y (v := .bool (true)) rfl rfl (y_assign rfl) ?_
              refine o_nil ?_
              refine hK25 _ _ ?_
              refine c_ret ?_
              refine fun w hw => ⟨[.bool (true)], ⟨rfl, trivial⟩, ?_⟩
              exact rfl

end Go.Proofs.Ytdekckpoolkgnaa.Plan
