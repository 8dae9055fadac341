/- Proved: what a law of package lru comes to; the conditions stand in the statements. -/
import Derived.Test.YtpbpenlceigddaaLruH
import Derived.Test.YtpbpenlceigddaaLruLastP
set_option linter.unusedVariables false
set_option linter.unusedSimpArgs false
set_option linter.unnecessarySimpa false
namespace Go.Proofs.Ytpbpenlceigddaa.Lru
open Go Go.RowKit Go.Proofs.Ytpbpenlceigddaa.Eng

set_option maxRecDepth 100000 in
set_option maxHeartbeats 4000000 in
theorem f3_LruLast (rm : Int) (l : List Int) (a1 : Option Addr) (b1 o1 cap1 m1 : Nat) (w : World) (hr0 : 0 ≤ rm) (hr1 : rm ≤ 255) (hm1 : m1 = l.length) (hs : Sl eInt w l a1 b1 o1 cap1) :
    Calls Try.prog 3 [.int .u8 (rm), .slice (a1) (m1) (cap1)].toArray w fun e w' => e = .returned (.bool (true)) ∧ Below w.heap.size w w' := by
  subst hm1
  have hle := hs.le
  have hmx := hs.mx
  simp only [maxLen] at hmx
  obtain ⟨n, hn⟩ : ∃ n : Nat, 1 + (rm) % 64 = ((n : Nat) : Int) := ⟨(1 + (rm) % 64).toNat, by omega⟩
  have hn1 : 1 ≤ n ∧ n ≤ 64 := by omega
  obtain ⟨N, hN, hNl0, hN2⟩ : ∃ N : Nat, min (((l.length : Nat) : Int)) 200 = ((N : Nat) : Int) ∧ N ≤ l.length ∧ N ≤ 200 := ⟨min l.length 200, by omega, by omega, by omega⟩
  have hNl : ((l).take N).length = N := by rw [List.length_take]; omega
  refine (calls_of (P := Try.prog) (n := 97) (w0 := w) (S := fun _ => False) (H := []) (T := fun v _ => v = (.bool (true))) Try.func3 rfl Try.ntmps3 (Nat.le_of_ble_eq_true rfl) [.tmp 4] rfl (St.nil w _) ?_).mono fun e w' ⟨v, H', he, hs, hT⟩ => ⟨by rw [he, hT], hs.below⟩
  refine c_seq fun K1 hK1 => ?_
  refine c_region ?_
  refine o_y (v := .bool (false)) rfl rfl (y_assign rfl) ?_
  refine o_nil ?_
  refine hK1 _ _ ?_
  refine c_seq fun K2 hK2 => ?_
  refine c_region ?_
  refine o_y (v := .int .u8 (rm)) rfl rfl (y_move rfl) ?_
  refine o_y (v := .int .i64 (rm)) rfl rfl (y_conv rfl Try.underlying5 Try.underlying3 (wi_i64 (by omega) (by omega))) ?_
  refine o_y (v := .int .i64 ((rm) % 64)) rfl rfl (y_rem rfl rfl (by decide) (Int.tmod_eq_emod_of_nonneg (by omega))) ?_
  refine o_y (v := .int .i64 (((n : Nat) : Int))) rfl rfl (y_as (y_add rfl rfl (wi_i64 (by omega) (by omega))) (ie hn)) ?_
  refine o_y (v := .int .i64 (((n : Nat) : Int))) rfl rfl (y_assign rfl) ?_
  refine o_nil ?_
  refine hK2 _ _ ?_
  refine c_seq fun K3 hK3 => ?_
  refine c_region ?_
  refine o_y (v := .int .i64 (((n : Nat) : Int))) rfl rfl (y_move rfl) ?_
  refine o_callV (fun Hy => (Hy)) (fun Hy => by have h := List.perm_append_comm (l₁ := ([] : Hp)) (l₂ := Hy); first | exact h | simpa [Value.cells] using h) (vs := [.int .i64 (((n : Nat) : Int))]) b8 rfl rfl (fun w hw => L_new (((n : Nat) : Int)) w (by omega) (by omega)) ?_
  rintro _ Hp2 ⟨g1, rfl, hLp2⟩
  refine o_y (v := .tuple #[.pointer (some ⟨g1, 0, none⟩), .int .i64 (0)]) rfl rfl (y_move rfl) ?_
  refine o_y (v := .pointer (some ⟨g1, 0, none⟩)) rfl rfl (y_extract (vs := #[.pointer (some ⟨g1, 0, none⟩), .int .i64 (0)]) rfl rfl) ?_
  refine o_y (v := .int .i64 (0)) rfl rfl (y_extract (vs := #[.pointer (some ⟨g1, 0, none⟩), .int .i64 (0)]) rfl rfl) ?_
  refine o_y (v := .pointer (some ⟨g1, 0, none⟩)) rfl rfl (y_assign rfl) ?_
  refine o_y (v := .int .i64 (0)) rfl rfl (y_assign rfl) ?_
  refine o_nil ?_
  refine hK3 _ _ ?_
  refine c_seq fun K4 hK4 => ?_
  refine c_seq fun K5 hK5 => ?_
  refine c_region ?_
  refine o_y (v := .int .i64 (0)) rfl rfl (y_move rfl) ?_
  refine o_y (v := .bool (false)) rfl rfl (y_neq rfl rfl (by decide)) ?_
  refine o_nil ?_
  refine hK5 _ _ ?_
  refine c_cond (t := false) rfl (fun h => by cases h) (fun _ => ?_)
  refine c_skip ?_
  refine hK4 _ _ ?_
  refine c_seq fun K6 hK6 => ?_
  refine c_region ?_
  refine o_y (v := .slice (a1) ((l).length) (cap1)) rfl rfl (y_move rfl) ?_
  refine o_y (v := .slice (a1) ((l).length) (cap1)) rfl rfl (y_move rfl) ?_
  refine o_y (v := .int .i64 ((((l).length : Nat) : Int))) rfl rfl (y_len rfl Try.underlying22) ?_
  refine o_y (v := .int .i64 (((N : Nat) : Int))) rfl rfl (y_as (y_min rfl rfl rfl) (ie hN)) ?_
  refine o_y (v := .slice (a1) (N) (cap1)) rfl rfl (y_partL (sz := 1) N rfl Try.underlying22 s3 ⟨_, rfl⟩ (by first | omega | (simp; done) | (simp; omega))) ?_
  refine o_y (v := .slice (a1) (N) (cap1)) rfl rfl (y_assign rfl) ?_
  refine o_nil ?_
  refine hK6 _ _ ?_
  refine c_seq fun K7 hK7 => ?_
  refine c_seq fun K8 hK8 => ?_
  refine c_region ?_
  refine o_y (v := .int .i64 (0)) rfl rfl (y_assign rfl) ?_
  refine o_nil ?_
  refine hK8 _ _ ?_
  refine c_block ?_
  refine c_loop (fun d R H => ∃ (j : Nat) (HL : Hp), d = N - (j) ∧ (j ≤ N) ∧ (ListS g1 (((n : Nat) : Int)) (tAll n ((l).take N) (j)) (HL)) ∧ R 1 = .slice (a1) (N) (cap1) ∧ R 5 = .int .i64 (((n : Nat) : Int)) ∧ R 6 = .pointer (some ⟨g1, 0, none⟩) ∧ R 8 = .int .i64 (((j : Nat) : Int)) ∧ H = ((HL) : Hp)) (N - (0)) ?_ ?_
  ·
    refine ⟨0, Hp2, rfl, by omega, hLp2, rfl, rfl, rfl, (ie (a := 0) (b := ((0 : Nat) : Int)) (by omega)), rfl⟩
  ·
    rintro d1 R1 HL ⟨j, _, hd1, hv1_0, hv1_1, h1_1, h1_5, h1_6, h1_8, rfl⟩
    refine c_seq fun K9 hK9 => ?_
    refine c_seq fun K10 hK10 => ?_
    refine c_region ?_
    refine o_y (v := .int .i64 (((j : Nat) : Int))) rfl rfl (y_move h1_8) ?_
    refine o_y (v := .slice (a1) (N) (cap1)) rfl rfl (y_move h1_1) ?_
    refine o_y (v := .int .i64 (((N : Nat) : Int))) rfl rfl (y_len rfl Try.underlying22) ?_
    refine o_y (v := .bool (decide (((j : Nat) : Int) < ((N : Nat) : Int)))) rfl rfl (y_lss rfl rfl rfl) ?_
    refine o_nil ?_
    refine hK10 _ _ ?_
    refine c_cond (t := decide (((j : Nat) : Int) < ((N : Nat) : Int))) rfl (fun hc1 => ?_) (fun hc1 => ?_)
    ·
      replace hc1 := of_decide_eq_true hc1
      -- way LT
      obtain ⟨xj, hxj⟩ : ∃ x, (((l).take N))[j]? = some x := ⟨_, List.getElem?_eq_getElem (by omega)⟩
      refine c_skip ?_
      refine hK9 _ _ ?_
      refine c_seq fun K11 hK11 => ?_
      refine c_block ?_
      refine c_seq fun K12 hK12 => ?_
      refine c_region ?_
      refine o_y (v := .pointer (some ⟨g1, 0, none⟩)) rfl rfl (y_move h1_6) ?_
      refine o_y (v := .slice (a1) (N) (cap1)) rfl rfl (y_move h1_1) ?_
      refine o_y (v := .int .i64 (((j : Nat) : Int))) rfl rfl (y_move h1_8) ?_
      refine o_y (v := .pointer (some ⟨b1, o1 + j * 1, none⟩)) rfl rfl (y_ixO j (hs.at_ (by omega)) rfl rfl Try.underlying22 s3 (by omega) (by first | omega | (simp; done) | (simp; omega))) ?_
      refine o_y (v := .int .i64 (xj)) rfl rfl (y_load rfl Try.underlying3 rfl (SlG.rd' (SlG.first (SlG.old hs (fun _ h => h)) N) hxj)) ?_
      refine o_callS ((HL)) ([]) (by first | exact List.Perm.refl _ | (simp only [List.append_nil]; first | done | exact List.Perm.refl _)) (vs := [.pointer (some ⟨g1, 0, none⟩), .int .i64 (xj)]) b9 rfl rfl (fun w hat => L_touch hv1_1 (xj) w hat) ?_
      rintro _ HLp3 ⟨rfl, hLp3⟩
      refine o_perm (H' := (HLp3)) (by first | exact List.Perm.refl _ | (simp only [List.append_nil]; first | done | exact List.Perm.refl _)) ?_
      rw [show touchK (((n : Nat) : Int)) (tAll n ((l).take N) (j)) (xj) = tAll n ((l).take N) (j + 1) from (tAll_s hxj)] at hLp3
      refine o_y (v := .tuple #[.int .i64 ((touchO (((n : Nat) : Int)) (tAll n ((l).take N) (j)) (xj)).1), .bool ((touchO (((n : Nat) : Int)) (tAll n ((l).take N) (j)) (xj)).2.1), .int .i64 ((touchO (((n : Nat) : Int)) (tAll n ((l).take N) (j)) (xj)).2.2)]) rfl rfl (y_move rfl) ?_
      refine o_y (v := .int .i64 ((touchO (((n : Nat) : Int)) (tAll n ((l).take N) (j)) (xj)).1)) rfl rfl (y_extract (vs := #[.int .i64 ((touchO (((n : Nat) : Int)) (tAll n ((l).take N) (j)) (xj)).1), .bool ((touchO (((n : Nat) : Int)) (tAll n ((l).take N) (j)) (xj)).2.1), .int .i64 ((touchO (((n : Nat) : Int)) (tAll n ((l).take N) (j)) (xj)).2.2)]) rfl rfl) ?_
      refine o_y (v := .bool ((touchO (((n : Nat) : Int)) (tAll n ((l).take N) (j)) (xj)).2.1)) rfl rfl (y_extract (vs := #[.int .i64 ((touchO (((n : Nat) : Int)) (tAll n ((l).take N) (j)) (xj)).1), .bool ((touchO (((n : Nat) : Int)) (tAll n ((l).take N) (j)) (xj)).2.1), .int .i64 ((touchO (((n : Nat) : Int)) (tAll n ((l).take N) (j)) (xj)).2.2)]) rfl rfl) ?_
      refine o_y (v := .int .i64 ((touchO (((n : Nat) : Int)) (tAll n ((l).take N) (j)) (xj)).2.2)) rfl rfl (y_extract (vs := #[.int .i64 ((touchO (((n : Nat) : Int)) (tAll n ((l).take N) (j)) (xj)).1), .bool ((touchO (((n : Nat) : Int)) (tAll n ((l).take N) (j)) (xj)).2.1), .int .i64 ((touchO (((n : Nat) : Int)) (tAll n ((l).take N) (j)) (xj)).2.2)]) rfl rfl) ?_
      refine o_y (v := .int .i64 ((touchO (((n : Nat) : Int)) (tAll n ((l).take N) (j)) (xj)).1)) rfl rfl (y_assign rfl) ?_
      refine o_y (v := .bool ((touchO (((n : Nat) : Int)) (tAll n ((l).take N) (j)) (xj)).2.1)) rfl rfl (y_assign rfl) ?_
      refine o_y (v := .int .i64 ((touchO (((n : Nat) : Int)) (tAll n ((l).take N) (j)) (xj)).2.2)) rfl rfl (y_assign rfl) ?_
      refine o_nil ?_
      refine hK12 _ _ ?_
      refine c_seq fun K13 hK13 => ?_
      refine c_region ?_
      refine o_y (v := .int .i64 ((touchO (((n : Nat) : Int)) (tAll n ((l).take N) (j)) (xj)).2.2)) rfl rfl (y_move rfl) ?_
      refine o_y (v := .bool (false)) rfl rfl (y_bool (y_neq rfl rfl rfl) (decide_eq_false (fun h => h (free_touch (tAll_free hn1.1 _ _) hn1.1 xj).1))) ?_
      refine o_nil ?_
      refine hK13 _ _ ?_
      refine c_cond (t := false) rfl (fun h => by cases h) (fun _ => ?_)
      refine c_skip ?_
      refine hK11 _ _ ?_
      refine c_region ?_
      refine o_y (v := .int .i64 (((j : Nat) : Int))) rfl rfl (y_move h1_8) ?_
      refine o_y (v := .int .i64 ((((j : Nat) : Int)) + 1)) rfl rfl (y_add rfl rfl (wi_i64 (by omega) (by omega))) ?_
      refine o_y (v := .int .i64 ((((j : Nat) : Int)) + 1)) rfl rfl (y_assign rfl) ?_
      refine o_nil ?_
      refine ⟨_, by omega, j + 1, HLp3, rfl, by omega, hLp3, h1_1, h1_5, h1_6, (ie (a := (((j : Nat) : Int)) + 1) (b := ((j + 1 : Nat) : Int)) (by omega)), rfl⟩
    ·
      replace hc1 := of_decide_eq_false hc1
      -- way LF
      have hjn : j = N := by omega
      rw [hjn] at hv1_1
      refine c_exit ?_
      refine hK7 _ _ ?_
      refine c_seq fun K14 hK14 => ?_
      refine c_region ?_
      refine o_y (v := .slice none 0 0) rfl rfl (y_assign rfl) ?_
      refine o_nil ?_
      refine hK14 _ _ ?_
      refine c_seq fun K15 hK15 => ?_
      refine c_seq fun K16 hK16 => ?_
      refine c_region ?_
      refine o_y (v := .slice (a1) (N) (cap1)) rfl rfl (y_move h1_1) ?_
      refine o_y (v := .int .i64 (((N : Nat) : Int))) rfl rfl (y_len rfl Try.underlying22) ?_
      refine o_y (v := .int .i64 ((((N : Nat) : Int)) - 1)) rfl rfl (y_sub rfl rfl (wi_i64 (by omega) (by omega))) ?_
      refine o_y (v := .int .i64 ((((N : Nat) : Int)) - 1)) rfl rfl (y_assign rfl) ?_
      refine o_nil ?_
      refine hK16 _ _ ?_
      refine c_block ?_
      refine c_loop (fun d R H => ∃ (c : Nat) (a : Option Addr) (g2 : Nat) (cap : Nat) (Hx : Hp), d = N - (c) ∧ (c ≤ N) ∧ (OwnV eInt 3 (Wt ((l).take N) (c)) a g2 cap Hx) ∧ ((Wt ((l).take N) (c)).length ≤ n) ∧ R 1 = .slice (a1) (N) (cap1) ∧ R 5 = .int .i64 (((n : Nat) : Int)) ∧ R 6 = .pointer (some ⟨g1, 0, none⟩) ∧ R 13 = .int .i64 (((N : Nat) : Int) - 1 - ((c : Nat) : Int)) ∧ R 12 = .slice (a) ((Wt ((l).take N) (c)).length) (cap) ∧ H = ((HL ++ Hx) : Hp)) (N - (0)) ?_ ?_
      ·
        refine ⟨0, none, 0, 0, [], rfl, by omega, (by rw [Wt_0]; exact OwnV.none'), (by rw [Wt_0]; exact Nat.zero_le _), h1_1, h1_5, h1_6, (ie (a := (((N : Nat) : Int)) - 1) (b := ((N : Nat) : Int) - 1 - ((0 : Nat) : Int)) (by omega)), (by rw [Wt_0]; rfl), ?_⟩
        simp; first | done | rfl
      ·
        rintro d2 R2 _ ⟨c, a, g2, cap, Hx, hd2, hv2_0, hv2_1, hv2_2, h2_1, h2_5, h2_6, h2_13, h2_12, rfl⟩
        have hcl := Wt_len ((l).take N) c
        have hol := hv2_1.le
        have hom := hv2_1.mx
        simp only [maxLen] at hom
        refine c_seq fun K17 hK17 => ?_
        refine c_seq fun K18 hK18 => ?_
        refine c_region ?_
        refine o_y (v := .int .i64 (((N : Nat) : Int) - 1 - ((c : Nat) : Int))) rfl rfl (y_move h2_13) ?_
        refine o_y (v := .bool (decide (0 ≤ ((N : Nat) : Int) - 1 - ((c : Nat) : Int)))) rfl rfl (y_geq rfl rfl rfl) ?_
        refine o_y (v := .bool (decide (0 ≤ ((N : Nat) : Int) - 1 - ((c : Nat) : Int)))) rfl rfl (y_move rfl) ?_
        cases hc2 : (decide (0 ≤ ((N : Nat) : Int) - 1 - ((c : Nat) : Int)) : Bool)
        ·
          have hc2' := of_decide_eq_false hc2
          -- way LFLF
          have hend := Wt_end (L := ((l).take N)) hn1.1 hv2_2 (by omega)
          rw [hNl] at hend
          refine o_guard (j := 2) (d := 55) (b := false) rfl rfl rfl (fun h => by cases h) rfl (fun _ => ?_)
          refine o_guard (j := 2) (d := 55) (b := false) rfl rfl rfl (fun h => by cases h) rfl (fun _ => ?_)
          refine o_guard (j := 2) (d := 55) (b := false) rfl rfl rfl (fun h => by cases h) rfl (fun _ => ?_)
          refine o_guard (j := 2) (d := 55) (b := false) rfl rfl rfl (fun h => by cases h) rfl (fun _ => ?_)
          refine o_y (v := .bool (false)) rfl rfl (y_pick (b := false) rfl rfl) ?_
          refine o_nil ?_
          refine hK18 _ _ ?_
          refine c_cond (t := false) rfl (fun h => by cases h) (fun _ => ?_)
          refine c_exit ?_
          refine hK15 _ _ ?_
          refine c_seq fun K19 hK19 => ?_
          refine c_region ?_
          refine o_y (v := .pointer (some ⟨g1, 0, none⟩)) rfl rfl (y_move h2_6) ?_
          refine o_callV (fun Hy => (HL ++ (Hx ++ Hy))) (fun Hy => by have h := List.perm_append_comm (l₁ := ((HL ++ Hx) : Hp)) (l₂ := Hy); first | exact h | simpa [Value.cells] using h) (vs := [.pointer (some ⟨g1, 0, none⟩)]) b11 rfl rfl (fun w hw => L_keys hv1_1 w (hw.sat (List.sublist_append_left _ _)) (by omega)) ?_
          rintro _ Hp4 ⟨ap4, gp4, capp4, rfl, hvp4⟩
          have hzp4 := hvp4.le
          have hyp4 := hvp4.mx
          simp only [maxLen] at hyp4
          refine o_y (v := .slice (a) ((Wt ((l).take N) (c)).length) (cap)) rfl rfl (y_move h2_12) ?_
          refine o_y (v := .bool (true)) rfl rfl (y_bool (y_call (vs := [.slice (ap4) ((keyK (tAll n ((l).take N) (N))).length) (capp4), .slice (a) ((Wt ((l).take N) (c)).length) (cap)]) b10 rfl (fun w hw => f10_Ints (keyK (tAll n ((l).take N) (N))) (Wt ((l).take N) (c)) _ _ _ _ _ _ _ _ _ _ w (by first | rfl | (simp; done) | (simp; omega)) ((SlG.own hvp4 (fun p hp => by first | exact List.mem_append_right _ (List.mem_append_right _ (List.mem_append_right _ hp)) | exact (List.mem_append_right _ (List.mem_append_right _ hp)))) w hw) (by first | rfl | (simp; done) | (simp; omega)) ((SlG.own hv2_1 (fun p hp => by first | exact List.mem_append_right _ (List.mem_append_right _ (List.mem_append_left _ hp)) | exact (List.mem_append_right _ (List.mem_append_left _ hp)))) w hw))) (decide_eq_true (by first | exact hend | (rw [← hjn] at hend; exact hend)))) ?_
          refine o_y (v := .bool (true)) rfl rfl (y_move rfl) ?_
          refine o_guard (j := 4) (d := 94) (b := true) rfl rfl rfl (fun _ => ?_) rfl (fun h => by cases h)
          refine o_y (v := .bool (true)) rfl rfl (y_call (vs := []) b12 rfl (fun w hw => f12_lives w)) ?_
          refine o_y (v := .bool (true)) rfl rfl (y_pick (b := true) rfl rfl) ?_
          refine o_y (v := .bool (true)) rfl rfl (y_assign rfl) ?_
          refine o_nil ?_
          refine hK19 _ _ ?_
          refine c_ret ?_
          refine fun w hw => ⟨[.bool (true)], ⟨rfl, trivial⟩, ?_⟩
          exact rfl
        ·
          have hc2' := of_decide_eq_true hc2
          -- way LFLT
          refine o_guard (j := 2) (d := 55) (b := true) rfl rfl rfl (fun _ => ?_) rfl (fun h => by cases h)
          refine o_y (v := .slice (a) ((Wt ((l).take N) (c)).length) (cap)) rfl rfl (y_move h2_12) ?_
          refine o_guard (j := 2) (d := 55) (b := true) rfl rfl rfl (fun _ => ?_) rfl (fun h => by cases h)
          refine o_y (v := .int .i64 ((((Wt ((l).take N) (c)).length : Nat) : Int))) rfl rfl (y_len rfl Try.underlying22) ?_
          refine o_guard (j := 2) (d := 55) (b := true) rfl rfl rfl (fun _ => ?_) rfl (fun h => by cases h)
          refine o_y (v := .int .i64 (((n : Nat) : Int))) rfl rfl (y_move h2_5) ?_
          refine o_guard (j := 2) (d := 55) (b := true) rfl rfl rfl (fun _ => ?_) rfl (fun h => by cases h)
          refine o_y (v := .bool (decide ((((Wt ((l).take N) (c)).length : Nat) : Int) < ((n : Nat) : Int)))) rfl rfl (y_lss rfl rfl rfl) ?_
          refine o_y (v := .bool (decide ((((Wt ((l).take N) (c)).length : Nat) : Int) < ((n : Nat) : Int)))) rfl rfl (y_pick (b := true) rfl rfl) ?_
          refine o_nil ?_
          refine hK18 _ _ ?_
          refine c_cond (t := decide ((((Wt ((l).take N) (c)).length : Nat) : Int) < ((n : Nat) : Int))) rfl (fun hc3 => ?_) (fun hc3 => ?_)
          ·
            replace hc3 := of_decide_eq_true hc3
            -- way LFLTT
            obtain ⟨i, hi⟩ : ∃ i : Nat, N = c + 1 + i := ⟨N - 1 - c, by omega⟩
            have hNi : (((l).take N)).length = c + 1 + i := by omega
            have h9 : R2 13 = .int .i64 ((i : Nat) : Int) := h2_13.trans (ie (by omega))
            obtain ⟨xj, hxj⟩ : ∃ x, (((l).take N))[i]? = some x := ⟨_, List.getElem?_eq_getElem (by omega)⟩
            refine c_skip ?_
            refine hK17 _ _ ?_
            refine c_seq fun K20 hK20 => ?_
            refine c_block ?_
            refine c_seq fun K21 hK21 => ?_
            refine c_region ?_
            refine o_y (v := .bool (false)) rfl rfl (y_assign rfl) ?_
            refine o_nil ?_
            refine hK21 _ _ ?_
            refine c_seq fun K22 hK22 => ?_
            refine c_seq fun K23 hK23 => ?_
            refine c_region ?_
            refine o_y (v := .int .i64 (0)) rfl rfl (y_assign rfl) ?_
            refine o_nil ?_
            refine hK23 _ _ ?_
            refine c_block ?_
            refine c_loop (fun d R H => ∃ (m : Nat), d = (Wt ((l).take N) (c)).length - (m) ∧ (m ≤ (Wt ((l).take N) (c)).length) ∧ R 1 = .slice (a1) (N) (cap1) ∧ R 5 = .int .i64 (((n : Nat) : Int)) ∧ R 6 = .pointer (some ⟨g1, 0, none⟩) ∧ R 12 = .slice (a) ((Wt ((l).take N) (c)).length) (cap) ∧ R 13 = .int .i64 (((i : Nat) : Int)) ∧ R 15 = .int .i64 (((m : Nat) : Int)) ∧ R 14 = .bool (decide (xj ∈ (Wt ((l).take N) (c)).take (m))) ∧ H = ((HL ++ Hx) : Hp)) ((Wt ((l).take N) (c)).length - (0)) ?_ ?_
            ·
              refine ⟨0, rfl, by omega, h2_1, h2_5, h2_6, h2_12, h9, (ie (a := 0) (b := ((0 : Nat) : Int)) (by omega)), (congrArg Value.bool (by rw [List.take_zero]; rfl)), rfl⟩
            ·
              rintro d3 R3 _ ⟨m, hd3, hv3_0, h3_1, h3_5, h3_6, h3_12, h3_13, h3_15, h3_14, rfl⟩
              refine c_seq fun K24 hK24 => ?_
              refine c_seq fun K25 hK25 => ?_
              refine c_region ?_
              refine o_y (v := .int .i64 (((m : Nat) : Int))) rfl rfl (y_move h3_15) ?_
              refine o_y (v := .slice (a) ((Wt ((l).take N) (c)).length) (cap)) rfl rfl (y_move h3_12) ?_
              refine o_y (v := .int .i64 ((((Wt ((l).take N) (c)).length : Nat) : Int))) rfl rfl (y_len rfl Try.underlying22) ?_
              refine o_y (v := .bool (decide (((m : Nat) : Int) < (((Wt ((l).take N) (c)).length : Nat) : Int)))) rfl rfl (y_lss rfl rfl rfl) ?_
              refine o_nil ?_
              refine hK25 _ _ ?_
              refine c_cond (t := decide (((m : Nat) : Int) < (((Wt ((l).take N) (c)).length : Nat) : Int))) rfl (fun hc4 => ?_) (fun hc4 => ?_)
              ·
                replace hc4 := of_decide_eq_true hc4
                -- way LFLTTLT
                refine c_skip ?_
                refine hK24 _ _ ?_
                refine c_seq fun K26 hK26 => ?_
                refine c_block ?_
                refine c_draw 12 (by kernel_rfl) (by kernel_rfl) ?_
                refine q_y (v := .bool (decide (xj ∈ (Wt ((l).take N) (c)).take (m)))) rfl (y_move h3_14) ?_
                refine q_y (v := .bool (decide (xj ∈ (Wt ((l).take N) (c)).take (m)))) rfl (y_move rfl) ?_
                cases hc5 : (decide (xj ∈ (Wt ((l).take N) (c)).take (m)) : Bool)
                ·
                  have hc5' := of_decide_eq_false hc5
                  -- way LFLTTLTF
                  refine q_guardT (j := 1) (d := 70) rfl rfl rfl ?_
                  refine q_y (v := .slice (a) ((Wt ((l).take N) (c)).length) (cap)) rfl (y_move h3_12) ?_
                  refine q_guardT (j := 1) (d := 70) rfl rfl rfl ?_
                  refine q_y (v := .int .i64 (((m : Nat) : Int))) rfl (y_move h3_15) ?_
                  refine q_guardT (j := 1) (d := 70) rfl rfl rfl ?_
                  refine q_y (v := .pointer (some ⟨g2, 0 + m * 1, none⟩)) rfl (y_ixO m (hv2_1.at_ (by first | omega | (simp; done) | (simp; omega))) rfl rfl Try.underlying22 s3 (by omega) (by first | omega | (simp; done) | (simp; omega))) ?_
                  refine q_guardT (j := 1) (d := 70) rfl rfl rfl ?_
                  refine q_y (v := .int .i64 ((Wt ((l).take N) (c))[m]'(by first | omega | (simp; done) | (simp; omega)))) rfl (y_load rfl Try.underlying3 rfl (SlG.rd (SlG.own hv2_1 (fun p hp => by first | exact List.mem_append_right _ (List.mem_append_right _ hp) | exact (List.mem_append_right _ hp))) m (by first | omega | (simp; done) | (simp; omega)))) ?_
                  refine q_guardT (j := 1) (d := 70) rfl rfl rfl ?_
                  refine q_y (v := .slice (a1) (N) (cap1)) rfl (y_move h3_1) ?_
                  refine q_guardT (j := 1) (d := 70) rfl rfl rfl ?_
                  refine q_y (v := .int .i64 (((i : Nat) : Int))) rfl (y_move h3_13) ?_
                  refine q_guardT (j := 1) (d := 70) rfl rfl rfl ?_
                  refine q_y (v := .pointer (some ⟨b1, o1 + i * 1, none⟩)) rfl (y_ixO i (hs.at_ (by omega)) rfl rfl Try.underlying22 s3 (by omega) (by first | omega | (simp; done) | (simp; omega))) ?_
                  refine q_guardT (j := 1) (d := 70) rfl rfl rfl ?_
                  refine q_y (v := .int .i64 (xj)) rfl (y_load rfl Try.underlying3 rfl (SlG.rd' (SlG.first (SlG.old hs (fun _ h => h)) N) hxj)) ?_
                  refine q_guardT (j := 1) (d := 70) rfl rfl rfl ?_
                  refine q_y (v := .bool (decide ((Wt ((l).take N) (c))[m]'(by first | omega | (simp; done) | (simp; omega)) = xj))) rfl (y_eql rfl rfl rfl) ?_
                  refine q_y (v := .bool (decide ((Wt ((l).take N) (c))[m]'(by first | omega | (simp; done) | (simp; omega)) = xj))) rfl (y_pick (b := false) rfl rfl) ?_
                  refine q_nil ?_
                  refine o_y (v := .bool (decide ((Wt ((l).take N) (c))[m]'(by first | omega | (simp; done) | (simp; omega)) = xj))) rfl rfl (y_assign rfl) ?_
                  refine o_nil ?_
                  refine hK26 _ _ ?_
                  refine c_region ?_
                  refine o_y (v := .int .i64 (((m : Nat) : Int))) rfl rfl (y_move h3_15) ?_
                  refine o_y (v := .int .i64 ((((m : Nat) : Int)) + 1)) rfl rfl (y_add rfl rfl (wi_i64 (by omega) (by omega))) ?_
                  refine o_y (v := .int .i64 ((((m : Nat) : Int)) + 1)) rfl rfl (y_assign rfl) ?_
                  refine o_nil ?_
                  refine ⟨_, by omega, m + 1, rfl, by omega, h3_1, h3_5, h3_6, h3_12, h3_13, (ie (a := (((m : Nat) : Int)) + 1) (b := ((m + 1 : Nat) : Int)) (by omega)), (congrArg Value.bool (any_f (by omega) hc5)), rfl⟩
                ·
                  have hc5' := of_decide_eq_true hc5
                  -- way LFLTTLTT
                  refine q_guardF (j := 1) (d := 70) (b := true) rfl rfl rfl rfl ?_
                  refine q_guardF (j := 1) (d := 70) (b := true) rfl rfl rfl rfl ?_
                  refine q_guardF (j := 1) (d := 70) (b := true) rfl rfl rfl rfl ?_
                  refine q_guardF (j := 1) (d := 70) (b := true) rfl rfl rfl rfl ?_
                  refine q_guardF (j := 1) (d := 70) (b := true) rfl rfl rfl rfl ?_
                  refine q_guardF (j := 1) (d := 70) (b := true) rfl rfl rfl rfl ?_
                  refine q_guardF (j := 1) (d := 70) (b := true) rfl rfl rfl rfl ?_
                  refine q_guardF (j := 1) (d := 70) (b := true) rfl rfl rfl rfl ?_
                  refine q_guardF (j := 1) (d := 70) (b := true) rfl rfl rfl rfl ?_
                  refine q_y (v := .bool (true)) rfl (y_pick (b := true) rfl rfl) ?_
                  refine q_nil ?_
                  refine o_y (v := .bool (true)) rfl rfl (y_assign rfl) ?_
                  refine o_nil ?_
                  refine hK26 _ _ ?_
                  refine c_region ?_
                  refine o_y (v := .int .i64 (((m : Nat) : Int))) rfl rfl (y_move h3_15) ?_
                  refine o_y (v := .int .i64 ((((m : Nat) : Int)) + 1)) rfl rfl (y_add rfl rfl (wi_i64 (by omega) (by omega))) ?_
                  refine o_y (v := .int .i64 ((((m : Nat) : Int)) + 1)) rfl rfl (y_assign rfl) ?_
                  refine o_nil ?_
                  refine ⟨_, by omega, m + 1, rfl, by omega, h3_1, h3_5, h3_6, h3_12, h3_13, (ie (a := (((m : Nat) : Int)) + 1) (b := ((m + 1 : Nat) : Int)) (by omega)), (congrArg Value.bool (any_t hc5)), rfl⟩
              ·
                replace hc4 := of_decide_eq_false hc4
                -- way LFLTTLF
                have hml : m = (Wt ((l).take N) (c)).length := by omega
                rw [hml, List.take_length] at h3_14
                refine c_exit ?_
                refine hK22 _ _ ?_
                refine c_seq fun K27 hK27 => ?_
                refine c_region ?_
                refine o_y (v := .bool (decide (xj ∈ Wt ((l).take N) (c)))) rfl rfl (y_move h3_14) ?_
                refine o_y (v := .bool (!(decide (xj ∈ Wt ((l).take N) (c))))) rfl rfl (y_not rfl rfl) ?_
                refine o_nil ?_
                refine hK27 _ _ ?_
                refine c_cond (t := !(decide (xj ∈ Wt ((l).take N) (c)))) rfl (fun hc6 => ?_) (fun hc6 => ?_)
                ·
                  simp only [Bool.not_eq_true', Bool.not_eq_false', decide_eq_true_eq, decide_eq_false_iff_not] at hc6
                  -- way LFLTTLFT
                  have hno : ¬ xj ∈ Wt ((l).take N) (c) := by simpa using hc6
                  refine c_region ?_
                  refine o_y (v := .slice (a) ((Wt ((l).take N) (c)).length) (cap)) rfl rfl (y_move h3_12) ?_
                  refine o_y (v := .slice (a1) (N) (cap1)) rfl rfl (y_move h3_1) ?_
                  refine o_y (v := .int .i64 (((i : Nat) : Int))) rfl rfl (y_move h3_13) ?_
                  refine o_y (v := .pointer (some ⟨b1, o1 + i * 1, none⟩)) rfl rfl (y_ixO i (hs.at_ (by omega)) rfl rfl Try.underlying22 s3 (by omega) (by first | omega | (simp; done) | (simp; omega))) ?_
                  refine o_y (v := .int .i64 (xj)) rfl rfl (y_load rfl Try.underlying3 rfl (SlG.rd' (SlG.first (SlG.old hs (fun _ h => h)) N) hxj)) ?_
                  refine o_buildRow SL22 ([(xj)] : List Int) (fun x => .int .i64 x) (fun _ => rfl) rfl rfl (by rw [Array.toList_map]; rfl) (by simp) (by simp [eInt]) fun g5 cg5 hrg5 => ?_
                  refine o_appendV SL22 ([(g5, .cells (cg5) 3 (0, 0))] ++ (HL)) (fun Hy => [(g5, .cells (cg5) 3 (0, 0))] ++ (HL ++ Hy)) rfl (fun Hy => by have h := List.perm_append_comm (l₁ := ([(g5, .cells (cg5) 3 (0, 0))] ++ (HL) : Hp)) (l₂ := Hy); first | exact h | simpa [Value.cells] using h) (by have h := List.perm_append_comm_assoc ([(g5, .cells (cg5) 3 (0, 0))] ++ (HL) : Hp) Hx ([] : Hp); first | exact h | simpa [Value.cells] using h) hv2_1 rfl (by first | omega | (simp; done) | (simp; omega)) rfl (by first | omega | (simp; done) | (simp; omega)) (SlG.row (k := 0) rfl hrg5) (by simp only [maxLen] <;> first | omega | (simp; done) | (simp; omega)) (by first | omega | (simp; done) | (simp; omega)) fun ap7 gp7 capp7 Hp7 hvp7 => ?_
                  have hwp7 := hvp7
                  rw [show (Wt ((l).take N) (c)) ++ ([(xj)]) = Wt ((l).take N) (c + 1) from Wt_new hxj hNi hno] at hwp7
                  refine o_y (v := .slice (ap7) (((Wt ((l).take N) (c)).length) + 1) (capp7)) rfl rfl (y_assign rfl) ?_
                  refine o_nil ?_
                  refine hK20 _ _ ?_
                  refine c_region ?_
                  refine o_y (v := .int .i64 (((i : Nat) : Int))) rfl rfl (y_move h3_13) ?_
                  refine o_y (v := .int .i64 ((((i : Nat) : Int)) - 1)) rfl rfl (y_sub rfl rfl (wi_i64 (by omega) (by omega))) ?_
                  refine o_y (v := .int .i64 ((((i : Nat) : Int)) - 1)) rfl rfl (y_assign rfl) ?_
                  refine o_forget (H' := (HL ++ Hp7)) ((List.Sublist.refl _).cons _) ?_
                  refine o_nil ?_
                  refine ⟨_, by omega, c + 1, ap7, gp7, capp7, Hp7, rfl, by omega, hwp7, (by rw [← Wt_new hxj hNi hno, List.length_append, List.length_singleton]; omega), h3_1, h3_5, h3_6, (ie (a := (((i : Nat) : Int)) - 1) (b := ((N : Nat) : Int) - 1 - ((c + 1 : Nat) : Int)) (by omega)), (len_eq (by rw [← Wt_new hxj hNi hno, List.length_append]; rfl)), rfl⟩
                ·
                  simp only [Bool.not_eq_true', Bool.not_eq_false', decide_eq_true_eq, decide_eq_false_iff_not] at hc6
                  -- way LFLTTLFF
                  have hyes : xj ∈ Wt ((l).take N) (c) := by simpa using hc6
                  refine c_skip ?_
                  refine hK20 _ _ ?_
                  refine c_region ?_
                  refine o_y (v := .int .i64 (((i : Nat) : Int))) rfl rfl (y_move h3_13) ?_
                  refine o_y (v := .int .i64 ((((i : Nat) : Int)) - 1)) rfl rfl (y_sub rfl rfl (wi_i64 (by omega) (by omega))) ?_
                  refine o_y (v := .int .i64 ((((i : Nat) : Int)) - 1)) rfl rfl (y_assign rfl) ?_
                  refine o_nil ?_
                  refine ⟨_, by omega, c + 1, a, g2, cap, Hx, rfl, by omega, (by rw [Wt_old hxj hNi hyes]; exact hv2_1), (by rw [Wt_old hxj hNi hyes]; exact hv2_2), h3_1, h3_5, h3_6, (ie (a := (((i : Nat) : Int)) - 1) (b := ((N : Nat) : Int) - 1 - ((c + 1 : Nat) : Int)) (by omega)), (by rw [Wt_old hxj hNi hyes]; assumption), rfl⟩
          ·
            replace hc3 := of_decide_eq_false hc3
            -- way LFLTF
            have hend := Wt_end (L := ((l).take N)) hn1.1 hv2_2 (by omega)
            rw [hNl] at hend
            refine c_exit ?_
            refine hK15 _ _ ?_
            refine c_seq fun K28 hK28 => ?_
            refine c_region ?_
            refine o_y (v := .pointer (some ⟨g1, 0, none⟩)) rfl rfl (y_move h2_6) ?_
            refine o_callV (fun Hy => (HL ++ (Hx ++ Hy))) (fun Hy => by have h := List.perm_append_comm (l₁ := ((HL ++ Hx) : Hp)) (l₂ := Hy); first | exact h | simpa [Value.cells] using h) (vs := [.pointer (some ⟨g1, 0, none⟩)]) b11 rfl rfl (fun w hw => L_keys hv1_1 w (hw.sat (List.sublist_append_left _ _)) (by omega)) ?_
            rintro _ Hp8 ⟨ap8, gp8, capp8, rfl, hvp8⟩
            have hzp8 := hvp8.le
            have hyp8 := hvp8.mx
            simp only [maxLen] at hyp8
            refine o_y (v := .slice (a) ((Wt ((l).take N) (c)).length) (cap)) rfl rfl (y_move h2_12) ?_
            refine o_y (v := .bool (true)) rfl rfl (y_bool (y_call (vs := [.slice (ap8) ((keyK (tAll n ((l).take N) (N))).length) (capp8), .slice (a) ((Wt ((l).take N) (c)).length) (cap)]) b10 rfl (fun w hw => f10_Ints (keyK (tAll n ((l).take N) (N))) (Wt ((l).take N) (c)) _ _ _ _ _ _ _ _ _ _ w (by first | rfl | (simp; done) | (simp; omega)) ((SlG.own hvp8 (fun p hp => by first | exact List.mem_append_right _ (List.mem_append_right _ (List.mem_append_right _ hp)) | exact (List.mem_append_right _ (List.mem_append_right _ hp)))) w hw) (by first | rfl | (simp; done) | (simp; omega)) ((SlG.own hv2_1 (fun p hp => by first | exact List.mem_append_right _ (List.mem_append_right _ (List.mem_append_left _ hp)) | exact (List.mem_append_right _ (List.mem_append_left _ hp)))) w hw))) (decide_eq_true (by first | exact hend | (rw [← hjn] at hend; exact hend)))) ?_
            refine o_y (v := .bool (true)) rfl rfl (y_move rfl) ?_
            refine o_guard (j := 4) (d := 94) (b := true) rfl rfl rfl (fun _ => ?_) rfl (fun h => by cases h)
            refine o_y (v := .bool (true)) rfl rfl (y_call (vs := []) b12 rfl (fun w hw => f12_lives w)) ?_
            refine o_y (v := .bool (true)) rfl rfl (y_pick (b := true) rfl rfl) ?_
            refine o_y (v := .bool (true)) rfl rfl (y_assign rfl) ?_
            refine o_nil ?_
            refine hK28 _ _ ?_
            refine c_ret ?_
            refine fun w hw => ⟨[.bool (true)], ⟨rfl, trivial⟩, ?_⟩
            exact rfl

end Go.Proofs.Ytpbpenlceigddaa.Lru
