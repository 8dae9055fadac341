/- Proved: what a law of package lru comes to; the conditions stand in the statements. -/
import Derived.Test.YtpbpenlceigddaaLruH
import Derived.Test.YtpbpenlceigddaaLruPin
set_option linter.unusedVariables false
set_option linter.unusedSimpArgs false
set_option linter.unnecessarySimpa false
namespace Go.Proofs.Ytpbpenlceigddaa.Lru
open Go Go.RowKit Go.Proofs.Ytpbpenlceigddaa.Eng

set_option maxRecDepth 100000 in
set_option maxHeartbeats 4000000 in
theorem f5_LruPinned (rm : Int) (l : List Int) (a1 : Option Addr) (b1 o1 cap1 m1 : Nat) (w : World) (hr0 : 0 ≤ rm) (hr1 : rm ≤ 255) (hm1 : m1 = l.length) (hs : Sl eInt w l a1 b1 o1 cap1) :
    Calls Try.prog 5 [.int .u8 (rm), .slice (a1) (m1) (cap1)].toArray w fun e w' => e = .returned (.bool (true)) ∧ Below w.heap.size w w' := by
  subst hm1
  have hle := hs.le
  have hmx := hs.mx
  simp only [maxLen] at hmx
  obtain ⟨n, hn⟩ : ∃ n : Nat, 1 + (rm) % 64 = ((n : Nat) : Int) := ⟨(1 + (rm) % 64).toNat, by omega⟩
  have hn1 : 1 ≤ n ∧ n ≤ 64 := by omega
  refine (calls_of (P := Try.prog) (n := 145) (w0 := w) (S := fun _ => False) (H := []) (T := fun v _ => v = (.bool (true))) Try.func5 rfl Try.ntmps5 (Nat.le_of_ble_eq_true rfl) [.tmp 4] rfl (St.nil w _) ?_).mono fun e w' ⟨v, H', he, hs, hT⟩ => ⟨by rw [he, hT], hs.below⟩
  refine c_seq fun K1 hK1 => ?_
  refine c_region ?_
  refine o_y (v := .bool (false)) rfl rfl (y_assign rfl) ?_
  refine o_nil ?_
  refine hK1 _ _ ?_
  refine c_seq fun K2 hK2 => ?_
  refine c_region ?_
  refine o_y (v := .int .u8 (rm)) rfl rfl (y_move rfl) ?_
  refine o_y (v := .int .i64 (rm)) rfl rfl (y_conv rfl Try.underlying5 Try.underlying3 (wi_i64 (by omega) (by omega))) ?_
  refine o_y (v := .int .i64 ((rm) % 64)) rfl rfl (y_rem rfl rfl (by decide) (Int.tmod_eq_emod_of_nonneg (by omega))) ?_
  refine o_y (v := .int .i64 (((n : Nat) : Int))) rfl rfl (y_as (y_add rfl rfl (wi_i64 (by omega) (by omega))) (ie hn)) ?_
  refine o_y (v := .int .i64 (((n : Nat) : Int))) rfl rfl (y_assign rfl) ?_
  refine o_nil ?_
  refine hK2 _ _ ?_
  refine c_seq fun K3 hK3 => ?_
  refine c_region ?_
  refine o_y (v := .int .i64 (((n : Nat) : Int))) rfl rfl (y_move rfl) ?_
  refine o_callV (fun Hy => (Hy)) (fun Hy => by have h := List.perm_append_comm (l₁ := ([] : Hp)) (l₂ := Hy); first | exact h | simpa [Value.cells] using h) (vs := [.int .i64 (((n : Nat) : Int))]) b8 rfl rfl (fun w hw => L_new (((n : Nat) : Int)) w (by omega) (by omega)) ?_
  rintro _ Hp2 ⟨g1, rfl, hLp2⟩
  refine o_y (v := .tuple #[.pointer (some ⟨g1, 0, none⟩), .int .i64 (0)]) rfl rfl (y_move rfl) ?_
  refine o_y (v := .pointer (some ⟨g1, 0, none⟩)) rfl rfl (y_extract (vs := #[.pointer (some ⟨g1, 0, none⟩), .int .i64 (0)]) rfl rfl) ?_
  refine o_y (v := .int .i64 (0)) rfl rfl (y_extract (vs := #[.pointer (some ⟨g1, 0, none⟩), .int .i64 (0)]) rfl rfl) ?_
  refine o_y (v := .pointer (some ⟨g1, 0, none⟩)) rfl rfl (y_assign rfl) ?_
  refine o_y (v := .int .i64 (0)) rfl rfl (y_assign rfl) ?_
  refine o_nil ?_
  refine hK3 _ _ ?_
  refine c_seq fun K4 hK4 => ?_
  refine c_seq fun K5 hK5 => ?_
  refine c_region ?_
  refine o_y (v := .int .i64 (0)) rfl rfl (y_move rfl) ?_
  refine o_y (v := .bool (false)) rfl rfl (y_neq rfl rfl (by decide)) ?_
  refine o_nil ?_
  refine hK5 _ _ ?_
  refine c_cond (t := false) rfl (fun h => by cases h) (fun _ => ?_)
  refine c_skip ?_
  refine hK4 _ _ ?_
  refine c_seq fun K6 hK6 => ?_
  refine c_seq fun K7 hK7 => ?_
  refine c_region ?_
  refine o_y (v := .int .i64 (0)) rfl rfl (y_assign rfl) ?_
  refine o_nil ?_
  refine hK7 _ _ ?_
  refine c_block ?_
  refine c_loop (fun d R H => ∃ (i : Nat) (HL : Hp), d = n - (i) ∧ (i ≤ n) ∧ (ListS g1 (((n : Nat) : Int)) (seedK (i)) (HL)) ∧ R 1 = .slice (a1) ((l).length) (cap1) ∧ R 5 = .int .i64 (((n : Nat) : Int)) ∧ R 6 = .pointer (some ⟨g1, 0, none⟩) ∧ R 8 = .int .i64 (((i : Nat) : Int)) ∧ H = ((HL) : Hp)) (n - (0)) ?_ ?_
  ·
    refine ⟨0, Hp2, rfl, by omega, hLp2, rfl, rfl, rfl, (ie (a := 0) (b := ((0 : Nat) : Int)) (by omega)), rfl⟩
  ·
    rintro d1 R1 HL ⟨i, _, hd1, hv1_0, hv1_1, h1_1, h1_5, h1_6, h1_8, rfl⟩
    refine c_seq fun K8 hK8 => ?_
    refine c_seq fun K9 hK9 => ?_
    refine c_region ?_
    refine o_y (v := .int .i64 (((i : Nat) : Int))) rfl rfl (y_move h1_8) ?_
    refine o_y (v := .int .i64 (((n : Nat) : Int))) rfl rfl (y_move h1_5) ?_
    refine o_y (v := .bool (decide (((i : Nat) : Int) < ((n : Nat) : Int)))) rfl rfl (y_lss rfl rfl rfl) ?_
    refine o_nil ?_
    refine hK9 _ _ ?_
    refine c_cond (t := decide (((i : Nat) : Int) < ((n : Nat) : Int))) rfl (fun hc1 => ?_) (fun hc1 => ?_)
    ·
      replace hc1 := of_decide_eq_true hc1
      -- way LT
      refine c_skip ?_
      refine hK8 _ _ ?_
      refine c_seq fun K10 hK10 => ?_
      refine c_block ?_
      refine c_seq fun K11 hK11 => ?_
      refine c_region ?_
      refine o_y (v := .pointer (some ⟨g1, 0, none⟩)) rfl rfl (y_move h1_6) ?_
      refine o_y (v := .int .i64 (((i : Nat) : Int))) rfl rfl (y_move h1_8) ?_
      refine o_y (v := .int .i64 ((-1) - (((i : Nat) : Int)))) rfl rfl (y_sub rfl rfl (wi_i64 (by omega) (by omega))) ?_
      refine o_callS ((HL)) ([]) (by first | exact List.Perm.refl _ | (simp only [List.append_nil]; first | done | exact List.Perm.refl _)) (vs := [.pointer (some ⟨g1, 0, none⟩), .int .i64 ((-1) - (((i : Nat) : Int)))]) b9 rfl rfl (fun w hat => L_touch hv1_1 ((-1) - (((i : Nat) : Int))) w hat) ?_
      rintro _ HLp3 ⟨rfl, hLp3⟩
      refine o_perm (H' := (HLp3)) (by first | exact List.Perm.refl _ | (simp only [List.append_nil]; first | done | exact List.Perm.refl _)) ?_
      rw [show touchO (((n : Nat) : Int)) (seedK (i)) ((-1) - (((i : Nat) : Int))) = (0, false, 0) from (seed_O (by omega))]
      rw [show touchK (((n : Nat) : Int)) (seedK (i)) ((-1) - (((i : Nat) : Int))) = ((-1) - ((i : Nat) : Int), false) :: seedK (i) from (seed_K (by omega))] at hLp3
      refine o_y (v := .tuple #[.int .i64 (0), .bool (false), .int .i64 (0)]) rfl rfl (y_move rfl) ?_
      refine o_y (v := .int .i64 (0)) rfl rfl (y_extract (vs := #[.int .i64 (0), .bool (false), .int .i64 (0)]) rfl rfl) ?_
      refine o_y (v := .bool (false)) rfl rfl (y_extract (vs := #[.int .i64 (0), .bool (false), .int .i64 (0)]) rfl rfl) ?_
      refine o_y (v := .int .i64 (0)) rfl rfl (y_extract (vs := #[.int .i64 (0), .bool (false), .int .i64 (0)]) rfl rfl) ?_
      refine o_y (v := .int .i64 (0)) rfl rfl (y_assign rfl) ?_
      refine o_y (v := .bool (false)) rfl rfl (y_assign rfl) ?_
      refine o_y (v := .int .i64 (0)) rfl rfl (y_assign rfl) ?_
      refine o_nil ?_
      refine hK11 _ _ ?_
      refine c_seq fun K12 hK12 => ?_
      refine c_seq fun K13 hK13 => ?_
      refine c_region ?_
      refine o_y (v := .bool (false)) rfl rfl (y_move rfl) ?_
      refine o_y (v := .bool (false)) rfl rfl (y_move rfl) ?_
      refine o_guard (j := 1) (d := 47) (b := false) rfl rfl rfl (fun _ => ?_) rfl (fun h => by cases h)
      refine o_y (v := .int .i64 (0)) rfl rfl (y_move rfl) ?_
      refine o_guard (j := 1) (d := 47) (b := false) rfl rfl rfl (fun _ => ?_) rfl (fun h => by cases h)
      refine o_y (v := .bool (false)) rfl rfl (y_neq rfl rfl (by decide)) ?_
      refine o_y (v := .bool (false)) rfl rfl (y_pick (b := false) rfl rfl) ?_
      refine o_nil ?_
      refine hK13 _ _ ?_
      refine c_cond (t := false) rfl (fun h => by cases h) (fun _ => ?_)
      refine c_skip ?_
      refine hK12 _ _ ?_
      refine c_seq fun K14 hK14 => ?_
      refine c_region ?_
      refine o_y (v := .int .i64 (((i : Nat) : Int))) rfl rfl (y_move h1_8) ?_
      refine o_y (v := .bool (decide (0 < ((i : Nat) : Int)))) rfl rfl (y_gtr rfl rfl rfl) ?_
      refine o_y (v := .bool (decide (0 < ((i : Nat) : Int)))) rfl rfl (y_move rfl) ?_
      cases hc2 : (decide (0 < ((i : Nat) : Int)) : Bool)
      ·
        have hc2' := of_decide_eq_false hc2
        -- way LTF
        have hq_hLp3 := hLp3
        rw [show ((-1) - ((i : Nat) : Int), false) :: seedK (i) = seedK (i + 1) from (seed_0 (by omega))] at hq_hLp3
        refine o_guard (j := 2) (d := 53) (b := false) rfl rfl rfl (fun h => by cases h) rfl (fun _ => ?_)
        refine o_guard (j := 2) (d := 53) (b := false) rfl rfl rfl (fun h => by cases h) rfl (fun _ => ?_)
        refine o_guard (j := 2) (d := 53) (b := false) rfl rfl rfl (fun h => by cases h) rfl (fun _ => ?_)
        refine o_guard (j := 2) (d := 53) (b := false) rfl rfl rfl (fun h => by cases h) rfl (fun _ => ?_)
        refine o_guard (j := 2) (d := 53) (b := false) rfl rfl rfl (fun h => by cases h) rfl (fun _ => ?_)
        refine o_y (v := .bool (false)) rfl rfl (y_pick (b := false) rfl rfl) ?_
        refine o_nil ?_
        refine hK14 _ _ ?_
        refine c_cond (t := false) rfl (fun h => by cases h) (fun _ => ?_)
        refine c_skip ?_
        refine hK10 _ _ ?_
        refine c_region ?_
        refine o_y (v := .int .i64 (((i : Nat) : Int))) rfl rfl (y_move h1_8) ?_
        refine o_y (v := .int .i64 ((((i : Nat) : Int)) + 1)) rfl rfl (y_add rfl rfl (wi_i64 (by omega) (by omega))) ?_
        refine o_y (v := .int .i64 ((((i : Nat) : Int)) + 1)) rfl rfl (y_assign rfl) ?_
        refine o_nil ?_
        refine ⟨_, by omega, i + 1, HLp3, rfl, by omega, hq_hLp3, h1_1, h1_5, h1_6, (ie (a := (((i : Nat) : Int)) + 1) (b := ((i + 1 : Nat) : Int)) (by omega)), rfl⟩
      ·
        have hc2' := of_decide_eq_true hc2
        -- way LTT
        refine o_guard (j := 2) (d := 53) (b := true) rfl rfl rfl (fun _ => ?_) rfl (fun h => by cases h)
        refine o_y (v := .pointer (some ⟨g1, 0, none⟩)) rfl rfl (y_move h1_6) ?_
        refine o_guard (j := 2) (d := 53) (b := true) rfl rfl rfl (fun _ => ?_) rfl (fun h => by cases h)
        refine o_y (v := .int .i64 (((i : Nat) : Int))) rfl rfl (y_move h1_8) ?_
        refine o_guard (j := 2) (d := 53) (b := true) rfl rfl rfl (fun _ => ?_) rfl (fun h => by cases h)
        refine o_y (v := .int .i64 ((-1) - (((i : Nat) : Int)))) rfl rfl (y_sub rfl rfl (wi_i64 (by omega) (by omega))) ?_
        refine o_guard (j := 2) (d := 53) (b := true) rfl rfl rfl (fun _ => ?_) rfl (fun h => by cases h)
        refine o_callS ((HLp3)) ([]) (by first | exact List.Perm.refl _ | (simp only [List.append_nil]; first | done | exact List.Perm.refl _)) (vs := [.pointer (some ⟨g1, 0, none⟩), .int .i64 ((-1) - (((i : Nat) : Int))), .bool (true)]) b13 rfl rfl (fun w hat => L_pin hLp3 ((-1) - (((i : Nat) : Int))) w hat (true)) ?_
        rintro _ HLp4 ⟨rfl, hLp4⟩
        refine o_perm (H' := (HLp4)) (by first | exact List.Perm.refl _ | (simp only [List.append_nil]; first | done | exact List.Perm.refl _)) ?_
        rw [show pinK (((-1) - ((i : Nat) : Int), false) :: seedK (i)) ((-1) - (((i : Nat) : Int))) (true) = seedK (i + 1) from (seed_pin (by omega))] at hLp4
        refine o_guard (j := 2) (d := 53) (b := true) rfl rfl rfl (fun _ => ?_) rfl (fun h => by cases h)
        refine o_y (v := .bool (false)) rfl rfl (y_bool (y_neq rfl rfl rfl) (decide_eq_false (fun h => h (seed_err _)))) ?_
        refine o_y (v := .bool (false)) rfl rfl (y_pick (b := true) rfl rfl) ?_
        refine o_nil ?_
        refine hK14 _ _ ?_
        refine c_cond (t := false) rfl (fun h => by cases h) (fun _ => ?_)
        refine c_skip ?_
        refine hK10 _ _ ?_
        refine c_region ?_
        refine o_y (v := .int .i64 (((i : Nat) : Int))) rfl rfl (y_move h1_8) ?_
        refine o_y (v := .int .i64 ((((i : Nat) : Int)) + 1)) rfl rfl (y_add rfl rfl (wi_i64 (by omega) (by omega))) ?_
        refine o_y (v := .int .i64 ((((i : Nat) : Int)) + 1)) rfl rfl (y_assign rfl) ?_
        refine o_nil ?_
        refine ⟨_, by omega, i + 1, HLp4, rfl, by omega, hLp4, h1_1, h1_5, h1_6, (ie (a := (((i : Nat) : Int)) + 1) (b := ((i + 1 : Nat) : Int)) (by omega)), rfl⟩
    ·
      replace hc1 := of_decide_eq_false hc1
      -- way LF
      have hin : n = i := by omega
      subst hin
      refine c_exit ?_
      refine hK6 _ _ ?_
      refine c_seq fun K15 hK15 => ?_
      refine c_seq fun K16 hK16 => ?_
      refine c_region ?_
      refine o_y (v := .int .i64 (0)) rfl rfl (y_assign rfl) ?_
      refine o_nil ?_
      refine hK16 _ _ ?_
      refine c_block ?_
      refine c_loop (fun d R H => ∃ (j : Nat) (ks : Ks) (HM : Hp), d = l.length - (j) ∧ (j ≤ l.length) ∧ (ListS g1 (((n : Nat) : Int)) (ks) (HM)) ∧ (PIV n (ks)) ∧ R 1 = .slice (a1) ((l).length) (cap1) ∧ R 5 = .int .i64 (((n : Nat) : Int)) ∧ R 6 = .pointer (some ⟨g1, 0, none⟩) ∧ R 12 = .int .i64 (((j : Nat) : Int)) ∧ H = ((HM) : Hp)) (l.length - (0)) ?_ ?_
      ·
        refine ⟨0, seedK (n), HL, rfl, by omega, hv1_1, seed_piv hn1.1, h1_1, h1_5, h1_6, (ie (a := 0) (b := ((0 : Nat) : Int)) (by omega)), rfl⟩
      ·
        rintro d2 R2 HM ⟨j, ks, _, hd2, hv2_0, hv2_1, hv2_2, h2_1, h2_5, h2_6, h2_12, rfl⟩
        have hN1 : (keyK ks).Nodup := hv2_1.le.2
        have hlen := piv_len hn1.1 hv2_2
        refine c_seq fun K17 hK17 => ?_
        refine c_seq fun K18 hK18 => ?_
        refine c_region ?_
        refine o_y (v := .int .i64 (((j : Nat) : Int))) rfl rfl (y_move h2_12) ?_
        refine o_y (v := .slice (a1) ((l).length) (cap1)) rfl rfl (y_move h2_1) ?_
        refine o_y (v := .int .i64 ((((l).length : Nat) : Int))) rfl rfl (y_len rfl Try.underlying22) ?_
        refine o_y (v := .bool (decide (((j : Nat) : Int) < (((l).length : Nat) : Int)))) rfl rfl (y_lss rfl rfl rfl) ?_
        refine o_y (v := .bool (decide (((j : Nat) : Int) < (((l).length : Nat) : Int)))) rfl rfl (y_move rfl) ?_
        cases hc3 : (decide (((j : Nat) : Int) < (((l).length : Nat) : Int)) : Bool)
        ·
          have hc3' := of_decide_eq_false hc3
          -- way LFLF
          refine o_guard (j := 4) (d := 64) (b := false) rfl rfl rfl (fun h => by cases h) rfl (fun _ => ?_)
          refine o_guard (j := 4) (d := 64) (b := false) rfl rfl rfl (fun h => by cases h) rfl (fun _ => ?_)
          refine o_y (v := .bool (false)) rfl rfl (y_pick (b := false) rfl rfl) ?_
          refine o_nil ?_
          refine hK18 _ _ ?_
          refine c_cond (t := false) rfl (fun h => by cases h) (fun _ => ?_)
          refine c_exit ?_
          refine hK15 _ _ ?_
          refine c_seq fun K19 hK19 => ?_
          refine c_region ?_
          refine o_y (v := .pointer (some ⟨g1, 0, none⟩)) rfl rfl (y_move h2_6) ?_
          refine o_callV (fun Hy => (HM ++ Hy)) (fun Hy => by have h := List.perm_append_comm (l₁ := ((HM) : Hp)) (l₂ := Hy); first | exact h | simpa [Value.cells] using h) (vs := [.pointer (some ⟨g1, 0, none⟩)]) b11 rfl rfl (fun w hw => L_keys hv2_1 w (hw.sat (List.Sublist.refl _)) (by omega)) ?_
          rintro _ Hp5 ⟨ap5, gp5, capp5, rfl, hvp5⟩
          have hzp5 := hvp5.le
          have hyp5 := hvp5.mx
          simp only [maxLen] at hyp5
          refine o_y (v := .slice (ap5) ((keyK (ks)).length) (capp5)) rfl rfl (y_assign rfl) ?_
          refine o_nil ?_
          refine hK19 _ _ ?_
          refine c_seq fun K20 hK20 => ?_
          refine c_seq fun K21 hK21 => ?_
          refine c_region ?_
          refine o_y (v := .int .i64 (0)) rfl rfl (y_assign rfl) ?_
          refine o_nil ?_
          refine hK21 _ _ ?_
          refine c_block ?_
          refine c_loop (fun d R H => ∃ (i3 : Nat) (k3 : Ks) (H3 : Hp), d = (keyK (ks)).length - (i3) ∧ (i3 ≤ (keyK (ks)).length) ∧ (ListS g1 (((n : Nat) : Int)) (k3) (H3)) ∧ (keyK (k3) = keyK (ks)) ∧ (AllP (k3) (i3)) ∧ R 5 = .int .i64 (((n : Nat) : Int)) ∧ R 6 = .pointer (some ⟨g1, 0, none⟩) ∧ R 17 = .slice (ap5) ((keyK (ks)).length) (capp5) ∧ R 18 = .int .i64 (((i3 : Nat) : Int)) ∧ H = ((H3 ++ Hp5) : Hp)) ((keyK (ks)).length - (0)) ?_ ?_
          ·
            refine ⟨0, ks, HM, rfl, by omega, hv2_1, rfl, allp_0, h2_5, h2_6, rfl, (ie (a := 0) (b := ((0 : Nat) : Int)) (by omega)), rfl⟩
          ·
            rintro d3 R3 _ ⟨i3, k3, H3, hd3, hv3_0, hv3_1, hv3_2, hv3_3, h3_5, h3_6, h3_17, h3_18, rfl⟩
            refine c_seq fun K22 hK22 => ?_
            refine c_seq fun K23 hK23 => ?_
            refine c_region ?_
            refine o_y (v := .int .i64 (((i3 : Nat) : Int))) rfl rfl (y_move h3_18) ?_
            refine o_y (v := .slice (ap5) ((keyK (ks)).length) (capp5)) rfl rfl (y_move h3_17) ?_
            refine o_y (v := .int .i64 ((((keyK (ks)).length : Nat) : Int))) rfl rfl (y_len rfl Try.underlying22) ?_
            refine o_y (v := .bool (decide (((i3 : Nat) : Int) < (((keyK (ks)).length : Nat) : Int)))) rfl rfl (y_lss rfl rfl rfl) ?_
            refine o_nil ?_
            refine hK23 _ _ ?_
            refine c_cond (t := decide (((i3 : Nat) : Int) < (((keyK (ks)).length : Nat) : Int))) rfl (fun hc4 => ?_) (fun hc4 => ?_)
            ·
              replace hc4 := of_decide_eq_true hc4
              -- way LFLFLT
              have hps := pin_step (ks := k3) (k0 := ks) (i := i3) (hv3_1.le.2) hv3_2 (List.getElem?_eq_getElem (by omega)) hv3_3
              refine c_skip ?_
              refine hK22 _ _ ?_
              refine c_seq fun K24 hK24 => ?_
              refine c_block ?_
              refine c_seq fun K25 hK25 => ?_
              refine c_region ?_
              refine o_y (v := .pointer (some ⟨g1, 0, none⟩)) rfl rfl (y_move h3_6) ?_
              refine o_y (v := .slice (ap5) ((keyK (ks)).length) (capp5)) rfl rfl (y_move h3_17) ?_
              refine o_y (v := .int .i64 (((i3 : Nat) : Int))) rfl rfl (y_move h3_18) ?_
              refine o_y (v := .pointer (some ⟨gp5, 0 + i3 * 1, none⟩)) rfl rfl (y_ixO i3 (hvp5.at_ (by first | omega | (simp; done) | (simp; omega))) rfl rfl Try.underlying22 s3 (by omega) (by first | omega | (simp; done) | (simp; omega))) ?_
              refine o_y (v := .int .i64 ((keyK (ks))[i3]'(by first | omega | (simp; done) | (simp; omega)))) rfl rfl (y_load rfl Try.underlying3 rfl (SlG.rd (SlG.own hvp5 (fun p hp => by first | exact List.mem_append_right _ (List.mem_append_right _ hp) | exact (List.mem_append_right _ hp))) i3 (by first | omega | (simp; done) | (simp; omega)))) ?_
              refine o_callS ((H3)) ((Hp5)) (by have h := List.perm_append_comm_assoc ([] : Hp) H3 ((Hp5) : Hp); first | exact h | simpa [List.append_assoc] using h) (vs := [.pointer (some ⟨g1, 0, none⟩), .int .i64 ((keyK (ks))[i3]'(by first | omega | (simp; done) | (simp; omega))), .bool (true)]) b13 rfl rfl (fun w hat => L_pin hv3_1 ((keyK (ks))[i3]'(by first | omega | (simp; done) | (simp; omega))) w hat (true)) ?_
              rintro _ HLp6 ⟨rfl, hLp6⟩
              refine o_y (v := .bool (false)) rfl rfl (y_bool (y_neq rfl rfl rfl) (decide_eq_false (fun h => h hps.1))) ?_
              refine o_nil ?_
              refine hK25 _ _ ?_
              refine c_cond (t := false) rfl (fun h => by cases h) (fun _ => ?_)
              refine c_skip ?_
              refine hK24 _ _ ?_
              refine c_region ?_
              refine o_y (v := .int .i64 (((i3 : Nat) : Int))) rfl rfl (y_move h3_18) ?_
              refine o_y (v := .int .i64 ((((i3 : Nat) : Int)) + 1)) rfl rfl (y_add rfl rfl (wi_i64 (by omega) (by omega))) ?_
              refine o_y (v := .int .i64 ((((i3 : Nat) : Int)) + 1)) rfl rfl (y_assign rfl) ?_
              refine o_nil ?_
              refine ⟨_, by omega, i3 + 1, pinK (k3) ((keyK (ks))[i3]'(by first | omega | (simp; done) | (simp; omega))) (true), HLp6, rfl, by omega, hLp6, hps.2.1, hps.2.2, h3_5, h3_6, h3_17, (ie (a := (((i3 : Nat) : Int)) + 1) (b := ((i3 + 1 : Nat) : Int)) (by omega)), rfl⟩
            ·
              replace hc4 := of_decide_eq_false hc4
              -- way LFLFLF
              have hi3 : i3 = n := by omega
              have hl3 : k3.length = n := by have h := congrArg List.length hv3_2; rw [keyK_len', hlen] at h; exact h
              have ha3 : AllP k3 n := by rw [hi3] at hv3_3; exact hv3_3
              refine c_exit ?_
              refine hK20 _ _ ?_
              refine c_seq fun K26 hK26 => ?_
              refine c_region ?_
              refine o_y (v := .pointer (some ⟨g1, 0, none⟩)) rfl rfl (y_move h3_6) ?_
              refine o_callS ((H3)) ((Hp5)) (by have h := List.perm_append_comm_assoc ([] : Hp) H3 ((Hp5) : Hp); first | exact h | simpa [List.append_assoc] using h) (vs := [.pointer (some ⟨g1, 0, none⟩), .int .i64 (1099511627776)]) b9 rfl rfl (fun w hat => L_touch hv3_1 (1099511627776) w hat) ?_
              rintro _ HLp7 ⟨rfl, hLp7⟩
              refine o_y (v := .tuple #[.int .i64 ((touchO (((n : Nat) : Int)) (k3) (1099511627776)).1), .bool ((touchO (((n : Nat) : Int)) (k3) (1099511627776)).2.1), .int .i64 ((touchO (((n : Nat) : Int)) (k3) (1099511627776)).2.2)]) rfl rfl (y_move rfl) ?_
              refine o_y (v := .int .i64 ((touchO (((n : Nat) : Int)) (k3) (1099511627776)).1)) rfl rfl (y_extract (vs := #[.int .i64 ((touchO (((n : Nat) : Int)) (k3) (1099511627776)).1), .bool ((touchO (((n : Nat) : Int)) (k3) (1099511627776)).2.1), .int .i64 ((touchO (((n : Nat) : Int)) (k3) (1099511627776)).2.2)]) rfl rfl) ?_
              refine o_y (v := .bool ((touchO (((n : Nat) : Int)) (k3) (1099511627776)).2.1)) rfl rfl (y_extract (vs := #[.int .i64 ((touchO (((n : Nat) : Int)) (k3) (1099511627776)).1), .bool ((touchO (((n : Nat) : Int)) (k3) (1099511627776)).2.1), .int .i64 ((touchO (((n : Nat) : Int)) (k3) (1099511627776)).2.2)]) rfl rfl) ?_
              refine o_y (v := .int .i64 ((touchO (((n : Nat) : Int)) (k3) (1099511627776)).2.2)) rfl rfl (y_extract (vs := #[.int .i64 ((touchO (((n : Nat) : Int)) (k3) (1099511627776)).1), .bool ((touchO (((n : Nat) : Int)) (k3) (1099511627776)).2.1), .int .i64 ((touchO (((n : Nat) : Int)) (k3) (1099511627776)).2.2)]) rfl rfl) ?_
              refine o_y (v := .int .i64 ((touchO (((n : Nat) : Int)) (k3) (1099511627776)).1)) rfl rfl (y_assign rfl) ?_
              refine o_y (v := .bool ((touchO (((n : Nat) : Int)) (k3) (1099511627776)).2.1)) rfl rfl (y_assign rfl) ?_
              refine o_y (v := .int .i64 ((touchO (((n : Nat) : Int)) (k3) (1099511627776)).2.2)) rfl rfl (y_assign rfl) ?_
              refine o_nil ?_
              refine hK26 _ _ ?_
              refine c_seq fun K27 hK27 => ?_
              refine c_region ?_
              refine o_y (v := .slice (ap5) ((keyK (ks)).length) (capp5)) rfl rfl (y_move h3_17) ?_
              refine o_y (v := .int .i64 ((((keyK (ks)).length : Nat) : Int))) rfl rfl (y_len rfl Try.underlying22) ?_
              refine o_y (v := .int .i64 (((n : Nat) : Int))) rfl rfl (y_move h3_5) ?_
              refine o_y (v := .bool (true)) rfl rfl (y_bool (y_eql rfl rfl rfl) (decide_eq_true (by omega))) ?_
              refine o_y (v := .bool (true)) rfl rfl (y_move rfl) ?_
              refine o_guard (j := 4) (d := 124) (b := true) rfl rfl rfl (fun _ => ?_) rfl (fun h => by cases h)
              refine o_y (v := .bool (false)) rfl rfl (y_bool (y_move rfl) (full_gone hl3 ha3 _)) ?_
              refine o_guard (j := 4) (d := 124) (b := true) rfl rfl rfl (fun _ => ?_) rfl (fun h => by cases h)
              refine o_y (v := .bool (true)) rfl rfl (y_not rfl rfl) ?_
              refine o_guard (j := 4) (d := 124) (b := true) rfl rfl rfl (fun _ => ?_) rfl (fun h => by cases h)
              refine o_y (v := .bool (true)) rfl rfl (y_move rfl) ?_
              refine o_guard (j := 7) (d := 127) (b := true) rfl rfl rfl (fun _ => ?_) rfl (fun h => by cases h)
              refine o_y (v := .int .i64 ((touchO (((n : Nat) : Int)) (k3) (1099511627776)).2.2)) rfl rfl (y_move rfl) ?_
              refine o_guard (j := 7) (d := 127) (b := true) rfl rfl rfl (fun _ => ?_) rfl (fun h => by cases h)
              refine o_y (v := .bool (decide ((touchO (((n : Nat) : Int)) (k3) (1099511627776)).2.2 = 10))) rfl rfl (y_eql rfl rfl rfl) ?_
              refine o_guard (j := 4) (d := 124) (b := true) rfl rfl rfl (fun _ => ?_) rfl (fun h => by cases h)
              refine o_y (v := .bool (decide ((touchO (((n : Nat) : Int)) (k3) (1099511627776)).2.2 = 10))) rfl rfl (y_pick (b := true) rfl rfl) ?_
              refine o_guard (j := 4) (d := 124) (b := true) rfl rfl rfl (fun _ => ?_) rfl (fun h => by cases h)
              refine o_y (v := .bool (decide ((touchO (((n : Nat) : Int)) (k3) (1099511627776)).2.2 = 10))) rfl rfl (y_move rfl) ?_
              cases hc5 : (decide ((touchO (((n : Nat) : Int)) (k3) (1099511627776)).2.2 = 10) : Bool)
              ·
                have hc5' := of_decide_eq_false hc5
                -- way LFLFLFF
                refine o_guard (j := 11) (d := 131) (b := false) rfl rfl rfl (fun h => by cases h) rfl (fun _ => ?_)
                refine o_guard (j := 11) (d := 131) (b := false) rfl rfl rfl (fun h => by cases h) rfl (fun _ => ?_)
                refine o_guard (j := 11) (d := 131) (b := false) rfl rfl rfl (fun h => by cases h) rfl (fun _ => ?_)
                refine o_guard (j := 11) (d := 131) (b := false) rfl rfl rfl (fun h => by cases h) rfl (fun _ => ?_)
                refine o_guard (j := 4) (d := 124) (b := true) rfl rfl rfl (fun _ => ?_) rfl (fun h => by cases h)
                refine o_y (v := .bool (false)) rfl rfl (y_pick (b := false) rfl rfl) ?_
                refine o_guard (j := 4) (d := 124) (b := true) rfl rfl rfl (fun _ => ?_) rfl (fun h => by cases h)
                refine o_y (v := .bool (false)) rfl rfl (y_move rfl) ?_
                refine o_guard (j := 17) (d := 137) (b := false) rfl rfl rfl (fun _ => ?_) rfl (fun h => by cases h)
                refine o_y (v := .pointer (some ⟨g1, 0, none⟩)) rfl rfl (y_move h3_6) ?_
                refine o_guard (j := 17) (d := 137) (b := false) rfl rfl rfl (fun _ => ?_) rfl (fun h => by cases h)
                refine o_y (v := .bool (true)) rfl rfl (y_bool (y_call (vs := [.pointer (some ⟨g1, 0, none⟩), .int .i64 (1099511627776)]) b14 rfl (fun w hw => L_has hLp7 (1099511627776) w (hw.sat (List.sublist_append_left _ _)))) (full_not hl3 ha3 _ hc5')) ?_
                refine o_guard (j := 4) (d := 124) (b := true) rfl rfl rfl (fun _ => ?_) rfl (fun h => by cases h)
                refine o_y (v := .bool (true)) rfl rfl (y_pick (b := false) rfl rfl) ?_
                refine o_y (v := .bool (true)) rfl rfl (y_pick (b := true) rfl rfl) ?_
                refine o_y (v := .bool (true)) rfl rfl (y_move rfl) ?_
                refine o_guard (j := 22) (d := 142) (b := true) rfl rfl rfl (fun _ => ?_) rfl (fun h => by cases h)
                refine o_y (v := .bool (true)) rfl rfl (y_call (vs := []) b12 rfl (fun w hw => f12_lives w)) ?_
                refine o_y (v := .bool (true)) rfl rfl (y_pick (b := true) rfl rfl) ?_
                refine o_y (v := .bool (true)) rfl rfl (y_assign rfl) ?_
                refine o_nil ?_
                refine hK27 _ _ ?_
                refine c_ret ?_
                refine fun w hw => ⟨[.bool (true)], ⟨rfl, trivial⟩, ?_⟩
                exact rfl
              ·
                have hc5' := of_decide_eq_true hc5
                -- way LFLFLFT
                refine o_guard (j := 11) (d := 131) (b := true) rfl rfl rfl (fun _ => ?_) rfl (fun h => by cases h)
                refine o_y (v := .pointer (some ⟨g1, 0, none⟩)) rfl rfl (y_move h3_6) ?_
                refine o_guard (j := 11) (d := 131) (b := true) rfl rfl rfl (fun _ => ?_) rfl (fun h => by cases h)
                refine o_callV (fun Hy => (HLp7 ++ (Hp5 ++ Hy))) (fun Hy => by have h := List.perm_append_comm (l₁ := ((HLp7 ++ Hp5) : Hp)) (l₂ := Hy); first | exact h | simpa [Value.cells] using h) (vs := [.pointer (some ⟨g1, 0, none⟩)]) b11 rfl rfl (fun w hw => L_keys hLp7 w (hw.sat (List.sublist_append_left _ _)) (by omega)) ?_
                rintro _ Hp8 ⟨ap8, gp8, capp8, rfl, hvp8⟩
                have hzp8 := hvp8.le
                have hyp8 := hvp8.mx
                simp only [maxLen] at hyp8
                refine o_guard (j := 11) (d := 131) (b := true) rfl rfl rfl (fun _ => ?_) rfl (fun h => by cases h)
                refine o_y (v := .slice (ap5) ((keyK (ks)).length) (capp5)) rfl rfl (y_move h3_17) ?_
                refine o_guard (j := 11) (d := 131) (b := true) rfl rfl rfl (fun _ => ?_) rfl (fun h => by cases h)
                refine o_y (v := .bool (true)) rfl rfl (y_bool (y_call (vs := [.slice (ap8) ((keyK (touchK (((n : Nat) : Int)) (k3) (1099511627776))).length) (capp8), .slice (ap5) ((keyK (ks)).length) (capp5)]) b10 rfl (fun w hw => f10_Ints (keyK (touchK (((n : Nat) : Int)) (k3) (1099511627776))) (keyK (ks)) _ _ _ _ _ _ _ _ _ _ w (by first | rfl | (simp; done) | (simp; omega)) ((SlG.own hvp8 (fun p hp => by first | exact List.mem_append_right _ (List.mem_append_right _ (List.mem_append_right _ hp)) | exact (List.mem_append_right _ (List.mem_append_right _ hp)))) w hw) (by first | rfl | (simp; done) | (simp; omega)) ((SlG.own hvp5 (fun p hp => by first | exact List.mem_append_right _ (List.mem_append_right _ (List.mem_append_left _ hp)) | exact (List.mem_append_right _ (List.mem_append_left _ hp)))) w hw))) (decide_eq_true (by rw [full_ten hl3 ha3 _ hc5']; exact hv3_2))) ?_
                refine o_guard (j := 4) (d := 124) (b := true) rfl rfl rfl (fun _ => ?_) rfl (fun h => by cases h)
                refine o_y (v := .bool (true)) rfl rfl (y_pick (b := true) rfl rfl) ?_
                refine o_guard (j := 4) (d := 124) (b := true) rfl rfl rfl (fun _ => ?_) rfl (fun h => by cases h)
                refine o_y (v := .bool (true)) rfl rfl (y_move rfl) ?_
                refine o_guard (j := 17) (d := 137) (b := true) rfl rfl rfl (fun h => by cases h) rfl (fun _ => ?_)
                refine o_guard (j := 17) (d := 137) (b := true) rfl rfl rfl (fun h => by cases h) rfl (fun _ => ?_)
                refine o_guard (j := 4) (d := 124) (b := true) rfl rfl rfl (fun _ => ?_) rfl (fun h => by cases h)
                refine o_y (v := .bool (true)) rfl rfl (y_pick (b := true) rfl rfl) ?_
                refine o_y (v := .bool (true)) rfl rfl (y_pick (b := true) rfl rfl) ?_
                refine o_y (v := .bool (true)) rfl rfl (y_move rfl) ?_
                refine o_guard (j := 22) (d := 142) (b := true) rfl rfl rfl (fun _ => ?_) rfl (fun h => by cases h)
                refine o_y (v := .bool (true)) rfl rfl (y_call (vs := []) b12 rfl (fun w hw => f12_lives w)) ?_
                refine o_y (v := .bool (true)) rfl rfl (y_pick (b := true) rfl rfl) ?_
                refine o_y (v := .bool (true)) rfl rfl (y_assign rfl) ?_
                refine o_nil ?_
                refine hK27 _ _ ?_
                refine c_ret ?_
                refine fun w hw => ⟨[.bool (true)], ⟨rfl, trivial⟩, ?_⟩
                exact rfl
        ·
          have hc3' := of_decide_eq_true hc3
          -- way LFLT
          refine o_guard (j := 4) (d := 64) (b := true) rfl rfl rfl (fun _ => ?_) rfl (fun h => by cases h)
          refine o_y (v := .int .i64 (((j : Nat) : Int))) rfl rfl (y_move h2_12) ?_
          refine o_guard (j := 4) (d := 64) (b := true) rfl rfl rfl (fun _ => ?_) rfl (fun h => by cases h)
          refine o_y (v := .bool (decide (((j : Nat) : Int) < 100))) rfl rfl (y_lss rfl rfl rfl) ?_
          refine o_y (v := .bool (decide (((j : Nat) : Int) < 100))) rfl rfl (y_pick (b := true) rfl rfl) ?_
          refine o_nil ?_
          refine hK18 _ _ ?_
          refine c_cond (t := decide (((j : Nat) : Int) < 100)) rfl (fun hc6 => ?_) (fun hc6 => ?_)
          ·
            replace hc6 := of_decide_eq_true hc6
            -- way LFLTT
            obtain ⟨xj, hxj⟩ : ∃ x, l[j]? = some x := ⟨_, List.getElem?_eq_getElem (by omega)⟩
            refine c_skip ?_
            refine hK17 _ _ ?_
            refine c_seq fun K28 hK28 => ?_
            refine c_block ?_
            refine c_seq fun K29 hK29 => ?_
            refine c_region ?_
            refine o_y (v := .pointer (some ⟨g1, 0, none⟩)) rfl rfl (y_move h2_6) ?_
            refine o_y (v := .slice (a1) ((l).length) (cap1)) rfl rfl (y_move h2_1) ?_
            refine o_y (v := .int .i64 (((j : Nat) : Int))) rfl rfl (y_move h2_12) ?_
            refine o_y (v := .pointer (some ⟨b1, o1 + j * 1, none⟩)) rfl rfl (y_ixO j (hs.at_ (by omega)) rfl rfl Try.underlying22 s3 (by omega) (by first | omega | (simp; done) | (simp; omega))) ?_
            refine o_y (v := .int .i64 (xj)) rfl rfl (y_load rfl Try.underlying3 rfl (SlG.rd' (SlG.old hs (fun _ h => h)) hxj)) ?_
            refine o_callS ((HM)) ([]) (by first | exact List.Perm.refl _ | (simp only [List.append_nil]; first | done | exact List.Perm.refl _)) (vs := [.pointer (some ⟨g1, 0, none⟩), .int .i64 (xj)]) b9 rfl rfl (fun w hat => L_touch hv2_1 (xj) w hat) ?_
            rintro _ HLp9 ⟨rfl, hLp9⟩
            refine o_perm (H' := (HLp9)) (by first | exact List.Perm.refl _ | (simp only [List.append_nil]; first | done | exact List.Perm.refl _)) ?_
            refine o_y (v := .tuple #[.int .i64 ((touchO (((n : Nat) : Int)) (ks) (xj)).1), .bool ((touchO (((n : Nat) : Int)) (ks) (xj)).2.1), .int .i64 ((touchO (((n : Nat) : Int)) (ks) (xj)).2.2)]) rfl rfl (y_move rfl) ?_
            refine o_y (v := .int .i64 ((touchO (((n : Nat) : Int)) (ks) (xj)).1)) rfl rfl (y_extract (vs := #[.int .i64 ((touchO (((n : Nat) : Int)) (ks) (xj)).1), .bool ((touchO (((n : Nat) : Int)) (ks) (xj)).2.1), .int .i64 ((touchO (((n : Nat) : Int)) (ks) (xj)).2.2)]) rfl rfl) ?_
            refine o_y (v := .bool ((touchO (((n : Nat) : Int)) (ks) (xj)).2.1)) rfl rfl (y_extract (vs := #[.int .i64 ((touchO (((n : Nat) : Int)) (ks) (xj)).1), .bool ((touchO (((n : Nat) : Int)) (ks) (xj)).2.1), .int .i64 ((touchO (((n : Nat) : Int)) (ks) (xj)).2.2)]) rfl rfl) ?_
            refine o_y (v := .int .i64 ((touchO (((n : Nat) : Int)) (ks) (xj)).2.2)) rfl rfl (y_extract (vs := #[.int .i64 ((touchO (((n : Nat) : Int)) (ks) (xj)).1), .bool ((touchO (((n : Nat) : Int)) (ks) (xj)).2.1), .int .i64 ((touchO (((n : Nat) : Int)) (ks) (xj)).2.2)]) rfl rfl) ?_
            refine o_y (v := .int .i64 ((touchO (((n : Nat) : Int)) (ks) (xj)).1)) rfl rfl (y_assign rfl) ?_
            refine o_y (v := .bool ((touchO (((n : Nat) : Int)) (ks) (xj)).2.1)) rfl rfl (y_assign rfl) ?_
            refine o_y (v := .int .i64 ((touchO (((n : Nat) : Int)) (ks) (xj)).2.2)) rfl rfl (y_assign rfl) ?_
            refine o_nil ?_
            refine hK29 _ _ ?_
            refine c_seq fun K30 hK30 => ?_
            refine c_seq fun K31 hK31 => ?_
            refine c_region ?_
            refine o_y (v := .int .i64 ((touchO (((n : Nat) : Int)) (ks) (xj)).2.2)) rfl rfl (y_move rfl) ?_
            refine o_y (v := .bool (false)) rfl rfl (y_bool (y_neq rfl rfl rfl) (decide_eq_false (fun h => h (piv_touch hn1.1 hv2_2 _).1))) ?_
            refine o_nil ?_
            refine hK31 _ _ ?_
            refine c_cond (t := false) rfl (fun h => by cases h) (fun _ => ?_)
            refine c_skip ?_
            refine hK30 _ _ ?_
            refine c_seq fun K32 hK32 => ?_
            refine c_region ?_
            refine o_y (v := .int .i64 (1)) rfl rfl (y_assign rfl) ?_
            refine o_nil ?_
            refine hK32 _ _ ?_
            refine c_block ?_
            refine c_loop (fun d R H => ∃ (m : Nat), d = n - (m) ∧ (1 ≤ m) ∧ (m ≤ n) ∧ R 1 = .slice (a1) ((l).length) (cap1) ∧ R 5 = .int .i64 (((n : Nat) : Int)) ∧ R 6 = .pointer (some ⟨g1, 0, none⟩) ∧ R 12 = .int .i64 (((j : Nat) : Int)) ∧ R 16 = .int .i64 (((m : Nat) : Int)) ∧ H = ((HLp9) : Hp)) (n - (1)) ?_ ?_
            ·
              refine ⟨1, rfl, by omega, by omega, h2_1, h2_5, h2_6, h2_12, (ie (a := 1) (b := ((1 : Nat) : Int)) (by omega)), rfl⟩
            ·
              rintro d4 R4 Hz ⟨m, hd4, hv4_0, hv4_1, h4_1, h4_5, h4_6, h4_12, h4_16, hHz⟩
              replace hHz := hHz.symm
              subst hHz
              have hP2 := (piv_touch hn1.1 hv2_2 xj).2
              have hN2 := (touch_facts (r := ((n : Nat) : Int)) hN1 xj).nd
              refine c_seq fun K33 hK33 => ?_
              refine c_seq fun K34 hK34 => ?_
              refine c_region ?_
              refine o_y (v := .int .i64 (((m : Nat) : Int))) rfl rfl (y_move h4_16) ?_
              refine o_y (v := .int .i64 (((n : Nat) : Int))) rfl rfl (y_move h4_5) ?_
              refine o_y (v := .bool (decide (((m : Nat) : Int) < ((n : Nat) : Int)))) rfl rfl (y_lss rfl rfl rfl) ?_
              refine o_nil ?_
              refine hK34 _ _ ?_
              refine c_cond (t := decide (((m : Nat) : Int) < ((n : Nat) : Int))) rfl (fun hc7 => ?_) (fun hc7 => ?_)
              ·
                replace hc7 := of_decide_eq_true hc7
                -- way LFLTTLT
                refine c_skip ?_
                refine hK33 _ _ ?_
                refine c_seq fun K35 hK35 => ?_
                refine c_block ?_
                refine c_seq fun K36 hK36 => ?_
                refine c_region ?_
                refine o_y (v := .pointer (some ⟨g1, 0, none⟩)) rfl rfl (y_move h4_6) ?_
                refine o_y (v := .int .i64 (((m : Nat) : Int))) rfl rfl (y_move h4_16) ?_
                refine o_y (v := .int .i64 ((-1) - (((m : Nat) : Int)))) rfl rfl (y_sub rfl rfl (wi_i64 (by omega) (by omega))) ?_
                refine o_y (v := .bool (true)) rfl rfl (y_bool (y_call (vs := [.pointer (some ⟨g1, 0, none⟩), .int .i64 ((-1) - (((m : Nat) : Int)))]) b14 rfl (fun w hw => L_has hLp9 ((-1) - (((m : Nat) : Int))) w (hw.sat (List.Sublist.refl _)))) ((piv_has hN2 hP2 hv4_0 (by omega)).1)) ?_
                refine o_y (v := .bool (false)) rfl rfl (y_not rfl rfl) ?_
                refine o_y (v := .bool (false)) rfl rfl (y_move rfl) ?_
                refine o_guard (j := 5) (d := 92) (b := false) rfl rfl rfl (fun _ => ?_) rfl (fun h => by cases h)
                refine o_y (v := .pointer (some ⟨g1, 0, none⟩)) rfl rfl (y_move h4_6) ?_
                refine o_guard (j := 5) (d := 92) (b := false) rfl rfl rfl (fun _ => ?_) rfl (fun h => by cases h)
                refine o_y (v := .int .i64 (((m : Nat) : Int))) rfl rfl (y_move h4_16) ?_
                refine o_guard (j := 5) (d := 92) (b := false) rfl rfl rfl (fun _ => ?_) rfl (fun h => by cases h)
                refine o_y (v := .int .i64 ((-1) - (((m : Nat) : Int)))) rfl rfl (y_sub rfl rfl (wi_i64 (by omega) (by omega))) ?_
                refine o_guard (j := 5) (d := 92) (b := false) rfl rfl rfl (fun _ => ?_) rfl (fun h => by cases h)
                refine o_y (v := .bool (true)) rfl rfl (y_bool (y_call (vs := [.pointer (some ⟨g1, 0, none⟩), .int .i64 ((-1) - (((m : Nat) : Int)))]) b16 rfl (fun w hw => L_pnd hLp9 ((-1) - (((m : Nat) : Int))) w (hw.sat (List.Sublist.refl _)))) ((piv_has hN2 hP2 hv4_0 (by omega)).2)) ?_
                refine o_guard (j := 5) (d := 92) (b := false) rfl rfl rfl (fun _ => ?_) rfl (fun h => by cases h)
                refine o_y (v := .bool (false)) rfl rfl (y_not rfl rfl) ?_
                refine o_y (v := .bool (false)) rfl rfl (y_pick (b := false) rfl rfl) ?_
                refine o_nil ?_
                refine hK36 _ _ ?_
                refine c_cond (t := false) rfl (fun h => by cases h) (fun _ => ?_)
                refine c_skip ?_
                refine hK35 _ _ ?_
                refine c_region ?_
                refine o_y (v := .int .i64 (((m : Nat) : Int))) rfl rfl (y_move h4_16) ?_
                refine o_y (v := .int .i64 ((((m : Nat) : Int)) + 1)) rfl rfl (y_add rfl rfl (wi_i64 (by omega) (by omega))) ?_
                refine o_y (v := .int .i64 ((((m : Nat) : Int)) + 1)) rfl rfl (y_assign rfl) ?_
                refine o_nil ?_
                refine ⟨_, by omega, m + 1, rfl, by omega, by omega, h4_1, h4_5, h4_6, h4_12, (ie (a := (((m : Nat) : Int)) + 1) (b := ((m + 1 : Nat) : Int)) (by omega)), rfl⟩
              ·
                replace hc7 := of_decide_eq_false hc7
                -- way LFLTTLF
                refine c_exit ?_
                refine hK28 _ _ ?_
                refine c_region ?_
                refine o_y (v := .int .i64 (((j : Nat) : Int))) rfl rfl (y_move h4_12) ?_
                refine o_y (v := .int .i64 ((((j : Nat) : Int)) + 1)) rfl rfl (y_add rfl rfl (wi_i64 (by omega) (by omega))) ?_
                refine o_y (v := .int .i64 ((((j : Nat) : Int)) + 1)) rfl rfl (y_assign rfl) ?_
                refine o_nil ?_
                refine ⟨_, by omega, j + 1, touchK (((n : Nat) : Int)) (ks) (xj), HLp9, rfl, by omega, hLp9, (piv_touch hn1.1 hv2_2 _).2, h4_1, h4_5, h4_6, (ie (a := (((j : Nat) : Int)) + 1) (b := ((j + 1 : Nat) : Int)) (by omega)), rfl⟩
          ·
            replace hc6 := of_decide_eq_false hc6
            -- way LFLTF
            refine c_exit ?_
            refine hK15 _ _ ?_
            refine c_seq fun K37 hK37 => ?_
            refine c_region ?_
            refine o_y (v := .pointer (some ⟨g1, 0, none⟩)) rfl rfl (y_move h2_6) ?_
            refine o_callV (fun Hy => (HM ++ Hy)) (fun Hy => by have h := List.perm_append_comm (l₁ := ((HM) : Hp)) (l₂ := Hy); first | exact h | simpa [Value.cells] using h) (vs := [.pointer (some ⟨g1, 0, none⟩)]) b11 rfl rfl (fun w hw => L_keys hv2_1 w (hw.sat (List.Sublist.refl _)) (by omega)) ?_
            rintro _ Hp10 ⟨ap10, gp10, capp10, rfl, hvp10⟩
            have hzp10 := hvp10.le
            have hyp10 := hvp10.mx
            simp only [maxLen] at hyp10
            refine o_y (v := .slice (ap10) ((keyK (ks)).length) (capp10)) rfl rfl (y_assign rfl) ?_
            refine o_nil ?_
            refine hK37 _ _ ?_
            refine c_seq fun K38 hK38 => ?_
            refine c_seq fun K39 hK39 => ?_
            refine c_region ?_
            refine o_y (v := .int .i64 (0)) rfl rfl (y_assign rfl) ?_
            refine o_nil ?_
            refine hK39 _ _ ?_
            refine c_block ?_
            refine c_loop (fun d R H => ∃ (i3 : Nat) (k3 : Ks) (H3 : Hp), d = (keyK (ks)).length - (i3) ∧ (i3 ≤ (keyK (ks)).length) ∧ (ListS g1 (((n : Nat) : Int)) (k3) (H3)) ∧ (keyK (k3) = keyK (ks)) ∧ (AllP (k3) (i3)) ∧ R 5 = .int .i64 (((n : Nat) : Int)) ∧ R 6 = .pointer (some ⟨g1, 0, none⟩) ∧ R 17 = .slice (ap10) ((keyK (ks)).length) (capp10) ∧ R 18 = .int .i64 (((i3 : Nat) : Int)) ∧ H = ((H3 ++ Hp10) : Hp)) ((keyK (ks)).length - (0)) ?_ ?_
            ·
              refine ⟨0, ks, HM, rfl, by omega, hv2_1, rfl, allp_0, h2_5, h2_6, rfl, (ie (a := 0) (b := ((0 : Nat) : Int)) (by omega)), rfl⟩
            ·
              rintro d5 R5 _ ⟨i3, k3, H3, hd5, hv5_0, hv5_1, hv5_2, hv5_3, h5_5, h5_6, h5_17, h5_18, rfl⟩
              refine c_seq fun K40 hK40 => ?_
              refine c_seq fun K41 hK41 => ?_
              refine c_region ?_
              refine o_y (v := .int .i64 (((i3 : Nat) : Int))) rfl rfl (y_move h5_18) ?_
              refine o_y (v := .slice (ap10) ((keyK (ks)).length) (capp10)) rfl rfl (y_move h5_17) ?_
              refine o_y (v := .int .i64 ((((keyK (ks)).length : Nat) : Int))) rfl rfl (y_len rfl Try.underlying22) ?_
              refine o_y (v := .bool (decide (((i3 : Nat) : Int) < (((keyK (ks)).length : Nat) : Int)))) rfl rfl (y_lss rfl rfl rfl) ?_
              refine o_nil ?_
              refine hK41 _ _ ?_
              refine c_cond (t := decide (((i3 : Nat) : Int) < (((keyK (ks)).length : Nat) : Int))) rfl (fun hc8 => ?_) (fun hc8 => ?_)
              ·
                replace hc8 := of_decide_eq_true hc8
                -- way LFLTFLT
                have hps := pin_step (ks := k3) (k0 := ks) (i := i3) (hv5_1.le.2) hv5_2 (List.getElem?_eq_getElem (by omega)) hv5_3
                refine c_skip ?_
                refine hK40 _ _ ?_
                refine c_seq fun K42 hK42 => ?_
                refine c_block ?_
                refine c_seq fun K43 hK43 => ?_
                refine c_region ?_
                refine o_y (v := .pointer (some ⟨g1, 0, none⟩)) rfl rfl (y_move h5_6) ?_
                refine o_y (v := .slice (ap10) ((keyK (ks)).length) (capp10)) rfl rfl (y_move h5_17) ?_
                refine o_y (v := .int .i64 (((i3 : Nat) : Int))) rfl rfl (y_move h5_18) ?_
                refine o_y (v := .pointer (some ⟨gp10, 0 + i3 * 1, none⟩)) rfl rfl (y_ixO i3 (hvp10.at_ (by first | omega | (simp; done) | (simp; omega))) rfl rfl Try.underlying22 s3 (by omega) (by first | omega | (simp; done) | (simp; omega))) ?_
                refine o_y (v := .int .i64 ((keyK (ks))[i3]'(by first | omega | (simp; done) | (simp; omega)))) rfl rfl (y_load rfl Try.underlying3 rfl (SlG.rd (SlG.own hvp10 (fun p hp => by first | exact List.mem_append_right _ (List.mem_append_right _ hp) | exact (List.mem_append_right _ hp))) i3 (by first | omega | (simp; done) | (simp; omega)))) ?_
                refine o_callS ((H3)) ((Hp10)) (by have h := List.perm_append_comm_assoc ([] : Hp) H3 ((Hp10) : Hp); first | exact h | simpa [List.append_assoc] using h) (vs := [.pointer (some ⟨g1, 0, none⟩), .int .i64 ((keyK (ks))[i3]'(by first | omega | (simp; done) | (simp; omega))), .bool (true)]) b13 rfl rfl (fun w hat => L_pin hv5_1 ((keyK (ks))[i3]'(by first | omega | (simp; done) | (simp; omega))) w hat (true)) ?_
                rintro _ HLp11 ⟨rfl, hLp11⟩
                refine o_y (v := .bool (false)) rfl rfl (y_bool (y_neq rfl rfl rfl) (decide_eq_false (fun h => h hps.1))) ?_
                refine o_nil ?_
                refine hK43 _ _ ?_
                refine c_cond (t := false) rfl (fun h => by cases h) (fun _ => ?_)
                refine c_skip ?_
                refine hK42 _ _ ?_
                refine c_region ?_
                refine o_y (v := .int .i64 (((i3 : Nat) : Int))) rfl rfl (y_move h5_18) ?_
                refine o_y (v := .int .i64 ((((i3 : Nat) : Int)) + 1)) rfl rfl (y_add rfl rfl (wi_i64 (by omega) (by omega))) ?_
                refine o_y (v := .int .i64 ((((i3 : Nat) : Int)) + 1)) rfl rfl (y_assign rfl) ?_
                refine o_nil ?_
                refine ⟨_, by omega, i3 + 1, pinK (k3) ((keyK (ks))[i3]'(by first | omega | (simp; done) | (simp; omega))) (true), HLp11, rfl, by omega, hLp11, hps.2.1, hps.2.2, h5_5, h5_6, h5_17, (ie (a := (((i3 : Nat) : Int)) + 1) (b := ((i3 + 1 : Nat) : Int)) (by omega)), rfl⟩
              ·
                replace hc8 := of_decide_eq_false hc8
                -- way LFLTFLF
                have hi3 : i3 = n := by omega
                have hl3 : k3.length = n := by have h := congrArg List.length hv5_2; rw [keyK_len', hlen] at h; exact h
                have ha3 : AllP k3 n := by rw [hi3] at hv5_3; exact hv5_3
                refine c_exit ?_
                refine hK38 _ _ ?_
                refine c_seq fun K44 hK44 => ?_
                refine c_region ?_
                refine o_y (v := .pointer (some ⟨g1, 0, none⟩)) rfl rfl (y_move h5_6) ?_
                refine o_callS ((H3)) ((Hp10)) (by have h := List.perm_append_comm_assoc ([] : Hp) H3 ((Hp10) : Hp); first | exact h | simpa [List.append_assoc] using h) (vs := [.pointer (some ⟨g1, 0, none⟩), .int .i64 (1099511627776)]) b9 rfl rfl (fun w hat => L_touch hv5_1 (1099511627776) w hat) ?_
                rintro _ HLp12 ⟨rfl, hLp12⟩
                refine o_y (v := .tuple #[.int .i64 ((touchO (((n : Nat) : Int)) (k3) (1099511627776)).1), .bool ((touchO (((n : Nat) : Int)) (k3) (1099511627776)).2.1), .int .i64 ((touchO (((n : Nat) : Int)) (k3) (1099511627776)).2.2)]) rfl rfl (y_move rfl) ?_
                refine o_y (v := .int .i64 ((touchO (((n : Nat) : Int)) (k3) (1099511627776)).1)) rfl rfl (y_extract (vs := #[.int .i64 ((touchO (((n : Nat) : Int)) (k3) (1099511627776)).1), .bool ((touchO (((n : Nat) : Int)) (k3) (1099511627776)).2.1), .int .i64 ((touchO (((n : Nat) : Int)) (k3) (1099511627776)).2.2)]) rfl rfl) ?_
                refine o_y (v := .bool ((touchO (((n : Nat) : Int)) (k3) (1099511627776)).2.1)) rfl rfl (y_extract (vs := #[.int .i64 ((touchO (((n : Nat) : Int)) (k3) (1099511627776)).1), .bool ((touchO (((n : Nat) : Int)) (k3) (1099511627776)).2.1), .int .i64 ((touchO (((n : Nat) : Int)) (k3) (1099511627776)).2.2)]) rfl rfl) ?_
                refine o_y (v := .int .i64 ((touchO (((n : Nat) : Int)) (k3) (1099511627776)).2.2)) rfl rfl (y_extract (vs := #[.int .i64 ((touchO (((n : Nat) : Int)) (k3) (1099511627776)).1), .bool ((touchO (((n : Nat) : Int)) (k3) (1099511627776)).2.1), .int .i64 ((touchO (((n : Nat) : Int)) (k3) (1099511627776)).2.2)]) rfl rfl) ?_
                refine o_y (v := .int .i64 ((touchO (((n : Nat) : Int)) (k3) (1099511627776)).1)) rfl rfl (y_assign rfl) ?_
                refine o_y (v := .bool ((touchO (((n : Nat) : Int)) (k3) (1099511627776)).2.1)) rfl rfl (y_assign rfl) ?_
                refine o_y (v := .int .i64 ((touchO (((n : Nat) : Int)) (k3) (1099511627776)).2.2)) rfl rfl (y_assign rfl) ?_
                refine o_nil ?_
                refine hK44 _ _ ?_
                refine c_seq fun K45 hK45 => ?_
                refine c_region ?_
                refine o_y (v := .slice (ap10) ((keyK (ks)).length) (capp10)) rfl rfl (y_move h5_17) ?_
                refine o_y (v := .int .i64 ((((keyK (ks)).length : Nat) : Int))) rfl rfl (y_len rfl Try.underlying22) ?_
                refine o_y (v := .int .i64 (((n : Nat) : Int))) rfl rfl (y_move h5_5) ?_
                refine o_y (v := .bool (true)) rfl rfl (y_bool (y_eql rfl rfl rfl) (decide_eq_true (by omega))) ?_
                refine o_y (v := .bool (true)) rfl rfl (y_move rfl) ?_
                refine o_guard (j := 4) (d := 124) (b := true) rfl rfl rfl (fun _ => ?_) rfl (fun h => by cases h)
                refine o_y (v := .bool (false)) rfl rfl (y_bool (y_move rfl) (full_gone hl3 ha3 _)) ?_
                refine o_guard (j := 4) (d := 124) (b := true) rfl rfl rfl (fun _ => ?_) rfl (fun h => by cases h)
                refine o_y (v := .bool (true)) rfl rfl (y_not rfl rfl) ?_
                refine o_guard (j := 4) (d := 124) (b := true) rfl rfl rfl (fun _ => ?_) rfl (fun h => by cases h)
                refine o_y (v := .bool (true)) rfl rfl (y_move rfl) ?_
                refine o_guard (j := 7) (d := 127) (b := true) rfl rfl rfl (fun _ => ?_) rfl (fun h => by cases h)
                refine o_y (v := .int .i64 ((touchO (((n : Nat) : Int)) (k3) (1099511627776)).2.2)) rfl rfl (y_move rfl) ?_
                refine o_guard (j := 7) (d := 127) (b := true) rfl rfl rfl (fun _ => ?_) rfl (fun h => by cases h)
                refine o_y (v := .bool (decide ((touchO (((n : Nat) : Int)) (k3) (1099511627776)).2.2 = 10))) rfl rfl (y_eql rfl rfl rfl) ?_
                refine o_guard (j := 4) (d := 124) (b := true) rfl rfl rfl (fun _ => ?_) rfl (fun h => by cases h)
                refine o_y (v := .bool (decide ((touchO (((n : Nat) : Int)) (k3) (1099511627776)).2.2 = 10))) rfl rfl (y_pick (b := true) rfl rfl) ?_
                refine o_guard (j := 4) (d := 124) (b := true) rfl rfl rfl (fun _ => ?_) rfl (fun h => by cases h)
                refine o_y (v := .bool (decide ((touchO (((n : Nat) : Int)) (k3) (1099511627776)).2.2 = 10))) rfl rfl (y_move rfl) ?_
                cases hc9 : (decide ((touchO (((n : Nat) : Int)) (k3) (1099511627776)).2.2 = 10) : Bool)
                ·
                  have hc9' := of_decide_eq_false hc9
                  -- way LFLTFLFF
                  refine o_guard (j := 11) (d := 131) (b := false) rfl rfl rfl (fun h => by cases h) rfl (fun _ => ?_)
                  refine o_guard (j := 11) (d := 131) (b := false) rfl rfl rfl (fun h => by cases h) rfl (fun _ => ?_)
                  refine o_guard (j := 11) (d := 131) (b := false) rfl rfl rfl (fun h => by cases h) rfl (fun _ => ?_)
                  refine o_guard (j := 11) (d := 131) (b := false) rfl rfl rfl (fun h => by cases h) rfl (fun _ => ?_)
                  refine o_guard (j := 4) (d := 124) (b := true) rfl rfl rfl (fun _ => ?_) rfl (fun h => by cases h)
                  refine o_y (v := .bool (false)) rfl rfl (y_pick (b := false) rfl rfl) ?_
                  refine o_guard (j := 4) (d := 124) (b := true) rfl rfl rfl (fun _ => ?_) rfl (fun h => by cases h)
                  refine o_y (v := .bool (false)) rfl rfl (y_move rfl) ?_
                  refine o_guard (j := 17) (d := 137) (b := false) rfl rfl rfl (fun _ => ?_) rfl (fun h => by cases h)
                  refine o_y (v := .pointer (some ⟨g1, 0, none⟩)) rfl rfl (y_move h5_6) ?_
                  refine o_guard (j := 17) (d := 137) (b := false) rfl rfl rfl (fun _ => ?_) rfl (fun h => by cases h)
                  refine o_y (v := .bool (true)) rfl rfl (y_bool (y_call (vs := [.pointer (some ⟨g1, 0, none⟩), .int .i64 (1099511627776)]) b14 rfl (fun w hw => L_has hLp12 (1099511627776) w (hw.sat (List.sublist_append_left _ _)))) (full_not hl3 ha3 _ hc9')) ?_
                  refine o_guard (j := 4) (d := 124) (b := true) rfl rfl rfl (fun _ => ?_) rfl (fun h => by cases h)
                  refine o_y (v := .bool (true)) rfl rfl (y_pick (b := false) rfl rfl) ?_
                  refine o_y (v := .bool (true)) rfl rfl (y_pick (b := true) rfl rfl) ?_
                  refine o_y (v := .bool (true)) rfl rfl (y_move rfl) ?_
                  refine o_guard (j := 22) (d := 142) (b := true) rfl rfl rfl (fun _ => ?_) rfl (fun h => by cases h)
                  refine o_y (v := .bool (true)) rfl rfl (y_call (vs := []) b12 rfl (fun w hw => f12_lives w)) ?_
                  refine o_y (v := .bool (true)) rfl rfl (y_pick (b := true) rfl rfl) ?_
                  refine o_y (v := .bool (true)) rfl rfl (y_assign rfl) ?_
                  refine o_nil ?_
                  refine hK45 _ _ ?_
                  refine c_ret ?_
                  refine fun w hw => ⟨[.bool (true)], ⟨rfl, trivial⟩, ?_⟩
                  exact rfl
                ·
                  have hc9' := of_decide_eq_true hc9
                  -- way LFLTFLFT
                  refine o_guard (j := 11) (d := 131) (b := true) rfl rfl rfl (fun _ => ?_) rfl (fun h => by cases h)
                  refine o_y (v := .pointer (some ⟨g1, 0, none⟩)) rfl rfl (y_move h5_6) ?_
                  refine o_guard (j := 11) (d := 131) (b := true) rfl rfl rfl (fun _ => ?_) rfl (fun h => by cases h)
                  refine o_callV (fun Hy => (HLp12 ++ (Hp10 ++ Hy))) (fun Hy => by have h := List.perm_append_comm (l₁ := ((HLp12 ++ Hp10) : Hp)) (l₂ := Hy); first | exact h | simpa [Value.cells] using h) (vs := [.pointer (some ⟨g1, 0, none⟩)]) b11 rfl rfl (fun w hw => L_keys hLp12 w (hw.sat (List.sublist_append_left _ _)) (by omega)) ?_
                  rintro _ Hp13 ⟨ap13, gp13, capp13, rfl, hvp13⟩
                  have hzp13 := hvp13.le
                  have hyp13 := hvp13.mx
                  simp only [maxLen] at hyp13
                  refine o_guard (j := 11) (d := 131) (b := true) rfl rfl rfl (fun _ => ?_) rfl (fun h => by cases h)
                  refine o_y (v := .slice (ap10) ((keyK (ks)).length) (capp10)) rfl rfl (y_move h5_17) ?_
                  refine o_guard (j := 11) (d := 131) (b := true) rfl rfl rfl (fun _ => ?_) rfl (fun h => by cases h)
                  refine o_y (v := .bool (true)) rfl rfl (y_bool (y_call (vs := [.slice (ap13) ((keyK (touchK (((n : Nat) : Int)) (k3) (1099511627776))).length) (capp13), .slice (ap10) ((keyK (ks)).length) (capp10)]) b10 rfl (fun w hw => f10_Ints (keyK (touchK (((n : Nat) : Int)) (k3) (1099511627776))) (keyK (ks)) _ _ _ _ _ _ _ _ _ _ w (by first | rfl | (simp; done) | (simp; omega)) ((SlG.own hvp13 (fun p hp => by first | exact List.mem_append_right _ (List.mem_append_right _ (List.mem_append_right _ hp)) | exact (List.mem_append_right _ (List.mem_append_right _ hp)))) w hw) (by first | rfl | (simp; done) | (simp; omega)) ((SlG.own hvp10 (fun p hp => by first | exact List.mem_append_right _ (List.mem_append_right _ (List.mem_append_left _ hp)) | exact (List.mem_append_right _ (List.mem_append_left _ hp)))) w hw))) (decide_eq_true (by rw [full_ten hl3 ha3 _ hc9']; exact hv5_2))) ?_
                  refine o_guard (j := 4) (d := 124) (b := true) rfl rfl rfl (fun _ => ?_) rfl (fun h => by cases h)
                  refine o_y (v := .bool (true)) rfl rfl (y_pick (b := true) rfl rfl) ?_
                  refine o_guard (j := 4) (d := 124) (b := true) rfl rfl rfl (fun _ => ?_) rfl (fun h => by cases h)
                  refine o_y (v := .bool (true)) rfl rfl (y_move rfl) ?_
                  refine o_guard (j := 17) (d := 137) (b := true) rfl rfl rfl (fun h => by cases h) rfl (fun _ => ?_)
                  refine o_guard (j := 17) (d := 137) (b := true) rfl rfl rfl (fun h => by cases h) rfl (fun _ => ?_)
                  refine o_guard (j := 4) (d := 124) (b := true) rfl rfl rfl (fun _ => ?_) rfl (fun h => by cases h)
                  refine o_y (v := .bool (true)) rfl rfl (y_pick (b := true) rfl rfl) ?_
                  refine o_y (v := .bool (true)) rfl rfl (y_pick (b := true) rfl rfl) ?_
                  refine o_y (v := .bool (true)) rfl rfl (y_move rfl) ?_
                  refine o_guard (j := 22) (d := 142) (b := true) rfl rfl rfl (fun _ => ?_) rfl (fun h => by cases h)
                  refine o_y (v := .bool (true)) rfl rfl (y_call (vs := []) b12 rfl (fun w hw => f12_lives w)) ?_
                  refine o_y (v := .bool (true)) rfl rfl (y_pick (b := true) rfl rfl) ?_
                  refine o_y (v := .bool (true)) rfl rfl (y_assign rfl) ?_
                  refine o_nil ?_
                  refine hK45 _ _ ?_
                  refine c_ret ?_
                  refine fun w hw => ⟨[.bool (true)], ⟨rfl, trivial⟩, ?_⟩
                  exact rfl

end Go.Proofs.Ytpbpenlceigddaa.Lru
