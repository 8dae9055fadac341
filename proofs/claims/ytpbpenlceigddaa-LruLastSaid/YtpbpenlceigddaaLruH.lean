/- Proved: what the trial of a list comes to; the conditions stand in the statements. -/
import Derived.Test.YtpbpenlceigddaaLruList
set_option linter.unusedVariables false
set_option linter.unusedSimpArgs false
set_option linter.unnecessarySimpa false
namespace Go.Proofs.Ytpbpenlceigddaa.Lru
open Go Go.RowKit Go.Proofs.Ytpbpenlceigddaa.Eng

set_option maxRecDepth 100000 in
set_option maxHeartbeats 4000000 in
theorem f10_Ints (l1 l2 : List Int) (a1 : Option Addr) (b1 o1 cap1 m1 : Nat) (a2 : Option Addr) (b2 o2 cap2 m2 : Nat) (w : World) (hm1 : m1 = l1.length) (hs1 : Sl eInt w l1 a1 b1 o1 cap1) (hm2 : m2 = l2.length) (hs2 : Sl eInt w l2 a2 b2 o2 cap2) :
    Calls Try.prog 10 [.slice (a1) (m1) (cap1), .slice (a2) (m2) (cap2)].toArray w fun e w' => e = .returned (.bool (decide (l1 = l2))) ∧ Below w.heap.size w w' := by
  subst hm1
  subst hm2
  have hle1 := hs1.le
  have hmx1 := hs1.mx
  have hle2 := hs2.le
  have hmx2 := hs2.mx
  simp only [maxLen] at hmx1 hmx2
  refine (calls_of (P := Try.prog) (n := 26) (w0 := w) (S := fun _ => False) (H := []) (T := fun v _ => v = (.bool (decide (l1 = l2)))) Try.func10 rfl Try.ntmps10 (Nat.le_of_ble_eq_true rfl) [.tmp 4] rfl (St.nil w _) ?_).mono fun e w' ⟨v, H', he, hs, hT⟩ => ⟨by rw [he, hT], hs.below⟩
  refine c_seq fun K1 hK1 => ?_
  refine c_region ?_
  refine o_y (v := .bool (false)) rfl rfl (y_assign rfl) ?_
  refine o_nil ?_
  refine hK1 _ _ ?_
  refine c_seq fun K2 hK2 => ?_
  refine c_seq fun K3 hK3 => ?_
  refine c_region ?_
  refine o_y (v := .slice (a1) ((l1).length) (cap1)) rfl rfl (y_move rfl) ?_
  refine o_y (v := .int .i64 ((((l1).length : Nat) : Int))) rfl rfl (y_len rfl Try.underlying22) ?_
  refine o_y (v := .slice (a2) ((l2).length) (cap2)) rfl rfl (y_move rfl) ?_
  refine o_y (v := .int .i64 ((((l2).length : Nat) : Int))) rfl rfl (y_len rfl Try.underlying22) ?_
  refine o_y (v := .bool (decide ((((l1).length : Nat) : Int) ≠ (((l2).length : Nat) : Int)))) rfl rfl (y_neq rfl rfl rfl) ?_
  refine o_nil ?_
  refine hK3 _ _ ?_
  refine c_cond (t := decide ((((l1).length : Nat) : Int) ≠ (((l2).length : Nat) : Int))) rfl (fun hc1 => ?_) (fun hc1 => ?_)
  ·
    replace hc1 := of_decide_eq_true hc1
    -- way T
    refine c_seq fun K4 hK4 => ?_
    refine c_region ?_
    refine o_y (v := .bool (false)) rfl rfl (y_assign rfl) ?_
    refine o_nil ?_
    refine hK4 _ _ ?_
    refine c_ret ?_
    refine fun w hw => ⟨[.bool (false)], ⟨rfl, trivial⟩, ?_⟩
    exact congrArg Value.bool (Eq.symm (decide_eq_false (by rintro h2; subst h2; first | omega | (simp_all only [not_true_eq_false, ne_eq]; done))))
    first | done | rfl
  ·
    replace hc1 := of_decide_eq_false hc1
    -- way F
    refine c_skip ?_
    refine hK2 _ _ ?_
    refine c_seq fun K5 hK5 => ?_
    refine c_seq fun K6 hK6 => ?_
    refine c_region ?_
    refine o_y (v := .int .i64 (0)) rfl rfl (y_assign rfl) ?_
    refine o_nil ?_
    refine hK6 _ _ ?_
    refine c_block ?_
    refine c_loop (fun d R H => ∃ (j : Nat), d = l1.length - (j) ∧ (j ≤ l1.length) ∧ (l1.length = l2.length) ∧ (l1.take (j) = l2.take (j)) ∧ R 0 = .slice (a1) ((l1).length) (cap1) ∧ R 1 = .slice (a2) ((l2).length) (cap2) ∧ R 5 = .int .i64 (((j : Nat) : Int)) ∧ H = ([] : Hp)) (l1.length - (0)) ?_ ?_
    ·
      refine ⟨0, rfl, by omega, by omega, rfl, rfl, rfl, (ie (a := 0) (b := ((0 : Nat) : Int)) (by omega)), rfl⟩
    ·
      rintro d1 R1 _ ⟨j, hd1, hv1_0, hv1_1, hv1_2, h1_0, h1_1, h1_5, rfl⟩
      refine c_seq fun K7 hK7 => ?_
      refine c_seq fun K8 hK8 => ?_
      refine c_region ?_
      refine o_y (v := .int .i64 (((j : Nat) : Int))) rfl rfl (y_move h1_5) ?_
      refine o_y (v := .slice (a1) ((l1).length) (cap1)) rfl rfl (y_move h1_0) ?_
      refine o_y (v := .int .i64 ((((l1).length : Nat) : Int))) rfl rfl (y_len rfl Try.underlying22) ?_
      refine o_y (v := .bool (decide (((j : Nat) : Int) < (((l1).length : Nat) : Int)))) rfl rfl (y_lss rfl rfl rfl) ?_
      refine o_nil ?_
      refine hK8 _ _ ?_
      refine c_cond (t := decide (((j : Nat) : Int) < (((l1).length : Nat) : Int))) rfl (fun hc2 => ?_) (fun hc2 => ?_)
      ·
        replace hc2 := of_decide_eq_true hc2
        -- way FLT
        refine c_skip ?_
        refine hK7 _ _ ?_
        refine c_seq fun K9 hK9 => ?_
        refine c_block ?_
        refine c_seq fun K10 hK10 => ?_
        refine c_draw 9 (by kernel_rfl) (by kernel_rfl) ?_
        refine q_y (v := .slice (a1) ((l1).length) (cap1)) rfl (y_move h1_0) ?_
        refine q_y (v := .int .i64 (((j : Nat) : Int))) rfl (y_move h1_5) ?_
        refine q_y (v := .pointer (some ⟨b1, o1 + j * 1, none⟩)) rfl (y_ixO j (hs1.at_ (by omega)) rfl rfl Try.underlying22 s3 (by omega) (by first | omega | (simp; done) | (simp; omega))) ?_
        refine q_y (v := .int .i64 ((l1)[j])) rfl (y_load rfl Try.underlying3 rfl (SlG.rd (SlG.old hs1 (fun _ h => h)) j (by first | omega | (simp; done) | (simp; omega)))) ?_
        refine q_y (v := .slice (a2) ((l2).length) (cap2)) rfl (y_move h1_1) ?_
        refine q_y (v := .int .i64 (((j : Nat) : Int))) rfl (y_move h1_5) ?_
        refine q_y (v := .pointer (some ⟨b2, o2 + j * 1, none⟩)) rfl (y_ixO j (hs2.at_ (by omega)) rfl rfl Try.underlying22 s3 (by omega) (by first | omega | (simp; done) | (simp; omega))) ?_
        refine q_y (v := .int .i64 ((l2)[j])) rfl (y_load rfl Try.underlying3 rfl (SlG.rd (SlG.old hs2 (fun _ h => h)) j (by first | omega | (simp; done) | (simp; omega)))) ?_
        refine q_y (v := .bool (decide ((l1)[j] ≠ (l2)[j]))) rfl (y_neq rfl rfl rfl) ?_
        refine q_nil ?_
        refine o_nil ?_
        refine hK10 _ _ ?_
        refine c_cond (t := decide ((l1)[j] ≠ (l2)[j])) rfl (fun hc3 => ?_) (fun hc3 => ?_)
        ·
          replace hc3 := of_decide_eq_true hc3
          -- way FLTT
          refine c_seq fun K11 hK11 => ?_
          refine c_region ?_
          refine o_y (v := .bool (false)) rfl rfl (y_assign rfl) ?_
          refine o_nil ?_
          refine hK11 _ _ ?_
          refine c_ret ?_
          refine fun w hw => ⟨[.bool (false)], ⟨rfl, trivial⟩, ?_⟩
          exact congrArg Value.bool (Eq.symm (decide_eq_false (by rintro h2; subst h2; first | omega | (simp_all only [not_true_eq_false, ne_eq]; done))))
          first | done | rfl
        ·
          replace hc3 := of_decide_eq_false hc3
          -- way FLTF
          refine c_skip ?_
          refine hK9 _ _ ?_
          refine c_region ?_
          refine o_y (v := .int .i64 (((j : Nat) : Int))) rfl rfl (y_move h1_5) ?_
          refine o_y (v := .int .i64 ((((j : Nat) : Int)) + 1)) rfl rfl (y_add rfl rfl (wi_i64 (by omega) (by omega))) ?_
          refine o_y (v := .int .i64 ((((j : Nat) : Int)) + 1)) rfl rfl (y_assign rfl) ?_
          refine o_nil ?_
          refine ⟨_, by omega, j + 1, rfl, by omega, hv1_1, take_next hv1_2 (by omega) (by omega) (by first | assumption | omega), h1_0, h1_1, (ie (a := (((j : Nat) : Int)) + 1) (b := ((j + 1 : Nat) : Int)) (by omega)), rfl⟩
      ·
        replace hc2 := of_decide_eq_false hc2
        -- way FLF
        refine c_exit ?_
        refine hK5 _ _ ?_
        refine c_seq fun K12 hK12 => ?_
        refine c_region ?_
        refine o_y (v := .bool (true)) rfl rfl (y_assign rfl) ?_
        refine o_nil ?_
        refine hK12 _ _ ?_
        refine c_ret ?_
        refine fun w hw => ⟨[.bool (true)], ⟨rfl, trivial⟩, ?_⟩
        exact congrArg Value.bool (Eq.symm (decide_eq_true (take_all hv1_2 (by omega) (by omega))))
        first | done | rfl

set_option maxRecDepth 100000 in
set_option maxHeartbeats 4000000 in
theorem f12_lives  (w : World)  :
    Calls Try.prog 12 [].toArray w fun e w' => e = .returned (.bool (true)) ∧ Below w.heap.size w w' := by
  refine (calls_of (P := Try.prog) (n := 81) (w0 := w) (S := fun _ => False) (H := []) (T := fun v _ => v = (.bool (true))) Try.func12 rfl Try.ntmps12 (Nat.le_of_ble_eq_true rfl) [.tmp 0] rfl (St.nil w _) ?_).mono fun e w' ⟨v, H', he, hs, hT⟩ => ⟨by rw [he, hT], hs.below⟩
  refine c_seq fun K1 hK1 => ?_
  refine c_region ?_
  refine o_y (v := .bool (false)) rfl rfl (y_assign rfl) ?_
  refine o_nil ?_
  refine hK1 _ _ ?_
  refine c_seq fun K2 hK2 => ?_
  refine c_region ?_
  refine o_callV (fun Hy => (Hy)) (fun Hy => by have h := List.perm_append_comm (l₁ := ([] : Hp)) (l₂ := Hy); first | exact h | simpa [Value.cells] using h) (vs := [.int .i64 (2)]) b8 rfl rfl (fun w hw => L_new (2) w (by omega) (by omega)) ?_
  rintro _ Hp2 ⟨g1, rfl, hLp2⟩
  refine o_y (v := .tuple #[.pointer (some ⟨g1, 0, none⟩), .int .i64 (0)]) rfl rfl (y_move rfl) ?_
  refine o_y (v := .pointer (some ⟨g1, 0, none⟩)) rfl rfl (y_extract (vs := #[.pointer (some ⟨g1, 0, none⟩), .int .i64 (0)]) rfl rfl) ?_
  refine o_y (v := .int .i64 (0)) rfl rfl (y_extract (vs := #[.pointer (some ⟨g1, 0, none⟩), .int .i64 (0)]) rfl rfl) ?_
  refine o_y (v := .pointer (some ⟨g1, 0, none⟩)) rfl rfl (y_assign rfl) ?_
  refine o_y (v := .int .i64 (0)) rfl rfl (y_assign rfl) ?_
  refine o_nil ?_
  refine hK2 _ _ ?_
  refine c_seq fun K3 hK3 => ?_
  refine c_region ?_
  refine o_y (v := .pointer (some ⟨g1, 0, none⟩)) rfl rfl (y_move rfl) ?_
  refine o_callS ((Hp2)) ([]) (by first | exact List.Perm.refl _ | (simp only [List.append_nil]; first | done | exact List.Perm.refl _)) (vs := [.pointer (some ⟨g1, 0, none⟩), .int .i64 (5)]) b9 rfl rfl (fun w hat => L_touch hLp2 (5) w hat) ?_
  rintro _ HLp3 ⟨rfl, hLp3⟩
  refine o_perm (H' := (HLp3)) (by first | exact List.Perm.refl _ | (simp only [List.append_nil]; first | done | exact List.Perm.refl _)) ?_
  rw [show touchO (2) ([]) (5) = (0, false, 0) from (by decide +kernel)]
  rw [show touchK (2) ([]) (5) = [(5, false)] from (by decide +kernel)] at hLp3
  refine o_y (v := .tuple #[.int .i64 (0), .bool (false), .int .i64 (0)]) rfl rfl (y_move rfl) ?_
  refine o_y (v := .int .i64 (0)) rfl rfl (y_extract (vs := #[.int .i64 (0), .bool (false), .int .i64 (0)]) rfl rfl) ?_
  refine o_y (v := .bool (false)) rfl rfl (y_extract (vs := #[.int .i64 (0), .bool (false), .int .i64 (0)]) rfl rfl) ?_
  refine o_y (v := .int .i64 (0)) rfl rfl (y_extract (vs := #[.int .i64 (0), .bool (false), .int .i64 (0)]) rfl rfl) ?_
  refine o_y (v := .int .i64 (0)) rfl rfl (y_assign rfl) ?_
  refine o_y (v := .bool (false)) rfl rfl (y_assign rfl) ?_
  refine o_y (v := .int .i64 (0)) rfl rfl (y_assign rfl) ?_
  refine o_nil ?_
  refine hK3 _ _ ?_
  refine c_seq fun K4 hK4 => ?_
  refine c_region ?_
  refine o_y (v := .pointer (some ⟨g1, 0, none⟩)) rfl rfl (y_move rfl) ?_
  refine o_callS ((HLp3)) ([]) (by first | exact List.Perm.refl _ | (simp only [List.append_nil]; first | done | exact List.Perm.refl _)) (vs := [.pointer (some ⟨g1, 0, none⟩), .int .i64 (6)]) b9 rfl rfl (fun w hat => L_touch hLp3 (6) w hat) ?_
  rintro _ HLp4 ⟨rfl, hLp4⟩
  refine o_perm (H' := (HLp4)) (by first | exact List.Perm.refl _ | (simp only [List.append_nil]; first | done | exact List.Perm.refl _)) ?_
  rw [show touchO (2) ([(5, false)]) (6) = (0, false, 0) from (by decide +kernel)]
  rw [show touchK (2) ([(5, false)]) (6) = [(6, false), (5, false)] from (by decide +kernel)] at hLp4
  refine o_y (v := .tuple #[.int .i64 (0), .bool (false), .int .i64 (0)]) rfl rfl (y_move rfl) ?_
  refine o_y (v := .int .i64 (0)) rfl rfl (y_extract (vs := #[.int .i64 (0), .bool (false), .int .i64 (0)]) rfl rfl) ?_
  refine o_y (v := .bool (false)) rfl rfl (y_extract (vs := #[.int .i64 (0), .bool (false), .int .i64 (0)]) rfl rfl) ?_
  refine o_y (v := .int .i64 (0)) rfl rfl (y_extract (vs := #[.int .i64 (0), .bool (false), .int .i64 (0)]) rfl rfl) ?_
  refine o_y (v := .int .i64 (0)) rfl rfl (y_assign rfl) ?_
  refine o_y (v := .bool (false)) rfl rfl (y_assign rfl) ?_
  refine o_y (v := .int .i64 (0)) rfl rfl (y_assign rfl) ?_
  refine o_nil ?_
  refine hK4 _ _ ?_
  refine c_seq fun K5 hK5 => ?_
  refine c_region ?_
  refine o_y (v := .pointer (some ⟨g1, 0, none⟩)) rfl rfl (y_move rfl) ?_
  refine o_callS ((HLp4)) ([]) (by first | exact List.Perm.refl _ | (simp only [List.append_nil]; first | done | exact List.Perm.refl _)) (vs := [.pointer (some ⟨g1, 0, none⟩), .int .i64 (5), .bool (true)]) b13 rfl rfl (fun w hat => L_pin hLp4 (5) w hat (true)) ?_
  rintro _ HLp5 ⟨rfl, hLp5⟩
  refine o_perm (H' := (HLp5)) (by first | exact List.Perm.refl _ | (simp only [List.append_nil]; first | done | exact List.Perm.refl _)) ?_
  rw [show pinK ([(6, false), (5, false)]) (5) (true) = [(6, false), (5, true)] from (by decide +kernel)] at hLp5
  refine o_y (v := .int .i64 (errK ([(6, false), (5, false)]) (5))) rfl rfl (y_assign rfl) ?_
  refine o_nil ?_
  refine hK5 _ _ ?_
  refine c_seq fun K6 hK6 => ?_
  refine c_region ?_
  refine o_y (v := .pointer (some ⟨g1, 0, none⟩)) rfl rfl (y_move rfl) ?_
  refine o_callS ((HLp5)) ([]) (by first | exact List.Perm.refl _ | (simp only [List.append_nil]; first | done | exact List.Perm.refl _)) (vs := [.pointer (some ⟨g1, 0, none⟩), .int .i64 (7)]) b9 rfl rfl (fun w hat => L_touch hLp5 (7) w hat) ?_
  rintro _ HLp6 ⟨rfl, hLp6⟩
  refine o_perm (H' := (HLp6)) (by first | exact List.Perm.refl _ | (simp only [List.append_nil]; first | done | exact List.Perm.refl _)) ?_
  rw [show touchO (2) ([(6, false), (5, true)]) (7) = (6, true, 0) from (by decide +kernel)]
  rw [show touchK (2) ([(6, false), (5, true)]) (7) = [(7, false), (5, true)] from (by decide +kernel)] at hLp6
  refine o_y (v := .tuple #[.int .i64 (6), .bool (true), .int .i64 (0)]) rfl rfl (y_move rfl) ?_
  refine o_y (v := .int .i64 (6)) rfl rfl (y_extract (vs := #[.int .i64 (6), .bool (true), .int .i64 (0)]) rfl rfl) ?_
  refine o_y (v := .bool (true)) rfl rfl (y_extract (vs := #[.int .i64 (6), .bool (true), .int .i64 (0)]) rfl rfl) ?_
  refine o_y (v := .int .i64 (0)) rfl rfl (y_extract (vs := #[.int .i64 (6), .bool (true), .int .i64 (0)]) rfl rfl) ?_
  refine o_y (v := .int .i64 (6)) rfl rfl (y_assign rfl) ?_
  refine o_y (v := .bool (true)) rfl rfl (y_assign rfl) ?_
  refine o_y (v := .int .i64 (0)) rfl rfl (y_assign rfl) ?_
  refine o_nil ?_
  refine hK6 _ _ ?_
  refine c_seq fun K7 hK7 => ?_
  refine c_region ?_
  refine o_y (v := .int .i64 (0)) rfl rfl (y_move rfl) ?_
  refine o_y (v := .bool (true)) rfl rfl (y_eql rfl rfl (by decide)) ?_
  refine o_y (v := .bool (true)) rfl rfl (y_move rfl) ?_
  refine o_guard (j := 2) (d := 39) (b := true) rfl rfl rfl (fun _ => ?_) rfl (fun h => by cases h)
  refine o_y (v := .bool (false)) rfl rfl (y_move rfl) ?_
  refine o_guard (j := 2) (d := 39) (b := true) rfl rfl rfl (fun _ => ?_) rfl (fun h => by cases h)
  refine o_y (v := .bool (true)) rfl rfl (y_not rfl rfl) ?_
  refine o_y (v := .bool (true)) rfl rfl (y_pick (b := true) rfl rfl) ?_
  refine o_y (v := .bool (true)) rfl rfl (y_move rfl) ?_
  refine o_guard (j := 6) (d := 43) (b := true) rfl rfl rfl (fun _ => ?_) rfl (fun h => by cases h)
  refine o_y (v := .int .i64 (0)) rfl rfl (y_move rfl) ?_
  refine o_guard (j := 6) (d := 43) (b := true) rfl rfl rfl (fun _ => ?_) rfl (fun h => by cases h)
  refine o_y (v := .bool (true)) rfl rfl (y_eql rfl rfl (by decide)) ?_
  refine o_y (v := .bool (true)) rfl rfl (y_pick (b := true) rfl rfl) ?_
  refine o_y (v := .bool (true)) rfl rfl (y_move rfl) ?_
  refine o_guard (j := 10) (d := 47) (b := true) rfl rfl rfl (fun _ => ?_) rfl (fun h => by cases h)
  refine o_y (v := .bool (false)) rfl rfl (y_move rfl) ?_
  refine o_guard (j := 10) (d := 47) (b := true) rfl rfl rfl (fun _ => ?_) rfl (fun h => by cases h)
  refine o_y (v := .bool (true)) rfl rfl (y_not rfl rfl) ?_
  refine o_y (v := .bool (true)) rfl rfl (y_pick (b := true) rfl rfl) ?_
  refine o_y (v := .bool (true)) rfl rfl (y_move rfl) ?_
  refine o_guard (j := 14) (d := 51) (b := true) rfl rfl rfl (fun _ => ?_) rfl (fun h => by cases h)
  refine o_y (v := .int .i64 (0)) rfl rfl (y_move rfl) ?_
  refine o_guard (j := 14) (d := 51) (b := true) rfl rfl rfl (fun _ => ?_) rfl (fun h => by cases h)
  refine o_y (v := .bool (true)) rfl rfl (y_eql rfl rfl (by decide)) ?_
  refine o_y (v := .bool (true)) rfl rfl (y_pick (b := true) rfl rfl) ?_
  refine o_y (v := .bool (true)) rfl rfl (y_move rfl) ?_
  refine o_guard (j := 18) (d := 55) (b := true) rfl rfl rfl (fun _ => ?_) rfl (fun h => by cases h)
  refine o_y (v := .int .i64 (errK ([(6, false), (5, false)]) (5))) rfl rfl (y_move rfl) ?_
  refine o_guard (j := 18) (d := 55) (b := true) rfl rfl rfl (fun _ => ?_) rfl (fun h => by cases h)
  refine o_y (v := .bool (true)) rfl rfl (y_bool (y_eql rfl rfl rfl) (by decide +kernel)) ?_
  refine o_y (v := .bool (true)) rfl rfl (y_pick (b := true) rfl rfl) ?_
  refine o_y (v := .bool (true)) rfl rfl (y_move rfl) ?_
  refine o_guard (j := 22) (d := 59) (b := true) rfl rfl rfl (fun _ => ?_) rfl (fun h => by cases h)
  refine o_y (v := .int .i64 (6)) rfl rfl (y_move rfl) ?_
  refine o_guard (j := 22) (d := 59) (b := true) rfl rfl rfl (fun _ => ?_) rfl (fun h => by cases h)
  refine o_y (v := .bool (true)) rfl rfl (y_eql rfl rfl (by decide)) ?_
  refine o_y (v := .bool (true)) rfl rfl (y_pick (b := true) rfl rfl) ?_
  refine o_y (v := .bool (true)) rfl rfl (y_move rfl) ?_
  refine o_guard (j := 26) (d := 63) (b := true) rfl rfl rfl (fun _ => ?_) rfl (fun h => by cases h)
  refine o_y (v := .bool (true)) rfl rfl (y_move rfl) ?_
  refine o_y (v := .bool (true)) rfl rfl (y_pick (b := true) rfl rfl) ?_
  refine o_y (v := .bool (true)) rfl rfl (y_move rfl) ?_
  refine o_guard (j := 29) (d := 66) (b := true) rfl rfl rfl (fun _ => ?_) rfl (fun h => by cases h)
  refine o_y (v := .int .i64 (0)) rfl rfl (y_move rfl) ?_
  refine o_guard (j := 29) (d := 66) (b := true) rfl rfl rfl (fun _ => ?_) rfl (fun h => by cases h)
  refine o_y (v := .bool (true)) rfl rfl (y_eql rfl rfl (by decide)) ?_
  refine o_y (v := .bool (true)) rfl rfl (y_pick (b := true) rfl rfl) ?_
  refine o_y (v := .bool (true)) rfl rfl (y_move rfl) ?_
  refine o_guard (j := 33) (d := 70) (b := true) rfl rfl rfl (fun _ => ?_) rfl (fun h => by cases h)
  refine o_y (v := .pointer (some ⟨g1, 0, none⟩)) rfl rfl (y_move rfl) ?_
  refine o_guard (j := 33) (d := 70) (b := true) rfl rfl rfl (fun _ => ?_) rfl (fun h => by cases h)
  refine o_callV (fun Hy => (HLp6 ++ Hy)) (fun Hy => by have h := List.perm_append_comm (l₁ := ((HLp6) : Hp)) (l₂ := Hy); first | exact h | simpa [Value.cells] using h) (vs := [.pointer (some ⟨g1, 0, none⟩)]) b11 rfl rfl (fun w hw => L_keys hLp6 w (hw.sat (List.Sublist.refl _)) (by omega)) ?_
  rintro _ Hp7 ⟨ap7, gp7, capp7, rfl, hvp7⟩
  have hzp7 := hvp7.le
  have hyp7 := hvp7.mx
  simp only [maxLen] at hyp7
  refine o_guard (j := 33) (d := 70) (b := true) rfl rfl rfl (fun _ => ?_) rfl (fun h => by cases h)
  refine o_buildRow SL22 ([(7), (5)] : List Int) (fun x => .int .i64 x) (fun _ => rfl) rfl rfl (by rw [Array.toList_map]; rfl) (by simp) (by simp [eInt]) fun g8 cg8 hrg8 => ?_
  refine o_guard (j := 33) (d := 70) (b := true) rfl rfl rfl (fun _ => ?_) rfl (fun h => by cases h)
  refine o_y (v := .bool (true)) rfl rfl (y_bool (y_call (vs := [.slice (ap7) ((keyK ([(7, false), (5, true)])).length) (capp7), .slice (some ⟨g8, 0, none⟩) (2) (2)]) b10 rfl (fun w hw => f10_Ints (keyK ([(7, false), (5, true)])) ([(7), (5)]) _ _ _ _ _ _ _ _ _ _ w (by first | rfl | (simp; done) | (simp; omega)) ((SlG.own hvp7 (fun p hp => by first | exact List.mem_append_right _ (List.mem_append_right _ hp) | exact (List.mem_cons_of_mem _ (List.mem_append_right _ hp)))) w hw) (by first | rfl | (simp; done) | (simp; omega)) ((SlG.row (k := 0) rfl hrg8) w hw))) (by decide +kernel)) ?_
  refine o_y (v := .bool (true)) rfl rfl (y_pick (b := true) rfl rfl) ?_
  refine o_y (v := .bool (true)) rfl rfl (y_move rfl) ?_
  refine o_guard (j := 39) (d := 76) (b := true) rfl rfl rfl (fun _ => ?_) rfl (fun h => by cases h)
  refine o_y (v := .pointer (some ⟨g1, 0, none⟩)) rfl rfl (y_move rfl) ?_
  refine o_guard (j := 39) (d := 76) (b := true) rfl rfl rfl (fun _ => ?_) rfl (fun h => by cases h)
  refine o_callS ((HLp6)) ([(g8, .cells (cg8) 3 (0, 0))] ++ (Hp7)) (by have h := List.perm_append_comm_assoc ([(g8, .cells (cg8) 3 (0, 0))] : Hp) HLp6 ((Hp7) : Hp); first | exact h | simpa [List.append_assoc] using h) (vs := [.pointer (some ⟨g1, 0, none⟩), .int .i64 (9)]) b15 rfl rfl (fun w hat => L_drop hLp6 (9) w hat ) ?_
  rintro _ HLp9 ⟨rfl, hLp9⟩
  refine o_perm (H' := [(g8, .cells (cg8) 3 (0, 0))] ++ (HLp9 ++ Hp7)) (by have h := (List.perm_append_comm_assoc ((HLp9)) ([(g8, .cells (cg8) 3 (0, 0))] : Hp) ((Hp7) : Hp)).symm; first | exact h | exact List.Perm.append_left _ h | simpa [List.append_assoc] using h) ?_
  refine o_guard (j := 39) (d := 76) (b := true) rfl rfl rfl (fun _ => ?_) rfl (fun h => by cases h)
  refine o_y (v := .bool (true)) rfl rfl (y_bool (y_eql rfl rfl rfl) (by decide +kernel)) ?_
  refine o_y (v := .bool (true)) rfl rfl (y_pick (b := true) rfl rfl) ?_
  refine o_y (v := .bool (true)) rfl rfl (y_assign rfl) ?_
  refine o_nil ?_
  refine hK7 _ _ ?_
  refine c_ret ?_
  refine fun w hw => ⟨[.bool (true)], ⟨rfl, trivial⟩, ?_⟩
  exact rfl

end Go.Proofs.Ytpbpenlceigddaa.Lru
