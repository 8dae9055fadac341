/- Proved: what a law of package lru comes to; the conditions stand in the statements. -/
import Derived.Test.YtpbpenlceigddaaLruB
set_option linter.unusedVariables false
set_option linter.unusedSimpArgs false
set_option linter.unnecessarySimpa false
namespace Go.Proofs.Ytpbpenlceigddaa.Lru
open Go Go.RowKit Go.Proofs.Ytpbpenlceigddaa.Eng

set_option maxRecDepth 100000 in
set_option maxHeartbeats 4000000 in
theorem f6_bad (n : Int) (l : List Act) (a1 : Option Addr) (b1 o1 cap1 m1 : Nat) (w : World) (hn : n < 1 ∨ 64 < n) (hm1 : m1 = l.length) (hs : Sl eAct w l a1 b1 o1 cap1) :
    Calls Try.prog 6 [.int .i64 (n), .slice (a1) (m1) (cap1)].toArray w fun e w' => e = .returned (.bool (true)) ∧ Below w.heap.size w w' := by
  refine (calls_of (P := Try.prog) (n := 63) (w0 := w) (S := fun _ => False) (H := []) (T := fun v _ => v = (.bool (true))) Try.func6 rfl Try.ntmps6 (Nat.le_of_ble_eq_true rfl) [.tmp 4] rfl (St.nil w _) ?_).mono fun e w' ⟨v, H', he, hs, hT⟩ => ⟨by rw [he, hT], hs.below⟩
  refine c_seq fun K1 hK1 => ?_
  refine c_region ?_
  refine o_y (v := .bool (false)) rfl rfl (y_assign rfl) ?_
  refine o_nil ?_
  refine hK1 _ _ ?_
  refine c_seq fun K2 hK2 => ?_
  refine c_region ?_
  refine o_y (v := .int .i64 (n)) rfl rfl (y_move rfl) ?_
  refine o_y (v := .tuple #[.pointer none, .int .i64 (2)]) rfl rfl (y_call (vs := [.int .i64 (n)]) b8 rfl (fun w hw => f8_NewBad (n) w hn)) ?_
  refine o_y (v := .tuple #[.pointer none, .int .i64 (2)]) rfl rfl (y_move rfl) ?_
  refine o_y (v := .pointer none) rfl rfl (y_extract (vs := #[.pointer none, .int .i64 (2)]) rfl rfl) ?_
  refine o_y (v := .int .i64 (2)) rfl rfl (y_extract (vs := #[.pointer none, .int .i64 (2)]) rfl rfl) ?_
  refine o_y (v := .pointer none) rfl rfl (y_assign rfl) ?_
  refine o_y (v := .int .i64 (2)) rfl rfl (y_assign rfl) ?_
  refine o_nil ?_
  refine hK2 _ _ ?_
  refine c_seq fun K3 hK3 => ?_
  refine c_region ?_
  refine o_y (v := .int .i64 (n)) rfl rfl (y_move rfl) ?_
  refine o_y (v := .tuple #[.pointer none, .int .i64 (2)]) rfl rfl (y_call (vs := [.int .i64 (n)]) b17 rfl (fun w hw => f17_RNewBad (n) w hn)) ?_
  refine o_y (v := .tuple #[.pointer none, .int .i64 (2)]) rfl rfl (y_move rfl) ?_
  refine o_y (v := .pointer none) rfl rfl (y_extract (vs := #[.pointer none, .int .i64 (2)]) rfl rfl) ?_
  refine o_y (v := .int .i64 (2)) rfl rfl (y_extract (vs := #[.pointer none, .int .i64 (2)]) rfl rfl) ?_
  refine o_y (v := .pointer none) rfl rfl (y_assign rfl) ?_
  refine o_y (v := .int .i64 (2)) rfl rfl (y_assign rfl) ?_
  refine o_nil ?_
  refine hK3 _ _ ?_
  refine c_seq fun K4 hK4 => ?_
  refine c_seq fun K5 hK5 => ?_
  refine c_region ?_
  refine o_y (v := .int .i64 (2)) rfl rfl (y_move rfl) ?_
  refine o_y (v := .int .i64 (2)) rfl rfl (y_move rfl) ?_
  refine o_y (v := .bool (false)) rfl rfl (y_neq rfl rfl (by decide)) ?_
  refine o_nil ?_
  refine hK5 _ _ ?_
  refine c_cond (t := false) rfl (fun h => by cases h) (fun _ => ?_)
  refine c_skip ?_
  refine hK4 _ _ ?_
  refine c_seq fun K6 hK6 => ?_
  refine c_seq fun K7 hK7 => ?_
  refine c_region ?_
  refine o_y (v := .int .i64 (2)) rfl rfl (y_move rfl) ?_
  refine o_y (v := .bool (true)) rfl rfl (y_neq rfl rfl (by decide)) ?_
  refine o_nil ?_
  refine hK7 _ _ ?_
  refine c_cond (t := true) rfl (fun _ => ?_) (fun h => by cases h)
  refine c_seq fun K8 hK8 => ?_
  refine c_region ?_
  refine o_y (v := .pointer none) rfl rfl (y_move rfl) ?_
  refine o_y (v := .bool (true)) rfl rfl (y_eqlN rfl rfl Try.underlying23 rfl) ?_
  refine o_y (v := .bool (true)) rfl rfl (y_move rfl) ?_
  refine o_guard (j := 2) (d := 27) (b := true) rfl rfl rfl (fun _ => ?_) rfl (fun h => by cases h)
  refine o_y (v := .bool (true)) rfl rfl (y_call (vs := []) b12 rfl (fun w hw => f12_lives w)) ?_
  refine o_y (v := .bool (true)) rfl rfl (y_pick (b := true) rfl rfl) ?_
  refine o_y (v := .bool (true)) rfl rfl (y_assign rfl) ?_
  refine o_nil ?_
  refine hK8 _ _ ?_
  refine c_ret ?_
  refine fun w hw => ⟨[.bool (true)], ⟨rfl, trivial⟩, ?_⟩
  exact rfl

set_option maxRecDepth 100000 in
set_option maxHeartbeats 4000000 in
theorem f6_ok (n : Int) (l : List Act) (a1 : Option Addr) (b1 o1 cap1 m1 : Nat) (w : World) (h1 : 1 ≤ n) (h64 : n ≤ 64) (hm1 : m1 = l.length) (hs : Sl eAct w l a1 b1 o1 cap1) :
    Calls Try.prog 6 [.int .i64 (n), .slice (a1) (m1) (cap1)].toArray w fun e w' => e = .returned (.bool (true)) ∧ Below w.heap.size w w' := by
  subst hm1
  have hle := hs.le
  have hmx := hs.mx
  simp only [maxLen] at hmx
  refine (calls_of (P := Try.prog) (n := 63) (w0 := w) (S := fun _ => False) (H := []) (T := fun v _ => v = (.bool (true))) Try.func6 rfl Try.ntmps6 (Nat.le_of_ble_eq_true rfl) [.tmp 4] rfl (St.nil w _) ?_).mono fun e w' ⟨v, H', he, hs, hT⟩ => ⟨by rw [he, hT], hs.below⟩
  refine c_seq fun K1 hK1 => ?_
  refine c_region ?_
  refine o_y (v := .bool (false)) rfl rfl (y_assign rfl) ?_
  refine o_nil ?_
  refine hK1 _ _ ?_
  refine c_seq fun K2 hK2 => ?_
  refine c_region ?_
  refine o_y (v := .int .i64 (n)) rfl rfl (y_move rfl) ?_
  refine o_callV (fun Hy => (Hy)) (fun Hy => by have h := List.perm_append_comm (l₁ := ([] : Hp)) (l₂ := Hy); first | exact h | simpa [Value.cells] using h) (vs := [.int .i64 (n)]) b8 rfl rfl (fun w hw => L_new (n) w (by omega) (by omega)) ?_
  rintro _ Hp2 ⟨g1, rfl, hLp2⟩
  refine o_y (v := .tuple #[.pointer (some ⟨g1, 0, none⟩), .int .i64 (0)]) rfl rfl (y_move rfl) ?_
  refine o_y (v := .pointer (some ⟨g1, 0, none⟩)) rfl rfl (y_extract (vs := #[.pointer (some ⟨g1, 0, none⟩), .int .i64 (0)]) rfl rfl) ?_
  refine o_y (v := .int .i64 (0)) rfl rfl (y_extract (vs := #[.pointer (some ⟨g1, 0, none⟩), .int .i64 (0)]) rfl rfl) ?_
  refine o_y (v := .pointer (some ⟨g1, 0, none⟩)) rfl rfl (y_assign rfl) ?_
  refine o_y (v := .int .i64 (0)) rfl rfl (y_assign rfl) ?_
  refine o_nil ?_
  refine hK2 _ _ ?_
  refine c_seq fun K3 hK3 => ?_
  refine c_region ?_
  refine o_y (v := .int .i64 (n)) rfl rfl (y_move rfl) ?_
  refine o_callV (fun Hy => (Hp2 ++ Hy)) (fun Hy => by have h := List.perm_append_comm (l₁ := ((Hp2) : Hp)) (l₂ := Hy); first | exact h | simpa [Value.cells] using h) (vs := [.int .i64 (n)]) b17 rfl rfl (fun w hw => f17_RNew (n) w (by omega) (by omega)) ?_
  rintro _ Hp4 ⟨g3, rfl, hRp4⟩
  refine o_y (v := .tuple #[.pointer (some ⟨g3, 0, none⟩), .int .i64 (0)]) rfl rfl (y_move rfl) ?_
  refine o_y (v := .pointer (some ⟨g3, 0, none⟩)) rfl rfl (y_extract (vs := #[.pointer (some ⟨g3, 0, none⟩), .int .i64 (0)]) rfl rfl) ?_
  refine o_y (v := .int .i64 (0)) rfl rfl (y_extract (vs := #[.pointer (some ⟨g3, 0, none⟩), .int .i64 (0)]) rfl rfl) ?_
  refine o_y (v := .pointer (some ⟨g3, 0, none⟩)) rfl rfl (y_assign rfl) ?_
  refine o_y (v := .int .i64 (0)) rfl rfl (y_assign rfl) ?_
  refine o_nil ?_
  refine hK3 _ _ ?_
  refine c_seq fun K4 hK4 => ?_
  refine c_seq fun K5 hK5 => ?_
  refine c_region ?_
  refine o_y (v := .int .i64 (0)) rfl rfl (y_move rfl) ?_
  refine o_y (v := .int .i64 (0)) rfl rfl (y_move rfl) ?_
  refine o_y (v := .bool (false)) rfl rfl (y_neq rfl rfl (by decide)) ?_
  refine o_nil ?_
  refine hK5 _ _ ?_
  refine c_cond (t := false) rfl (fun h => by cases h) (fun _ => ?_)
  refine c_skip ?_
  refine hK4 _ _ ?_
  refine c_seq fun K6 hK6 => ?_
  refine c_seq fun K7 hK7 => ?_
  refine c_region ?_
  refine o_y (v := .int .i64 (0)) rfl rfl (y_move rfl) ?_
  refine o_y (v := .bool (false)) rfl rfl (y_neq rfl rfl (by decide)) ?_
  refine o_nil ?_
  refine hK7 _ _ ?_
  refine c_cond (t := false) rfl (fun h => by cases h) (fun _ => ?_)
  refine c_skip ?_
  refine hK6 _ _ ?_
  refine c_seq fun K8 hK8 => ?_
  refine c_seq fun K9 hK9 => ?_
  refine c_region ?_
  refine o_y (v := .int .i64 (0)) rfl rfl (y_assign rfl) ?_
  refine o_nil ?_
  refine hK9 _ _ ?_
  refine c_block ?_
  refine c_loop (fun d R H => ∃ (j : Nat) (ks : Ks) (HL : Hp) (HR : Hp), d = l.length - (j) ∧ (j ≤ l.length) ∧ (ListS g1 (n) (ks) (HL)) ∧ (RefK g3 (n) (ks) (HR)) ∧ R 0 = .int .i64 (n) ∧ R 1 = .slice (a1) ((l).length) (cap1) ∧ R 5 = .pointer (some ⟨g1, 0, none⟩) ∧ R 7 = .pointer (some ⟨g3, 0, none⟩) ∧ R 9 = .int .i64 (((j : Nat) : Int)) ∧ H = ((HL ++ HR) : Hp)) (l.length - (0)) ?_ ?_
  ·
    refine ⟨0, [], Hp2, Hp4, rfl, by omega, hLp2, hRp4, rfl, rfl, rfl, rfl, (ie (a := 0) (b := ((0 : Nat) : Int)) (by omega)), rfl⟩
  ·
    rintro d1 R1 _ ⟨j, ks, HL, HR, hd1, hv1_0, hv1_1, hv1_2, h1_0, h1_1, h1_5, h1_7, h1_9, rfl⟩
    refine c_seq fun K10 hK10 => ?_
    refine c_seq fun K11 hK11 => ?_
    refine c_region ?_
    refine o_y (v := .int .i64 (((j : Nat) : Int))) rfl rfl (y_move h1_9) ?_
    refine o_y (v := .slice (a1) ((l).length) (cap1)) rfl rfl (y_move h1_1) ?_
    refine o_y (v := .int .i64 ((((l).length : Nat) : Int))) rfl rfl (y_len rfl Try.underlying33) ?_
    refine o_y (v := .bool (decide (((j : Nat) : Int) < (((l).length : Nat) : Int)))) rfl rfl (y_lss rfl rfl rfl) ?_
    refine o_y (v := .bool (decide (((j : Nat) : Int) < (((l).length : Nat) : Int)))) rfl rfl (y_move rfl) ?_
    cases hc1 : (decide (((j : Nat) : Int) < (((l).length : Nat) : Int)) : Bool)
    ·
      have hc1' := of_decide_eq_false hc1
      -- way LF
      refine o_guard (j := 4) (d := 34) (b := false) rfl rfl rfl (fun h => by cases h) rfl (fun _ => ?_)
      refine o_guard (j := 4) (d := 34) (b := false) rfl rfl rfl (fun h => by cases h) rfl (fun _ => ?_)
      refine o_y (v := .bool (false)) rfl rfl (y_pick (b := false) rfl rfl) ?_
      refine o_nil ?_
      refine hK11 _ _ ?_
      refine c_cond (t := false) rfl (fun h => by cases h) (fun _ => ?_)
      refine c_exit ?_
      refine hK8 _ _ ?_
      refine c_seq fun K12 hK12 => ?_
      refine c_region ?_
      refine o_y (v := .bool (true)) rfl rfl (y_call (vs := []) b12 rfl (fun w hw => f12_lives w)) ?_
      refine o_y (v := .bool (true)) rfl rfl (y_assign rfl) ?_
      refine o_nil ?_
      refine hK12 _ _ ?_
      refine c_ret ?_
      refine fun w hw => ⟨[.bool (true)], ⟨rfl, trivial⟩, ?_⟩
      exact rfl
    ·
      have hc1' := of_decide_eq_true hc1
      -- way LT
      refine o_guard (j := 4) (d := 34) (b := true) rfl rfl rfl (fun _ => ?_) rfl (fun h => by cases h)
      refine o_y (v := .int .i64 (((j : Nat) : Int))) rfl rfl (y_move h1_9) ?_
      refine o_guard (j := 4) (d := 34) (b := true) rfl rfl rfl (fun _ => ?_) rfl (fun h => by cases h)
      refine o_y (v := .bool (decide (((j : Nat) : Int) < 150))) rfl rfl (y_lss rfl rfl rfl) ?_
      refine o_y (v := .bool (decide (((j : Nat) : Int) < 150))) rfl rfl (y_pick (b := true) rfl rfl) ?_
      refine o_nil ?_
      refine hK11 _ _ ?_
      refine c_cond (t := decide (((j : Nat) : Int) < 150)) rfl (fun hc2 => ?_) (fun hc2 => ?_)
      ·
        replace hc2 := of_decide_eq_true hc2
        -- way LTT
        obtain ⟨xj, hxj⟩ : ∃ x, l[j]? = some x := ⟨_, List.getElem?_eq_getElem (by omega)⟩
        refine c_skip ?_
        refine hK10 _ _ ?_
        refine c_seq fun K13 hK13 => ?_
        refine c_block ?_
        refine c_seq fun K14 hK14 => ?_
        refine c_region ?_
        refine o_y (v := .pointer (some ⟨g1, 0, none⟩)) rfl rfl (y_move h1_5) ?_
        refine o_y (v := .pointer (some ⟨g3, 0, none⟩)) rfl rfl (y_move h1_7) ?_
        refine o_y (v := .slice (a1) ((l).length) (cap1)) rfl rfl (y_move h1_1) ?_
        refine o_y (v := .int .i64 (((j : Nat) : Int))) rfl rfl (y_move h1_9) ?_
        refine o_y (v := .pointer (some ⟨b1, o1 + j * 4, none⟩)) rfl rfl (y_ixO j (hs.at_ (by omega)) rfl rfl Try.underlying33 s35 (by omega) (by first | omega | (simp; done) | (simp; omega))) ?_
        refine o_y (v := .agg (Act.arr (xj))) rfl rfl (y_loadN rfl Try.underlying35 rfl (by first | (rw [s35, eAct.len]; rfl) | (rw [s35]; rfl)) (SlG.rd' (SlG.old hs (fun _ h => h)) hxj)) ?_
        refine o_callS ((HL ++ HR)) ([]) (by first | exact List.Perm.refl _ | (simp only [List.append_nil]; first | done | exact List.Perm.refl _)) (vs := [.pointer (some ⟨g1, 0, none⟩), .pointer (some ⟨g3, 0, none⟩), .agg (Act.arr (xj))]) b18 rfl rfl (fun w hat => L_both (xj) w hv1_1 hv1_2 (by omega) (by omega) hat) ?_
        rintro _ _ ⟨rfl, ksp5, HLp5, HRp5, rfl, hLp5, hRp5⟩
        have hlep5 := hLp5.le.1
        refine o_perm (H' := (HLp5 ++ HRp5)) (by first | exact List.Perm.refl _ | (simp only [List.append_nil]; first | done | exact List.Perm.refl _)) ?_
        refine o_y (v := .bool (false)) rfl rfl (y_not rfl rfl) ?_
        refine o_y (v := .bool (false)) rfl rfl (y_move rfl) ?_
        refine o_guard (j := 8) (d := 48) (b := false) rfl rfl rfl (fun _ => ?_) rfl (fun h => by cases h)
        refine o_y (v := .pointer (some ⟨g1, 0, none⟩)) rfl rfl (y_move h1_5) ?_
        refine o_guard (j := 8) (d := 48) (b := false) rfl rfl rfl (fun _ => ?_) rfl (fun h => by cases h)
        refine o_callV (fun Hy => (HLp5 ++ (HRp5 ++ Hy))) (fun Hy => by have h := List.perm_append_comm (l₁ := ((HLp5 ++ HRp5) : Hp)) (l₂ := Hy); first | exact h | simpa [Value.cells] using h) (vs := [.pointer (some ⟨g1, 0, none⟩)]) b11 rfl rfl (fun w hw => L_keys hLp5 w (hw.sat (List.sublist_append_left _ _)) (by omega)) ?_
        rintro _ Hp6 ⟨ap6, gp6, capp6, rfl, hvp6⟩
        have hzp6 := hvp6.le
        have hyp6 := hvp6.mx
        simp only [maxLen] at hyp6
        refine o_guard (j := 8) (d := 48) (b := false) rfl rfl rfl (fun _ => ?_) rfl (fun h => by cases h)
        refine o_y (v := .pointer (some ⟨g3, 0, none⟩)) rfl rfl (y_move h1_7) ?_
        refine o_guard (j := 8) (d := 48) (b := false) rfl rfl rfl (fun _ => ?_) rfl (fun h => by cases h)
        refine o_callV (fun Hy => (HLp5 ++ (HRp5 ++ (Hp6 ++ Hy)))) (fun Hy => by have h := List.perm_append_comm (l₁ := ((HLp5 ++ (HRp5 ++ Hp6)) : Hp)) (l₂ := Hy); first | exact h | simpa [Value.cells] using h) (vs := [.pointer (some ⟨g3, 0, none⟩)]) b19 rfl rfl (fun w hw => RL_keys hRp5 (by omega) w (hw.sat (List.Sublist.trans (List.sublist_append_left _ _) (List.sublist_append_right _ _)))) ?_
        rintro _ Hp7 ⟨ap7, gp7, capp7, rfl, hvp7⟩
        have hzp7 := hvp7.le
        have hyp7 := hvp7.mx
        simp only [maxLen] at hyp7
        refine o_guard (j := 8) (d := 48) (b := false) rfl rfl rfl (fun _ => ?_) rfl (fun h => by cases h)
        refine o_y (v := .bool (true)) rfl rfl (y_bool (y_call (vs := [.slice (ap6) ((keyK (ksp5)).length) (capp6), .slice (ap7) ((keyK (ksp5)).length) (capp7)]) b10 rfl (fun w hw => f10_Ints (keyK (ksp5)) (keyK (ksp5)) _ _ _ _ _ _ _ _ _ _ w (by first | rfl | (simp; done) | (simp; omega)) ((SlG.own hvp6 (fun p hp => by first | exact List.mem_append_right _ (List.mem_append_right _ (List.mem_append_right _ (List.mem_append_left _ hp))) | exact (List.mem_append_right _ (List.mem_append_right _ (List.mem_append_left _ hp))))) w hw) (by first | rfl | (simp; done) | (simp; omega)) ((SlG.own hvp7 (fun p hp => by first | exact List.mem_append_right _ (List.mem_append_right _ (List.mem_append_right _ (List.mem_append_right _ hp))) | exact (List.mem_append_right _ (List.mem_append_right _ (List.mem_append_right _ hp))))) w hw))) (decide_eq_true rfl)) ?_
        refine o_guard (j := 8) (d := 48) (b := false) rfl rfl rfl (fun _ => ?_) rfl (fun h => by cases h)
        refine o_y (v := .bool (false)) rfl rfl (y_not rfl rfl) ?_
        refine o_y (v := .bool (false)) rfl rfl (y_pick (b := false) rfl rfl) ?_
        refine o_y (v := .bool (false)) rfl rfl (y_move rfl) ?_
        refine o_guard (j := 16) (d := 56) (b := false) rfl rfl rfl (fun _ => ?_) rfl (fun h => by cases h)
        refine o_y (v := .pointer (some ⟨g1, 0, none⟩)) rfl rfl (y_move h1_5) ?_
        refine o_guard (j := 16) (d := 56) (b := false) rfl rfl rfl (fun _ => ?_) rfl (fun h => by cases h)
        refine o_y (v := .int .i64 (n)) rfl rfl (y_call (vs := [.pointer (some ⟨g1, 0, none⟩)]) b20 rfl (fun w hw => L_room hLp5 w (hw.sat (List.sublist_append_left _ _)))) ?_
        refine o_guard (j := 16) (d := 56) (b := false) rfl rfl rfl (fun _ => ?_) rfl (fun h => by cases h)
        refine o_y (v := .int .i64 (n)) rfl rfl (y_move h1_0) ?_
        refine o_guard (j := 16) (d := 56) (b := false) rfl rfl rfl (fun _ => ?_) rfl (fun h => by cases h)
        refine o_y (v := .bool (false)) rfl rfl (y_bool (y_neq rfl rfl rfl) (decide_eq_false (fun h => h rfl))) ?_
        refine o_y (v := .bool (false)) rfl rfl (y_pick (b := false) rfl rfl) ?_
        refine o_nil ?_
        refine hK14 _ _ ?_
        refine c_cond (t := false) rfl (fun h => by cases h) (fun _ => ?_)
        refine c_skip ?_
        refine hK13 _ _ ?_
        refine c_region ?_
        refine o_y (v := .int .i64 (((j : Nat) : Int))) rfl rfl (y_move h1_9) ?_
        refine o_y (v := .int .i64 ((((j : Nat) : Int)) + 1)) rfl rfl (y_add rfl rfl (wi_i64 (by omega) (by omega))) ?_
        refine o_y (v := .int .i64 ((((j : Nat) : Int)) + 1)) rfl rfl (y_assign rfl) ?_
        refine o_forget (H' := (HLp5 ++ HRp5)) (List.Sublist.append (List.Sublist.refl _) (List.sublist_append_left _ _)) ?_
        refine o_nil ?_
        refine ⟨_, by omega, j + 1, ksp5, HLp5, HRp5, rfl, by omega, hLp5, hRp5, h1_0, h1_1, h1_5, h1_7, (ie (a := (((j : Nat) : Int)) + 1) (b := ((j + 1 : Nat) : Int)) (by omega)), rfl⟩
      ·
        replace hc2 := of_decide_eq_false hc2
        -- way LTF
        refine c_exit ?_
        refine hK8 _ _ ?_
        refine c_seq fun K15 hK15 => ?_
        refine c_region ?_
        refine o_y (v := .bool (true)) rfl rfl (y_call (vs := []) b12 rfl (fun w hw => f12_lives w)) ?_
        refine o_y (v := .bool (true)) rfl rfl (y_assign rfl) ?_
        refine o_nil ?_
        refine hK15 _ _ ?_
        refine c_ret ?_
        refine fun w hw => ⟨[.bool (true)], ⟨rfl, trivial⟩, ?_⟩
        exact rfl

theorem f6_LruPlays (n : Int) (l : List Act) (a1 : Option Addr) (b1 o1 cap1 m1 : Nat) (w : World) (hm1 : m1 = l.length) (hs : Sl eAct w l a1 b1 o1 cap1) : Calls Try.prog 6 [.int .i64 n, .slice a1 m1 cap1].toArray w fun e w' => e = .returned (.bool true) ∧ Below w.heap.size w w' := by
  by_cases hn : n < 1 ∨ 64 < n
  · exact f6_bad n l a1 b1 o1 cap1 m1 w hn hm1 hs
  · exact f6_ok n l a1 b1 o1 cap1 m1 w (by omega) (by omega) hm1 hs

end Go.Proofs.Ytpbpenlceigddaa.Lru
