/- Proved: what a law of package line comes to; the conditions stand in the statements. -/
import Derived.Test.YtediblifbfhahaaLineI
set_option linter.unusedVariables false
set_option linter.unusedSimpArgs false
namespace Go.Proofs.Ytediblifbfhahaa.Line
open Go Go.RowKit Go.Proofs.Ytediblifbfhahaa.Eng

set_option maxRecDepth 100000 in
set_option maxHeartbeats 4000000 in
theorem f5_bad (n : Int) (l : List Act) (a1 : Option Addr) (b1 o1 cap1 m1 : Nat) (w : World) (hn : n < 1 ∨ 16 < n) (hm1 : m1 = l.length) (hs : Sl eAct w l a1 b1 o1 cap1) (hB : ∀ x ∈ l, 0 ≤ x.q ∧ x.q ≤ 18446744073709551615) :
    Calls Try.prog 5 [.int .i64 (n), .slice (a1) (m1) (cap1)].toArray w fun e w' => e = .returned (.bool (true)) ∧ Below w.heap.size w w' := by
  refine (calls_of (P := Try.prog) (n := 62) (w0 := w) (S := fun _ => False) (H := []) (T := fun v _ => v = (.bool (true))) Try.func5 rfl Try.ntmps5 (Nat.le_of_ble_eq_true rfl) [.tmp 4] rfl (St.nil w _) ?_).mono fun e w' ⟨v, H', he, hs, hT⟩ => ⟨by rw [he, hT], hs.below⟩
  refine c_seq fun K1 hK1 => ?_
  refine c_region ?_
  refine o_y (v := .bool (false)) rfl rfl (y_assign rfl) ?_
  refine o_nil ?_
  refine hK1 _ _ ?_
  refine c_seq fun K2 hK2 => ?_
  refine c_region ?_
  refine o_y (v := .int .i64 (n)) rfl rfl (y_move rfl) ?_
  refine o_y (v := .tuple #[.pointer none, .int .i64 (2)]) rfl rfl (y_call (vs := [.int .i64 (n)]) b7 rfl (fun w hw => f7_NewBad (n) w hn)) ?_
  refine o_y (v := .tuple #[.pointer none, .int .i64 (2)]) rfl rfl (y_move rfl) ?_
  refine o_y (v := .pointer none) rfl rfl (y_extract (vs := #[.pointer none, .int .i64 (2)]) rfl rfl) ?_
  refine o_y (v := .int .i64 (2)) rfl rfl (y_extract (vs := #[.pointer none, .int .i64 (2)]) rfl rfl) ?_
  refine o_y (v := .pointer none) rfl rfl (y_assign rfl) ?_
  refine o_y (v := .int .i64 (2)) rfl rfl (y_assign rfl) ?_
  refine o_nil ?_
  refine hK2 _ _ ?_
  refine c_seq fun K3 hK3 => ?_
  refine c_region ?_
  refine o_y (v := .int .i64 (n)) rfl rfl (y_move rfl) ?_
  refine o_y (v := .tuple #[.pointer none, .int .i64 (2)]) rfl rfl (y_call (vs := [.int .i64 (n)]) b17 rfl (fun w hw => f17_RNewBad (n) w hn)) ?_
  refine o_y (v := .tuple #[.pointer none, .int .i64 (2)]) rfl rfl (y_move rfl) ?_
  refine o_y (v := .pointer none) rfl rfl (y_extract (vs := #[.pointer none, .int .i64 (2)]) rfl rfl) ?_
  refine o_y (v := .int .i64 (2)) rfl rfl (y_extract (vs := #[.pointer none, .int .i64 (2)]) rfl rfl) ?_
  refine o_y (v := .pointer none) rfl rfl (y_assign rfl) ?_
  refine o_y (v := .int .i64 (2)) rfl rfl (y_assign rfl) ?_
  refine o_nil ?_
  refine hK3 _ _ ?_
  refine c_seq fun K4 hK4 => ?_
  refine c_seq fun K5 hK5 => ?_
  refine c_region ?_
  refine o_y (v := .int .i64 (2)) rfl rfl (y_move rfl) ?_
  refine o_y (v := .int .i64 (2)) rfl rfl (y_move rfl) ?_
  refine o_y (v := .bool (false)) rfl rfl (y_neq rfl rfl (by decide)) ?_
  refine o_y (v := .bool (false)) rfl rfl (y_move rfl) ?_
  refine o_guard (j := 3) (d := 23) (b := false) rfl rfl rfl (fun _ => ?_) rfl (fun h => by cases h)
  refine o_y (v := .int .i64 (2)) rfl rfl (y_move rfl) ?_
  refine o_guard (j := 3) (d := 23) (b := false) rfl rfl rfl (fun _ => ?_) rfl (fun h => by cases h)
  refine o_y (v := .bool (true)) rfl rfl (y_neq rfl rfl (by decide)) ?_
  refine o_y (v := .bool (true)) rfl rfl (y_pick (b := false) rfl rfl) ?_
  refine o_nil ?_
  refine hK5 _ _ ?_
  refine c_cond (t := true) rfl (fun _ => ?_) (fun h => by cases h)
  refine c_seq fun K6 hK6 => ?_
  refine c_region ?_
  refine o_y (v := .int .i64 (2)) rfl rfl (y_move rfl) ?_
  refine o_y (v := .int .i64 (2)) rfl rfl (y_move rfl) ?_
  refine o_y (v := .bool (true)) rfl rfl (y_eql rfl rfl (by decide)) ?_
  refine o_y (v := .bool (true)) rfl rfl (y_move rfl) ?_
  refine o_guard (j := 3) (d := 30) (b := true) rfl rfl rfl (fun _ => ?_) rfl (fun h => by cases h)
  refine o_y (v := .pointer none) rfl rfl (y_move rfl) ?_
  refine o_guard (j := 3) (d := 30) (b := true) rfl rfl rfl (fun _ => ?_) rfl (fun h => by cases h)
  refine o_y (v := .bool (true)) rfl rfl (y_eqlN rfl rfl Try.underlying25 rfl) ?_
  refine o_y (v := .bool (true)) rfl rfl (y_pick (b := true) rfl rfl) ?_
  refine o_y (v := .bool (true)) rfl rfl (y_move rfl) ?_
  refine o_guard (j := 7) (d := 34) (b := true) rfl rfl rfl (fun _ => ?_) rfl (fun h => by cases h)
  refine o_y (v := .bool (true)) rfl rfl (y_call (vs := []) b12 rfl (fun w hw => f12_lives w)) ?_
  refine o_y (v := .bool (true)) rfl rfl (y_pick (b := true) rfl rfl) ?_
  refine o_y (v := .bool (true)) rfl rfl (y_assign rfl) ?_
  refine o_nil ?_
  refine hK6 _ _ ?_
  refine c_ret ?_
  refine fun w hw => ⟨[.bool (true)], ⟨rfl, trivial⟩, ?_⟩
  exact rfl

set_option maxRecDepth 100000 in
set_option maxHeartbeats 4000000 in
theorem f5_ok (n : Nat) (l : List Act) (a1 : Option Addr) (b1 o1 cap1 m1 : Nat) (w : World) (h1 : 1 ≤ n) (h16 : n ≤ 16) (hm1 : m1 = l.length) (hs : Sl eAct w l a1 b1 o1 cap1) (hB : ∀ x ∈ l, 0 ≤ x.q ∧ x.q ≤ 18446744073709551615) :
    Calls Try.prog 5 [.int .i64 (((n : Nat) : Int)), .slice (a1) (m1) (cap1)].toArray w fun e w' => e = .returned (.bool (true)) ∧ Below w.heap.size w w' := by
  subst hm1
  have hle := hs.le
  have hmx := hs.mx
  simp only [maxLen] at hmx
  refine (calls_of (P := Try.prog) (n := 62) (w0 := w) (S := fun _ => False) (H := []) (T := fun v _ => v = (.bool (true))) Try.func5 rfl Try.ntmps5 (Nat.le_of_ble_eq_true rfl) [.tmp 4] rfl (St.nil w _) ?_).mono fun e w' ⟨v, H', he, hs, hT⟩ => ⟨by rw [he, hT], hs.below⟩
  refine c_seq fun K1 hK1 => ?_
  refine c_region ?_
  refine o_y (v := .bool (false)) rfl rfl (y_assign rfl) ?_
  refine o_nil ?_
  refine hK1 _ _ ?_
  refine c_seq fun K2 hK2 => ?_
  refine c_region ?_
  refine o_y (v := .int .i64 (((n : Nat) : Int))) rfl rfl (y_move rfl) ?_
  refine o_callNew (vs := [.int .i64 (((n : Nat) : Int))]) b7 rfl rfl (fun w hw => f7_New (((n : Nat) : Int)) w (by omega) (by omega)) ?_
  rintro _ _ ⟨g1, rfl, rfl⟩
  refine o_y (v := .tuple #[.pointer (some ⟨g1, 0, none⟩), .int .i64 (0)]) rfl rfl (y_move rfl) ?_
  refine o_y (v := .pointer (some ⟨g1, 0, none⟩)) rfl rfl (y_extract (vs := #[.pointer (some ⟨g1, 0, none⟩), .int .i64 (0)]) rfl rfl) ?_
  refine o_y (v := .int .i64 (0)) rfl rfl (y_extract (vs := #[.pointer (some ⟨g1, 0, none⟩), .int .i64 (0)]) rfl rfl) ?_
  refine o_y (v := .pointer (some ⟨g1, 0, none⟩)) rfl rfl (y_assign rfl) ?_
  refine o_y (v := .int .i64 (0)) rfl rfl (y_assign rfl) ?_
  refine o_nil ?_
  refine hK2 _ _ ?_
  refine c_seq fun K3 hK3 => ?_
  refine c_region ?_
  refine o_y (v := .int .i64 (((n : Nat) : Int))) rfl rfl (y_move rfl) ?_
  refine o_callV (fun Hy => [(g1, .cells (LS.enc (newL (((n : Nat) : Int)))) 54 (0, 0))] ++ (Hy)) (fun Hy => by have h := List.perm_append_comm (l₁ := ([(g1, .cells (LS.enc (newL (((n : Nat) : Int)))) 54 (0, 0))] : Hp)) (l₂ := Hy); first | exact h | simpa [Value.cells] using h) (vs := [.int .i64 (((n : Nat) : Int))]) b17 rfl rfl (fun w hw => f17_RNew n w (by omega) (by omega)) ?_
  rintro _ Hp4 ⟨g3, rfl, hRp4⟩
  refine o_y (v := .tuple #[.pointer (some ⟨g3, 0, none⟩), .int .i64 (0)]) rfl rfl (y_move rfl) ?_
  refine o_y (v := .pointer (some ⟨g3, 0, none⟩)) rfl rfl (y_extract (vs := #[.pointer (some ⟨g3, 0, none⟩), .int .i64 (0)]) rfl rfl) ?_
  refine o_y (v := .int .i64 (0)) rfl rfl (y_extract (vs := #[.pointer (some ⟨g3, 0, none⟩), .int .i64 (0)]) rfl rfl) ?_
  refine o_y (v := .pointer (some ⟨g3, 0, none⟩)) rfl rfl (y_assign rfl) ?_
  refine o_y (v := .int .i64 (0)) rfl rfl (y_assign rfl) ?_
  refine o_nil ?_
  refine hK3 _ _ ?_
  refine c_seq fun K4 hK4 => ?_
  refine c_seq fun K5 hK5 => ?_
  refine c_region ?_
  refine o_y (v := .int .i64 (0)) rfl rfl (y_move rfl) ?_
  refine o_y (v := .int .i64 (0)) rfl rfl (y_move rfl) ?_
  refine o_y (v := .bool (false)) rfl rfl (y_neq rfl rfl (by decide)) ?_
  refine o_y (v := .bool (false)) rfl rfl (y_move rfl) ?_
  refine o_guard (j := 3) (d := 23) (b := false) rfl rfl rfl (fun _ => ?_) rfl (fun h => by cases h)
  refine o_y (v := .int .i64 (0)) rfl rfl (y_move rfl) ?_
  refine o_guard (j := 3) (d := 23) (b := false) rfl rfl rfl (fun _ => ?_) rfl (fun h => by cases h)
  refine o_y (v := .bool (false)) rfl rfl (y_neq rfl rfl (by decide)) ?_
  refine o_y (v := .bool (false)) rfl rfl (y_pick (b := false) rfl rfl) ?_
  refine o_nil ?_
  refine hK5 _ _ ?_
  refine c_cond (t := false) rfl (fun h => by cases h) (fun _ => ?_)
  refine c_skip ?_
  refine hK4 _ _ ?_
  refine c_seq fun K6 hK6 => ?_
  refine c_seq fun K7 hK7 => ?_
  refine c_region ?_
  refine o_y (v := .int .i64 (0)) rfl rfl (y_assign rfl) ?_
  refine o_nil ?_
  refine hK7 _ _ ?_
  refine c_block ?_
  refine c_loop (fun d R H => ∃ (j : Nat) (s : LS) (cs : List Cel) (sq : List Int) (HR : Hp), d = l.length - (j) ∧ (j ≤ l.length) ∧ (j ≤ 80) ∧ (Rel (s) (cs) (sq) (j)) ∧ (RefS g3 (cs) (sq) (HR)) ∧ R 0 = .int .i64 (((n : Nat) : Int)) ∧ R 1 = .slice (a1) ((l).length) (cap1) ∧ R 5 = .pointer (some ⟨g1, 0, none⟩) ∧ R 7 = .pointer (some ⟨g3, 0, none⟩) ∧ R 9 = .int .i64 (((j : Nat) : Int)) ∧ H = ([(g1, .cells (LS.enc (s)) 54 (0, 0))] ++ (HR) : Hp)) (l.length - (0)) ?_ ?_
  ·
    refine ⟨0, newL (((n : Nat) : Int)), List.replicate n cel0, [], Hp4, rfl, by omega, by omega, rel_new n h1 h16, hRp4, rfl, rfl, rfl, rfl, (ie (a := 0) (b := ((0 : Nat) : Int)) (by omega)), rfl⟩
  ·
    rintro d1 R1 _ ⟨j, s, cs, sq, HR, hd1, hv1_0, hv1_1, hv1_2, hv1_3, h1_0, h1_1, h1_5, h1_7, h1_9, rfl⟩
    refine c_seq fun K8 hK8 => ?_
    refine c_seq fun K9 hK9 => ?_
    refine c_region ?_
    refine o_y (v := .int .i64 (((j : Nat) : Int))) rfl rfl (y_move h1_9) ?_
    refine o_y (v := .slice (a1) ((l).length) (cap1)) rfl rfl (y_move h1_1) ?_
    refine o_y (v := .int .i64 ((((l).length : Nat) : Int))) rfl rfl (y_len rfl Try.underlying39) ?_
    refine o_y (v := .bool (decide (((j : Nat) : Int) < (((l).length : Nat) : Int)))) rfl rfl (y_lss rfl rfl rfl) ?_
    refine o_y (v := .bool (decide (((j : Nat) : Int) < (((l).length : Nat) : Int)))) rfl rfl (y_move rfl) ?_
    cases hc1 : (decide (((j : Nat) : Int) < (((l).length : Nat) : Int)) : Bool)
    ·
      have hc1' := of_decide_eq_false hc1
      -- way LF
      refine o_guard (j := 4) (d := 41) (b := false) rfl rfl rfl (fun h => by cases h) rfl (fun _ => ?_)
      refine o_guard (j := 4) (d := 41) (b := false) rfl rfl rfl (fun h => by cases h) rfl (fun _ => ?_)
      refine o_y (v := .bool (false)) rfl rfl (y_pick (b := false) rfl rfl) ?_
      refine o_nil ?_
      refine hK9 _ _ ?_
      refine c_cond (t := false) rfl (fun h => by cases h) (fun _ => ?_)
      refine c_exit ?_
      refine hK6 _ _ ?_
      refine c_seq fun K10 hK10 => ?_
      refine c_region ?_
      refine o_y (v := .bool (true)) rfl rfl (y_call (vs := []) b12 rfl (fun w hw => f12_lives w)) ?_
      refine o_y (v := .bool (true)) rfl rfl (y_assign rfl) ?_
      refine o_nil ?_
      refine hK10 _ _ ?_
      refine c_ret ?_
      refine fun w hw => ⟨[.bool (true)], ⟨rfl, trivial⟩, ?_⟩
      exact rfl
    ·
      have hc1' := of_decide_eq_true hc1
      -- way LT
      refine o_guard (j := 4) (d := 41) (b := true) rfl rfl rfl (fun _ => ?_) rfl (fun h => by cases h)
      refine o_y (v := .int .i64 (((j : Nat) : Int))) rfl rfl (y_move h1_9) ?_
      refine o_guard (j := 4) (d := 41) (b := true) rfl rfl rfl (fun _ => ?_) rfl (fun h => by cases h)
      refine o_y (v := .bool (decide (((j : Nat) : Int) < 80))) rfl rfl (y_lss rfl rfl rfl) ?_
      refine o_y (v := .bool (decide (((j : Nat) : Int) < 80))) rfl rfl (y_pick (b := true) rfl rfl) ?_
      refine o_nil ?_
      refine hK9 _ _ ?_
      refine c_cond (t := decide (((j : Nat) : Int) < 80)) rfl (fun hc2 => ?_) (fun hc2 => ?_)
      ·
        replace hc2 := of_decide_eq_true hc2
        -- way LTT
        obtain ⟨xj, hxj⟩ : ∃ x, l[j]? = some x := ⟨_, List.getElem?_eq_getElem (by omega)⟩
        have hqb := hB _ (List.mem_of_getElem? hxj)
        refine c_skip ?_
        refine hK8 _ _ ?_
        refine c_seq fun K11 hK11 => ?_
        refine c_block ?_
        refine c_seq fun K12 hK12 => ?_
        refine c_region ?_
        refine o_y (v := .pointer (some ⟨g1, 0, none⟩)) rfl rfl (y_move h1_5) ?_
        refine o_y (v := .pointer (some ⟨g3, 0, none⟩)) rfl rfl (y_move h1_7) ?_
        refine o_y (v := .slice (a1) ((l).length) (cap1)) rfl rfl (y_move h1_1) ?_
        refine o_y (v := .int .i64 (((j : Nat) : Int))) rfl rfl (y_move h1_9) ?_
        refine o_y (v := .pointer (some ⟨b1, o1 + j * 67, none⟩)) rfl rfl (y_ixO j (hs.at_ (by omega)) rfl rfl Try.underlying39 s41 (by omega) (by first | omega | (simp; done) | (simp; omega))) ?_
        refine o_y (v := .agg (Act.arr (xj))) rfl rfl (y_loadN rfl Try.underlying41 rfl (by rw [s41, eAct.len]; rfl) (SlG.rd' (SlG.old hs (fun _ h => h)) hxj)) ?_
        refine o_callS ([(g1, .cells (LS.enc (s)) 54 (0, 0))] ++ (HR)) ([]) (by first | exact List.Perm.refl _ | (simp only [List.append_nil]; first | done | exact List.Perm.refl _)) (vs := [.pointer (some ⟨g1, 0, none⟩), .pointer (some ⟨g3, 0, none⟩), .agg (Act.arr (xj))]) b18 rfl rfl (fun w hat => f18_act _ (s) _ (cs) (sq) _ (xj) j w hv1_3 hv1_2 (by omega) hqb hat) ?_
        rintro _ _ ⟨rfl, sp5, csp5, sqp5, HRp5, rfl, hRp5, hrelp5⟩
        refine o_perm (H' := [(g1, .cells (LS.enc (sp5)) 54 (0, 0))] ++ (HRp5)) (by first | exact List.Perm.refl _ | (simp only [List.append_nil]; first | done | exact List.Perm.refl _)) ?_
        refine o_y (v := .bool (false)) rfl rfl (y_not rfl rfl) ?_
        refine o_y (v := .bool (false)) rfl rfl (y_move rfl) ?_
        refine o_guard (j := 8) (d := 55) (b := false) rfl rfl rfl (fun _ => ?_) rfl (fun h => by cases h)
        refine o_y (v := .pointer (some ⟨g1, 0, none⟩)) rfl rfl (y_move h1_5) ?_
        refine o_guard (j := 8) (d := 55) (b := false) rfl rfl rfl (fun _ => ?_) rfl (fun h => by cases h)
        refine o_y (v := .pointer (some ⟨g3, 0, none⟩)) rfl rfl (y_move h1_7) ?_
        refine o_guard (j := 8) (d := 55) (b := false) rfl rfl rfl (fun _ => ?_) rfl (fun h => by cases h)
        refine o_y (v := .bool (true)) rfl rfl (y_call (vs := [.pointer (some ⟨g1, 0, none⟩), .pointer (some ⟨g3, 0, none⟩)]) b19 rfl (fun w hw => f19_alike _ (sp5) _ (csp5) (sqp5) _ (j + 1) w hRp5 hrelp5 (by omega) (hw.sat ((List.Sublist.refl _).cons_cons _)))) ?_
        refine o_guard (j := 8) (d := 55) (b := false) rfl rfl rfl (fun _ => ?_) rfl (fun h => by cases h)
        refine o_y (v := .bool (false)) rfl rfl (y_not rfl rfl) ?_
        refine o_y (v := .bool (false)) rfl rfl (y_pick (b := false) rfl rfl) ?_
        refine o_nil ?_
        refine hK12 _ _ ?_
        refine c_cond (t := false) rfl (fun h => by cases h) (fun _ => ?_)
        refine c_skip ?_
        refine hK11 _ _ ?_
        refine c_region ?_
        refine o_y (v := .int .i64 (((j : Nat) : Int))) rfl rfl (y_move h1_9) ?_
        refine o_y (v := .int .i64 ((((j : Nat) : Int)) + 1)) rfl rfl (y_add rfl rfl (wi_i64 (by omega) (by omega))) ?_
        refine o_y (v := .int .i64 ((((j : Nat) : Int)) + 1)) rfl rfl (y_assign rfl) ?_
        refine o_nil ?_
        refine ⟨_, by omega, j + 1, sp5, csp5, sqp5, HRp5, rfl, by omega, by omega, hrelp5, hRp5, h1_0, h1_1, h1_5, h1_7, (ie (a := (((j : Nat) : Int)) + 1) (b := ((j + 1 : Nat) : Int)) (by omega)), rfl⟩
      ·
        replace hc2 := of_decide_eq_false hc2
        -- way LTF
        refine c_exit ?_
        refine hK6 _ _ ?_
        refine c_seq fun K13 hK13 => ?_
        refine c_region ?_
        refine o_y (v := .bool (true)) rfl rfl (y_call (vs := []) b12 rfl (fun w hw => f12_lives w)) ?_
        refine o_y (v := .bool (true)) rfl rfl (y_assign rfl) ?_
        refine o_nil ?_
        refine hK13 _ _ ?_
        refine c_ret ?_
        refine fun w hw => ⟨[.bool (true)], ⟨rfl, trivial⟩, ?_⟩
        exact rfl

theorem f5_LinePlays (n : Int) (l : List Act) (a1 : Option Addr) (b1 o1 cap1 m1 : Nat) (w : World) (hm1 : m1 = l.length) (hs : Sl eAct w l a1 b1 o1 cap1) (hB : ∀ x ∈ l, 0 ≤ x.q ∧ x.q ≤ 18446744073709551615) : Calls Try.prog 5 [.int .i64 n, .slice a1 m1 cap1].toArray w fun e w' => e = .returned (.bool true) ∧ Below w.heap.size w w' := by
  by_cases hn : n < 1 ∨ 16 < n
  · exact f5_bad n l a1 b1 o1 cap1 m1 w hn hm1 hs hB
  · obtain ⟨k, rfl⟩ : ∃ k : Nat, n = (k : Int) := ⟨n.toNat, by omega⟩
    exact f5_ok k l a1 b1 o1 cap1 m1 w (by omega) (by omega) hm1 hs hB

end Go.Proofs.Ytediblifbfhahaa.Line
