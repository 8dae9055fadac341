/- Proved: what a law of package line comes to; the conditions stand in the statements. -/
import Derived.Test.YtediblifbfhahaaLineG
set_option linter.unusedVariables false
set_option linter.unusedSimpArgs false
namespace Go.Proofs.Ytediblifbfhahaa.Line
open Go Go.RowKit Go.Proofs.Ytediblifbfhahaa.Eng

set_option maxRecDepth 100000 in
set_option maxHeartbeats 4000000 in
theorem f4_LineKnows (l : List Act) (a1 : Option Addr) (b1 o1 cap1 m1 : Nat) (w : World) (hm1 : m1 = l.length) (hs : Sl eAct w l a1 b1 o1 cap1) (hB : ∀ x ∈ l, 0 ≤ x.q ∧ x.q ≤ 18446744073709551615) :
    Calls Try.prog 4 [.slice (a1) (m1) (cap1)].toArray w fun e w' => e = .returned (.bool (true)) ∧ Below w.heap.size w w' := by
  subst hm1
  have hle := hs.le
  have hmx := hs.mx
  simp only [maxLen] at hmx
  refine (calls_of (P := Try.prog) (n := 106) (w0 := w) (S := fun _ => False) (H := []) (T := fun v _ => v = (.bool (true))) Try.func4 rfl Try.ntmps4 (Nat.le_of_ble_eq_true rfl) [.tmp 2] rfl (St.nil w _) ?_).mono fun e w' ⟨v, H', he, hs, hT⟩ => ⟨by rw [he, hT], hs.below⟩
  refine c_seq fun K1 hK1 => ?_
  refine c_region ?_
  refine o_y (v := .bool (false)) rfl rfl (y_assign rfl) ?_
  refine o_nil ?_
  refine hK1 _ _ ?_
  refine c_seq fun K2 hK2 => ?_
  refine c_region ?_
  refine o_callNew (vs := [.int .i64 (16)]) b7 rfl rfl (fun w hw => f7_New (16) w (by omega) (by omega)) ?_
  rintro _ _ ⟨g1, rfl, rfl⟩
  refine o_y (v := .tuple #[.pointer (some ⟨g1, 0, none⟩), .int .i64 (0)]) rfl rfl (y_move rfl) ?_
  refine o_y (v := .pointer (some ⟨g1, 0, none⟩)) rfl rfl (y_extract (vs := #[.pointer (some ⟨g1, 0, none⟩), .int .i64 (0)]) rfl rfl) ?_
  refine o_y (v := .int .i64 (0)) rfl rfl (y_extract (vs := #[.pointer (some ⟨g1, 0, none⟩), .int .i64 (0)]) rfl rfl) ?_
  refine o_y (v := .pointer (some ⟨g1, 0, none⟩)) rfl rfl (y_assign rfl) ?_
  refine o_y (v := .int .i64 (0)) rfl rfl (y_assign rfl) ?_
  refine o_nil ?_
  refine hK2 _ _ ?_
  refine c_seq fun K3 hK3 => ?_
  refine c_seq fun K4 hK4 => ?_
  refine c_region ?_
  refine o_y (v := .int .i64 (0)) rfl rfl (y_move rfl) ?_
  refine o_y (v := .bool (false)) rfl rfl (y_neq rfl rfl (by decide)) ?_
  refine o_nil ?_
  refine hK4 _ _ ?_
  refine c_cond (t := false) rfl (fun h => by cases h) (fun _ => ?_)
  refine c_skip ?_
  refine hK3 _ _ ?_
  refine c_seq fun K5 hK5 => ?_
  refine c_region ?_
  refine o_y (v := .int .u64 (0)) rfl rfl (y_assign rfl) ?_
  refine o_nil ?_
  refine hK5 _ _ ?_
  refine c_seq fun K6 hK6 => ?_
  refine c_seq fun K7 hK7 => ?_
  refine c_region ?_
  refine o_y (v := .int .i64 (0)) rfl rfl (y_assign rfl) ?_
  refine o_nil ?_
  refine hK7 _ _ ?_
  refine c_block ?_
  refine c_loop (fun d R H => ∃ (j : Nat) (s : LS) (q : Int), d = l.length - (j) ∧ (j ≤ l.length) ∧ (s.mem = 16) ∧ (DK s) ∧ (s.fs = q) ∧ (0 ≤ q ∧ q ≤ 18446744073709551615) ∧ R 0 = .slice (a1) ((l).length) (cap1) ∧ R 3 = .pointer (some ⟨g1, 0, none⟩) ∧ R 6 = .int .i64 (((j : Nat) : Int)) ∧ R 5 = .int .u64 (q) ∧ H = ([(g1, .cells (LS.enc (s)) 54 (0, 0))] : Hp)) (l.length - (0)) ?_ ?_
  ·
    refine ⟨0, newL (16), 0, rfl, by omega, rfl, dk_new _, rfl, by omega, rfl, rfl, (ie (a := 0) (b := ((0 : Nat) : Int)) (by omega)), rfl, rfl⟩
  ·
    rintro d1 R1 _ ⟨j, s, q, hd1, hv1_0, hv1_1, hv1_2, hv1_3, hv1_4, h1_0, h1_3, h1_6, h1_5, rfl⟩
    have hm16 : 0 ≤ s.mem ∧ s.mem ≤ 16 := by omega
    refine c_seq fun K8 hK8 => ?_
    refine c_seq fun K9 hK9 => ?_
    refine c_region ?_
    refine o_y (v := .int .i64 (((j : Nat) : Int))) rfl rfl (y_move h1_6) ?_
    refine o_y (v := .slice (a1) ((l).length) (cap1)) rfl rfl (y_move h1_0) ?_
    refine o_y (v := .int .i64 ((((l).length : Nat) : Int))) rfl rfl (y_len rfl Try.underlying39) ?_
    refine o_y (v := .bool (decide (((j : Nat) : Int) < (((l).length : Nat) : Int)))) rfl rfl (y_lss rfl rfl rfl) ?_
    refine o_y (v := .bool (decide (((j : Nat) : Int) < (((l).length : Nat) : Int)))) rfl rfl (y_move rfl) ?_
    cases hc1 : (decide (((j : Nat) : Int) < (((l).length : Nat) : Int)) : Bool)
    ·
      have hc1' := of_decide_eq_false hc1
      -- way LF
      refine o_guard (j := 4) (d := 22) (b := false) rfl rfl rfl (fun h => by cases h) rfl (fun _ => ?_)
      refine o_guard (j := 4) (d := 22) (b := false) rfl rfl rfl (fun h => by cases h) rfl (fun _ => ?_)
      refine o_y (v := .bool (false)) rfl rfl (y_pick (b := false) rfl rfl) ?_
      refine o_nil ?_
      refine hK9 _ _ ?_
      refine c_cond (t := false) rfl (fun h => by cases h) (fun _ => ?_)
      refine c_exit ?_
      refine hK6 _ _ ?_
      refine c_seq fun K10 hK10 => ?_
      refine c_region ?_
      refine o_y (v := .bool (true)) rfl rfl (y_call (vs := []) b12 rfl (fun w hw => f12_lives w)) ?_
      refine o_y (v := .bool (true)) rfl rfl (y_assign rfl) ?_
      refine o_nil ?_
      refine hK10 _ _ ?_
      refine c_ret ?_
      refine fun w hw => ⟨[.bool (true)], ⟨rfl, trivial⟩, ?_⟩
      exact rfl
    ·
      have hc1' := of_decide_eq_true hc1
      -- way LT
      refine o_guard (j := 4) (d := 22) (b := true) rfl rfl rfl (fun _ => ?_) rfl (fun h => by cases h)
      refine o_y (v := .int .i64 (((j : Nat) : Int))) rfl rfl (y_move h1_6) ?_
      refine o_guard (j := 4) (d := 22) (b := true) rfl rfl rfl (fun _ => ?_) rfl (fun h => by cases h)
      refine o_y (v := .bool (decide (((j : Nat) : Int) < 80))) rfl rfl (y_lss rfl rfl rfl) ?_
      refine o_y (v := .bool (decide (((j : Nat) : Int) < 80))) rfl rfl (y_pick (b := true) rfl rfl) ?_
      refine o_nil ?_
      refine hK9 _ _ ?_
      refine c_cond (t := decide (((j : Nat) : Int) < 80)) rfl (fun hc2 => ?_) (fun hc2 => ?_)
      ·
        replace hc2 := of_decide_eq_true hc2
        -- way LTT
        obtain ⟨xj, hxj⟩ : ∃ x, l[j]? = some x := ⟨_, List.getElem?_eq_getElem (by omega)⟩
        have hqb := hB _ (List.mem_of_getElem? hxj)
        refine c_skip ?_
        refine hK8 _ _ ?_
        refine c_seq fun K11 hK11 => ?_
        refine c_block ?_
        refine c_seq fun K12 hK12 => ?_
        refine c_region ?_
        refine o_y (v := .slice (a1) ((l).length) (cap1)) rfl rfl (y_move h1_0) ?_
        refine o_y (v := .int .i64 (((j : Nat) : Int))) rfl rfl (y_move h1_6) ?_
        refine o_y (v := .pointer (some ⟨b1, o1 + j * 67, none⟩)) rfl rfl (y_ixO j (hs.at_ (by omega)) rfl rfl Try.underlying39 s41 (by omega) (by first | omega | (simp; done) | (simp; omega))) ?_
        refine o_y (v := .agg (Act.arr (xj))) rfl rfl (y_loadN rfl Try.underlying41 rfl (by rw [s41, eAct.len]; rfl) (SlG.rd' (SlG.old hs (fun _ h => h)) hxj)) ?_
        refine o_alloc (z := .agg (Act.arr (act0))) rfl z41 fun g3 => ?_
        refine o_storeS (H' := [(g3, .cells (Act.arr (xj)) 41 (0, 0)), (g1, .cells (LS.enc (s)) 54 (0, 0))]) 0 rfl rfl rfl (by rw [s41, Act.size]) (by show (Act.arr _).size = (Act.arr _).size; rw [Act.size, Act.size]) (Act.one _) rfl ?_
        refine o_nil ?_
        refine hK12 _ _ ?_
        refine c_cut (fun R H => ∃ (s2 : LS) (q2 : Int), (s2.mem = 16) ∧ (DK s2) ∧ (s2.fs = q2) ∧ (0 ≤ q2 ∧ q2 ≤ 18446744073709551615) ∧ R 5 = .int .u64 (q2) ∧ R 0 = .slice (a1) ((l).length) (cap1) ∧ R 3 = .pointer (some ⟨g1, 0, none⟩) ∧ R 6 = .int .i64 (((j : Nat) : Int)) ∧ H = ([(g1, .cells (LS.enc (s2)) 54 (0, 0))] : Hp)) ?_ ?_
        ·
          refine c_seq fun K13 hK13 => ?_
          refine c_region ?_
          refine o_y (v := .pointer (some ⟨g3, 0, none⟩)) rfl rfl (y_fieldAddr (k := 0) rfl Try.underlying41 rfl rfl ⟨_, s3⟩ (by first | rfl | omega)) ?_
          refine o_y (v := .int .i64 ((xj).a)) rfl rfl (y_load rfl Try.underlying3 rfl (Rd.one (k := 0) rfl (Act.at_a (xj)))) ?_
          refine o_nil ?_
          refine hK13 _ _ ?_
          refine c_block ?_
          refine c_seq fun K14 hK14 => ?_
          refine c_region ?_
          refine o_y (v := .bool (decide ((xj).a = 0))) rfl rfl (y_eql rfl rfl rfl) ?_
          refine o_y (v := .bool (decide ((xj).a = 0))) rfl rfl (y_assign rfl) ?_
          refine o_nil ?_
          refine hK14 _ _ ?_
          refine c_cond (t := decide ((xj).a = 0)) rfl (fun hc3 => ?_) (fun hc3 => ?_)
          ·
            replace hc3 := of_decide_eq_true hc3
            -- way LTTT
            refine c_region ?_
            refine o_y (v := .pointer (some ⟨g1, 0, none⟩)) rfl rfl (y_move h1_3) ?_
            refine o_y (v := .pointer (some ⟨g3, 1, none⟩)) rfl rfl (y_fieldAddr (k := 1) rfl Try.underlying41 rfl rfl ⟨_, s3⟩ (by first | rfl | omega)) ?_
            refine o_y (v := .int .i64 ((xj).m)) rfl rfl (y_load rfl Try.underlying3 rfl (Rd.one (k := 0) rfl (Act.at_m (xj)))) ?_
            refine o_y (v := .pointer (some ⟨g3, 2, none⟩)) rfl rfl (y_fieldAddr (k := 2) rfl Try.underlying41 rfl rfl ⟨_, s23⟩ (by first | rfl | omega)) ?_
            refine o_y (v := .agg (bv ((xj).b))) rfl rfl (y_loadB T23 rfl (Rd.blk (List.mem_of_getElem? (i := 0) rfl) (fun jj vv hjj => Act.at_b (xj) jj vv hjj))) ?_
            refine o_callS ([(g1, .cells (LS.enc (s)) 54 (0, 0))]) ([(g3, .cells (Act.arr (xj)) 41 (0, 0))]) (List.perm_middle (l₁ := ([(g3, .cells (Act.arr (xj)) 41 (0, 0))] : Hp)) (a := (g1, Obj.cells (LS.enc (s)) 54 (0, 0))) (l₂ := ([] : Hp))) (vs := [.pointer (some ⟨g1, 0, none⟩), .int .i64 ((xj).m), .agg (bv ((xj).b))]) b8 rfl rfl (fun w hat => f8_Learn _ (s) ((xj).m) ((xj).b) w (by first | assumption | omega | exact lone_mem | (simp only [mem_learn, mem_set, mem_forget, mem_clean]; exact lone_mem) | (simp only [mem_learn, mem_set, mem_forget, mem_clean]; first | omega | decide | exact ⟨by decide, by decide⟩ | (constructor <;> (show _ ≤ _) <;> decide)) | exact ⟨by decide, by decide⟩) hat) ?_
            rintro _ _ ⟨rfl, rfl⟩
            refine o_forget (H' := [(g1, .cells (LS.enc (learnS (s) ((xj).m) ((xj).b))) 54 (0, 0))]) ((List.Sublist.slnil.cons _).cons_cons _) ?_
            refine o_nil ?_
            exact ⟨(learnS (s) ((xj).m) ((xj).b)), (q), (mem_learn ..).trans hv1_1, dk_learn hv1_2 (by omega) _ _, (fs_learn ..).trans hv1_3, by omega, h1_5, h1_0, h1_3, h1_6, rfl⟩
          ·
            replace hc3 := of_decide_eq_false hc3
            -- way LTTF
            refine c_seq fun K15 hK15 => ?_
            refine c_region ?_
            refine o_y (v := .bool (decide ((xj).a = 1))) rfl rfl (y_eql rfl rfl rfl) ?_
            refine o_y (v := .bool (decide ((xj).a = 1))) rfl rfl (y_assign rfl) ?_
            refine o_nil ?_
            refine hK15 _ _ ?_
            refine c_cond (t := decide ((xj).a = 1)) rfl (fun hc4 => ?_) (fun hc4 => ?_)
            ·
              replace hc4 := of_decide_eq_true hc4
              -- way LTTFT
              refine c_seq fun K16 hK16 => ?_
              refine c_region ?_
              refine o_y (v := .pointer (some ⟨g1, 0, none⟩)) rfl rfl (y_move h1_3) ?_
              refine o_y (v := .pointer (some ⟨g3, 1, none⟩)) rfl rfl (y_fieldAddr (k := 1) rfl Try.underlying41 rfl rfl ⟨_, s3⟩ (by first | rfl | omega)) ?_
              refine o_y (v := .int .i64 ((xj).m)) rfl rfl (y_load rfl Try.underlying3 rfl (Rd.one (k := 0) rfl (Act.at_m (xj)))) ?_
              refine o_y (v := .pointer (some ⟨g3, 2, none⟩)) rfl rfl (y_fieldAddr (k := 2) rfl Try.underlying41 rfl rfl ⟨_, s23⟩ (by first | rfl | omega)) ?_
              refine o_y (v := .agg (bv ((xj).b))) rfl rfl (y_loadB T23 rfl (Rd.blk (List.mem_of_getElem? (i := 0) rfl) (fun jj vv hjj => Act.at_b (xj) jj vv hjj))) ?_
              refine o_y (v := .pointer (some ⟨g3, 66, none⟩)) rfl rfl (y_fieldAddr (k := 66) rfl Try.underlying41 rfl rfl ⟨_, s24⟩ (by first | rfl | omega)) ?_
              refine o_y (v := .int .u64 ((xj).q)) rfl rfl (y_load rfl Try.underlying24 rfl (Rd.one (k := 0) rfl (Act.at_q (xj)))) ?_
              refine o_callS ([(g1, .cells (LS.enc (s)) 54 (0, 0))]) ([(g3, .cells (Act.arr (xj)) 41 (0, 0))]) (List.perm_middle (l₁ := ([(g3, .cells (Act.arr (xj)) 41 (0, 0))] : Hp)) (a := (g1, Obj.cells (LS.enc (s)) 54 (0, 0))) (l₂ := ([] : Hp))) (vs := [.pointer (some ⟨g1, 0, none⟩), .int .i64 ((xj).m), .agg (bv ((xj).b)), .int .u64 ((xj).q)]) b10 rfl rfl (fun w hat => f10_Set _ (s) ((xj).m) ((xj).b) ((xj).q) w (by first | assumption | omega | exact lone_mem | (simp only [mem_learn, mem_set, mem_forget, mem_clean]; exact lone_mem) | (simp only [mem_learn, mem_set, mem_forget, mem_clean]; first | omega | decide | exact ⟨by decide, by decide⟩ | (constructor <;> (show _ ≤ _) <;> decide)) | exact ⟨by decide, by decide⟩) (by omega) (by omega) hat) ?_
              rintro _ _ ⟨rfl, rfl⟩
              refine o_y (v := .bool (decide (setE (s) ((xj).m) ((xj).q) = 0))) rfl rfl (y_eql rfl rfl rfl) ?_
              refine o_y (v := .bool (decide (setE (s) ((xj).m) ((xj).q) = 0))) rfl rfl (y_move rfl) ?_
              cases hc5 : (decide (setE (s) ((xj).m) ((xj).q) = 0) : Bool)
              ·
                have hc5' := of_decide_eq_false hc5
                -- way LTTFTF
                refine o_guard (j := 9) (d := 53) (b := false) rfl rfl rfl (fun h => by cases h) rfl (fun _ => ?_)
                refine o_guard (j := 9) (d := 53) (b := false) rfl rfl rfl (fun h => by cases h) rfl (fun _ => ?_)
                refine o_guard (j := 9) (d := 53) (b := false) rfl rfl rfl (fun h => by cases h) rfl (fun _ => ?_)
                refine o_guardU (j := 12) (d := 56) rfl rfl rfl rfl ?_
                refine o_guardU (j := 12) (d := 56) rfl rfl rfl rfl ?_
                refine o_guardU (j := 12) (d := 56) rfl rfl rfl rfl ?_
                refine o_guardU (j := 12) (d := 56) rfl rfl rfl rfl ?_
                refine o_guard (j := 9) (d := 53) (b := false) rfl rfl rfl (fun h => by cases h) rfl (fun _ => ?_)
                refine o_y (v := .bool (false)) rfl rfl (y_pick (b := false) rfl rfl) ?_
                refine o_nil ?_
                refine hK16 _ _ ?_
                refine c_cond (t := false) rfl (fun h => by cases h) (fun _ => ?_)
                refine c_forget (H' := [(g1, .cells (LS.enc (setS (s) ((xj).m) ((xj).b) ((xj).q))) 54 (0, 0))]) ((List.Sublist.slnil.cons _).cons_cons _) ?_
                refine c_skip ?_
                exact ⟨(setS (s) ((xj).m) ((xj).b) ((xj).q)), (q), (mem_set ..).trans hv1_1, dk_set hv1_2 (by omega) _ _ _, (by rw [set_no (by omega)]; exact hv1_3), by omega, h1_5, h1_0, h1_3, h1_6, rfl⟩
              ·
                have hc5' := of_decide_eq_true hc5
                -- way LTTFTT
                refine o_guard (j := 9) (d := 53) (b := true) rfl rfl rfl (fun _ => ?_) rfl (fun h => by cases h)
                refine o_y (v := .int .u64 (q)) rfl rfl (y_move h1_5) ?_
                refine o_guard (j := 9) (d := 53) (b := true) rfl rfl rfl (fun _ => ?_) rfl (fun h => by cases h)
                refine o_y (v := .bool (decide (q = 0))) rfl rfl (y_eql rfl rfl rfl) ?_
                refine o_guard (j := 9) (d := 53) (b := true) rfl rfl rfl (fun _ => ?_) rfl (fun h => by cases h)
                refine o_y (v := .bool (decide (q = 0))) rfl rfl (y_move rfl) ?_
                cases hc6 : (decide (q = 0) : Bool)
                ·
                  have hc6' := of_decide_eq_false hc6
                  -- way LTTFTTF
                  refine o_guard (j := 12) (d := 56) (b := false) rfl rfl rfl (fun _ => ?_) rfl (fun h => by cases h)
                  refine o_y (v := .pointer (some ⟨g3, 66, none⟩)) rfl rfl (y_fieldAddr (k := 66) rfl Try.underlying41 rfl rfl ⟨_, s24⟩ (by first | rfl | omega)) ?_
                  refine o_guard (j := 12) (d := 56) (b := false) rfl rfl rfl (fun _ => ?_) rfl (fun h => by cases h)
                  refine o_y (v := .int .u64 ((xj).q)) rfl rfl (y_load rfl Try.underlying24 rfl (Rd.one (k := 1) rfl (Act.at_q (xj)))) ?_
                  refine o_guard (j := 12) (d := 56) (b := false) rfl rfl rfl (fun _ => ?_) rfl (fun h => by cases h)
                  refine o_y (v := .int .u64 (q)) rfl rfl (y_move h1_5) ?_
                  refine o_guard (j := 12) (d := 56) (b := false) rfl rfl rfl (fun _ => ?_) rfl (fun h => by cases h)
                  refine o_y (v := .bool (decide ((xj).q < q))) rfl rfl (y_lss rfl rfl rfl) ?_
                  refine o_guard (j := 9) (d := 53) (b := true) rfl rfl rfl (fun _ => ?_) rfl (fun h => by cases h)
                  refine o_y (v := .bool (decide ((xj).q < q))) rfl rfl (y_pick (b := false) rfl rfl) ?_
                  refine o_y (v := .bool (decide ((xj).q < q))) rfl rfl (y_pick (b := true) rfl rfl) ?_
                  refine o_nil ?_
                  refine hK16 _ _ ?_
                  refine c_cond (t := decide ((xj).q < q)) rfl (fun hc7 => ?_) (fun hc7 => ?_)
                  ·
                    replace hc7 := of_decide_eq_true hc7
                    -- way LTTFTTFT
                    refine c_region ?_
                    refine o_y (v := .pointer (some ⟨g3, 66, none⟩)) rfl rfl (y_fieldAddr (k := 66) rfl Try.underlying41 rfl rfl ⟨_, s24⟩ (by first | rfl | omega)) ?_
                    refine o_y (v := .int .u64 ((xj).q)) rfl rfl (y_load rfl Try.underlying24 rfl (Rd.one (k := 1) rfl (Act.at_q (xj)))) ?_
                    refine o_y (v := .int .u64 ((xj).q)) rfl rfl (y_assign rfl) ?_
                    refine o_forget (H' := [(g1, .cells (LS.enc (setS (s) ((xj).m) ((xj).b) ((xj).q))) 54 (0, 0))]) ((List.Sublist.slnil.cons _).cons_cons _) ?_
                    refine o_nil ?_
                    exact ⟨(setS (s) ((xj).m) ((xj).b) ((xj).q)), ((xj).q), (mem_set ..).trans hv1_1, dk_set hv1_2 (by omega) _ _ _, (by rw [set_fs (by omega)]; split <;> omega), by omega, rfl, h1_0, h1_3, h1_6, rfl⟩
                  ·
                    replace hc7 := of_decide_eq_false hc7
                    -- way LTTFTTFF
                    refine c_forget (H' := [(g1, .cells (LS.enc (setS (s) ((xj).m) ((xj).b) ((xj).q))) 54 (0, 0))]) ((List.Sublist.slnil.cons _).cons_cons _) ?_
                    refine c_skip ?_
                    exact ⟨(setS (s) ((xj).m) ((xj).b) ((xj).q)), (q), (mem_set ..).trans hv1_1, dk_set hv1_2 (by omega) _ _ _, (by rw [set_fs (by omega)]; split <;> omega), by omega, h1_5, h1_0, h1_3, h1_6, rfl⟩
                ·
                  have hc6' := of_decide_eq_true hc6
                  -- way LTTFTTT
                  refine o_guard (j := 12) (d := 56) (b := true) rfl rfl rfl (fun h => by cases h) rfl (fun _ => ?_)
                  refine o_guard (j := 12) (d := 56) (b := true) rfl rfl rfl (fun h => by cases h) rfl (fun _ => ?_)
                  refine o_guard (j := 12) (d := 56) (b := true) rfl rfl rfl (fun h => by cases h) rfl (fun _ => ?_)
                  refine o_guard (j := 12) (d := 56) (b := true) rfl rfl rfl (fun h => by cases h) rfl (fun _ => ?_)
                  refine o_guard (j := 9) (d := 53) (b := true) rfl rfl rfl (fun _ => ?_) rfl (fun h => by cases h)
                  refine o_y (v := .bool (true)) rfl rfl (y_pick (b := true) rfl rfl) ?_
                  refine o_y (v := .bool (true)) rfl rfl (y_pick (b := true) rfl rfl) ?_
                  refine o_nil ?_
                  refine hK16 _ _ ?_
                  refine c_cond (t := true) rfl (fun _ => ?_) (fun h => by cases h)
                  refine c_region ?_
                  refine o_y (v := .pointer (some ⟨g3, 66, none⟩)) rfl rfl (y_fieldAddr (k := 66) rfl Try.underlying41 rfl rfl ⟨_, s24⟩ (by first | rfl | omega)) ?_
                  refine o_y (v := .int .u64 ((xj).q)) rfl rfl (y_load rfl Try.underlying24 rfl (Rd.one (k := 1) rfl (Act.at_q (xj)))) ?_
                  refine o_y (v := .int .u64 ((xj).q)) rfl rfl (y_assign rfl) ?_
                  refine o_forget (H' := [(g1, .cells (LS.enc (setS (s) ((xj).m) ((xj).b) ((xj).q))) 54 (0, 0))]) ((List.Sublist.slnil.cons _).cons_cons _) ?_
                  refine o_nil ?_
                  exact ⟨(setS (s) ((xj).m) ((xj).b) ((xj).q)), ((xj).q), (mem_set ..).trans hv1_1, dk_set hv1_2 (by omega) _ _ _, (by rw [set_fs (by omega)]; split <;> omega), by omega, rfl, h1_0, h1_3, h1_6, rfl⟩
            ·
              replace hc4 := of_decide_eq_false hc4
              -- way LTTFF
              refine c_seq fun K17 hK17 => ?_
              refine c_region ?_
              refine o_y (v := .bool (decide ((xj).a = 2))) rfl rfl (y_eql rfl rfl rfl) ?_
              refine o_y (v := .bool (decide ((xj).a = 2))) rfl rfl (y_assign rfl) ?_
              refine o_nil ?_
              refine hK17 _ _ ?_
              refine c_cond (t := decide ((xj).a = 2)) rfl (fun hc8 => ?_) (fun hc8 => ?_)
              ·
                replace hc8 := of_decide_eq_true hc8
                -- way LTTFFT
                refine c_region ?_
                refine o_y (v := .pointer (some ⟨g1, 0, none⟩)) rfl rfl (y_move h1_3) ?_
                refine o_y (v := .pointer (some ⟨g3, 1, none⟩)) rfl rfl (y_fieldAddr (k := 1) rfl Try.underlying41 rfl rfl ⟨_, s3⟩ (by first | rfl | omega)) ?_
                refine o_y (v := .int .i64 ((xj).m)) rfl rfl (y_load rfl Try.underlying3 rfl (Rd.one (k := 0) rfl (Act.at_m (xj)))) ?_
                refine o_callS ([(g1, .cells (LS.enc (s)) 54 (0, 0))]) ([(g3, .cells (Act.arr (xj)) 41 (0, 0))]) (List.perm_middle (l₁ := ([(g3, .cells (Act.arr (xj)) 41 (0, 0))] : Hp)) (a := (g1, Obj.cells (LS.enc (s)) 54 (0, 0))) (l₂ := ([] : Hp))) (vs := [.pointer (some ⟨g1, 0, none⟩), .int .i64 ((xj).m)]) b15 rfl rfl (fun w hat => f15_Forget _ (s) ((xj).m) w (by first | assumption | omega | exact lone_mem | (simp only [mem_learn, mem_set, mem_forget, mem_clean]; exact lone_mem) | (simp only [mem_learn, mem_set, mem_forget, mem_clean]; first | omega | decide | exact ⟨by decide, by decide⟩ | (constructor <;> (show _ ≤ _) <;> decide)) | exact ⟨by decide, by decide⟩) hat) ?_
                rintro _ _ ⟨rfl, rfl⟩
                refine o_forget (H' := [(g1, .cells (LS.enc (forgetS (s) ((xj).m))) 54 (0, 0))]) ((List.Sublist.slnil.cons _).cons_cons _) ?_
                refine o_nil ?_
                exact ⟨(forgetS (s) ((xj).m)), (q), (mem_forget ..).trans hv1_1, dk_forget hv1_2 (by omega) _, (fs_forget ..).trans hv1_3, by omega, h1_5, h1_0, h1_3, h1_6, rfl⟩
              ·
                replace hc8 := of_decide_eq_false hc8
                -- way LTTFFF
                refine c_seq fun K18 hK18 => ?_
                refine c_region ?_
                refine o_y (v := .bool (decide ((xj).a = 3))) rfl rfl (y_eql rfl rfl rfl) ?_
                refine o_y (v := .bool (decide ((xj).a = 3))) rfl rfl (y_assign rfl) ?_
                refine o_nil ?_
                refine hK18 _ _ ?_
                refine c_cond (t := decide ((xj).a = 3)) rfl (fun hc9 => ?_) (fun hc9 => ?_)
                ·
                  replace hc9 := of_decide_eq_true hc9
                  -- way LTTFFFT
                  refine c_seq fun K19 hK19 => ?_
                  refine c_seq fun K20 hK20 => ?_
                  refine c_region ?_
                  refine o_y (v := .pointer (some ⟨g1, 0, none⟩)) rfl rfl (y_move h1_3) ?_
                  refine o_callS ([(g1, .cells (LS.enc (s)) 54 (0, 0))]) ([(g3, .cells (Act.arr (xj)) 41 (0, 0))]) (List.perm_middle (l₁ := ([(g3, .cells (Act.arr (xj)) 41 (0, 0))] : Hp)) (a := (g1, Obj.cells (LS.enc (s)) 54 (0, 0))) (l₂ := ([] : Hp))) (vs := [.pointer (some ⟨g1, 0, none⟩)]) b13 rfl rfl (fun w hat => f13_Clean _ (s)  w  hat) ?_
                  rintro _ _ ⟨rfl, rfl⟩
                  refine o_y (v := .bool (false)) rfl rfl (y_bool (y_neq rfl rfl rfl) (decide_eq_false (fun h => h (cleanE_ok (by omega))))) ?_
                  refine o_y (v := .bool (false)) rfl rfl (y_move rfl) ?_
                  refine o_guard (j := 3) (d := 76) (b := false) rfl rfl rfl (fun _ => ?_) rfl (fun h => by cases h)
                  refine o_y (v := .pointer (some ⟨g1, 0, none⟩)) rfl rfl (y_move h1_3) ?_
                  refine o_guard (j := 3) (d := 76) (b := false) rfl rfl rfl (fun _ => ?_) rfl (fun h => by cases h)
                  refine o_callV (fun Hy => [(g1, .cells (LS.enc (cleanS (s) )) 54 (0, 0)), (g3, .cells (Act.arr (xj)) 41 (0, 0))] ++ (Hy)) (fun Hy => by have h := List.perm_append_comm (l₁ := ([(g1, .cells (LS.enc (cleanS (s) )) 54 (0, 0)), (g3, .cells (Act.arr (xj)) 41 (0, 0))] : Hp)) (l₂ := Hy); first | exact h | simpa [Value.cells] using h) (vs := [.pointer (some ⟨g1, 0, none⟩)]) b11 rfl rfl (fun w hw => f11_Dirty _ (cleanS (s) ) w (by first | assumption | omega | exact lone_mem | (simp only [mem_learn, mem_set, mem_forget, mem_clean]; exact lone_mem) | (simp only [mem_learn, mem_set, mem_forget, mem_clean]; first | omega | decide | exact ⟨by decide, by decide⟩ | (constructor <;> (show _ ≤ _) <;> decide)) | exact ⟨by decide, by decide⟩) (hw.sat ((List.Sublist.slnil.cons _).cons_cons _))) ?_
                  rintro _ Hp8 ⟨ap8, gp8, capp8, rfl, hvp8⟩
                  have hzp8 := hvp8.le
                  have hyp8 := hvp8.mx
                  simp only [maxLen] at hyp8
                  refine o_guard (j := 3) (d := 76) (b := false) rfl rfl rfl (fun _ => ?_) rfl (fun h => by cases h)
                  refine o_y (v := .int .i64 ((((dirtyL (cleanS (s) )).length : Nat) : Int))) rfl rfl (y_len rfl Try.underlying33) ?_
                  refine o_guard (j := 3) (d := 76) (b := false) rfl rfl rfl (fun _ => ?_) rfl (fun h => by cases h)
                  refine o_y (v := .bool (false)) rfl rfl (y_bool (y_neq rfl rfl rfl) (decide_eq_false (fun h => h (by rw [dirty_clean (by omega)]; rfl)))) ?_
                  refine o_y (v := .bool (false)) rfl rfl (y_pick (b := false) rfl rfl) ?_
                  refine o_nil ?_
                  refine hK20 _ _ ?_
                  refine c_cond (t := false) rfl (fun h => by cases h) (fun _ => ?_)
                  refine c_skip ?_
                  refine hK19 _ _ ?_
                  refine c_region ?_
                  refine o_y (v := .int .u64 (0)) rfl rfl (y_assign rfl) ?_
                  refine o_forget (H' := [(g1, .cells (LS.enc (cleanS (s) )) 54 (0, 0))]) (((List.nil_sublist _).cons _).cons_cons _) ?_
                  refine o_nil ?_
                  exact ⟨(cleanS (s) ), (0), (mem_clean ..).trans hv1_1, dk_clean hv1_2 (by omega), fs_clean (by omega), by omega, rfl, h1_0, h1_3, h1_6, rfl⟩
                ·
                  replace hc9 := of_decide_eq_false hc9
                  -- way LTTFFFF
                  refine c_forget (H' := [(g1, .cells (LS.enc (s)) 54 (0, 0))]) ((List.Sublist.slnil.cons_cons _).cons _) ?_
                  refine c_skip ?_
                  exact ⟨(s), (q), hv1_1, hv1_2, hv1_3, by omega, h1_5, h1_0, h1_3, h1_6, rfl⟩
        ·
          rintro Rk1 _ ⟨s2, q2, hvk1_0, hvk1_1, hvk1_2, hvk1_3, hk1_5, hk1_0, hk1_3, hk1_6, rfl⟩
          have hm2 : 0 ≤ s2.mem ∧ s2.mem ≤ 16 := by omega
          refine c_seq fun K21 hK21 => ?_
          refine c_region ?_
          refine o_y (v := .pointer (some ⟨g1, 0, none⟩)) rfl rfl (y_move hk1_3) ?_
          refine o_callV (fun Hy => [(g1, .cells (LS.enc (s2)) 54 (0, 0))] ++ (Hy)) (fun Hy => by have h := List.perm_append_comm (l₁ := ([(g1, .cells (LS.enc (s2)) 54 (0, 0))] : Hp)) (l₂ := Hy); first | exact h | simpa [Value.cells] using h) (vs := [.pointer (some ⟨g1, 0, none⟩)]) b11 rfl rfl (fun w hw => f11_Dirty _ (s2) w (by first | assumption | omega | exact lone_mem | (simp only [mem_learn, mem_set, mem_forget, mem_clean]; exact lone_mem) | (simp only [mem_learn, mem_set, mem_forget, mem_clean]; first | omega | decide | exact ⟨by decide, by decide⟩ | (constructor <;> (show _ ≤ _) <;> decide)) | exact ⟨by decide, by decide⟩) (hw.sat (List.Sublist.slnil.cons_cons _))) ?_
          rintro _ Hp9 ⟨ap9, gp9, capp9, rfl, hvp9⟩
          have hzp9 := hvp9.le
          have hyp9 := hvp9.mx
          simp only [maxLen] at hyp9
          refine o_y (v := .slice (ap9) ((dirtyL (s2)).length) (capp9)) rfl rfl (y_assign rfl) ?_
          refine o_nil ?_
          refine hK21 _ _ ?_
          refine c_seq fun K22 hK22 => ?_
          refine c_seq fun K23 hK23 => ?_
          refine c_region ?_
          refine o_y (v := .int .i64 (0)) rfl rfl (y_assign rfl) ?_
          refine o_nil ?_
          refine hK23 _ _ ?_
          refine c_block ?_
          refine c_loop (fun d R H => ∃ (k : Nat), d = (dirtyL (s2)).length - (k) ∧ (k ≤ (dirtyL (s2)).length) ∧ R 0 = .slice (a1) ((l).length) (cap1) ∧ R 3 = .pointer (some ⟨g1, 0, none⟩) ∧ R 5 = .int .u64 (q2) ∧ R 6 = .int .i64 (((j : Nat) : Int)) ∧ R 8 = .slice (ap9) ((dirtyL (s2)).length) (capp9) ∧ R 9 = .int .i64 (((k : Nat) : Int)) ∧ H = ([(g1, .cells (LS.enc (s2)) 54 (0, 0))] ++ (Hp9) : Hp)) ((dirtyL (s2)).length - (0)) ?_ ?_
          ·
            refine ⟨0, rfl, by omega, hk1_0, hk1_3, hk1_5, hk1_6, rfl, (ie (a := 0) (b := ((0 : Nat) : Int)) (by omega)), rfl⟩
          ·
            rintro d2 R2 _ ⟨k, hd2, hv2_0, h2_0, h2_3, h2_5, h2_6, h2_8, h2_9, rfl⟩
            refine c_seq fun K24 hK24 => ?_
            refine c_seq fun K25 hK25 => ?_
            refine c_region ?_
            refine o_y (v := .int .i64 (((k : Nat) : Int))) rfl rfl (y_move h2_9) ?_
            refine o_y (v := .slice (ap9) ((dirtyL (s2)).length) (capp9)) rfl rfl (y_move h2_8) ?_
            refine o_y (v := .int .i64 ((((dirtyL (s2)).length : Nat) : Int))) rfl rfl (y_len rfl Try.underlying33) ?_
            refine o_y (v := .bool (decide (((k : Nat) : Int) < (((dirtyL (s2)).length : Nat) : Int)))) rfl rfl (y_lss rfl rfl rfl) ?_
            refine o_nil ?_
            refine hK25 _ _ ?_
            refine c_cond (t := decide (((k : Nat) : Int) < (((dirtyL (s2)).length : Nat) : Int))) rfl (fun hc10 => ?_) (fun hc10 => ?_)
            ·
              replace hc10 := of_decide_eq_true hc10
              -- way LTTJLT
              refine c_skip ?_
              refine hK24 _ _ ?_
              refine c_seq fun K26 hK26 => ?_
              refine c_block ?_
              refine c_seq fun K27 hK27 => ?_
              refine c_region ?_
              refine o_y (v := .pointer (some ⟨g1, 0, none⟩)) rfl rfl (y_move h2_3) ?_
              refine o_y (v := .slice (ap9) ((dirtyL (s2)).length) (capp9)) rfl rfl (y_move h2_8) ?_
              refine o_y (v := .int .i64 (((k : Nat) : Int))) rfl rfl (y_move h2_9) ?_
              refine o_y (v := .pointer (some ⟨gp9, 0 + k * 1, none⟩)) rfl rfl (y_ixO k (hvp9.at_ (by first | omega | (simp; done) | (simp; omega))) rfl rfl Try.underlying33 s3 (by omega) (by first | omega | (simp; done) | (simp; omega))) ?_
              refine o_y (v := .int .i64 ((dirtyL (s2))[k]'(by first | omega | (simp; done) | (simp; omega)))) rfl rfl (y_load rfl Try.underlying3 rfl (SlG.rd (SlG.own hvp9 (fun p hp => (List.mem_cons_of_mem _ hp))) k (by first | omega | (simp; done) | (simp; omega)))) ?_
              refine o_y (v := .tuple #[.agg (bv (getV (s2) ((dirtyL (s2))[k]'(by first | omega | (simp; done) | (simp; omega))))), .bool (getK (s2) ((dirtyL (s2))[k]'(by first | omega | (simp; done) | (simp; omega))))]) rfl rfl (y_call (vs := [.pointer (some ⟨g1, 0, none⟩), .int .i64 ((dirtyL (s2))[k]'(by first | omega | (simp; done) | (simp; omega)))]) b9 rfl (fun w hw => f9_Get _ (s2) ((dirtyL (s2))[k]'(by first | omega | (simp; done) | (simp; omega))) w (by first | assumption | omega | exact lone_mem | (simp only [mem_learn, mem_set, mem_forget, mem_clean]; exact lone_mem) | (simp only [mem_learn, mem_set, mem_forget, mem_clean]; first | omega | decide | exact ⟨by decide, by decide⟩ | (constructor <;> (show _ ≤ _) <;> decide)) | exact ⟨by decide, by decide⟩) (hw.sat ((List.nil_sublist _).cons_cons _)))) ?_
              refine o_y (v := .tuple #[.agg (bv (getV (s2) ((dirtyL (s2))[k]'(by first | omega | (simp; done) | (simp; omega))))), .bool (getK (s2) ((dirtyL (s2))[k]'(by first | omega | (simp; done) | (simp; omega))))]) rfl rfl (y_move rfl) ?_
              refine o_y (v := .agg (bv (getV (s2) ((dirtyL (s2))[k]'(by first | omega | (simp; done) | (simp; omega)))))) rfl rfl (y_extract (vs := #[.agg (bv (getV (s2) ((dirtyL (s2))[k]'(by first | omega | (simp; done) | (simp; omega))))), .bool (getK (s2) ((dirtyL (s2))[k]'(by first | omega | (simp; done) | (simp; omega))))]) rfl rfl) ?_
              refine o_y (v := .bool (getK (s2) ((dirtyL (s2))[k]'(by first | omega | (simp; done) | (simp; omega))))) rfl rfl (y_extract (vs := #[.agg (bv (getV (s2) ((dirtyL (s2))[k]'(by first | omega | (simp; done) | (simp; omega))))), .bool (getK (s2) ((dirtyL (s2))[k]'(by first | omega | (simp; done) | (simp; omega))))]) rfl rfl) ?_
              refine o_alloc (z := .agg (bv (zB))) rfl z23 fun g10 => ?_
              refine o_storeB (H' := [(g10, .cells (bv (getV (s2) ((dirtyL (s2))[k]'(by first | omega | (simp; done) | (simp; omega))))) 23 (0, 0)), (g1, .cells (LS.enc (s2)) 54 (0, 0))] ++ (Hp9)) T23 0 rfl rfl rfl rfl ?_
              refine o_y (v := .bool (getK (s2) ((dirtyL (s2))[k]'(by first | omega | (simp; done) | (simp; omega))))) rfl rfl (y_assign rfl) ?_
              refine o_nil ?_
              refine hK27 _ _ ?_
              refine c_seq fun K28 hK28 => ?_
              refine c_region ?_
              refine o_y (v := .bool (getK (s2) ((dirtyL (s2))[k]'(by first | omega | (simp; done) | (simp; omega))))) rfl rfl (y_move rfl) ?_
              refine o_y (v := .bool (false)) rfl rfl (y_bool (y_not rfl rfl) (by rw [(dirty_known hvk1_1 hm2 (List.getElem_mem _)).1]; rfl)) ?_
              refine o_nil ?_
              refine hK28 _ _ ?_
              refine c_cond (t := false) rfl (fun h => by cases h) (fun _ => ?_)
              refine c_skip ?_
              refine hK26 _ _ ?_
              refine c_region ?_
              refine o_y (v := .int .i64 (((k : Nat) : Int))) rfl rfl (y_move h2_9) ?_
              refine o_y (v := .int .i64 ((((k : Nat) : Int)) + 1)) rfl rfl (y_add rfl rfl (wi_i64 (by omega) (by omega))) ?_
              refine o_y (v := .int .i64 ((((k : Nat) : Int)) + 1)) rfl rfl (y_assign rfl) ?_
              refine o_forget (H' := [(g1, .cells (LS.enc (s2)) 54 (0, 0))] ++ (Hp9)) (((List.Sublist.refl _).cons_cons _).cons _) ?_
              refine o_nil ?_
              refine ⟨_, by omega, k + 1, rfl, by omega, h2_0, h2_3, h2_5, h2_6, h2_8, (ie (a := (((k : Nat) : Int)) + 1) (b := ((k + 1 : Nat) : Int)) (by omega)), rfl⟩
            ·
              replace hc10 := of_decide_eq_false hc10
              -- way LTTJLF
              refine c_exit ?_
              refine hK22 _ _ ?_
              refine c_seq fun K29 hK29 => ?_
              refine c_region ?_
              refine o_y (v := .pointer (some ⟨g1, 0, none⟩)) rfl rfl (y_move h2_3) ?_
              refine o_y (v := .int .u64 ((s2).fs)) rfl rfl (y_call (vs := [.pointer (some ⟨g1, 0, none⟩)]) b16 rfl (fun w hw => f16_First _ (s2) w (hw.sat ((List.nil_sublist _).cons_cons _)))) ?_
              refine o_y (v := .int .u64 (q2)) rfl rfl (y_move h2_5) ?_
              refine o_y (v := .bool (false)) rfl rfl (y_bool (y_neq rfl rfl rfl) (decide_eq_false (fun h => h hvk1_2))) ?_
              refine o_nil ?_
              refine hK29 _ _ ?_
              refine c_cond (t := false) rfl (fun h => by cases h) (fun _ => ?_)
              refine c_skip ?_
              refine hK11 _ _ ?_
              refine c_region ?_
              refine o_y (v := .int .i64 (((j : Nat) : Int))) rfl rfl (y_move h2_6) ?_
              refine o_y (v := .int .i64 ((((j : Nat) : Int)) + 1)) rfl rfl (y_add rfl rfl (wi_i64 (by omega) (by omega))) ?_
              refine o_y (v := .int .i64 ((((j : Nat) : Int)) + 1)) rfl rfl (y_assign rfl) ?_
              refine o_forget (H' := [(g1, .cells (LS.enc (s2)) 54 (0, 0))]) ((List.nil_sublist _).cons_cons _) ?_
              refine o_nil ?_
              refine ⟨_, by omega, j + 1, s2, q2, rfl, by omega, hvk1_0, hvk1_1, hvk1_2, hvk1_3, h2_0, h2_3, (ie (a := (((j : Nat) : Int)) + 1) (b := ((j + 1 : Nat) : Int)) (by omega)), h2_5, rfl⟩
      ·
        replace hc2 := of_decide_eq_false hc2
        -- way LTF
        refine c_exit ?_
        refine hK6 _ _ ?_
        refine c_seq fun K30 hK30 => ?_
        refine c_region ?_
        refine o_y (v := .bool (true)) rfl rfl (y_call (vs := []) b12 rfl (fun w hw => f12_lives w)) ?_
        refine o_y (v := .bool (true)) rfl rfl (y_assign rfl) ?_
        refine o_nil ?_
        refine hK30 _ _ ?_
        refine c_ret ?_
        refine fun w hw => ⟨[.bool (true)], ⟨rfl, trivial⟩, ?_⟩
        exact rfl

end Go.Proofs.Ytediblifbfhahaa.Line
