/- Proved: what a law of package lru comes to; the conditions stand in the statements. -/
import Derived.Test.YtpbpenlceigddaaLruH
import Derived.Test.YtpbpenlceigddaaLruFacts
set_option linter.unusedVariables false
set_option linter.unusedSimpArgs false
set_option linter.unnecessarySimpa false
namespace Go.Proofs.Ytpbpenlceigddaa.Lru
open Go Go.RowKit Go.Proofs.Ytpbpenlceigddaa.Eng

set_option maxRecDepth 100000 in
set_option maxHeartbeats 4000000 in
theorem f4_LruOnce (rm : Int) (l : List Act) (a1 : Option Addr) (b1 o1 cap1 m1 : Nat) (w : World) (hr0 : 0 ≤ rm) (hr1 : rm ≤ 255) (hm1 : m1 = l.length) (hs : Sl eAct w l a1 b1 o1 cap1) :
    Calls Try.prog 4 [.int .u8 (rm), .slice (a1) (m1) (cap1)].toArray w fun e w' => e = .returned (.bool (true)) ∧ Below w.heap.size w w' := by
  subst hm1
  have hle := hs.le
  have hmx := hs.mx
  simp only [maxLen] at hmx
  refine (calls_of (P := Try.prog) (n := 171) (w0 := w) (S := fun _ => False) (H := []) (T := fun v _ => v = (.bool (true))) Try.func4 rfl Try.ntmps4 (Nat.le_of_ble_eq_true rfl) [.tmp 4] rfl (St.nil w _) ?_).mono fun e w' ⟨v, H', he, hs, hT⟩ => ⟨by rw [he, hT], hs.below⟩
  refine c_seq fun K1 hK1 => ?_
  refine c_region ?_
  refine o_y (v := .bool (false)) rfl rfl (y_assign rfl) ?_
  refine o_nil ?_
  refine hK1 _ _ ?_
  refine c_seq fun K2 hK2 => ?_
  refine c_region ?_
  refine o_y (v := .int .u8 (rm)) rfl rfl (y_move rfl) ?_
  refine o_y (v := .int .i64 (rm)) rfl rfl (y_conv rfl Try.underlying5 Try.underlying3 (wi_i64 (by omega) (by omega))) ?_
  refine o_y (v := .int .i64 ((rm) % 8)) rfl rfl (y_rem rfl rfl (by decide) (Int.tmod_eq_emod_of_nonneg (by omega))) ?_
  refine o_y (v := .int .i64 (1 + ((rm) % 8))) rfl rfl (y_add rfl rfl (wi_i64 (by omega) (by omega))) ?_
  refine o_callV (fun Hy => (Hy)) (fun Hy => by have h := List.perm_append_comm (l₁ := ([] : Hp)) (l₂ := Hy); first | exact h | simpa [Value.cells] using h) (vs := [.int .i64 (1 + ((rm) % 8))]) b8 rfl rfl (fun w hw => L_new (1 + ((rm) % 8)) w (by omega) (by omega)) ?_
  rintro _ Hp2 ⟨g1, rfl, hLp2⟩
  refine o_y (v := .tuple #[.pointer (some ⟨g1, 0, none⟩), .int .i64 (0)]) rfl rfl (y_move rfl) ?_
  refine o_y (v := .pointer (some ⟨g1, 0, none⟩)) rfl rfl (y_extract (vs := #[.pointer (some ⟨g1, 0, none⟩), .int .i64 (0)]) rfl rfl) ?_
  refine o_y (v := .int .i64 (0)) rfl rfl (y_extract (vs := #[.pointer (some ⟨g1, 0, none⟩), .int .i64 (0)]) rfl rfl) ?_
  refine o_y (v := .pointer (some ⟨g1, 0, none⟩)) rfl rfl (y_assign rfl) ?_
  refine o_y (v := .int .i64 (0)) rfl rfl (y_assign rfl) ?_
  refine o_nil ?_
  refine hK2 _ _ ?_
  refine c_seq fun K3 hK3 => ?_
  refine c_seq fun K4 hK4 => ?_
  refine c_region ?_
  refine o_y (v := .int .i64 (0)) rfl rfl (y_move rfl) ?_
  refine o_y (v := .bool (false)) rfl rfl (y_neq rfl rfl (by decide)) ?_
  refine o_nil ?_
  refine hK4 _ _ ?_
  refine c_cond (t := false) rfl (fun h => by cases h) (fun _ => ?_)
  refine c_skip ?_
  refine hK3 _ _ ?_
  refine c_seq fun K5 hK5 => ?_
  refine c_seq fun K6 hK6 => ?_
  refine c_region ?_
  refine o_y (v := .int .i64 (0)) rfl rfl (y_assign rfl) ?_
  refine o_nil ?_
  refine hK6 _ _ ?_
  refine c_block ?_
  refine c_loop (fun d R H => ∃ (j : Nat) (ks : Ks) (HL : Hp), d = l.length - (j) ∧ (j ≤ l.length) ∧ (ListS g1 (1 + ((rm) % 8)) (ks) (HL)) ∧ R 1 = .slice (a1) ((l).length) (cap1) ∧ R 5 = .pointer (some ⟨g1, 0, none⟩) ∧ R 7 = .int .i64 (((j : Nat) : Int)) ∧ H = ((HL) : Hp)) (l.length - (0)) ?_ ?_
  ·
    refine ⟨0, [], Hp2, rfl, by omega, hLp2, rfl, rfl, (ie (a := 0) (b := ((0 : Nat) : Int)) (by omega)), rfl⟩
  ·
    rintro d1 R1 HL ⟨j, ks, _, hd1, hv1_0, hv1_1, h1_1, h1_5, h1_7, rfl⟩
    refine c_seq fun K7 hK7 => ?_
    refine c_seq fun K8 hK8 => ?_
    refine c_region ?_
    refine o_y (v := .int .i64 (((j : Nat) : Int))) rfl rfl (y_move h1_7) ?_
    refine o_y (v := .slice (a1) ((l).length) (cap1)) rfl rfl (y_move h1_1) ?_
    refine o_y (v := .int .i64 ((((l).length : Nat) : Int))) rfl rfl (y_len rfl Try.underlying33) ?_
    refine o_y (v := .bool (decide (((j : Nat) : Int) < (((l).length : Nat) : Int)))) rfl rfl (y_lss rfl rfl rfl) ?_
    refine o_y (v := .bool (decide (((j : Nat) : Int) < (((l).length : Nat) : Int)))) rfl rfl (y_move rfl) ?_
    cases hc1 : (decide (((j : Nat) : Int) < (((l).length : Nat) : Int)) : Bool)
    ·
      have hc1' := of_decide_eq_false hc1
      -- way LF
      refine o_guard (j := 4) (d := 33) (b := false) rfl rfl rfl (fun h => by cases h) rfl (fun _ => ?_)
      refine o_guard (j := 4) (d := 33) (b := false) rfl rfl rfl (fun h => by cases h) rfl (fun _ => ?_)
      refine o_y (v := .bool (false)) rfl rfl (y_pick (b := false) rfl rfl) ?_
      refine o_nil ?_
      refine hK8 _ _ ?_
      refine c_cond (t := false) rfl (fun h => by cases h) (fun _ => ?_)
      refine c_exit ?_
      refine hK5 _ _ ?_
      refine c_seq fun K9 hK9 => ?_
      refine c_region ?_
      refine o_y (v := .bool (true)) rfl rfl (y_call (vs := []) b12 rfl (fun w hw => f12_lives w)) ?_
      refine o_y (v := .bool (true)) rfl rfl (y_assign rfl) ?_
      refine o_nil ?_
      refine hK9 _ _ ?_
      refine c_ret ?_
      refine fun w hw => ⟨[.bool (true)], ⟨rfl, trivial⟩, ?_⟩
      exact rfl
    ·
      have hc1' := of_decide_eq_true hc1
      -- way LT
      refine o_guard (j := 4) (d := 33) (b := true) rfl rfl rfl (fun _ => ?_) rfl (fun h => by cases h)
      refine o_y (v := .int .i64 (((j : Nat) : Int))) rfl rfl (y_move h1_7) ?_
      refine o_guard (j := 4) (d := 33) (b := true) rfl rfl rfl (fun _ => ?_) rfl (fun h => by cases h)
      refine o_y (v := .bool (decide (((j : Nat) : Int) < 150))) rfl rfl (y_lss rfl rfl rfl) ?_
      refine o_y (v := .bool (decide (((j : Nat) : Int) < 150))) rfl rfl (y_pick (b := true) rfl rfl) ?_
      refine o_nil ?_
      refine hK8 _ _ ?_
      refine c_cond (t := decide (((j : Nat) : Int) < 150)) rfl (fun hc2 => ?_) (fun hc2 => ?_)
      ·
        replace hc2 := of_decide_eq_true hc2
        -- way LTT
        obtain ⟨xj, hxj⟩ : ∃ x, l[j]? = some x := ⟨_, List.getElem?_eq_getElem (by omega)⟩
        have hle := hv1_1.le
        refine c_skip ?_
        refine hK7 _ _ ?_
        refine c_seq fun K10 hK10 => ?_
        refine c_block ?_
        refine c_seq fun K11 hK11 => ?_
        refine c_region ?_
        refine o_y (v := .pointer (some ⟨g1, 0, none⟩)) rfl rfl (y_move h1_5) ?_
        refine o_callV (fun Hy => (HL ++ Hy)) (fun Hy => by have h := List.perm_append_comm (l₁ := ((HL) : Hp)) (l₂ := Hy); first | exact h | simpa [Value.cells] using h) (vs := [.pointer (some ⟨g1, 0, none⟩)]) b11 rfl rfl (fun w hw => L_keys hv1_1 w (hw.sat (List.Sublist.refl _)) (by omega)) ?_
        rintro _ Hp3 ⟨ap3, gp3, capp3, rfl, hvp3⟩
        have hzp3 := hvp3.le
        have hyp3 := hvp3.mx
        simp only [maxLen] at hyp3
        refine o_y (v := .slice (ap3) ((keyK (ks)).length) (capp3)) rfl rfl (y_assign rfl) ?_
        refine o_nil ?_
        refine hK11 _ _ ?_
        refine c_seq fun K12 hK12 => ?_
        refine c_region ?_
        refine o_y (v := .slice (a1) ((l).length) (cap1)) rfl rfl (y_move h1_1) ?_
        refine o_y (v := .int .i64 (((j : Nat) : Int))) rfl rfl (y_move h1_7) ?_
        refine o_y (v := .pointer (some ⟨b1, o1 + j * 4, none⟩)) rfl rfl (y_ixO j (hs.at_ (by omega)) rfl rfl Try.underlying33 s35 (by omega) (by first | omega | (simp; done) | (simp; omega))) ?_
        refine o_y (v := .pointer (some ⟨b1, o1 + j * 4 + 1, none⟩)) rfl rfl (y_fieldAddr (k := 1) rfl Try.underlying35 rfl rfl ⟨_, s3⟩ (by first | rfl | omega)) ?_
        refine o_y (v := .int .i64 (xj.k)) rfl rfl (y_load rfl Try.underlying3 rfl (Rd.sub1 (k := 1) (SlG.rd' (SlG.old hs (fun _ h => h)) hxj) (by show _ + _ * 4 + _ = _; omega) rfl)) ?_
        refine o_y (v := .int .i64 ((xj.k).tmod 20)) rfl rfl (y_rem rfl rfl (by decide) rfl) ?_
        refine o_y (v := .int .i64 ((xj.k).tmod 20)) rfl rfl (y_assign rfl) ?_
        refine o_nil ?_
        refine hK12 _ _ ?_
        refine c_seq fun K13 hK13 => ?_
        refine c_seq fun K14 hK14 => ?_
        refine c_region ?_
        refine o_y (v := .slice (a1) ((l).length) (cap1)) rfl rfl (y_move h1_1) ?_
        refine o_y (v := .int .i64 (((j : Nat) : Int))) rfl rfl (y_move h1_7) ?_
        refine o_y (v := .pointer (some ⟨b1, o1 + j * 4, none⟩)) rfl rfl (y_ixO j (hs.at_ (by omega)) rfl rfl Try.underlying33 s35 (by omega) (by first | omega | (simp; done) | (simp; omega))) ?_
        refine o_y (v := .pointer (some ⟨b1, o1 + j * 4 + 0, none⟩)) rfl rfl (y_fieldAddr (k := 0) rfl Try.underlying35 rfl rfl ⟨_, s3⟩ (by first | rfl | omega)) ?_
        refine o_y (v := .int .i64 (xj.a)) rfl rfl (y_load rfl Try.underlying3 rfl (Rd.sub1 (k := 0) (SlG.rd' (SlG.old hs (fun _ h => h)) hxj) (by show _ + _ * 4 + _ = _; omega) rfl)) ?_
        refine o_y (v := .bool (decide (xj.a = 1))) rfl rfl (y_eql rfl rfl rfl) ?_
        refine o_nil ?_
        refine hK14 _ _ ?_
        refine c_cond (t := decide (xj.a = 1)) rfl (fun hc3 => ?_) (fun hc3 => ?_)
        ·
          replace hc3 := of_decide_eq_true hc3
          -- way LTTT
          refine c_seq fun K15 hK15 => ?_
          refine c_region ?_
          refine o_y (v := .pointer (some ⟨g1, 0, none⟩)) rfl rfl (y_move h1_5) ?_
          refine o_y (v := .int .i64 ((xj.k).tmod 20)) rfl rfl (y_move rfl) ?_
          refine o_y (v := .slice (a1) ((l).length) (cap1)) rfl rfl (y_move h1_1) ?_
          refine o_y (v := .int .i64 (((j : Nat) : Int))) rfl rfl (y_move h1_7) ?_
          refine o_y (v := .pointer (some ⟨b1, o1 + j * 4, none⟩)) rfl rfl (y_ixO j (hs.at_ (by omega)) rfl rfl Try.underlying33 s35 (by omega) (by first | omega | (simp; done) | (simp; omega))) ?_
          refine o_y (v := .pointer (some ⟨b1, o1 + j * 4 + 3, none⟩)) rfl rfl (y_fieldAddr (k := 3) rfl Try.underlying35 rfl rfl ⟨_, s4⟩ (by first | rfl | omega)) ?_
          refine o_y (v := .bool (xj.is)) rfl rfl (y_load rfl Try.underlying4 rfl (Rd.sub1 (k := 3) (SlG.rd' (SlG.old hs (fun _ h => h)) hxj) (by show _ + _ * 4 + _ = _; omega) rfl)) ?_
          refine o_callS ((HL)) ((Hp3)) (by have h := List.perm_append_comm_assoc ([] : Hp) HL ((Hp3) : Hp); first | exact h | simpa [List.append_assoc] using h) (vs := [.pointer (some ⟨g1, 0, none⟩), .int .i64 ((xj.k).tmod 20), .bool (xj.is)]) b13 rfl rfl (fun w hat => L_pin hv1_1 ((xj.k).tmod 20) w hat (xj.is)) ?_
          rintro _ HLp4 ⟨rfl, hLp4⟩
          refine o_nil ?_
          refine hK15 _ _ ?_
          refine c_exit ?_
          refine hK10 _ _ ?_
          refine c_region ?_
          refine o_y (v := .int .i64 (((j : Nat) : Int))) rfl rfl (y_move h1_7) ?_
          refine o_y (v := .int .i64 ((((j : Nat) : Int)) + 1)) rfl rfl (y_add rfl rfl (wi_i64 (by omega) (by omega))) ?_
          refine o_y (v := .int .i64 ((((j : Nat) : Int)) + 1)) rfl rfl (y_assign rfl) ?_
          refine o_forget (H' := (HLp4)) (List.sublist_append_left _ _) ?_
          refine o_nil ?_
          refine ⟨_, by omega, j + 1, pinK (ks) ((xj.k).tmod 20) (xj.is), HLp4, rfl, by omega, hLp4, h1_1, h1_5, (ie (a := (((j : Nat) : Int)) + 1) (b := ((j + 1 : Nat) : Int)) (by omega)), rfl⟩
        ·
          replace hc3 := of_decide_eq_false hc3
          -- way LTTF
          refine c_skip ?_
          refine hK13 _ _ ?_
          refine c_seq fun K16 hK16 => ?_
          refine c_seq fun K17 hK17 => ?_
          refine c_region ?_
          refine o_y (v := .slice (a1) ((l).length) (cap1)) rfl rfl (y_move h1_1) ?_
          refine o_y (v := .int .i64 (((j : Nat) : Int))) rfl rfl (y_move h1_7) ?_
          refine o_y (v := .pointer (some ⟨b1, o1 + j * 4, none⟩)) rfl rfl (y_ixO j (hs.at_ (by omega)) rfl rfl Try.underlying33 s35 (by omega) (by first | omega | (simp; done) | (simp; omega))) ?_
          refine o_y (v := .pointer (some ⟨b1, o1 + j * 4 + 0, none⟩)) rfl rfl (y_fieldAddr (k := 0) rfl Try.underlying35 rfl rfl ⟨_, s3⟩ (by first | rfl | omega)) ?_
          refine o_y (v := .int .i64 (xj.a)) rfl rfl (y_load rfl Try.underlying3 rfl (Rd.sub1 (k := 0) (SlG.rd' (SlG.old hs (fun _ h => h)) hxj) (by show _ + _ * 4 + _ = _; omega) rfl)) ?_
          refine o_y (v := .bool (decide (xj.a = 2))) rfl rfl (y_eql rfl rfl rfl) ?_
          refine o_nil ?_
          refine hK17 _ _ ?_
          refine c_cond (t := decide (xj.a = 2)) rfl (fun hc4 => ?_) (fun hc4 => ?_)
          ·
            replace hc4 := of_decide_eq_true hc4
            -- way LTTFT
            refine c_seq fun K18 hK18 => ?_
            refine c_region ?_
            refine o_y (v := .pointer (some ⟨g1, 0, none⟩)) rfl rfl (y_move h1_5) ?_
            refine o_y (v := .int .i64 ((xj.k).tmod 20)) rfl rfl (y_move rfl) ?_
            refine o_y (v := .bool (hasK (ks) ((xj.k).tmod 20))) rfl rfl (y_call (vs := [.pointer (some ⟨g1, 0, none⟩), .int .i64 ((xj.k).tmod 20)]) b14 rfl (fun w hw => L_has hv1_1 ((xj.k).tmod 20) w (hw.sat (List.sublist_append_left _ _)))) ?_
            refine o_y (v := .bool (hasK (ks) ((xj.k).tmod 20))) rfl rfl (y_assign rfl) ?_
            refine o_nil ?_
            refine hK18 _ _ ?_
            refine c_seq fun K19 hK19 => ?_
            refine c_seq fun K20 hK20 => ?_
            refine c_region ?_
            refine o_y (v := .pointer (some ⟨g1, 0, none⟩)) rfl rfl (y_move h1_5) ?_
            refine o_y (v := .int .i64 ((xj.k).tmod 20)) rfl rfl (y_move rfl) ?_
            refine o_callS ((HL)) ((Hp3)) (by have h := List.perm_append_comm_assoc ([] : Hp) HL ((Hp3) : Hp); first | exact h | simpa [List.append_assoc] using h) (vs := [.pointer (some ⟨g1, 0, none⟩), .int .i64 ((xj.k).tmod 20)]) b15 rfl rfl (fun w hat => L_drop hv1_1 ((xj.k).tmod 20) w hat ) ?_
            rintro _ HLp5 ⟨rfl, hLp5⟩
            refine o_y (v := .bool (decide (errK (ks) ((xj.k).tmod 20) = 0))) rfl rfl (y_eql rfl rfl rfl) ?_
            refine o_y (v := .bool (hasK (ks) ((xj.k).tmod 20))) rfl rfl (y_move rfl) ?_
            refine o_y (v := .bool (false)) rfl rfl (y_bool (y_neqB rfl rfl Try.underlying4 rfl) (by rw [errK_has]; exact bne_self_eq_false _)) ?_
            refine o_y (v := .bool (false)) rfl rfl (y_move rfl) ?_
            refine o_guard (j := 6) (d := 76) (b := false) rfl rfl rfl (fun _ => ?_) rfl (fun h => by cases h)
            refine o_y (v := .pointer (some ⟨g1, 0, none⟩)) rfl rfl (y_move h1_5) ?_
            refine o_guard (j := 6) (d := 76) (b := false) rfl rfl rfl (fun _ => ?_) rfl (fun h => by cases h)
            refine o_y (v := .int .i64 ((xj.k).tmod 20)) rfl rfl (y_move rfl) ?_
            refine o_guard (j := 6) (d := 76) (b := false) rfl rfl rfl (fun _ => ?_) rfl (fun h => by cases h)
            refine o_y (v := .bool (false)) rfl rfl (y_bool (y_call (vs := [.pointer (some ⟨g1, 0, none⟩), .int .i64 ((xj.k).tmod 20)]) b14 rfl (fun w hw => L_has hLp5 ((xj.k).tmod 20) w (hw.sat (List.sublist_append_left _ _)))) (drop_has hle.2 _)) ?_
            refine o_y (v := .bool (false)) rfl rfl (y_pick (b := false) rfl rfl) ?_
            refine o_nil ?_
            refine hK20 _ _ ?_
            refine c_cond (t := false) rfl (fun h => by cases h) (fun _ => ?_)
            refine c_skip ?_
            refine hK19 _ _ ?_
            refine c_exit ?_
            refine hK10 _ _ ?_
            refine c_region ?_
            refine o_y (v := .int .i64 (((j : Nat) : Int))) rfl rfl (y_move h1_7) ?_
            refine o_y (v := .int .i64 ((((j : Nat) : Int)) + 1)) rfl rfl (y_add rfl rfl (wi_i64 (by omega) (by omega))) ?_
            refine o_y (v := .int .i64 ((((j : Nat) : Int)) + 1)) rfl rfl (y_assign rfl) ?_
            refine o_forget (H' := (HLp5)) (List.sublist_append_left _ _) ?_
            refine o_nil ?_
            refine ⟨_, by omega, j + 1, dropK (ks) ((xj.k).tmod 20), HLp5, rfl, by omega, hLp5, h1_1, h1_5, (ie (a := (((j : Nat) : Int)) + 1) (b := ((j + 1 : Nat) : Int)) (by omega)), rfl⟩
          ·
            replace hc4 := of_decide_eq_false hc4
            -- way LTTFF
            have hTF := touch_facts (r := 1 + ((rm) % 8)) (ks := ks) hle.2 ((xj.k).tmod 20)
            refine c_skip ?_
            refine hK16 _ _ ?_
            refine c_seq fun K21 hK21 => ?_
            refine c_region ?_
            refine o_y (v := .pointer (some ⟨g1, 0, none⟩)) rfl rfl (y_move h1_5) ?_
            refine o_y (v := .int .i64 ((xj.k).tmod 20)) rfl rfl (y_move rfl) ?_
            refine o_y (v := .bool (hasK (ks) ((xj.k).tmod 20))) rfl rfl (y_call (vs := [.pointer (some ⟨g1, 0, none⟩), .int .i64 ((xj.k).tmod 20)]) b14 rfl (fun w hw => L_has hv1_1 ((xj.k).tmod 20) w (hw.sat (List.sublist_append_left _ _)))) ?_
            refine o_y (v := .bool (hasK (ks) ((xj.k).tmod 20))) rfl rfl (y_assign rfl) ?_
            refine o_nil ?_
            refine hK21 _ _ ?_
            refine c_seq fun K22 hK22 => ?_
            refine c_region ?_
            refine o_y (v := .pointer (some ⟨g1, 0, none⟩)) rfl rfl (y_move h1_5) ?_
            refine o_y (v := .int .i64 ((xj.k).tmod 20)) rfl rfl (y_move rfl) ?_
            refine o_callS ((HL)) ((Hp3)) (by have h := List.perm_append_comm_assoc ([] : Hp) HL ((Hp3) : Hp); first | exact h | simpa [List.append_assoc] using h) (vs := [.pointer (some ⟨g1, 0, none⟩), .int .i64 ((xj.k).tmod 20)]) b9 rfl rfl (fun w hat => L_touch hv1_1 ((xj.k).tmod 20) w hat) ?_
            rintro _ HLp6 ⟨rfl, hLp6⟩
            refine o_y (v := .tuple #[.int .i64 ((touchO (1 + ((rm) % 8)) (ks) ((xj.k).tmod 20)).1), .bool ((touchO (1 + ((rm) % 8)) (ks) ((xj.k).tmod 20)).2.1), .int .i64 ((touchO (1 + ((rm) % 8)) (ks) ((xj.k).tmod 20)).2.2)]) rfl rfl (y_move rfl) ?_
            refine o_y (v := .int .i64 ((touchO (1 + ((rm) % 8)) (ks) ((xj.k).tmod 20)).1)) rfl rfl (y_extract (vs := #[.int .i64 ((touchO (1 + ((rm) % 8)) (ks) ((xj.k).tmod 20)).1), .bool ((touchO (1 + ((rm) % 8)) (ks) ((xj.k).tmod 20)).2.1), .int .i64 ((touchO (1 + ((rm) % 8)) (ks) ((xj.k).tmod 20)).2.2)]) rfl rfl) ?_
            refine o_y (v := .bool ((touchO (1 + ((rm) % 8)) (ks) ((xj.k).tmod 20)).2.1)) rfl rfl (y_extract (vs := #[.int .i64 ((touchO (1 + ((rm) % 8)) (ks) ((xj.k).tmod 20)).1), .bool ((touchO (1 + ((rm) % 8)) (ks) ((xj.k).tmod 20)).2.1), .int .i64 ((touchO (1 + ((rm) % 8)) (ks) ((xj.k).tmod 20)).2.2)]) rfl rfl) ?_
            refine o_y (v := .int .i64 ((touchO (1 + ((rm) % 8)) (ks) ((xj.k).tmod 20)).2.2)) rfl rfl (y_extract (vs := #[.int .i64 ((touchO (1 + ((rm) % 8)) (ks) ((xj.k).tmod 20)).1), .bool ((touchO (1 + ((rm) % 8)) (ks) ((xj.k).tmod 20)).2.1), .int .i64 ((touchO (1 + ((rm) % 8)) (ks) ((xj.k).tmod 20)).2.2)]) rfl rfl) ?_
            refine o_y (v := .int .i64 ((touchO (1 + ((rm) % 8)) (ks) ((xj.k).tmod 20)).1)) rfl rfl (y_assign rfl) ?_
            refine o_y (v := .bool ((touchO (1 + ((rm) % 8)) (ks) ((xj.k).tmod 20)).2.1)) rfl rfl (y_assign rfl) ?_
            refine o_y (v := .int .i64 ((touchO (1 + ((rm) % 8)) (ks) ((xj.k).tmod 20)).2.2)) rfl rfl (y_assign rfl) ?_
            refine o_nil ?_
            refine hK22 _ _ ?_
            refine c_seq fun K23 hK23 => ?_
            refine c_region ?_
            refine o_y (v := .pointer (some ⟨g1, 0, none⟩)) rfl rfl (y_move h1_5) ?_
            refine o_callV (fun Hy => (HLp6 ++ (Hp3 ++ Hy))) (fun Hy => by have h := List.perm_append_comm (l₁ := ((HLp6 ++ Hp3) : Hp)) (l₂ := Hy); first | exact h | simpa [Value.cells] using h) (vs := [.pointer (some ⟨g1, 0, none⟩)]) b11 rfl rfl (fun w hw => L_keys hLp6 w (hw.sat (List.sublist_append_left _ _)) (by omega)) ?_
            rintro _ Hp7 ⟨ap7, gp7, capp7, rfl, hvp7⟩
            have hzp7 := hvp7.le
            have hyp7 := hvp7.mx
            simp only [maxLen] at hyp7
            refine o_y (v := .slice (ap7) ((keyK (touchK (1 + ((rm) % 8)) (ks) ((xj.k).tmod 20))).length) (capp7)) rfl rfl (y_assign rfl) ?_
            refine o_nil ?_
            refine hK23 _ _ ?_
            refine c_seq fun K24 hK24 => ?_
            refine c_seq fun K25 hK25 => ?_
            refine c_region ?_
            refine o_y (v := .int .i64 ((touchO (1 + ((rm) % 8)) (ks) ((xj.k).tmod 20)).2.2)) rfl rfl (y_move rfl) ?_
            refine o_y (v := .bool (decide ((touchO (1 + ((rm) % 8)) (ks) ((xj.k).tmod 20)).2.2 ≠ 0))) rfl rfl (y_neq rfl rfl rfl) ?_
            refine o_nil ?_
            refine hK25 _ _ ?_
            refine c_cond (t := decide ((touchO (1 + ((rm) % 8)) (ks) ((xj.k).tmod 20)).2.2 ≠ 0)) rfl (fun hc5 => ?_) (fun hc5 => ?_)
            ·
              replace hc5 := of_decide_eq_true hc5
              -- way LTTFFT
              refine c_seq fun K26 hK26 => ?_
              refine c_seq fun K27 hK27 => ?_
              refine c_region ?_
              refine o_y (v := .int .i64 ((touchO (1 + ((rm) % 8)) (ks) ((xj.k).tmod 20)).2.2)) rfl rfl (y_move rfl) ?_
              refine o_y (v := .bool (false)) rfl rfl (y_bool (y_neq rfl rfl rfl) (decide_eq_false (fun h => h (hTF.full hc5).2.2.1))) ?_
              refine o_y (v := .bool (false)) rfl rfl (y_move rfl) ?_
              refine o_guard (j := 2) (d := 97) (b := false) rfl rfl rfl (fun _ => ?_) rfl (fun h => by cases h)
              refine o_y (v := .bool (false)) rfl rfl (y_bool (y_move rfl) ((hTF.full hc5).1)) ?_
              refine o_y (v := .bool (false)) rfl rfl (y_pick (b := false) rfl rfl) ?_
              refine o_y (v := .bool (false)) rfl rfl (y_move rfl) ?_
              refine o_guard (j := 5) (d := 100) (b := false) rfl rfl rfl (fun _ => ?_) rfl (fun h => by cases h)
              refine o_y (v := .slice (ap3) ((keyK (ks)).length) (capp3)) rfl rfl (y_move rfl) ?_
              refine o_guard (j := 5) (d := 100) (b := false) rfl rfl rfl (fun _ => ?_) rfl (fun h => by cases h)
              refine o_y (v := .slice (ap7) ((keyK (touchK (1 + ((rm) % 8)) (ks) ((xj.k).tmod 20))).length) (capp7)) rfl rfl (y_move rfl) ?_
              refine o_guard (j := 5) (d := 100) (b := false) rfl rfl rfl (fun _ => ?_) rfl (fun h => by cases h)
              refine o_y (v := .bool (true)) rfl rfl (y_bool (y_call (vs := [.slice (ap3) ((keyK (ks)).length) (capp3), .slice (ap7) ((keyK (touchK (1 + ((rm) % 8)) (ks) ((xj.k).tmod 20))).length) (capp7)]) b10 rfl (fun w hw => f10_Ints (keyK (ks)) (keyK (touchK (1 + ((rm) % 8)) (ks) ((xj.k).tmod 20))) _ _ _ _ _ _ _ _ _ _ w (by first | rfl | (simp; done) | (simp; omega)) ((SlG.own hvp3 (fun p hp => by first | exact List.mem_append_right _ (List.mem_append_right _ (List.mem_append_left _ hp)) | exact (List.mem_append_right _ (List.mem_append_left _ hp)))) w hw) (by first | rfl | (simp; done) | (simp; omega)) ((SlG.own hvp7 (fun p hp => by first | exact List.mem_append_right _ (List.mem_append_right _ (List.mem_append_right _ hp)) | exact (List.mem_append_right _ (List.mem_append_right _ hp)))) w hw))) (decide_eq_true (by rw [(hTF.full hc5).2.1]))) ?_
              refine o_guard (j := 5) (d := 100) (b := false) rfl rfl rfl (fun _ => ?_) rfl (fun h => by cases h)
              refine o_y (v := .bool (false)) rfl rfl (y_not rfl rfl) ?_
              refine o_y (v := .bool (false)) rfl rfl (y_pick (b := false) rfl rfl) ?_
              refine o_nil ?_
              refine hK27 _ _ ?_
              refine c_cond (t := false) rfl (fun h => by cases h) (fun _ => ?_)
              refine c_skip ?_
              refine hK26 _ _ ?_
              refine c_exit ?_
              refine hK10 _ _ ?_
              refine c_region ?_
              refine o_y (v := .int .i64 (((j : Nat) : Int))) rfl rfl (y_move h1_7) ?_
              refine o_y (v := .int .i64 ((((j : Nat) : Int)) + 1)) rfl rfl (y_add rfl rfl (wi_i64 (by omega) (by omega))) ?_
              refine o_y (v := .int .i64 ((((j : Nat) : Int)) + 1)) rfl rfl (y_assign rfl) ?_
              refine o_forget (H' := (HLp6)) (List.sublist_append_left _ _) ?_
              refine o_nil ?_
              refine ⟨_, by omega, j + 1, touchK (1 + ((rm) % 8)) (ks) ((xj.k).tmod 20), HLp6, rfl, by omega, hLp6, h1_1, h1_5, (ie (a := (((j : Nat) : Int)) + 1) (b := ((j + 1 : Nat) : Int)) (by omega)), rfl⟩
            ·
              replace hc5 := of_decide_eq_false hc5
              -- way LTTFFF
              have h0 := Decidable.byContradiction hc5
              obtain ⟨hp, ht, hht⟩ := hTF.head h0
              have hk1 := keyK_len' (touchK (1 + ((rm) % 8)) (ks) ((xj.k).tmod 20))
              have hk2 := keyK_len' ks
              have hk3 : 0 < (keyK (touchK (1 + ((rm) % 8)) (ks) ((xj.k).tmod 20))).length := by rw [hht]; exact Nat.succ_pos _
              have hkh : ∃ t, keyK (touchK (1 + ((rm) % 8)) (ks) ((xj.k).tmod 20)) = ((xj.k).tmod 20) :: t := ⟨keyK ht, by rw [hht]; rfl⟩
              refine c_skip ?_
              refine hK24 _ _ ?_
              refine c_seq fun K28 hK28 => ?_
              refine c_region ?_
              refine o_y (v := .slice (ap3) ((keyK (ks)).length) (capp3)) rfl rfl (y_move rfl) ?_
              refine o_y (v := .int .i64 ((((keyK (ks)).length : Nat) : Int))) rfl rfl (y_len rfl Try.underlying22) ?_
              refine o_y (v := .int .i64 (((((keyK (ks)).length : Nat) : Int)) + 1)) rfl rfl (y_add rfl rfl (wi_i64 (by omega) (by omega))) ?_
              refine o_y (v := .int .i64 (((((keyK (ks)).length : Nat) : Int)) + 1)) rfl rfl (y_assign rfl) ?_
              refine o_nil ?_
              refine hK28 _ _ ?_
              refine c_seq fun K29 hK29 => ?_
              refine c_seq fun K30 hK30 => ?_
              refine c_region ?_
              refine o_y (v := .bool (hasK (ks) ((xj.k).tmod 20))) rfl rfl (y_move rfl) ?_
              refine o_y (v := .bool (hasK (ks) ((xj.k).tmod 20))) rfl rfl (y_move rfl) ?_
              cases hc6 : (hasK (ks) ((xj.k).tmod 20) : Bool)
              ·
                -- way LTTFFFF
                refine o_guard (j := 1) (d := 110) (b := false) rfl rfl rfl (fun _ => ?_) rfl (fun h => by cases h)
                refine o_y (v := .bool ((touchO (1 + ((rm) % 8)) (ks) ((xj.k).tmod 20)).2.1)) rfl rfl (y_move rfl) ?_
                refine o_y (v := .bool ((touchO (1 + ((rm) % 8)) (ks) ((xj.k).tmod 20)).2.1)) rfl rfl (y_pick (b := false) rfl rfl) ?_
                refine o_nil ?_
                refine hK30 _ _ ?_
                refine c_cond (t := (touchO (1 + ((rm) % 8)) (ks) ((xj.k).tmod 20)).2.1) rfl (fun hc7 => ?_) (fun hc7 => ?_)
                ·
                  -- way LTTFFFFT
                  have hgn := hc7
                  have hout := hTF.out h0 hgn
                  have hsl := hout.1
                  refine c_region ?_
                  refine o_y (v := .slice (ap3) ((keyK (ks)).length) (capp3)) rfl rfl (y_move rfl) ?_
                  refine o_y (v := .int .i64 ((((keyK (ks)).length : Nat) : Int))) rfl rfl (y_len rfl Try.underlying22) ?_
                  refine o_y (v := .int .i64 ((((keyK (ks)).length : Nat) : Int))) rfl rfl (y_assign rfl) ?_
                  refine o_nil ?_
                  refine hK29 _ _ ?_
                  refine c_seq fun K31 hK31 => ?_
                  refine c_seq fun K32 hK32 => ?_
                  refine c_region ?_
                  refine o_y (v := .bool (false)) rfl rfl (y_move rfl) ?_
                  refine o_y (v := .bool (false)) rfl rfl (y_move rfl) ?_
                  refine o_guard (j := 1) (d := 116) (b := false) rfl rfl rfl (fun h => by cases h) rfl (fun _ => ?_)
                  refine o_y (v := .bool (false)) rfl rfl (y_pick (b := false) rfl rfl) ?_
                  refine o_y (v := .bool (false)) rfl rfl (y_move rfl) ?_
                  refine o_guard (j := 4) (d := 119) (b := false) rfl rfl rfl (fun _ => ?_) rfl (fun h => by cases h)
                  refine o_y (v := .slice (ap7) ((keyK (touchK (1 + ((rm) % 8)) (ks) ((xj.k).tmod 20))).length) (capp7)) rfl rfl (y_move rfl) ?_
                  refine o_guard (j := 4) (d := 119) (b := false) rfl rfl rfl (fun _ => ?_) rfl (fun h => by cases h)
                  refine o_y (v := .int .i64 ((((keyK (touchK (1 + ((rm) % 8)) (ks) ((xj.k).tmod 20))).length : Nat) : Int))) rfl rfl (y_len rfl Try.underlying22) ?_
                  refine o_guard (j := 4) (d := 119) (b := false) rfl rfl rfl (fun _ => ?_) rfl (fun h => by cases h)
                  refine o_y (v := .int .i64 ((((keyK (ks)).length : Nat) : Int))) rfl rfl (y_move rfl) ?_
                  refine o_guard (j := 4) (d := 119) (b := false) rfl rfl rfl (fun _ => ?_) rfl (fun h => by cases h)
                  refine o_y (v := .bool (false)) rfl rfl (y_bool (y_neq rfl rfl rfl) (decide_eq_false (fun h => h (by omega)))) ?_
                  refine o_y (v := .bool (false)) rfl rfl (y_pick (b := false) rfl rfl) ?_
                  refine o_y (v := .bool (false)) rfl rfl (y_move rfl) ?_
                  refine o_guard (j := 10) (d := 125) (b := false) rfl rfl rfl (fun _ => ?_) rfl (fun h => by cases h)
                  refine o_y (v := .slice (ap7) ((keyK (touchK (1 + ((rm) % 8)) (ks) ((xj.k).tmod 20))).length) (capp7)) rfl rfl (y_move rfl) ?_
                  refine o_guard (j := 10) (d := 125) (b := false) rfl rfl rfl (fun _ => ?_) rfl (fun h => by cases h)
                  refine o_y (v := .int .i64 ((((keyK (touchK (1 + ((rm) % 8)) (ks) ((xj.k).tmod 20))).length : Nat) : Int))) rfl rfl (y_len rfl Try.underlying22) ?_
                  refine o_guard (j := 10) (d := 125) (b := false) rfl rfl rfl (fun _ => ?_) rfl (fun h => by cases h)
                  refine o_y (v := .bool (false)) rfl rfl (y_bool (y_eql rfl rfl rfl) (decide_eq_false (by omega))) ?_
                  refine o_y (v := .bool (false)) rfl rfl (y_pick (b := false) rfl rfl) ?_
                  refine o_y (v := .bool (false)) rfl rfl (y_move rfl) ?_
                  refine o_guard (j := 15) (d := 130) (b := false) rfl rfl rfl (fun _ => ?_) rfl (fun h => by cases h)
                  refine o_y (v := .slice (ap7) ((keyK (touchK (1 + ((rm) % 8)) (ks) ((xj.k).tmod 20))).length) (capp7)) rfl rfl (y_move rfl) ?_
                  refine o_guard (j := 15) (d := 130) (b := false) rfl rfl rfl (fun _ => ?_) rfl (fun h => by cases h)
                  refine o_y (v := .pointer (some ⟨gp7, 0 + 0 * 1, none⟩)) rfl rfl (y_ixO 0 (hvp7.at_ (by first | omega | (simp; done) | (simp; omega))) rfl rfl Try.underlying22 s3 (by omega) (by first | omega | (simp; done) | (simp; omega))) ?_
                  refine o_guard (j := 15) (d := 130) (b := false) rfl rfl rfl (fun _ => ?_) rfl (fun h => by cases h)
                  refine o_y (v := .int .i64 ((keyK (touchK (1 + ((rm) % 8)) (ks) ((xj.k).tmod 20)))[0]'(by first | omega | (simp; done) | (simp; omega)))) rfl rfl (y_load rfl Try.underlying3 rfl (SlG.rd (SlG.own hvp7 (fun p hp => by first | exact List.mem_append_right _ (List.mem_append_right _ (List.mem_append_right _ hp)) | exact (List.mem_append_right _ (List.mem_append_right _ hp)))) 0 (by first | omega | (simp; done) | (simp; omega)))) ?_
                  refine o_guard (j := 15) (d := 130) (b := false) rfl rfl rfl (fun _ => ?_) rfl (fun h => by cases h)
                  refine o_y (v := .int .i64 ((xj.k).tmod 20)) rfl rfl (y_move rfl) ?_
                  refine o_guard (j := 15) (d := 130) (b := false) rfl rfl rfl (fun _ => ?_) rfl (fun h => by cases h)
                  refine o_y (v := .bool (false)) rfl rfl (y_bool (y_neq rfl rfl rfl) (decide_eq_false (fun h => h (head0 hkh _)))) ?_
                  refine o_y (v := .bool (false)) rfl rfl (y_pick (b := false) rfl rfl) ?_
                  refine o_y (v := .bool (false)) rfl rfl (y_move rfl) ?_
                  refine o_guard (j := 22) (d := 137) (b := false) rfl rfl rfl (fun _ => ?_) rfl (fun h => by cases h)
                  refine o_y (v := .bool (true)) rfl rfl (y_bool (y_move rfl) (hgn)) ?_
                  refine o_guard (j := 22) (d := 137) (b := false) rfl rfl rfl (fun _ => ?_) rfl (fun h => by cases h)
                  refine o_y (v := .bool (true)) rfl rfl (y_move rfl) ?_
                  refine o_guard (j := 24) (d := 139) (b := true) rfl rfl rfl (fun _ => ?_) rfl (fun h => by cases h)
                  refine o_y (v := .pointer (some ⟨g1, 0, none⟩)) rfl rfl (y_move h1_5) ?_
                  refine o_guard (j := 24) (d := 139) (b := true) rfl rfl rfl (fun _ => ?_) rfl (fun h => by cases h)
                  refine o_y (v := .int .i64 ((touchO (1 + ((rm) % 8)) (ks) ((xj.k).tmod 20)).1)) rfl rfl (y_move rfl) ?_
                  refine o_guard (j := 24) (d := 139) (b := true) rfl rfl rfl (fun _ => ?_) rfl (fun h => by cases h)
                  refine o_y (v := .bool (false)) rfl rfl (y_bool (y_call (vs := [.pointer (some ⟨g1, 0, none⟩), .int .i64 ((touchO (1 + ((rm) % 8)) (ks) ((xj.k).tmod 20)).1)]) b14 rfl (fun w hw => L_has hLp6 ((touchO (1 + ((rm) % 8)) (ks) ((xj.k).tmod 20)).1) w (hw.sat (List.sublist_append_left _ _)))) (hout.2.1)) ?_
                  refine o_guard (j := 24) (d := 139) (b := true) rfl rfl rfl (fun _ => ?_) rfl (fun h => by cases h)
                  refine o_y (v := .bool (false)) rfl rfl (y_move rfl) ?_
                  refine o_guard (j := 28) (d := 143) (b := false) rfl rfl rfl (fun _ => ?_) rfl (fun h => by cases h)
                  refine o_y (v := .int .i64 ((touchO (1 + ((rm) % 8)) (ks) ((xj.k).tmod 20)).1)) rfl rfl (y_move rfl) ?_
                  refine o_guard (j := 28) (d := 143) (b := false) rfl rfl rfl (fun _ => ?_) rfl (fun h => by cases h)
                  refine o_y (v := .int .i64 ((xj.k).tmod 20)) rfl rfl (y_move rfl) ?_
                  refine o_guard (j := 28) (d := 143) (b := false) rfl rfl rfl (fun _ => ?_) rfl (fun h => by cases h)
                  refine o_y (v := .bool (false)) rfl rfl (y_bool (y_eql rfl rfl rfl) (decide_eq_false hout.2.2)) ?_
                  refine o_guard (j := 24) (d := 139) (b := true) rfl rfl rfl (fun _ => ?_) rfl (fun h => by cases h)
                  refine o_y (v := .bool (false)) rfl rfl (y_pick (b := false) rfl rfl) ?_
                  refine o_guard (j := 22) (d := 137) (b := false) rfl rfl rfl (fun _ => ?_) rfl (fun h => by cases h)
                  refine o_y (v := .bool (false)) rfl rfl (y_pick (b := true) rfl rfl) ?_
                  refine o_y (v := .bool (false)) rfl rfl (y_pick (b := false) rfl rfl) ?_
                  refine o_nil ?_
                  refine hK32 _ _ ?_
                  refine c_cond (t := false) rfl (fun h => by cases h) (fun _ => ?_)
                  refine c_skip ?_
                  refine hK31 _ _ ?_
                  refine c_seq fun K33 hK33 => ?_
                  refine c_region ?_
                  refine o_y (v := .int .i64 (0)) rfl rfl (y_assign rfl) ?_
                  refine o_nil ?_
                  refine hK33 _ _ ?_
                  refine c_block ?_
                  refine c_loop (fun d R H => ∃ (i : Nat), d = (keyK (touchK (1 + ((rm) % 8)) (ks) ((xj.k).tmod 20))).length - (i) ∧ (i ≤ (keyK (touchK (1 + ((rm) % 8)) (ks) ((xj.k).tmod 20))).length) ∧ R 1 = .slice (a1) ((l).length) (cap1) ∧ R 5 = .pointer (some ⟨g1, 0, none⟩) ∧ R 7 = .int .i64 (((j : Nat) : Int)) ∧ R 15 = .slice (ap7) ((keyK (touchK (1 + ((rm) % 8)) (ks) ((xj.k).tmod 20))).length) (capp7) ∧ R 17 = .int .i64 (((i : Nat) : Int)) ∧ H = ((HLp6 ++ (Hp3 ++ Hp7)) : Hp)) ((keyK (touchK (1 + ((rm) % 8)) (ks) ((xj.k).tmod 20))).length - (0)) ?_ ?_
                  ·
                    refine ⟨0, rfl, by omega, h1_1, h1_5, h1_7, rfl, (ie (a := 0) (b := ((0 : Nat) : Int)) (by omega)), rfl⟩
                  ·
                    rintro d2 R2 _ ⟨i, hd2, hv2_0, h2_1, h2_5, h2_7, h2_15, h2_17, rfl⟩
                    refine c_seq fun K34 hK34 => ?_
                    refine c_seq fun K35 hK35 => ?_
                    refine c_region ?_
                    refine o_y (v := .int .i64 (((i : Nat) : Int))) rfl rfl (y_move h2_17) ?_
                    refine o_y (v := .slice (ap7) ((keyK (touchK (1 + ((rm) % 8)) (ks) ((xj.k).tmod 20))).length) (capp7)) rfl rfl (y_move h2_15) ?_
                    refine o_y (v := .int .i64 ((((keyK (touchK (1 + ((rm) % 8)) (ks) ((xj.k).tmod 20))).length : Nat) : Int))) rfl rfl (y_len rfl Try.underlying22) ?_
                    refine o_y (v := .bool (decide (((i : Nat) : Int) < (((keyK (touchK (1 + ((rm) % 8)) (ks) ((xj.k).tmod 20))).length : Nat) : Int)))) rfl rfl (y_lss rfl rfl rfl) ?_
                    refine o_nil ?_
                    refine hK35 _ _ ?_
                    refine c_cond (t := decide (((i : Nat) : Int) < (((keyK (touchK (1 + ((rm) % 8)) (ks) ((xj.k).tmod 20))).length : Nat) : Int))) rfl (fun hc8 => ?_) (fun hc8 => ?_)
                    ·
                      replace hc8 := of_decide_eq_true hc8
                      -- way LTTFFFFTLT
                      refine c_skip ?_
                      refine hK34 _ _ ?_
                      refine c_seq fun K36 hK36 => ?_
                      refine c_block ?_
                      refine c_seq fun K37 hK37 => ?_
                      refine c_region ?_
                      refine o_y (v := .int .i64 (0)) rfl rfl (y_assign rfl) ?_
                      refine o_nil ?_
                      refine hK37 _ _ ?_
                      refine c_block ?_
                      refine c_loop (fun d R H => ∃ (m : Nat), d = i - (m) ∧ (m ≤ i) ∧ R 1 = .slice (a1) ((l).length) (cap1) ∧ R 5 = .pointer (some ⟨g1, 0, none⟩) ∧ R 7 = .int .i64 (((j : Nat) : Int)) ∧ R 15 = .slice (ap7) ((keyK (touchK (1 + ((rm) % 8)) (ks) ((xj.k).tmod 20))).length) (capp7) ∧ R 17 = .int .i64 (((i : Nat) : Int)) ∧ R 18 = .int .i64 (((m : Nat) : Int)) ∧ H = ((HLp6 ++ (Hp3 ++ Hp7)) : Hp)) (i - (0)) ?_ ?_
                      ·
                        refine ⟨0, rfl, by omega, h2_1, h2_5, h2_7, h2_15, h2_17, (ie (a := 0) (b := ((0 : Nat) : Int)) (by omega)), rfl⟩
                      ·
                        rintro d3 R3 _ ⟨m, hd3, hv3_0, h3_1, h3_5, h3_7, h3_15, h3_17, h3_18, rfl⟩
                        refine c_seq fun K38 hK38 => ?_
                        refine c_seq fun K39 hK39 => ?_
                        refine c_region ?_
                        refine o_y (v := .int .i64 (((m : Nat) : Int))) rfl rfl (y_move h3_18) ?_
                        refine o_y (v := .int .i64 (((i : Nat) : Int))) rfl rfl (y_move h3_17) ?_
                        refine o_y (v := .bool (decide (((m : Nat) : Int) < ((i : Nat) : Int)))) rfl rfl (y_lss rfl rfl rfl) ?_
                        refine o_nil ?_
                        refine hK39 _ _ ?_
                        refine c_cond (t := decide (((m : Nat) : Int) < ((i : Nat) : Int))) rfl (fun hc9 => ?_) (fun hc9 => ?_)
                        ·
                          replace hc9 := of_decide_eq_true hc9
                          -- way LTTFFFFTLTLT
                          refine c_skip ?_
                          refine hK38 _ _ ?_
                          refine c_seq fun K40 hK40 => ?_
                          refine c_block ?_
                          refine c_seq fun K41 hK41 => ?_
                          refine c_draw 9 (by kernel_rfl) (by kernel_rfl) ?_
                          refine q_y (v := .slice (ap7) ((keyK (touchK (1 + ((rm) % 8)) (ks) ((xj.k).tmod 20))).length) (capp7)) rfl (y_move h3_15) ?_
                          refine q_y (v := .int .i64 (((i : Nat) : Int))) rfl (y_move h3_17) ?_
                          refine q_y (v := .pointer (some ⟨gp7, 0 + i * 1, none⟩)) rfl (y_ixO i (hvp7.at_ (by first | omega | (simp; done) | (simp; omega))) rfl rfl Try.underlying22 s3 (by omega) (by first | omega | (simp; done) | (simp; omega))) ?_
                          refine q_y (v := .int .i64 ((keyK (touchK (1 + ((rm) % 8)) (ks) ((xj.k).tmod 20)))[i]'(by first | omega | (simp; done) | (simp; omega)))) rfl (y_load rfl Try.underlying3 rfl (SlG.rd (SlG.own hvp7 (fun p hp => by first | exact List.mem_append_right _ (List.mem_append_right _ (List.mem_append_right _ hp)) | exact (List.mem_append_right _ (List.mem_append_right _ hp)))) i (by first | omega | (simp; done) | (simp; omega)))) ?_
                          refine q_y (v := .slice (ap7) ((keyK (touchK (1 + ((rm) % 8)) (ks) ((xj.k).tmod 20))).length) (capp7)) rfl (y_move h3_15) ?_
                          refine q_y (v := .int .i64 (((m : Nat) : Int))) rfl (y_move h3_18) ?_
                          refine q_y (v := .pointer (some ⟨gp7, 0 + m * 1, none⟩)) rfl (y_ixO m (hvp7.at_ (by first | omega | (simp; done) | (simp; omega))) rfl rfl Try.underlying22 s3 (by omega) (by first | omega | (simp; done) | (simp; omega))) ?_
                          refine q_y (v := .int .i64 ((keyK (touchK (1 + ((rm) % 8)) (ks) ((xj.k).tmod 20)))[m]'(by first | omega | (simp; done) | (simp; omega)))) rfl (y_load rfl Try.underlying3 rfl (SlG.rd (SlG.own hvp7 (fun p hp => by first | exact List.mem_append_right _ (List.mem_append_right _ (List.mem_append_right _ hp)) | exact (List.mem_append_right _ (List.mem_append_right _ hp)))) m (by first | omega | (simp; done) | (simp; omega)))) ?_
                          refine q_y (v := .bool (false)) rfl (y_bool (y_eql rfl rfl rfl) (decide_eq_false (nd_ne hTF.nd (by omega) (by omega)))) ?_
                          refine q_nil ?_
                          refine o_nil ?_
                          refine hK41 _ _ ?_
                          refine c_cond (t := false) rfl (fun h => by cases h) (fun _ => ?_)
                          refine c_skip ?_
                          refine hK40 _ _ ?_
                          refine c_region ?_
                          refine o_y (v := .int .i64 (((m : Nat) : Int))) rfl rfl (y_move h3_18) ?_
                          refine o_y (v := .int .i64 ((((m : Nat) : Int)) + 1)) rfl rfl (y_add rfl rfl (wi_i64 (by omega) (by omega))) ?_
                          refine o_y (v := .int .i64 ((((m : Nat) : Int)) + 1)) rfl rfl (y_assign rfl) ?_
                          refine o_nil ?_
                          refine ⟨_, by omega, m + 1, rfl, by omega, h3_1, h3_5, h3_7, h3_15, h3_17, (ie (a := (((m : Nat) : Int)) + 1) (b := ((m + 1 : Nat) : Int)) (by omega)), rfl⟩
                        ·
                          replace hc9 := of_decide_eq_false hc9
                          -- way LTTFFFFTLTLF
                          refine c_exit ?_
                          refine hK36 _ _ ?_
                          refine c_region ?_
                          refine o_y (v := .int .i64 (((i : Nat) : Int))) rfl rfl (y_move h3_17) ?_
                          refine o_y (v := .int .i64 ((((i : Nat) : Int)) + 1)) rfl rfl (y_add rfl rfl (wi_i64 (by omega) (by omega))) ?_
                          refine o_y (v := .int .i64 ((((i : Nat) : Int)) + 1)) rfl rfl (y_assign rfl) ?_
                          refine o_nil ?_
                          refine ⟨_, by omega, i + 1, rfl, by omega, h3_1, h3_5, h3_7, h3_15, (ie (a := (((i : Nat) : Int)) + 1) (b := ((i + 1 : Nat) : Int)) (by omega)), rfl⟩
                    ·
                      replace hc8 := of_decide_eq_false hc8
                      -- way LTTFFFFTLF
                      refine c_exit ?_
                      refine hK10 _ _ ?_
                      refine c_region ?_
                      refine o_y (v := .int .i64 (((j : Nat) : Int))) rfl rfl (y_move h2_7) ?_
                      refine o_y (v := .int .i64 ((((j : Nat) : Int)) + 1)) rfl rfl (y_add rfl rfl (wi_i64 (by omega) (by omega))) ?_
                      refine o_y (v := .int .i64 ((((j : Nat) : Int)) + 1)) rfl rfl (y_assign rfl) ?_
                      refine o_forget (H' := (HLp6)) (List.sublist_append_left _ _) ?_
                      refine o_nil ?_
                      refine ⟨_, by omega, j + 1, touchK (1 + ((rm) % 8)) (ks) ((xj.k).tmod 20), HLp6, rfl, by omega, hLp6, h2_1, h2_5, (ie (a := (((j : Nat) : Int)) + 1) (b := ((j + 1 : Nat) : Int)) (by omega)), rfl⟩
                ·
                  -- way LTTFFFFF
                  have hgn := hc7
                  have hsl := hTF.new h0 hc6 hgn
                  refine c_skip ?_
                  refine hK29 _ _ ?_
                  refine c_seq fun K42 hK42 => ?_
                  refine c_seq fun K43 hK43 => ?_
                  refine c_region ?_
                  refine o_y (v := .bool (false)) rfl rfl (y_move rfl) ?_
                  refine o_y (v := .bool (false)) rfl rfl (y_move rfl) ?_
                  refine o_guard (j := 1) (d := 116) (b := false) rfl rfl rfl (fun h => by cases h) rfl (fun _ => ?_)
                  refine o_y (v := .bool (false)) rfl rfl (y_pick (b := false) rfl rfl) ?_
                  refine o_y (v := .bool (false)) rfl rfl (y_move rfl) ?_
                  refine o_guard (j := 4) (d := 119) (b := false) rfl rfl rfl (fun _ => ?_) rfl (fun h => by cases h)
                  refine o_y (v := .slice (ap7) ((keyK (touchK (1 + ((rm) % 8)) (ks) ((xj.k).tmod 20))).length) (capp7)) rfl rfl (y_move rfl) ?_
                  refine o_guard (j := 4) (d := 119) (b := false) rfl rfl rfl (fun _ => ?_) rfl (fun h => by cases h)
                  refine o_y (v := .int .i64 ((((keyK (touchK (1 + ((rm) % 8)) (ks) ((xj.k).tmod 20))).length : Nat) : Int))) rfl rfl (y_len rfl Try.underlying22) ?_
                  refine o_guard (j := 4) (d := 119) (b := false) rfl rfl rfl (fun _ => ?_) rfl (fun h => by cases h)
                  refine o_y (v := .int .i64 (((((keyK (ks)).length : Nat) : Int)) + 1)) rfl rfl (y_move rfl) ?_
                  refine o_guard (j := 4) (d := 119) (b := false) rfl rfl rfl (fun _ => ?_) rfl (fun h => by cases h)
                  refine o_y (v := .bool (false)) rfl rfl (y_bool (y_neq rfl rfl rfl) (decide_eq_false (fun h => h (by omega)))) ?_
                  refine o_y (v := .bool (false)) rfl rfl (y_pick (b := false) rfl rfl) ?_
                  refine o_y (v := .bool (false)) rfl rfl (y_move rfl) ?_
                  refine o_guard (j := 10) (d := 125) (b := false) rfl rfl rfl (fun _ => ?_) rfl (fun h => by cases h)
                  refine o_y (v := .slice (ap7) ((keyK (touchK (1 + ((rm) % 8)) (ks) ((xj.k).tmod 20))).length) (capp7)) rfl rfl (y_move rfl) ?_
                  refine o_guard (j := 10) (d := 125) (b := false) rfl rfl rfl (fun _ => ?_) rfl (fun h => by cases h)
                  refine o_y (v := .int .i64 ((((keyK (touchK (1 + ((rm) % 8)) (ks) ((xj.k).tmod 20))).length : Nat) : Int))) rfl rfl (y_len rfl Try.underlying22) ?_
                  refine o_guard (j := 10) (d := 125) (b := false) rfl rfl rfl (fun _ => ?_) rfl (fun h => by cases h)
                  refine o_y (v := .bool (false)) rfl rfl (y_bool (y_eql rfl rfl rfl) (decide_eq_false (by omega))) ?_
                  refine o_y (v := .bool (false)) rfl rfl (y_pick (b := false) rfl rfl) ?_
                  refine o_y (v := .bool (false)) rfl rfl (y_move rfl) ?_
                  refine o_guard (j := 15) (d := 130) (b := false) rfl rfl rfl (fun _ => ?_) rfl (fun h => by cases h)
                  refine o_y (v := .slice (ap7) ((keyK (touchK (1 + ((rm) % 8)) (ks) ((xj.k).tmod 20))).length) (capp7)) rfl rfl (y_move rfl) ?_
                  refine o_guard (j := 15) (d := 130) (b := false) rfl rfl rfl (fun _ => ?_) rfl (fun h => by cases h)
                  refine o_y (v := .pointer (some ⟨gp7, 0 + 0 * 1, none⟩)) rfl rfl (y_ixO 0 (hvp7.at_ (by first | omega | (simp; done) | (simp; omega))) rfl rfl Try.underlying22 s3 (by omega) (by first | omega | (simp; done) | (simp; omega))) ?_
                  refine o_guard (j := 15) (d := 130) (b := false) rfl rfl rfl (fun _ => ?_) rfl (fun h => by cases h)
                  refine o_y (v := .int .i64 ((keyK (touchK (1 + ((rm) % 8)) (ks) ((xj.k).tmod 20)))[0]'(by first | omega | (simp; done) | (simp; omega)))) rfl rfl (y_load rfl Try.underlying3 rfl (SlG.rd (SlG.own hvp7 (fun p hp => by first | exact List.mem_append_right _ (List.mem_append_right _ (List.mem_append_right _ hp)) | exact (List.mem_append_right _ (List.mem_append_right _ hp)))) 0 (by first | omega | (simp; done) | (simp; omega)))) ?_
                  refine o_guard (j := 15) (d := 130) (b := false) rfl rfl rfl (fun _ => ?_) rfl (fun h => by cases h)
                  refine o_y (v := .int .i64 ((xj.k).tmod 20)) rfl rfl (y_move rfl) ?_
                  refine o_guard (j := 15) (d := 130) (b := false) rfl rfl rfl (fun _ => ?_) rfl (fun h => by cases h)
                  refine o_y (v := .bool (false)) rfl rfl (y_bool (y_neq rfl rfl rfl) (decide_eq_false (fun h => h (head0 hkh _)))) ?_
                  refine o_y (v := .bool (false)) rfl rfl (y_pick (b := false) rfl rfl) ?_
                  refine o_y (v := .bool (false)) rfl rfl (y_move rfl) ?_
                  refine o_guard (j := 22) (d := 137) (b := false) rfl rfl rfl (fun _ => ?_) rfl (fun h => by cases h)
                  refine o_y (v := .bool (false)) rfl rfl (y_bool (y_move rfl) (hgn)) ?_
                  refine o_guard (j := 22) (d := 137) (b := false) rfl rfl rfl (fun _ => ?_) rfl (fun h => by cases h)
                  refine o_y (v := .bool (false)) rfl rfl (y_move rfl) ?_
                  refine o_guard (j := 24) (d := 139) (b := false) rfl rfl rfl (fun h => by cases h) rfl (fun _ => ?_)
                  refine o_guard (j := 24) (d := 139) (b := false) rfl rfl rfl (fun h => by cases h) rfl (fun _ => ?_)
                  refine o_guard (j := 24) (d := 139) (b := false) rfl rfl rfl (fun h => by cases h) rfl (fun _ => ?_)
                  refine o_guard (j := 24) (d := 139) (b := false) rfl rfl rfl (fun h => by cases h) rfl (fun _ => ?_)
                  refine o_guardU (j := 28) (d := 143) rfl rfl rfl rfl ?_
                  refine o_guardU (j := 28) (d := 143) rfl rfl rfl rfl ?_
                  refine o_guardU (j := 28) (d := 143) rfl rfl rfl rfl ?_
                  refine o_guard (j := 24) (d := 139) (b := false) rfl rfl rfl (fun h => by cases h) rfl (fun _ => ?_)
                  refine o_guard (j := 22) (d := 137) (b := false) rfl rfl rfl (fun _ => ?_) rfl (fun h => by cases h)
                  refine o_y (v := .bool (false)) rfl rfl (y_pick (b := false) rfl rfl) ?_
                  refine o_y (v := .bool (false)) rfl rfl (y_pick (b := false) rfl rfl) ?_
                  refine o_nil ?_
                  refine hK43 _ _ ?_
                  refine c_cond (t := false) rfl (fun h => by cases h) (fun _ => ?_)
                  refine c_skip ?_
                  refine hK42 _ _ ?_
                  refine c_seq fun K44 hK44 => ?_
                  refine c_region ?_
                  refine o_y (v := .int .i64 (0)) rfl rfl (y_assign rfl) ?_
                  refine o_nil ?_
                  refine hK44 _ _ ?_
                  refine c_block ?_
                  refine c_loop (fun d R H => ∃ (i : Nat), d = (keyK (touchK (1 + ((rm) % 8)) (ks) ((xj.k).tmod 20))).length - (i) ∧ (i ≤ (keyK (touchK (1 + ((rm) % 8)) (ks) ((xj.k).tmod 20))).length) ∧ R 1 = .slice (a1) ((l).length) (cap1) ∧ R 5 = .pointer (some ⟨g1, 0, none⟩) ∧ R 7 = .int .i64 (((j : Nat) : Int)) ∧ R 15 = .slice (ap7) ((keyK (touchK (1 + ((rm) % 8)) (ks) ((xj.k).tmod 20))).length) (capp7) ∧ R 17 = .int .i64 (((i : Nat) : Int)) ∧ H = ((HLp6 ++ (Hp3 ++ Hp7)) : Hp)) ((keyK (touchK (1 + ((rm) % 8)) (ks) ((xj.k).tmod 20))).length - (0)) ?_ ?_
                  ·
                    refine ⟨0, rfl, by omega, h1_1, h1_5, h1_7, rfl, (ie (a := 0) (b := ((0 : Nat) : Int)) (by omega)), rfl⟩
                  ·
                    rintro d4 R4 _ ⟨i, hd4, hv4_0, h4_1, h4_5, h4_7, h4_15, h4_17, rfl⟩
                    refine c_seq fun K45 hK45 => ?_
                    refine c_seq fun K46 hK46 => ?_
                    refine c_region ?_
                    refine o_y (v := .int .i64 (((i : Nat) : Int))) rfl rfl (y_move h4_17) ?_
                    refine o_y (v := .slice (ap7) ((keyK (touchK (1 + ((rm) % 8)) (ks) ((xj.k).tmod 20))).length) (capp7)) rfl rfl (y_move h4_15) ?_
                    refine o_y (v := .int .i64 ((((keyK (touchK (1 + ((rm) % 8)) (ks) ((xj.k).tmod 20))).length : Nat) : Int))) rfl rfl (y_len rfl Try.underlying22) ?_
                    refine o_y (v := .bool (decide (((i : Nat) : Int) < (((keyK (touchK (1 + ((rm) % 8)) (ks) ((xj.k).tmod 20))).length : Nat) : Int)))) rfl rfl (y_lss rfl rfl rfl) ?_
                    refine o_nil ?_
                    refine hK46 _ _ ?_
                    refine c_cond (t := decide (((i : Nat) : Int) < (((keyK (touchK (1 + ((rm) % 8)) (ks) ((xj.k).tmod 20))).length : Nat) : Int))) rfl (fun hc10 => ?_) (fun hc10 => ?_)
                    ·
                      replace hc10 := of_decide_eq_true hc10
                      -- way LTTFFFFFLT
                      refine c_skip ?_
                      refine hK45 _ _ ?_
                      refine c_seq fun K47 hK47 => ?_
                      refine c_block ?_
                      refine c_seq fun K48 hK48 => ?_
                      refine c_region ?_
                      refine o_y (v := .int .i64 (0)) rfl rfl (y_assign rfl) ?_
                      refine o_nil ?_
                      refine hK48 _ _ ?_
                      refine c_block ?_
                      refine c_loop (fun d R H => ∃ (m : Nat), d = i - (m) ∧ (m ≤ i) ∧ R 1 = .slice (a1) ((l).length) (cap1) ∧ R 5 = .pointer (some ⟨g1, 0, none⟩) ∧ R 7 = .int .i64 (((j : Nat) : Int)) ∧ R 15 = .slice (ap7) ((keyK (touchK (1 + ((rm) % 8)) (ks) ((xj.k).tmod 20))).length) (capp7) ∧ R 17 = .int .i64 (((i : Nat) : Int)) ∧ R 18 = .int .i64 (((m : Nat) : Int)) ∧ H = ((HLp6 ++ (Hp3 ++ Hp7)) : Hp)) (i - (0)) ?_ ?_
                      ·
                        refine ⟨0, rfl, by omega, h4_1, h4_5, h4_7, h4_15, h4_17, (ie (a := 0) (b := ((0 : Nat) : Int)) (by omega)), rfl⟩
                      ·
                        rintro d5 R5 _ ⟨m, hd5, hv5_0, h5_1, h5_5, h5_7, h5_15, h5_17, h5_18, rfl⟩
                        refine c_seq fun K49 hK49 => ?_
                        refine c_seq fun K50 hK50 => ?_
                        refine c_region ?_
                        refine o_y (v := .int .i64 (((m : Nat) : Int))) rfl rfl (y_move h5_18) ?_
                        refine o_y (v := .int .i64 (((i : Nat) : Int))) rfl rfl (y_move h5_17) ?_
                        refine o_y (v := .bool (decide (((m : Nat) : Int) < ((i : Nat) : Int)))) rfl rfl (y_lss rfl rfl rfl) ?_
                        refine o_nil ?_
                        refine hK50 _ _ ?_
                        refine c_cond (t := decide (((m : Nat) : Int) < ((i : Nat) : Int))) rfl (fun hc11 => ?_) (fun hc11 => ?_)
                        ·
                          replace hc11 := of_decide_eq_true hc11
                          -- way LTTFFFFFLTLT
                          refine c_skip ?_
                          refine hK49 _ _ ?_
                          refine c_seq fun K51 hK51 => ?_
                          refine c_block ?_
                          refine c_seq fun K52 hK52 => ?_
                          refine c_draw 9 (by kernel_rfl) (by kernel_rfl) ?_
                          refine q_y (v := .slice (ap7) ((keyK (touchK (1 + ((rm) % 8)) (ks) ((xj.k).tmod 20))).length) (capp7)) rfl (y_move h5_15) ?_
                          refine q_y (v := .int .i64 (((i : Nat) : Int))) rfl (y_move h5_17) ?_
                          refine q_y (v := .pointer (some ⟨gp7, 0 + i * 1, none⟩)) rfl (y_ixO i (hvp7.at_ (by first | omega | (simp; done) | (simp; omega))) rfl rfl Try.underlying22 s3 (by omega) (by first | omega | (simp; done) | (simp; omega))) ?_
                          refine q_y (v := .int .i64 ((keyK (touchK (1 + ((rm) % 8)) (ks) ((xj.k).tmod 20)))[i]'(by first | omega | (simp; done) | (simp; omega)))) rfl (y_load rfl Try.underlying3 rfl (SlG.rd (SlG.own hvp7 (fun p hp => by first | exact List.mem_append_right _ (List.mem_append_right _ (List.mem_append_right _ hp)) | exact (List.mem_append_right _ (List.mem_append_right _ hp)))) i (by first | omega | (simp; done) | (simp; omega)))) ?_
                          refine q_y (v := .slice (ap7) ((keyK (touchK (1 + ((rm) % 8)) (ks) ((xj.k).tmod 20))).length) (capp7)) rfl (y_move h5_15) ?_
                          refine q_y (v := .int .i64 (((m : Nat) : Int))) rfl (y_move h5_18) ?_
                          refine q_y (v := .pointer (some ⟨gp7, 0 + m * 1, none⟩)) rfl (y_ixO m (hvp7.at_ (by first | omega | (simp; done) | (simp; omega))) rfl rfl Try.underlying22 s3 (by omega) (by first | omega | (simp; done) | (simp; omega))) ?_
                          refine q_y (v := .int .i64 ((keyK (touchK (1 + ((rm) % 8)) (ks) ((xj.k).tmod 20)))[m]'(by first | omega | (simp; done) | (simp; omega)))) rfl (y_load rfl Try.underlying3 rfl (SlG.rd (SlG.own hvp7 (fun p hp => by first | exact List.mem_append_right _ (List.mem_append_right _ (List.mem_append_right _ hp)) | exact (List.mem_append_right _ (List.mem_append_right _ hp)))) m (by first | omega | (simp; done) | (simp; omega)))) ?_
                          refine q_y (v := .bool (false)) rfl (y_bool (y_eql rfl rfl rfl) (decide_eq_false (nd_ne hTF.nd (by omega) (by omega)))) ?_
                          refine q_nil ?_
                          refine o_nil ?_
                          refine hK52 _ _ ?_
                          refine c_cond (t := false) rfl (fun h => by cases h) (fun _ => ?_)
                          refine c_skip ?_
                          refine hK51 _ _ ?_
                          refine c_region ?_
                          refine o_y (v := .int .i64 (((m : Nat) : Int))) rfl rfl (y_move h5_18) ?_
                          refine o_y (v := .int .i64 ((((m : Nat) : Int)) + 1)) rfl rfl (y_add rfl rfl (wi_i64 (by omega) (by omega))) ?_
                          refine o_y (v := .int .i64 ((((m : Nat) : Int)) + 1)) rfl rfl (y_assign rfl) ?_
                          refine o_nil ?_
                          refine ⟨_, by omega, m + 1, rfl, by omega, h5_1, h5_5, h5_7, h5_15, h5_17, (ie (a := (((m : Nat) : Int)) + 1) (b := ((m + 1 : Nat) : Int)) (by omega)), rfl⟩
                        ·
                          replace hc11 := of_decide_eq_false hc11
                          -- way LTTFFFFFLTLF
                          refine c_exit ?_
                          refine hK47 _ _ ?_
                          refine c_region ?_
                          refine o_y (v := .int .i64 (((i : Nat) : Int))) rfl rfl (y_move h5_17) ?_
                          refine o_y (v := .int .i64 ((((i : Nat) : Int)) + 1)) rfl rfl (y_add rfl rfl (wi_i64 (by omega) (by omega))) ?_
                          refine o_y (v := .int .i64 ((((i : Nat) : Int)) + 1)) rfl rfl (y_assign rfl) ?_
                          refine o_nil ?_
                          refine ⟨_, by omega, i + 1, rfl, by omega, h5_1, h5_5, h5_7, h5_15, (ie (a := (((i : Nat) : Int)) + 1) (b := ((i + 1 : Nat) : Int)) (by omega)), rfl⟩
                    ·
                      replace hc10 := of_decide_eq_false hc10
                      -- way LTTFFFFFLF
                      refine c_exit ?_
                      refine hK10 _ _ ?_
                      refine c_region ?_
                      refine o_y (v := .int .i64 (((j : Nat) : Int))) rfl rfl (y_move h4_7) ?_
                      refine o_y (v := .int .i64 ((((j : Nat) : Int)) + 1)) rfl rfl (y_add rfl rfl (wi_i64 (by omega) (by omega))) ?_
                      refine o_y (v := .int .i64 ((((j : Nat) : Int)) + 1)) rfl rfl (y_assign rfl) ?_
                      refine o_forget (H' := (HLp6)) (List.sublist_append_left _ _) ?_
                      refine o_nil ?_
                      refine ⟨_, by omega, j + 1, touchK (1 + ((rm) % 8)) (ks) ((xj.k).tmod 20), HLp6, rfl, by omega, hLp6, h4_1, h4_5, (ie (a := (((j : Nat) : Int)) + 1) (b := ((j + 1 : Nat) : Int)) (by omega)), rfl⟩
              ·
                -- way LTTFFFT
                have hsm := hTF.same h0 hc6
                have hsl := hsm.2
                refine o_guard (j := 1) (d := 110) (b := true) rfl rfl rfl (fun h => by cases h) rfl (fun _ => ?_)
                refine o_y (v := .bool (true)) rfl rfl (y_pick (b := true) rfl rfl) ?_
                refine o_nil ?_
                refine hK30 _ _ ?_
                refine c_cond (t := true) rfl (fun _ => ?_) (fun h => by cases h)
                refine c_region ?_
                refine o_y (v := .slice (ap3) ((keyK (ks)).length) (capp3)) rfl rfl (y_move rfl) ?_
                refine o_y (v := .int .i64 ((((keyK (ks)).length : Nat) : Int))) rfl rfl (y_len rfl Try.underlying22) ?_
                refine o_y (v := .int .i64 ((((keyK (ks)).length : Nat) : Int))) rfl rfl (y_assign rfl) ?_
                refine o_nil ?_
                refine hK29 _ _ ?_
                refine c_seq fun K53 hK53 => ?_
                refine c_seq fun K54 hK54 => ?_
                refine c_region ?_
                refine o_y (v := .bool (true)) rfl rfl (y_move rfl) ?_
                refine o_y (v := .bool (true)) rfl rfl (y_move rfl) ?_
                refine o_guard (j := 1) (d := 116) (b := true) rfl rfl rfl (fun _ => ?_) rfl (fun h => by cases h)
                refine o_y (v := .bool (false)) rfl rfl (y_bool (y_move rfl) (hsm.1)) ?_
                refine o_y (v := .bool (false)) rfl rfl (y_pick (b := true) rfl rfl) ?_
                refine o_y (v := .bool (false)) rfl rfl (y_move rfl) ?_
                refine o_guard (j := 4) (d := 119) (b := false) rfl rfl rfl (fun _ => ?_) rfl (fun h => by cases h)
                refine o_y (v := .slice (ap7) ((keyK (touchK (1 + ((rm) % 8)) (ks) ((xj.k).tmod 20))).length) (capp7)) rfl rfl (y_move rfl) ?_
                refine o_guard (j := 4) (d := 119) (b := false) rfl rfl rfl (fun _ => ?_) rfl (fun h => by cases h)
                refine o_y (v := .int .i64 ((((keyK (touchK (1 + ((rm) % 8)) (ks) ((xj.k).tmod 20))).length : Nat) : Int))) rfl rfl (y_len rfl Try.underlying22) ?_
                refine o_guard (j := 4) (d := 119) (b := false) rfl rfl rfl (fun _ => ?_) rfl (fun h => by cases h)
                refine o_y (v := .int .i64 ((((keyK (ks)).length : Nat) : Int))) rfl rfl (y_move rfl) ?_
                refine o_guard (j := 4) (d := 119) (b := false) rfl rfl rfl (fun _ => ?_) rfl (fun h => by cases h)
                refine o_y (v := .bool (false)) rfl rfl (y_bool (y_neq rfl rfl rfl) (decide_eq_false (fun h => h (by omega)))) ?_
                refine o_y (v := .bool (false)) rfl rfl (y_pick (b := false) rfl rfl) ?_
                refine o_y (v := .bool (false)) rfl rfl (y_move rfl) ?_
                refine o_guard (j := 10) (d := 125) (b := false) rfl rfl rfl (fun _ => ?_) rfl (fun h => by cases h)
                refine o_y (v := .slice (ap7) ((keyK (touchK (1 + ((rm) % 8)) (ks) ((xj.k).tmod 20))).length) (capp7)) rfl rfl (y_move rfl) ?_
                refine o_guard (j := 10) (d := 125) (b := false) rfl rfl rfl (fun _ => ?_) rfl (fun h => by cases h)
                refine o_y (v := .int .i64 ((((keyK (touchK (1 + ((rm) % 8)) (ks) ((xj.k).tmod 20))).length : Nat) : Int))) rfl rfl (y_len rfl Try.underlying22) ?_
                refine o_guard (j := 10) (d := 125) (b := false) rfl rfl rfl (fun _ => ?_) rfl (fun h => by cases h)
                refine o_y (v := .bool (false)) rfl rfl (y_bool (y_eql rfl rfl rfl) (decide_eq_false (by omega))) ?_
                refine o_y (v := .bool (false)) rfl rfl (y_pick (b := false) rfl rfl) ?_
                refine o_y (v := .bool (false)) rfl rfl (y_move rfl) ?_
                refine o_guard (j := 15) (d := 130) (b := false) rfl rfl rfl (fun _ => ?_) rfl (fun h => by cases h)
                refine o_y (v := .slice (ap7) ((keyK (touchK (1 + ((rm) % 8)) (ks) ((xj.k).tmod 20))).length) (capp7)) rfl rfl (y_move rfl) ?_
                refine o_guard (j := 15) (d := 130) (b := false) rfl rfl rfl (fun _ => ?_) rfl (fun h => by cases h)
                refine o_y (v := .pointer (some ⟨gp7, 0 + 0 * 1, none⟩)) rfl rfl (y_ixO 0 (hvp7.at_ (by first | omega | (simp; done) | (simp; omega))) rfl rfl Try.underlying22 s3 (by omega) (by first | omega | (simp; done) | (simp; omega))) ?_
                refine o_guard (j := 15) (d := 130) (b := false) rfl rfl rfl (fun _ => ?_) rfl (fun h => by cases h)
                refine o_y (v := .int .i64 ((keyK (touchK (1 + ((rm) % 8)) (ks) ((xj.k).tmod 20)))[0]'(by first | omega | (simp; done) | (simp; omega)))) rfl rfl (y_load rfl Try.underlying3 rfl (SlG.rd (SlG.own hvp7 (fun p hp => by first | exact List.mem_append_right _ (List.mem_append_right _ (List.mem_append_right _ hp)) | exact (List.mem_append_right _ (List.mem_append_right _ hp)))) 0 (by first | omega | (simp; done) | (simp; omega)))) ?_
                refine o_guard (j := 15) (d := 130) (b := false) rfl rfl rfl (fun _ => ?_) rfl (fun h => by cases h)
                refine o_y (v := .int .i64 ((xj.k).tmod 20)) rfl rfl (y_move rfl) ?_
                refine o_guard (j := 15) (d := 130) (b := false) rfl rfl rfl (fun _ => ?_) rfl (fun h => by cases h)
                refine o_y (v := .bool (false)) rfl rfl (y_bool (y_neq rfl rfl rfl) (decide_eq_false (fun h => h (head0 hkh _)))) ?_
                refine o_y (v := .bool (false)) rfl rfl (y_pick (b := false) rfl rfl) ?_
                refine o_y (v := .bool (false)) rfl rfl (y_move rfl) ?_
                refine o_guard (j := 22) (d := 137) (b := false) rfl rfl rfl (fun _ => ?_) rfl (fun h => by cases h)
                refine o_y (v := .bool (false)) rfl rfl (y_bool (y_move rfl) (hsm.1)) ?_
                refine o_guard (j := 22) (d := 137) (b := false) rfl rfl rfl (fun _ => ?_) rfl (fun h => by cases h)
                refine o_y (v := .bool (false)) rfl rfl (y_move rfl) ?_
                refine o_guard (j := 24) (d := 139) (b := false) rfl rfl rfl (fun h => by cases h) rfl (fun _ => ?_)
                refine o_guard (j := 24) (d := 139) (b := false) rfl rfl rfl (fun h => by cases h) rfl (fun _ => ?_)
                refine o_guard (j := 24) (d := 139) (b := false) rfl rfl rfl (fun h => by cases h) rfl (fun _ => ?_)
                refine o_guard (j := 24) (d := 139) (b := false) rfl rfl rfl (fun h => by cases h) rfl (fun _ => ?_)
                refine o_guardU (j := 28) (d := 143) rfl rfl rfl rfl ?_
                refine o_guardU (j := 28) (d := 143) rfl rfl rfl rfl ?_
                refine o_guardU (j := 28) (d := 143) rfl rfl rfl rfl ?_
                refine o_guard (j := 24) (d := 139) (b := false) rfl rfl rfl (fun h => by cases h) rfl (fun _ => ?_)
                refine o_guard (j := 22) (d := 137) (b := false) rfl rfl rfl (fun _ => ?_) rfl (fun h => by cases h)
                refine o_y (v := .bool (false)) rfl rfl (y_pick (b := false) rfl rfl) ?_
                refine o_y (v := .bool (false)) rfl rfl (y_pick (b := false) rfl rfl) ?_
                refine o_nil ?_
                refine hK54 _ _ ?_
                refine c_cond (t := false) rfl (fun h => by cases h) (fun _ => ?_)
                refine c_skip ?_
                refine hK53 _ _ ?_
                refine c_seq fun K55 hK55 => ?_
                refine c_region ?_
                refine o_y (v := .int .i64 (0)) rfl rfl (y_assign rfl) ?_
                refine o_nil ?_
                refine hK55 _ _ ?_
                refine c_block ?_
                refine c_loop (fun d R H => ∃ (i : Nat), d = (keyK (touchK (1 + ((rm) % 8)) (ks) ((xj.k).tmod 20))).length - (i) ∧ (i ≤ (keyK (touchK (1 + ((rm) % 8)) (ks) ((xj.k).tmod 20))).length) ∧ R 1 = .slice (a1) ((l).length) (cap1) ∧ R 5 = .pointer (some ⟨g1, 0, none⟩) ∧ R 7 = .int .i64 (((j : Nat) : Int)) ∧ R 15 = .slice (ap7) ((keyK (touchK (1 + ((rm) % 8)) (ks) ((xj.k).tmod 20))).length) (capp7) ∧ R 17 = .int .i64 (((i : Nat) : Int)) ∧ H = ((HLp6 ++ (Hp3 ++ Hp7)) : Hp)) ((keyK (touchK (1 + ((rm) % 8)) (ks) ((xj.k).tmod 20))).length - (0)) ?_ ?_
                ·
                  refine ⟨0, rfl, by omega, h1_1, h1_5, h1_7, rfl, (ie (a := 0) (b := ((0 : Nat) : Int)) (by omega)), rfl⟩
                ·
                  rintro d6 R6 _ ⟨i, hd6, hv6_0, h6_1, h6_5, h6_7, h6_15, h6_17, rfl⟩
                  refine c_seq fun K56 hK56 => ?_
                  refine c_seq fun K57 hK57 => ?_
                  refine c_region ?_
                  refine o_y (v := .int .i64 (((i : Nat) : Int))) rfl rfl (y_move h6_17) ?_
                  refine o_y (v := .slice (ap7) ((keyK (touchK (1 + ((rm) % 8)) (ks) ((xj.k).tmod 20))).length) (capp7)) rfl rfl (y_move h6_15) ?_
                  refine o_y (v := .int .i64 ((((keyK (touchK (1 + ((rm) % 8)) (ks) ((xj.k).tmod 20))).length : Nat) : Int))) rfl rfl (y_len rfl Try.underlying22) ?_
                  refine o_y (v := .bool (decide (((i : Nat) : Int) < (((keyK (touchK (1 + ((rm) % 8)) (ks) ((xj.k).tmod 20))).length : Nat) : Int)))) rfl rfl (y_lss rfl rfl rfl) ?_
                  refine o_nil ?_
                  refine hK57 _ _ ?_
                  refine c_cond (t := decide (((i : Nat) : Int) < (((keyK (touchK (1 + ((rm) % 8)) (ks) ((xj.k).tmod 20))).length : Nat) : Int))) rfl (fun hc12 => ?_) (fun hc12 => ?_)
                  ·
                    replace hc12 := of_decide_eq_true hc12
                    -- way LTTFFFTLT
                    refine c_skip ?_
                    refine hK56 _ _ ?_
                    refine c_seq fun K58 hK58 => ?_
                    refine c_block ?_
                    refine c_seq fun K59 hK59 => ?_
                    refine c_region ?_
                    refine o_y (v := .int .i64 (0)) rfl rfl (y_assign rfl) ?_
                    refine o_nil ?_
                    refine hK59 _ _ ?_
                    refine c_block ?_
                    refine c_loop (fun d R H => ∃ (m : Nat), d = i - (m) ∧ (m ≤ i) ∧ R 1 = .slice (a1) ((l).length) (cap1) ∧ R 5 = .pointer (some ⟨g1, 0, none⟩) ∧ R 7 = .int .i64 (((j : Nat) : Int)) ∧ R 15 = .slice (ap7) ((keyK (touchK (1 + ((rm) % 8)) (ks) ((xj.k).tmod 20))).length) (capp7) ∧ R 17 = .int .i64 (((i : Nat) : Int)) ∧ R 18 = .int .i64 (((m : Nat) : Int)) ∧ H = ((HLp6 ++ (Hp3 ++ Hp7)) : Hp)) (i - (0)) ?_ ?_
                    ·
                      refine ⟨0, rfl, by omega, h6_1, h6_5, h6_7, h6_15, h6_17, (ie (a := 0) (b := ((0 : Nat) : Int)) (by omega)), rfl⟩
                    ·
                      rintro d7 R7 _ ⟨m, hd7, hv7_0, h7_1, h7_5, h7_7, h7_15, h7_17, h7_18, rfl⟩
                      refine c_seq fun K60 hK60 => ?_
                      refine c_seq fun K61 hK61 => ?_
                      refine c_region ?_
                      refine o_y (v := .int .i64 (((m : Nat) : Int))) rfl rfl (y_move h7_18) ?_
                      refine o_y (v := .int .i64 (((i : Nat) : Int))) rfl rfl (y_move h7_17) ?_
                      refine o_y (v := .bool (decide (((m : Nat) : Int) < ((i : Nat) : Int)))) rfl rfl (y_lss rfl rfl rfl) ?_
                      refine o_nil ?_
                      refine hK61 _ _ ?_
                      refine c_cond (t := decide (((m : Nat) : Int) < ((i : Nat) : Int))) rfl (fun hc13 => ?_) (fun hc13 => ?_)
                      ·
                        replace hc13 := of_decide_eq_true hc13
                        -- way LTTFFFTLTLT
                        refine c_skip ?_
                        refine hK60 _ _ ?_
                        refine c_seq fun K62 hK62 => ?_
                        refine c_block ?_
                        refine c_seq fun K63 hK63 => ?_
                        refine c_draw 9 (by kernel_rfl) (by kernel_rfl) ?_
                        refine q_y (v := .slice (ap7) ((keyK (touchK (1 + ((rm) % 8)) (ks) ((xj.k).tmod 20))).length) (capp7)) rfl (y_move h7_15) ?_
                        refine q_y (v := .int .i64 (((i : Nat) : Int))) rfl (y_move h7_17) ?_
                        refine q_y (v := .pointer (some ⟨gp7, 0 + i * 1, none⟩)) rfl (y_ixO i (hvp7.at_ (by first | omega | (simp; done) | (simp; omega))) rfl rfl Try.underlying22 s3 (by omega) (by first | omega | (simp; done) | (simp; omega))) ?_
                        refine q_y (v := .int .i64 ((keyK (touchK (1 + ((rm) % 8)) (ks) ((xj.k).tmod 20)))[i]'(by first | omega | (simp; done) | (simp; omega)))) rfl (y_load rfl Try.underlying3 rfl (SlG.rd (SlG.own hvp7 (fun p hp => by first | exact List.mem_append_right _ (List.mem_append_right _ (List.mem_append_right _ hp)) | exact (List.mem_append_right _ (List.mem_append_right _ hp)))) i (by first | omega | (simp; done) | (simp; omega)))) ?_
                        refine q_y (v := .slice (ap7) ((keyK (touchK (1 + ((rm) % 8)) (ks) ((xj.k).tmod 20))).length) (capp7)) rfl (y_move h7_15) ?_
                        refine q_y (v := .int .i64 (((m : Nat) : Int))) rfl (y_move h7_18) ?_
                        refine q_y (v := .pointer (some ⟨gp7, 0 + m * 1, none⟩)) rfl (y_ixO m (hvp7.at_ (by first | omega | (simp; done) | (simp; omega))) rfl rfl Try.underlying22 s3 (by omega) (by first | omega | (simp; done) | (simp; omega))) ?_
                        refine q_y (v := .int .i64 ((keyK (touchK (1 + ((rm) % 8)) (ks) ((xj.k).tmod 20)))[m]'(by first | omega | (simp; done) | (simp; omega)))) rfl (y_load rfl Try.underlying3 rfl (SlG.rd (SlG.own hvp7 (fun p hp => by first | exact List.mem_append_right _ (List.mem_append_right _ (List.mem_append_right _ hp)) | exact (List.mem_append_right _ (List.mem_append_right _ hp)))) m (by first | omega | (simp; done) | (simp; omega)))) ?_
                        refine q_y (v := .bool (false)) rfl (y_bool (y_eql rfl rfl rfl) (decide_eq_false (nd_ne hTF.nd (by omega) (by omega)))) ?_
                        refine q_nil ?_
                        refine o_nil ?_
                        refine hK63 _ _ ?_
                        refine c_cond (t := false) rfl (fun h => by cases h) (fun _ => ?_)
                        refine c_skip ?_
                        refine hK62 _ _ ?_
                        refine c_region ?_
                        refine o_y (v := .int .i64 (((m : Nat) : Int))) rfl rfl (y_move h7_18) ?_
                        refine o_y (v := .int .i64 ((((m : Nat) : Int)) + 1)) rfl rfl (y_add rfl rfl (wi_i64 (by omega) (by omega))) ?_
                        refine o_y (v := .int .i64 ((((m : Nat) : Int)) + 1)) rfl rfl (y_assign rfl) ?_
                        refine o_nil ?_
                        refine ⟨_, by omega, m + 1, rfl, by omega, h7_1, h7_5, h7_7, h7_15, h7_17, (ie (a := (((m : Nat) : Int)) + 1) (b := ((m + 1 : Nat) : Int)) (by omega)), rfl⟩
                      ·
                        replace hc13 := of_decide_eq_false hc13
                        -- way LTTFFFTLTLF
                        refine c_exit ?_
                        refine hK58 _ _ ?_
                        refine c_region ?_
                        refine o_y (v := .int .i64 (((i : Nat) : Int))) rfl rfl (y_move h7_17) ?_
                        refine o_y (v := .int .i64 ((((i : Nat) : Int)) + 1)) rfl rfl (y_add rfl rfl (wi_i64 (by omega) (by omega))) ?_
                        refine o_y (v := .int .i64 ((((i : Nat) : Int)) + 1)) rfl rfl (y_assign rfl) ?_
                        refine o_nil ?_
                        refine ⟨_, by omega, i + 1, rfl, by omega, h7_1, h7_5, h7_7, h7_15, (ie (a := (((i : Nat) : Int)) + 1) (b := ((i + 1 : Nat) : Int)) (by omega)), rfl⟩
                  ·
                    replace hc12 := of_decide_eq_false hc12
                    -- way LTTFFFTLF
                    refine c_exit ?_
                    refine hK10 _ _ ?_
                    refine c_region ?_
                    refine o_y (v := .int .i64 (((j : Nat) : Int))) rfl rfl (y_move h6_7) ?_
                    refine o_y (v := .int .i64 ((((j : Nat) : Int)) + 1)) rfl rfl (y_add rfl rfl (wi_i64 (by omega) (by omega))) ?_
                    refine o_y (v := .int .i64 ((((j : Nat) : Int)) + 1)) rfl rfl (y_assign rfl) ?_
                    refine o_forget (H' := (HLp6)) (List.sublist_append_left _ _) ?_
                    refine o_nil ?_
                    refine ⟨_, by omega, j + 1, touchK (1 + ((rm) % 8)) (ks) ((xj.k).tmod 20), HLp6, rfl, by omega, hLp6, h6_1, h6_5, (ie (a := (((j : Nat) : Int)) + 1) (b := ((j + 1 : Nat) : Int)) (by omega)), rfl⟩
      ·
        replace hc2 := of_decide_eq_false hc2
        -- way LTF
        refine c_exit ?_
        refine hK5 _ _ ?_
        refine c_seq fun K64 hK64 => ?_
        refine c_region ?_
        refine o_y (v := .bool (true)) rfl rfl (y_call (vs := []) b12 rfl (fun w hw => f12_lives w)) ?_
        refine o_y (v := .bool (true)) rfl rfl (y_assign rfl) ?_
        refine o_nil ?_
        refine hK64 _ _ ?_
        refine c_ret ?_
        refine fun w hw => ⟨[.bool (true)], ⟨rfl, trivial⟩, ?_⟩
        exact rfl

end Go.Proofs.Ytpbpenlceigddaa.Lru
