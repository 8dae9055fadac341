/- Proved: what the functions of the reference's list come to; the conditions stand in the statements. -/
import Derived.Test.YtpbpenlceigddaaLruRef
set_option linter.unusedVariables false
set_option linter.unusedSimpArgs false
set_option linter.unnecessarySimpa false
namespace Go.Proofs.Ytpbpenlceigddaa.Lru
open Go Go.RowKit Go.Proofs.Ytpbpenlceigddaa.Eng

set_option maxRecDepth 100000 in
set_option maxHeartbeats 4000000 in
theorem f17_RNew (n : Int) (w : World) (h1 : 1 ≤ n) (h64 : n ≤ 64) :
    Calls Try.prog 17 [.int .i64 (n)].toArray w fun e w' => ∃ v H', e = .returned v ∧ St w (fun _ => False) H' w' ∧ (fun v H => ∃ gr, v = .tuple #[.pointer (some ⟨gr, 0, none⟩), .int .i64 0] ∧ RefK gr n [] H) v H' := by
  refine (calls_of (P := Try.prog) (n := 13) (w0 := w) (S := fun _ => False) (H := []) (T := fun v H => ∃ H', H'.Sublist H ∧ (fun v H => ∃ gr, v = .tuple #[.pointer (some ⟨gr, 0, none⟩), .int .i64 0] ∧ RefK gr n [] H) v H') Try.func17 rfl Try.ntmps17 (Nat.le_of_ble_eq_true rfl) [.tmp 2, .tmp 3] rfl (St.nil w _) ?_).mono fun e w' ⟨v, H', he, hs, H2, hsub, hT⟩ => ⟨v, H2, he, hs.drop hsub, hT⟩
  refine c_seq fun K1 hK1 => ?_
  refine c_region ?_
  refine o_y (v := .pointer none) rfl rfl (y_assign rfl) ?_
  refine o_y (v := .int .i64 (0)) rfl rfl (y_assign rfl) ?_
  refine o_nil ?_
  refine hK1 _ _ ?_
  refine c_seq fun K2 hK2 => ?_
  refine c_seq fun K3 hK3 => ?_
  refine c_region ?_
  refine o_y (v := .int .i64 (n)) rfl rfl (y_move rfl) ?_
  refine o_y (v := .bool (false)) rfl rfl (y_bool (y_lss rfl rfl rfl) (decide_eq_false (by omega))) ?_
  refine o_y (v := .bool (false)) rfl rfl (y_move rfl) ?_
  refine o_guard (j := 2) (d := 6) (b := false) rfl rfl rfl (fun _ => ?_) rfl (fun h => by cases h)
  refine o_y (v := .int .i64 (n)) rfl rfl (y_move rfl) ?_
  refine o_guard (j := 2) (d := 6) (b := false) rfl rfl rfl (fun _ => ?_) rfl (fun h => by cases h)
  refine o_y (v := .bool (false)) rfl rfl (y_bool (y_gtr rfl rfl rfl) (decide_eq_false (by omega))) ?_
  refine o_y (v := .bool (false)) rfl rfl (y_pick (b := false) rfl rfl) ?_
  refine o_nil ?_
  refine hK3 _ _ ?_
  refine c_cond (t := false) rfl (fun h => by cases h) (fun _ => ?_)
  refine c_skip ?_
  refine hK2 _ _ ?_
  refine c_seq fun K4 hK4 => ?_
  refine c_region ?_
  refine o_y (v := .int .i64 (n)) rfl rfl (y_move rfl) ?_
  refine o_y (v := .agg (#[.int .i64 (n), .slice none 0 0])) rfl rfl (y_build rfl (by kernel_rfl)) ?_
  refine o_box (v := .agg (#[.int .i64 (n), .slice none 0 0])) rfl rfl fun g1 => ?_
  refine o_y (v := .pointer (some ⟨g1, 0, none⟩)) rfl rfl (y_assign rfl) ?_
  refine o_y (v := .int .i64 (0)) rfl rfl (y_assign rfl) ?_
  refine o_nil ?_
  refine hK4 _ _ ?_
  refine c_ret ?_
  refine fun w hw => ⟨[.pointer (some ⟨g1, 0, none⟩), .int .i64 (0)], ⟨rfl, rfl, trivial⟩, ?_⟩
  exact ⟨_, (List.Sublist.slnil.cons_cons _), _, rfl, none, 0, 0, [], rfl, OwnV.none'⟩
  first | done | rfl

set_option maxRecDepth 100000 in
set_option maxHeartbeats 4000000 in
theorem f17_RNewBad (n : Int) (w : World) (hn : n < 1 ∨ 64 < n) :
    Calls Try.prog 17 [.int .i64 (n)].toArray w fun e w' => e = .returned (.tuple #[.pointer none, .int .i64 (2)]) ∧ Below w.heap.size w w' := by
  refine (calls_of (P := Try.prog) (n := 13) (w0 := w) (S := fun _ => False) (H := []) (T := fun v _ => v = (.tuple #[.pointer none, .int .i64 (2)])) Try.func17 rfl Try.ntmps17 (Nat.le_of_ble_eq_true rfl) [.tmp 2, .tmp 3] rfl (St.nil w _) ?_).mono fun e w' ⟨v, H', he, hs, hT⟩ => ⟨by rw [he, hT], hs.below⟩
  refine c_seq fun K1 hK1 => ?_
  refine c_region ?_
  refine o_y (v := .pointer none) rfl rfl (y_assign rfl) ?_
  refine o_y (v := .int .i64 (0)) rfl rfl (y_assign rfl) ?_
  refine o_nil ?_
  refine hK1 _ _ ?_
  refine c_seq fun K2 hK2 => ?_
  refine c_seq fun K3 hK3 => ?_
  refine c_region ?_
  refine o_y (v := .int .i64 (n)) rfl rfl (y_move rfl) ?_
  refine o_y (v := .bool (decide (n < 1))) rfl rfl (y_lss rfl rfl rfl) ?_
  refine o_y (v := .bool (decide (n < 1))) rfl rfl (y_move rfl) ?_
  cases hc1 : (decide (n < 1) : Bool)
  ·
    have hc1' := of_decide_eq_false hc1
    -- way F
    refine o_guard (j := 2) (d := 6) (b := false) rfl rfl rfl (fun _ => ?_) rfl (fun h => by cases h)
    refine o_y (v := .int .i64 (n)) rfl rfl (y_move rfl) ?_
    refine o_guard (j := 2) (d := 6) (b := false) rfl rfl rfl (fun _ => ?_) rfl (fun h => by cases h)
    refine o_y (v := .bool (decide (64 < n))) rfl rfl (y_gtr rfl rfl rfl) ?_
    refine o_y (v := .bool (decide (64 < n))) rfl rfl (y_pick (b := false) rfl rfl) ?_
    refine o_nil ?_
    refine hK3 _ _ ?_
    refine c_cond (t := decide (64 < n)) rfl (fun hc2 => ?_) (fun hc2 => ?_)
    ·
      replace hc2 := of_decide_eq_true hc2
      -- way FT
      refine c_seq fun K4 hK4 => ?_
      refine c_region ?_
      refine o_y (v := .pointer none) rfl rfl (y_assign rfl) ?_
      refine o_y (v := .int .i64 (2)) rfl rfl (y_assign rfl) ?_
      refine o_nil ?_
      refine hK4 _ _ ?_
      refine c_ret ?_
      refine fun w hw => ⟨[.pointer none, .int .i64 (2)], ⟨rfl, rfl, trivial⟩, ?_⟩
      exact rfl
    ·
      replace hc2 := of_decide_eq_false hc2
      -- way FF
      exfalso; omega
  ·
    have hc1' := of_decide_eq_true hc1
    -- way T
    refine o_guard (j := 2) (d := 6) (b := true) rfl rfl rfl (fun h => by cases h) rfl (fun _ => ?_)
    refine o_guard (j := 2) (d := 6) (b := true) rfl rfl rfl (fun h => by cases h) rfl (fun _ => ?_)
    refine o_y (v := .bool (true)) rfl rfl (y_pick (b := true) rfl rfl) ?_
    refine o_nil ?_
    refine hK3 _ _ ?_
    refine c_cond (t := true) rfl (fun _ => ?_) (fun h => by cases h)
    refine c_seq fun K5 hK5 => ?_
    refine c_region ?_
    refine o_y (v := .pointer none) rfl rfl (y_assign rfl) ?_
    refine o_y (v := .int .i64 (2)) rfl rfl (y_assign rfl) ?_
    refine o_nil ?_
    refine hK5 _ _ ?_
    refine c_ret ?_
    refine fun w hw => ⟨[.pointer none, .int .i64 (2)], ⟨rfl, rfl, trivial⟩, ?_⟩
    exact rfl

set_option maxRecDepth 100000 in
set_option maxHeartbeats 4000000 in
theorem f32_place (gr : Nat) (r : Int) (ks : Ks) (H0 : Hp) (k : Int) (w : World) (hR : RefK gr r ks H0) (h64 : ks.length ≤ 64) (hat : At (H0) w) :
    Calls Try.prog 32 [.pointer (some ⟨gr, 0, none⟩), .int .i64 (k)].toArray w fun e w' => e = .returned (.int .i64 (placeI ks k)) ∧ Below w.heap.size w w' := by
  obtain ⟨aS, gs, capS, Hs, rfl, hown⟩ := hR
  refine (calls_of (P := Try.prog) (n := 26) (w0 := w) (S := ids ([(gr, .cells (#[.int .i64 (r), .slice (aS) (ks.length) (capS)]) 59 (0, 0))] ++ (Hs))) (H := [(gr, .cells (#[.int .i64 (r), .slice (aS) (ks.length) (capS)]) 59 (0, 0))] ++ (Hs)) (T := fun v H => v = (.int .i64 (placeI ks k)) ∧ ([(gr, .cells (#[.int .i64 (r), .slice (aS) (ks.length) (capS)]) 59 (0, 0))] ++ (Hs) : Hp).Sublist H) Try.func32 rfl Try.ntmps32 (Nat.le_of_ble_eq_true rfl) [.tmp 4] rfl hat.st ?_).mono fun e w' ⟨v, H', he, hs, hT, hsub⟩ => ⟨by rw [he, hT], St.same hat hs hsub⟩
  refine c_seq fun K1 hK1 => ?_
  refine c_region ?_
  refine o_y (v := .int .i64 (0)) rfl rfl (y_assign rfl) ?_
  refine o_nil ?_
  refine hK1 _ _ ?_
  refine c_seq fun K2 hK2 => ?_
  refine c_seq fun K3 hK3 => ?_
  refine c_region ?_
  refine o_y (v := .int .i64 (0)) rfl rfl (y_assign rfl) ?_
  refine o_nil ?_
  refine hK3 _ _ ?_
  refine c_block ?_
  refine c_loop (fun d R H => ∃ (j : Nat), d = ks.length - (j) ∧ (j ≤ ks.length) ∧ (NoK ks k (j)) ∧ R 0 = .pointer (some ⟨gr, 0, none⟩) ∧ R 1 = .int .i64 (k) ∧ R 5 = .int .i64 (((j : Nat) : Int)) ∧ H = ([(gr, .cells (#[.int .i64 (r), .slice (aS) (ks.length) (capS)]) 59 (0, 0))] ++ (Hs) : Hp)) (ks.length - (0)) ?_ ?_
  ·
    refine ⟨0, rfl, by omega, nok_0, rfl, rfl, (ie (a := 0) (b := ((0 : Nat) : Int)) (by omega)), rfl⟩
  ·
    rintro d1 R1 _ ⟨j, hd1, hv1_0, hv1_1, h1_0, h1_1, h1_5, rfl⟩
    refine c_seq fun K4 hK4 => ?_
    refine c_seq fun K5 hK5 => ?_
    refine c_region ?_
    refine o_y (v := .int .i64 (((j : Nat) : Int))) rfl rfl (y_move h1_5) ?_
    refine o_y (v := .pointer (some ⟨gr, 0, none⟩)) rfl rfl (y_move h1_0) ?_
    refine o_y (v := .pointer (some ⟨gr, 0, none⟩)) rfl rfl (y_nilCheck rfl) ?_
    refine o_y (v := .pointer (some ⟨gr, 1, none⟩)) rfl rfl (y_fieldAddr (k := 1) rfl Try.underlying59 rfl rfl ⟨_, s57⟩ (by first | rfl | omega)) ?_
    refine o_y (v := .slice (aS) (ks.length) (capS)) rfl rfl (y_load rfl Try.underlying57 rfl (Rd.one (k := 0) rfl rfl)) ?_
    refine o_y (v := .int .i64 (((ks.length : Nat) : Int))) rfl rfl (y_len rfl Try.underlying57) ?_
    refine o_y (v := .bool (decide (((j : Nat) : Int) < ((ks.length : Nat) : Int)))) rfl rfl (y_lss rfl rfl rfl) ?_
    refine o_nil ?_
    refine hK5 _ _ ?_
    refine c_cond (t := decide (((j : Nat) : Int) < ((ks.length : Nat) : Int))) rfl (fun hc1 => ?_) (fun hc1 => ?_)
    ·
      replace hc1 := of_decide_eq_true hc1
      -- way LT
      refine c_skip ?_
      refine hK4 _ _ ?_
      refine c_seq fun K6 hK6 => ?_
      refine c_block ?_
      refine c_seq fun K7 hK7 => ?_
      refine c_region ?_
      refine o_y (v := .pointer (some ⟨gr, 0, none⟩)) rfl rfl (y_move h1_0) ?_
      refine o_y (v := .pointer (some ⟨gr, 0, none⟩)) rfl rfl (y_nilCheck rfl) ?_
      refine o_y (v := .pointer (some ⟨gr, 1, none⟩)) rfl rfl (y_fieldAddr (k := 1) rfl Try.underlying59 rfl rfl ⟨_, s57⟩ (by first | rfl | omega)) ?_
      refine o_y (v := .slice (aS) (ks.length) (capS)) rfl rfl (y_load rfl Try.underlying57 rfl (Rd.one (k := 0) rfl rfl)) ?_
      refine o_y (v := .int .i64 (((j : Nat) : Int))) rfl rfl (y_move h1_5) ?_
      refine o_y (v := .pointer (some ⟨gs, 0 + j * 2, none⟩)) rfl rfl (y_ixO j (hown.at_ (by first | omega | (simp; done) | (simp; omega))) rfl rfl Try.underlying57 s62 (by omega) (by first | omega | (simp; done) | (simp; omega))) ?_
      refine o_y (v := .pointer (some ⟨gs, 0 + j * 2 + 0, none⟩)) rfl rfl (y_fieldAddr (k := 0) rfl Try.underlying62 rfl rfl ⟨_, s3⟩ (by first | rfl | omega)) ?_
      refine o_y (v := .int .i64 (((ks).getD j d0).1)) rfl rfl (y_load rfl Try.underlying3 rfl (Rd.sub1 (k := 0) (SlG.rd' (SlG.own hown (fun p hp => by first | exact List.mem_append_right _ hp | exact (List.mem_cons_of_mem _ hp))) (at_getD (by first | omega | (simp; done) | (simp; omega)))) (by show _ + _ * 2 + _ = _; omega) rfl)) ?_
      refine o_y (v := .int .i64 (k)) rfl rfl (y_move h1_1) ?_
      refine o_y (v := .bool (decide (((ks).getD j d0).1 = k))) rfl rfl (y_eql rfl rfl rfl) ?_
      refine o_nil ?_
      refine hK7 _ _ ?_
      refine c_cond (t := decide (((ks).getD j d0).1 = k)) rfl (fun hc2 => ?_) (fun hc2 => ?_)
      ·
        replace hc2 := of_decide_eq_true hc2
        -- way LTT
        refine c_seq fun K8 hK8 => ?_
        refine c_region ?_
        refine o_y (v := .int .i64 (((j : Nat) : Int))) rfl rfl (y_move h1_5) ?_
        refine o_y (v := .int .i64 (((j : Nat) : Int))) rfl rfl (y_assign rfl) ?_
        refine o_nil ?_
        refine hK8 _ _ ?_
        refine c_ret ?_
        refine fun w hw => ⟨[.int .i64 (((j : Nat) : Int))], ⟨rfl, trivial⟩, ?_⟩
        exact ⟨ie ((place_t hv1_1 (by omega) hc2).symm), (((List.Sublist.refl _).cons_cons _))⟩
        first | done | rfl
      ·
        replace hc2 := of_decide_eq_false hc2
        -- way LTF
        refine c_skip ?_
        refine hK6 _ _ ?_
        refine c_region ?_
        refine o_y (v := .int .i64 (((j : Nat) : Int))) rfl rfl (y_move h1_5) ?_
        refine o_y (v := .int .i64 ((((j : Nat) : Int)) + 1)) rfl rfl (y_add rfl rfl (wi_i64 (by omega) (by omega))) ?_
        refine o_y (v := .int .i64 ((((j : Nat) : Int)) + 1)) rfl rfl (y_assign rfl) ?_
        refine o_nil ?_
        refine ⟨_, by omega, j + 1, rfl, by omega, nok_s hv1_1 hc2, h1_0, h1_1, (ie (a := (((j : Nat) : Int)) + 1) (b := ((j + 1 : Nat) : Int)) (by omega)), rfl⟩
    ·
      replace hc1 := of_decide_eq_false hc1
      -- way LF
      refine c_exit ?_
      refine hK2 _ _ ?_
      refine c_seq fun K9 hK9 => ?_
      refine c_region ?_
      refine o_y (v := .int .i64 (-1)) rfl rfl (y_assign rfl) ?_
      refine o_nil ?_
      refine hK9 _ _ ?_
      refine c_ret ?_
      refine fun w hw => ⟨[.int .i64 (-1)], ⟨rfl, trivial⟩, ?_⟩
      exact ⟨ie ((place_f (show NoK ks k ks.length from (by rw [show ks.length = j from by omega]; exact hv1_1))).symm), (((List.Sublist.refl _).cons_cons _))⟩
      first | done | rfl

set_option maxRecDepth 100000 in
set_option maxHeartbeats 4000000 in
theorem f33_ahead (x : Int × Bool) (l : Ks) (a1 : Option Addr) (b1 o1 cap1 m1 : Nat) (w : World) (hm1 : m1 = l.length) (hs : Sl eKey w l a1 b1 o1 cap1) (h64 : l.length ≤ 64) :
    Calls Try.prog 33 [.agg (#[.int .i64 (x).1, .bool (x).2]), .slice (a1) (m1) (cap1)].toArray w fun e w' => ∃ v H', e = .returned v ∧ St w (fun _ => False) H' w' ∧ (fun v H => ∃ a g cap, v = .slice a (x :: l).length cap ∧ OwnV eKey 62 (x :: l) a g cap H) v H' := by
  subst hm1
  have hle := hs.le
  have hmx := hs.mx
  simp only [maxLen] at hmx
  refine (calls_of (P := Try.prog) (n := 13) (w0 := w) (S := fun _ => False) (H := []) (T := fun v H => ∃ H', H'.Sublist H ∧ (fun v H => ∃ a g cap, v = .slice a (x :: l).length cap ∧ OwnV eKey 62 (x :: l) a g cap H) v H') Try.func33 rfl Try.ntmps33 (Nat.le_of_ble_eq_true rfl) [.tmp 4] rfl (St.nil w _) ?_).mono fun e w' ⟨v, H', he, hs, H2, hsub, hT⟩ => ⟨v, H2, he, hs.drop hsub, hT⟩
  refine c_seq fun K1 hK1 => ?_
  refine c_region ?_
  refine o_box (v := .agg (#[.int .i64 (x).1, .bool (x).2])) rfl rfl fun g1 => ?_
  refine o_y (v := .slice none 0 0) rfl rfl (y_assign rfl) ?_
  refine o_nil ?_
  refine hK1 _ _ ?_
  refine c_seq fun K2 hK2 => ?_
  refine c_region ?_
  refine o_y (v := .slice none 0 0) rfl rfl (y_assign rfl) ?_
  refine o_nil ?_
  refine hK2 _ _ ?_
  refine c_seq fun K3 hK3 => ?_
  refine c_region ?_
  refine o_y (v := .slice none 0 0) rfl rfl (y_move rfl) ?_
  refine o_y (v := .agg (#[.int .i64 (x).1, .bool (x).2])) rfl rfl (y_loadS rfl Try.underlying62 rfl s62 (Rd.whole (k := 0) rfl)) ?_
  refine o_buildRow SL57 ([x] : List (Int × Bool)) (fun x => .agg #[.int .i64 x.1, .bool x.2]) (fun _ => rfl) rfl rfl (by rw [Array.toList_map]; rfl) (by simp) (by simp [eKey]) fun g2 cg2 hrg2 => ?_
  refine o_appendV SL57 ([(g2, .cells (cg2) 62 (0, 0)), (g1, .cells (#[.int .i64 (x).1, .bool (x).2]) 62 (0, 0))]) (fun Hy => [(g2, .cells (cg2) 62 (0, 0)), (g1, .cells (#[.int .i64 (x).1, .bool (x).2]) 62 (0, 0))] ++ (Hy)) rfl (fun Hy => by have h := List.perm_append_comm (l₁ := ([(g2, .cells (cg2) 62 (0, 0)), (g1, .cells (#[.int .i64 (x).1, .bool (x).2]) 62 (0, 0))] : Hp)) (l₂ := Hy); first | exact h | simpa [Value.cells] using h) (List.Perm.refl _) OwnV.none' rfl (by first | omega | (simp; done) | (simp; omega)) rfl (by first | omega | (simp; done) | (simp; omega)) (SlG.row (k := 0) rfl hrg2) (by simp only [maxLen] <;> first | omega | (simp; done) | (simp; omega)) (by first | omega | (simp; done) | (simp; omega)) fun ap4 gp4 capp4 Hp4 hvp4 => ?_
  rw [List.nil_append] at hvp4
  refine o_y (v := .slice (ap4) (0 + 1) (capp4)) rfl rfl (y_assign rfl) ?_
  refine o_nil ?_
  refine hK3 _ _ ?_
  refine c_seq fun K4 hK4 => ?_
  refine c_region ?_
  refine o_y (v := .slice (ap4) (0 + 1) (capp4)) rfl rfl (y_move rfl) ?_
  refine o_y (v := .slice (a1) ((l).length) (cap1)) rfl rfl (y_move rfl) ?_
  refine o_appendV SL57 ([(g2, .cells (cg2) 62 (0, 0)), (g1, .cells (#[.int .i64 (x).1, .bool (x).2]) 62 (0, 0))]) (fun Hy => [(g2, .cells (cg2) 62 (0, 0)), (g1, .cells (#[.int .i64 (x).1, .bool (x).2]) 62 (0, 0))] ++ (Hy)) rfl (fun Hy => by have h := List.perm_append_comm (l₁ := ([(g2, .cells (cg2) 62 (0, 0)), (g1, .cells (#[.int .i64 (x).1, .bool (x).2]) 62 (0, 0))] : Hp)) (l₂ := Hy); first | exact h | simpa [Value.cells] using h) (by have h := List.perm_append_comm_assoc ([(g2, .cells (cg2) 62 (0, 0)), (g1, .cells (#[.int .i64 (x).1, .bool (x).2]) 62 (0, 0))] : Hp) Hp4 ([] : Hp); first | exact h | simpa [Value.cells] using h) hvp4 rfl (by first | omega | (simp; done) | (simp; omega)) rfl (by first | omega | (simp; done) | (simp; omega)) (SlG.old hs (fun _ h => h)) (by simp only [maxLen] <;> first | omega | (simp; done) | (simp; omega)) (by first | omega | (simp; done) | (simp; omega)) fun ap6 gp6 capp6 Hp6 hvp6 => ?_
  refine o_y (v := .slice (ap6) ((0 + 1) + ((l).length)) (capp6)) rfl rfl (y_assign rfl) ?_
  refine o_nil ?_
  refine hK4 _ _ ?_
  refine c_ret ?_
  refine fun w hw => ⟨[.slice (ap6) ((0 + 1) + ((l).length)) (capp6)], ⟨rfl, trivial⟩, ?_⟩
  refine ⟨_, (((List.Sublist.refl _).cons _).cons _), _, _, _, len_eq ?_, hvp6⟩
  simp; omega
  first | done | rfl

set_option maxRecDepth 100000 in
set_option maxHeartbeats 4000000 in
theorem f34_without (gr : Nat) (r : Int) (ks : Ks) (H0 : Hp) (i : Nat) (w : World) (hR : RefK gr r ks H0) (h64 : ks.length ≤ 64) (hi : i < ks.length) (hat : At (H0) w) :
    Calls Try.prog 34 [.pointer (some ⟨gr, 0, none⟩), .int .i64 (((i : Nat) : Int))].toArray w fun e w' => ∃ v H', e = .returned v ∧ St w (fun _ => False) H' w' ∧ (fun v H => ∃ a g cap, v = .slice a (ks.eraseIdx i).length cap ∧ OwnV eKey 62 (ks.eraseIdx i) a g cap H) v H' := by
  obtain ⟨aS, gs, capS, Hs, rfl, hown⟩ := hR
  have hle := hown.le
  have hmx := hown.mx
  simp only [maxLen] at hmx
  refine (calls_of (P := Try.prog) (n := 23) (w0 := w) (S := ids ([(gr, .cells (#[.int .i64 (r), .slice (aS) (ks.length) (capS)]) 59 (0, 0))] ++ (Hs))) (H := [(gr, .cells (#[.int .i64 (r), .slice (aS) (ks.length) (capS)]) 59 (0, 0))] ++ (Hs)) (T := fun v H => ∃ H1, (fun v H => ∃ a g cap, v = .slice a (ks.eraseIdx i).length cap ∧ OwnV eKey 62 (ks.eraseIdx i) a g cap H) v H1 ∧ (([(gr, .cells (#[.int .i64 (r), .slice (aS) (ks.length) (capS)]) 59 (0, 0))] ++ (Hs) : Hp) ++ H1).Sublist H) Try.func34 rfl Try.ntmps34 (Nat.le_of_ble_eq_true rfl) [.tmp 4] rfl hat.st ?_).mono fun e w' ⟨v, H', he, hs, H1, hT, hsub⟩ => ⟨v, H1, he, St.pure hat hs hsub, hT⟩
  refine c_seq fun K1 hK1 => ?_
  refine c_region ?_
  refine o_y (v := .slice none 0 0) rfl rfl (y_assign rfl) ?_
  refine o_nil ?_
  refine hK1 _ _ ?_
  refine c_seq fun K2 hK2 => ?_
  refine c_region ?_
  refine o_y (v := .slice none 0 0) rfl rfl (y_assign rfl) ?_
  refine o_nil ?_
  refine hK2 _ _ ?_
  refine c_seq fun K3 hK3 => ?_
  refine c_region ?_
  refine o_y (v := .slice none 0 0) rfl rfl (y_move rfl) ?_
  refine o_y (v := .pointer (some ⟨gr, 0, none⟩)) rfl rfl (y_move rfl) ?_
  refine o_y (v := .pointer (some ⟨gr, 0, none⟩)) rfl rfl (y_nilCheck rfl) ?_
  refine o_y (v := .pointer (some ⟨gr, 1, none⟩)) rfl rfl (y_fieldAddr (k := 1) rfl Try.underlying59 rfl rfl ⟨_, s57⟩ (by first | rfl | omega)) ?_
  refine o_y (v := .slice (aS) (ks.length) (capS)) rfl rfl (y_load rfl Try.underlying57 rfl (Rd.one (k := 0) rfl rfl)) ?_
  refine o_y (v := .int .i64 (((i : Nat) : Int))) rfl rfl (y_move rfl) ?_
  refine o_y (v := .slice (aS) (i) (capS)) rfl rfl (y_partL (sz := 2) i rfl Try.underlying57 s62 ⟨_, rfl⟩ (by first | omega | (simp; done) | (simp; omega))) ?_
  refine o_appendV SL57 ([(gr, .cells (#[.int .i64 (r), .slice (aS) (ks.length) (capS)]) 59 (0, 0))] ++ (Hs)) (fun Hy => [(gr, .cells (#[.int .i64 (r), .slice (aS) (ks.length) (capS)]) 59 (0, 0))] ++ (Hs ++ Hy)) rfl (fun Hy => by have h := List.perm_append_comm (l₁ := ([(gr, .cells (#[.int .i64 (r), .slice (aS) (ks.length) (capS)]) 59 (0, 0))] ++ (Hs) : Hp)) (l₂ := Hy); first | exact h | simpa [Value.cells] using h) (List.Perm.refl _) OwnV.none' rfl (by first | omega | (simp; done) | (simp; omega)) rfl (by first | omega | (simp; done) | (simp; omega)) (SlG.first (SlG.own hown (fun p hp => by first | exact List.mem_append_right _ hp | exact (List.mem_cons_of_mem _ hp))) i) (by simp only [maxLen] <;> first | omega | (simp; done) | (simp; omega)) (by first | omega | (simp; done) | (simp; omega)) fun ap2 gp2 capp2 Hp2 hvp2 => ?_
  rw [List.nil_append] at hvp2
  refine o_y (v := .slice (ap2) (0 + i) (capp2)) rfl rfl (y_assign rfl) ?_
  refine o_nil ?_
  refine hK3 _ _ ?_
  refine c_seq fun K4 hK4 => ?_
  refine c_region ?_
  refine o_y (v := .slice (ap2) (0 + i) (capp2)) rfl rfl (y_move rfl) ?_
  refine o_y (v := .pointer (some ⟨gr, 0, none⟩)) rfl rfl (y_move rfl) ?_
  refine o_y (v := .pointer (some ⟨gr, 0, none⟩)) rfl rfl (y_nilCheck rfl) ?_
  refine o_y (v := .pointer (some ⟨gr, 1, none⟩)) rfl rfl (y_fieldAddr (k := 1) rfl Try.underlying59 rfl rfl ⟨_, s57⟩ (by first | rfl | omega)) ?_
  refine o_y (v := .slice (aS) (ks.length) (capS)) rfl rfl (y_load rfl Try.underlying57 rfl (Rd.one (k := 0) rfl rfl)) ?_
  refine o_y (v := .int .i64 (((i : Nat) : Int))) rfl rfl (y_move rfl) ?_
  refine o_y (v := .int .i64 (((i + 1 : Nat) : Int))) rfl rfl (y_as (y_add rfl rfl (wi_i64 (by omega) (by omega))) (ie (by omega))) ?_
  refine o_y (v := .slice (part_ (aS) (i + 1) 2 (capS)) ((ks.length) - (i + 1)) (capS - (i + 1))) rfl rfl (y_part (sz := 2) (i + 1) (ks.length) rfl Try.underlying57 s62 ⟨_, rfl⟩ rfl (by first | omega | (simp; done) | (simp; omega)) (by first | omega | (simp; done) | (simp; omega))) ?_
  refine o_appendV SL57 ([(gr, .cells (#[.int .i64 (r), .slice (aS) (ks.length) (capS)]) 59 (0, 0))] ++ (Hs)) (fun Hy => [(gr, .cells (#[.int .i64 (r), .slice (aS) (ks.length) (capS)]) 59 (0, 0))] ++ (Hs ++ Hy)) rfl (fun Hy => by have h := List.perm_append_comm (l₁ := ([(gr, .cells (#[.int .i64 (r), .slice (aS) (ks.length) (capS)]) 59 (0, 0))] ++ (Hs) : Hp)) (l₂ := Hy); first | exact h | simpa [Value.cells] using h) (by have h := List.perm_append_comm_assoc ([(gr, .cells (#[.int .i64 (r), .slice (aS) (ks.length) (capS)]) 59 (0, 0))] ++ (Hs) : Hp) Hp2 ([] : Hp); first | exact h | simpa [Value.cells] using h) hvp2 rfl (by first | omega | (simp; done) | (simp; omega)) rfl (by first | omega | (simp; done) | (simp; omega)) (SlG.part (SlG.own hown (fun p hp => by first | exact List.mem_append_right _ (List.mem_append_left _ hp) | exact (List.mem_cons_of_mem _ (List.mem_append_left _ hp)))) (i + 1) (ks.length) (by first | omega | (simp; done) | (simp; omega)) (by first | omega | (simp; done) | (simp; omega))) (by simp only [maxLen] <;> first | omega | (simp; done) | (simp; omega)) (by first | omega | (simp; done) | (simp; omega)) fun ap4 gp4 capp4 Hp4 hvp4 => ?_
  refine o_y (v := .slice (ap4) ((0 + i) + ((ks.length) - (i + 1))) (capp4)) rfl rfl (y_assign rfl) ?_
  refine o_nil ?_
  refine hK4 _ _ ?_
  refine c_ret ?_
  refine fun w hw => ⟨[.slice (ap4) ((0 + i) + ((ks.length) - (i + 1))) (capp4)], ⟨rfl, trivial⟩, ?_⟩
  have e1 := erase_eq ks i hi
  refine ⟨_, ⟨_, _, _, len_eq (by rw [e1, List.length_append]; simp; omega), (by rw [e1]; exact hvp4)⟩, (((List.Sublist.refl _).cons_cons _) : (([(gr, .cells (#[.int .i64 (r), .slice (aS) (ks.length) (capS)]) 59 (0, 0))] ++ (Hs) : Hp) ++ _).Sublist _)⟩
  first | done | rfl

set_option maxRecDepth 100000 in
set_option maxHeartbeats 4000000 in
theorem f27_RTouchIs (gr : Nat) (r : Int) (ks : Ks) (H0 : Hp) (k : Int) (i : Nat) (w : World) (hR : RefK gr r ks H0) (h64 : ks.length ≤ 64) (hpl : plc ks k = some i) (hat : At (H0) w) :
    Calls Try.prog 27 [.pointer (some ⟨gr, 0, none⟩), .int .i64 (k)].toArray w fun e w' => ∃ v H', e = .returned v ∧ St w (ids (H0)) H' w' ∧ (fun v H => v = .tuple #[.int .i64 (0), .bool (false), .int .i64 (0)] ∧ RefK gr r (touchK r ks k) H) v H' := by
  obtain ⟨aS, gs, capS, Hs, rfl, hown⟩ := hR
  have hi : i < ks.length := plc_lt hpl
  refine (calls_of (P := Try.prog) (n := 86) (w0 := w) (S := ids ([(gr, .cells (#[.int .i64 (r), .slice (aS) (ks.length) (capS)]) 59 (0, 0))] ++ (Hs))) (H := [(gr, .cells (#[.int .i64 (r), .slice (aS) (ks.length) (capS)]) 59 (0, 0))] ++ (Hs)) (T := fun v H => ∃ H1, (fun v H => v = .tuple #[.int .i64 (0), .bool (false), .int .i64 (0)] ∧ RefK gr r (touchK r ks k) H) v H1 ∧ (H1 : Hp).Sublist H) Try.func27 rfl Try.ntmps27 (Nat.le_of_ble_eq_true rfl) [.tmp 4, .tmp 5, .tmp 6] rfl hat.st ?_).mono fun e w' ⟨v, H', he, hs, H1, hT, hsub⟩ => ⟨v, H1, he, hs.drop hsub, hT⟩
  refine c_seq fun K1 hK1 => ?_
  refine c_region ?_
  refine o_y (v := .int .i64 (0)) rfl rfl (y_assign rfl) ?_
  refine o_y (v := .bool (false)) rfl rfl (y_assign rfl) ?_
  refine o_y (v := .int .i64 (0)) rfl rfl (y_assign rfl) ?_
  refine o_nil ?_
  refine hK1 _ _ ?_
  refine c_seq fun K2 hK2 => ?_
  refine c_region ?_
  refine o_y (v := .pointer (some ⟨gr, 0, none⟩)) rfl rfl (y_move rfl) ?_
  refine o_y (v := .int .i64 (k)) rfl rfl (y_move rfl) ?_
  refine o_y (v := .int .i64 (((i : Nat) : Int))) rfl rfl (y_call (vs := [.pointer (some ⟨gr, 0, none⟩), .int .i64 (k)]) b32 rfl (fun w hw => (by have h := f32_place gr r ks _ (k) w ⟨_, _, _, _, rfl, hown⟩ h64 (hw.sat ((List.Sublist.refl _).cons_cons _)); rw [placeI_some hpl] at h; exact h))) ?_
  refine o_y (v := .int .i64 (((i : Nat) : Int))) rfl rfl (y_assign rfl) ?_
  refine o_nil ?_
  refine hK2 _ _ ?_
  refine c_seq fun K3 hK3 => ?_
  refine c_seq fun K4 hK4 => ?_
  refine c_region ?_
  refine o_y (v := .int .i64 (((i : Nat) : Int))) rfl rfl (y_move rfl) ?_
  refine o_y (v := .bool (true)) rfl rfl (y_bool (y_geq rfl rfl rfl) (decide_eq_true (by omega))) ?_
  refine o_nil ?_
  refine hK4 _ _ ?_
  refine c_cond (t := true) rfl (fun _ => ?_) (fun h => by cases h)
  refine c_seq fun K5 hK5 => ?_
  refine c_drawK [0, 1, 2, 3, 4, 5, 6, 7, 8, 9, 12, 13] [10, 11, 14] [8, 9] (by kernel_rfl) (by kernel_rfl) ?_
  refine f_l (v := .pointer (some ⟨gr, 0, none⟩)) rfl rfl (qn rfl (y_move rfl)) ?_
  refine f_l (v := .pointer (some ⟨gr, 0, none⟩)) rfl rfl (qn rfl (y_move rfl)) ?_
  refine f_l (v := .pointer (some ⟨gr, 0, none⟩)) rfl rfl (qn rfl (y_nilCheck rfl)) ?_
  refine f_l (v := .pointer (some ⟨gr, 1, none⟩)) rfl rfl (qn rfl (y_fieldAddr (k := 1) rfl Try.underlying59 rfl rfl ⟨_, s57⟩ (by first | rfl | omega))) ?_
  refine f_l (v := .slice (aS) (ks.length) (capS)) rfl rfl (qn rfl (y_load rfl Try.underlying57 rfl (Rd.one (k := 0) rfl rfl))) ?_
  refine f_l (v := .int .i64 (((i : Nat) : Int))) rfl rfl (qn rfl (y_move rfl)) ?_
  refine f_l (v := .pointer (some ⟨gs, 0 + i * 2, none⟩)) rfl rfl (qn rfl (y_ixO i (hown.at_ (by first | omega | (simp; done) | (simp; omega))) rfl rfl Try.underlying57 s62 (by omega) (by first | omega | (simp; done) | (simp; omega)))) ?_
  refine f_l (v := .agg (#[.int .i64 ((ks).getD i d0).1, .bool ((ks).getD i d0).2])) rfl rfl (qn rfl (y_loadN rfl Try.underlying62 rfl (by first | (rw [s62, eKey.len]; rfl) | (rw [s62]; rfl)) (SlG.rd' (SlG.own hown (fun p hp => by first | exact List.mem_append_right _ hp | exact (List.mem_cons_of_mem _ hp))) (at_getD (by first | omega | (simp; done) | (simp; omega)))))) ?_
  refine f_e (v := .pointer (some ⟨gr, 0, none⟩)) rfl rfl (qn rfl (y_move rfl)) ?_
  refine f_e (v := .int .i64 (((i : Nat) : Int))) rfl rfl (qn rfl (y_move rfl)) ?_
  refine f_l (v := .pointer (some ⟨gr, 0, none⟩)) rfl rfl (qn rfl (y_nilCheck rfl)) ?_
  refine f_l (v := .pointer (some ⟨gr, 1, none⟩)) rfl rfl (qn rfl (y_fieldAddr (k := 1) rfl Try.underlying59 rfl rfl ⟨_, s57⟩ (by first | rfl | omega))) ?_
  refine f_nil ?_
  refine tk_step rfl ?_
  refine o_callV (fun Hy => [(gr, .cells (#[.int .i64 (r), .slice (aS) (ks.length) (capS)]) 59 (0, 0))] ++ (Hs ++ Hy)) (fun Hy => by have h := List.perm_append_comm (l₁ := ([(gr, .cells (#[.int .i64 (r), .slice (aS) (ks.length) (capS)]) 59 (0, 0))] ++ (Hs) : Hp)) (l₂ := Hy); first | exact h | simpa [Value.cells] using h) (vs := [.pointer (some ⟨gr, 0, none⟩), .int .i64 (((i : Nat) : Int))]) b34 rfl rfl (fun w hw => f34_without gr r ks _ i w ⟨_, _, _, _, rfl, hown⟩ h64 (by omega) (hw.sat ((List.Sublist.refl _).cons_cons _))) ?_
  rintro _ Hp1 ⟨ap1, gp1, capp1, rfl, hvp1⟩
  refine o_nil ⟨rfl, (allQ_yes (qn rfl (y_fieldAddr (k := 1) rfl Try.underlying59 rfl rfl ⟨_, s57⟩ (by first | rfl | omega))) (allQ_yes (qn rfl (y_nilCheck rfl)) (allQ_yes (qn rfl (y_loadN rfl Try.underlying62 rfl (by first | (rw [s62, eKey.len]; rfl) | (rw [s62]; rfl)) (SlG.rd' (SlG.own hown (fun p hp => by first | exact List.mem_append_right _ (List.mem_append_left _ hp) | exact (List.mem_cons_of_mem _ (List.mem_append_left _ hp)))) (at_getD (by first | omega | (simp; done) | (simp; omega)))))) (allQ_yes (qn rfl (y_ixO i (hown.at_ (by first | omega | (simp; done) | (simp; omega))) rfl rfl Try.underlying57 s62 (by omega) (by first | omega | (simp; done) | (simp; omega)))) (allQ_yes (qn rfl (y_move rfl)) (allQ_yes (qn rfl (y_load rfl Try.underlying57 rfl (Rd.one (k := 0) rfl rfl))) (allQ_yes (qn rfl (y_fieldAddr (k := 1) rfl Try.underlying59 rfl rfl ⟨_, s57⟩ (by first | rfl | omega))) (allQ_yes (qn rfl (y_nilCheck rfl)) (allQ_yes (qn rfl (y_move rfl)) (allQ_yes (qn rfl (y_move rfl)) allQ_nil)))))))))), ?_⟩
  refine tk_step rfl ?_
  refine o_callV (fun Hy => [(gr, .cells (#[.int .i64 (r), .slice (aS) (ks.length) (capS)]) 59 (0, 0))] ++ (Hs ++ (Hp1 ++ Hy))) (fun Hy => by have h := List.perm_append_comm (l₁ := ([(gr, .cells (#[.int .i64 (r), .slice (aS) (ks.length) (capS)]) 59 (0, 0))] ++ (Hs ++ Hp1) : Hp)) (l₂ := Hy); first | exact h | simpa [Value.cells] using h) (vs := [.agg (#[.int .i64 ((ks).getD i d0).1, .bool ((ks).getD i d0).2]), .slice (ap1) ((ks.eraseIdx i).length) (capp1)]) b33 rfl rfl (fun w hw => f33_ahead ((ks).getD i d0) (ks.eraseIdx i) _ _ _ _ _ w (by first | rfl | (simp; done) | (simp; omega)) ((SlG.own hvp1 (fun p hp => by first | exact List.mem_append_right _ (List.mem_append_right _ hp) | exact (List.mem_cons_of_mem _ (List.mem_append_right _ hp)))) w hw) (by first | omega | (rw [List.length_eraseIdx_of_lt (by omega)]; omega))) ?_
  rintro _ Hp2 ⟨ap2, gp2, capp2, rfl, hvp2⟩
  refine o_nil ⟨rfl, (allQ_yes (qn rfl (y_fieldAddr (k := 1) rfl Try.underlying59 rfl rfl ⟨_, s57⟩ (by first | rfl | omega))) (allQ_yes (qn rfl (y_nilCheck rfl)) (allQ_no (by kernel_rfl) (allQ_yes (qn rfl (y_ixO i (hown.at_ (by first | omega | (simp; done) | (simp; omega))) rfl rfl Try.underlying57 s62 (by omega) (by first | omega | (simp; done) | (simp; omega)))) (allQ_yes (qn rfl (y_move rfl)) (allQ_yes (qn rfl (y_load rfl Try.underlying57 rfl (Rd.one (k := 0) rfl rfl))) (allQ_yes (qn rfl (y_fieldAddr (k := 1) rfl Try.underlying59 rfl rfl ⟨_, s57⟩ (by first | rfl | omega))) (allQ_yes (qn rfl (y_nilCheck rfl)) (allQ_yes (qn rfl (y_move rfl)) (allQ_yes (qn rfl (y_move rfl)) allQ_nil)))))))))), ?_⟩
  refine tk_step rfl ?_
  refine o_storeC (H' := [(gr, .cells (#[.int .i64 (r), .slice (ap2) ((((ks).getD i d0) :: (ks.eraseIdx i)).length) (capp2)]) 59 (0, 0))] ++ (Hs ++ (Hp1 ++ Hp2))) 0 rfl rfl rfl rfl rfl s57 (Nat.le_of_ble_eq_true rfl) rfl rfl ?_
  refine o_nil ⟨rfl, (allQ_no (by kernel_rfl) (allQ_yes (qn rfl (y_nilCheck rfl)) (allQ_no (by kernel_rfl) (allQ_no (by kernel_rfl) (allQ_no (by kernel_rfl) (allQ_no (by kernel_rfl) (allQ_no (by kernel_rfl) (allQ_no (by kernel_rfl) (allQ_no (by kernel_rfl) (allQ_no (by kernel_rfl) allQ_nil)))))))))), ?_⟩
  refine tk_nil ?_
  refine hK5 _ _ ?_
  refine c_seq fun K6 hK6 => ?_
  refine c_region ?_
  refine o_y (v := .int .i64 (0)) rfl rfl (y_assign rfl) ?_
  refine o_y (v := .bool (false)) rfl rfl (y_assign rfl) ?_
  refine o_y (v := .int .i64 (0)) rfl rfl (y_assign rfl) ?_
  refine o_nil ?_
  refine hK6 _ _ ?_
  refine c_ret ?_
  refine fun w hw => ⟨[.int .i64 (0), .bool (false), .int .i64 (0)], ⟨rfl, rfl, rfl, trivial⟩, ?_⟩
  exact ⟨_, ⟨rfl, refk_eq (touchK_a hpl) ⟨_, _, _, _, by first | rfl | (simp only [List.length_set]; rfl), hvp2⟩⟩, (((List.Sublist.trans (List.Sublist.trans (List.Sublist.refl _) (List.sublist_append_right _ _)) (List.sublist_append_right _ _)).cons_cons _) : ([(gr, .cells (#[.int .i64 (r), .slice (ap2) ((((ks).getD i d0) :: (ks.eraseIdx i)).length) (capp2)]) 59 (0, 0))] ++ (Hp2) : Hp).Sublist _)⟩
  first | done | rfl

set_option maxRecDepth 100000 in
set_option maxHeartbeats 4000000 in
theorem f27_RTouchNew (gr : Nat) (r : Int) (ks : Ks) (H0 : Hp) (k : Int) (w : World) (hR : RefK gr r ks H0) (h64 : ks.length ≤ 64) (hpl : plc ks k = none) (hlt : (ks.length : Int) < r) (hat : At (H0) w) :
    Calls Try.prog 27 [.pointer (some ⟨gr, 0, none⟩), .int .i64 (k)].toArray w fun e w' => ∃ v H', e = .returned v ∧ St w (ids (H0)) H' w' ∧ (fun v H => v = .tuple #[.int .i64 (0), .bool (false), .int .i64 (0)] ∧ RefK gr r (touchK r ks k) H) v H' := by
  obtain ⟨aS, gs, capS, Hs, rfl, hown⟩ := hR
  refine (calls_of (P := Try.prog) (n := 86) (w0 := w) (S := ids ([(gr, .cells (#[.int .i64 (r), .slice (aS) (ks.length) (capS)]) 59 (0, 0))] ++ (Hs))) (H := [(gr, .cells (#[.int .i64 (r), .slice (aS) (ks.length) (capS)]) 59 (0, 0))] ++ (Hs)) (T := fun v H => ∃ H1, (fun v H => v = .tuple #[.int .i64 (0), .bool (false), .int .i64 (0)] ∧ RefK gr r (touchK r ks k) H) v H1 ∧ (H1 : Hp).Sublist H) Try.func27 rfl Try.ntmps27 (Nat.le_of_ble_eq_true rfl) [.tmp 4, .tmp 5, .tmp 6] rfl hat.st ?_).mono fun e w' ⟨v, H', he, hs, H1, hT, hsub⟩ => ⟨v, H1, he, hs.drop hsub, hT⟩
  refine c_seq fun K1 hK1 => ?_
  refine c_region ?_
  refine o_y (v := .int .i64 (0)) rfl rfl (y_assign rfl) ?_
  refine o_y (v := .bool (false)) rfl rfl (y_assign rfl) ?_
  refine o_y (v := .int .i64 (0)) rfl rfl (y_assign rfl) ?_
  refine o_nil ?_
  refine hK1 _ _ ?_
  refine c_seq fun K2 hK2 => ?_
  refine c_region ?_
  refine o_y (v := .pointer (some ⟨gr, 0, none⟩)) rfl rfl (y_move rfl) ?_
  refine o_y (v := .int .i64 (k)) rfl rfl (y_move rfl) ?_
  refine o_y (v := .int .i64 (-1)) rfl rfl (y_call (vs := [.pointer (some ⟨gr, 0, none⟩), .int .i64 (k)]) b32 rfl (fun w hw => (by have h := f32_place gr r ks _ (k) w ⟨_, _, _, _, rfl, hown⟩ h64 (hw.sat ((List.Sublist.refl _).cons_cons _)); rw [placeI_none hpl] at h; exact h))) ?_
  refine o_y (v := .int .i64 (-1)) rfl rfl (y_assign rfl) ?_
  refine o_nil ?_
  refine hK2 _ _ ?_
  refine c_seq fun K3 hK3 => ?_
  refine c_seq fun K4 hK4 => ?_
  refine c_region ?_
  refine o_y (v := .int .i64 (-1)) rfl rfl (y_move rfl) ?_
  refine o_y (v := .bool (false)) rfl rfl (y_geq rfl rfl (by decide)) ?_
  refine o_nil ?_
  refine hK4 _ _ ?_
  refine c_cond (t := false) rfl (fun h => by cases h) (fun _ => ?_)
  refine c_skip ?_
  refine hK3 _ _ ?_
  refine c_seq fun K5 hK5 => ?_
  refine c_seq fun K6 hK6 => ?_
  refine c_draw 10 (by kernel_rfl) (by kernel_rfl) ?_
  refine q_y (v := .pointer (some ⟨gr, 0, none⟩)) rfl (y_move rfl) ?_
  refine q_y (v := .pointer (some ⟨gr, 0, none⟩)) rfl (y_nilCheck rfl) ?_
  refine q_y (v := .pointer (some ⟨gr, 1, none⟩)) rfl (y_fieldAddr (k := 1) rfl Try.underlying59 rfl rfl ⟨_, s57⟩ (by first | rfl | omega)) ?_
  refine q_y (v := .slice (aS) (ks.length) (capS)) rfl (y_load rfl Try.underlying57 rfl (Rd.one (k := 0) rfl rfl)) ?_
  refine q_y (v := .int .i64 (((ks.length : Nat) : Int))) rfl (y_len rfl Try.underlying57) ?_
  refine q_y (v := .pointer (some ⟨gr, 0, none⟩)) rfl (y_move rfl) ?_
  refine q_y (v := .pointer (some ⟨gr, 0, none⟩)) rfl (y_nilCheck rfl) ?_
  refine q_y (v := .pointer (some ⟨gr, 0, none⟩)) rfl (y_fieldAddr (k := 0) rfl Try.underlying59 rfl rfl ⟨_, s3⟩ (by first | rfl | omega)) ?_
  refine q_y (v := .int .i64 (r)) rfl (y_load rfl Try.underlying3 rfl (Rd.one (k := 0) rfl rfl)) ?_
  refine q_y (v := .bool (true)) rfl (y_bool (y_lss rfl rfl rfl) (decide_eq_true hlt)) ?_
  refine q_nil ?_
  refine o_nil ?_
  refine hK6 _ _ ?_
  refine c_cond (t := true) rfl (fun _ => ?_) (fun h => by cases h)
  refine c_seq fun K7 hK7 => ?_
  refine c_region ?_
  refine o_y (v := .pointer (some ⟨gr, 0, none⟩)) rfl rfl (y_move rfl) ?_
  refine o_y (v := .int .i64 (k)) rfl rfl (y_move rfl) ?_
  refine o_y (v := .agg (#[.int .i64 ((k, false)).1, .bool ((k, false)).2])) rfl rfl (y_build rfl (by kernel_rfl)) ?_
  refine o_y (v := .pointer (some ⟨gr, 0, none⟩)) rfl rfl (y_move rfl) ?_
  refine o_y (v := .pointer (some ⟨gr, 0, none⟩)) rfl rfl (y_nilCheck rfl) ?_
  refine o_y (v := .pointer (some ⟨gr, 1, none⟩)) rfl rfl (y_fieldAddr (k := 1) rfl Try.underlying59 rfl rfl ⟨_, s57⟩ (by first | rfl | omega)) ?_
  refine o_y (v := .slice (aS) (ks.length) (capS)) rfl rfl (y_load rfl Try.underlying57 rfl (Rd.one (k := 0) rfl rfl)) ?_
  refine o_callV (fun Hy => [(gr, .cells (#[.int .i64 (r), .slice (aS) (ks.length) (capS)]) 59 (0, 0))] ++ (Hs ++ Hy)) (fun Hy => by have h := List.perm_append_comm (l₁ := ([(gr, .cells (#[.int .i64 (r), .slice (aS) (ks.length) (capS)]) 59 (0, 0))] ++ (Hs) : Hp)) (l₂ := Hy); first | exact h | simpa [Value.cells] using h) (vs := [.agg (#[.int .i64 ((k, false)).1, .bool ((k, false)).2]), .slice (aS) (ks.length) (capS)]) b33 rfl rfl (fun w hw => f33_ahead ((k, false)) (ks) _ _ _ _ _ w (by first | rfl | (simp; done) | (simp; omega)) ((SlG.own hown (fun p hp => by first | exact List.mem_append_right _ hp | exact (List.mem_cons_of_mem _ hp))) w hw) (by first | omega | (rw [List.length_eraseIdx_of_lt (by omega)]; omega))) ?_
  rintro _ Hp1 ⟨ap1, gp1, capp1, rfl, hvp1⟩
  refine o_y (v := .pointer (some ⟨gr, 0, none⟩)) rfl rfl (y_nilCheck rfl) ?_
  refine o_y (v := .pointer (some ⟨gr, 1, none⟩)) rfl rfl (y_fieldAddr (k := 1) rfl Try.underlying59 rfl rfl ⟨_, s57⟩ (by first | rfl | omega)) ?_
  refine o_storeC (H' := [(gr, .cells (#[.int .i64 (r), .slice (ap1) ((((k, false)) :: (ks)).length) (capp1)]) 59 (0, 0))] ++ (Hs ++ Hp1)) 0 rfl rfl rfl rfl rfl s57 (Nat.le_of_ble_eq_true rfl) rfl rfl ?_
  refine o_nil ?_
  refine hK7 _ _ ?_
  refine c_seq fun K8 hK8 => ?_
  refine c_region ?_
  refine o_y (v := .int .i64 (0)) rfl rfl (y_assign rfl) ?_
  refine o_y (v := .bool (false)) rfl rfl (y_assign rfl) ?_
  refine o_y (v := .int .i64 (0)) rfl rfl (y_assign rfl) ?_
  refine o_nil ?_
  refine hK8 _ _ ?_
  refine c_ret ?_
  refine fun w hw => ⟨[.int .i64 (0), .bool (false), .int .i64 (0)], ⟨rfl, rfl, rfl, trivial⟩, ?_⟩
  exact ⟨_, ⟨rfl, refk_eq (touchK_b hpl hlt) ⟨_, _, _, _, by first | rfl | (simp only [List.length_set]; rfl), hvp1⟩⟩, (((List.Sublist.trans (List.Sublist.refl _) (List.sublist_append_right _ _)).cons_cons _) : ([(gr, .cells (#[.int .i64 (r), .slice (ap1) ((((k, false)) :: (ks)).length) (capp1)]) 59 (0, 0))] ++ (Hp1) : Hp).Sublist _)⟩
  first | done | rfl

set_option maxRecDepth 100000 in
set_option maxHeartbeats 4000000 in
theorem f27_RTouchFull (gr : Nat) (r : Int) (ks : Ks) (H0 : Hp) (k : Int) (w : World) (hR : RefK gr r ks H0) (h64 : ks.length ≤ 64) (hpl : plc ks k = none) (hlt : ¬ (ks.length : Int) < r) (hlf : lfK ks ks.length = none) (hat : At (H0) w) :
    Calls Try.prog 27 [.pointer (some ⟨gr, 0, none⟩), .int .i64 (k)].toArray w fun e w' => e = .returned (.tuple #[.int .i64 (0), .bool (false), .int .i64 (10)]) ∧ Below w.heap.size w w' := by
  obtain ⟨aS, gs, capS, Hs, rfl, hown⟩ := hR
  refine (calls_of (P := Try.prog) (n := 86) (w0 := w) (S := ids ([(gr, .cells (#[.int .i64 (r), .slice (aS) (ks.length) (capS)]) 59 (0, 0))] ++ (Hs))) (H := [(gr, .cells (#[.int .i64 (r), .slice (aS) (ks.length) (capS)]) 59 (0, 0))] ++ (Hs)) (T := fun v H => v = (.tuple #[.int .i64 (0), .bool (false), .int .i64 (10)]) ∧ ([(gr, .cells (#[.int .i64 (r), .slice (aS) (ks.length) (capS)]) 59 (0, 0))] ++ (Hs) : Hp).Sublist H) Try.func27 rfl Try.ntmps27 (Nat.le_of_ble_eq_true rfl) [.tmp 4, .tmp 5, .tmp 6] rfl hat.st ?_).mono fun e w' ⟨v, H', he, hs, hT, hsub⟩ => ⟨by rw [he, hT], St.same hat hs hsub⟩
  refine c_seq fun K1 hK1 => ?_
  refine c_region ?_
  refine o_y (v := .int .i64 (0)) rfl rfl (y_assign rfl) ?_
  refine o_y (v := .bool (false)) rfl rfl (y_assign rfl) ?_
  refine o_y (v := .int .i64 (0)) rfl rfl (y_assign rfl) ?_
  refine o_nil ?_
  refine hK1 _ _ ?_
  refine c_seq fun K2 hK2 => ?_
  refine c_region ?_
  refine o_y (v := .pointer (some ⟨gr, 0, none⟩)) rfl rfl (y_move rfl) ?_
  refine o_y (v := .int .i64 (k)) rfl rfl (y_move rfl) ?_
  refine o_y (v := .int .i64 (-1)) rfl rfl (y_call (vs := [.pointer (some ⟨gr, 0, none⟩), .int .i64 (k)]) b32 rfl (fun w hw => (by have h := f32_place gr r ks _ (k) w ⟨_, _, _, _, rfl, hown⟩ h64 (hw.sat ((List.Sublist.refl _).cons_cons _)); rw [placeI_none hpl] at h; exact h))) ?_
  refine o_y (v := .int .i64 (-1)) rfl rfl (y_assign rfl) ?_
  refine o_nil ?_
  refine hK2 _ _ ?_
  refine c_seq fun K3 hK3 => ?_
  refine c_seq fun K4 hK4 => ?_
  refine c_region ?_
  refine o_y (v := .int .i64 (-1)) rfl rfl (y_move rfl) ?_
  refine o_y (v := .bool (false)) rfl rfl (y_geq rfl rfl (by decide)) ?_
  refine o_nil ?_
  refine hK4 _ _ ?_
  refine c_cond (t := false) rfl (fun h => by cases h) (fun _ => ?_)
  refine c_skip ?_
  refine hK3 _ _ ?_
  refine c_seq fun K5 hK5 => ?_
  refine c_seq fun K6 hK6 => ?_
  refine c_draw 10 (by kernel_rfl) (by kernel_rfl) ?_
  refine q_y (v := .pointer (some ⟨gr, 0, none⟩)) rfl (y_move rfl) ?_
  refine q_y (v := .pointer (some ⟨gr, 0, none⟩)) rfl (y_nilCheck rfl) ?_
  refine q_y (v := .pointer (some ⟨gr, 1, none⟩)) rfl (y_fieldAddr (k := 1) rfl Try.underlying59 rfl rfl ⟨_, s57⟩ (by first | rfl | omega)) ?_
  refine q_y (v := .slice (aS) (ks.length) (capS)) rfl (y_load rfl Try.underlying57 rfl (Rd.one (k := 0) rfl rfl)) ?_
  refine q_y (v := .int .i64 (((ks.length : Nat) : Int))) rfl (y_len rfl Try.underlying57) ?_
  refine q_y (v := .pointer (some ⟨gr, 0, none⟩)) rfl (y_move rfl) ?_
  refine q_y (v := .pointer (some ⟨gr, 0, none⟩)) rfl (y_nilCheck rfl) ?_
  refine q_y (v := .pointer (some ⟨gr, 0, none⟩)) rfl (y_fieldAddr (k := 0) rfl Try.underlying59 rfl rfl ⟨_, s3⟩ (by first | rfl | omega)) ?_
  refine q_y (v := .int .i64 (r)) rfl (y_load rfl Try.underlying3 rfl (Rd.one (k := 0) rfl rfl)) ?_
  refine q_y (v := .bool (false)) rfl (y_bool (y_lss rfl rfl rfl) (decide_eq_false hlt)) ?_
  refine q_nil ?_
  refine o_nil ?_
  refine hK6 _ _ ?_
  refine c_cond (t := false) rfl (fun h => by cases h) (fun _ => ?_)
  refine c_skip ?_
  refine hK5 _ _ ?_
  refine c_seq fun K7 hK7 => ?_
  refine c_seq fun K8 hK8 => ?_
  refine c_region ?_
  refine o_y (v := .pointer (some ⟨gr, 0, none⟩)) rfl rfl (y_move rfl) ?_
  refine o_y (v := .pointer (some ⟨gr, 0, none⟩)) rfl rfl (y_nilCheck rfl) ?_
  refine o_y (v := .pointer (some ⟨gr, 1, none⟩)) rfl rfl (y_fieldAddr (k := 1) rfl Try.underlying59 rfl rfl ⟨_, s57⟩ (by first | rfl | omega)) ?_
  refine o_y (v := .slice (aS) (ks.length) (capS)) rfl rfl (y_load rfl Try.underlying57 rfl (Rd.one (k := 0) rfl rfl)) ?_
  refine o_y (v := .int .i64 (((ks.length : Nat) : Int))) rfl rfl (y_len rfl Try.underlying57) ?_
  refine o_y (v := .int .i64 ((((ks.length : Nat) : Int)) - 1)) rfl rfl (y_sub rfl rfl (wi_i64 (by omega) (by omega))) ?_
  refine o_y (v := .int .i64 ((((ks.length : Nat) : Int)) - 1)) rfl rfl (y_assign rfl) ?_
  refine o_nil ?_
  refine hK8 _ _ ?_
  refine c_block ?_
  refine c_loop (fun d R H => ∃ (j : Nat), d = (j) ∧ (j ≤ ks.length) ∧ (lfK ks ks.length = lfK ks (j)) ∧ R 0 = .pointer (some ⟨gr, 0, none⟩) ∧ R 1 = .int .i64 (k) ∧ R 8 = .int .i64 (((j : Nat) : Int) - 1) ∧ H = ([(gr, .cells (#[.int .i64 (r), .slice (aS) (ks.length) (capS)]) 59 (0, 0))] ++ (Hs) : Hp)) ((ks.length)) ?_ ?_
  ·
    refine ⟨ks.length, rfl, by omega, rfl, rfl, rfl, (ie (a := (((ks.length : Nat) : Int)) - 1) (b := ((ks.length : Nat) : Int) - 1) (by omega)), rfl⟩
  ·
    rintro d1 R1 _ ⟨j, hd1, hv1_0, hv1_1, h1_0, h1_1, h1_8, rfl⟩
    refine c_seq fun K9 hK9 => ?_
    refine c_seq fun K10 hK10 => ?_
    refine c_region ?_
    refine o_y (v := .int .i64 (((j : Nat) : Int) - 1)) rfl rfl (y_move h1_8) ?_
    refine o_y (v := .bool (decide (0 ≤ ((j : Nat) : Int) - 1))) rfl rfl (y_geq rfl rfl rfl) ?_
    refine o_nil ?_
    refine hK10 _ _ ?_
    refine c_cond (t := decide (0 ≤ ((j : Nat) : Int) - 1)) rfl (fun hc1 => ?_) (fun hc1 => ?_)
    ·
      replace hc1 := of_decide_eq_true hc1
      -- way LT
      obtain ⟨m, rfl⟩ : ∃ m, j = m + 1 := ⟨j - 1, by omega⟩
      have h9 : R1 8 = .int .i64 ((m : Nat) : Int) := h1_8.trans (ie (by omega))
      refine c_skip ?_
      refine hK9 _ _ ?_
      refine c_seq fun K11 hK11 => ?_
      refine c_block ?_
      refine c_seq fun K12 hK12 => ?_
      refine c_region ?_
      refine o_y (v := .pointer (some ⟨gr, 0, none⟩)) rfl rfl (y_move h1_0) ?_
      refine o_y (v := .pointer (some ⟨gr, 0, none⟩)) rfl rfl (y_nilCheck rfl) ?_
      refine o_y (v := .pointer (some ⟨gr, 1, none⟩)) rfl rfl (y_fieldAddr (k := 1) rfl Try.underlying59 rfl rfl ⟨_, s57⟩ (by first | rfl | omega)) ?_
      refine o_y (v := .slice (aS) (ks.length) (capS)) rfl rfl (y_load rfl Try.underlying57 rfl (Rd.one (k := 0) rfl rfl)) ?_
      refine o_y (v := .int .i64 (((m : Nat) : Int))) rfl rfl (y_move h9) ?_
      refine o_y (v := .pointer (some ⟨gs, 0 + m * 2, none⟩)) rfl rfl (y_ixO m (hown.at_ (by first | omega | (simp; done) | (simp; omega))) rfl rfl Try.underlying57 s62 (by omega) (by first | omega | (simp; done) | (simp; omega))) ?_
      refine o_y (v := .pointer (some ⟨gs, 0 + m * 2 + 1, none⟩)) rfl rfl (y_fieldAddr (k := 1) rfl Try.underlying62 rfl rfl ⟨_, s4⟩ (by first | rfl | omega)) ?_
      refine o_y (v := .bool (((ks).getD m d0).2)) rfl rfl (y_load rfl Try.underlying4 rfl (Rd.sub1 (k := 1) (SlG.rd' (SlG.own hown (fun p hp => by first | exact List.mem_append_right _ hp | exact (List.mem_cons_of_mem _ hp))) (at_getD (by first | omega | (simp; done) | (simp; omega)))) (by show _ + _ * 2 + _ = _; omega) rfl)) ?_
      refine o_y (v := .bool (!(((ks).getD m d0).2))) rfl rfl (y_not rfl rfl) ?_
      refine o_nil ?_
      refine hK12 _ _ ?_
      refine c_cond (t := !(((ks).getD m d0).2)) rfl (fun hc2 => ?_) (fun hc2 => ?_)
      ·
        try have hc2' : (((ks).getD m d0).2) = false := by simpa using hc2
        -- way LTT
        exfalso; rw [hlf, lfK_free (by simpa using hc2)] at hv1_1; cases hv1_1
      ·
        try have hc2' : (((ks).getD m d0).2) = true := by simpa using hc2
        -- way LTF
        refine c_skip ?_
        refine hK11 _ _ ?_
        refine c_region ?_
        refine o_y (v := .int .i64 (((m : Nat) : Int))) rfl rfl (y_move h9) ?_
        refine o_y (v := .int .i64 ((((m : Nat) : Int)) - 1)) rfl rfl (y_sub rfl rfl (wi_i64 (by omega) (by omega))) ?_
        refine o_y (v := .int .i64 ((((m : Nat) : Int)) - 1)) rfl rfl (y_assign rfl) ?_
        refine o_nil ?_
        refine ⟨_, by omega, m, rfl, by omega, hv1_1.trans (lfK_pin (by simpa using hc2)), h1_0, h1_1, (ie (a := (((m : Nat) : Int)) - 1) (b := ((m : Nat) : Int) - 1) (by omega)), rfl⟩
    ·
      replace hc1 := of_decide_eq_false hc1
      -- way LF
      refine c_exit ?_
      refine hK7 _ _ ?_
      refine c_seq fun K13 hK13 => ?_
      refine c_region ?_
      refine o_y (v := .int .i64 (0)) rfl rfl (y_assign rfl) ?_
      refine o_y (v := .bool (false)) rfl rfl (y_assign rfl) ?_
      refine o_y (v := .int .i64 (10)) rfl rfl (y_assign rfl) ?_
      refine o_nil ?_
      refine hK13 _ _ ?_
      refine c_ret ?_
      refine fun w hw => ⟨[.int .i64 (0), .bool (false), .int .i64 (10)], ⟨rfl, rfl, rfl, trivial⟩, ?_⟩
      exact ⟨rfl, (((List.Sublist.refl _).cons_cons _))⟩
      first | done | rfl

set_option maxRecDepth 100000 in
set_option maxHeartbeats 4000000 in
theorem f27_RTouchOut (gr : Nat) (r : Int) (ks : Ks) (H0 : Hp) (k : Int) (i : Nat) (w : World) (hR : RefK gr r ks H0) (h64 : ks.length ≤ 64) (hpl : plc ks k = none) (hlt : ¬ (ks.length : Int) < r) (hlf : lfK ks ks.length = some i) (hat : At (H0) w) :
    Calls Try.prog 27 [.pointer (some ⟨gr, 0, none⟩), .int .i64 (k)].toArray w fun e w' => ∃ v H', e = .returned v ∧ St w (ids (H0)) H' w' ∧ (fun v H => v = .tuple #[.int .i64 ((ks.getD i d0).1), .bool (true), .int .i64 (0)] ∧ RefK gr r (touchK r ks k) H) v H' := by
  obtain ⟨aS, gs, capS, Hs, rfl, hown⟩ := hR
  have hi : i < ks.length := lfK_lt hlf
  refine (calls_of (P := Try.prog) (n := 86) (w0 := w) (S := ids ([(gr, .cells (#[.int .i64 (r), .slice (aS) (ks.length) (capS)]) 59 (0, 0))] ++ (Hs))) (H := [(gr, .cells (#[.int .i64 (r), .slice (aS) (ks.length) (capS)]) 59 (0, 0))] ++ (Hs)) (T := fun v H => ∃ H1, (fun v H => v = .tuple #[.int .i64 ((ks.getD i d0).1), .bool (true), .int .i64 (0)] ∧ RefK gr r (touchK r ks k) H) v H1 ∧ (H1 : Hp).Sublist H) Try.func27 rfl Try.ntmps27 (Nat.le_of_ble_eq_true rfl) [.tmp 4, .tmp 5, .tmp 6] rfl hat.st ?_).mono fun e w' ⟨v, H', he, hs, H1, hT, hsub⟩ => ⟨v, H1, he, hs.drop hsub, hT⟩
  refine c_seq fun K1 hK1 => ?_
  refine c_region ?_
  refine o_y (v := .int .i64 (0)) rfl rfl (y_assign rfl) ?_
  refine o_y (v := .bool (false)) rfl rfl (y_assign rfl) ?_
  refine o_y (v := .int .i64 (0)) rfl rfl (y_assign rfl) ?_
  refine o_nil ?_
  refine hK1 _ _ ?_
  refine c_seq fun K2 hK2 => ?_
  refine c_region ?_
  refine o_y (v := .pointer (some ⟨gr, 0, none⟩)) rfl rfl (y_move rfl) ?_
  refine o_y (v := .int .i64 (k)) rfl rfl (y_move rfl) ?_
  refine o_y (v := .int .i64 (-1)) rfl rfl (y_call (vs := [.pointer (some ⟨gr, 0, none⟩), .int .i64 (k)]) b32 rfl (fun w hw => (by have h := f32_place gr r ks _ (k) w ⟨_, _, _, _, rfl, hown⟩ h64 (hw.sat ((List.Sublist.refl _).cons_cons _)); rw [placeI_none hpl] at h; exact h))) ?_
  refine o_y (v := .int .i64 (-1)) rfl rfl (y_assign rfl) ?_
  refine o_nil ?_
  refine hK2 _ _ ?_
  refine c_seq fun K3 hK3 => ?_
  refine c_seq fun K4 hK4 => ?_
  refine c_region ?_
  refine o_y (v := .int .i64 (-1)) rfl rfl (y_move rfl) ?_
  refine o_y (v := .bool (false)) rfl rfl (y_geq rfl rfl (by decide)) ?_
  refine o_nil ?_
  refine hK4 _ _ ?_
  refine c_cond (t := false) rfl (fun h => by cases h) (fun _ => ?_)
  refine c_skip ?_
  refine hK3 _ _ ?_
  refine c_seq fun K5 hK5 => ?_
  refine c_seq fun K6 hK6 => ?_
  refine c_draw 10 (by kernel_rfl) (by kernel_rfl) ?_
  refine q_y (v := .pointer (some ⟨gr, 0, none⟩)) rfl (y_move rfl) ?_
  refine q_y (v := .pointer (some ⟨gr, 0, none⟩)) rfl (y_nilCheck rfl) ?_
  refine q_y (v := .pointer (some ⟨gr, 1, none⟩)) rfl (y_fieldAddr (k := 1) rfl Try.underlying59 rfl rfl ⟨_, s57⟩ (by first | rfl | omega)) ?_
  refine q_y (v := .slice (aS) (ks.length) (capS)) rfl (y_load rfl Try.underlying57 rfl (Rd.one (k := 0) rfl rfl)) ?_
  refine q_y (v := .int .i64 (((ks.length : Nat) : Int))) rfl (y_len rfl Try.underlying57) ?_
  refine q_y (v := .pointer (some ⟨gr, 0, none⟩)) rfl (y_move rfl) ?_
  refine q_y (v := .pointer (some ⟨gr, 0, none⟩)) rfl (y_nilCheck rfl) ?_
  refine q_y (v := .pointer (some ⟨gr, 0, none⟩)) rfl (y_fieldAddr (k := 0) rfl Try.underlying59 rfl rfl ⟨_, s3⟩ (by first | rfl | omega)) ?_
  refine q_y (v := .int .i64 (r)) rfl (y_load rfl Try.underlying3 rfl (Rd.one (k := 0) rfl rfl)) ?_
  refine q_y (v := .bool (false)) rfl (y_bool (y_lss rfl rfl rfl) (decide_eq_false hlt)) ?_
  refine q_nil ?_
  refine o_nil ?_
  refine hK6 _ _ ?_
  refine c_cond (t := false) rfl (fun h => by cases h) (fun _ => ?_)
  refine c_skip ?_
  refine hK5 _ _ ?_
  refine c_seq fun K7 hK7 => ?_
  refine c_seq fun K8 hK8 => ?_
  refine c_region ?_
  refine o_y (v := .pointer (some ⟨gr, 0, none⟩)) rfl rfl (y_move rfl) ?_
  refine o_y (v := .pointer (some ⟨gr, 0, none⟩)) rfl rfl (y_nilCheck rfl) ?_
  refine o_y (v := .pointer (some ⟨gr, 1, none⟩)) rfl rfl (y_fieldAddr (k := 1) rfl Try.underlying59 rfl rfl ⟨_, s57⟩ (by first | rfl | omega)) ?_
  refine o_y (v := .slice (aS) (ks.length) (capS)) rfl rfl (y_load rfl Try.underlying57 rfl (Rd.one (k := 0) rfl rfl)) ?_
  refine o_y (v := .int .i64 (((ks.length : Nat) : Int))) rfl rfl (y_len rfl Try.underlying57) ?_
  refine o_y (v := .int .i64 ((((ks.length : Nat) : Int)) - 1)) rfl rfl (y_sub rfl rfl (wi_i64 (by omega) (by omega))) ?_
  refine o_y (v := .int .i64 ((((ks.length : Nat) : Int)) - 1)) rfl rfl (y_assign rfl) ?_
  refine o_nil ?_
  refine hK8 _ _ ?_
  refine c_block ?_
  refine c_loop (fun d R H => ∃ (j : Nat), d = (j) ∧ (j ≤ ks.length) ∧ (lfK ks ks.length = lfK ks (j)) ∧ R 0 = .pointer (some ⟨gr, 0, none⟩) ∧ R 1 = .int .i64 (k) ∧ R 8 = .int .i64 (((j : Nat) : Int) - 1) ∧ H = ([(gr, .cells (#[.int .i64 (r), .slice (aS) (ks.length) (capS)]) 59 (0, 0))] ++ (Hs) : Hp)) ((ks.length)) ?_ ?_
  ·
    refine ⟨ks.length, rfl, by omega, rfl, rfl, rfl, (ie (a := (((ks.length : Nat) : Int)) - 1) (b := ((ks.length : Nat) : Int) - 1) (by omega)), rfl⟩
  ·
    rintro d1 R1 _ ⟨j, hd1, hv1_0, hv1_1, h1_0, h1_1, h1_8, rfl⟩
    refine c_seq fun K9 hK9 => ?_
    refine c_seq fun K10 hK10 => ?_
    refine c_region ?_
    refine o_y (v := .int .i64 (((j : Nat) : Int) - 1)) rfl rfl (y_move h1_8) ?_
    refine o_y (v := .bool (decide (0 ≤ ((j : Nat) : Int) - 1))) rfl rfl (y_geq rfl rfl rfl) ?_
    refine o_nil ?_
    refine hK10 _ _ ?_
    refine c_cond (t := decide (0 ≤ ((j : Nat) : Int) - 1)) rfl (fun hc1 => ?_) (fun hc1 => ?_)
    ·
      replace hc1 := of_decide_eq_true hc1
      -- way LT
      obtain ⟨m, rfl⟩ : ∃ m, j = m + 1 := ⟨j - 1, by omega⟩
      have h9 : R1 8 = .int .i64 ((m : Nat) : Int) := h1_8.trans (ie (by omega))
      refine c_skip ?_
      refine hK9 _ _ ?_
      refine c_seq fun K11 hK11 => ?_
      refine c_block ?_
      refine c_seq fun K12 hK12 => ?_
      refine c_region ?_
      refine o_y (v := .pointer (some ⟨gr, 0, none⟩)) rfl rfl (y_move h1_0) ?_
      refine o_y (v := .pointer (some ⟨gr, 0, none⟩)) rfl rfl (y_nilCheck rfl) ?_
      refine o_y (v := .pointer (some ⟨gr, 1, none⟩)) rfl rfl (y_fieldAddr (k := 1) rfl Try.underlying59 rfl rfl ⟨_, s57⟩ (by first | rfl | omega)) ?_
      refine o_y (v := .slice (aS) (ks.length) (capS)) rfl rfl (y_load rfl Try.underlying57 rfl (Rd.one (k := 0) rfl rfl)) ?_
      refine o_y (v := .int .i64 (((m : Nat) : Int))) rfl rfl (y_move h9) ?_
      refine o_y (v := .pointer (some ⟨gs, 0 + m * 2, none⟩)) rfl rfl (y_ixO m (hown.at_ (by first | omega | (simp; done) | (simp; omega))) rfl rfl Try.underlying57 s62 (by omega) (by first | omega | (simp; done) | (simp; omega))) ?_
      refine o_y (v := .pointer (some ⟨gs, 0 + m * 2 + 1, none⟩)) rfl rfl (y_fieldAddr (k := 1) rfl Try.underlying62 rfl rfl ⟨_, s4⟩ (by first | rfl | omega)) ?_
      refine o_y (v := .bool (((ks).getD m d0).2)) rfl rfl (y_load rfl Try.underlying4 rfl (Rd.sub1 (k := 1) (SlG.rd' (SlG.own hown (fun p hp => by first | exact List.mem_append_right _ hp | exact (List.mem_cons_of_mem _ hp))) (at_getD (by first | omega | (simp; done) | (simp; omega)))) (by show _ + _ * 2 + _ = _; omega) rfl)) ?_
      refine o_y (v := .bool (!(((ks).getD m d0).2))) rfl rfl (y_not rfl rfl) ?_
      refine o_nil ?_
      refine hK12 _ _ ?_
      refine c_cond (t := !(((ks).getD m d0).2)) rfl (fun hc2 => ?_) (fun hc2 => ?_)
      ·
        try have hc2' : (((ks).getD m d0).2) = false := by simpa using hc2
        -- way LTT
        have hmi : m = i := by rw [hlf, lfK_free (by simpa using hc2)] at hv1_1; exact (Option.some.inj hv1_1).symm
        subst hmi
        refine c_seq fun K13 hK13 => ?_
        refine c_region ?_
        refine o_y (v := .pointer (some ⟨gr, 0, none⟩)) rfl rfl (y_move h1_0) ?_
        refine o_y (v := .pointer (some ⟨gr, 0, none⟩)) rfl rfl (y_nilCheck rfl) ?_
        refine o_y (v := .pointer (some ⟨gr, 1, none⟩)) rfl rfl (y_fieldAddr (k := 1) rfl Try.underlying59 rfl rfl ⟨_, s57⟩ (by first | rfl | omega)) ?_
        refine o_y (v := .slice (aS) (ks.length) (capS)) rfl rfl (y_load rfl Try.underlying57 rfl (Rd.one (k := 0) rfl rfl)) ?_
        refine o_y (v := .int .i64 (((m : Nat) : Int))) rfl rfl (y_move h9) ?_
        refine o_y (v := .pointer (some ⟨gs, 0 + m * 2, none⟩)) rfl rfl (y_ixO m (hown.at_ (by first | omega | (simp; done) | (simp; omega))) rfl rfl Try.underlying57 s62 (by omega) (by first | omega | (simp; done) | (simp; omega))) ?_
        refine o_y (v := .pointer (some ⟨gs, 0 + m * 2 + 0, none⟩)) rfl rfl (y_fieldAddr (k := 0) rfl Try.underlying62 rfl rfl ⟨_, s3⟩ (by first | rfl | omega)) ?_
        refine o_y (v := .int .i64 (((ks).getD m d0).1)) rfl rfl (y_load rfl Try.underlying3 rfl (Rd.sub1 (k := 0) (SlG.rd' (SlG.own hown (fun p hp => by first | exact List.mem_append_right _ hp | exact (List.mem_cons_of_mem _ hp))) (at_getD (by first | omega | (simp; done) | (simp; omega)))) (by show _ + _ * 2 + _ = _; omega) rfl)) ?_
        refine o_y (v := .int .i64 (((ks).getD m d0).1)) rfl rfl (y_assign rfl) ?_
        refine o_nil ?_
        refine hK13 _ _ ?_
        refine c_seq fun K14 hK14 => ?_
        refine c_region ?_
        refine o_y (v := .pointer (some ⟨gr, 0, none⟩)) rfl rfl (y_move h1_0) ?_
        refine o_y (v := .int .i64 (k)) rfl rfl (y_move h1_1) ?_
        refine o_y (v := .agg (#[.int .i64 ((k, false)).1, .bool ((k, false)).2])) rfl rfl (y_build rfl (by kernel_rfl)) ?_
        refine o_y (v := .pointer (some ⟨gr, 0, none⟩)) rfl rfl (y_move h1_0) ?_
        refine o_y (v := .int .i64 (((m : Nat) : Int))) rfl rfl (y_move h9) ?_
        refine o_callV (fun Hy => [(gr, .cells (#[.int .i64 (r), .slice (aS) (ks.length) (capS)]) 59 (0, 0))] ++ (Hs ++ Hy)) (fun Hy => by have h := List.perm_append_comm (l₁ := ([(gr, .cells (#[.int .i64 (r), .slice (aS) (ks.length) (capS)]) 59 (0, 0))] ++ (Hs) : Hp)) (l₂ := Hy); first | exact h | simpa [Value.cells] using h) (vs := [.pointer (some ⟨gr, 0, none⟩), .int .i64 (((m : Nat) : Int))]) b34 rfl rfl (fun w hw => f34_without gr r ks _ m w ⟨_, _, _, _, rfl, hown⟩ h64 (by omega) (hw.sat ((List.Sublist.refl _).cons_cons _))) ?_
        rintro _ Hp1 ⟨ap1, gp1, capp1, rfl, hvp1⟩
        refine o_callV (fun Hy => [(gr, .cells (#[.int .i64 (r), .slice (aS) (ks.length) (capS)]) 59 (0, 0))] ++ (Hs ++ (Hp1 ++ Hy))) (fun Hy => by have h := List.perm_append_comm (l₁ := ([(gr, .cells (#[.int .i64 (r), .slice (aS) (ks.length) (capS)]) 59 (0, 0))] ++ (Hs ++ Hp1) : Hp)) (l₂ := Hy); first | exact h | simpa [Value.cells] using h) (vs := [.agg (#[.int .i64 ((k, false)).1, .bool ((k, false)).2]), .slice (ap1) ((ks.eraseIdx m).length) (capp1)]) b33 rfl rfl (fun w hw => f33_ahead ((k, false)) (ks.eraseIdx m) _ _ _ _ _ w (by first | rfl | (simp; done) | (simp; omega)) ((SlG.own hvp1 (fun p hp => by first | exact List.mem_append_right _ (List.mem_append_right _ hp) | exact (List.mem_cons_of_mem _ (List.mem_append_right _ hp)))) w hw) (by first | omega | (rw [List.length_eraseIdx_of_lt (by omega)]; omega))) ?_
        rintro _ Hp2 ⟨ap2, gp2, capp2, rfl, hvp2⟩
        refine o_y (v := .pointer (some ⟨gr, 0, none⟩)) rfl rfl (y_nilCheck rfl) ?_
        refine o_y (v := .pointer (some ⟨gr, 1, none⟩)) rfl rfl (y_fieldAddr (k := 1) rfl Try.underlying59 rfl rfl ⟨_, s57⟩ (by first | rfl | omega)) ?_
        refine o_storeC (H' := [(gr, .cells (#[.int .i64 (r), .slice (ap2) ((((k, false)) :: (ks.eraseIdx m)).length) (capp2)]) 59 (0, 0))] ++ (Hs ++ (Hp1 ++ Hp2))) 0 rfl rfl rfl rfl rfl s57 (Nat.le_of_ble_eq_true rfl) rfl rfl ?_
        refine o_nil ?_
        refine hK14 _ _ ?_
        refine c_seq fun K15 hK15 => ?_
        refine c_region ?_
        refine o_y (v := .int .i64 (((ks).getD m d0).1)) rfl rfl (y_move rfl) ?_
        refine o_y (v := .int .i64 (((ks).getD m d0).1)) rfl rfl (y_assign rfl) ?_
        refine o_y (v := .bool (true)) rfl rfl (y_assign rfl) ?_
        refine o_y (v := .int .i64 (0)) rfl rfl (y_assign rfl) ?_
        refine o_nil ?_
        refine hK15 _ _ ?_
        refine c_ret ?_
        refine fun w hw => ⟨[.int .i64 (((ks).getD m d0).1), .bool (true), .int .i64 (0)], ⟨rfl, rfl, rfl, trivial⟩, ?_⟩
        exact ⟨_, ⟨rfl, refk_eq (touchK_d hpl hlt hlf) ⟨_, _, _, _, by first | rfl | (simp only [List.length_set]; rfl), hvp2⟩⟩, (((List.Sublist.trans (List.Sublist.trans (List.Sublist.refl _) (List.sublist_append_right _ _)) (List.sublist_append_right _ _)).cons_cons _) : ([(gr, .cells (#[.int .i64 (r), .slice (ap2) ((((k, false)) :: (ks.eraseIdx m)).length) (capp2)]) 59 (0, 0))] ++ (Hp2) : Hp).Sublist _)⟩
        first | done | rfl
      ·
        try have hc2' : (((ks).getD m d0).2) = true := by simpa using hc2
        -- way LTF
        refine c_skip ?_
        refine hK11 _ _ ?_
        refine c_region ?_
        refine o_y (v := .int .i64 (((m : Nat) : Int))) rfl rfl (y_move h9) ?_
        refine o_y (v := .int .i64 ((((m : Nat) : Int)) - 1)) rfl rfl (y_sub rfl rfl (wi_i64 (by omega) (by omega))) ?_
        refine o_y (v := .int .i64 ((((m : Nat) : Int)) - 1)) rfl rfl (y_assign rfl) ?_
        refine o_nil ?_
        refine ⟨_, by omega, m, rfl, by omega, hv1_1.trans (lfK_pin (by simpa using hc2)), h1_0, h1_1, (ie (a := (((m : Nat) : Int)) - 1) (b := ((m : Nat) : Int) - 1) (by omega)), rfl⟩
    ·
      replace hc1 := of_decide_eq_false hc1
      -- way LF
      exfalso; have h0 : j = 0 := (by omega); subst h0; rw [hlf] at hv1_1; cases hv1_1

set_option maxRecDepth 100000 in
set_option maxHeartbeats 4000000 in
theorem f28_RPinIs (gr : Nat) (r : Int) (ks : Ks) (H0 : Hp) (k : Int) (b : Bool) (i : Nat) (w : World) (hR : RefK gr r ks H0) (h64 : ks.length ≤ 64) (hpl : plc ks k = some i) (hat : At (H0) w) :
    Calls Try.prog 28 [.pointer (some ⟨gr, 0, none⟩), .int .i64 (k), .bool (b)].toArray w fun e w' => ∃ v H', e = .returned v ∧ St w (ids (H0)) H' w' ∧ (fun v H => v = .int .i64 0 ∧ RefK gr r (pinK ks k b) H) v H' := by
  obtain ⟨aS, gs, capS, Hs, rfl, hown⟩ := hR
  have hi : i < ks.length := plc_lt hpl
  refine (calls_of (P := Try.prog) (n := 21) (w0 := w) (S := ids ([(gr, .cells (#[.int .i64 (r), .slice (aS) (ks.length) (capS)]) 59 (0, 0))] ++ (Hs))) (H := [(gr, .cells (#[.int .i64 (r), .slice (aS) (ks.length) (capS)]) 59 (0, 0))] ++ (Hs)) (T := fun v H => ∃ H1, (fun v H => v = .int .i64 0 ∧ RefK gr r (pinK ks k b) H) v H1 ∧ (H1 : Hp).Sublist H) Try.func28 rfl Try.ntmps28 (Nat.le_of_ble_eq_true rfl) [.tmp 6] rfl hat.st ?_).mono fun e w' ⟨v, H', he, hs, H1, hT, hsub⟩ => ⟨v, H1, he, hs.drop hsub, hT⟩
  refine c_seq fun K1 hK1 => ?_
  refine c_region ?_
  refine o_y (v := .int .i64 (0)) rfl rfl (y_assign rfl) ?_
  refine o_nil ?_
  refine hK1 _ _ ?_
  refine c_seq fun K2 hK2 => ?_
  refine c_region ?_
  refine o_y (v := .pointer (some ⟨gr, 0, none⟩)) rfl rfl (y_move rfl) ?_
  refine o_y (v := .int .i64 (k)) rfl rfl (y_move rfl) ?_
  refine o_y (v := .int .i64 (((i : Nat) : Int))) rfl rfl (y_call (vs := [.pointer (some ⟨gr, 0, none⟩), .int .i64 (k)]) b32 rfl (fun w hw => (by have h := f32_place gr r ks _ (k) w ⟨_, _, _, _, rfl, hown⟩ h64 (hw.sat ((List.Sublist.refl _).cons_cons _)); rw [placeI_some hpl] at h; exact h))) ?_
  refine o_y (v := .int .i64 (((i : Nat) : Int))) rfl rfl (y_assign rfl) ?_
  refine o_nil ?_
  refine hK2 _ _ ?_
  refine c_seq fun K3 hK3 => ?_
  refine c_seq fun K4 hK4 => ?_
  refine c_region ?_
  refine o_y (v := .int .i64 (((i : Nat) : Int))) rfl rfl (y_move rfl) ?_
  refine o_y (v := .bool (false)) rfl rfl (y_bool (y_lss rfl rfl rfl) (decide_eq_false (by omega))) ?_
  refine o_nil ?_
  refine hK4 _ _ ?_
  refine c_cond (t := false) rfl (fun h => by cases h) (fun _ => ?_)
  refine c_skip ?_
  refine hK3 _ _ ?_
  refine c_seq fun K5 hK5 => ?_
  refine c_region ?_
  refine o_y (v := .pointer (some ⟨gr, 0, none⟩)) rfl rfl (y_move rfl) ?_
  refine o_y (v := .pointer (some ⟨gr, 0, none⟩)) rfl rfl (y_nilCheck rfl) ?_
  refine o_y (v := .pointer (some ⟨gr, 1, none⟩)) rfl rfl (y_fieldAddr (k := 1) rfl Try.underlying59 rfl rfl ⟨_, s57⟩ (by first | rfl | omega)) ?_
  refine o_y (v := .slice (aS) (ks.length) (capS)) rfl rfl (y_load rfl Try.underlying57 rfl (Rd.one (k := 0) rfl rfl)) ?_
  refine o_y (v := .int .i64 (((i : Nat) : Int))) rfl rfl (y_move rfl) ?_
  refine o_y (v := .bool (b)) rfl rfl (y_move rfl) ?_
  refine o_y (v := .pointer (some ⟨gs, 0 + i * 2, none⟩)) rfl rfl (y_ixO i (hown.at_ (by first | omega | (simp; done) | (simp; omega))) rfl rfl Try.underlying57 s62 (by omega) (by first | omega | (simp; done) | (simp; omega))) ?_
  refine o_y (v := .pointer (some ⟨gs, 0 + i * 2 + 1, none⟩)) rfl rfl (y_fieldAddr (k := 1) rfl Try.underlying62 rfl rfl ⟨_, s4⟩ (by first | rfl | omega)) ?_
  refine o_storeVP (v := .bool (b)) (E := eKey) (u := (((ks).getD (i) d0).1, b)) ([(gr, .cells (#[.int .i64 (r), .slice (aS) (ks.length) (capS)]) 59 (0, 0))]) (fun Hy => [(gr, .cells (#[.int .i64 (r), .slice (aS) (ks.length) (capS)]) 59 (0, 0))] ++ (Hy)) (fun Hy => by have h := List.perm_append_comm (l₁ := ([(gr, .cells (#[.int .i64 (r), .slice (aS) (ks.length) (capS)]) 59 (0, 0))] : Hp)) (l₂ := Hy); first | exact h | simpa [Value.cells] using h) (by have h := List.perm_append_comm_assoc ([(gr, .cells (#[.int .i64 (r), .slice (aS) (ks.length) (capS)]) 59 (0, 0))] : Hp) Hs ([] : Hp); first | exact h | simpa [Value.cells] using h) hown i 1 rfl (by show _ = _ * 2 + _; omega) rfl s4 (by first | omega | (simp; done) | (simp; omega)) (by first | decide | exact Nat.le_refl _) (by simp [Value.oneCell', Value.cells]) (key_set _ _ (by first | omega | (simp; done) | (simp; omega)) _) fun Hp1 hvp1 => ?_
  refine o_nil ?_
  refine hK5 _ _ ?_
  refine c_seq fun K6 hK6 => ?_
  refine c_region ?_
  refine o_y (v := .int .i64 (0)) rfl rfl (y_assign rfl) ?_
  refine o_nil ?_
  refine hK6 _ _ ?_
  refine c_ret ?_
  refine fun w hw => ⟨[.int .i64 (0)], ⟨rfl, trivial⟩, ?_⟩
  exact ⟨_, ⟨rfl, refk_eq (pinK_a hpl) ⟨_, _, _, _, by first | rfl | (simp only [List.length_set]; rfl), hvp1⟩⟩, ((List.Sublist.refl _).cons_cons _)⟩
  first | done | rfl

set_option maxRecDepth 100000 in
set_option maxHeartbeats 4000000 in
theorem f28_RPinNo (gr : Nat) (r : Int) (ks : Ks) (H0 : Hp) (k : Int) (b : Bool) (w : World) (hR : RefK gr r ks H0) (h64 : ks.length ≤ 64) (hpl : plc ks k = none) (hat : At (H0) w) :
    Calls Try.prog 28 [.pointer (some ⟨gr, 0, none⟩), .int .i64 (k), .bool (b)].toArray w fun e w' => e = .returned (.int .i64 (7)) ∧ Below w.heap.size w w' := by
  obtain ⟨aS, gs, capS, Hs, rfl, hown⟩ := hR
  refine (calls_of (P := Try.prog) (n := 21) (w0 := w) (S := ids ([(gr, .cells (#[.int .i64 (r), .slice (aS) (ks.length) (capS)]) 59 (0, 0))] ++ (Hs))) (H := [(gr, .cells (#[.int .i64 (r), .slice (aS) (ks.length) (capS)]) 59 (0, 0))] ++ (Hs)) (T := fun v H => v = (.int .i64 (7)) ∧ ([(gr, .cells (#[.int .i64 (r), .slice (aS) (ks.length) (capS)]) 59 (0, 0))] ++ (Hs) : Hp).Sublist H) Try.func28 rfl Try.ntmps28 (Nat.le_of_ble_eq_true rfl) [.tmp 6] rfl hat.st ?_).mono fun e w' ⟨v, H', he, hs, hT, hsub⟩ => ⟨by rw [he, hT], St.same hat hs hsub⟩
  refine c_seq fun K1 hK1 => ?_
  refine c_region ?_
  refine o_y (v := .int .i64 (0)) rfl rfl (y_assign rfl) ?_
  refine o_nil ?_
  refine hK1 _ _ ?_
  refine c_seq fun K2 hK2 => ?_
  refine c_region ?_
  refine o_y (v := .pointer (some ⟨gr, 0, none⟩)) rfl rfl (y_move rfl) ?_
  refine o_y (v := .int .i64 (k)) rfl rfl (y_move rfl) ?_
  refine o_y (v := .int .i64 (-1)) rfl rfl (y_call (vs := [.pointer (some ⟨gr, 0, none⟩), .int .i64 (k)]) b32 rfl (fun w hw => (by have h := f32_place gr r ks _ (k) w ⟨_, _, _, _, rfl, hown⟩ h64 (hw.sat ((List.Sublist.refl _).cons_cons _)); rw [placeI_none hpl] at h; exact h))) ?_
  refine o_y (v := .int .i64 (-1)) rfl rfl (y_assign rfl) ?_
  refine o_nil ?_
  refine hK2 _ _ ?_
  refine c_seq fun K3 hK3 => ?_
  refine c_seq fun K4 hK4 => ?_
  refine c_region ?_
  refine o_y (v := .int .i64 (-1)) rfl rfl (y_move rfl) ?_
  refine o_y (v := .bool (true)) rfl rfl (y_lss rfl rfl (by decide)) ?_
  refine o_nil ?_
  refine hK4 _ _ ?_
  refine c_cond (t := true) rfl (fun _ => ?_) (fun h => by cases h)
  refine c_seq fun K5 hK5 => ?_
  refine c_region ?_
  refine o_y (v := .int .i64 (7)) rfl rfl (y_assign rfl) ?_
  refine o_nil ?_
  refine hK5 _ _ ?_
  refine c_ret ?_
  refine fun w hw => ⟨[.int .i64 (7)], ⟨rfl, trivial⟩, ?_⟩
  exact ⟨rfl, (((List.Sublist.refl _).cons_cons _))⟩
  first | done | rfl

set_option maxRecDepth 100000 in
set_option maxHeartbeats 4000000 in
theorem f29_RDropIs (gr : Nat) (r : Int) (ks : Ks) (H0 : Hp) (k : Int) (i : Nat) (w : World) (hR : RefK gr r ks H0) (h64 : ks.length ≤ 64) (hpl : plc ks k = some i) (hat : At (H0) w) :
    Calls Try.prog 29 [.pointer (some ⟨gr, 0, none⟩), .int .i64 (k)].toArray w fun e w' => ∃ v H', e = .returned v ∧ St w (ids (H0)) H' w' ∧ (fun v H => v = .int .i64 0 ∧ RefK gr r (dropK ks k) H) v H' := by
  obtain ⟨aS, gs, capS, Hs, rfl, hown⟩ := hR
  have hi : i < ks.length := plc_lt hpl
  refine (calls_of (P := Try.prog) (n := 17) (w0 := w) (S := ids ([(gr, .cells (#[.int .i64 (r), .slice (aS) (ks.length) (capS)]) 59 (0, 0))] ++ (Hs))) (H := [(gr, .cells (#[.int .i64 (r), .slice (aS) (ks.length) (capS)]) 59 (0, 0))] ++ (Hs)) (T := fun v H => ∃ H1, (fun v H => v = .int .i64 0 ∧ RefK gr r (dropK ks k) H) v H1 ∧ (H1 : Hp).Sublist H) Try.func29 rfl Try.ntmps29 (Nat.le_of_ble_eq_true rfl) [.tmp 4] rfl hat.st ?_).mono fun e w' ⟨v, H', he, hs, H1, hT, hsub⟩ => ⟨v, H1, he, hs.drop hsub, hT⟩
  refine c_seq fun K1 hK1 => ?_
  refine c_region ?_
  refine o_y (v := .int .i64 (0)) rfl rfl (y_assign rfl) ?_
  refine o_nil ?_
  refine hK1 _ _ ?_
  refine c_seq fun K2 hK2 => ?_
  refine c_region ?_
  refine o_y (v := .pointer (some ⟨gr, 0, none⟩)) rfl rfl (y_move rfl) ?_
  refine o_y (v := .int .i64 (k)) rfl rfl (y_move rfl) ?_
  refine o_y (v := .int .i64 (((i : Nat) : Int))) rfl rfl (y_call (vs := [.pointer (some ⟨gr, 0, none⟩), .int .i64 (k)]) b32 rfl (fun w hw => (by have h := f32_place gr r ks _ (k) w ⟨_, _, _, _, rfl, hown⟩ h64 (hw.sat ((List.Sublist.refl _).cons_cons _)); rw [placeI_some hpl] at h; exact h))) ?_
  refine o_y (v := .int .i64 (((i : Nat) : Int))) rfl rfl (y_assign rfl) ?_
  refine o_nil ?_
  refine hK2 _ _ ?_
  refine c_seq fun K3 hK3 => ?_
  refine c_seq fun K4 hK4 => ?_
  refine c_region ?_
  refine o_y (v := .int .i64 (((i : Nat) : Int))) rfl rfl (y_move rfl) ?_
  refine o_y (v := .bool (false)) rfl rfl (y_bool (y_lss rfl rfl rfl) (decide_eq_false (by omega))) ?_
  refine o_nil ?_
  refine hK4 _ _ ?_
  refine c_cond (t := false) rfl (fun h => by cases h) (fun _ => ?_)
  refine c_skip ?_
  refine hK3 _ _ ?_
  refine c_seq fun K5 hK5 => ?_
  refine c_region ?_
  refine o_y (v := .pointer (some ⟨gr, 0, none⟩)) rfl rfl (y_move rfl) ?_
  refine o_y (v := .pointer (some ⟨gr, 0, none⟩)) rfl rfl (y_move rfl) ?_
  refine o_y (v := .int .i64 (((i : Nat) : Int))) rfl rfl (y_move rfl) ?_
  refine o_callV (fun Hy => [(gr, .cells (#[.int .i64 (r), .slice (aS) (ks.length) (capS)]) 59 (0, 0))] ++ (Hs ++ Hy)) (fun Hy => by have h := List.perm_append_comm (l₁ := ([(gr, .cells (#[.int .i64 (r), .slice (aS) (ks.length) (capS)]) 59 (0, 0))] ++ (Hs) : Hp)) (l₂ := Hy); first | exact h | simpa [Value.cells] using h) (vs := [.pointer (some ⟨gr, 0, none⟩), .int .i64 (((i : Nat) : Int))]) b34 rfl rfl (fun w hw => f34_without gr r ks _ i w ⟨_, _, _, _, rfl, hown⟩ h64 (by omega) (hw.sat ((List.Sublist.refl _).cons_cons _))) ?_
  rintro _ Hp1 ⟨ap1, gp1, capp1, rfl, hvp1⟩
  refine o_y (v := .pointer (some ⟨gr, 0, none⟩)) rfl rfl (y_nilCheck rfl) ?_
  refine o_y (v := .pointer (some ⟨gr, 1, none⟩)) rfl rfl (y_fieldAddr (k := 1) rfl Try.underlying59 rfl rfl ⟨_, s57⟩ (by first | rfl | omega)) ?_
  refine o_storeC (H' := [(gr, .cells (#[.int .i64 (r), .slice (ap1) ((ks.eraseIdx i).length) (capp1)]) 59 (0, 0))] ++ (Hs ++ Hp1)) 0 rfl rfl rfl rfl rfl s57 (Nat.le_of_ble_eq_true rfl) rfl rfl ?_
  refine o_nil ?_
  refine hK5 _ _ ?_
  refine c_seq fun K6 hK6 => ?_
  refine c_region ?_
  refine o_y (v := .int .i64 (0)) rfl rfl (y_assign rfl) ?_
  refine o_nil ?_
  refine hK6 _ _ ?_
  refine c_ret ?_
  refine fun w hw => ⟨[.int .i64 (0)], ⟨rfl, trivial⟩, ?_⟩
  exact ⟨_, ⟨rfl, refk_eq (dropK_a hpl) ⟨_, _, _, _, by first | rfl | (simp only [List.length_set]; rfl), hvp1⟩⟩, (((List.Sublist.trans (List.Sublist.refl _) (List.sublist_append_right _ _)).cons_cons _) : ([(gr, .cells (#[.int .i64 (r), .slice (ap1) ((ks.eraseIdx i).length) (capp1)]) 59 (0, 0))] ++ (Hp1) : Hp).Sublist _)⟩
  first | done | rfl

set_option maxRecDepth 100000 in
set_option maxHeartbeats 4000000 in
theorem f29_RDropNo (gr : Nat) (r : Int) (ks : Ks) (H0 : Hp) (k : Int) (w : World) (hR : RefK gr r ks H0) (h64 : ks.length ≤ 64) (hpl : plc ks k = none) (hat : At (H0) w) :
    Calls Try.prog 29 [.pointer (some ⟨gr, 0, none⟩), .int .i64 (k)].toArray w fun e w' => e = .returned (.int .i64 (7)) ∧ Below w.heap.size w w' := by
  obtain ⟨aS, gs, capS, Hs, rfl, hown⟩ := hR
  refine (calls_of (P := Try.prog) (n := 17) (w0 := w) (S := ids ([(gr, .cells (#[.int .i64 (r), .slice (aS) (ks.length) (capS)]) 59 (0, 0))] ++ (Hs))) (H := [(gr, .cells (#[.int .i64 (r), .slice (aS) (ks.length) (capS)]) 59 (0, 0))] ++ (Hs)) (T := fun v H => v = (.int .i64 (7)) ∧ ([(gr, .cells (#[.int .i64 (r), .slice (aS) (ks.length) (capS)]) 59 (0, 0))] ++ (Hs) : Hp).Sublist H) Try.func29 rfl Try.ntmps29 (Nat.le_of_ble_eq_true rfl) [.tmp 4] rfl hat.st ?_).mono fun e w' ⟨v, H', he, hs, hT, hsub⟩ => ⟨by rw [he, hT], St.same hat hs hsub⟩
  refine c_seq fun K1 hK1 => ?_
  refine c_region ?_
  refine o_y (v := .int .i64 (0)) rfl rfl (y_assign rfl) ?_
  refine o_nil ?_
  refine hK1 _ _ ?_
  refine c_seq fun K2 hK2 => ?_
  refine c_region ?_
  refine o_y (v := .pointer (some ⟨gr, 0, none⟩)) rfl rfl (y_move rfl) ?_
  refine o_y (v := .int .i64 (k)) rfl rfl (y_move rfl) ?_
  refine o_y (v := .int .i64 (-1)) rfl rfl (y_call (vs := [.pointer (some ⟨gr, 0, none⟩), .int .i64 (k)]) b32 rfl (fun w hw => (by have h := f32_place gr r ks _ (k) w ⟨_, _, _, _, rfl, hown⟩ h64 (hw.sat ((List.Sublist.refl _).cons_cons _)); rw [placeI_none hpl] at h; exact h))) ?_
  refine o_y (v := .int .i64 (-1)) rfl rfl (y_assign rfl) ?_
  refine o_nil ?_
  refine hK2 _ _ ?_
  refine c_seq fun K3 hK3 => ?_
  refine c_seq fun K4 hK4 => ?_
  refine c_region ?_
  refine o_y (v := .int .i64 (-1)) rfl rfl (y_move rfl) ?_
  refine o_y (v := .bool (true)) rfl rfl (y_lss rfl rfl (by decide)) ?_
  refine o_nil ?_
  refine hK4 _ _ ?_
  refine c_cond (t := true) rfl (fun _ => ?_) (fun h => by cases h)
  refine c_seq fun K5 hK5 => ?_
  refine c_region ?_
  refine o_y (v := .int .i64 (7)) rfl rfl (y_assign rfl) ?_
  refine o_nil ?_
  refine hK5 _ _ ?_
  refine c_ret ?_
  refine fun w hw => ⟨[.int .i64 (7)], ⟨rfl, trivial⟩, ?_⟩
  exact ⟨rfl, (((List.Sublist.refl _).cons_cons _))⟩
  first | done | rfl

set_option maxRecDepth 100000 in
set_option maxHeartbeats 4000000 in
theorem f30_RHasIs (gr : Nat) (r : Int) (ks : Ks) (H0 : Hp) (k : Int) (i : Nat) (w : World) (hR : RefK gr r ks H0) (h64 : ks.length ≤ 64) (hpl : plc ks k = some i) (hat : At (H0) w) :
    Calls Try.prog 30 [.pointer (some ⟨gr, 0, none⟩), .int .i64 (k)].toArray w fun e w' => e = .returned (.bool (true)) ∧ Below w.heap.size w w' := by
  obtain ⟨aS, gs, capS, Hs, rfl, hown⟩ := hR
  have hi : i < ks.length := plc_lt hpl
  refine (calls_of (P := Try.prog) (n := 9) (w0 := w) (S := ids ([(gr, .cells (#[.int .i64 (r), .slice (aS) (ks.length) (capS)]) 59 (0, 0))] ++ (Hs))) (H := [(gr, .cells (#[.int .i64 (r), .slice (aS) (ks.length) (capS)]) 59 (0, 0))] ++ (Hs)) (T := fun v H => v = (.bool (true)) ∧ ([(gr, .cells (#[.int .i64 (r), .slice (aS) (ks.length) (capS)]) 59 (0, 0))] ++ (Hs) : Hp).Sublist H) Try.func30 rfl Try.ntmps30 (Nat.le_of_ble_eq_true rfl) [.tmp 4] rfl hat.st ?_).mono fun e w' ⟨v, H', he, hs, hT, hsub⟩ => ⟨by rw [he, hT], St.same hat hs hsub⟩
  refine c_seq fun K1 hK1 => ?_
  refine c_region ?_
  refine o_y (v := .bool (false)) rfl rfl (y_assign rfl) ?_
  refine o_nil ?_
  refine hK1 _ _ ?_
  refine c_seq fun K2 hK2 => ?_
  refine c_region ?_
  refine o_y (v := .pointer (some ⟨gr, 0, none⟩)) rfl rfl (y_move rfl) ?_
  refine o_y (v := .int .i64 (k)) rfl rfl (y_move rfl) ?_
  refine o_y (v := .int .i64 (((i : Nat) : Int))) rfl rfl (y_call (vs := [.pointer (some ⟨gr, 0, none⟩), .int .i64 (k)]) b32 rfl (fun w hw => (by have h := f32_place gr r ks _ (k) w ⟨_, _, _, _, rfl, hown⟩ h64 (hw.sat ((List.Sublist.refl _).cons_cons _)); rw [placeI_some hpl] at h; exact h))) ?_
  refine o_y (v := .bool (true)) rfl rfl (y_bool (y_geq rfl rfl rfl) (decide_eq_true (by omega))) ?_
  refine o_y (v := .bool (true)) rfl rfl (y_assign rfl) ?_
  refine o_nil ?_
  refine hK2 _ _ ?_
  refine c_ret ?_
  refine fun w hw => ⟨[.bool (true)], ⟨rfl, trivial⟩, ?_⟩
  exact ⟨rfl, (((List.Sublist.refl _).cons_cons _))⟩
  first | done | rfl

set_option maxRecDepth 100000 in
set_option maxHeartbeats 4000000 in
theorem f30_RHasNo (gr : Nat) (r : Int) (ks : Ks) (H0 : Hp) (k : Int) (w : World) (hR : RefK gr r ks H0) (h64 : ks.length ≤ 64) (hpl : plc ks k = none) (hat : At (H0) w) :
    Calls Try.prog 30 [.pointer (some ⟨gr, 0, none⟩), .int .i64 (k)].toArray w fun e w' => e = .returned (.bool (false)) ∧ Below w.heap.size w w' := by
  obtain ⟨aS, gs, capS, Hs, rfl, hown⟩ := hR
  refine (calls_of (P := Try.prog) (n := 9) (w0 := w) (S := ids ([(gr, .cells (#[.int .i64 (r), .slice (aS) (ks.length) (capS)]) 59 (0, 0))] ++ (Hs))) (H := [(gr, .cells (#[.int .i64 (r), .slice (aS) (ks.length) (capS)]) 59 (0, 0))] ++ (Hs)) (T := fun v H => v = (.bool (false)) ∧ ([(gr, .cells (#[.int .i64 (r), .slice (aS) (ks.length) (capS)]) 59 (0, 0))] ++ (Hs) : Hp).Sublist H) Try.func30 rfl Try.ntmps30 (Nat.le_of_ble_eq_true rfl) [.tmp 4] rfl hat.st ?_).mono fun e w' ⟨v, H', he, hs, hT, hsub⟩ => ⟨by rw [he, hT], St.same hat hs hsub⟩
  refine c_seq fun K1 hK1 => ?_
  refine c_region ?_
  refine o_y (v := .bool (false)) rfl rfl (y_assign rfl) ?_
  refine o_nil ?_
  refine hK1 _ _ ?_
  refine c_seq fun K2 hK2 => ?_
  refine c_region ?_
  refine o_y (v := .pointer (some ⟨gr, 0, none⟩)) rfl rfl (y_move rfl) ?_
  refine o_y (v := .int .i64 (k)) rfl rfl (y_move rfl) ?_
  refine o_y (v := .int .i64 (-1)) rfl rfl (y_call (vs := [.pointer (some ⟨gr, 0, none⟩), .int .i64 (k)]) b32 rfl (fun w hw => (by have h := f32_place gr r ks _ (k) w ⟨_, _, _, _, rfl, hown⟩ h64 (hw.sat ((List.Sublist.refl _).cons_cons _)); rw [placeI_none hpl] at h; exact h))) ?_
  refine o_y (v := .bool (false)) rfl rfl (y_geq rfl rfl (by decide)) ?_
  refine o_y (v := .bool (false)) rfl rfl (y_assign rfl) ?_
  refine o_nil ?_
  refine hK2 _ _ ?_
  refine c_ret ?_
  refine fun w hw => ⟨[.bool (false)], ⟨rfl, trivial⟩, ?_⟩
  exact ⟨rfl, (((List.Sublist.refl _).cons_cons _))⟩
  first | done | rfl

set_option maxRecDepth 100000 in
set_option maxHeartbeats 4000000 in
theorem f31_RPinnedIs (gr : Nat) (r : Int) (ks : Ks) (H0 : Hp) (k : Int) (i : Nat) (w : World) (hR : RefK gr r ks H0) (h64 : ks.length ≤ 64) (hpl : plc ks k = some i) (hat : At (H0) w) :
    Calls Try.prog 31 [.pointer (some ⟨gr, 0, none⟩), .int .i64 (k)].toArray w fun e w' => e = .returned (.bool ((ks.getD i d0).2)) ∧ Below w.heap.size w w' := by
  obtain ⟨aS, gs, capS, Hs, rfl, hown⟩ := hR
  have hi : i < ks.length := plc_lt hpl
  refine (calls_of (P := Try.prog) (n := 21) (w0 := w) (S := ids ([(gr, .cells (#[.int .i64 (r), .slice (aS) (ks.length) (capS)]) 59 (0, 0))] ++ (Hs))) (H := [(gr, .cells (#[.int .i64 (r), .slice (aS) (ks.length) (capS)]) 59 (0, 0))] ++ (Hs)) (T := fun v H => v = (.bool ((ks.getD i d0).2)) ∧ ([(gr, .cells (#[.int .i64 (r), .slice (aS) (ks.length) (capS)]) 59 (0, 0))] ++ (Hs) : Hp).Sublist H) Try.func31 rfl Try.ntmps31 (Nat.le_of_ble_eq_true rfl) [.tmp 4] rfl hat.st ?_).mono fun e w' ⟨v, H', he, hs, hT, hsub⟩ => ⟨by rw [he, hT], St.same hat hs hsub⟩
  refine c_seq fun K1 hK1 => ?_
  refine c_region ?_
  refine o_y (v := .bool (false)) rfl rfl (y_assign rfl) ?_
  refine o_nil ?_
  refine hK1 _ _ ?_
  refine c_seq fun K2 hK2 => ?_
  refine c_region ?_
  refine o_y (v := .pointer (some ⟨gr, 0, none⟩)) rfl rfl (y_move rfl) ?_
  refine o_y (v := .int .i64 (k)) rfl rfl (y_move rfl) ?_
  refine o_y (v := .int .i64 (((i : Nat) : Int))) rfl rfl (y_call (vs := [.pointer (some ⟨gr, 0, none⟩), .int .i64 (k)]) b32 rfl (fun w hw => (by have h := f32_place gr r ks _ (k) w ⟨_, _, _, _, rfl, hown⟩ h64 (hw.sat ((List.Sublist.refl _).cons_cons _)); rw [placeI_some hpl] at h; exact h))) ?_
  refine o_y (v := .int .i64 (((i : Nat) : Int))) rfl rfl (y_assign rfl) ?_
  refine o_nil ?_
  refine hK2 _ _ ?_
  refine c_seq fun K3 hK3 => ?_
  refine c_region ?_
  refine o_y (v := .int .i64 (((i : Nat) : Int))) rfl rfl (y_move rfl) ?_
  refine o_y (v := .bool (true)) rfl rfl (y_bool (y_geq rfl rfl rfl) (decide_eq_true (by omega))) ?_
  refine o_y (v := .bool (true)) rfl rfl (y_move rfl) ?_
  refine o_guard (j := 2) (d := 11) (b := true) rfl rfl rfl (fun _ => ?_) rfl (fun h => by cases h)
  refine o_y (v := .pointer (some ⟨gr, 0, none⟩)) rfl rfl (y_move rfl) ?_
  refine o_guard (j := 2) (d := 11) (b := true) rfl rfl rfl (fun _ => ?_) rfl (fun h => by cases h)
  refine o_y (v := .pointer (some ⟨gr, 0, none⟩)) rfl rfl (y_nilCheck rfl) ?_
  refine o_guard (j := 2) (d := 11) (b := true) rfl rfl rfl (fun _ => ?_) rfl (fun h => by cases h)
  refine o_y (v := .pointer (some ⟨gr, 1, none⟩)) rfl rfl (y_fieldAddr (k := 1) rfl Try.underlying59 rfl rfl ⟨_, s57⟩ (by first | rfl | omega)) ?_
  refine o_guard (j := 2) (d := 11) (b := true) rfl rfl rfl (fun _ => ?_) rfl (fun h => by cases h)
  refine o_y (v := .slice (aS) (ks.length) (capS)) rfl rfl (y_load rfl Try.underlying57 rfl (Rd.one (k := 0) rfl rfl)) ?_
  refine o_guard (j := 2) (d := 11) (b := true) rfl rfl rfl (fun _ => ?_) rfl (fun h => by cases h)
  refine o_y (v := .int .i64 (((i : Nat) : Int))) rfl rfl (y_move rfl) ?_
  refine o_guard (j := 2) (d := 11) (b := true) rfl rfl rfl (fun _ => ?_) rfl (fun h => by cases h)
  refine o_y (v := .pointer (some ⟨gs, 0 + i * 2, none⟩)) rfl rfl (y_ixO i (hown.at_ (by first | omega | (simp; done) | (simp; omega))) rfl rfl Try.underlying57 s62 (by omega) (by first | omega | (simp; done) | (simp; omega))) ?_
  refine o_guard (j := 2) (d := 11) (b := true) rfl rfl rfl (fun _ => ?_) rfl (fun h => by cases h)
  refine o_y (v := .pointer (some ⟨gs, 0 + i * 2 + 1, none⟩)) rfl rfl (y_fieldAddr (k := 1) rfl Try.underlying62 rfl rfl ⟨_, s4⟩ (by first | rfl | omega)) ?_
  refine o_guard (j := 2) (d := 11) (b := true) rfl rfl rfl (fun _ => ?_) rfl (fun h => by cases h)
  refine o_y (v := .bool (((ks).getD i d0).2)) rfl rfl (y_load rfl Try.underlying4 rfl (Rd.sub1 (k := 1) (SlG.rd' (SlG.own hown (fun p hp => by first | exact List.mem_append_right _ hp | exact (List.mem_cons_of_mem _ hp))) (at_getD (by first | omega | (simp; done) | (simp; omega)))) (by show _ + _ * 2 + _ = _; omega) rfl)) ?_
  refine o_y (v := .bool (((ks).getD i d0).2)) rfl rfl (y_pick (b := true) rfl rfl) ?_
  refine o_y (v := .bool (((ks).getD i d0).2)) rfl rfl (y_assign rfl) ?_
  refine o_nil ?_
  refine hK3 _ _ ?_
  refine c_ret ?_
  refine fun w hw => ⟨[.bool (((ks).getD i d0).2)], ⟨rfl, trivial⟩, ?_⟩
  exact ⟨rfl, (((List.Sublist.refl _).cons_cons _))⟩
  first | done | rfl

set_option maxRecDepth 100000 in
set_option maxHeartbeats 4000000 in
theorem f31_RPinnedNo (gr : Nat) (r : Int) (ks : Ks) (H0 : Hp) (k : Int) (w : World) (hR : RefK gr r ks H0) (h64 : ks.length ≤ 64) (hpl : plc ks k = none) (hat : At (H0) w) :
    Calls Try.prog 31 [.pointer (some ⟨gr, 0, none⟩), .int .i64 (k)].toArray w fun e w' => e = .returned (.bool (false)) ∧ Below w.heap.size w w' := by
  obtain ⟨aS, gs, capS, Hs, rfl, hown⟩ := hR
  refine (calls_of (P := Try.prog) (n := 21) (w0 := w) (S := ids ([(gr, .cells (#[.int .i64 (r), .slice (aS) (ks.length) (capS)]) 59 (0, 0))] ++ (Hs))) (H := [(gr, .cells (#[.int .i64 (r), .slice (aS) (ks.length) (capS)]) 59 (0, 0))] ++ (Hs)) (T := fun v H => v = (.bool (false)) ∧ ([(gr, .cells (#[.int .i64 (r), .slice (aS) (ks.length) (capS)]) 59 (0, 0))] ++ (Hs) : Hp).Sublist H) Try.func31 rfl Try.ntmps31 (Nat.le_of_ble_eq_true rfl) [.tmp 4] rfl hat.st ?_).mono fun e w' ⟨v, H', he, hs, hT, hsub⟩ => ⟨by rw [he, hT], St.same hat hs hsub⟩
  refine c_seq fun K1 hK1 => ?_
  refine c_region ?_
  refine o_y (v := .bool (false)) rfl rfl (y_assign rfl) ?_
  refine o_nil ?_
  refine hK1 _ _ ?_
  refine c_seq fun K2 hK2 => ?_
  refine c_region ?_
  refine o_y (v := .pointer (some ⟨gr, 0, none⟩)) rfl rfl (y_move rfl) ?_
  refine o_y (v := .int .i64 (k)) rfl rfl (y_move rfl) ?_
  refine o_y (v := .int .i64 (-1)) rfl rfl (y_call (vs := [.pointer (some ⟨gr, 0, none⟩), .int .i64 (k)]) b32 rfl (fun w hw => (by have h := f32_place gr r ks _ (k) w ⟨_, _, _, _, rfl, hown⟩ h64 (hw.sat ((List.Sublist.refl _).cons_cons _)); rw [placeI_none hpl] at h; exact h))) ?_
  refine o_y (v := .int .i64 (-1)) rfl rfl (y_assign rfl) ?_
  refine o_nil ?_
  refine hK2 _ _ ?_
  refine c_seq fun K3 hK3 => ?_
  refine c_region ?_
  refine o_y (v := .int .i64 (-1)) rfl rfl (y_move rfl) ?_
  refine o_y (v := .bool (false)) rfl rfl (y_geq rfl rfl (by decide)) ?_
  refine o_y (v := .bool (false)) rfl rfl (y_move rfl) ?_
  refine o_guard (j := 2) (d := 11) (b := false) rfl rfl rfl (fun h => by cases h) rfl (fun _ => ?_)
  refine o_guard (j := 2) (d := 11) (b := false) rfl rfl rfl (fun h => by cases h) rfl (fun _ => ?_)
  refine o_guard (j := 2) (d := 11) (b := false) rfl rfl rfl (fun h => by cases h) rfl (fun _ => ?_)
  refine o_guard (j := 2) (d := 11) (b := false) rfl rfl rfl (fun h => by cases h) rfl (fun _ => ?_)
  refine o_guard (j := 2) (d := 11) (b := false) rfl rfl rfl (fun h => by cases h) rfl (fun _ => ?_)
  refine o_guard (j := 2) (d := 11) (b := false) rfl rfl rfl (fun h => by cases h) rfl (fun _ => ?_)
  refine o_guard (j := 2) (d := 11) (b := false) rfl rfl rfl (fun h => by cases h) rfl (fun _ => ?_)
  refine o_guard (j := 2) (d := 11) (b := false) rfl rfl rfl (fun h => by cases h) rfl (fun _ => ?_)
  refine o_y (v := .bool (false)) rfl rfl (y_pick (b := false) rfl rfl) ?_
  refine o_y (v := .bool (false)) rfl rfl (y_assign rfl) ?_
  refine o_nil ?_
  refine hK3 _ _ ?_
  refine c_ret ?_
  refine fun w hw => ⟨[.bool (false)], ⟨rfl, trivial⟩, ?_⟩
  exact ⟨rfl, (((List.Sublist.refl _).cons_cons _))⟩
  first | done | rfl

set_option maxRecDepth 100000 in
set_option maxHeartbeats 4000000 in
theorem f19_RKeys (gr : Nat) (r : Int) (ks : Ks) (H0 : Hp) (w : World) (hR : RefK gr r ks H0) (h64 : ks.length ≤ 64) (hat : At (H0) w) :
    Calls Try.prog 19 [.pointer (some ⟨gr, 0, none⟩)].toArray w fun e w' => ∃ v H', e = .returned v ∧ St w (fun _ => False) H' w' ∧ (fun v H => ∃ a g2 cap, v = .slice a (kyR ks ks.length).length cap ∧ OwnV eInt 3 (kyR ks ks.length) a g2 cap H) v H' := by
  obtain ⟨aS, gs, capS, Hs, rfl, hown⟩ := hR
  refine (calls_of (P := Try.prog) (n := 26) (w0 := w) (S := ids ([(gr, .cells (#[.int .i64 (r), .slice (aS) (ks.length) (capS)]) 59 (0, 0))] ++ (Hs))) (H := [(gr, .cells (#[.int .i64 (r), .slice (aS) (ks.length) (capS)]) 59 (0, 0))] ++ (Hs)) (T := fun v H => ∃ H1, (fun v H => ∃ a g2 cap, v = .slice a (kyR ks ks.length).length cap ∧ OwnV eInt 3 (kyR ks ks.length) a g2 cap H) v H1 ∧ (([(gr, .cells (#[.int .i64 (r), .slice (aS) (ks.length) (capS)]) 59 (0, 0))] ++ (Hs) : Hp) ++ H1).Sublist H) Try.func19 rfl Try.ntmps19 (Nat.le_of_ble_eq_true rfl) [.tmp 2] rfl hat.st ?_).mono fun e w' ⟨v, H', he, hs, H1, hT, hsub⟩ => ⟨v, H1, he, St.pure hat hs hsub, hT⟩
  refine c_seq fun K1 hK1 => ?_
  refine c_region ?_
  refine o_y (v := .slice none 0 0) rfl rfl (y_assign rfl) ?_
  refine o_nil ?_
  refine hK1 _ _ ?_
  refine c_seq fun K2 hK2 => ?_
  refine c_region ?_
  refine o_y (v := .slice none 0 0) rfl rfl (y_assign rfl) ?_
  refine o_nil ?_
  refine hK2 _ _ ?_
  refine c_seq fun K3 hK3 => ?_
  refine c_seq fun K4 hK4 => ?_
  refine c_region ?_
  refine o_y (v := .int .i64 (0)) rfl rfl (y_assign rfl) ?_
  refine o_nil ?_
  refine hK4 _ _ ?_
  refine c_block ?_
  refine c_loop (fun d R H => ∃ (j : Nat) (a : Option Addr) (g2 : Nat) (cap : Nat) (Hx : Hp), d = ks.length - (j) ∧ (j ≤ ks.length) ∧ (OwnV eInt 3 (kyR ks (j)) a g2 cap Hx) ∧ R 0 = .pointer (some ⟨gr, 0, none⟩) ∧ R 4 = .int .i64 (((j : Nat) : Int)) ∧ R 3 = .slice (a) ((kyR ks (j)).length) (cap) ∧ H = ([(gr, .cells (#[.int .i64 (r), .slice (aS) (ks.length) (capS)]) 59 (0, 0))] ++ (Hs ++ Hx) : Hp)) (ks.length - (0)) ?_ ?_
  ·
    refine ⟨0, none, 0, 0, [], rfl, by omega, OwnV.none', rfl, (ie (a := 0) (b := ((0 : Nat) : Int)) (by omega)), rfl, ?_⟩
    simp; first | done | rfl
  ·
    rintro d1 R1 _ ⟨j, a, g2, cap, Hx, hd1, hv1_0, hv1_1, h1_0, h1_4, h1_3, rfl⟩
    have hsl := kyR_len ks j hv1_0
    have hol := hv1_1.le
    have hom := hv1_1.mx
    simp only [maxLen] at hom
    refine c_seq fun K5 hK5 => ?_
    refine c_seq fun K6 hK6 => ?_
    refine c_region ?_
    refine o_y (v := .int .i64 (((j : Nat) : Int))) rfl rfl (y_move h1_4) ?_
    refine o_y (v := .pointer (some ⟨gr, 0, none⟩)) rfl rfl (y_move h1_0) ?_
    refine o_y (v := .pointer (some ⟨gr, 0, none⟩)) rfl rfl (y_nilCheck rfl) ?_
    refine o_y (v := .pointer (some ⟨gr, 1, none⟩)) rfl rfl (y_fieldAddr (k := 1) rfl Try.underlying59 rfl rfl ⟨_, s57⟩ (by first | rfl | omega)) ?_
    refine o_y (v := .slice (aS) (ks.length) (capS)) rfl rfl (y_load rfl Try.underlying57 rfl (Rd.one (k := 0) rfl rfl)) ?_
    refine o_y (v := .int .i64 (((ks.length : Nat) : Int))) rfl rfl (y_len rfl Try.underlying57) ?_
    refine o_y (v := .bool (decide (((j : Nat) : Int) < ((ks.length : Nat) : Int)))) rfl rfl (y_lss rfl rfl rfl) ?_
    refine o_nil ?_
    refine hK6 _ _ ?_
    refine c_cond (t := decide (((j : Nat) : Int) < ((ks.length : Nat) : Int))) rfl (fun hc1 => ?_) (fun hc1 => ?_)
    ·
      replace hc1 := of_decide_eq_true hc1
      -- way LT
      refine c_skip ?_
      refine hK5 _ _ ?_
      refine c_seq fun K7 hK7 => ?_
      refine c_block ?_
      refine c_region ?_
      refine o_y (v := .slice (a) ((kyR ks (j)).length) (cap)) rfl rfl (y_move h1_3) ?_
      refine o_y (v := .pointer (some ⟨gr, 0, none⟩)) rfl rfl (y_move h1_0) ?_
      refine o_y (v := .pointer (some ⟨gr, 0, none⟩)) rfl rfl (y_nilCheck rfl) ?_
      refine o_y (v := .pointer (some ⟨gr, 1, none⟩)) rfl rfl (y_fieldAddr (k := 1) rfl Try.underlying59 rfl rfl ⟨_, s57⟩ (by first | rfl | omega)) ?_
      refine o_y (v := .slice (aS) (ks.length) (capS)) rfl rfl (y_load rfl Try.underlying57 rfl (Rd.one (k := 0) rfl rfl)) ?_
      refine o_y (v := .int .i64 (((j : Nat) : Int))) rfl rfl (y_move h1_4) ?_
      refine o_y (v := .pointer (some ⟨gs, 0 + j * 2, none⟩)) rfl rfl (y_ixO j (hown.at_ (by first | omega | (simp; done) | (simp; omega))) rfl rfl Try.underlying57 s62 (by omega) (by first | omega | (simp; done) | (simp; omega))) ?_
      refine o_y (v := .pointer (some ⟨gs, 0 + j * 2 + 0, none⟩)) rfl rfl (y_fieldAddr (k := 0) rfl Try.underlying62 rfl rfl ⟨_, s3⟩ (by first | rfl | omega)) ?_
      refine o_y (v := .int .i64 (((ks).getD j d0).1)) rfl rfl (y_load rfl Try.underlying3 rfl (Rd.sub1 (k := 0) (SlG.rd' (SlG.own hown (fun p hp => by first | exact List.mem_append_right _ (List.mem_append_left _ hp) | exact (List.mem_cons_of_mem _ (List.mem_append_left _ hp)))) (at_getD (by first | omega | (simp; done) | (simp; omega)))) (by show _ + _ * 2 + _ = _; omega) rfl)) ?_
      refine o_buildRow SL22 ([(((ks).getD j d0).1)] : List Int) (fun x => .int .i64 x) (fun _ => rfl) rfl rfl (by rw [Array.toList_map]; rfl) (by simp) (by simp [eInt]) fun g1 cg1 hrg1 => ?_
      refine o_appendV SL22 ([(g1, .cells (cg1) 3 (0, 0)), (gr, .cells (#[.int .i64 (r), .slice (aS) (ks.length) (capS)]) 59 (0, 0))] ++ (Hs)) (fun Hy => [(g1, .cells (cg1) 3 (0, 0)), (gr, .cells (#[.int .i64 (r), .slice (aS) (ks.length) (capS)]) 59 (0, 0))] ++ (Hs ++ Hy)) rfl (fun Hy => by have h := List.perm_append_comm (l₁ := ([(g1, .cells (cg1) 3 (0, 0)), (gr, .cells (#[.int .i64 (r), .slice (aS) (ks.length) (capS)]) 59 (0, 0))] ++ (Hs) : Hp)) (l₂ := Hy); first | exact h | simpa [Value.cells] using h) (by have h := List.perm_append_comm_assoc ([(g1, .cells (cg1) 3 (0, 0)), (gr, .cells (#[.int .i64 (r), .slice (aS) (ks.length) (capS)]) 59 (0, 0))] ++ (Hs) : Hp) Hx ([] : Hp); first | exact h | simpa [Value.cells] using h) hv1_1 rfl (by first | omega | (simp; done) | (simp; omega)) rfl (by first | omega | (simp; done) | (simp; omega)) (SlG.row (k := 0) rfl hrg1) (by simp only [maxLen] <;> first | omega | (simp; done) | (simp; omega)) (by first | omega | (simp; done) | (simp; omega)) fun ap3 gp3 capp3 Hp3 hvp3 => ?_
      have hwp3 := hvp3
      rw [show (kyR ks (j)) ++ ([(((ks).getD j d0).1)]) = kyR ks (j + 1) from kyR_s ks j (by omega)] at hwp3
      refine o_y (v := .slice (ap3) (((kyR ks (j)).length) + 1) (capp3)) rfl rfl (y_assign rfl) ?_
      refine o_nil ?_
      refine hK7 _ _ ?_
      refine c_region ?_
      refine o_y (v := .int .i64 (((j : Nat) : Int))) rfl rfl (y_move h1_4) ?_
      refine o_y (v := .int .i64 ((((j : Nat) : Int)) + 1)) rfl rfl (y_add rfl rfl (wi_i64 (by omega) (by omega))) ?_
      refine o_y (v := .int .i64 ((((j : Nat) : Int)) + 1)) rfl rfl (y_assign rfl) ?_
      refine o_forget (H' := [(gr, .cells (#[.int .i64 (r), .slice (aS) (ks.length) (capS)]) 59 (0, 0))] ++ (Hs ++ Hp3)) (((List.Sublist.refl _).cons_cons _).cons _) ?_
      refine o_nil ?_
      refine ⟨_, by omega, j + 1, ap3, gp3, capp3, Hp3, rfl, by omega, hwp3, h1_0, (ie (a := (((j : Nat) : Int)) + 1) (b := ((j + 1 : Nat) : Int)) (by omega)), (len_eq (by rw [← kyR_s ks j (by omega), List.length_append]; rfl)), rfl⟩
    ·
      replace hc1 := of_decide_eq_false hc1
      -- way LF
      refine c_exit ?_
      refine hK3 _ _ ?_
      refine c_seq fun K8 hK8 => ?_
      refine c_region ?_
      refine o_y (v := .slice (a) ((kyR ks (j)).length) (cap)) rfl rfl (y_move h1_3) ?_
      refine o_y (v := .slice (a) ((kyR ks (j)).length) (cap)) rfl rfl (y_assign rfl) ?_
      refine o_nil ?_
      refine hK8 _ _ ?_
      refine c_ret ?_
      refine fun w hw => ⟨[.slice (a) ((kyR ks (j)).length) (cap)], ⟨rfl, trivial⟩, ?_⟩
      have hjj : j = ks.length := by omega
      subst hjj
      exact ⟨Hx, ⟨_, _, _, rfl, hv1_1⟩, (((List.Sublist.refl _).cons_cons _) : (([(gr, .cells (#[.int .i64 (r), .slice (aS) (ks.length) (capS)]) 59 (0, 0))] ++ (Hs) : Hp) ++ Hx).Sublist _)⟩
      first | done | rfl

end Go.Proofs.Ytpbpenlceigddaa.Lru
