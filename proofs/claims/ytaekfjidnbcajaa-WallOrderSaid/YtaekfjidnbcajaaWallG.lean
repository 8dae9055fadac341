/- Proved: what the functions that make and compare lists of blocks come to; the conditions stand in the statements. -/
import Derived.Test.YtaekfjidnbcajaaWallF
set_option linter.unusedVariables false
set_option linter.unusedSimpArgs false
namespace Go.Proofs.Ytaekfjidnbcajaa.Wall
open Go Go.RowKit Go.Proofs.Ytaekfjidnbcajaa.Eng

set_option maxRecDepth 100000 in
set_option maxHeartbeats 4000000 in
theorem f8_copy (l : List Blk) (a1 : Option Addr) (b1 o1 cap1 m1 : Nat) (w : World) (hpos : 0 < l.length) (hb : l.length * 64 ≤ 140737488351232) (hm1 : m1 = l.length) (hs : Sl eBlk w l a1 b1 o1 cap1) :
    Calls Try.prog 8 [.slice (a1) (m1) (cap1)].toArray w fun e w' => ∃ v H', e = .returned v ∧ St w (fun _ => False) H' w' ∧ (fun v H => ∃ g c cap, v = .slice (some ⟨g, 0, none⟩) l.length cap ∧ H = [(g, .cells c 25 (0, 0))] ∧ Row eBlk l c cap) v H' := by
  subst hm1
  have hle := hs.le
  have hmx := hs.mx
  simp only [maxLen] at hmx
  refine (calls_of (P := Try.prog) (n := 7) (w0 := w) (S := fun _ => False) (H := []) (T := fun v H => ∃ H', H'.Sublist H ∧ (fun v H => ∃ g c cap, v = .slice (some ⟨g, 0, none⟩) l.length cap ∧ H = [(g, .cells c 25 (0, 0))] ∧ Row eBlk l c cap) v H') Try.func8 rfl Try.ntmps8 (Nat.le_of_ble_eq_true rfl) [.tmp 2] rfl (St.nil w _) ?_).mono fun e w' ⟨v, H', he, hs, H2, hsub, hT⟩ => ⟨v, H2, he, hs.drop hsub, hT⟩
  refine c_seq fun K1 hK1 => ?_
  refine c_region ?_
  refine o_y (v := .slice none 0 0) rfl rfl (y_assign rfl) ?_
  refine o_nil ?_
  refine hK1 _ _ ?_
  refine c_seq fun K2 hK2 => ?_
  refine c_region ?_
  refine o_y (v := .slice none 0 0) rfl rfl (y_assign rfl) ?_
  refine o_nil ?_
  refine hK2 _ _ ?_
  refine c_seq fun K3 hK3 => ?_
  refine c_region ?_
  refine o_y (v := .slice none 0 0) rfl rfl (y_move rfl) ?_
  refine o_y (v := .slice (a1) ((l).length) (cap1)) rfl rfl (y_move rfl) ?_
  refine o_appendNil SL22 rfl rfl rfl (by first | (simp; done) | (simp; omega) | omega) (SlG.old hs (fun _ h => h)) (by first | omega | (simp; done) | (simp; omega)) (by first | omega | (simp; done) | (simp; omega)) fun g1 cg1 capg1 hrg1 => ?_
  refine o_y (v := .slice (some ⟨g1, 0, none⟩) ((l).length) (capg1)) rfl rfl (y_assign rfl) ?_
  refine o_nil ?_
  refine hK3 _ _ ?_
  refine c_ret ?_
  refine fun w hw => ⟨[.slice (some ⟨g1, 0, none⟩) ((l).length) (capg1)], ⟨rfl, trivial⟩, ?_⟩
  exact ⟨_, List.Sublist.refl _, _, _, _, rfl, rfl, hrg1⟩
  first | done | rfl

set_option maxRecDepth 100000 in
set_option maxHeartbeats 4000000 in
theorem f8_copy0 (a1 : Option Addr) (cap1 : Nat) (w : World) (hm0 : cap1 ≤ maxLen) :
    Calls Try.prog 8 [.slice (a1) (0) (cap1)].toArray w fun e w' => e = .returned (.slice none 0 0) ∧ Below w.heap.size w w' := by
  have hm1 := hm0
  simp only [maxLen] at hm1
  refine (calls_of (P := Try.prog) (n := 7) (w0 := w) (S := fun _ => False) (H := []) (T := fun v _ => v = (.slice none 0 0)) Try.func8 rfl Try.ntmps8 (Nat.le_of_ble_eq_true rfl) [.tmp 2] rfl (St.nil w _) ?_).mono fun e w' ⟨v, H', he, hs, hT⟩ => ⟨by rw [he, hT], hs.below⟩
  refine c_seq fun K1 hK1 => ?_
  refine c_region ?_
  refine o_y (v := .slice none 0 0) rfl rfl (y_assign rfl) ?_
  refine o_nil ?_
  refine hK1 _ _ ?_
  refine c_seq fun K2 hK2 => ?_
  refine c_region ?_
  refine o_y (v := .slice none 0 0) rfl rfl (y_assign rfl) ?_
  refine o_nil ?_
  refine hK2 _ _ ?_
  refine c_seq fun K3 hK3 => ?_
  refine c_region ?_
  refine o_y (v := .slice none 0 0) rfl rfl (y_move rfl) ?_
  refine o_y (v := .slice (a1) (0) (cap1)) rfl rfl (y_move rfl) ?_
  refine o_y (v := .slice none 0 0) rfl rfl (y_appendNil0 SL22 rfl rfl) ?_
  refine o_y (v := .slice none 0 0) rfl rfl (y_assign rfl) ?_
  refine o_nil ?_
  refine hK3 _ _ ?_
  refine c_ret ?_
  refine fun w hw => ⟨[.slice none 0 0], ⟨rfl, trivial⟩, ?_⟩
  exact rfl

set_option maxRecDepth 100000 in
set_option maxHeartbeats 4000000 in
theorem f14_wide (l : List Blk) (a1 : Option Addr) (b1 o1 cap1 m1 : Nat) (w : World) (hb : l.length * 64 ≤ 140737488351232) (hm1 : m1 = l.length) (hs : Sl eBlk w l a1 b1 o1 cap1) :
    Calls Try.prog 14 [.slice (a1) (m1) (cap1)].toArray w fun e w' => ∃ v H', e = .returned v ∧ St w (fun _ => False) H' w' ∧ (fun v H => ∃ g c, v = .slice (some ⟨g, 0, none⟩) l.length (l.length + 2) ∧ H = [(g, .cells c 25 (0, 0))] ∧ Row eBlk (l ++ [b7, b7]) c (l.length + 2)) v H' := by
  subst hm1
  have hle := hs.le
  have hmx := hs.mx
  simp only [maxLen] at hmx
  refine (calls_of (P := Try.prog) (n := 39) (w0 := w) (S := fun _ => False) (H := []) (T := fun v H => ∃ H', H'.Sublist H ∧ (fun v H => ∃ g c, v = .slice (some ⟨g, 0, none⟩) l.length (l.length + 2) ∧ H = [(g, .cells c 25 (0, 0))] ∧ Row eBlk (l ++ [b7, b7]) c (l.length + 2)) v H') Try.func14 rfl Try.ntmps14 (Nat.le_of_ble_eq_true rfl) [.tmp 2] rfl (St.nil w _) ?_).mono fun e w' ⟨v, H', he, hs, H2, hsub, hT⟩ => ⟨v, H2, he, hs.drop hsub, hT⟩
  refine c_seq fun K1 hK1 => ?_
  refine c_region ?_
  refine o_y (v := .slice none 0 0) rfl rfl (y_assign rfl) ?_
  refine o_nil ?_
  refine hK1 _ _ ?_
  refine c_seq fun K2 hK2 => ?_
  refine c_region ?_
  refine o_y (v := .slice (a1) ((l).length) (cap1)) rfl rfl (y_move rfl) ?_
  refine o_y (v := .int .i64 ((((l).length : Nat) : Int))) rfl rfl (y_len rfl Try.underlying22) ?_
  refine o_y (v := .int .i64 (((((l).length : Nat) : Int)) + 2)) rfl rfl (y_add rfl rfl (wi_i64 (by omega) (by omega))) ?_
  refine o_make SL22 (zB) ((((((l).length : Nat) : Int)) + 2).toNat) rfl zr22 rfl rfl (by simp [maxLen]; omega) (by omega) fun g1 cg1 hrg1 => ?_
  refine o_y (v := .slice (some ⟨g1, 0, none⟩) ((((((l).length : Nat) : Int)) + 2).toNat) ((((((l).length : Nat) : Int)) + 2).toNat)) rfl rfl (y_assign rfl) ?_
  refine o_nil ?_
  refine hK2 _ _ ?_
  refine c_seq fun K3 hK3 => ?_
  refine c_seq fun K4 hK4 => ?_
  refine c_region ?_
  refine o_y (v := .int .i64 (0)) rfl rfl (y_assign rfl) ?_
  refine o_nil ?_
  refine hK4 _ _ ?_
  refine c_block ?_
  refine c_loop (fun d R H => ∃ (j : Nat) (c : Array Value), d = l.length - (j) ∧ (j ≤ l.length) ∧ (Row eBlk (wideB l (j)) c (l.length + 2)) ∧ R 0 = .slice (a1) ((l).length) (cap1) ∧ R 3 = .slice (some ⟨g1, 0, none⟩) ((((((l).length : Nat) : Int)) + 2).toNat) ((((((l).length : Nat) : Int)) + 2).toNat) ∧ R 4 = .int .i64 (((j : Nat) : Int)) ∧ H = ([(g1, .cells (c) 25 (0, 0))] : Hp)) (l.length - (0)) ?_ ?_
  ·
    refine ⟨0, cg1, rfl, by omega, wideB_zero l ▸ hrg1, rfl, rfl, (ie (a := 0) (b := ((0 : Nat) : Int)) (by omega)), rfl⟩
  ·
    rintro d1 R1 _ ⟨j, c, hd1, hv1_0, hv1_1, h1_0, h1_3, h1_4, rfl⟩
    have hwl := wideB_len l j hv1_0
    refine c_seq fun K5 hK5 => ?_
    refine c_seq fun K6 hK6 => ?_
    refine c_region ?_
    refine o_y (v := .int .i64 (((j : Nat) : Int))) rfl rfl (y_move h1_4) ?_
    refine o_y (v := .slice (a1) ((l).length) (cap1)) rfl rfl (y_move h1_0) ?_
    refine o_y (v := .int .i64 ((((l).length : Nat) : Int))) rfl rfl (y_len rfl Try.underlying22) ?_
    refine o_y (v := .bool (decide (((j : Nat) : Int) < (((l).length : Nat) : Int)))) rfl rfl (y_lss rfl rfl rfl) ?_
    refine o_nil ?_
    refine hK6 _ _ ?_
    refine c_cond (t := decide (((j : Nat) : Int) < (((l).length : Nat) : Int))) rfl (fun hc1 => ?_) (fun hc1 => ?_)
    ·
      replace hc1 := of_decide_eq_true hc1
      -- way LT
      refine c_skip ?_
      refine hK5 _ _ ?_
      refine c_seq fun K7 hK7 => ?_
      refine c_block ?_
      refine c_region ?_
      refine o_y (v := .slice (some ⟨g1, 0, none⟩) ((((((l).length : Nat) : Int)) + 2).toNat) ((((((l).length : Nat) : Int)) + 2).toNat)) rfl rfl (y_move h1_3) ?_
      refine o_y (v := .int .i64 (((j : Nat) : Int))) rfl rfl (y_move h1_4) ?_
      refine o_y (v := .slice (a1) ((l).length) (cap1)) rfl rfl (y_move h1_0) ?_
      refine o_y (v := .int .i64 (((j : Nat) : Int))) rfl rfl (y_move h1_4) ?_
      refine o_y (v := .pointer (some ⟨b1, o1 + j * 64, none⟩)) rfl rfl (y_ixO j (hs.at_ (by omega)) rfl rfl Try.underlying22 s25 (by omega) (by first | omega | (simp; done) | (simp; omega))) ?_
      refine o_y (v := .agg (bv ((l)[j]))) rfl rfl (y_loadB T25 rfl (SlG.rd (SlG.old hs (fun _ h => h)) j (by first | omega | (simp; done) | (simp; omega)))) ?_
      refine o_y (v := .pointer (some ⟨g1, 0 + j * 64, none⟩)) rfl rfl (y_ixO j rfl rfl rfl Try.underlying22 s25 (by omega) (by first | omega | (simp; done) | (simp; omega))) ?_
      refine o_storeRow (E := eBlk) (u := (l)[j]) 0 j rfl (by show _ = _ * 64; omega) rfl rfl s25 rfl hv1_1 (by first | omega | (simp; done) | (simp; omega)) fun cq2 hrq2 => ?_
      have hsq2 := hrq2
      rw [show (wideB l (j)).set j ((l)[j]) = wideB l (j + 1) from wideB_set _ _ (by omega)] at hsq2
      refine o_nil ?_
      refine hK7 _ _ ?_
      refine c_region ?_
      refine o_y (v := .int .i64 (((j : Nat) : Int))) rfl rfl (y_move h1_4) ?_
      refine o_y (v := .int .i64 ((((j : Nat) : Int)) + 1)) rfl rfl (y_add rfl rfl (wi_i64 (by omega) (by omega))) ?_
      refine o_y (v := .int .i64 ((((j : Nat) : Int)) + 1)) rfl rfl (y_assign rfl) ?_
      refine o_nil ?_
      refine ⟨_, by omega, j + 1, cq2, rfl, by omega, hsq2, h1_0, h1_3, (ie (a := (((j : Nat) : Int)) + 1) (b := ((j + 1 : Nat) : Int)) (by omega)), rfl⟩
    ·
      replace hc1 := of_decide_eq_false hc1
      -- way LF
      refine c_exit ?_
      refine hK3 _ _ ?_
      refine c_seq fun K8 hK8 => ?_
      refine c_seq fun K9 hK9 => ?_
      refine c_region ?_
      refine o_y (v := .slice (a1) ((l).length) (cap1)) rfl rfl (y_move h1_0) ?_
      refine o_y (v := .int .i64 ((((l).length : Nat) : Int))) rfl rfl (y_len rfl Try.underlying22) ?_
      refine o_y (v := .int .i64 ((((l).length : Nat) : Int))) rfl rfl (y_assign rfl) ?_
      refine o_nil ?_
      refine hK9 _ _ ?_
      refine c_block ?_
      refine c_loop (fun d R H => ∃ (k : Nat) (c2 : Array Value), d = l.length + 2 - (k) ∧ (l.length ≤ k) ∧ (k ≤ l.length + 2) ∧ (Row eBlk (sevB l (k)) c2 (l.length + 2)) ∧ R 0 = .slice (a1) ((l).length) (cap1) ∧ R 3 = .slice (some ⟨g1, 0, none⟩) ((((((l).length : Nat) : Int)) + 2).toNat) ((((((l).length : Nat) : Int)) + 2).toNat) ∧ R 5 = .int .i64 (((k : Nat) : Int)) ∧ H = ([(g1, .cells (c2) 25 (0, 0))] : Hp)) (l.length + 2 - (l.length)) ?_ ?_
      ·
        refine ⟨l.length, c, rfl, by omega, by omega, sevB_start l ▸ (show j = l.length by omega) ▸ hv1_1, h1_0, h1_3, (ie (a := (((l).length : Nat) : Int)) (b := ((l.length : Nat) : Int)) (by omega)), rfl⟩
      ·
        rintro d2 R2 _ ⟨k, c2, hd2, hv2_0, hv2_1, hv2_2, h2_0, h2_3, h2_5, rfl⟩
        have hsl := sevB_len l k hv2_0 hv2_1
        refine c_seq fun K10 hK10 => ?_
        refine c_seq fun K11 hK11 => ?_
        refine c_region ?_
        refine o_y (v := .int .i64 (((k : Nat) : Int))) rfl rfl (y_move h2_5) ?_
        refine o_y (v := .slice (some ⟨g1, 0, none⟩) ((((((l).length : Nat) : Int)) + 2).toNat) ((((((l).length : Nat) : Int)) + 2).toNat)) rfl rfl (y_move h2_3) ?_
        refine o_y (v := .int .i64 ((((((((l).length : Nat) : Int)) + 2).toNat : Nat) : Int))) rfl rfl (y_len rfl Try.underlying22) ?_
        refine o_y (v := .bool (decide (((k : Nat) : Int) < (((((((l).length : Nat) : Int)) + 2).toNat : Nat) : Int)))) rfl rfl (y_lss rfl rfl rfl) ?_
        refine o_nil ?_
        refine hK11 _ _ ?_
        refine c_cond (t := decide (((k : Nat) : Int) < (((((((l).length : Nat) : Int)) + 2).toNat : Nat) : Int))) rfl (fun hc2 => ?_) (fun hc2 => ?_)
        ·
          replace hc2 := of_decide_eq_true hc2
          -- way LFLT
          refine c_skip ?_
          refine hK10 _ _ ?_
          refine c_seq fun K12 hK12 => ?_
          refine c_block ?_
          refine c_region ?_
          refine o_y (v := .slice (some ⟨g1, 0, none⟩) ((((((l).length : Nat) : Int)) + 2).toNat) ((((((l).length : Nat) : Int)) + 2).toNat)) rfl rfl (y_move h2_3) ?_
          refine o_y (v := .int .i64 (((k : Nat) : Int))) rfl rfl (y_move h2_5) ?_
          refine o_y (v := .pointer (some ⟨g1, 0 + k * 64, none⟩)) rfl rfl (y_ixO k rfl rfl rfl Try.underlying22 s25 (by omega) (by first | omega | (simp; done) | (simp; omega))) ?_
          refine o_y (v := .pointer (some ⟨g1, 0 + k * 64 + 0, none⟩)) rfl rfl (y_ixArr (sz := 1) rfl rfl Try.underlying25 s5 (by omega) (by omega) (by first | omega | (simp; done) | (simp; omega))) ?_
          refine o_storeRowB 0 k 0 (by omega) rfl (by omega) rfl (u := 7) rfl s5 rfl hv2_2 (by first | omega | (simp; done) | (simp; omega)) fun cq3 hrq3 => ?_
          have hsq3 := hrq3
          rw [show (sevB l (k)).set k (((sevB l (k))[k]'(by first | omega | (simp; done) | (simp; omega))).set 0 (7)) = sevB l (k + 1) from sevB_set _ _ (by omega) (by omega)] at hsq3
          refine o_nil ?_
          refine hK12 _ _ ?_
          refine c_region ?_
          refine o_y (v := .int .i64 (((k : Nat) : Int))) rfl rfl (y_move h2_5) ?_
          refine o_y (v := .int .i64 ((((k : Nat) : Int)) + 1)) rfl rfl (y_add rfl rfl (wi_i64 (by omega) (by omega))) ?_
          refine o_y (v := .int .i64 ((((k : Nat) : Int)) + 1)) rfl rfl (y_assign rfl) ?_
          refine o_nil ?_
          refine ⟨_, by omega, k + 1, cq3, rfl, by omega, by omega, hsq3, h2_0, h2_3, (ie (a := (((k : Nat) : Int)) + 1) (b := ((k + 1 : Nat) : Int)) (by omega)), rfl⟩
        ·
          replace hc2 := of_decide_eq_false hc2
          -- way LFLF
          refine c_exit ?_
          refine hK8 _ _ ?_
          refine c_seq fun K13 hK13 => ?_
          refine c_region ?_
          refine o_y (v := .slice (some ⟨g1, 0, none⟩) ((((((l).length : Nat) : Int)) + 2).toNat) ((((((l).length : Nat) : Int)) + 2).toNat)) rfl rfl (y_move h2_3) ?_
          refine o_y (v := .slice (a1) ((l).length) (cap1)) rfl rfl (y_move h2_0) ?_
          refine o_y (v := .int .i64 ((((l).length : Nat) : Int))) rfl rfl (y_len rfl Try.underlying22) ?_
          refine o_y (v := .slice (some ⟨g1, 0, none⟩) ((l).length) ((((((l).length : Nat) : Int)) + 2).toNat)) rfl rfl (y_partL (sz := 64) ((l).length) rfl Try.underlying22 s25 ⟨_, rfl⟩ (by first | omega | (simp; done) | (simp; omega))) ?_
          refine o_y (v := .slice (some ⟨g1, 0, none⟩) ((l).length) ((((((l).length : Nat) : Int)) + 2).toNat)) rfl rfl (y_assign rfl) ?_
          refine o_nil ?_
          refine hK13 _ _ ?_
          refine c_ret ?_
          refine fun w hw => ⟨[.slice (some ⟨g1, 0, none⟩) ((l).length) ((((((l).length : Nat) : Int)) + 2).toNat)], ⟨rfl, trivial⟩, ?_⟩
          obtain rfl : k = l.length + 2 := by omega
          exact ⟨_, List.Sublist.refl _, _, _, rfl, rfl, sevB_end l ▸ hv2_2⟩
          first | done | rfl

set_option maxRecDepth 100000 in
set_option maxHeartbeats 4000000 in
theorem f24_blocks (l : List Blk) (a1 : Option Addr) (b1 o1 cap1 m1 : Nat) (a2 : Option Addr) (b2 o2 cap2 m2 : Nat) (w : World) (hm1 : m1 = l.length) (hs : Sl eBlk w l a1 b1 o1 cap1) (hm2 : m2 = l.length) (hs2 : Sl eBlk w l a2 b2 o2 cap2) :
    Calls Try.prog 24 [.slice (a1) (m1) (cap1), .slice (a2) (m2) (cap2)].toArray w fun e w' => e = .returned (.bool (true)) ∧ Below w.heap.size w w' := by
  subst hm1
  have hle := hs.le
  have hmx := hs.mx
  simp only [maxLen] at hmx
  subst hm2
  refine (calls_of (P := Try.prog) (n := 26) (w0 := w) (S := fun _ => False) (H := []) (T := fun v _ => v = (.bool (true))) Try.func24 rfl Try.ntmps24 (Nat.le_of_ble_eq_true rfl) [.tmp 4] rfl (St.nil w _) ?_).mono fun e w' ⟨v, H', he, hs, hT⟩ => ⟨by rw [he, hT], hs.below⟩
  refine c_seq fun K1 hK1 => ?_
  refine c_region ?_
  refine o_y (v := .bool (false)) rfl rfl (y_assign rfl) ?_
  refine o_nil ?_
  refine hK1 _ _ ?_
  refine c_seq fun K2 hK2 => ?_
  refine c_seq fun K3 hK3 => ?_
  refine c_region ?_
  refine o_y (v := .slice (a1) ((l).length) (cap1)) rfl rfl (y_move rfl) ?_
  refine o_y (v := .int .i64 ((((l).length : Nat) : Int))) rfl rfl (y_len rfl Try.underlying22) ?_
  refine o_y (v := .slice (a2) ((l).length) (cap2)) rfl rfl (y_move rfl) ?_
  refine o_y (v := .int .i64 ((((l).length : Nat) : Int))) rfl rfl (y_len rfl Try.underlying22) ?_
  refine o_y (v := .bool (false)) rfl rfl (y_bool (y_neq rfl rfl rfl) (by simp)) ?_
  refine o_nil ?_
  refine hK3 _ _ ?_
  refine c_cond (t := false) rfl (fun h => by cases h) (fun _ => ?_)
  refine c_skip ?_
  refine hK2 _ _ ?_
  refine c_seq fun K4 hK4 => ?_
  refine c_seq fun K5 hK5 => ?_
  refine c_region ?_
  refine o_y (v := .int .i64 (0)) rfl rfl (y_assign rfl) ?_
  refine o_nil ?_
  refine hK5 _ _ ?_
  refine c_block ?_
  refine c_loop (fun d R H => ∃ (j : Nat), d = l.length - (j) ∧ (j ≤ l.length) ∧ R 0 = .slice (a1) ((l).length) (cap1) ∧ R 1 = .slice (a2) ((l).length) (cap2) ∧ R 5 = .int .i64 (((j : Nat) : Int)) ∧ H = ([] : Hp)) (l.length - (0)) ?_ ?_
  ·
    refine ⟨0, rfl, by omega, rfl, rfl, (ie (a := 0) (b := ((0 : Nat) : Int)) (by omega)), rfl⟩
  ·
    rintro d1 R1 _ ⟨j, hd1, hv1_0, h1_0, h1_1, h1_5, rfl⟩
    refine c_seq fun K6 hK6 => ?_
    refine c_seq fun K7 hK7 => ?_
    refine c_region ?_
    refine o_y (v := .int .i64 (((j : Nat) : Int))) rfl rfl (y_move h1_5) ?_
    refine o_y (v := .slice (a1) ((l).length) (cap1)) rfl rfl (y_move h1_0) ?_
    refine o_y (v := .int .i64 ((((l).length : Nat) : Int))) rfl rfl (y_len rfl Try.underlying22) ?_
    refine o_y (v := .bool (decide (((j : Nat) : Int) < (((l).length : Nat) : Int)))) rfl rfl (y_lss rfl rfl rfl) ?_
    refine o_nil ?_
    refine hK7 _ _ ?_
    refine c_cond (t := decide (((j : Nat) : Int) < (((l).length : Nat) : Int))) rfl (fun hc1 => ?_) (fun hc1 => ?_)
    ·
      replace hc1 := of_decide_eq_true hc1
      -- way LT
      refine c_skip ?_
      refine hK6 _ _ ?_
      refine c_seq fun K8 hK8 => ?_
      refine c_block ?_
      refine c_seq fun K9 hK9 => ?_
      refine c_draw 9 (by kernel_rfl) (by kernel_rfl) ?_
      refine q_y (v := .slice (a1) ((l).length) (cap1)) rfl (y_move h1_0) ?_
      refine q_y (v := .int .i64 (((j : Nat) : Int))) rfl (y_move h1_5) ?_
      refine q_y (v := .pointer (some ⟨b1, o1 + j * 64, none⟩)) rfl (y_ixO j (hs.at_ (by omega)) rfl rfl Try.underlying22 s25 (by omega) (by first | omega | (simp; done) | (simp; omega))) ?_
      refine q_y (v := .agg (bv ((l)[j]))) rfl (y_loadB T25 rfl (SlG.rd (SlG.old hs (fun _ h => h)) j (by first | omega | (simp; done) | (simp; omega)))) ?_
      refine q_y (v := .slice (a2) ((l).length) (cap2)) rfl (y_move h1_1) ?_
      refine q_y (v := .int .i64 (((j : Nat) : Int))) rfl (y_move h1_5) ?_
      refine q_y (v := .pointer (some ⟨b2, o2 + j * 64, none⟩)) rfl (y_ixO j (hs2.at_ (by omega)) rfl rfl Try.underlying22 s25 (by omega) (by first | omega | (simp; done) | (simp; omega))) ?_
      refine q_y (v := .agg (bv ((l)[j]))) rfl (y_loadB T25 rfl (SlG.rd (SlG.old hs2 (fun _ h => h)) j (by first | omega | (simp; done) | (simp; omega)))) ?_
      refine q_y (v := .bool (false)) rfl (y_bool (y_neqV T25 rfl rfl) (by simp)) ?_
      refine q_nil ?_
      refine o_nil ?_
      refine hK9 _ _ ?_
      refine c_cond (t := false) rfl (fun h => by cases h) (fun _ => ?_)
      refine c_skip ?_
      refine hK8 _ _ ?_
      refine c_region ?_
      refine o_y (v := .int .i64 (((j : Nat) : Int))) rfl rfl (y_move h1_5) ?_
      refine o_y (v := .int .i64 ((((j : Nat) : Int)) + 1)) rfl rfl (y_add rfl rfl (wi_i64 (by omega) (by omega))) ?_
      refine o_y (v := .int .i64 ((((j : Nat) : Int)) + 1)) rfl rfl (y_assign rfl) ?_
      refine o_nil ?_
      refine ⟨_, by omega, j + 1, rfl, by omega, h1_0, h1_1, (ie (a := (((j : Nat) : Int)) + 1) (b := ((j + 1 : Nat) : Int)) (by omega)), rfl⟩
    ·
      replace hc1 := of_decide_eq_false hc1
      -- way LF
      refine c_exit ?_
      refine hK4 _ _ ?_
      refine c_seq fun K10 hK10 => ?_
      refine c_region ?_
      refine o_y (v := .bool (true)) rfl rfl (y_assign rfl) ?_
      refine o_nil ?_
      refine hK10 _ _ ?_
      refine c_ret ?_
      refine fun w hw => ⟨[.bool (true)], ⟨rfl, trivial⟩, ?_⟩
      exact rfl

set_option maxRecDepth 100000 in
set_option maxHeartbeats 4000000 in
theorem f23_left (l : List Blk) (a1 : Option Addr) (b1 o1 : Nat) (a2 : Option Addr) (b2 o2 cap2 m2 : Nat) (w : World) (hs : Sl eBlk w (l ++ [b7, b7]) a1 b1 o1 (l.length + 2)) (hm2 : m2 = l.length) (hs2 : Sl eBlk w l a2 b2 o2 cap2) :
    Calls Try.prog 23 [.slice (a1) (l.length) (l.length + 2), .slice (a2) (m2) (cap2)].toArray w fun e w' => e = .returned (.bool (true)) ∧ Below w.heap.size w w' := by
  subst hm2
  have hmx := hs.mx
  have hle := hs2.le
  have hmx2 := hs2.mx
  simp only [maxLen] at hmx hmx2
  refine (calls_of (P := Try.prog) (n := 41) (w0 := w) (S := fun _ => False) (H := []) (T := fun v _ => v = (.bool (true))) Try.func23 rfl Try.ntmps23 (Nat.le_of_ble_eq_true rfl) [.tmp 4] rfl (St.nil w _) ?_).mono fun e w' ⟨v, H', he, hs, hT⟩ => ⟨by rw [he, hT], hs.below⟩
  refine c_seq fun K1 hK1 => ?_
  refine c_region ?_
  refine o_y (v := .bool (false)) rfl rfl (y_assign rfl) ?_
  refine o_nil ?_
  refine hK1 _ _ ?_
  refine c_seq fun K2 hK2 => ?_
  refine c_seq fun K3 hK3 => ?_
  refine c_region ?_
  refine o_y (v := .slice (a1) (l.length) (l.length + 2)) rfl rfl (y_move rfl) ?_
  refine o_y (v := .slice (a2) ((l).length) (cap2)) rfl rfl (y_move rfl) ?_
  refine o_y (v := .bool (true)) rfl rfl (y_call (vs := [.slice (a1) (l.length) (l.length + 2), .slice (a2) ((l).length) (cap2)]) b24 rfl (fun w hw => f24_blocks (l) _ _ _ _ _ _ _ _ _ _ w (by simp) ((SlG.pre (SlG.old hs (fun _ h => h))) w hw) (by simp) ((SlG.old hs2 (fun _ h => h)) w hw))) ?_
  refine o_y (v := .bool (false)) rfl rfl (y_not rfl rfl) ?_
  refine o_y (v := .bool (false)) rfl rfl (y_move rfl) ?_
  refine o_guard (j := 4) (d := 11) (b := false) rfl rfl rfl (fun _ => ?_) rfl (fun h => by cases h)
  refine o_y (v := .slice (a1) (l.length) (l.length + 2)) rfl rfl (y_move rfl) ?_
  refine o_guard (j := 4) (d := 11) (b := false) rfl rfl rfl (fun _ => ?_) rfl (fun h => by cases h)
  refine o_y (v := .int .i64 (((l.length + 2 : Nat) : Int))) rfl rfl (y_cap rfl Try.underlying22) ?_
  refine o_guard (j := 4) (d := 11) (b := false) rfl rfl rfl (fun _ => ?_) rfl (fun h => by cases h)
  refine o_y (v := .slice (a1) (l.length) (l.length + 2)) rfl rfl (y_move rfl) ?_
  refine o_guard (j := 4) (d := 11) (b := false) rfl rfl rfl (fun _ => ?_) rfl (fun h => by cases h)
  refine o_y (v := .int .i64 (((l.length : Nat) : Int))) rfl rfl (y_len rfl Try.underlying22) ?_
  refine o_guard (j := 4) (d := 11) (b := false) rfl rfl rfl (fun _ => ?_) rfl (fun h => by cases h)
  refine o_y (v := .int .i64 ((((l.length : Nat) : Int)) + 2)) rfl rfl (y_add rfl rfl (wi_i64 (by omega) (by omega))) ?_
  refine o_guard (j := 4) (d := 11) (b := false) rfl rfl rfl (fun _ => ?_) rfl (fun h => by cases h)
  refine o_y (v := .bool (false)) rfl rfl (y_bool (y_lss rfl rfl rfl) (decide_eq_false (by omega))) ?_
  refine o_y (v := .bool (false)) rfl rfl (y_pick (b := false) rfl rfl) ?_
  refine o_nil ?_
  refine hK3 _ _ ?_
  refine c_cond (t := false) rfl (fun h => by cases h) (fun _ => ?_)
  refine c_skip ?_
  refine hK2 _ _ ?_
  refine c_seq fun K4 hK4 => ?_
  refine c_region ?_
  refine o_y (v := .slice (a1) (l.length) (l.length + 2)) rfl rfl (y_move rfl) ?_
  refine o_y (v := .slice (a1) (l.length) (l.length + 2)) rfl rfl (y_move rfl) ?_
  refine o_y (v := .int .i64 (((l.length : Nat) : Int))) rfl rfl (y_len rfl Try.underlying22) ?_
  refine o_y (v := .int .i64 ((((l.length : Nat) : Int)) + 2)) rfl rfl (y_add rfl rfl (wi_i64 (by omega) (by omega))) ?_
  refine o_y (v := .slice (a1) (l.length) (l.length + 2)) rfl rfl (y_move rfl) ?_
  refine o_y (v := .int .i64 (((l.length : Nat) : Int))) rfl rfl (y_len rfl Try.underlying22) ?_
  refine o_y (v := .int .i64 ((((l.length : Nat) : Int)) + 2)) rfl rfl (y_add rfl rfl (wi_i64 (by omega) (by omega))) ?_
  refine o_y (v := .slice (a1) (((((l.length : Nat) : Int)) + 2).toNat) (((((l.length : Nat) : Int)) + 2).toNat)) rfl rfl (y_slice3 (sz := 64) (((((l.length : Nat) : Int)) + 2).toNat) (((((l.length : Nat) : Int)) + 2).toNat) rfl Try.underlying22 s25 rfl rfl (by omega) (by omega)) ?_
  refine o_y (v := .slice (a1) (((((l.length : Nat) : Int)) + 2).toNat) (((((l.length : Nat) : Int)) + 2).toNat)) rfl rfl (y_assign rfl) ?_
  refine o_nil ?_
  refine hK4 _ _ ?_
  refine c_seq fun K5 hK5 => ?_
  refine c_seq fun K6 hK6 => ?_
  refine c_region ?_
  refine o_y (v := .slice (a1) (l.length) (l.length + 2)) rfl rfl (y_move rfl) ?_
  refine o_y (v := .int .i64 (((l.length : Nat) : Int))) rfl rfl (y_len rfl Try.underlying22) ?_
  refine o_y (v := .int .i64 (((l.length : Nat) : Int))) rfl rfl (y_assign rfl) ?_
  refine o_nil ?_
  refine hK6 _ _ ?_
  refine c_block ?_
  refine c_loop (fun d R H => ∃ (j : Nat), d = l.length + 2 - (j) ∧ (l.length ≤ j) ∧ (j ≤ l.length + 2) ∧ R 5 = .slice (a1) (((((l.length : Nat) : Int)) + 2).toNat) (((((l.length : Nat) : Int)) + 2).toNat) ∧ R 6 = .int .i64 (((j : Nat) : Int)) ∧ H = ([] : Hp)) (l.length + 2 - (l.length)) ?_ ?_
  ·
    refine ⟨l.length, rfl, by omega, by omega, rfl, rfl, rfl⟩
  ·
    rintro d1 R1 _ ⟨j, hd1, hv1_0, hv1_1, h1_5, h1_6, rfl⟩
    refine c_seq fun K7 hK7 => ?_
    refine c_seq fun K8 hK8 => ?_
    refine c_region ?_
    refine o_y (v := .int .i64 (((j : Nat) : Int))) rfl rfl (y_move h1_6) ?_
    refine o_y (v := .slice (a1) (((((l.length : Nat) : Int)) + 2).toNat) (((((l.length : Nat) : Int)) + 2).toNat)) rfl rfl (y_move h1_5) ?_
    refine o_y (v := .int .i64 (((((((l.length : Nat) : Int)) + 2).toNat : Nat) : Int))) rfl rfl (y_len rfl Try.underlying22) ?_
    refine o_y (v := .bool (decide (((j : Nat) : Int) < ((((((l.length : Nat) : Int)) + 2).toNat : Nat) : Int)))) rfl rfl (y_lss rfl rfl rfl) ?_
    refine o_nil ?_
    refine hK8 _ _ ?_
    refine c_cond (t := decide (((j : Nat) : Int) < ((((((l.length : Nat) : Int)) + 2).toNat : Nat) : Int))) rfl (fun hc1 => ?_) (fun hc1 => ?_)
    ·
      replace hc1 := of_decide_eq_true hc1
      -- way LT
      refine c_skip ?_
      refine hK7 _ _ ?_
      refine c_seq fun K9 hK9 => ?_
      refine c_block ?_
      refine c_seq fun K10 hK10 => ?_
      refine c_region ?_
      refine o_y (v := .slice (a1) (((((l.length : Nat) : Int)) + 2).toNat) (((((l.length : Nat) : Int)) + 2).toNat)) rfl rfl (y_move h1_5) ?_
      refine o_y (v := .int .i64 (((j : Nat) : Int))) rfl rfl (y_move h1_6) ?_
      refine o_y (v := .pointer (some ⟨b1, o1 + j * 64, none⟩)) rfl rfl (y_ixO j (hs.at_ (by simp)) rfl rfl Try.underlying22 s25 (by omega) (by first | omega | (simp; done) | (simp; omega))) ?_
      refine o_y (v := .agg (bv ((l ++ [b7, b7])[j]'(by first | omega | (simp; done) | (simp; omega))))) rfl rfl (y_loadB T25 rfl (SlG.rd (SlG.old hs (fun _ h => h)) j (by first | omega | (simp; done) | (simp; omega)))) ?_
      refine o_y (v := .agg (bv ((zB).set 0 7))) rfl rfl (y_build rfl (by kernel_rfl)) ?_
      refine o_y (v := .bool (false)) rfl rfl (y_bool (y_neqV T25 rfl rfl) (decide_eq_false (by rw [wide_tail l j (by omega) (by omega)]; simp [b7]))) ?_
      refine o_nil ?_
      refine hK10 _ _ ?_
      refine c_cond (t := false) rfl (fun h => by cases h) (fun _ => ?_)
      refine c_skip ?_
      refine hK9 _ _ ?_
      refine c_region ?_
      refine o_y (v := .int .i64 (((j : Nat) : Int))) rfl rfl (y_move h1_6) ?_
      refine o_y (v := .int .i64 ((((j : Nat) : Int)) + 1)) rfl rfl (y_add rfl rfl (wi_i64 (by omega) (by omega))) ?_
      refine o_y (v := .int .i64 ((((j : Nat) : Int)) + 1)) rfl rfl (y_assign rfl) ?_
      refine o_nil ?_
      refine ⟨_, by omega, j + 1, rfl, by omega, by omega, h1_5, (ie (a := (((j : Nat) : Int)) + 1) (b := ((j + 1 : Nat) : Int)) (by omega)), rfl⟩
    ·
      replace hc1 := of_decide_eq_false hc1
      -- way LF
      refine c_exit ?_
      refine hK5 _ _ ?_
      refine c_seq fun K11 hK11 => ?_
      refine c_region ?_
      refine o_y (v := .bool (true)) rfl rfl (y_assign rfl) ?_
      refine o_nil ?_
      refine hK11 _ _ ?_
      refine c_ret ?_
      refine fun w hw => ⟨[.bool (true)], ⟨rfl, trivial⟩, ?_⟩
      exact rfl

set_option maxRecDepth 100000 in
set_option maxHeartbeats 4000000 in
theorem f11_lives  (w : World)  :
    Calls Try.prog 11 [].toArray w fun e w' => e = .returned (.bool (true)) ∧ Below w.heap.size w w' := by
  refine (calls_of (P := Try.prog) (n := 51) (w0 := w) (S := fun _ => False) (H := []) (T := fun v _ => v = (.bool (true))) Try.func11 rfl Try.ntmps11 (Nat.le_of_ble_eq_true rfl) [.tmp 0] rfl (St.nil w _) ?_).mono fun e w' ⟨v, H', he, hs, hT⟩ => ⟨by rw [he, hT], hs.below⟩
  refine c_seq fun K1 hK1 => ?_
  refine c_region ?_
  refine o_y (v := .bool (false)) rfl rfl (y_assign rfl) ?_
  refine o_nil ?_
  refine hK1 _ _ ?_
  refine c_seq fun K2 hK2 => ?_
  refine c_region ?_
  refine o_y (v := .agg (bv ((zB).set 0 1))) rfl rfl (y_build rfl (by kernel_rfl)) ?_
  refine o_y (v := .agg (bv ((zB).set 0 2))) rfl rfl (y_build rfl (by kernel_rfl)) ?_
  refine o_y (v := .agg (bv ((zB).set 0 3))) rfl rfl (y_build rfl (by kernel_rfl)) ?_
  refine o_buildSlice SL22 ([(zB).set 0 1, (zB).set 0 2, (zB).set 0 3] : List Blk) (fun x => .agg (bv x)) (fun _ => rfl) rfl rfl (by rw [Array.toList_map]; rfl) (by simp) (by simp [eBlk]) fun g1 => ?_
  have hrg1 := Row.lit (E := eBlk) ([(zB).set 0 1, (zB).set 0 2, (zB).set 0 3]) (by simp [maxLen])
  refine o_y (v := .tuple #[.agg (bv (missB ([(zB).set 0 1, (zB).set 0 2, (zB).set 0 3]) (1))), .int .i64 (missE ([(zB).set 0 1, (zB).set 0 2, (zB).set 0 3]) (1))]) rfl rfl (y_call (vs := [.slice (some ⟨g1, 0, none⟩) (3) (3), .int .i64 (1)]) b10 rfl (fun w hw => f10_missing _ _ _ _ _ _ (1) w (by omega) (by omega) (by first | (simp; done) | (simp; omega) | omega) ((SlG.row (k := 0) rfl hrg1) w hw))) ?_
  refine o_y (v := .tuple #[.agg (bv (missB ([(zB).set 0 1, (zB).set 0 2, (zB).set 0 3]) (1))), .int .i64 (missE ([(zB).set 0 1, (zB).set 0 2, (zB).set 0 3]) (1))]) rfl rfl (y_move rfl) ?_
  refine o_y (v := .agg (bv (missB ([(zB).set 0 1, (zB).set 0 2, (zB).set 0 3]) (1)))) rfl rfl (y_extract (vs := #[.agg (bv (missB ([(zB).set 0 1, (zB).set 0 2, (zB).set 0 3]) (1))), .int .i64 (missE ([(zB).set 0 1, (zB).set 0 2, (zB).set 0 3]) (1))]) rfl rfl) ?_
  refine o_y (v := .int .i64 (missE ([(zB).set 0 1, (zB).set 0 2, (zB).set 0 3]) (1))) rfl rfl (y_extract (vs := #[.agg (bv (missB ([(zB).set 0 1, (zB).set 0 2, (zB).set 0 3]) (1))), .int .i64 (missE ([(zB).set 0 1, (zB).set 0 2, (zB).set 0 3]) (1))]) rfl rfl) ?_
  refine o_alloc (z := .agg (bv (zB))) rfl z25 fun g2 => ?_
  refine o_storeB (H' := [(g2, .cells (bv (missB ([(zB).set 0 1, (zB).set 0 2, (zB).set 0 3]) (1))) 25 (0, 0)), (g1, .cells ((([(zB).set 0 1, (zB).set 0 2, (zB).set 0 3]).flatMap eBlk.enc).toArray) 25 (0, 0))]) T25 0 rfl rfl rfl rfl ?_
  refine o_y (v := .int .i64 (missE ([(zB).set 0 1, (zB).set 0 2, (zB).set 0 3]) (1))) rfl rfl (y_assign rfl) ?_
  refine o_nil ?_
  refine hK2 _ _ ?_
  refine c_seq fun K3 hK3 => ?_
  refine c_region ?_
  refine o_y (v := .tuple #[.agg (bv (missB ([]) (0))), .int .i64 (missE ([]) (0))]) rfl rfl (y_call (vs := [.slice none 0 0, .int .i64 (0)]) b10 rfl (fun w hw => f10_missing _ _ _ _ _ _ (0) w (by omega) (by omega) (by first | (simp; done) | (simp; omega) | omega) (SlG.nil w hw))) ?_
  refine o_y (v := .tuple #[.agg (bv (missB ([]) (0))), .int .i64 (missE ([]) (0))]) rfl rfl (y_move rfl) ?_
  refine o_y (v := .agg (bv (missB ([]) (0)))) rfl rfl (y_extract (vs := #[.agg (bv (missB ([]) (0))), .int .i64 (missE ([]) (0))]) rfl rfl) ?_
  refine o_y (v := .int .i64 (missE ([]) (0))) rfl rfl (y_extract (vs := #[.agg (bv (missB ([]) (0))), .int .i64 (missE ([]) (0))]) rfl rfl) ?_
  refine o_alloc (z := .agg (bv (zB))) rfl z25 fun g3 => ?_
  refine o_storeB (H' := [(g3, .cells (bv (missB ([]) (0))) 25 (0, 0)), (g2, .cells (bv (missB ([(zB).set 0 1, (zB).set 0 2, (zB).set 0 3]) (1))) 25 (0, 0)), (g1, .cells ((([(zB).set 0 1, (zB).set 0 2, (zB).set 0 3]).flatMap eBlk.enc).toArray) 25 (0, 0))]) T25 0 rfl rfl rfl rfl ?_
  refine o_y (v := .int .i64 (missE ([]) (0))) rfl rfl (y_assign rfl) ?_
  refine o_nil ?_
  refine hK3 _ _ ?_
  refine c_seq fun K4 hK4 => ?_
  refine c_region ?_
  refine o_y (v := .agg (bv ((zB).set 0 15))) rfl rfl (y_build rfl (by kernel_rfl)) ?_
  refine o_y (v := .agg (bv ((zB).set 0 60))) rfl rfl (y_build rfl (by kernel_rfl)) ?_
  refine o_y (v := .agg (bv (xorB ((zB).set 0 15) ((zB).set 0 60)))) rfl rfl (y_call (vs := [.agg (bv ((zB).set 0 15)), .agg (bv ((zB).set 0 60))]) b12 rfl (fun w hw => f12_xor _ _ w)) ?_
  refine o_y (v := .agg (bv ((zB).set 0 51))) rfl rfl (y_build rfl (by kernel_rfl)) ?_
  refine o_y (v := .bool (true)) rfl rfl (y_bool (y_eqlV T25 rfl rfl) (by decide +kernel)) ?_
  refine o_y (v := .bool (true)) rfl rfl (y_move rfl) ?_
  refine o_guard (j := 5) (d := 22) (b := true) rfl rfl rfl (fun _ => ?_) rfl (fun h => by cases h)
  refine o_y (v := .agg (bv (foldB ([])))) rfl rfl (y_call (vs := [.slice none 0 0]) b9 rfl (fun w hw => f9_fold _ _ _ _ _ _ w (by first | (simp; done) | (simp; omega) | omega) (SlG.nil w hw))) ?_
  refine o_guard (j := 5) (d := 22) (b := true) rfl rfl rfl (fun _ => ?_) rfl (fun h => by cases h)
  refine o_y (v := .bool (true)) rfl rfl (y_bool (y_call (vs := [.agg (bv (foldB ([])))]) b21 rfl (fun w hw => f21_zero _ w)) (by decide +kernel)) ?_
  refine o_y (v := .bool (true)) rfl rfl (y_pick (b := true) rfl rfl) ?_
  refine o_y (v := .bool (true)) rfl rfl (y_move rfl) ?_
  refine o_guard (j := 9) (d := 26) (b := true) rfl rfl rfl (fun _ => ?_) rfl (fun h => by cases h)
  refine o_y (v := .agg (bv ((zB).set 63 1))) rfl rfl (y_build rfl (by kernel_rfl)) ?_
  refine o_guard (j := 9) (d := 26) (b := true) rfl rfl rfl (fun _ => ?_) rfl (fun h => by cases h)
  refine o_y (v := .bool (false)) rfl rfl (y_bool (y_call (vs := [.agg (bv ((zB).set 63 1))]) b21 rfl (fun w hw => f21_zero _ w)) (by decide +kernel)) ?_
  refine o_guard (j := 9) (d := 26) (b := true) rfl rfl rfl (fun _ => ?_) rfl (fun h => by cases h)
  refine o_y (v := .bool (true)) rfl rfl (y_not rfl rfl) ?_
  refine o_y (v := .bool (true)) rfl rfl (y_pick (b := true) rfl rfl) ?_
  refine o_y (v := .bool (true)) rfl rfl (y_move rfl) ?_
  refine o_guard (j := 14) (d := 31) (b := true) rfl rfl rfl (fun _ => ?_) rfl (fun h => by cases h)
  refine o_y (v := .agg (bv (missB ([(zB).set 0 1, (zB).set 0 2, (zB).set 0 3]) (1)))) rfl rfl (y_loadB T25 rfl (Rd.whole (k := 1) rfl)) ?_
  refine o_guard (j := 14) (d := 31) (b := true) rfl rfl rfl (fun _ => ?_) rfl (fun h => by cases h)
  refine o_y (v := .agg (bv ((zB).set 0 2))) rfl rfl (y_build rfl (by kernel_rfl)) ?_
  refine o_guard (j := 14) (d := 31) (b := true) rfl rfl rfl (fun _ => ?_) rfl (fun h => by cases h)
  refine o_y (v := .bool (true)) rfl rfl (y_bool (y_eqlV T25 rfl rfl) (by decide +kernel)) ?_
  refine o_y (v := .bool (true)) rfl rfl (y_pick (b := true) rfl rfl) ?_
  refine o_y (v := .bool (true)) rfl rfl (y_move rfl) ?_
  refine o_guard (j := 19) (d := 36) (b := true) rfl rfl rfl (fun _ => ?_) rfl (fun h => by cases h)
  refine o_y (v := .int .i64 (missE ([(zB).set 0 1, (zB).set 0 2, (zB).set 0 3]) (1))) rfl rfl (y_move rfl) ?_
  refine o_guard (j := 19) (d := 36) (b := true) rfl rfl rfl (fun _ => ?_) rfl (fun h => by cases h)
  refine o_y (v := .bool (true)) rfl rfl (y_bool (y_eql rfl rfl rfl) (by decide +kernel)) ?_
  refine o_y (v := .bool (true)) rfl rfl (y_pick (b := true) rfl rfl) ?_
  refine o_y (v := .bool (true)) rfl rfl (y_move rfl) ?_
  refine o_guard (j := 23) (d := 40) (b := true) rfl rfl rfl (fun _ => ?_) rfl (fun h => by cases h)
  refine o_y (v := .int .i64 (missE ([]) (0))) rfl rfl (y_move rfl) ?_
  refine o_guard (j := 23) (d := 40) (b := true) rfl rfl rfl (fun _ => ?_) rfl (fun h => by cases h)
  refine o_y (v := .bool (true)) rfl rfl (y_bool (y_eql rfl rfl rfl) (by decide +kernel)) ?_
  refine o_y (v := .bool (true)) rfl rfl (y_pick (b := true) rfl rfl) ?_
  refine o_y (v := .bool (true)) rfl rfl (y_move rfl) ?_
  refine o_guard (j := 27) (d := 44) (b := true) rfl rfl rfl (fun _ => ?_) rfl (fun h => by cases h)
  refine o_y (v := .agg (bv (((zB).set 0 17).set 1 17))) rfl rfl (y_build rfl (by kernel_rfl)) ?_
  refine o_guard (j := 27) (d := 44) (b := true) rfl rfl rfl (fun _ => ?_) rfl (fun h => by cases h)
  refine o_y (v := .agg (bv (((zB).set 0 34).set 1 34))) rfl rfl (y_build rfl (by kernel_rfl)) ?_
  refine o_guard (j := 27) (d := 44) (b := true) rfl rfl rfl (fun _ => ?_) rfl (fun h => by cases h)
  refine o_y (v := .agg (bv (mixB (1 : Int).toNat (((zB).set 0 34).set 1 34) (((zB).set 0 17).set 1 17)))) rfl rfl (y_call (vs := [.agg (bv (((zB).set 0 17).set 1 17)), .agg (bv (((zB).set 0 34).set 1 34)), .int .i64 (1)]) b13 rfl (fun w hw => f13_torn _ _ _ w (by omega) (by omega))) ?_
  refine o_guard (j := 27) (d := 44) (b := true) rfl rfl rfl (fun _ => ?_) rfl (fun h => by cases h)
  refine o_y (v := .agg (bv (((zB).set 0 34).set 1 17))) rfl rfl (y_build rfl (by kernel_rfl)) ?_
  refine o_guard (j := 27) (d := 44) (b := true) rfl rfl rfl (fun _ => ?_) rfl (fun h => by cases h)
  refine o_y (v := .bool (true)) rfl rfl (y_bool (y_eqlV T25 rfl rfl) (by decide +kernel)) ?_
  refine o_y (v := .bool (true)) rfl rfl (y_pick (b := true) rfl rfl) ?_
  refine o_y (v := .bool (true)) rfl rfl (y_assign rfl) ?_
  refine o_nil ?_
  refine hK4 _ _ ?_
  refine c_ret ?_
  refine fun w hw => ⟨[.bool (true)], ⟨rfl, trivial⟩, ?_⟩
  exact rfl

end Go.Proofs.Ytaekfjidnbcajaa.Wall
