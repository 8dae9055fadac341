/- Proved: what the functions of package gauge and its reference come to; the conditions stand in the statements. -/
import Derived.Test.YtikmjecjolppdaaGaugeF
set_option linter.unusedVariables false
set_option linter.unusedSimpArgs false
namespace Go.Proofs.Ytikmjecjolppdaa.Gauge
open Go Go.RowKit Go.Proofs.Ytikmjecjolppdaa.Eng Go.Proofs.Ytikmjecjolppdaa.Fl

set_option maxRecDepth 100000 in
set_option maxHeartbeats 4000000 in
theorem f15_Least (l : List Nat) (a1 : Option Addr) (b1 o1 cap1 m1 : Nat) (w : World) (hm1 : m1 = l.length) (hs : Sl eFl w l a1 b1 o1 cap1) (hB : ∀ x ∈ l, x < 18446744073709551616) :
    Calls Try.prog 15 [.slice (a1) (m1) (cap1)].toArray w fun e w' => e = .returned (.tuple #[.float .f64 (lstW (leastG l)), .bool (!(nanB (leastG l)))]) ∧ Below w.heap.size w w' := by
  subst hm1
  have hle := hs.le
  have hmx := hs.mx
  simp only [maxLen] at hmx
  refine (calls_of (P := Try.prog) (n := 23) (w0 := w) (S := fun _ => False) (H := []) (T := fun v _ => v = (.tuple #[.float .f64 (lstW (leastG l)), .bool (!(nanB (leastG l)))])) Try.func15 rfl Try.ntmps15 (Nat.le_of_ble_eq_true rfl) [.tmp 2, .tmp 3] rfl (St.nil w _) ?_).mono fun e w' ⟨v, H', he, hs, hT⟩ => ⟨by rw [he, hT], hs.below⟩
  refine c_seq fun K1 hK1 => ?_
  refine c_region ?_
  refine o_y (v := .float .f64 (0)) rfl rfl (y_assign rfl) ?_
  refine o_y (v := .bool (false)) rfl rfl (y_assign rfl) ?_
  refine o_nil ?_
  refine hK1 _ _ ?_
  refine c_seq fun K2 hK2 => ?_
  refine c_region ?_
  refine o_y (v := .float .f64 (nanW)) rfl rfl (y_call (vs := []) b25 rfl (fun w hw => f25_NaN w)) ?_
  refine o_y (v := .float .f64 (nanW)) rfl rfl (y_assign rfl) ?_
  refine o_nil ?_
  refine hK2 _ _ ?_
  refine c_seq fun K3 hK3 => ?_
  refine c_seq fun K4 hK4 => ?_
  refine c_region ?_
  refine o_y (v := .slice (a1) ((l).length) (cap1)) rfl rfl (y_move rfl) ?_
  refine o_y (v := .int .i64 ((((l).length : Nat) : Int))) rfl rfl (y_len rfl Try.underlying30) ?_
  refine o_y (v := .int .i64 (0)) rfl rfl (y_move rfl) ?_
  refine o_nil ?_
  refine hK4 _ _ ?_
  refine c_block ?_
  refine c_loop (fun d R H => ∃ (j : Nat), d = l.length - (j) ∧ (j ≤ l.length) ∧ R 8 = .slice (a1) ((l).length) (cap1) ∧ R 9 = .int .i64 (((l.length : Nat) : Int)) ∧ R 10 = .int .i64 (((j : Nat) : Int)) ∧ R 4 = .float .f64 (leastG (l.take (j))) ∧ H = ([] : Hp)) (l.length - (0)) ?_ ?_
  ·
    refine ⟨0, rfl, by omega, rfl, (ie (a := (((l).length : Nat) : Int)) (b := ((l.length : Nat) : Int)) (by omega)), (ie (a := 0) (b := ((0 : Nat) : Int)) (by omega)), rfl, rfl⟩
  ·
    rintro d1 R1 _ ⟨j, hd1, hv1_0, h1_8, h1_9, h1_10, h1_4, rfl⟩
    refine c_seq fun K5 hK5 => ?_
    refine c_region ?_
    refine o_y (v := .bool (decide (((j : Nat) : Int) < ((l.length : Nat) : Int)))) rfl rfl (y_lss h1_10 h1_9 rfl) ?_
    refine o_nil ?_
    refine hK5 _ _ ?_
    refine c_seq fun K6 hK6 => ?_
    refine c_cond (t := decide (((j : Nat) : Int) < ((l.length : Nat) : Int))) rfl (fun hc1 => ?_) (fun hc1 => ?_)
    ·
      replace hc1 := of_decide_eq_true hc1
      -- way LT
      refine c_skip ?_
      refine hK6 _ _ ?_
      refine c_seq fun K7 hK7 => ?_
      refine c_block ?_
      refine c_seq fun K8 hK8 => ?_
      refine c_region ?_
      refine o_y (v := .pointer (some ⟨b1, o1 + j * 1, none⟩)) rfl rfl (y_ixO j (hs.at_ (by omega)) h1_8 h1_10 Try.underlying30 s22 (by omega) (by first | omega | (simp; done) | (simp; omega))) ?_
      refine o_y (v := .float .f64 ((l)[j])) rfl rfl (y_load rfl Try.underlying22 rfl (SlG.rd (SlG.old hs (fun _ h => h)) j (by first | omega | (simp; done) | (simp; omega)))) ?_
      refine o_y (v := .float .f64 ((l)[j])) rfl rfl (y_assign rfl) ?_
      refine o_nil ?_
      refine hK8 _ _ ?_
      refine c_seq fun K9 hK9 => ?_
      refine c_region ?_
      refine o_y (v := .float .f64 ((l)[j])) rfl rfl (y_move rfl) ?_
      refine o_y (v := .float .f64 (leastG (l.take (j)))) rfl rfl (y_move h1_4) ?_
      refine o_y (v := .int .i64 (cmpF ((l)[j]) (leastG (l.take (j))))) rfl rfl (y_call (vs := [.float .f64 ((l)[j]), .float .f64 (leastG (l.take (j)))]) b17 rfl (fun w hw => f17_Compare _ _ w (by first | assumption | omega | decide | exact FR.lt ‹_› | exact hB _ (List.getElem_mem _) | exact least_lt (fun x hx => hB x (List.mem_of_mem_take hx)) | exact lst_lt (least_lt (fun x hx => hB x (List.mem_of_mem_take hx)))) (by first | assumption | omega | decide | exact FR.lt ‹_› | exact hB _ (List.getElem_mem _) | exact least_lt (fun x hx => hB x (List.mem_of_mem_take hx)) | exact lst_lt (least_lt (fun x hx => hB x (List.mem_of_mem_take hx)))))) ?_
      refine o_y (v := .bool (decide (cmpF ((l)[j]) (leastG (l.take (j))) < 0))) rfl rfl (y_lss rfl rfl rfl) ?_
      refine o_nil ?_
      refine hK9 _ _ ?_
      refine c_cond (t := decide (cmpF ((l)[j]) (leastG (l.take (j))) < 0)) rfl (fun hc2 => ?_) (fun hc2 => ?_)
      ·
        replace hc2 := of_decide_eq_true hc2
        -- way LTT
        refine c_region ?_
        refine o_y (v := .float .f64 ((l)[j])) rfl rfl (y_move rfl) ?_
        refine o_y (v := .float .f64 ((l)[j])) rfl rfl (y_assign rfl) ?_
        refine o_nil ?_
        refine hK7 _ _ ?_
        refine c_region ?_
        refine o_y (v := .int .i64 ((((j : Nat) : Int)) + 1)) rfl rfl (y_add h1_10 rfl (wi_i64 (by omega) (by omega))) ?_
        refine o_y (v := .int .i64 ((((j : Nat) : Int)) + 1)) rfl rfl (y_move rfl) ?_
        refine o_nil ?_
        refine ⟨_, by omega, j + 1, rfl, by omega, h1_8, h1_9, (ie (a := (((j : Nat) : Int)) + 1) (b := ((j + 1 : Nat) : Int)) (by omega)), (congrArg (Value.float .f64) (st_lt (by omega) hc2).symm), rfl⟩
      ·
        replace hc2 := of_decide_eq_false hc2
        -- way LTF
        refine c_skip ?_
        refine hK7 _ _ ?_
        refine c_region ?_
        refine o_y (v := .int .i64 ((((j : Nat) : Int)) + 1)) rfl rfl (y_add h1_10 rfl (wi_i64 (by omega) (by omega))) ?_
        refine o_y (v := .int .i64 ((((j : Nat) : Int)) + 1)) rfl rfl (y_move rfl) ?_
        refine o_nil ?_
        refine ⟨_, by omega, j + 1, rfl, by omega, h1_8, h1_9, (ie (a := (((j : Nat) : Int)) + 1) (b := ((j + 1 : Nat) : Int)) (by omega)), (h1_4.trans (congrArg (Value.float .f64) (st_ge (by omega) hc2).symm)), rfl⟩
    ·
      replace hc1 := of_decide_eq_false hc1
      -- way LF
      refine c_exit ?_
      refine hK3 _ _ ?_
      refine c_seq fun K10 hK10 => ?_
      refine c_seq fun K11 hK11 => ?_
      refine c_region ?_
      refine o_y (v := .float .f64 (leastG (l.take (j)))) rfl rfl (y_move h1_4) ?_
      refine o_y (v := .bool (nanB (leastG (l.take (j))))) rfl rfl (y_call (vs := [.float .f64 (leastG (l.take (j)))]) b29 rfl (fun w hw => f29_none _ w)) ?_
      refine o_nil ?_
      refine hK11 _ _ ?_
      refine c_cond (t := nanB (leastG (l.take (j)))) rfl (fun hc3 => ?_) (fun hc3 => ?_)
      ·
        -- way LFT
        refine c_seq fun K12 hK12 => ?_
        refine c_region ?_
        refine o_y (v := .float .f64 (0)) rfl rfl (y_assign rfl) ?_
        refine o_y (v := .bool (false)) rfl rfl (y_assign rfl) ?_
        refine o_nil ?_
        refine hK12 _ _ ?_
        refine c_ret ?_
        refine fun w hw => ⟨[.float .f64 (0), .bool (false)], ⟨rfl, rfl, trivial⟩, ?_⟩
        have hjj : j = l.length := by omega
        have hx := hc3
        rw [hjj, List.take_length] at hx
        rw [lst_nan hx, hx]
        first | done | rfl
      ·
        -- way LFF
        refine c_skip ?_
        refine hK10 _ _ ?_
        refine c_seq fun K13 hK13 => ?_
        refine c_region ?_
        refine o_y (v := .float .f64 (leastG (l.take (j)))) rfl rfl (y_move h1_4) ?_
        refine o_y (v := .float .f64 (leastG (l.take (j)))) rfl rfl (y_assign rfl) ?_
        refine o_y (v := .bool (true)) rfl rfl (y_assign rfl) ?_
        refine o_nil ?_
        refine hK13 _ _ ?_
        refine c_ret ?_
        refine fun w hw => ⟨[.float .f64 (leastG (l.take (j))), .bool (true)], ⟨rfl, rfl, trivial⟩, ?_⟩
        have hjj : j = l.length := by omega
        have hx := hc3
        rw [hjj, List.take_length] at hx
        rw [lst_num hx, hx, hjj, List.take_length]
        first | done | rfl

set_option maxRecDepth 100000 in
set_option maxHeartbeats 4000000 in
theorem f16_rLeast (l : List Nat) (a1 : Option Addr) (b1 o1 cap1 m1 : Nat) (w : World) (hm1 : m1 = l.length) (hs : Sl eFl w l a1 b1 o1 cap1) (hB : ∀ x ∈ l, x < 18446744073709551616) :
    Calls Try.prog 16 [.slice (a1) (m1) (cap1)].toArray w fun e w' => e = .returned (.tuple #[.float .f64 (lstW (leastG l)), .bool (!(nanB (leastG l)))]) ∧ Below w.heap.size w w' := by
  subst hm1
  have hle := hs.le
  have hmx := hs.mx
  simp only [maxLen] at hmx
  refine (calls_of (P := Try.prog) (n := 38) (w0 := w) (S := fun _ => False) (H := []) (T := fun v _ => v = (.tuple #[.float .f64 (lstW (leastG l)), .bool (!(nanB (leastG l)))])) Try.func16 rfl Try.ntmps16 (Nat.le_of_ble_eq_true rfl) [.tmp 2, .tmp 3] rfl (St.nil w _) ?_).mono fun e w' ⟨v, H', he, hs, hT⟩ => ⟨by rw [he, hT], hs.below⟩
  refine c_seq fun K1 hK1 => ?_
  refine c_region ?_
  refine o_y (v := .float .f64 (0)) rfl rfl (y_assign rfl) ?_
  refine o_y (v := .bool (false)) rfl rfl (y_assign rfl) ?_
  refine o_nil ?_
  refine hK1 _ _ ?_
  refine c_seq fun K2 hK2 => ?_
  refine c_region ?_
  refine o_y (v := .float .f64 (0)) rfl rfl (y_assign rfl) ?_
  refine o_y (v := .bool (false)) rfl rfl (y_assign rfl) ?_
  refine o_nil ?_
  refine hK2 _ _ ?_
  refine c_seq fun K3 hK3 => ?_
  refine c_seq fun K4 hK4 => ?_
  refine c_region ?_
  refine o_y (v := .int .i64 (0)) rfl rfl (y_assign rfl) ?_
  refine o_nil ?_
  refine hK4 _ _ ?_
  refine c_block ?_
  refine c_loop (fun d R H => ∃ (j : Nat), d = l.length - (j) ∧ (j ≤ l.length) ∧ R 0 = .slice (a1) ((l).length) (cap1) ∧ R 6 = .int .i64 (((j : Nat) : Int)) ∧ R 4 = .float .f64 (lstW (leastG (l.take (j)))) ∧ R 5 = .bool (!(nanB (leastG (l.take (j))))) ∧ H = ([] : Hp)) (l.length - (0)) ?_ ?_
  ·
    refine ⟨0, rfl, by omega, rfl, (ie (a := 0) (b := ((0 : Nat) : Int)) (by omega)), rfl, rfl, rfl⟩
  ·
    rintro d1 R1 _ ⟨j, hd1, hv1_0, h1_0, h1_6, h1_4, h1_5, rfl⟩
    refine c_seq fun K5 hK5 => ?_
    refine c_seq fun K6 hK6 => ?_
    refine c_region ?_
    refine o_y (v := .int .i64 (((j : Nat) : Int))) rfl rfl (y_move h1_6) ?_
    refine o_y (v := .slice (a1) ((l).length) (cap1)) rfl rfl (y_move h1_0) ?_
    refine o_y (v := .int .i64 ((((l).length : Nat) : Int))) rfl rfl (y_len rfl Try.underlying30) ?_
    refine o_y (v := .bool (decide (((j : Nat) : Int) < (((l).length : Nat) : Int)))) rfl rfl (y_lss rfl rfl rfl) ?_
    refine o_nil ?_
    refine hK6 _ _ ?_
    refine c_cond (t := decide (((j : Nat) : Int) < (((l).length : Nat) : Int))) rfl (fun hc1 => ?_) (fun hc1 => ?_)
    ·
      replace hc1 := of_decide_eq_true hc1
      -- way LT
      refine c_skip ?_
      refine hK5 _ _ ?_
      refine c_seq fun K7 hK7 => ?_
      refine c_block ?_
      refine c_seq fun K8 hK8 => ?_
      refine c_region ?_
      refine o_y (v := .slice (a1) ((l).length) (cap1)) rfl rfl (y_move h1_0) ?_
      refine o_y (v := .int .i64 (((j : Nat) : Int))) rfl rfl (y_move h1_6) ?_
      refine o_y (v := .pointer (some ⟨b1, o1 + j * 1, none⟩)) rfl rfl (y_ixO j (hs.at_ (by omega)) rfl rfl Try.underlying30 s22 (by omega) (by first | omega | (simp; done) | (simp; omega))) ?_
      refine o_y (v := .float .f64 ((l)[j])) rfl rfl (y_load rfl Try.underlying22 rfl (SlG.rd (SlG.old hs (fun _ h => h)) j (by first | omega | (simp; done) | (simp; omega)))) ?_
      refine o_y (v := .bool (nanB ((l)[j]))) rfl rfl (y_call (vs := [.float .f64 ((l)[j])]) b11 rfl (fun w hw => f11_none _ w)) ?_
      refine o_y (v := .bool (!(nanB ((l)[j])))) rfl rfl (y_not rfl rfl) ?_
      refine o_y (v := .bool (!(nanB ((l)[j])))) rfl rfl (y_move rfl) ?_
      cases hc2 : (!(nanB ((l)[j])) : Bool)
      ·
        try have hc2' : (nanB ((l)[j])) = true := by simpa using hc2
        -- way LTF
        refine o_guard (j := 6) (d := 19) (b := false) rfl rfl rfl (fun h => by cases h) rfl (fun _ => ?_)
        refine o_guard (j := 6) (d := 19) (b := false) rfl rfl rfl (fun h => by cases h) rfl (fun _ => ?_)
        refine o_guard (j := 6) (d := 19) (b := false) rfl rfl rfl (fun h => by cases h) rfl (fun _ => ?_)
        refine o_guardU (j := 9) (d := 22) rfl rfl rfl rfl ?_
        refine o_guardU (j := 9) (d := 22) rfl rfl rfl rfl ?_
        refine o_guardU (j := 9) (d := 22) rfl rfl rfl rfl ?_
        refine o_guardU (j := 9) (d := 22) rfl rfl rfl rfl ?_
        refine o_guardU (j := 9) (d := 22) rfl rfl rfl rfl ?_
        refine o_guardU (j := 9) (d := 22) rfl rfl rfl rfl ?_
        refine o_guardU (j := 9) (d := 22) rfl rfl rfl rfl ?_
        refine o_guard (j := 6) (d := 19) (b := false) rfl rfl rfl (fun h => by cases h) rfl (fun _ => ?_)
        refine o_y (v := .bool (false)) rfl rfl (y_pick (b := false) rfl rfl) ?_
        refine o_nil ?_
        refine hK8 _ _ ?_
        refine c_cond (t := false) rfl (fun h => by cases h) (fun _ => ?_)
        refine c_skip ?_
        refine hK7 _ _ ?_
        refine c_region ?_
        refine o_y (v := .int .i64 (((j : Nat) : Int))) rfl rfl (y_move h1_6) ?_
        refine o_y (v := .int .i64 ((((j : Nat) : Int)) + 1)) rfl rfl (y_add rfl rfl (wi_i64 (by omega) (by omega))) ?_
        refine o_y (v := .int .i64 ((((j : Nat) : Int)) + 1)) rfl rfl (y_assign rfl) ?_
        refine o_nil ?_
        refine ⟨_, by omega, j + 1, rfl, by omega, h1_0, (ie (a := (((j : Nat) : Int)) + 1) (b := ((j + 1 : Nat) : Int)) (by omega)), (h1_4.trans (congrArg (fun x => Value.float .f64 (lstW x)) (st_nan (by omega) hc2').symm)), (h1_5.trans (congrArg (fun x => Value.bool (!(nanB x))) (st_nan (by omega) hc2').symm)), rfl⟩
      ·
        try have hc2' : (nanB ((l)[j])) = false := by simpa using hc2
        -- way LTT
        refine o_guard (j := 6) (d := 19) (b := true) rfl rfl rfl (fun _ => ?_) rfl (fun h => by cases h)
        refine o_y (v := .bool (!(nanB (leastG (l.take (j)))))) rfl rfl (y_move h1_5) ?_
        refine o_guard (j := 6) (d := 19) (b := true) rfl rfl rfl (fun _ => ?_) rfl (fun h => by cases h)
        refine o_y (v := .bool (!(!(nanB (leastG (l.take (j))))))) rfl rfl (y_not rfl rfl) ?_
        refine o_guard (j := 6) (d := 19) (b := true) rfl rfl rfl (fun _ => ?_) rfl (fun h => by cases h)
        refine o_y (v := .bool (!(!(nanB (leastG (l.take (j))))))) rfl rfl (y_move rfl) ?_
        cases hc3 : (!(!(nanB (leastG (l.take (j))))) : Bool)
        ·
          try have hc3' : (!(nanB (leastG (l.take (j))))) = true := by simpa using hc3
          -- way LTTF
          refine o_guard (j := 9) (d := 22) (b := false) rfl rfl rfl (fun _ => ?_) rfl (fun h => by cases h)
          refine o_y (v := .slice (a1) ((l).length) (cap1)) rfl rfl (y_move h1_0) ?_
          refine o_guard (j := 9) (d := 22) (b := false) rfl rfl rfl (fun _ => ?_) rfl (fun h => by cases h)
          refine o_y (v := .int .i64 (((j : Nat) : Int))) rfl rfl (y_move h1_6) ?_
          refine o_guard (j := 9) (d := 22) (b := false) rfl rfl rfl (fun _ => ?_) rfl (fun h => by cases h)
          refine o_y (v := .pointer (some ⟨b1, o1 + j * 1, none⟩)) rfl rfl (y_ixO j (hs.at_ (by omega)) rfl rfl Try.underlying30 s22 (by omega) (by first | omega | (simp; done) | (simp; omega))) ?_
          refine o_guard (j := 9) (d := 22) (b := false) rfl rfl rfl (fun _ => ?_) rfl (fun h => by cases h)
          refine o_y (v := .float .f64 ((l)[j])) rfl rfl (y_load rfl Try.underlying22 rfl (SlG.rd (SlG.old hs (fun _ h => h)) j (by first | omega | (simp; done) | (simp; omega)))) ?_
          refine o_guard (j := 9) (d := 22) (b := false) rfl rfl rfl (fun _ => ?_) rfl (fun h => by cases h)
          refine o_y (v := .float .f64 (lstW (leastG (l.take (j))))) rfl rfl (y_move h1_4) ?_
          refine o_guard (j := 9) (d := 22) (b := false) rfl rfl rfl (fun _ => ?_) rfl (fun h => by cases h)
          refine o_y (v := .int .i64 (cmpF ((l)[j]) (lstW (leastG (l.take (j)))))) rfl rfl (y_call (vs := [.float .f64 ((l)[j]), .float .f64 (lstW (leastG (l.take (j))))]) b18 rfl (fun w hw => f18_Compare _ _ w (by first | assumption | omega | decide | exact FR.lt ‹_› | exact hB _ (List.getElem_mem _) | exact least_lt (fun x hx => hB x (List.mem_of_mem_take hx)) | exact lst_lt (least_lt (fun x hx => hB x (List.mem_of_mem_take hx)))) (by first | assumption | omega | decide | exact FR.lt ‹_› | exact hB _ (List.getElem_mem _) | exact least_lt (fun x hx => hB x (List.mem_of_mem_take hx)) | exact lst_lt (least_lt (fun x hx => hB x (List.mem_of_mem_take hx)))))) ?_
          refine o_guard (j := 9) (d := 22) (b := false) rfl rfl rfl (fun _ => ?_) rfl (fun h => by cases h)
          refine o_y (v := .bool (decide (cmpF ((l)[j]) (lstW (leastG (l.take (j)))) < 0))) rfl rfl (y_lss rfl rfl rfl) ?_
          refine o_guard (j := 6) (d := 19) (b := true) rfl rfl rfl (fun _ => ?_) rfl (fun h => by cases h)
          refine o_y (v := .bool (decide (cmpF ((l)[j]) (lstW (leastG (l.take (j)))) < 0))) rfl rfl (y_pick (b := false) rfl rfl) ?_
          refine o_y (v := .bool (decide (cmpF ((l)[j]) (lstW (leastG (l.take (j)))) < 0))) rfl rfl (y_pick (b := true) rfl rfl) ?_
          refine o_nil ?_
          refine hK8 _ _ ?_
          refine c_cond (t := decide (cmpF ((l)[j]) (lstW (leastG (l.take (j)))) < 0)) rfl (fun hc4 => ?_) (fun hc4 => ?_)
          ·
            replace hc4 := of_decide_eq_true hc4
            -- way LTTFT
            refine c_region ?_
            refine o_y (v := .slice (a1) ((l).length) (cap1)) rfl rfl (y_move h1_0) ?_
            refine o_y (v := .int .i64 (((j : Nat) : Int))) rfl rfl (y_move h1_6) ?_
            refine o_y (v := .pointer (some ⟨b1, o1 + j * 1, none⟩)) rfl rfl (y_ixO j (hs.at_ (by omega)) rfl rfl Try.underlying30 s22 (by omega) (by first | omega | (simp; done) | (simp; omega))) ?_
            refine o_y (v := .float .f64 ((l)[j])) rfl rfl (y_load rfl Try.underlying22 rfl (SlG.rd (SlG.old hs (fun _ h => h)) j (by first | omega | (simp; done) | (simp; omega)))) ?_
            refine o_y (v := .float .f64 ((l)[j])) rfl rfl (y_assign rfl) ?_
            refine o_y (v := .bool (true)) rfl rfl (y_assign rfl) ?_
            refine o_nil ?_
            refine hK7 _ _ ?_
            refine c_region ?_
            refine o_y (v := .int .i64 (((j : Nat) : Int))) rfl rfl (y_move h1_6) ?_
            refine o_y (v := .int .i64 ((((j : Nat) : Int)) + 1)) rfl rfl (y_add rfl rfl (wi_i64 (by omega) (by omega))) ?_
            refine o_y (v := .int .i64 ((((j : Nat) : Int)) + 1)) rfl rfl (y_assign rfl) ?_
            refine o_nil ?_
            refine ⟨_, by omega, j + 1, rfl, by omega, h1_0, (ie (a := (((j : Nat) : Int)) + 1) (b := ((j + 1 : Nat) : Int)) (by omega)), (congrArg (Value.float .f64) (by have hm : nanB (leastG (l.take j)) = false := (by simpa using hc3); rw [lst_num hm] at hc4; rw [st_lt (by omega) hc4, lst_num hc2'])), (congrArg Value.bool (by have hm : nanB (leastG (l.take j)) = false := (by simpa using hc3); rw [lst_num hm] at hc4; rw [st_lt (by omega) hc4, hc2']; rfl)), rfl⟩
          ·
            replace hc4 := of_decide_eq_false hc4
            -- way LTTFF
            refine c_skip ?_
            refine hK7 _ _ ?_
            refine c_region ?_
            refine o_y (v := .int .i64 (((j : Nat) : Int))) rfl rfl (y_move h1_6) ?_
            refine o_y (v := .int .i64 ((((j : Nat) : Int)) + 1)) rfl rfl (y_add rfl rfl (wi_i64 (by omega) (by omega))) ?_
            refine o_y (v := .int .i64 ((((j : Nat) : Int)) + 1)) rfl rfl (y_assign rfl) ?_
            refine o_nil ?_
            refine ⟨_, by omega, j + 1, rfl, by omega, h1_0, (ie (a := (((j : Nat) : Int)) + 1) (b := ((j + 1 : Nat) : Int)) (by omega)), (h1_4.trans (congrArg (fun x => Value.float .f64 (lstW x)) (by have hm : nanB (leastG (l.take j)) = false := (by simpa using hc3); rw [lst_num hm] at hc4; exact (st_ge (by omega) hc4).symm))), (h1_5.trans (congrArg (fun x => Value.bool (!(nanB x))) (by have hm : nanB (leastG (l.take j)) = false := (by simpa using hc3); rw [lst_num hm] at hc4; exact (st_ge (by omega) hc4).symm))), rfl⟩
        ·
          try have hc3' : (!(nanB (leastG (l.take (j))))) = false := by simpa using hc3
          -- way LTTT
          refine o_guard (j := 9) (d := 22) (b := true) rfl rfl rfl (fun h => by cases h) rfl (fun _ => ?_)
          refine o_guard (j := 9) (d := 22) (b := true) rfl rfl rfl (fun h => by cases h) rfl (fun _ => ?_)
          refine o_guard (j := 9) (d := 22) (b := true) rfl rfl rfl (fun h => by cases h) rfl (fun _ => ?_)
          refine o_guard (j := 9) (d := 22) (b := true) rfl rfl rfl (fun h => by cases h) rfl (fun _ => ?_)
          refine o_guard (j := 9) (d := 22) (b := true) rfl rfl rfl (fun h => by cases h) rfl (fun _ => ?_)
          refine o_guard (j := 9) (d := 22) (b := true) rfl rfl rfl (fun h => by cases h) rfl (fun _ => ?_)
          refine o_guard (j := 9) (d := 22) (b := true) rfl rfl rfl (fun h => by cases h) rfl (fun _ => ?_)
          refine o_guard (j := 6) (d := 19) (b := true) rfl rfl rfl (fun _ => ?_) rfl (fun h => by cases h)
          refine o_y (v := .bool (true)) rfl rfl (y_pick (b := true) rfl rfl) ?_
          refine o_y (v := .bool (true)) rfl rfl (y_pick (b := true) rfl rfl) ?_
          refine o_nil ?_
          refine hK8 _ _ ?_
          refine c_cond (t := true) rfl (fun _ => ?_) (fun h => by cases h)
          refine c_region ?_
          refine o_y (v := .slice (a1) ((l).length) (cap1)) rfl rfl (y_move h1_0) ?_
          refine o_y (v := .int .i64 (((j : Nat) : Int))) rfl rfl (y_move h1_6) ?_
          refine o_y (v := .pointer (some ⟨b1, o1 + j * 1, none⟩)) rfl rfl (y_ixO j (hs.at_ (by omega)) rfl rfl Try.underlying30 s22 (by omega) (by first | omega | (simp; done) | (simp; omega))) ?_
          refine o_y (v := .float .f64 ((l)[j])) rfl rfl (y_load rfl Try.underlying22 rfl (SlG.rd (SlG.old hs (fun _ h => h)) j (by first | omega | (simp; done) | (simp; omega)))) ?_
          refine o_y (v := .float .f64 ((l)[j])) rfl rfl (y_assign rfl) ?_
          refine o_y (v := .bool (true)) rfl rfl (y_assign rfl) ?_
          refine o_nil ?_
          refine hK7 _ _ ?_
          refine c_region ?_
          refine o_y (v := .int .i64 (((j : Nat) : Int))) rfl rfl (y_move h1_6) ?_
          refine o_y (v := .int .i64 ((((j : Nat) : Int)) + 1)) rfl rfl (y_add rfl rfl (wi_i64 (by omega) (by omega))) ?_
          refine o_y (v := .int .i64 ((((j : Nat) : Int)) + 1)) rfl rfl (y_assign rfl) ?_
          refine o_nil ?_
          refine ⟨_, by omega, j + 1, rfl, by omega, h1_0, (ie (a := (((j : Nat) : Int)) + 1) (b := ((j + 1 : Nat) : Int)) (by omega)), (congrArg (Value.float .f64) (by rw [st_new (by omega) hc2' (by simpa using hc3), lst_num hc2'])), (congrArg Value.bool (by rw [st_new (by omega) hc2' (by simpa using hc3), hc2']; rfl)), rfl⟩
    ·
      replace hc1 := of_decide_eq_false hc1
      -- way LF
      refine c_exit ?_
      refine hK3 _ _ ?_
      refine c_seq fun K9 hK9 => ?_
      refine c_region ?_
      refine o_y (v := .float .f64 (lstW (leastG (l.take (j))))) rfl rfl (y_move h1_4) ?_
      refine o_y (v := .bool (!(nanB (leastG (l.take (j)))))) rfl rfl (y_move h1_5) ?_
      refine o_y (v := .float .f64 (lstW (leastG (l.take (j))))) rfl rfl (y_assign rfl) ?_
      refine o_y (v := .bool (!(nanB (leastG (l.take (j)))))) rfl rfl (y_assign rfl) ?_
      refine o_nil ?_
      refine hK9 _ _ ?_
      refine c_ret ?_
      refine fun w hw => ⟨[.float .f64 (lstW (leastG (l.take (j)))), .bool (!(nanB (leastG (l.take (j)))))], ⟨rfl, rfl, trivial⟩, ?_⟩
      obtain rfl : j = l.length := by omega
      rw [List.take_length]
      first | done | rfl

set_option maxRecDepth 100000 in
set_option maxHeartbeats 4000000 in
theorem f9_Share (a b : Nat) (w : World)  :
    Calls Try.prog 9 [.float .f64 (a), .float .f64 (b)].toArray w fun e w' => ∃ v H', e = .returned v ∧ St w (fun _ => False) H' w' ∧ (fun v H => ∃ r, v = .float .f64 r ∧ FR (F.div a b) r) v H' := by
  refine (calls_of (P := Try.prog) (n := 8) (w0 := w) (S := fun _ => False) (H := []) (T := fun v H => ∃ H', H'.Sublist H ∧ (fun v H => ∃ r, v = .float .f64 r ∧ FR (F.div a b) r) v H') Try.func9 rfl Try.ntmps9 (Nat.le_of_ble_eq_true rfl) [.tmp 4] rfl (St.nil w _) ?_).mono fun e w' ⟨v, H', he, hs, H2, hsub, hT⟩ => ⟨v, H2, he, hs.drop hsub, hT⟩
  refine c_seq fun K1 hK1 => ?_
  refine c_region ?_
  refine o_y (v := .float .f64 (0)) rfl rfl (y_assign rfl) ?_
  refine o_nil ?_
  refine hK1 _ _ ?_
  refine c_seq fun K2 hK2 => ?_
  refine c_region ?_
  refine o_y (v := .float .f64 (a)) rfl rfl (y_move rfl) ?_
  refine o_y (v := .float .f64 (b)) rfl rfl (y_move rfl) ?_
  refine o_float (F.div (a) (b)) rfl rfl rfl rfl (by simp) fun r7 hfr7 => ?_
  refine o_y (v := .float .f64 (r7)) rfl rfl (y_assign rfl) ?_
  refine o_nil ?_
  refine hK2 _ _ ?_
  refine c_ret ?_
  refine fun w hw => ⟨[.float .f64 (r7)], ⟨rfl, trivial⟩, ?_⟩
  exact ⟨_, List.nil_sublist _, _, rfl, hfr7⟩
  first | done | rfl

set_option maxRecDepth 100000 in
set_option maxHeartbeats 4000000 in
theorem f19_Smooth (old now wt : Nat) (w : World) (h1 : old < 18446744073709551616) (h2 : now < 18446744073709551616) (h3 : wt < 18446744073709551616) :
    Calls Try.prog 19 [.float .f64 (old), .float .f64 (now), .float .f64 (wt)].toArray w fun e w' => ∃ v H', e = .returned v ∧ St w (fun _ => False) H' w' ∧ (fun v H => ∃ r, v = .tuple #[.float .f64 r, .int .i64 (smoothE wt)] ∧ FR (smoothC old now wt) r) v H' := by
  refine (calls_of (P := Try.prog) (n := 36) (w0 := w) (S := fun _ => False) (H := []) (T := fun v H => ∃ H', H'.Sublist H ∧ (fun v H => ∃ r, v = .tuple #[.float .f64 r, .int .i64 (smoothE wt)] ∧ FR (smoothC old now wt) r) v H') Try.func19 rfl Try.ntmps19 (Nat.le_of_ble_eq_true rfl) [.tmp 6, .tmp 7] rfl (St.nil w _) ?_).mono fun e w' ⟨v, H', he, hs, H2, hsub, hT⟩ => ⟨v, H2, he, hs.drop hsub, hT⟩
  refine c_seq fun K1 hK1 => ?_
  refine c_region ?_
  refine o_y (v := .float .f64 (0)) rfl rfl (y_assign rfl) ?_
  refine o_y (v := .int .i64 (0)) rfl rfl (y_assign rfl) ?_
  refine o_nil ?_
  refine hK1 _ _ ?_
  refine c_seq fun K2 hK2 => ?_
  refine c_block ?_
  refine c_seq fun K3 hK3 => ?_
  refine c_region ?_
  refine o_y (v := .float .f64 (wt)) rfl rfl (y_move rfl) ?_
  refine o_y (v := .bool (nanB (wt))) rfl rfl (y_call (vs := [.float .f64 (wt)]) b29 rfl (fun w hw => f29_none _ w)) ?_
  refine o_y (v := .bool (nanB (wt))) rfl rfl (y_move rfl) ?_
  cases hc1 : (nanB (wt) : Bool)
  ·
    -- way F
    refine o_guard (j := 2) (d := 12) (b := false) rfl rfl rfl (fun _ => ?_) rfl (fun h => by cases h)
    refine o_y (v := .float .f64 (wt)) rfl rfl (y_move rfl) ?_
    refine o_guard (j := 2) (d := 12) (b := false) rfl rfl rfl (fun _ => ?_) rfl (fun h => by cases h)
    refine o_y (v := .bool (ltF (wt) (0))) rfl rfl (y_flt rfl rfl) ?_
    refine o_y (v := .bool (ltF (wt) (0))) rfl rfl (y_pick (b := false) rfl rfl) ?_
    refine o_y (v := .bool (ltF (wt) (0))) rfl rfl (y_move rfl) ?_
    cases hc2 : (ltF (wt) (0) : Bool)
    ·
      -- way FF
      refine o_guard (j := 6) (d := 16) (b := false) rfl rfl rfl (fun _ => ?_) rfl (fun h => by cases h)
      refine o_y (v := .float .f64 (wt)) rfl rfl (y_move rfl) ?_
      refine o_guard (j := 6) (d := 16) (b := false) rfl rfl rfl (fun _ => ?_) rfl (fun h => by cases h)
      refine o_y (v := .bool (gtF (wt) (4607182418800017408))) rfl rfl (y_fgt rfl rfl) ?_
      refine o_y (v := .bool (gtF (wt) (4607182418800017408))) rfl rfl (y_pick (b := false) rfl rfl) ?_
      refine o_y (v := .bool (gtF (wt) (4607182418800017408))) rfl rfl (y_assign rfl) ?_
      refine o_nil ?_
      refine hK3 _ _ ?_
      refine c_cond (t := gtF (wt) (4607182418800017408)) rfl (fun hc3 => ?_) (fun hc3 => ?_)
      ·
        -- way FFT
        refine c_seq fun K4 hK4 => ?_
        refine c_region ?_
        refine o_y (v := .float .f64 (0)) rfl rfl (y_assign rfl) ?_
        refine o_y (v := .int .i64 (2)) rfl rfl (y_assign rfl) ?_
        refine o_nil ?_
        refine hK4 _ _ ?_
        refine c_ret ?_
        refine fun w hw => ⟨[.float .f64 (0), .int .i64 (2)], ⟨rfl, rfl, trivial⟩, ?_⟩
        have hb : badW wt = true := by simp [badW, oneW, hc1, hc2, hc3]
        exact ⟨_, List.nil_sublist _, 0, by rw [smoothE_bad hb]; rfl, by rw [smooth_bad hb]; exact ⟨by decide, by decide⟩⟩
        first | done | rfl
      ·
        -- way FFF
        refine c_seq fun K5 hK5 => ?_
        refine c_region ?_
        refine o_y (v := .float .f64 (old)) rfl rfl (y_move rfl) ?_
        refine o_y (v := .bool (nanB (old))) rfl rfl (y_call (vs := [.float .f64 (old)]) b29 rfl (fun w hw => f29_none _ w)) ?_
        refine o_y (v := .bool (nanB (old))) rfl rfl (y_assign rfl) ?_
        refine o_nil ?_
        refine hK5 _ _ ?_
        refine c_cond (t := nanB (old)) rfl (fun hc4 => ?_) (fun hc4 => ?_)
        ·
          -- way FFFT
          refine c_seq fun K6 hK6 => ?_
          refine c_region ?_
          refine o_y (v := .float .f64 (now)) rfl rfl (y_move rfl) ?_
          refine o_y (v := .float .f64 (now)) rfl rfl (y_assign rfl) ?_
          refine o_y (v := .int .i64 (0)) rfl rfl (y_assign rfl) ?_
          refine o_nil ?_
          refine hK6 _ _ ?_
          refine c_ret ?_
          refine fun w hw => ⟨[.float .f64 (now), .int .i64 (0)], ⟨rfl, rfl, trivial⟩, ?_⟩
          have hb : badW wt = false := by simp [badW, oneW, hc1, hc2, hc3, hc4]
          exact ⟨_, List.nil_sublist _, now, by rw [smoothE_ok hb]; rfl, by rw [smooth_old hb hc4]; exact FR.self h2⟩
          first | done | rfl
        ·
          -- way FFFF
          refine c_seq fun K7 hK7 => ?_
          refine c_region ?_
          refine o_y (v := .float .f64 (now)) rfl rfl (y_move rfl) ?_
          refine o_y (v := .bool (nanB (now))) rfl rfl (y_call (vs := [.float .f64 (now)]) b29 rfl (fun w hw => f29_none _ w)) ?_
          refine o_y (v := .bool (nanB (now))) rfl rfl (y_assign rfl) ?_
          refine o_nil ?_
          refine hK7 _ _ ?_
          refine c_cond (t := nanB (now)) rfl (fun hc5 => ?_) (fun hc5 => ?_)
          ·
            -- way FFFFT
            refine c_seq fun K8 hK8 => ?_
            refine c_region ?_
            refine o_y (v := .float .f64 (old)) rfl rfl (y_move rfl) ?_
            refine o_y (v := .float .f64 (old)) rfl rfl (y_assign rfl) ?_
            refine o_y (v := .int .i64 (0)) rfl rfl (y_assign rfl) ?_
            refine o_nil ?_
            refine hK8 _ _ ?_
            refine c_ret ?_
            refine fun w hw => ⟨[.float .f64 (old), .int .i64 (0)], ⟨rfl, rfl, trivial⟩, ?_⟩
            have hb : badW wt = false := by simp [badW, oneW, hc1, hc2, hc3, hc4, hc5]
            exact ⟨_, List.nil_sublist _, old, by rw [smoothE_ok hb]; rfl, by rw [smooth_now hb hc4 hc5]; exact FR.self h1⟩
            first | done | rfl
          ·
            -- way FFFFF
            refine c_skip ?_
            refine hK2 _ _ ?_
            refine c_seq fun K9 hK9 => ?_
            refine c_region ?_
            refine o_y (v := .float .f64 (now)) rfl rfl (y_move rfl) ?_
            refine o_y (v := .float .f64 (old)) rfl rfl (y_move rfl) ?_
            refine o_float (F.sub (now) (old)) rfl rfl rfl rfl (by simp) fun r30 hfr30 => ?_
            refine o_y (v := .float .f64 (wt)) rfl rfl (y_move rfl) ?_
            refine o_float (F.mul (r30) (wt)) rfl rfl rfl rfl (by simp) fun r32 hfr32 => ?_
            refine o_y (v := .float .f64 (r32)) rfl rfl (y_assign rfl) ?_
            refine o_nil ?_
            refine hK9 _ _ ?_
            refine c_seq fun K10 hK10 => ?_
            refine c_region ?_
            refine o_y (v := .float .f64 (old)) rfl rfl (y_move rfl) ?_
            refine o_y (v := .float .f64 (r32)) rfl rfl (y_move rfl) ?_
            refine o_float (F.add (old) (r32)) rfl rfl rfl rfl (by simp) fun r35 hfr35 => ?_
            refine o_y (v := .float .f64 (r35)) rfl rfl (y_assign rfl) ?_
            refine o_y (v := .int .i64 (0)) rfl rfl (y_assign rfl) ?_
            refine o_nil ?_
            refine hK10 _ _ ?_
            refine c_ret ?_
            refine fun w hw => ⟨[.float .f64 (r35), .int .i64 (0)], ⟨rfl, rfl, trivial⟩, ?_⟩
            have hb : badW wt = false := by simp [badW, oneW, hc1, hc2, hc3, hc4, hc5]
            exact ⟨_, List.nil_sublist _, _, by rw [smoothE_ok hb]; rfl, smooth_of hb hc4 hc5 hfr30 hfr32 hfr35⟩
            first | done | rfl
    ·
      -- way FT
      refine o_guard (j := 6) (d := 16) (b := true) rfl rfl rfl (fun h => by cases h) rfl (fun _ => ?_)
      refine o_guard (j := 6) (d := 16) (b := true) rfl rfl rfl (fun h => by cases h) rfl (fun _ => ?_)
      refine o_y (v := .bool (true)) rfl rfl (y_pick (b := true) rfl rfl) ?_
      refine o_y (v := .bool (true)) rfl rfl (y_assign rfl) ?_
      refine o_nil ?_
      refine hK3 _ _ ?_
      refine c_cond (t := true) rfl (fun _ => ?_) (fun h => by cases h)
      refine c_seq fun K11 hK11 => ?_
      refine c_region ?_
      refine o_y (v := .float .f64 (0)) rfl rfl (y_assign rfl) ?_
      refine o_y (v := .int .i64 (2)) rfl rfl (y_assign rfl) ?_
      refine o_nil ?_
      refine hK11 _ _ ?_
      refine c_ret ?_
      refine fun w hw => ⟨[.float .f64 (0), .int .i64 (2)], ⟨rfl, rfl, trivial⟩, ?_⟩
      have hb : badW wt = true := by simp [badW, oneW, hc1, hc2]
      exact ⟨_, List.nil_sublist _, 0, by rw [smoothE_bad hb]; rfl, by rw [smooth_bad hb]; exact ⟨by decide, by decide⟩⟩
      first | done | rfl
  ·
    -- way T
    refine o_guard (j := 2) (d := 12) (b := true) rfl rfl rfl (fun h => by cases h) rfl (fun _ => ?_)
    refine o_guard (j := 2) (d := 12) (b := true) rfl rfl rfl (fun h => by cases h) rfl (fun _ => ?_)
    refine o_y (v := .bool (true)) rfl rfl (y_pick (b := true) rfl rfl) ?_
    refine o_y (v := .bool (true)) rfl rfl (y_move rfl) ?_
    refine o_guard (j := 6) (d := 16) (b := true) rfl rfl rfl (fun h => by cases h) rfl (fun _ => ?_)
    refine o_guard (j := 6) (d := 16) (b := true) rfl rfl rfl (fun h => by cases h) rfl (fun _ => ?_)
    refine o_y (v := .bool (true)) rfl rfl (y_pick (b := true) rfl rfl) ?_
    refine o_y (v := .bool (true)) rfl rfl (y_assign rfl) ?_
    refine o_nil ?_
    refine hK3 _ _ ?_
    refine c_cond (t := true) rfl (fun _ => ?_) (fun h => by cases h)
    refine c_seq fun K12 hK12 => ?_
    refine c_region ?_
    refine o_y (v := .float .f64 (0)) rfl rfl (y_assign rfl) ?_
    refine o_y (v := .int .i64 (2)) rfl rfl (y_assign rfl) ?_
    refine o_nil ?_
    refine hK12 _ _ ?_
    refine c_ret ?_
    refine fun w hw => ⟨[.float .f64 (0), .int .i64 (2)], ⟨rfl, rfl, trivial⟩, ?_⟩
    have hb : badW wt = true := by simp [badW, oneW, hc1]
    exact ⟨_, List.nil_sublist _, 0, by rw [smoothE_bad hb]; rfl, by rw [smooth_bad hb]; exact ⟨by decide, by decide⟩⟩
    first | done | rfl

set_option maxRecDepth 100000 in
set_option maxHeartbeats 4000000 in
theorem f20_Smooth (old now wt : Nat) (w : World) (h1 : old < 18446744073709551616) (h2 : now < 18446744073709551616) (h3 : wt < 18446744073709551616) :
    Calls Try.prog 20 [.float .f64 (old), .float .f64 (now), .float .f64 (wt)].toArray w fun e w' => ∃ v H', e = .returned v ∧ St w (fun _ => False) H' w' ∧ (fun v H => ∃ r, v = .tuple #[.float .f64 r, .int .i64 (smoothE wt)] ∧ FR (smoothC old now wt) r) v H' := by
  refine (calls_of (P := Try.prog) (n := 32) (w0 := w) (S := fun _ => False) (H := []) (T := fun v H => ∃ H', H'.Sublist H ∧ (fun v H => ∃ r, v = .tuple #[.float .f64 r, .int .i64 (smoothE wt)] ∧ FR (smoothC old now wt) r) v H') Try.func20 rfl Try.ntmps20 (Nat.le_of_ble_eq_true rfl) [.tmp 6, .tmp 7] rfl (St.nil w _) ?_).mono fun e w' ⟨v, H', he, hs, H2, hsub, hT⟩ => ⟨v, H2, he, hs.drop hsub, hT⟩
  refine c_seq fun K1 hK1 => ?_
  refine c_region ?_
  refine o_y (v := .float .f64 (0)) rfl rfl (y_assign rfl) ?_
  refine o_y (v := .int .i64 (0)) rfl rfl (y_assign rfl) ?_
  refine o_nil ?_
  refine hK1 _ _ ?_
  refine c_seq fun K2 hK2 => ?_
  refine c_seq fun K3 hK3 => ?_
  refine c_region ?_
  refine o_y (v := .float .f64 (wt)) rfl rfl (y_move rfl) ?_
  refine o_y (v := .bool (geF (wt) (0))) rfl rfl (y_fge rfl rfl) ?_
  refine o_y (v := .bool (geF (wt) (0))) rfl rfl (y_move rfl) ?_
  cases hc1 : (geF (wt) (0) : Bool)
  ·
    -- way F
    refine o_guard (j := 2) (d := 12) (b := false) rfl rfl rfl (fun h => by cases h) rfl (fun _ => ?_)
    refine o_guard (j := 2) (d := 12) (b := false) rfl rfl rfl (fun h => by cases h) rfl (fun _ => ?_)
    refine o_y (v := .bool (false)) rfl rfl (y_pick (b := false) rfl rfl) ?_
    refine o_y (v := .bool (true)) rfl rfl (y_not rfl rfl) ?_
    refine o_nil ?_
    refine hK3 _ _ ?_
    refine c_cond (t := true) rfl (fun _ => ?_) (fun h => by cases h)
    refine c_seq fun K4 hK4 => ?_
    refine c_region ?_
    refine o_y (v := .float .f64 (0)) rfl rfl (y_assign rfl) ?_
    refine o_y (v := .int .i64 (2)) rfl rfl (y_assign rfl) ?_
    refine o_nil ?_
    refine hK4 _ _ ?_
    refine c_ret ?_
    refine fun w hw => ⟨[.float .f64 (0), .int .i64 (2)], ⟨rfl, rfl, trivial⟩, ?_⟩
    have hb : badW wt = true := by rw [bad_is]; simp [oneW, hc1]
    exact ⟨_, List.nil_sublist _, 0, by rw [smoothE_bad hb]; rfl, by rw [smooth_bad hb]; exact ⟨by decide, by decide⟩⟩
    first | done | rfl
  ·
    -- way T
    refine o_guard (j := 2) (d := 12) (b := true) rfl rfl rfl (fun _ => ?_) rfl (fun h => by cases h)
    refine o_y (v := .float .f64 (wt)) rfl rfl (y_move rfl) ?_
    refine o_guard (j := 2) (d := 12) (b := true) rfl rfl rfl (fun _ => ?_) rfl (fun h => by cases h)
    refine o_y (v := .bool (leF (wt) (4607182418800017408))) rfl rfl (y_fle rfl rfl) ?_
    refine o_y (v := .bool (leF (wt) (4607182418800017408))) rfl rfl (y_pick (b := true) rfl rfl) ?_
    refine o_y (v := .bool (!(leF (wt) (4607182418800017408)))) rfl rfl (y_not rfl rfl) ?_
    refine o_nil ?_
    refine hK3 _ _ ?_
    refine c_cond (t := !(leF (wt) (4607182418800017408))) rfl (fun hc2 => ?_) (fun hc2 => ?_)
    ·
      try have hc2' : (leF (wt) (4607182418800017408)) = false := by simpa using hc2
      -- way TT
      refine c_seq fun K5 hK5 => ?_
      refine c_region ?_
      refine o_y (v := .float .f64 (0)) rfl rfl (y_assign rfl) ?_
      refine o_y (v := .int .i64 (2)) rfl rfl (y_assign rfl) ?_
      refine o_nil ?_
      refine hK5 _ _ ?_
      refine c_ret ?_
      refine fun w hw => ⟨[.float .f64 (0), .int .i64 (2)], ⟨rfl, rfl, trivial⟩, ?_⟩
      have hb : badW wt = true := by rw [bad_is]; simp [oneW, hc1, hc2]
      exact ⟨_, List.nil_sublist _, 0, by rw [smoothE_bad hb]; rfl, by rw [smooth_bad hb]; exact ⟨by decide, by decide⟩⟩
      first | done | rfl
    ·
      try have hc2' : (leF (wt) (4607182418800017408)) = true := by simpa using hc2
      -- way TF
      refine c_skip ?_
      refine hK2 _ _ ?_
      refine c_seq fun K6 hK6 => ?_
      refine c_seq fun K7 hK7 => ?_
      refine c_region ?_
      refine o_y (v := .float .f64 (old)) rfl rfl (y_move rfl) ?_
      refine o_y (v := .bool (nanB (old))) rfl rfl (y_call (vs := [.float .f64 (old)]) b11 rfl (fun w hw => f11_none _ w)) ?_
      refine o_nil ?_
      refine hK7 _ _ ?_
      refine c_cond (t := nanB (old)) rfl (fun hc3 => ?_) (fun hc3 => ?_)
      ·
        -- way TFT
        refine c_seq fun K8 hK8 => ?_
        refine c_region ?_
        refine o_y (v := .float .f64 (now)) rfl rfl (y_move rfl) ?_
        refine o_y (v := .float .f64 (now)) rfl rfl (y_assign rfl) ?_
        refine o_y (v := .int .i64 (0)) rfl rfl (y_assign rfl) ?_
        refine o_nil ?_
        refine hK8 _ _ ?_
        refine c_ret ?_
        refine fun w hw => ⟨[.float .f64 (now), .int .i64 (0)], ⟨rfl, rfl, trivial⟩, ?_⟩
        have hb : badW wt = false := by rw [bad_is]; simp [oneW, hc1, hc2, hc3]
        exact ⟨_, List.nil_sublist _, now, by rw [smoothE_ok hb]; rfl, by rw [smooth_old hb hc3]; exact FR.self h2⟩
        first | done | rfl
      ·
        -- way TFF
        refine c_skip ?_
        refine hK6 _ _ ?_
        refine c_seq fun K9 hK9 => ?_
        refine c_seq fun K10 hK10 => ?_
        refine c_region ?_
        refine o_y (v := .float .f64 (now)) rfl rfl (y_move rfl) ?_
        refine o_y (v := .bool (nanB (now))) rfl rfl (y_call (vs := [.float .f64 (now)]) b11 rfl (fun w hw => f11_none _ w)) ?_
        refine o_nil ?_
        refine hK10 _ _ ?_
        refine c_cond (t := nanB (now)) rfl (fun hc4 => ?_) (fun hc4 => ?_)
        ·
          -- way TFFT
          refine c_seq fun K11 hK11 => ?_
          refine c_region ?_
          refine o_y (v := .float .f64 (old)) rfl rfl (y_move rfl) ?_
          refine o_y (v := .float .f64 (old)) rfl rfl (y_assign rfl) ?_
          refine o_y (v := .int .i64 (0)) rfl rfl (y_assign rfl) ?_
          refine o_nil ?_
          refine hK11 _ _ ?_
          refine c_ret ?_
          refine fun w hw => ⟨[.float .f64 (old), .int .i64 (0)], ⟨rfl, rfl, trivial⟩, ?_⟩
          have hb : badW wt = false := by rw [bad_is]; simp [oneW, hc1, hc2, hc3, hc4]
          exact ⟨_, List.nil_sublist _, old, by rw [smoothE_ok hb]; rfl, by rw [smooth_now hb hc3 hc4]; exact FR.self h1⟩
          first | done | rfl
        ·
          -- way TFFF
          refine c_skip ?_
          refine hK9 _ _ ?_
          refine c_seq fun K12 hK12 => ?_
          refine c_region ?_
          refine o_y (v := .float .f64 (now)) rfl rfl (y_move rfl) ?_
          refine o_y (v := .float .f64 (old)) rfl rfl (y_move rfl) ?_
          refine o_float (F.sub (now) (old)) rfl rfl rfl rfl (by simp) fun r25 hfr25 => ?_
          refine o_y (v := .float .f64 (r25)) rfl rfl (y_assign rfl) ?_
          refine o_nil ?_
          refine hK12 _ _ ?_
          refine c_seq fun K13 hK13 => ?_
          refine c_region ?_
          refine o_y (v := .float .f64 (r25)) rfl rfl (y_move rfl) ?_
          refine o_y (v := .float .f64 (wt)) rfl rfl (y_move rfl) ?_
          refine o_float (F.mul (r25) (wt)) rfl rfl rfl rfl (by simp) fun r28 hfr28 => ?_
          refine o_y (v := .float .f64 (r28)) rfl rfl (y_assign rfl) ?_
          refine o_nil ?_
          refine hK13 _ _ ?_
          refine c_seq fun K14 hK14 => ?_
          refine c_region ?_
          refine o_y (v := .float .f64 (old)) rfl rfl (y_move rfl) ?_
          refine o_y (v := .float .f64 (r28)) rfl rfl (y_move rfl) ?_
          refine o_float (F.add (old) (r28)) rfl rfl rfl rfl (by simp) fun r31 hfr31 => ?_
          refine o_y (v := .float .f64 (r31)) rfl rfl (y_assign rfl) ?_
          refine o_y (v := .int .i64 (0)) rfl rfl (y_assign rfl) ?_
          refine o_nil ?_
          refine hK14 _ _ ?_
          refine c_ret ?_
          refine fun w hw => ⟨[.float .f64 (r31), .int .i64 (0)], ⟨rfl, rfl, trivial⟩, ?_⟩
          have hb : badW wt = false := by rw [bad_is]; simp [oneW, hc1, hc2, hc3, hc4]
          exact ⟨_, List.nil_sublist _, _, by rw [smoothE_ok hb]; rfl, smooth_of hb hc3 hc4 hfr25 hfr28 hfr31⟩
          first | done | rfl

set_option maxRecDepth 100000 in
set_option maxHeartbeats 4000000 in
theorem f21_Mean (l : List Nat) (a1 : Option Addr) (b1 o1 cap1 m1 : Nat) (w : World) (hm1 : m1 = l.length) (hs : Sl eFl w l a1 b1 o1 cap1) (hB : ∀ x ∈ l, x < 18446744073709551616) :
    Calls Try.prog 21 [.slice (a1) (m1) (cap1)].toArray w fun e w' => ∃ v H', e = .returned v ∧ St w (fun _ => False) H' w' ∧ (fun v H => ∃ r, v = .float .f64 r ∧ FR (meanC l) r) v H' := by
  subst hm1
  have hle := hs.le
  have hmx := hs.mx
  simp only [maxLen] at hmx
  refine (calls_of (P := Try.prog) (n := 25) (w0 := w) (S := fun _ => False) (H := []) (T := fun v H => ∃ H', H'.Sublist H ∧ (fun v H => ∃ r, v = .float .f64 r ∧ FR (meanC l) r) v H') Try.func21 rfl Try.ntmps21 (Nat.le_of_ble_eq_true rfl) [.tmp 2] rfl (St.nil w _) ?_).mono fun e w' ⟨v, H', he, hs, H2, hsub, hT⟩ => ⟨v, H2, he, hs.drop hsub, hT⟩
  refine c_seq fun K1 hK1 => ?_
  refine c_region ?_
  refine o_y (v := .float .f64 (0)) rfl rfl (y_assign rfl) ?_
  refine o_nil ?_
  refine hK1 _ _ ?_
  refine c_seq fun K2 hK2 => ?_
  refine c_region ?_
  refine o_y (v := .float .f64 (0)) rfl rfl (y_assign rfl) ?_
  refine o_nil ?_
  refine hK2 _ _ ?_
  refine c_seq fun K3 hK3 => ?_
  refine c_seq fun K4 hK4 => ?_
  refine c_region ?_
  refine o_y (v := .slice (a1) ((l).length) (cap1)) rfl rfl (y_move rfl) ?_
  refine o_y (v := .int .i64 ((((l).length : Nat) : Int))) rfl rfl (y_len rfl Try.underlying30) ?_
  refine o_y (v := .int .i64 (0)) rfl rfl (y_move rfl) ?_
  refine o_nil ?_
  refine hK4 _ _ ?_
  refine c_block ?_
  refine c_loop (fun d R H => ∃ (j : Nat) (q : Nat), d = l.length - (j) ∧ (j ≤ l.length) ∧ (q < 18446744073709551616) ∧ (j = 0 ∨ cls (q) = sumC (l.take (j))) ∧ (j = 0 → q = 0) ∧ R 0 = .slice (a1) ((l).length) (cap1) ∧ R 6 = .slice (a1) ((l).length) (cap1) ∧ R 7 = .int .i64 (((l.length : Nat) : Int)) ∧ R 8 = .int .i64 (((j : Nat) : Int)) ∧ R 3 = .float .f64 (q) ∧ H = ([] : Hp)) (l.length - (0)) ?_ ?_
  ·
    refine ⟨0, 0, rfl, by omega, by omega, .inl rfl, fun _ => rfl, rfl, rfl, (ie (a := (((l).length : Nat) : Int)) (b := ((l.length : Nat) : Int)) (by omega)), (ie (a := 0) (b := ((0 : Nat) : Int)) (by omega)), rfl, rfl⟩
  ·
    rintro d1 R1 _ ⟨j, q, hd1, hv1_0, hv1_1, hv1_2, hv1_3, h1_0, h1_6, h1_7, h1_8, h1_3, rfl⟩
    refine c_seq fun K5 hK5 => ?_
    refine c_region ?_
    refine o_y (v := .bool (decide (((j : Nat) : Int) < ((l.length : Nat) : Int)))) rfl rfl (y_lss h1_8 h1_7 rfl) ?_
    refine o_nil ?_
    refine hK5 _ _ ?_
    refine c_seq fun K6 hK6 => ?_
    refine c_cond (t := decide (((j : Nat) : Int) < ((l.length : Nat) : Int))) rfl (fun hc1 => ?_) (fun hc1 => ?_)
    ·
      replace hc1 := of_decide_eq_true hc1
      -- way LT
      refine c_skip ?_
      refine hK6 _ _ ?_
      refine c_seq fun K7 hK7 => ?_
      refine c_block ?_
      refine c_seq fun K8 hK8 => ?_
      refine c_region ?_
      refine o_y (v := .int .i64 (((j : Nat) : Int))) rfl rfl (y_move h1_8) ?_
      refine o_y (v := .pointer (some ⟨b1, o1 + j * 1, none⟩)) rfl rfl (y_ixO j (hs.at_ (by omega)) h1_6 h1_8 Try.underlying30 s22 (by omega) (by first | omega | (simp; done) | (simp; omega))) ?_
      refine o_y (v := .float .f64 ((l)[j])) rfl rfl (y_load rfl Try.underlying22 rfl (SlG.rd (SlG.old hs (fun _ h => h)) j (by first | omega | (simp; done) | (simp; omega)))) ?_
      refine o_y (v := .int .i64 (((j : Nat) : Int))) rfl rfl (y_assign rfl) ?_
      refine o_y (v := .float .f64 ((l)[j])) rfl rfl (y_assign rfl) ?_
      refine o_nil ?_
      refine hK8 _ _ ?_
      refine c_seq fun K9 hK9 => ?_
      refine c_region ?_
      refine o_y (v := .int .i64 (((j : Nat) : Int))) rfl rfl (y_move rfl) ?_
      refine o_y (v := .bool (decide (((j : Nat) : Int) = 0))) rfl rfl (y_eql rfl rfl rfl) ?_
      refine o_nil ?_
      refine hK9 _ _ ?_
      refine c_cond (t := decide (((j : Nat) : Int) = 0)) rfl (fun hc2 => ?_) (fun hc2 => ?_)
      ·
        replace hc2 := of_decide_eq_true hc2
        -- way LTT
        refine c_region ?_
        refine o_y (v := .float .f64 ((l)[j])) rfl rfl (y_move rfl) ?_
        refine o_y (v := .float .f64 ((l)[j])) rfl rfl (y_assign rfl) ?_
        refine o_nil ?_
        refine hK7 _ _ ?_
        refine c_region ?_
        refine o_y (v := .int .i64 ((((j : Nat) : Int)) + 1)) rfl rfl (y_add h1_8 rfl (wi_i64 (by omega) (by omega))) ?_
        refine o_y (v := .int .i64 ((((j : Nat) : Int)) + 1)) rfl rfl (y_move rfl) ?_
        refine o_nil ?_
        refine ⟨_, by omega, j + 1, l[j], rfl, by omega, hB _ (List.getElem_mem _), .inr (by have h0 : j = 0 := (by omega); subst h0; exact (sum_one (by omega)).symm), fun h => by omega, h1_0, h1_6, h1_7, (ie (a := (((j : Nat) : Int)) + 1) (b := ((j + 1 : Nat) : Int)) (by omega)), rfl, rfl⟩
      ·
        replace hc2 := of_decide_eq_false hc2
        -- way LTF
        refine c_region ?_
        refine o_y (v := .float .f64 (q)) rfl rfl (y_move h1_3) ?_
        refine o_y (v := .float .f64 ((l)[j])) rfl rfl (y_move rfl) ?_
        refine o_float (F.add (q) ((l)[j])) rfl rfl rfl rfl (by simp) fun r18 hfr18 => ?_
        refine o_y (v := .float .f64 (r18)) rfl rfl (y_assign rfl) ?_
        refine o_nil ?_
        refine hK7 _ _ ?_
        refine c_region ?_
        refine o_y (v := .int .i64 ((((j : Nat) : Int)) + 1)) rfl rfl (y_add h1_8 rfl (wi_i64 (by omega) (by omega))) ?_
        refine o_y (v := .int .i64 ((((j : Nat) : Int)) + 1)) rfl rfl (y_move rfl) ?_
        refine o_nil ?_
        refine ⟨_, by omega, j + 1, r18, rfl, by omega, hfr18.2, .inr (sum_go (by omega) (by omega) ⟨hv1_2.resolve_left (by omega), hv1_1⟩ hfr18), fun h => by omega, h1_0, h1_6, h1_7, (ie (a := (((j : Nat) : Int)) + 1) (b := ((j + 1 : Nat) : Int)) (by omega)), rfl, rfl⟩
    ·
      replace hc1 := of_decide_eq_false hc1
      -- way LF
      refine c_exit ?_
      refine hK3 _ _ ?_
      refine c_seq fun K10 hK10 => ?_
      refine c_region ?_
      refine o_y (v := .float .f64 (q)) rfl rfl (y_move h1_3) ?_
      refine o_y (v := .slice (a1) ((l).length) (cap1)) rfl rfl (y_move h1_0) ?_
      refine o_y (v := .int .i64 ((((l).length : Nat) : Int))) rfl rfl (y_len rfl Try.underlying30) ?_
      refine o_y (v := .float .f64 (ofInt ((((l).length : Nat) : Int)))) rfl rfl (y_intf rfl (by rw [Try.underlying3]; rfl) Try.underlying22) ?_
      refine o_float (F.div (q) (ofInt ((((l).length : Nat) : Int)))) rfl rfl rfl rfl (by simp) fun r24 hfr24 => ?_
      refine o_y (v := .float .f64 (r24)) rfl rfl (y_assign rfl) ?_
      refine o_nil ?_
      refine hK10 _ _ ?_
      refine c_ret ?_
      refine fun w hw => ⟨[.float .f64 (r24)], ⟨rfl, trivial⟩, ?_⟩
      exact ⟨_, List.nil_sublist _, _, rfl, mean_of (by omega) hv1_2 hv1_3 hv1_1 hfr24⟩
      first | done | rfl

set_option maxRecDepth 100000 in
set_option maxHeartbeats 4000000 in
theorem f22_rMean (l : List Nat) (a1 : Option Addr) (b1 o1 cap1 m1 : Nat) (w : World) (hm1 : m1 = l.length) (hs : Sl eFl w l a1 b1 o1 cap1) (hB : ∀ x ∈ l, x < 18446744073709551616) :
    Calls Try.prog 22 [.slice (a1) (m1) (cap1)].toArray w fun e w' => ∃ v H', e = .returned v ∧ St w (fun _ => False) H' w' ∧ (fun v H => ∃ r, v = .float .f64 r ∧ FR (meanC l) r) v H' := by
  subst hm1
  have hle := hs.le
  have hmx := hs.mx
  simp only [maxLen] at hmx
  refine (calls_of (P := Try.prog) (n := 29) (w0 := w) (S := fun _ => False) (H := []) (T := fun v H => ∃ H', H'.Sublist H ∧ (fun v H => ∃ r, v = .float .f64 r ∧ FR (meanC l) r) v H') Try.func22 rfl Try.ntmps22 (Nat.le_of_ble_eq_true rfl) [.tmp 2] rfl (St.nil w _) ?_).mono fun e w' ⟨v, H', he, hs, H2, hsub, hT⟩ => ⟨v, H2, he, hs.drop hsub, hT⟩
  refine c_seq fun K1 hK1 => ?_
  refine c_region ?_
  refine o_y (v := .float .f64 (0)) rfl rfl (y_assign rfl) ?_
  refine o_nil ?_
  refine hK1 _ _ ?_
  refine c_seq fun K2 hK2 => ?_
  refine c_seq fun K3 hK3 => ?_
  refine c_region ?_
  refine o_y (v := .slice (a1) ((l).length) (cap1)) rfl rfl (y_move rfl) ?_
  refine o_y (v := .int .i64 ((((l).length : Nat) : Int))) rfl rfl (y_len rfl Try.underlying30) ?_
  refine o_y (v := .bool (decide ((((l).length : Nat) : Int) = 0))) rfl rfl (y_eql rfl rfl rfl) ?_
  refine o_nil ?_
  refine hK3 _ _ ?_
  refine c_cond (t := decide ((((l).length : Nat) : Int) = 0)) rfl (fun hc1 => ?_) (fun hc1 => ?_)
  ·
    replace hc1 := of_decide_eq_true hc1
    -- way T
    refine c_seq fun K4 hK4 => ?_
    refine c_region ?_
    refine o_y (v := .float .f64 (nanW)) rfl rfl (y_call (vs := []) b25 rfl (fun w hw => f25_NaN w)) ?_
    refine o_y (v := .float .f64 (nanW)) rfl rfl (y_assign rfl) ?_
    refine o_nil ?_
    refine hK4 _ _ ?_
    refine c_ret ?_
    refine fun w hw => ⟨[.float .f64 (nanW)], ⟨rfl, trivial⟩, ?_⟩
    exact ⟨_, List.nil_sublist _, _, rfl, mean_nil (by omega)⟩
    first | done | rfl
  ·
    replace hc1 := of_decide_eq_false hc1
    -- way F
    refine c_skip ?_
    refine hK2 _ _ ?_
    refine c_seq fun K5 hK5 => ?_
    refine c_region ?_
    refine o_y (v := .slice (a1) ((l).length) (cap1)) rfl rfl (y_move rfl) ?_
    refine o_y (v := .pointer (some ⟨b1, o1 + 0 * 1, none⟩)) rfl rfl (y_ixO 0 (hs.at_ (by omega)) rfl rfl Try.underlying30 s22 (by omega) (by first | omega | (simp; done) | (simp; omega))) ?_
    refine o_y (v := .float .f64 ((l)[0])) rfl rfl (y_load rfl Try.underlying22 rfl (SlG.rd (SlG.old hs (fun _ h => h)) 0 (by first | omega | (simp; done) | (simp; omega)))) ?_
    refine o_y (v := .float .f64 ((l)[0])) rfl rfl (y_assign rfl) ?_
    refine o_nil ?_
    refine hK5 _ _ ?_
    refine c_seq fun K6 hK6 => ?_
    refine c_seq fun K7 hK7 => ?_
    refine c_region ?_
    refine o_y (v := .int .i64 (1)) rfl rfl (y_assign rfl) ?_
    refine o_nil ?_
    refine hK7 _ _ ?_
    refine c_block ?_
    refine c_loop (fun d R H => ∃ (j : Nat) (q : Nat), d = l.length - (j) ∧ (1 ≤ j) ∧ (j ≤ l.length) ∧ (q < 18446744073709551616) ∧ (cls (q) = sumC (l.take (j))) ∧ R 0 = .slice (a1) ((l).length) (cap1) ∧ R 4 = .int .i64 (((j : Nat) : Int)) ∧ R 3 = .float .f64 (q) ∧ H = ([] : Hp)) (l.length - (1)) ?_ ?_
    ·
      refine ⟨1, (l[0]'(by omega)), rfl, by omega, by omega, hB _ (List.getElem_mem _), (sum_one (by omega)).symm, rfl, (ie (a := 1) (b := ((1 : Nat) : Int)) (by omega)), rfl, rfl⟩
    ·
      rintro d1 R1 _ ⟨j, q, hd1, hv1_0, hv1_1, hv1_2, hv1_3, h1_0, h1_4, h1_3, rfl⟩
      refine c_seq fun K8 hK8 => ?_
      refine c_seq fun K9 hK9 => ?_
      refine c_region ?_
      refine o_y (v := .int .i64 (((j : Nat) : Int))) rfl rfl (y_move h1_4) ?_
      refine o_y (v := .slice (a1) ((l).length) (cap1)) rfl rfl (y_move h1_0) ?_
      refine o_y (v := .int .i64 ((((l).length : Nat) : Int))) rfl rfl (y_len rfl Try.underlying30) ?_
      refine o_y (v := .bool (decide (((j : Nat) : Int) < (((l).length : Nat) : Int)))) rfl rfl (y_lss rfl rfl rfl) ?_
      refine o_nil ?_
      refine hK9 _ _ ?_
      refine c_cond (t := decide (((j : Nat) : Int) < (((l).length : Nat) : Int))) rfl (fun hc2 => ?_) (fun hc2 => ?_)
      ·
        replace hc2 := of_decide_eq_true hc2
        -- way FLT
        refine c_skip ?_
        refine hK8 _ _ ?_
        refine c_seq fun K10 hK10 => ?_
        refine c_block ?_
        refine c_region ?_
        refine o_y (v := .float .f64 (q)) rfl rfl (y_move h1_3) ?_
        refine o_y (v := .slice (a1) ((l).length) (cap1)) rfl rfl (y_move h1_0) ?_
        refine o_y (v := .int .i64 (((j : Nat) : Int))) rfl rfl (y_move h1_4) ?_
        refine o_y (v := .pointer (some ⟨b1, o1 + j * 1, none⟩)) rfl rfl (y_ixO j (hs.at_ (by omega)) rfl rfl Try.underlying30 s22 (by omega) (by first | omega | (simp; done) | (simp; omega))) ?_
        refine o_y (v := .float .f64 ((l)[j])) rfl rfl (y_load rfl Try.underlying22 rfl (SlG.rd (SlG.old hs (fun _ h => h)) j (by first | omega | (simp; done) | (simp; omega)))) ?_
        refine o_float (F.add (q) ((l)[j])) rfl rfl rfl rfl (by simp) fun r23 hfr23 => ?_
        refine o_y (v := .float .f64 (r23)) rfl rfl (y_assign rfl) ?_
        refine o_nil ?_
        refine hK10 _ _ ?_
        refine c_region ?_
        refine o_y (v := .int .i64 (((j : Nat) : Int))) rfl rfl (y_move h1_4) ?_
        refine o_y (v := .int .i64 ((((j : Nat) : Int)) + 1)) rfl rfl (y_add rfl rfl (wi_i64 (by omega) (by omega))) ?_
        refine o_y (v := .int .i64 ((((j : Nat) : Int)) + 1)) rfl rfl (y_assign rfl) ?_
        refine o_nil ?_
        refine ⟨_, by omega, j + 1, r23, rfl, by omega, by omega, hfr23.2, sum_go (by omega) (by omega) ⟨hv1_3, hv1_2⟩ hfr23, h1_0, (ie (a := (((j : Nat) : Int)) + 1) (b := ((j + 1 : Nat) : Int)) (by omega)), rfl, rfl⟩
      ·
        replace hc2 := of_decide_eq_false hc2
        -- way FLF
        refine c_exit ?_
        refine hK6 _ _ ?_
        refine c_seq fun K11 hK11 => ?_
        refine c_region ?_
        refine o_y (v := .float .f64 (q)) rfl rfl (y_move h1_3) ?_
        refine o_y (v := .slice (a1) ((l).length) (cap1)) rfl rfl (y_move h1_0) ?_
        refine o_y (v := .int .i64 ((((l).length : Nat) : Int))) rfl rfl (y_len rfl Try.underlying30) ?_
        refine o_y (v := .float .f64 (ofInt ((((l).length : Nat) : Int)))) rfl rfl (y_intf rfl (by rw [Try.underlying3]; rfl) Try.underlying22) ?_
        refine o_float (F.div (q) (ofInt ((((l).length : Nat) : Int)))) rfl rfl rfl rfl (by simp) fun r28 hfr28 => ?_
        refine o_y (v := .float .f64 (r28)) rfl rfl (y_assign rfl) ?_
        refine o_nil ?_
        refine hK11 _ _ ?_
        refine c_ret ?_
        refine fun w hw => ⟨[.float .f64 (r28)], ⟨rfl, trivial⟩, ?_⟩
        exact ⟨_, List.nil_sublist _, _, rfl, mean_of (by omega) (.inr hv1_3) (fun h => by omega) hv1_2 hfr28⟩
        first | done | rfl

set_option maxRecDepth 100000 in
set_option maxHeartbeats 4000000 in
theorem f23_Mille (x : Nat) (w : World)  :
    Calls Try.prog 23 [.float .f64 (x)].toArray w fun e w' => e = .returned (.tuple #[.int .i64 (millN x), .int .i64 (millE x)]) ∧ Below w.heap.size w w' := by
  refine (calls_of (P := Try.prog) (n := 18) (w0 := w) (S := fun _ => False) (H := []) (T := fun v _ => v = (.tuple #[.int .i64 (millN x), .int .i64 (millE x)])) Try.func23 rfl Try.ntmps23 (Nat.le_of_ble_eq_true rfl) [.tmp 2, .tmp 3] rfl (St.nil w _) ?_).mono fun e w' ⟨v, H', he, hs, hT⟩ => ⟨by rw [he, hT], hs.below⟩
  refine c_seq fun K1 hK1 => ?_
  refine c_region ?_
  refine o_y (v := .int .i64 (0)) rfl rfl (y_assign rfl) ?_
  refine o_y (v := .int .i64 (0)) rfl rfl (y_assign rfl) ?_
  refine o_nil ?_
  refine hK1 _ _ ?_
  refine c_seq fun K2 hK2 => ?_
  refine c_seq fun K3 hK3 => ?_
  refine c_region ?_
  refine o_y (v := .float .f64 (x)) rfl rfl (y_move rfl) ?_
  refine o_y (v := .bool (nanB (x))) rfl rfl (y_call (vs := [.float .f64 (x)]) b29 rfl (fun w hw => f29_none _ w)) ?_
  refine o_nil ?_
  refine hK3 _ _ ?_
  refine c_cond (t := nanB (x)) rfl (fun hc1 => ?_) (fun hc1 => ?_)
  ·
    -- way T
    refine c_seq fun K4 hK4 => ?_
    refine c_region ?_
    refine o_y (v := .int .i64 (0)) rfl rfl (y_assign rfl) ?_
    refine o_y (v := .int .i64 (2)) rfl rfl (y_assign rfl) ?_
    refine o_nil ?_
    refine hK4 _ _ ?_
    refine c_ret ?_
    refine fun w hw => ⟨[.int .i64 (0), .int .i64 (2)], ⟨rfl, rfl, trivial⟩, ?_⟩
    rw [(mill_nan hc1).1, (mill_nan hc1).2]
    first | done | rfl
  ·
    -- way F
    refine c_skip ?_
    refine hK2 _ _ ?_
    refine c_seq fun K5 hK5 => ?_
    refine c_region ?_
    refine o_y (v := .float .f64 (x)) rfl rfl (y_move rfl) ?_
    refine o_float (F.mul (4652007308841189376) (x)) rfl rfl rfl rfl (by simp) fun r8 hfr8 => ?_
    have hr := mill_r hc1 (show FR (F.mul kW x) r8 from hfr8)
    have hn := hr.2
    refine o_y (v := .float .f64 (floorW (r8))) rfl rfl (y_call (vs := [.float .f64 (r8)]) b31 rfl (fun w hw => f31_Floor _ w hn)) ?_
    refine o_y (v := .float .f64 (floorW (r8))) rfl rfl (y_assign rfl) ?_
    refine o_nil ?_
    refine hK5 _ _ ?_
    refine c_seq fun K6 hK6 => ?_
    refine c_seq fun K7 hK7 => ?_
    refine c_region ?_
    refine o_y (v := .float .f64 (floorW (r8))) rfl rfl (y_move rfl) ?_
    refine o_y (v := .bool (ltF (floorW (r8)) (13970166044103278592))) rfl rfl (y_flt rfl rfl) ?_
    refine o_y (v := .bool (ltF (floorW (r8)) (13970166044103278592))) rfl rfl (y_move rfl) ?_
    cases hc2 : (ltF (floorW (r8)) (13970166044103278592) : Bool)
    ·
      -- way FF
      refine o_guard (j := 2) (d := 12) (b := false) rfl rfl rfl (fun _ => ?_) rfl (fun h => by cases h)
      refine o_y (v := .float .f64 (floorW (r8))) rfl rfl (y_move rfl) ?_
      refine o_guard (j := 2) (d := 12) (b := false) rfl rfl rfl (fun _ => ?_) rfl (fun h => by cases h)
      refine o_y (v := .bool (gtF (floorW (r8)) (4746794007244308480))) rfl rfl (y_fgt rfl rfl) ?_
      refine o_y (v := .bool (gtF (floorW (r8)) (4746794007244308480))) rfl rfl (y_pick (b := false) rfl rfl) ?_
      refine o_nil ?_
      refine hK7 _ _ ?_
      refine c_cond (t := gtF (floorW (r8)) (4746794007244308480)) rfl (fun hc3 => ?_) (fun hc3 => ?_)
      ·
        -- way FFT
        refine c_seq fun K8 hK8 => ?_
        refine c_region ?_
        refine o_y (v := .int .i64 (0)) rfl rfl (y_assign rfl) ?_
        refine o_y (v := .int .i64 (3)) rfl rfl (y_assign rfl) ?_
        refine o_nil ?_
        refine hK8 _ _ ?_
        refine c_ret ?_
        refine fun w hw => ⟨[.int .i64 (0), .int .i64 (3)], ⟨rfl, rfl, trivial⟩, ?_⟩
        have hl := mill_lim hc1 hr.1 (mille_lim hr.2 (by simp [c1, c2, hc1, hc2, hc3]))
        rw [hl.1, hl.2]
        first | done | rfl
      ·
        -- way FFF
        refine c_skip ?_
        refine hK6 _ _ ?_
        refine c_seq fun K9 hK9 => ?_
        refine c_region ?_
        refine o_y (v := .float .f64 (floorW (r8))) rfl rfl (y_move rfl) ?_
        refine o_y (v := .int .i64 (floorI r8)) rfl rfl (y_fint rfl (by rw [Try.underlying22]; rfl) Try.underlying3 (mille_int hr.2 hc2 hc3)) ?_
        refine o_y (v := .int .i64 (floorI r8)) rfl rfl (y_assign rfl) ?_
        refine o_y (v := .int .i64 (0)) rfl rfl (y_assign rfl) ?_
        refine o_nil ?_
        refine hK9 _ _ ?_
        refine c_ret ?_
        refine fun w hw => ⟨[.int .i64 (floorI r8), .int .i64 (0)], ⟨rfl, rfl, trivial⟩, ?_⟩
        have hl := mill_ok hc1 hr.1 (mille_ok hr.2 hc2 hc3)
        rw [hl.1, hl.2]
        first | done | rfl
    ·
      -- way FT
      refine o_guard (j := 2) (d := 12) (b := true) rfl rfl rfl (fun h => by cases h) rfl (fun _ => ?_)
      refine o_guard (j := 2) (d := 12) (b := true) rfl rfl rfl (fun h => by cases h) rfl (fun _ => ?_)
      refine o_y (v := .bool (true)) rfl rfl (y_pick (b := true) rfl rfl) ?_
      refine o_nil ?_
      refine hK7 _ _ ?_
      refine c_cond (t := true) rfl (fun _ => ?_) (fun h => by cases h)
      refine c_seq fun K10 hK10 => ?_
      refine c_region ?_
      refine o_y (v := .int .i64 (0)) rfl rfl (y_assign rfl) ?_
      refine o_y (v := .int .i64 (3)) rfl rfl (y_assign rfl) ?_
      refine o_nil ?_
      refine hK10 _ _ ?_
      refine c_ret ?_
      refine fun w hw => ⟨[.int .i64 (0), .int .i64 (3)], ⟨rfl, rfl, trivial⟩, ?_⟩
      have hl := mill_lim hc1 hr.1 (mille_lim hr.2 (by simp [c1, c2, hc1, hc2]))
      rw [hl.1, hl.2]
      first | done | rfl

set_option maxRecDepth 100000 in
set_option maxHeartbeats 4000000 in
theorem f24_Mille (x : Nat) (w : World)  :
    Calls Try.prog 24 [.float .f64 (x)].toArray w fun e w' => e = .returned (.tuple #[.int .i64 (millN x), .int .i64 (millE x)]) ∧ Below w.heap.size w w' := by
  refine (calls_of (P := Try.prog) (n := 26) (w0 := w) (S := fun _ => False) (H := []) (T := fun v _ => v = (.tuple #[.int .i64 (millN x), .int .i64 (millE x)])) Try.func24 rfl Try.ntmps24 (Nat.le_of_ble_eq_true rfl) [.tmp 2, .tmp 3] rfl (St.nil w _) ?_).mono fun e w' ⟨v, H', he, hs, hT⟩ => ⟨by rw [he, hT], hs.below⟩
  refine c_seq fun K1 hK1 => ?_
  refine c_region ?_
  refine o_y (v := .int .i64 (0)) rfl rfl (y_assign rfl) ?_
  refine o_y (v := .int .i64 (0)) rfl rfl (y_assign rfl) ?_
  refine o_nil ?_
  refine hK1 _ _ ?_
  refine c_seq fun K2 hK2 => ?_
  refine c_seq fun K3 hK3 => ?_
  refine c_region ?_
  refine o_y (v := .float .f64 (x)) rfl rfl (y_move rfl) ?_
  refine o_y (v := .bool (nanB (x))) rfl rfl (y_call (vs := [.float .f64 (x)]) b11 rfl (fun w hw => f11_none _ w)) ?_
  refine o_nil ?_
  refine hK3 _ _ ?_
  refine c_cond (t := nanB (x)) rfl (fun hc1 => ?_) (fun hc1 => ?_)
  ·
    -- way T
    refine c_seq fun K4 hK4 => ?_
    refine c_region ?_
    refine o_y (v := .int .i64 (0)) rfl rfl (y_assign rfl) ?_
    refine o_y (v := .int .i64 (2)) rfl rfl (y_assign rfl) ?_
    refine o_nil ?_
    refine hK4 _ _ ?_
    refine c_ret ?_
    refine fun w hw => ⟨[.int .i64 (0), .int .i64 (2)], ⟨rfl, rfl, trivial⟩, ?_⟩
    rw [(mill_nan hc1).1, (mill_nan hc1).2]
    first | done | rfl
  ·
    -- way F
    refine c_skip ?_
    refine hK2 _ _ ?_
    refine c_seq fun K5 hK5 => ?_
    refine c_region ?_
    refine o_y (v := .float .f64 (x)) rfl rfl (y_move rfl) ?_
    refine o_float (F.mul (4652007308841189376) (x)) rfl rfl rfl rfl (by simp) fun r9 hfr9 => ?_
    have hr := mill_r hc1 (show FR (F.mul kW x) r9 from hfr9)
    have hn := hr.2
    refine o_y (v := .float .f64 (r9)) rfl rfl (y_assign rfl) ?_
    refine o_nil ?_
    refine hK5 _ _ ?_
    refine c_seq fun K6 hK6 => ?_
    refine c_seq fun K7 hK7 => ?_
    refine c_region ?_
    refine o_y (v := .float .f64 (r9)) rfl rfl (y_move rfl) ?_
    refine o_y (v := .bool (geF (r9) (13970166044103278592))) rfl rfl (y_fge rfl rfl) ?_
    refine o_y (v := .bool (geF (r9) (13970166044103278592))) rfl rfl (y_move rfl) ?_
    cases hc2 : (geF (r9) (13970166044103278592) : Bool)
    ·
      -- way FF
      refine o_guard (j := 2) (d := 12) (b := false) rfl rfl rfl (fun h => by cases h) rfl (fun _ => ?_)
      refine o_guard (j := 2) (d := 12) (b := false) rfl rfl rfl (fun h => by cases h) rfl (fun _ => ?_)
      refine o_y (v := .bool (false)) rfl rfl (y_pick (b := false) rfl rfl) ?_
      refine o_y (v := .bool (true)) rfl rfl (y_not rfl rfl) ?_
      refine o_nil ?_
      refine hK7 _ _ ?_
      refine c_cond (t := true) rfl (fun _ => ?_) (fun h => by cases h)
      refine c_seq fun K8 hK8 => ?_
      refine c_region ?_
      refine o_y (v := .int .i64 (0)) rfl rfl (y_assign rfl) ?_
      refine o_y (v := .int .i64 (3)) rfl rfl (y_assign rfl) ?_
      refine o_nil ?_
      refine hK8 _ _ ?_
      refine c_ret ?_
      refine fun w hw => ⟨[.int .i64 (0), .int .i64 (3)], ⟨rfl, rfl, trivial⟩, ?_⟩
      have hl := mill_lim hc1 hr.1 (ref_lim hr.2 (.inl hc2))
      rw [hl.1, hl.2]
      first | done | rfl
    ·
      -- way FT
      refine o_guard (j := 2) (d := 12) (b := true) rfl rfl rfl (fun _ => ?_) rfl (fun h => by cases h)
      refine o_y (v := .float .f64 (r9)) rfl rfl (y_move rfl) ?_
      refine o_guard (j := 2) (d := 12) (b := true) rfl rfl rfl (fun _ => ?_) rfl (fun h => by cases h)
      refine o_y (v := .bool (ltF (r9) (4746794007248502784))) rfl rfl (y_flt rfl rfl) ?_
      refine o_y (v := .bool (ltF (r9) (4746794007248502784))) rfl rfl (y_pick (b := true) rfl rfl) ?_
      refine o_y (v := .bool (!(ltF (r9) (4746794007248502784)))) rfl rfl (y_not rfl rfl) ?_
      refine o_nil ?_
      refine hK7 _ _ ?_
      refine c_cond (t := !(ltF (r9) (4746794007248502784))) rfl (fun hc3 => ?_) (fun hc3 => ?_)
      ·
        try have hc3' : (ltF (r9) (4746794007248502784)) = false := by simpa using hc3
        -- way FTT
        refine c_seq fun K9 hK9 => ?_
        refine c_region ?_
        refine o_y (v := .int .i64 (0)) rfl rfl (y_assign rfl) ?_
        refine o_y (v := .int .i64 (3)) rfl rfl (y_assign rfl) ?_
        refine o_nil ?_
        refine hK9 _ _ ?_
        refine c_ret ?_
        refine fun w hw => ⟨[.int .i64 (0), .int .i64 (3)], ⟨rfl, rfl, trivial⟩, ?_⟩
        have hl := mill_lim hc1 hr.1 (ref_lim hr.2 (.inr hc3'))
        rw [hl.1, hl.2]
        first | done | rfl
      ·
        try have hc3' : (ltF (r9) (4746794007248502784)) = true := by simpa using hc3
        -- way FTF
        have hk := ref_ok hr.2 hc2 hc3'
        have hb := (trunc_int hr.2 hk).2
        refine c_skip ?_
        refine hK6 _ _ ?_
        refine c_seq fun K10 hK10 => ?_
        refine c_region ?_
        refine o_y (v := .float .f64 (r9)) rfl rfl (y_move rfl) ?_
        refine o_y (v := .int .i64 ((sv r9).tdiv (U : Int))) rfl rfl (y_fint rfl (by rw [Try.underlying22]; rfl) Try.underlying3 (trunc_int hr.2 hk).1) ?_
        refine o_y (v := .int .i64 ((sv r9).tdiv (U : Int))) rfl rfl (y_assign rfl) ?_
        refine o_nil ?_
        refine hK10 _ _ ?_
        refine c_seq fun K11 hK11 => ?_
        refine c_seq fun K12 hK12 => ?_
        refine c_region ?_
        refine o_y (v := .int .i64 ((sv r9).tdiv (U : Int))) rfl rfl (y_move rfl) ?_
        refine o_y (v := .float .f64 (ofInt ((sv r9).tdiv (U : Int)))) rfl rfl (y_intf rfl (by rw [Try.underlying3]; rfl) Try.underlying22) ?_
        refine o_y (v := .float .f64 (r9)) rfl rfl (y_move rfl) ?_
        refine o_y (v := .bool (gtF (ofInt ((sv r9).tdiv (U : Int))) (r9))) rfl rfl (y_fgt rfl rfl) ?_
        refine o_nil ?_
        refine hK12 _ _ ?_
        refine c_cond (t := gtF (ofInt ((sv r9).tdiv (U : Int))) (r9)) rfl (fun hc4 => ?_) (fun hc4 => ?_)
        ·
          -- way FTFT
          refine c_region ?_
          refine o_y (v := .int .i64 ((sv r9).tdiv (U : Int))) rfl rfl (y_move rfl) ?_
          refine o_y (v := .int .i64 (((sv r9).tdiv (U : Int)) - 1)) rfl rfl (y_sub rfl rfl (wi_i64 (by omega) (by omega))) ?_
          refine o_y (v := .int .i64 (((sv r9).tdiv (U : Int)) - 1)) rfl rfl (y_assign rfl) ?_
          refine o_nil ?_
          refine hK11 _ _ ?_
          refine c_seq fun K13 hK13 => ?_
          refine c_region ?_
          refine o_y (v := .int .i64 (((sv r9).tdiv (U : Int)) - 1)) rfl rfl (y_move rfl) ?_
          refine o_y (v := .int .i64 (((sv r9).tdiv (U : Int)) - 1)) rfl rfl (y_assign rfl) ?_
          refine o_y (v := .int .i64 (0)) rfl rfl (y_assign rfl) ?_
          refine o_nil ?_
          refine hK13 _ _ ?_
          refine c_ret ?_
          refine fun w hw => ⟨[.int .i64 (((sv r9).tdiv (U : Int)) - 1), .int .i64 (0)], ⟨rfl, rfl, trivial⟩, ?_⟩
          have hl := mill_ok hc1 hr.1 hk
          rw [hl.1, hl.2]
          exact congrArg (fun x => Value.tuple #[.int .i64 x, .int .i64 0]) ((ref_val hr.2 hk).1 hc4)
          first | done | rfl
        ·
          -- way FTFF
          refine c_skip ?_
          refine hK11 _ _ ?_
          refine c_seq fun K14 hK14 => ?_
          refine c_region ?_
          refine o_y (v := .int .i64 ((sv r9).tdiv (U : Int))) rfl rfl (y_move rfl) ?_
          refine o_y (v := .int .i64 ((sv r9).tdiv (U : Int))) rfl rfl (y_assign rfl) ?_
          refine o_y (v := .int .i64 (0)) rfl rfl (y_assign rfl) ?_
          refine o_nil ?_
          refine hK14 _ _ ?_
          refine c_ret ?_
          refine fun w hw => ⟨[.int .i64 ((sv r9).tdiv (U : Int)), .int .i64 (0)], ⟨rfl, rfl, trivial⟩, ?_⟩
          have hl := mill_ok hc1 hr.1 hk
          rw [hl.1, hl.2]
          exact congrArg (fun x => Value.tuple #[.int .i64 x, .int .i64 0]) ((ref_val hr.2 hk).2 hc4)
          first | done | rfl

end Go.Proofs.Ytikmjecjolppdaa.Gauge
