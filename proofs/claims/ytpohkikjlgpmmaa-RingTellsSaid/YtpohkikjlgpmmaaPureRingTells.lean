/- Proved: the printed law RingTells answers true for every input (its numbers being of their kinds); no other condition. -/
import Derived.Test.YtpohkikjlgpmmaaPRingTellsx3
namespace Go.Proofs.Ytpohkikjlgpmmaa.Pure
open Go.RowKit Go.Proofs.Ytpohkikjlgpmmaa.PRingTells Go.Proofs.YtpohkikjlgpmmaaW.PrintWords Go.Proofs.YtpohkikjlgpmmaaW.PrintLast

theorem ev_pos {α : Type} {c : Prop} [Decidable c] {f g : Nat → Option α} {r : α} (h : c) (H : Ev f r) : Ev (fun k => if c then f k else g k) r :=
  Ev.congr (fun _ => if_pos h) H

theorem ev_neg {α : Type} {c : Prop} [Decidable c] {f g : Nat → Option α} {r : α} (h : ¬ c) (H : Ev g r) : Ev (fun k => if c then f k else g k) r :=
  Ev.congr (fun _ => if_neg h) H

theorem wu' (x : Int) : IntKind.u64.wrap x = x % 18446744073709551616 := by
  simp [IntKind.wrap, IntKind.signed, IntKind.bits]

theorem wu {x : Int} (h0 : 0 ≤ x) (h : x < 18446744073709551616) : IntKind.u64.wrap x = x := by
  rw [wu']; omega

theorem ws {x : Int} (h0 : -9223372036854775808 ≤ x) (h : x < 9223372036854775808) : wrap64 x = x := by
  unfold wrap64; omega

theorem may_yes {a b c : Int} (h1 : 1 ≤ a) (h2 : a ≤ 256) (_h0 : 0 ≤ b) (h3 : b ≤ c) (h4 : c ≤ 4611686018427387904) (h5 : c - b ≤ a) : ring_may.f a b c = some true := by
  unfold ring_may.f
  rw [if_pos h1, if_pos h2, if_pos h3, if_pos h4, wu (by omega) (by omega), wu (by omega) (by omega)]
  simp [h5]

theorem may_no {a b c : Int} (hb : 0 ≤ b) (hc : 0 ≤ c) (h : ¬ (1 ≤ a ∧ a ≤ 256 ∧ b ≤ c ∧ c ≤ 4611686018427387904 ∧ c - b ≤ a)) : ring_may.f a b c = some false := by
  unfold ring_may.f
  by_cases h1 : a ≥ 1
  · by_cases h2 : a ≤ 256
    · by_cases h3 : b ≤ c
      · by_cases h4 : c ≤ 4611686018427387904
        · rw [if_pos h1, if_pos h2, if_pos h3, if_pos h4, wu (by omega) (by omega), wu (by omega) (by omega)]
          have : ¬ c - b ≤ a := fun h5 => h ⟨h1, h2, h3, h4, h5⟩
          simp [this]
        · rw [if_pos h1, if_pos h2, if_pos h3, if_neg h4]
      · rw [if_pos h1, if_pos h2, if_neg h3]
    · rw [if_pos h1, if_neg h2]
  · rw [if_neg h1]

theorem sector_is {a b : Int} (h1 : 1 ≤ a) (h2 : a ≤ 256) (h0 : 0 ≤ b) : ring_sector.f a b = some (b % a) := by
  unfold ring_sector.f
  rw [wu (by omega) (by omega), if_neg (by omega), Int.tmod_eq_emod_of_nonneg h0]
  have := Int.emod_nonneg b (by omega : a ≠ 0)
  have := Int.emod_lt_of_pos b (by omega : 0 < a)
  rw [ws (by omega) (by omega)]

def secs (a b : Int) (n : Nat) : List Int := (List.range n).map fun (i : Nat) => (b + (i : Int)) % a

theorem secs_length (a b : Int) (n : Nat) : (secs a b n).length = n := by simp [secs]

theorem secs_succ (a b : Int) (n : Nat) : secs a b (n + 1) = secs a b n ++ [(b + (n : Int)) % a] := by
  simp [secs, List.range_succ]

theorem secs_rd (a b : Int) (n : Nat) (i : Int) (h0 : 0 ≤ i) (h : i < n) : rd (secs a b n) i = (b + i) % a := by
  obtain ⟨j, rfl⟩ := Int.eq_ofNat_of_zero_le h0
  have hj : j < n := by omega
  simp [rd, secs, List.getD_eq_getElem?_getD, hj]

theorem set_mid (l : List Int) (d : Nat) (t : Int) : (l ++ List.replicate (d + 1) 0).set l.length t = (l ++ [t]) ++ List.replicate d 0 := by
  rw [List.set_append_right _ _ (Nat.le_refl _)]
  simp [List.replicate_succ]

theorem list_l0 {a b : Int} (h1 : 1 ≤ a) (h2 : a ≤ 256) (h0 : 0 ≤ b) (n : Nat) (hn : (n : Int) ≤ a) (hb : b ≤ 4611686018427387904) (d : Nat) : ∀ i, i + d = n →
    Ev (fun k => ring_List.l0 k a b (secs a b i ++ List.replicate d 0) n i) (secs a b n, 0) := by
  induction d with
  | zero =>
    intro i hi
    refine Ev.step (f := fun _ => some (secs a b n, 0)) (fun k => ?_) (Ev.now _)
    obtain rfl : i = n := by omega
    simp only [ring_List.l0]
    rw [if_neg (by omega)]; simp
  | succ d ih =>
    intro i hi
    refine Ev.step (fun k => ?_) (ih (i + 1) (by omega))
    simp only [ring_List.l0]
    rw [if_pos (by omega), wu (x := (i : Int)) (by omega) (by omega), wu (by omega) (by omega), sector_is h1 h2 (by omega)]
    simp only [Option.bind_some]
    rw [if_pos (by omega), if_pos (by simp [secs_length]; omega), ws (by omega) (by omega)]
    have e : ((i : Nat) : Int).toNat = (secs a b i).length := by simp [secs_length]
    rw [e, set_mid, secs_succ]
    rfl

theorem list_yes {a b c : Int} (h1 : 1 ≤ a) (h2 : a ≤ 256) (h0 : 0 ≤ b) (hb : b ≤ 4611686018427387904) (hc : 0 ≤ c) (hca : c ≤ a) (h3 : c ≤ 0 ∨ c - 1 ≤ 4611686018427387904 - b) :
    Ev (fun k => ring_List.f k a b c) (secs a b c.toNat, 0) := by
  obtain ⟨n, rfl⟩ := Int.eq_ofNat_of_zero_le hc
  have base := list_l0 h1 h2 h0 n hca hb n 0 (by omega)
  have j0 : Ev (fun k => ring_List.j0 k a b n false) (secs a b (n : Int).toNat, 0) := by
    refine Ev.step (fun k => ?_) base
    simp only [ring_List.j0]
    rw [if_neg (by simp), if_pos hc, if_pos (by simp; omega)]
    simp [secs]
  unfold ring_List.f
  rw [may_yes h1 h2 h0 (Int.le_refl _) hb (by omega)]
  simp only [Option.bind_some, if_true]
  refine ev_neg (by omega) (ev_neg (by omega) ?_)
  by_cases hp : (n : Int) > 0
  · refine ev_pos hp ?_
    have e : (decide ((IntKind.u64.wrap (wrap64 ((n : Int) - 1))) > (IntKind.u64.wrap (4611686018427387904 - b)))) = false := by
      rw [ws (by omega) (by omega), wu (by omega) (by omega), wu (by omega) (by omega)]
      simp; omega
    rw [e]; exact j0
  · exact ev_neg hp j0

theorem list_no {a b c : Int} (h0 : 0 ≤ b) (h : ¬ (1 ≤ a ∧ a ≤ 256 ∧ b ≤ 4611686018427387904 ∧ 0 ≤ c ∧ c ≤ a ∧ (c ≤ 0 ∨ c - 1 ≤ 4611686018427387904 - b))) :
    Ev (fun k => ring_List.f k a b c) ([], 2) := by
  have jt : Ev (fun k => ring_List.j0 k a b c true) ([], 2) := by
    refine Ev.step (f := fun _ => some ([], 2)) (fun k => ?_) (Ev.now _)
    simp only [ring_List.j0]; rfl
  unfold ring_List.f
  by_cases hm : 1 ≤ a ∧ a ≤ 256 ∧ b ≤ 4611686018427387904
  · rw [may_yes hm.1 hm.2.1 h0 (Int.le_refl _) hm.2.2 (by omega)]
    simp only [Option.bind_some, if_true]
    by_cases hc : c < 0
    · exact ev_pos hc jt
    · refine ev_neg hc ?_
      by_cases hca : c > a
      · exact ev_pos hca jt
      · refine ev_neg hca ?_
        have hp : c > 0 := by omega
        refine ev_pos hp ?_
        have e : (decide ((IntKind.u64.wrap (wrap64 (c - 1))) > (IntKind.u64.wrap (4611686018427387904 - b)))) = true := by
          rw [ws (by omega) (by omega), wu (by omega) (by omega), wu (by omega) (by omega)]
          simp; omega
        rw [e]; exact jt
  · rw [may_no h0 h0 (by omega)]
    simp only [Option.bind_some]; exact jt

theorem free_yes {a b c : Int} (h1 : 1 ≤ a) (h2 : a ≤ 256) (h0 : 0 ≤ b) (h3 : b ≤ c) (h4 : c ≤ 4611686018427387904) (h5 : c - b ≤ a) : ring_Free.f a b c = some (a - (c - b), 0) := by
  unfold ring_Free.f
  rw [may_yes h1 h2 h0 h3 h4 h5]
  simp only [Option.bind_some, if_true]
  rw [wu (by omega) (by omega), ws (x := c - b) (by omega) (by omega), ws (by omega) (by omega)]

theorem free_no {a b c : Int} (hb : 0 ≤ b) (hc : 0 ≤ c) (h : ¬ (1 ≤ a ∧ a ≤ 256 ∧ b ≤ c ∧ c ≤ 4611686018427387904 ∧ c - b ≤ a)) : ring_Free.f a b c = some (0, 2) := by
  unfold ring_Free.f
  rw [may_no hb hc h]
  rfl

theorem take_no {a b c n : Int} (hb : 0 ≤ b) (hc : 0 ≤ c) (h : ¬ (1 ≤ a ∧ a ≤ 256 ∧ b ≤ c ∧ c ≤ 4611686018427387904 ∧ c - b ≤ a ∧ 0 ≤ n)) : Ev (fun k => ring_Take.f k a b c n) (0, 2) := by
  unfold ring_Take.f
  by_cases hm : 1 ≤ a ∧ a ≤ 256 ∧ b ≤ c ∧ c ≤ 4611686018427387904 ∧ c - b ≤ a
  · rw [free_yes hm.1 hm.2.1 hb hm.2.2.1 hm.2.2.2.1 hm.2.2.2.2]
    simp only [Option.bind_some, if_true]
    rw [decide_eq_true (show n < 0 by omega)]
    refine Ev.step (f := fun _ => some (0, 2)) (fun k => ?_) (Ev.now _)
    simp only [ring_Take.j0]; rfl
  · rw [free_no hb hc hm]
    simp only [Option.bind_some]
    refine ev_neg (by omega) ?_
    refine Ev.step (f := fun _ => some (0, 2)) (fun k => ?_) (Ev.now _)
    simp only [ring_Take.j0]; rfl

theorem take_full {a b c n : Int} (h1 : 1 ≤ a) (h2 : a ≤ 256) (h0 : 0 ≤ b) (h3 : b ≤ c) (h4 : c ≤ 4611686018427387904) (h5 : c - b ≤ a) (hn : 0 ≤ n) (hl : n < 9223372036854775808) (h : n > a - (c - b) ∨ c + n > 4611686018427387904) : Ev (fun k => ring_Take.f k a b c n) (0, 10) := by
  unfold ring_Take.f
  rw [free_yes h1 h2 h0 h3 h4 h5]
  simp only [Option.bind_some, if_true]
  rw [decide_eq_false (show ¬ n < 0 by omega)]
  refine Ev.step (f := fun _ => some (0, 10)) (fun k => ?_) (Ev.now _)
  simp only [ring_Take.j0]
  rw [if_neg (by simp)]
  by_cases hf : n > a - (c - b)
  · rw [if_pos hf]
  · rw [if_neg hf, if_pos]
    rw [wu (by omega) (by omega), wu (by omega) (by omega)]
    omega

theorem take_yes {a b c n : Int} (h1 : 1 ≤ a) (h2 : a ≤ 256) (h0 : 0 ≤ b) (h3 : b ≤ c) (h4 : c ≤ 4611686018427387904) (h5 : c - b ≤ a) (hn : 0 ≤ n) (h : n ≤ a - (c - b)) (h' : c + n ≤ 4611686018427387904) : Ev (fun k => ring_Take.f k a b c n) (c + n, 0) := by
  unfold ring_Take.f
  rw [free_yes h1 h2 h0 h3 h4 h5]
  simp only [Option.bind_some, if_true]
  rw [decide_eq_false (show ¬ n < 0 by omega)]
  refine Ev.step (f := fun _ => some (c + n, 0)) (fun k => ?_) (Ev.now _)
  simp only [ring_Take.j0]
  rw [if_neg (by simp), if_neg (by omega), if_neg, wu (x := n) (by omega) (by omega), wu (by omega) (by omega)]
  rw [wu (by omega) (by omega), wu (by omega) (by omega)]
  omega

theorem lives_tells : Ev (fun k => ashlarlaw12_lives.f k) true := Ev.of (fun k => ashlarlaw12_lives.mono k) (k := 10) (by decide +kernel)

theorem u8_in {x : Int} (h : (Lit.int .u8 x).wf = true) : 0 ≤ x ∧ x ≤ 255 := by
  simp [Lit.wf, IntKind.min, IntKind.max, IntKind.signed, IntKind.bits] at h; omega

theorem u16_in {x : Int} (h : (Lit.int .u16 x).wf = true) : 0 ≤ x ∧ x ≤ 65535 := by
  simp [Lit.wf, IntKind.min, IntKind.max, IntKind.signed, IntKind.bits] at h; omega

theorem u64_in {x : Int} (h : (Lit.int .u64 x).wf = true) : 0 ≤ x ∧ x < 18446744073709551616 := by
  simp [Lit.wf, IntKind.min, IntKind.max, IntKind.signed, IntKind.bits] at h; omega

theorem i64_in {x : Int} (h : (Lit.int .i64 x).wf = true) : -9223372036854775808 ≤ x ∧ x < 9223372036854775808 := by
  simp [Lit.wf, IntKind.min, IntKind.max, IntKind.signed, IntKind.bits] at h; omega

theorem ints_l0 (l : List Int) (hl : l.length ≤ 300) (d : Nat) : ∀ i, i + d = l.length → Ev (fun k => ashlarref00_Ints.l0 k l l i) true := by
  induction d with
  | zero =>
    intro i hi
    refine Ev.step (f := fun _ => some true) (fun k => ?_) (Ev.now _)
    simp only [ashlarref00_Ints.l0]
    rw [if_neg (by omega)]
  | succ d ih =>
    intro i hi
    refine Ev.step (fun k => ?_) (ih (i + 1) (by omega))
    simp only [ashlarref00_Ints.l0]
    rw [if_pos (by omega), if_pos (by omega), if_pos (by omega)]
    simp only [if_true]
    rw [ws (by omega) (by omega)]; rfl

theorem ints_self (l : List Int) (hl : l.length ≤ 300) : Ev (fun k => ashlarref00_Ints.f k l l) true := by
  unfold ashlarref00_Ints.f
  simp only [if_true]
  exact ints_l0 l hl l.length 0 (by omega)

theorem rmay (a b c : Int) : ashlarref12_may.f a b c = ring_may.f a b c := rfl

theorem rsector (a b : Int) (h0 : 0 ≤ b) : ashlarref12_Sector.f a b = ring_Sector.f a b := by
  unfold ashlarref12_Sector.f ring_Sector.f
  rw [rmay]
  by_cases h : 1 ≤ a ∧ a ≤ 256 ∧ b ≤ 4611686018427387904
  · rw [may_yes h.1 h.2.1 h0 (Int.le_refl _) h.2.2 (by omega)]
    simp only [Option.bind_some, if_true]
    unfold ring_sector.f
    rw [wu (x := a) (by omega) (by omega), if_neg (by omega), if_neg (by omega)]
    rfl
  · rw [may_no h0 h0 (by omega)]
    rfl

theorem rfree (a b c : Int) : ashlarref12_Free.f a b c = ring_Free.f a b c := rfl

theorem rsec_yes {a b : Int} (h1 : 1 ≤ a) (h2 : a ≤ 256) (h0 : 0 ≤ b) (hb : b ≤ 4611686018427387904) : ashlarref12_Sector.f a b = some (b % a, 0) := by
  rw [rsector _ _ h0]
  unfold ring_Sector.f
  rw [may_yes h1 h2 h0 (Int.le_refl _) hb (by omega)]
  simp only [Option.bind_some, if_true]
  rw [sector_is h1 h2 h0]; rfl

theorem rlist_l0 {a b : Int} (h1 : 1 ≤ a) (h2 : a ≤ 256) (h0 : 0 ≤ b) (n : Nat) (hn : (n : Int) ≤ a) (hb : (n : Int) ≤ 0 ∨ (n : Int) - 1 ≤ 4611686018427387904 - b) (d : Nat) : ∀ i, i + d = n →
    Ev (fun k => ashlarref12_List.l0 k a b n (secs a b i) i) (secs a b n, 0) := by
  induction d with
  | zero =>
    intro i hi
    refine Ev.step (f := fun _ => some (secs a b n, 0)) (fun k => ?_) (Ev.now _)
    obtain rfl : i = n := by omega
    simp only [ashlarref12_List.l0]
    rw [if_neg (by omega)]
  | succ d ih =>
    intro i hi
    refine Ev.step (fun k => ?_) (ih (i + 1) (by omega))
    simp only [ashlarref12_List.l0]
    rw [if_pos (by omega), wu (x := (i : Int)) (by omega) (by omega), wu (by omega) (by omega), rsec_yes h1 h2 (by omega) (by omega)]
    simp only [Option.bind_some]
    rw [if_pos (by rw [secs_length]; omega), ws (by omega) (by omega), secs_succ]
    rfl

theorem rlist_yes {a b c : Int} (h1 : 1 ≤ a) (h2 : a ≤ 256) (h0 : 0 ≤ b) (hb : b ≤ 4611686018427387904) (hc : 0 ≤ c) (hca : c ≤ a) (h3 : c ≤ 0 ∨ c - 1 ≤ 4611686018427387904 - b) :
    Ev (fun k => ashlarref12_List.f k a b c) (secs a b c.toNat, 0) := by
  obtain ⟨n, rfl⟩ := Int.eq_ofNat_of_zero_le hc
  have base := rlist_l0 h1 h2 h0 n hca h3 n 0 (by omega)
  have j0 : Ev (fun k => ashlarref12_List.j0 k a b n false) (secs a b (n : Int).toNat, 0) := by
    refine Ev.step (fun k => ?_) base
    simp only [ashlarref12_List.j0]
    rw [if_neg (by simp)]
    simp [secs]
  unfold ashlarref12_List.f
  rw [rmay, may_yes h1 h2 h0 (Int.le_refl _) hb (by omega)]
  simp only [Option.bind_some, if_true]
  refine ev_neg (by omega) (ev_neg (by omega) ?_)
  by_cases hp : (n : Int) > 0
  · refine ev_pos hp ?_
    have e : (decide (IntKind.u64.wrap (b + IntKind.u64.wrap (wrap64 ((n : Int) - 1))) > 4611686018427387904)) = false := by
      rw [ws (by omega) (by omega), wu (x := (n : Int) - 1) (by omega) (by omega), wu (by omega) (by omega)]
      simp; omega
    rw [e]; exact j0
  · exact ev_neg hp j0

theorem rlist_no {a b c : Int} (h0 : 0 ≤ b) (h : ¬ (1 ≤ a ∧ a ≤ 256 ∧ b ≤ 4611686018427387904 ∧ 0 ≤ c ∧ c ≤ a ∧ (c ≤ 0 ∨ c - 1 ≤ 4611686018427387904 - b))) :
    Ev (fun k => ashlarref12_List.f k a b c) ([], 2) := by
  have jt : Ev (fun k => ashlarref12_List.j0 k a b c true) ([], 2) := by
    refine Ev.step (f := fun _ => some ([], 2)) (fun k => ?_) (Ev.now _)
    simp only [ashlarref12_List.j0]; rfl
  unfold ashlarref12_List.f
  rw [rmay]
  by_cases hm : 1 ≤ a ∧ a ≤ 256 ∧ b ≤ 4611686018427387904
  · rw [may_yes hm.1 hm.2.1 h0 (Int.le_refl _) hm.2.2 (by omega)]
    simp only [Option.bind_some, if_true]
    by_cases hc : c < 0
    · exact ev_pos hc jt
    · refine ev_neg hc ?_
      by_cases hca : c > a
      · exact ev_pos hca jt
      · refine ev_neg hca ?_
        have hp : c > 0 := by omega
        refine ev_pos hp ?_
        have e : (decide (IntKind.u64.wrap (b + IntKind.u64.wrap (wrap64 (c - 1))) > 4611686018427387904)) = true := by
          rw [ws (by omega) (by omega), wu (x := c - 1) (by omega) (by omega), wu (by omega) (by omega)]
          simp; omega
        rw [e]; exact jt
  · rw [may_no h0 h0 (by omega)]
    simp only [Option.bind_some]; exact jt

theorem rtake_no {a b c n : Int} (hb : 0 ≤ b) (hc : 0 ≤ c) (h : ¬ (1 ≤ a ∧ a ≤ 256 ∧ b ≤ c ∧ c ≤ 4611686018427387904 ∧ c - b ≤ a ∧ 0 ≤ n)) : Ev (fun k => ashlarref12_Take.f k a b c n) (0, 2) := by
  have jt : Ev (fun k => ashlarref12_Take.j0 k a b c n true) (0, 2) := by
    refine Ev.step (f := fun _ => some (0, 2)) (fun k => ?_) (Ev.now _)
    simp only [ashlarref12_Take.j0]; rfl
  unfold ashlarref12_Take.f
  rw [rmay]
  by_cases hm : 1 ≤ a ∧ a ≤ 256 ∧ b ≤ c ∧ c ≤ 4611686018427387904 ∧ c - b ≤ a
  · rw [may_yes hm.1 hm.2.1 hb hm.2.2.1 hm.2.2.2.1 hm.2.2.2.2]
    simp only [Option.bind_some, if_true]
    rw [decide_eq_true (show n < 0 by omega)]
    exact jt
  · rw [may_no hb hc hm]
    simp only [Option.bind_some]
    exact jt

theorem rtake_full {a b c n : Int} (h1 : 1 ≤ a) (h2 : a ≤ 256) (h0 : 0 ≤ b) (h3 : b ≤ c) (h4 : c ≤ 4611686018427387904) (h5 : c - b ≤ a) (hn : 0 ≤ n) (h : n > a - (c - b) ∨ c + n > 4611686018427387904) : Ev (fun k => ashlarref12_Take.f k a b c n) (0, 10) := by
  unfold ashlarref12_Take.f
  rw [rmay, may_yes h1 h2 h0 h3 h4 h5]
  simp only [Option.bind_some, if_true]
  rw [decide_eq_false (show ¬ n < 0 by omega)]
  refine Ev.step (f := fun _ => some (0, 10)) (fun k => ?_) (Ev.now _)
  simp only [ashlarref12_Take.j0]
  rw [if_neg (by simp), rfree, free_yes h1 h2 h0 h3 h4 h5]
  simp only [Option.bind_some]
  by_cases hf : n > a - (c - b)
  · rw [if_pos hf]
  · rw [if_neg hf, if_pos]
    rw [wu (x := n) (by omega) (by omega), wu (by omega) (by omega)]
    omega

theorem rtake_yes {a b c n : Int} (h1 : 1 ≤ a) (h2 : a ≤ 256) (h0 : 0 ≤ b) (h3 : b ≤ c) (h4 : c ≤ 4611686018427387904) (h5 : c - b ≤ a) (hn : 0 ≤ n) (h : n ≤ a - (c - b)) (h' : c + n ≤ 4611686018427387904) : Ev (fun k => ashlarref12_Take.f k a b c n) (c + n, 0) := by
  unfold ashlarref12_Take.f
  rw [rmay, may_yes h1 h2 h0 h3 h4 h5]
  simp only [Option.bind_some, if_true]
  rw [decide_eq_false (show ¬ n < 0 by omega)]
  refine Ev.step (f := fun _ => some (c + n, 0)) (fun k => ?_) (Ev.now _)
  simp only [ashlarref12_Take.j0]
  rw [if_neg (by simp), rfree, free_yes h1 h2 h0 h3 h4 h5]
  simp only [Option.bind_some]
  rw [if_neg (by omega), wu (x := n) (by omega) (by omega), wu (by omega) (by omega), if_neg (by omega)]

theorem take_both {a b c n : Int} (hb : 0 ≤ b) (hc : 0 ≤ c) (hn : n < 9223372036854775808) : ∃ r, Ev (fun k => ring_Take.f k a b c n) r ∧ Ev (fun k => ashlarref12_Take.f k a b c n) r := by
  by_cases h : 1 ≤ a ∧ a ≤ 256 ∧ b ≤ c ∧ c ≤ 4611686018427387904 ∧ c - b ≤ a ∧ 0 ≤ n
  · obtain ⟨h1, h2, h3, h4, h5, h6⟩ := h
    by_cases hf : n > a - (c - b) ∨ c + n > 4611686018427387904
    · exact ⟨_, take_full h1 h2 hb h3 h4 h5 h6 hn hf, rtake_full h1 h2 hb h3 h4 h5 h6 hf⟩
    · exact ⟨_, take_yes h1 h2 hb h3 h4 h5 h6 (by omega) (by omega), rtake_yes h1 h2 hb h3 h4 h5 h6 (by omega) (by omega)⟩
  · exact ⟨_, take_no hb hc h, rtake_no hb hc h⟩

theorem list_both {a b c : Int} (hb : 0 ≤ b) : ∃ r, r.1.length ≤ 300 ∧ Ev (fun k => ring_List.f k a b c) r ∧ Ev (fun k => ashlarref12_List.f k a b c) r := by
  by_cases h : 1 ≤ a ∧ a ≤ 256 ∧ b ≤ 4611686018427387904 ∧ 0 ≤ c ∧ c ≤ a ∧ (c ≤ 0 ∨ c - 1 ≤ 4611686018427387904 - b)
  · obtain ⟨h1, h2, h3, h4, h5, h6⟩ := h
    exact ⟨_, by simp [secs_length]; omega, list_yes h1 h2 hb h3 h4 h5 h6, rlist_yes h1 h2 hb h3 h4 h5 h6⟩
  · exact ⟨_, by simp, list_no hb h, rlist_no hb h⟩

theorem j1_tells {a b c n : Int} (hb : 0 ≤ b) (hc : 0 ≤ c) (hn : n < 9223372036854775808) : Ev (fun k => ashlarlaw12_RingTells.j1 k a b c n false) true := by
  obtain ⟨r, hr, hr'⟩ := take_both (a := a) hb hc hn
  obtain ⟨q, hq, hq1, hq2⟩ := list_both (a := a) (c := n) hb
  refine Ev.step (f := fun k => ((ring_Take.f k a b c n).bind fun bt149 => ((ashlarref12_Take.f k a b c n).bind fun bt151 => ((ring_List.f k a b n).bind fun bt153 => ((ashlarref12_List.f k a b n).bind fun bt157 => (if bt149.1 = bt151.1 then (if bt149.2 = bt151.2 then ((ashlarref00_Ints.f k bt153.1 bt157.1).bind fun t161 => (if t161 = true then (if bt153.2 = bt157.2 then ((ashlarlaw12_lives.f k).bind fun t162 => (some t162)) else (some false)) else (some false))) else (some false)) else (some false))))))) (fun k => ?_) ?_
  · simp only [ashlarlaw12_RingTells.j1]
    rw [if_neg (by simp)]
  · refine Ev.bind hr (Ev.bind hr' (Ev.bind hq1 (Ev.bind hq2 ?_)))
    simp only [if_true]
    refine Ev.bind (ints_self _ hq) ?_
    simp only [if_true]
    exact Ev.bind lives_tells (Ev.now _)

theorem RingTells : ashlarlaw12_RingTells.Pure := by
  intro a b c n _ hb hc hn
  obtain ⟨hb, _⟩ := u64_in hb
  obtain ⟨hc, _⟩ := u64_in hc
  obtain ⟨_, hn⟩ := i64_in hn
  refine Ev.rounds ?_
  obtain ⟨s, hs⟩ : ∃ s, ring_Sector.f a b = some s := by
    unfold ring_Sector.f
    by_cases h : 1 ≤ a ∧ a ≤ 256 ∧ b ≤ 4611686018427387904
    · rw [may_yes h.1 h.2.1 hb (Int.le_refl _) h.2.2 (by omega)]
      simp only [Option.bind_some, if_true]
      rw [sector_is h.1 h.2.1 hb]
      exact ⟨_, rfl⟩
    · rw [may_no hb hb (by omega)]
      exact ⟨_, rfl⟩
  obtain ⟨f, hf⟩ : ∃ s, ring_Free.f a b c = some s := by
    by_cases h : 1 ≤ a ∧ a ≤ 256 ∧ b ≤ c ∧ c ≤ 4611686018427387904 ∧ c - b ≤ a
    · exact ⟨_, free_yes h.1 h.2.1 hb h.2.2.1 h.2.2.2.1 h.2.2.2.2⟩
    · exact ⟨_, free_no hb hc h⟩
  unfold ashlarlaw12_RingTells.f
  rw [rsector a b hb, hs]
  simp only [Option.bind_some, if_true, bne_self_eq_false]
  refine Ev.step (fun k => ?_) (j1_tells (a := a) (n := n) hb hc hn)
  simp only [ashlarlaw12_RingTells.j0]
  rw [if_neg (by simp), rfree, hf]
  simp only [Option.bind_some, if_true, bne_self_eq_false]

end Go.Proofs.Ytpohkikjlgpmmaa.Pure
