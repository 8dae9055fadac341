/- Proved: the printed law RingTakes answers true for every input (its numbers being of their kinds, the list within the form's reach); no other condition. -/
import Derived.Test.YtpohkikjlgpmmaaRingTakesWalk
namespace Go.Proofs.Ytpohkikjlgpmmaa.Pure
open Go.RowKit Go.Proofs.Ytpohkikjlgpmmaa.PRingTakes Go.Proofs.YtpohkikjlgpmmaaW.PrintWords Go.Proofs.YtpohkikjlgpmmaaW.PrintLast

theorem ev_pos {α : Type} {c : Prop} [Decidable c] {f g : Nat → Option α} {r : α} (h : c) (H : Ev f r) : Ev (fun k => if c then f k else g k) r :=
  Ev.congr (fun _ => if_pos h) H

theorem ev_neg {α : Type} {c : Prop} [Decidable c] {f g : Nat → Option α} {r : α} (h : ¬ c) (H : Ev g r) : Ev (fun k => if c then f k else g k) r :=
  Ev.congr (fun _ => if_neg h) H

theorem wu' (x : Int) : IntKind.u64.wrap x = x % 18446744073709551616 := by
  simp [IntKind.wrap, IntKind.signed, IntKind.bits]

theorem wu {x : Int} (h0 : 0 ≤ x) (h : x < 18446744073709551616) : IntKind.u64.wrap x = x := by
  rw [wu']; omega

theorem ws {x : Int} (h0 : -9223372036854775808 ≤ x) (h : x < 9223372036854775808) : wrap64 x = x := by
  unfold wrap64; omega

theorem may_yes {a b c : Int} (h1 : 1 ≤ a) (h2 : a ≤ 256) (_h0 : 0 ≤ b) (h3 : b ≤ c) (h4 : c ≤ 4611686018427387904) (h5 : c - b ≤ a) : ring_may.f a b c = some true := by
  unfold ring_may.f
  rw [if_pos h1, if_pos h2, if_pos h3, if_pos h4, wu (by omega) (by omega), wu (by omega) (by omega)]
  simp [h5]

theorem may_no {a b c : Int} (hb : 0 ≤ b) (hc : 0 ≤ c) (h : ¬ (1 ≤ a ∧ a ≤ 256 ∧ b ≤ c ∧ c ≤ 4611686018427387904 ∧ c - b ≤ a)) : ring_may.f a b c = some false := by
  unfold ring_may.f
  by_cases h1 : a ≥ 1
  · by_cases h2 : a ≤ 256
    · by_cases h3 : b ≤ c
      · by_cases h4 : c ≤ 4611686018427387904
        · rw [if_pos h1, if_pos h2, if_pos h3, if_pos h4, wu (by omega) (by omega), wu (by omega) (by omega)]
          have : ¬ c - b ≤ a := fun h5 => h ⟨h1, h2, h3, h4, h5⟩
          simp [this]
        · rw [if_pos h1, if_pos h2, if_pos h3, if_neg h4]
      · rw [if_pos h1, if_pos h2, if_neg h3]
    · rw [if_pos h1, if_neg h2]
  · rw [if_neg h1]

theorem sector_is {a b : Int} (h1 : 1 ≤ a) (h2 : a ≤ 256) (h0 : 0 ≤ b) : ring_sector.f a b = some (b % a) := by
  unfold ring_sector.f
  rw [wu (by omega) (by omega), if_neg (by omega), Int.tmod_eq_emod_of_nonneg h0]
  have := Int.emod_nonneg b (by omega : a ≠ 0)
  have := Int.emod_lt_of_pos b (by omega : 0 < a)
  rw [ws (by omega) (by omega)]

def secs (a b : Int) (n : Nat) : List Int := (List.range n).map fun (i : Nat) => (b + (i : Int)) % a

theorem secs_length (a b : Int) (n : Nat) : (secs a b n).length = n := by simp [secs]

theorem secs_succ (a b : Int) (n : Nat) : secs a b (n + 1) = secs a b n ++ [(b + (n : Int)) % a] := by
  simp [secs, List.range_succ]

theorem secs_rd (a b : Int) (n : Nat) (i : Int) (h0 : 0 ≤ i) (h : i < n) : rd (secs a b n) i = (b + i) % a := by
  obtain ⟨j, rfl⟩ := Int.eq_ofNat_of_zero_le h0
  have hj : j < n := by omega
  simp [rd, secs, List.getD_eq_getElem?_getD, hj]

theorem set_mid (l : List Int) (d : Nat) (t : Int) : (l ++ List.replicate (d + 1) 0).set l.length t = (l ++ [t]) ++ List.replicate d 0 := by
  rw [List.set_append_right _ _ (Nat.le_refl _)]
  simp [List.replicate_succ]

theorem list_l0 {a b : Int} (h1 : 1 ≤ a) (h2 : a ≤ 256) (h0 : 0 ≤ b) (n : Nat) (hn : (n : Int) ≤ a) (hb : b ≤ 4611686018427387904) (d : Nat) : ∀ i, i + d = n →
    Ev (fun k => ring_List.l0 k a b (secs a b i ++ List.replicate d 0) n i) (secs a b n, 0) := by
  induction d with
  | zero =>
    intro i hi
    refine Ev.step (f := fun _ => some (secs a b n, 0)) (fun k => ?_) (Ev.now _)
    obtain rfl : i = n := by omega
    simp only [ring_List.l0]
    rw [if_neg (by omega)]; simp
  | succ d ih =>
    intro i hi
    refine Ev.step (fun k => ?_) (ih (i + 1) (by omega))
    simp only [ring_List.l0]
    rw [if_pos (by omega), wu (x := (i : Int)) (by omega) (by omega), wu (by omega) (by omega), sector_is h1 h2 (by omega)]
    simp only [Option.bind_some]
    rw [if_pos (by omega), if_pos (by simp [secs_length]; omega), ws (by omega) (by omega)]
    have e : ((i : Nat) : Int).toNat = (secs a b i).length := by simp [secs_length]
    rw [e, set_mid, secs_succ]
    rfl

theorem list_yes {a b c : Int} (h1 : 1 ≤ a) (h2 : a ≤ 256) (h0 : 0 ≤ b) (hb : b ≤ 4611686018427387904) (hc : 0 ≤ c) (hca : c ≤ a) (h3 : c ≤ 0 ∨ c - 1 ≤ 4611686018427387904 - b) :
    Ev (fun k => ring_List.f k a b c) (secs a b c.toNat, 0) := by
  obtain ⟨n, rfl⟩ := Int.eq_ofNat_of_zero_le hc
  have base := list_l0 h1 h2 h0 n hca hb n 0 (by omega)
  have j0 : Ev (fun k => ring_List.j0 k a b n false) (secs a b (n : Int).toNat, 0) := by
    refine Ev.step (fun k => ?_) base
    simp only [ring_List.j0]
    rw [if_neg (by simp), if_pos hc, if_pos (by simp; omega)]
    simp [secs]
  unfold ring_List.f
  rw [may_yes h1 h2 h0 (Int.le_refl _) hb (by omega)]
  simp only [Option.bind_some, if_true]
  refine ev_neg (by omega) (ev_neg (by omega) ?_)
  by_cases hp : (n : Int) > 0
  · refine ev_pos hp ?_
    have e : (decide ((IntKind.u64.wrap (wrap64 ((n : Int) - 1))) > (IntKind.u64.wrap (4611686018427387904 - b)))) = false := by
      rw [ws (by omega) (by omega), wu (by omega) (by omega), wu (by omega) (by omega)]
      simp; omega
    rw [e]; exact j0
  · exact ev_neg hp j0

theorem list_no {a b c : Int} (h0 : 0 ≤ b) (h : ¬ (1 ≤ a ∧ a ≤ 256 ∧ b ≤ 4611686018427387904 ∧ 0 ≤ c ∧ c ≤ a ∧ (c ≤ 0 ∨ c - 1 ≤ 4611686018427387904 - b))) :
    Ev (fun k => ring_List.f k a b c) ([], 2) := by
  have jt : Ev (fun k => ring_List.j0 k a b c true) ([], 2) := by
    refine Ev.step (f := fun _ => some ([], 2)) (fun k => ?_) (Ev.now _)
    simp only [ring_List.j0]; rfl
  unfold ring_List.f
  by_cases hm : 1 ≤ a ∧ a ≤ 256 ∧ b ≤ 4611686018427387904
  · rw [may_yes hm.1 hm.2.1 h0 (Int.le_refl _) hm.2.2 (by omega)]
    simp only [Option.bind_some, if_true]
    by_cases hc : c < 0
    · exact ev_pos hc jt
    · refine ev_neg hc ?_
      by_cases hca : c > a
      · exact ev_pos hca jt
      · refine ev_neg hca ?_
        have hp : c > 0 := by omega
        refine ev_pos hp ?_
        have e : (decide ((IntKind.u64.wrap (wrap64 (c - 1))) > (IntKind.u64.wrap (4611686018427387904 - b)))) = true := by
          rw [ws (by omega) (by omega), wu (by omega) (by omega), wu (by omega) (by omega)]
          simp; omega
        rw [e]; exact jt
  · rw [may_no h0 h0 (by omega)]
    simp only [Option.bind_some]; exact jt

theorem free_yes {a b c : Int} (h1 : 1 ≤ a) (h2 : a ≤ 256) (h0 : 0 ≤ b) (h3 : b ≤ c) (h4 : c ≤ 4611686018427387904) (h5 : c - b ≤ a) : ring_Free.f a b c = some (a - (c - b), 0) := by
  unfold ring_Free.f
  rw [may_yes h1 h2 h0 h3 h4 h5]
  simp only [Option.bind_some, if_true]
  rw [wu (by omega) (by omega), ws (x := c - b) (by omega) (by omega), ws (by omega) (by omega)]

theorem free_no {a b c : Int} (hb : 0 ≤ b) (hc : 0 ≤ c) (h : ¬ (1 ≤ a ∧ a ≤ 256 ∧ b ≤ c ∧ c ≤ 4611686018427387904 ∧ c - b ≤ a)) : ring_Free.f a b c = some (0, 2) := by
  unfold ring_Free.f
  rw [may_no hb hc h]
  rfl

theorem take_no {a b c n : Int} (hb : 0 ≤ b) (hc : 0 ≤ c) (h : ¬ (1 ≤ a ∧ a ≤ 256 ∧ b ≤ c ∧ c ≤ 4611686018427387904 ∧ c - b ≤ a ∧ 0 ≤ n)) : Ev (fun k => ring_Take.f k a b c n) (0, 2) := by
  unfold ring_Take.f
  by_cases hm : 1 ≤ a ∧ a ≤ 256 ∧ b ≤ c ∧ c ≤ 4611686018427387904 ∧ c - b ≤ a
  · rw [free_yes hm.1 hm.2.1 hb hm.2.2.1 hm.2.2.2.1 hm.2.2.2.2]
    simp only [Option.bind_some, if_true]
    rw [decide_eq_true (show n < 0 by omega)]
    refine Ev.step (f := fun _ => some (0, 2)) (fun k => ?_) (Ev.now _)
    simp only [ring_Take.j0]; rfl
  · rw [free_no hb hc hm]
    simp only [Option.bind_some]
    refine ev_neg (by omega) ?_
    refine Ev.step (f := fun _ => some (0, 2)) (fun k => ?_) (Ev.now _)
    simp only [ring_Take.j0]; rfl

theorem take_full {a b c n : Int} (h1 : 1 ≤ a) (h2 : a ≤ 256) (h0 : 0 ≤ b) (h3 : b ≤ c) (h4 : c ≤ 4611686018427387904) (h5 : c - b ≤ a) (hn : 0 ≤ n) (hl : n < 9223372036854775808) (h : n > a - (c - b) ∨ c + n > 4611686018427387904) : Ev (fun k => ring_Take.f k a b c n) (0, 10) := by
  unfold ring_Take.f
  rw [free_yes h1 h2 h0 h3 h4 h5]
  simp only [Option.bind_some, if_true]
  rw [decide_eq_false (show ¬ n < 0 by omega)]
  refine Ev.step (f := fun _ => some (0, 10)) (fun k => ?_) (Ev.now _)
  simp only [ring_Take.j0]
  rw [if_neg (by simp)]
  by_cases hf : n > a - (c - b)
  · rw [if_pos hf]
  · rw [if_neg hf, if_pos]
    rw [wu (by omega) (by omega), wu (by omega) (by omega)]
    omega

theorem take_yes {a b c n : Int} (h1 : 1 ≤ a) (h2 : a ≤ 256) (h0 : 0 ≤ b) (h3 : b ≤ c) (h4 : c ≤ 4611686018427387904) (h5 : c - b ≤ a) (hn : 0 ≤ n) (h : n ≤ a - (c - b)) (h' : c + n ≤ 4611686018427387904) : Ev (fun k => ring_Take.f k a b c n) (c + n, 0) := by
  unfold ring_Take.f
  rw [free_yes h1 h2 h0 h3 h4 h5]
  simp only [Option.bind_some, if_true]
  rw [decide_eq_false (show ¬ n < 0 by omega)]
  refine Ev.step (f := fun _ => some (c + n, 0)) (fun k => ?_) (Ev.now _)
  simp only [ring_Take.j0]
  rw [if_neg (by simp), if_neg (by omega), if_neg, wu (x := n) (by omega) (by omega), wu (by omega) (by omega)]
  rw [wu (by omega) (by omega), wu (by omega) (by omega)]
  omega

theorem lives_tells : Ev (fun k => ashlarlaw12_lives.f k) true := Ev.of (fun k => ashlarlaw12_lives.mono k) (k := 10) (by decide +kernel)

theorem u8_in {x : Int} (h : (Lit.int .u8 x).wf = true) : 0 ≤ x ∧ x ≤ 255 := by
  simp [Lit.wf, IntKind.min, IntKind.max, IntKind.signed, IntKind.bits] at h; omega

theorem u16_in {x : Int} (h : (Lit.int .u16 x).wf = true) : 0 ≤ x ∧ x ≤ 65535 := by
  simp [Lit.wf, IntKind.min, IntKind.max, IntKind.signed, IntKind.bits] at h; omega

theorem u64_in {x : Int} (h : (Lit.int .u64 x).wf = true) : 0 ≤ x ∧ x < 18446744073709551616 := by
  simp [Lit.wf, IntKind.min, IntKind.max, IntKind.signed, IntKind.bits] at h; omega

theorem i64_in {x : Int} (h : (Lit.int .i64 x).wf = true) : -9223372036854775808 ≤ x ∧ x < 9223372036854775808 := by
  simp [Lit.wf, IntKind.min, IntKind.max, IntKind.signed, IntKind.bits] at h; omega

theorem rd_u8 (l : List Int) (hl : ∀ x ∈ l, (Lit.int .u8 x).wf = true) (i : Int) (h0 : 0 ≤ i) (h : i < l.length) : 0 ≤ rd l i ∧ rd l i ≤ 255 := by
  obtain ⟨j, rfl⟩ := Int.eq_ofNat_of_zero_le h0
  have hj : j < l.length := by omega
  have e : rd l (j : Int) = l[j] := by simp [rd, List.getD_eq_getElem?_getD, hj]
  rw [e]
  exact u8_in (hl _ (List.getElem_mem hj))

theorem takes_l0 (l : List Int) (hl : ∀ x ∈ l, (Lit.int .u8 x).wf = true) {a : Int} (h1 : 1 ≤ a) (h2 : a ≤ 256) (d : Nat) : ∀ i t h : Int, 0 ≤ i → (i + d = 60 ∨ (60 < i + d ∧ d = 0)) → 0 ≤ t → t ≤ h → h - t ≤ a → h ≤ 2305843009213693952 + 80 * i →
    Ev (fun k => ashlarlaw12_RingTakes.l0 k t l a h i) true := by
  induction d with
  | zero =>
    intro i t h hi0 hi ht hth hha hh
    refine Ev.step (f := fun k => ashlarlaw12_RingTakes.j1 k t l a h i false) (fun k => ?_) (Ev.step (f := fun k => (ashlarlaw12_lives.f k).bind fun t131 => (some t131)) (fun k => ?_) (Ev.bind lives_tells (Ev.now _)))
    · simp only [ashlarlaw12_RingTakes.l0]
      rw [decide_eq_false (by omega)]
      simp
    · simp only [ashlarlaw12_RingTakes.j1]
      rw [if_neg (by simp)]
  | succ d ih =>
    intro i t h hi0 hi ht hth hha hh
    by_cases hil : i < (l.length : Int)
    · obtain ⟨r0, r1⟩ := rd_u8 l hl i hi0 hil
      have fr := free_yes h1 h2 ht hth (by omega) hha
      refine Ev.step (f := fun k => ashlarlaw12_RingTakes.j1 k t l a h i true) (fun k => ?_) (Ev.step (f := fun k => ashlarlaw12_RingTakes.j2 k t l a h i (a - (h - t)) false) (fun k => ?_) ?_)
      · simp only [ashlarlaw12_RingTakes.l0]
        rw [if_pos hil, decide_eq_true (by omega)]
      · simp only [ashlarlaw12_RingTakes.j1]
        rw [if_pos trivial, fr]
        simp only [Option.bind_some, if_true]
        rw [wu (by omega) (by omega), ws (x := h - t) (by omega) (by omega), ws (by omega) (by omega)]
        simp
      · have em : Int.tmod (rd l i) 80 = rd l i % 80 := Int.tmod_eq_emod_of_nonneg r0
        by_cases hr : rd l i ≥ 160
        · refine Ev.step (fun k => ?_) (ih (i + 1) (t + min (rd l i % 80) (h - t)) h (by omega) (by omega) (by omega) (by omega) (by omega) (by omega))
          simp only [ashlarlaw12_RingTakes.j2]
          rw [if_neg (by simp), if_pos hi0, if_pos hil, if_pos hr, em, ws (x := rd l i % 80) (by omega) (by omega), wu (x := rd l i % 80) (by omega) (by omega), wu (x := h - t) (by omega) (by omega), ws (x := i + 1) (by omega) (by omega)]
          have e : mn (rd l i % 80) (h - t) = min (rd l i % 80) (h - t) := by unfold mn; omega
          rw [e, wu (by omega) (by omega)]
        · have main : ∀ g : Nat → (Int × Int) → Option Bool, (∀ k q, g k q = (if ((q.2 == 0) != (decide (rd l i % 80 ≤ a - (h - t)))) = true then (ashlarlaw12_RingTakes.j3 k t l a h i q.1 q.2 true) else (if q.2 = 0 then (ashlarlaw12_RingTakes.j3 k t l a h i q.1 q.2 (q.1 != h + rd l i % 80)) else (if q.2 = 10 then (ashlarlaw12_RingTakes.j3 k t l a h i q.1 q.2 false) else (ashlarlaw12_RingTakes.j3 k t l a h i q.1 q.2 true))))) →
              Ev (fun k => (ring_Take.f k a t h (rd l i % 80)).bind (g k)) true := by
            intro g hg
            by_cases hf : rd l i % 80 ≤ a - (h - t)
            · refine Ev.bind (take_yes h1 h2 ht hth (by omega) hha (by omega) hf (by omega)) (Ev.congr (fun k => hg k _) ?_)
              refine ev_neg (by simp [hf]) (ev_pos rfl ?_)
              refine Ev.step (fun k => ?_) (ih (i + 1) t (h + rd l i % 80) (by omega) (by omega) (by omega) (by omega) (by omega) (by omega))
              simp only [ashlarlaw12_RingTakes.j3]
              rw [if_neg (by simp), if_pos trivial, ws (x := i + 1) (by omega) (by omega)]
            · refine Ev.bind (take_full h1 h2 ht hth (by omega) hha (by omega) (by omega) (by omega)) (Ev.congr (fun k => hg k _) ?_)
              refine ev_neg (by simp; omega) (ev_neg (by simp) (ev_pos rfl ?_))
              refine Ev.step (fun k => ?_) (ih (i + 1) t h (by omega) (by omega) (by omega) (by omega) (by omega) (by omega))
              simp only [ashlarlaw12_RingTakes.j3]
              rw [if_neg (by simp), if_neg (by simp), ws (x := i + 1) (by omega) (by omega)]
          refine Ev.step (fun k => ?_) (main _ (fun k q => rfl))
          simp only [ashlarlaw12_RingTakes.j2]
          rw [if_neg (by simp), if_pos hi0, if_pos hil, if_neg hr, em, ws (x := rd l i % 80) (by omega) (by omega), wu (x := rd l i % 80) (by omega) (by omega), wu (x := h + rd l i % 80) (by omega) (by omega)]
    · refine Ev.step (f := fun k => ashlarlaw12_RingTakes.j1 k t l a h i false) (fun k => ?_) (Ev.step (f := fun k => (ashlarlaw12_lives.f k).bind fun t131 => (some t131)) (fun k => ?_) (Ev.bind lives_tells (Ev.now _)))
      · simp only [ashlarlaw12_RingTakes.l0]
        rw [if_neg hil]
      · simp only [ashlarlaw12_RingTakes.j1]
        rw [if_neg (by simp)]

theorem RingTakes : ashlarlaw12_RingTakes.Pure := by
  intro s t l hs ht _ _ hl
  obtain ⟨hs0, hs⟩ := u8_in hs
  obtain ⟨ht, _⟩ := u64_in ht
  refine Ev.rounds ?_
  unfold ashlarlaw12_RingTakes.f
  by_cases hb : t > 2305843009213693952
  · exact ev_pos hb (Ev.bind lives_tells (Ev.now _))
  · refine ev_neg hb ?_
    rw [ws (x := s) (by omega) (by omega), ws (x := 1 + s) (by omega) (by omega)]
    exact takes_l0 l hl (by omega) (by omega) 60 0 t t (by omega) (by omega) ht (by omega) (by omega) (by omega)

end Go.Proofs.Ytpohkikjlgpmmaa.Pure
