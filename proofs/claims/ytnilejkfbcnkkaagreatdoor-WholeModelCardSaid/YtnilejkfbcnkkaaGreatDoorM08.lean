/- Proved: a stripe in memory; what the functions of a line do; rules of the walk on maps from whole numbers; rules of the walk on maps from whole numbers: what is read, laid, struck, ranged over; rules of the walk on ranges over maps from whole numbers; the conditions stand in the statements. -/
import Derived.Test.YtnilejkfbcnkkaaGreatDoorM07
import Derived.MapKept
import Derived.Maps.RangeRun
import Derived.MapFrom
import Derived.WideLaws
import Derived.WalkSpells
set_option linter.unusedVariables false
set_option linter.unusedSimpArgs false
set_option linter.unusedSectionVars false
section
set_option maxRecDepth 100000
set_option maxHeartbeats 4000000
namespace Go.Proofs.YtnilejkfbcnkkaaGreatDoor.V
open Go Go.RowKit
attribute [local irreducible] Yields cl blk pur rowc sv exC fo

def fset {α : Type} (f : Nat → α) (i : Nat) (x : α) : Nat → α := fun j => if j = i then x else f j
theorem fset_eq {α : Type} {f : Nat → α} {i : Nat} {x : α} : fset f i x i = x := by simp [fset]
theorem fset_ne {α : Type} {f : Nat → α} {i j : Nat} {x : α} (h : j ≠ i) : fset f i x j = f j := by simp [fset, h]
def mapN (n : Nat) (f : Nat → Value) : List Value := (List.range n).map f
def flatN (n : Nat) (f : Nat → List Value) : List Value := (List.range n).flatMap f
theorem mapN_len (n : Nat) (f : Nat → Value) : (mapN n f).length = n := by simp [mapN]
instance {n : Nat} {f : Nat → Value} : LenL (mapN n f) n := ⟨mapN_len n f⟩
theorem mapN_get {n : Nat} {f : Nat → Value} {i : Nat} (h : i < n) : (mapN n f)[i]? = some (f i) := by simp [mapN, h]
theorem mapN_set {n : Nat} {f : Nat → Value} {i : Nat} (h : i < n) (v : Value) : Sets (mapN n f) i [v] (mapN n (fset f i v)) := by
  refine ⟨by simp [mapN]; omega, ?_⟩
  refine List.ext_getElem? fun q => ?_
  simp only [List.getElem?_append, List.length_append, List.length_take, mapN_len, List.length_cons, List.length_nil, List.getElem?_take, List.getElem?_drop]
  by_cases h1 : q < i
  · rw [if_pos (by omega), if_pos (by omega), if_pos h1, mapN_get (by omega), mapN_get (by omega), fset_ne (by omega)]
  · by_cases h2 : q = i
    · subst h2
      rw [if_pos (by omega), if_neg (by omega), mapN_get h, fset_eq, show q - min q n = 0 by omega]; rfl
    · rw [if_neg (by omega), show i + (0 + 1) + (q - (min i n + (0 + 1))) = q by omega]
      by_cases h3 : q < n
      · rw [mapN_get h3, mapN_get h3, fset_ne h2]
      · rw [List.getElem?_eq_none (by rw [mapN_len]; omega), List.getElem?_eq_none (by rw [mapN_len]; omega)]
theorem flatN_succ (n : Nat) (f : Nat → List Value) : flatN (n + 1) f = flatN n f ++ f n := by simp [flatN, List.range_succ]
theorem flatN_len {n k : Nat} {f : Nat → List Value} (hk : ∀ j, (f j).length = k) : (flatN n f).length = n * k := by
  induction n with
  | zero => simp [flatN]
  | succ n ih => rw [flatN_succ, List.length_append, ih, hk, Nat.succ_mul]
theorem flatN_sg {n k : Nat} {f : Nat → List Value} (hk : ∀ j, (f j).length = k) {i : Nat} (h : i < n) : Sg (flatN n f) (i * k) k (f i) := by
  induction n with
  | zero => omega
  | succ n ih =>
    rw [flatN_succ]
    by_cases e : i = n
    · subst e
      have := Sg.right (A := flatN i f) (off := 0) (hA := ⟨flatN_len hk⟩) (⟨hk i, fun j v hv => by simpa using hv⟩ : Sg (f i) 0 k (f i))
      simpa using this
    · exact (ih (by omega)).left
theorem flatN_congr {n : Nat} {f g : Nat → List Value} (h : ∀ i, i < n → f i = g i) : flatN n f = flatN n g := by
  induction n with
  | zero => rfl
  | succ n ih => rw [flatN_succ, flatN_succ, ih fun i hi => h i (by omega), h n (by omega)]
theorem flatN_set {n k : Nat} {f : Nat → List Value} (hk : ∀ j, (f j).length = k) {i : Nat} (h : i < n) {vs : List Value} (hv : vs.length = k) : Sets (flatN n f) (i * k) vs (flatN n (fset f i vs)) := by
  induction n with
  | zero => omega
  | succ n ih =>
    rw [flatN_succ, flatN_succ]
    by_cases e : i = n
    · subst e
      rw [fset_eq, flatN_congr (g := f) fun j hj => fset_ne (by omega)]
      have hs : Sets (f i) 0 vs vs := ⟨by rw [hk, hv]; omega, by rw [List.drop_eq_nil_of_le (by rw [hk, hv]; omega)]; simp⟩
      exact Sets.right (hA := ⟨flatN_len hk⟩) hs (Nat.add_zero _)
    · rw [fset_ne (show n ≠ i from fun h => e h.symm)]
      exact (ih (by omega)).left

structure Ln where
  m : Nat
  kn : Nat → Bool
  dr : Nat → Bool
  bs : Nat → Blk
  first : Nat
def Ln.emp (m : Nat) : Ln := ⟨m, fun _ => false, fun _ => false, fun _ => blk0, 0⟩
def lnL (l : Ln) : List Value := I l.m :: (mapN 16 (fun i => .bool (l.kn i)) ++ (mapN 16 (fun i => .bool (l.dr i)) ++ (flatN 16 (fun i => bl (l.bs i)) ++ [U l.first])))
def lnC (g : Nat) (l : Ln) : Chunk := cl g (lnL l) 228
theorem bls_len {f : Nat → Blk} : ∀ j, (bl (f j)).length = 64 := fun _ => bl_len _
instance {f : Nat → Blk} : LenL (flatN 16 fun i => bl (f i)) 1024 := ⟨flatN_len bls_len⟩
instance {l : Ln} : LenL (lnL l) 1058 := ⟨by unfold lnL; exact LenL.h⟩
section
variable {l : Ln} {i : Nat}
theorem ln_m : (lnL l)[0]? = some (I l.m) := rfl
theorem ln_kn (h : i < 16) : (lnL l)[1 + (i : Int).toNat * 1]? = some (.bool (l.kn i)) := by
  unfold lnL
  rw [show 1 + (i : Int).toNat * 1 = i + 1 by simp; omega, List.getElem?_cons_succ, List.getElem?_append_left (by rw [mapN_len]; exact h), mapN_get h]
theorem ln_dr (h : i < 16) : (lnL l)[17 + (i : Int).toNat * 1]? = some (.bool (l.dr i)) := by
  unfold lnL
  rw [show 17 + (i : Int).toNat * 1 = i + 16 + 1 by simp; omega, List.getElem?_cons_succ, List.getElem?_append_right (by rw [mapN_len]; omega), mapN_len, List.getElem?_append_left (by rw [mapN_len]; omega), show i + 16 - 16 = i by omega, mapN_get h]
theorem ln_bs (h : i < 16) : Sg (lnL l) (33 + (i : Int).toNat * 64) 64 (bl (l.bs i)) := by
  unfold lnL
  rw [show 33 + (i : Int).toNat * 64 = (16 + (16 + i * 64)) + 1 by simp; omega]
  exact Sg.tl (Sg.right (Sg.right (Sg.left (flatN_sg (f := fun i => bl (l.bs i)) bls_len h))))
theorem ln_first : (lnL l)[1057]? = some (U l.first) := by
  unfold lnL
  rw [show 1057 = (16 + (16 + (1024 + 0))) + 1 from rfl, List.getElem?_cons_succ, List.getElem?_append_right (by rw [mapN_len]; omega), mapN_len, List.getElem?_append_right (by rw [mapN_len]; omega), mapN_len, List.getElem?_append_right (by rw [flatN_len bls_len]; omega), flatN_len bls_len]
  rfl
theorem mapB_set {f : Nat → Bool} (h : i < 16) (b : Bool) : Sets (mapN 16 fun i => .bool (f i)) i [.bool b] (mapN 16 fun j => .bool (fset f i b j)) := by
  have := mapN_set (f := fun i => Value.bool (f i)) h (.bool b)
  rwa [show fset (fun i => Value.bool (f i)) i (.bool b) = fun j => .bool (fset f i b j) from by funext j; unfold fset; split <;> rfl] at this
theorem ln_knS (h : i < 16) (b : Bool) : Sets (lnL l) (1 + (i : Int).toNat * 1) [.bool b] (lnL { l with kn := fset l.kn i b }) := by
  unfold lnL
  rw [show 1 + (i : Int).toNat * 1 = i + 1 by simp; omega]
  exact Sets.tl (Sets.left (mapB_set h b))
theorem ln_drS (h : i < 16) (b : Bool) : Sets (lnL l) (17 + (i : Int).toNat * 1) [.bool b] (lnL { l with dr := fset l.dr i b }) := by
  unfold lnL
  rw [show 17 + (i : Int).toNat * 1 = (16 + i) + 1 by simp; omega]
  exact Sets.tl (Sets.right (Sets.left (mapB_set h b)) rfl)
theorem ln_bsS (h : i < 16) (x : Blk) : Sets (lnL l) (33 + (i : Int).toNat * 64) (bl x) (lnL { l with bs := fset l.bs i x }) := by
  unfold lnL
  rw [show 33 + (i : Int).toNat * 64 = (16 + (16 + i * 64)) + 1 by simp; omega]
  have := flatN_set (f := fun i => bl (l.bs i)) bls_len h (bl_len x)
  rw [show fset (fun i => bl (l.bs i)) i (bl x) = fun j => bl (fset l.bs i x j) from by funext j; unfold fset; split <;> rfl] at this
  exact Sets.tl (Sets.right (Sets.right (Sets.left this) rfl) rfl)
theorem ln_fiS (q : Nat) : Sets (lnL l) 1057 [U q] (lnL { l with first := q }) := by
  unfold lnL
  rw [show 1057 = (16 + (16 + (1024 + 0))) + 1 from rfl]
  exact Sets.tl (Sets.right (Sets.right (Sets.right Sets.z rfl) rfl) rfl)
theorem ln_drA : Sets (lnL l) 17 (mapN 16 fun _ => .bool false) (lnL { l with dr := fun _ => false }) := by
  unfold lnL
  rw [show 17 = (16 + 0) + 1 from rfl]
  exact Sets.tl (Sets.right (Sets.left Sets.whole) rfl)
end
end Go.Proofs.YtnilejkfbcnkkaaGreatDoor.V
end
section
set_option maxRecDepth 100000
set_option maxHeartbeats 4000000
namespace Go.Proofs.YtnilejkfbcnkkaaGreatDoor.V
open Go Go.RowKit
attribute [local irreducible] Yields cl blk pur rowc sv exC fo lnL mapN flatN

abbrev PN : Value := .pointer none
section
variable {g i : Nat} {l : Ln}
theorem f183n {i : Int} : CtV Tryz.prog 183 [PN, .int .i64 i] [] (I 1) := by
  refine w_ct Tryz.func183 rfl Tryz.ntmps183 rfl fun w B => ?_
  refine W ?_
  exact fin ⟨_, rfl, rfl, rfl⟩
theorem f183 (hi : i < l.m) : CtV Tryz.prog 183 [PP g, I i] [cl g (lnL l) 228] (I 0) := by
  refine w_ct Tryz.func183 rfl Tryz.ntmps183 rfl fun w B => ?_
  refine W ?_
  refine w_y rfl rfl rfl (y_ld1 rfl mem_ ln_m) ?_
  refine W ?_
  rw [decide_eq_false (show ¬ ((l.m : Int) = 0) by omega)]
  refine W ?_
  rw [decide_eq_false (show ¬ ((i : Int) < 0) by omega)]
  refine W ?_
  refine w_y rfl rfl rfl (y_ld1 rfl mem_ ln_m) ?_
  refine W ?_
  rw [decide_eq_false (show ¬ ((l.m : Int) ≤ i) by omega)]
  refine W ?_
  exact fin ⟨_, rfl, rfl, rfl⟩
theorem f124n {i : Int} : CtV Tryz.prog 124 [PN, .int .i64 i] [] (T [BV blk0, .bool false]) := by
  refine w_ct Tryz.func124 rfl Tryz.ntmps124 rfl fun w B => ?_
  refine W1 fun g4 => ?_
  refine cv (f183n (i := i)) ?_
  refine W ?_
  exact fin ⟨_, rfl, rfl, rfl⟩
theorem f124 (hi : i < l.m) (hm : l.m ≤ 16) : CtV Tryz.prog 124 [PP g, I i] [cl g (lnL l) 228] (if l.kn i then T [BV (l.bs i), .bool true] else T [BV blk0, .bool false]) := by
  refine w_ct Tryz.func124 rfl Tryz.ntmps124 rfl fun w B => ?_
  refine W1 fun g4 => ?_
  refine cv (f183 (g := g) (l := l) hi) ?_
  refine W ?_
  refine w_y rfl rfl rfl (y_ld1 rfl mem_ (ln_kn (by omega))) ?_
  cases hk : l.kn i
  · refine W ?_
    exact fin ⟨_, rfl, rfl, rfl⟩
  · refine W ?_
    refine w_y rfl rfl rfl (y_ldN rfl mem_ (ln_bs (by omega))) ?_
    refine W ?_
    exact fin ⟨_, rfl, rfl, rfl⟩
theorem f162 : CtV Tryz.prog 162 [PP g] [cl g (lnL l) 228] (U l.first) := by
  refine w_ct Tryz.func162 rfl Tryz.ntmps162 rfl fun w B => ?_
  refine W ?_
  refine w_y rfl rfl rfl (y_ld1 rfl mem_ ln_first) ?_
  refine W ?_
  exact fin ⟨_, rfl, rfl, rfl⟩
theorem f212n : CtV Tryz.prog 212 [PN] [] (I 1) := by
  refine w_ct Tryz.func212 rfl Tryz.ntmps212 rfl fun w B => ?_
  refine W ?_
  exact fin ⟨_, rfl, rfl, rfl⟩
def Ln.clean (l : Ln) : Ln := { l with dr := fun _ => false, first := 0 }
theorem f212 (hm : 0 < l.m) : Ct Tryz.prog 212 [PP g] [cl g (lnL l) 228] (fun v L => v = I 0 ∧ L = [cl g (lnL l.clean) 228]) := by
  refine w_ct Tryz.func212 rfl Tryz.ntmps212 rfl fun w B => ?_
  refine W ?_
  refine w_y rfl rfl rfl (y_ld1 rfl mem_ ln_m) ?_
  refine W ?_
  rw [decide_eq_false (show ¬ ((l.m : Int) = 0) by omega)]
  refine W ?_
  have hb : Tryz.prog.built 225 [] = some (mapN 16 fun _ => .bool false).toArray := by kernel_rfl
  refine w_y rfl rfl rfl (y_build (ps := []) (by simp) hb) ?_
  refine W ?_
  refine w_stN rfl rfl ⟨by intro u hu; unfold mapN at hu; obtain ⟨_, _, rfl⟩ := List.mem_map.1 hu; rfl⟩ inferInstance upd_ ln_drA ?_
  refine W ?_
  refine w_st1 (v := U 0) rfl rfl inferInstance upd_ (ln_fiS 0) ?_
  refine W ?_
  exact fin ⟨_, rfl, rfl, rfl⟩
theorem f185 (h1 : 1 ≤ i) (h2 : i ≤ 16) : Ct Tryz.prog 185 [I i] [] (fun v L => ∃ g, v = T [PP g, I 0] ∧ L = [cl g (lnL (.emp i)) 228]) := by
  refine w_ct Tryz.func185 rfl Tryz.ntmps185 rfl fun w B => ?_
  refine W ?_
  rw [decide_eq_false (show ¬ ((i : Int) < 1) by omega)]
  refine W ?_
  rw [decide_eq_false (show ¬ ((16 : Int) < i) by omega)]
  refine W ?_
  have hb : Tryz.prog.built 228 [(0, I i)] = some (lnL (.emp i)).toArray := by kernel_rfl
  refine w_y rfl rfl rfl (y_build (by rw [Array.toList_map]; exact pts_) hb) ?_
  refine W1 fun g => ?_
  exact fin ⟨_, rfl, g, rfl, rfl⟩
def Ln.learn (l : Ln) (i : Nat) (x : Blk) : Ln := if l.kn i then l else { l with kn := fset l.kn i true, bs := fset l.bs i x }
theorem f127 {x : Blk} (hi : i < l.m) (hm : l.m ≤ 16) : Ct Tryz.prog 127 [PP g, I i, BV x] [cl g (lnL l) 228] (fun v L => v = I 0 ∧ L = [cl g (lnL (l.learn i x)) 228]) := by
  refine w_ct Tryz.func127 rfl Tryz.ntmps127 rfl fun w B => ?_
  refine W1 fun g5 => ?_
  refine cv (f183 (g := g) (l := l) hi) ?_
  refine W ?_
  refine w_y rfl rfl rfl (y_ld1 rfl mem_ (ln_kn (by omega))) ?_
  cases hk : l.kn i
  · refine W ?_
    refine w_st1 rfl ev_ inferInstance upd_ (ln_knS (by omega) true) ?_
    refine W ?_
    refine w_stN rfl rfl inferInstance inferInstance upd_ (ln_bsS (by omega) x) ?_
    refine W ?_
    exact fin ⟨_, rfl, rfl, by unfold Ln.learn; rw [if_neg (by simp [hk])]⟩
  · refine W ?_
    exact fin ⟨_, rfl, rfl, by unfold Ln.learn; rw [if_pos hk]⟩
def Ln.put (l : Ln) (i : Nat) (x : Blk) (q : Nat) : Ln := { l with kn := fset l.kn i true, dr := fset l.dr i true, bs := fset l.bs i x, first := if l.first = 0 ∨ q < l.first then q else l.first }
theorem f207 {x : Blk} {q : Nat} (hi : i < l.m) (hm : l.m ≤ 16) (hq : 0 < q) : Ct Tryz.prog 207 [PP g, I i, BV x, U q] [cl g (lnL l) 228] (fun v L => v = I 0 ∧ L = [cl g (lnL (l.put i x q)) 228]) := by
  refine w_ct Tryz.func207 rfl Tryz.ntmps207 rfl fun w B => ?_
  refine W1 fun g5 => ?_
  refine cv (f183 (g := g) (l := l) hi) ?_
  refine W ?_
  rw [decide_eq_false (show ¬ ((q : Int) = 0) by omega)]
  refine W ?_
  refine w_st1 rfl ev_ inferInstance upd_ (ln_knS (by omega) true) ?_
  refine W ?_
  refine w_st1 rfl ev_ inferInstance upd_ (ln_drS (by omega) true) ?_
  refine W ?_
  refine w_stN rfl rfl inferInstance inferInstance upd_ (ln_bsS (by omega) x) ?_
  refine W ?_
  refine w_y rfl rfl rfl (y_ld1 rfl mem_ ln_first) ?_
  refine W ?_
  by_cases h0 : l.first = 0
  · rw [decide_eq_true (show ((l.first : Nat) : Int) = 0 by omega)]
    refine W ?_
    refine w_st1 rfl ev_ inferInstance upd_ (ln_fiS q) ?_
    refine W ?_
    exact fin ⟨_, rfl, rfl, by unfold Ln.put; rw [if_pos (.inl h0)]⟩
  · rw [decide_eq_false (show ¬ ((l.first : Nat) : Int) = 0 by omega)]
    refine W ?_
    refine w_y rfl rfl rfl (y_ld1 rfl mem_ ln_first) ?_
    refine W ?_
    by_cases h1 : q < l.first
    · rw [decide_eq_true (show (q : Int) < ((l.first : Nat) : Int) by omega)]
      refine W ?_
      refine w_st1 rfl ev_ inferInstance upd_ (ln_fiS q) ?_
      refine W ?_
      exact fin ⟨_, rfl, rfl, by unfold Ln.put; rw [if_pos (.inr h1)]⟩
    · rw [decide_eq_false (show ¬ (q : Int) < ((l.first : Nat) : Int) by omega)]
      refine W ?_
      exact fin ⟨_, rfl, rfl, by unfold Ln.put; rw [if_neg (fun h => h.elim h0 h1)]⟩
theorem f117 (hm : l.m ≤ 16) : Ct Tryz.prog 117 [PP g] [cl g (lnL l) 228] (fun v L => ∃ (s : List Nat) (a : Option Addr) (c : Nat), s = (List.range l.m).filter l.dr ∧ v = .slice a s.length c ∧ L = [cl g (lnL l) 228, sv eNat 3 s a c]) := by
  refine w_ct Tryz.func117 rfl Tryz.ntmps117 rfl fun w B => ?_
  refine W ?_
  refine w_y rfl rfl rfl (y_ld1 rfl mem_ ln_m) ?_
  refine W ?_
  refine g_nil eNat 3 rfl ?_
  refine w_loop (γ := Nat × List Nat × Option Addr × Nat) (fun ⟨j, s, a, c⟩ => [(0, PP g), (3, .slice a s.length c), (10, I l.m), (11, I j)]) (fun ⟨j, s, a, c⟩ => [sv eNat 3 s a c, cl g (lnL l) 228]) (fun ⟨j, s, a, c⟩ => j ≤ l.m ∧ s = (List.range j).filter l.dr) (fun x => l.m - x.1) (0, [], none, 0) sl_ ent_ ⟨Nat.zero_le _, rfl⟩ fun ⟨j, s, a, c⟩ B ⟨hj, hs⟩ => ?_
  dsimp only at hj hs ⊢
  have hsl : s.length ≤ j := by rw [hs]; exact Nat.le_trans (List.length_filter_le _ _) (by simp)
  refine W ?_
  refine w_if rfl (fun h => ?_) (fun h => ?_)
  · refine W ?_
    refine w_y rfl rfl rfl (y_ld1 rfl mem_ (ln_dr (by omega))) ?_
    cases hk : l.dr j
    · refine W ?_
      exact w_land rfl (w_round (j + 1, s, a, c) ⟨by omega, by rw [List.range_succ, List.filter_append, ← hs]; simp [hk]⟩ (by show l.m - (j + 1) < l.m - j; omega) sl_ ent_)
    · refine W ?_
      refine w_bs1 eNat j rfl rfl rfl (by decide) fun gt => ?_
      refine W ?_
      refine w_ap eNat (sel_ : Sel (sv eNat 3 s a c) _ _) (rd_row (show rowc eNat 3 [j] gt 1 ∈ _ from mem_)) (by simp; omega) (by simp; omega) fun a' c' => ?_
      refine W ?_
      exact w_land rfl (w_round (j + 1, s ++ [j], a', c') ⟨by omega, by rw [List.range_succ, List.filter_append, ← hs]; simp [hk]⟩ (by show l.m - (j + 1) < l.m - j; omega) sl_ ent_)
  · have : j = l.m := by omega
    subst this
    refine W ?_
    exact fin ⟨_, rfl, s, a, c, hs, rfl, rfl⟩
theorem f117n : CtV Tryz.prog 117 [PN] [] (.slice none 0 0) := by
  refine w_ct Tryz.func117 rfl Tryz.ntmps117 rfl fun w B => ?_
  refine W ?_
  exact fin ⟨_, rfl, rfl, rfl⟩
def Ln.drop (l : Ln) (i : Nat) : Ln := { l with kn := fset l.kn i false, dr := fset l.dr i false, bs := fset l.bs i blk0 }
theorem f209 (hi : i < l.m) (hm : l.m ≤ 16) : Ct Tryz.prog 209 [PP g, I i] [cl g (lnL l) 228] (fun v L => v = I 0 ∧ L = [cl g (lnL (l.drop i)) 228]) := by
  refine w_ct Tryz.func209 rfl Tryz.ntmps209 rfl fun w B => ?_
  refine W ?_
  refine cv (f183 (g := g) (l := l) hi) ?_
  refine W ?_
  refine w_st1 rfl ev_ inferInstance upd_ (ln_knS (by omega) false) ?_
  refine W ?_
  refine w_st1 rfl ev_ inferInstance upd_ (ln_drS (by omega) false) ?_
  refine W ?_
  refine w_stN rfl rfl inferInstance inferInstance upd_ (ln_bsS (by omega) blk0) ?_
  refine W ?_
  exact fin ⟨_, rfl, rfl, rfl⟩
end
end Go.Proofs.YtnilejkfbcnkkaaGreatDoor.V
end
section
set_option maxRecDepth 100000
set_option maxHeartbeats 4000000
namespace Go.Proofs.YtnilejkfbcnkkaaGreatDoor.V
open Go Go.RowKit Go.MapKept
attribute [local irreducible] Yields cl blk pur rowc sv exC fo

section
variable {α : Type} {f : α → Value}
def kvE (f : α → Value) (m : List (Nat × α)) : List (Value × Value) := m.map fun p => (I p.1, f p.2)
def lkp (m : List (Nat × α)) (k : Nat) : Option α := (m.find? fun p => p.1 = k).map (·.2)
structure MpR (f : α → Value) (m : List (Nat × α)) (es : Array MapEntry) (cl : Nat) : Prop where
  c : es.toList.map (fun e => (e.key, e.val)) = kvE f m
  s : Stamped es cl
  nd : (m.map Prod.fst).Nodup
def mpC (f : α → Value) (g : Nat) (m : List (Nat × α)) : Chunk := ⟨42, fun B => ∃ es cl, B = [(g, .map es cl)] ∧ MpR f m es cl⟩
theorem lkp_none {m : List (Nat × α)} {k : Nat} : lkp m k = none ↔ ∀ p ∈ m, p.1 ≠ k := by
  unfold lkp; simp [List.find?_eq_none]
theorem lkp_mem {m : List (Nat × α)} {k : Nat} {a : α} (h : lkp m k = some a) : (k, a) ∈ m := by
  unfold lkp at h
  obtain ⟨p, hp, rfl⟩ := Option.map_eq_some_iff.1 h
  have h1 := List.find?_some hp
  have h2 := List.mem_of_find?_eq_some hp
  simp at h1
  rw [← h1]; exact h2
theorem lkp_of {m : List (Nat × α)} {k : Nat} {a : α} (hnd : (m.map Prod.fst).Nodup) (h : (k, a) ∈ m) : lkp m k = some a := by
  induction m with
  | nil => cases h
  | cons p m ih =>
    simp only [List.map_cons, List.nodup_cons] at hnd
    rcases List.mem_cons.1 h with rfl | h
    · simp [lkp]
    · have : p.1 ≠ k := by rintro e; exact hnd.1 (List.mem_map.2 ⟨_, h, e.symm⟩)
      have := ih hnd.2 h
      unfold lkp at *
      rw [List.find?_cons_of_neg (by simpa using ‹p.1 ≠ k›)]; exact this
theorem find_lkp (k : Nat) (d : IntKind) : ∀ (mp : List (Nat × α)) (l : List MapEntry) (i : Nat), l.map (fun e => (e.key, e.val)) = kvE f mp →
    (lkp mp k = none ∧ Instr.findNow (.int d) (I k) l i = some none) ∨ ∃ j a, lkp mp k = some a ∧ mp[j]? = some (k, a) ∧ Instr.findNow (.int d) (I k) l i = some (some (i + j, f a))
  | [], l, i, h => by
    have : l = [] := by simpa [kvE] using h
    subst this
    exact .inl ⟨rfl, rfl⟩
  | p :: mp, l, i, h => by
    cases l with
    | nil => simp [kvE] at h
    | cons e l =>
      simp only [kvE, List.map_cons, List.cons.injEq, Prod.mk.injEq] at h
      obtain ⟨⟨hk, hv⟩, ht⟩ := h
      by_cases hp : p.1 = k
      · refine .inr ⟨0, p.2, by simp [lkp, hp], by simp [← hp], ?_⟩
        simp [Instr.findNow, hk, Instr.sameNow, hp, hv]
      · have hs : Instr.sameNow (.int d) (I k) e.key = some false := by
          rw [hk]; simp [Instr.sameNow]; omega
        rcases find_lkp k d mp l (i + 1) ht with ⟨h1, h2⟩ | ⟨j, g, h1, h2, h3⟩
        · exact .inl ⟨by simp [lkp, hp] at h1 ⊢; exact h1, by simp [Instr.findNow, hs, h2]⟩
        · refine .inr ⟨j + 1, g, by simp [lkp, hp] at h1 ⊢; exact h1, by simpa using h2, ?_⟩
          simp [Instr.findNow, hs, h3]; omega
/-- an entry, new or in an old one's place -/
def putL (m : List (Nat × α)) (k : Nat) (a : α) : List (Nat × α) := if (lkp m k).isSome then m.map fun p => if p.1 = k then (k, a) else p else m ++ [(k, a)]
def cutL (m : List (Nat × α)) (k : Nat) : List (Nat × α) := m.filter fun p => p.1 ≠ k
theorem putL_fst {m : List (Nat × α)} {k : Nat} {a : α} : (putL m k a).map Prod.fst = if (lkp m k).isSome then m.map Prod.fst else m.map Prod.fst ++ [k] := by
  unfold putL
  split
  · rw [List.map_map]
    exact List.map_congr_left fun p _ => by simp only [Function.comp]; split <;> simp_all
  · simp
theorem putL_nd {m : List (Nat × α)} {k : Nat} {a : α} (h : (m.map Prod.fst).Nodup) : ((putL m k a).map Prod.fst).Nodup := by
  rw [putL_fst]
  split
  · exact h
  · rename_i hn
    have hn : lkp m k = none := by simpa using hn
    rw [List.nodup_append]
    refine ⟨h, by simp, ?_⟩
    intro x hx y hy e
    simp at hy
    obtain ⟨p, hp, rfl⟩ := List.mem_map.1 hx
    exact lkp_none.1 hn p hp (by omega)
theorem lkp_putL {m : List (Nat × α)} {k k' : Nat} {a : α} : lkp (putL m k a) k' = if k' = k then some a else lkp m k' := by
  unfold putL
  split
  · rename_i hs
    induction m with
    | nil => simp [lkp] at hs
    | cons p m ih =>
      simp only [List.map_cons]
      by_cases hp : p.1 = k
      · rw [if_pos hp]
        by_cases hk : k' = k
        · subst hk; simp [lkp]
        · rw [if_neg hk]
          have e1 : ∀ (q : Nat × α) (l : List (Nat × α)), q.1 ≠ k' → lkp (q :: l) k' = lkp l k' := fun q l hq => by unfold lkp; rw [List.find?_cons_of_neg (by simpa using hq)]
          rw [e1 _ _ (show (k, a).1 ≠ k' from fun h => hk h.symm), e1 _ _ (by rw [hp]; exact fun h => hk h.symm)]
          clear ih hs
          induction m with
          | nil => rfl
          | cons q m ih =>
            simp only [List.map_cons]
            by_cases hq : q.1 = k
            · rw [if_pos hq, e1 _ _ (show (k, a).1 ≠ k' from fun h => hk h.symm), e1 _ _ (by rw [hq]; exact fun h => hk h.symm)]; exact ih
            · rw [if_neg hq]
              by_cases hq2 : q.1 = k'
              · simp [lkp, hq2]
              · rw [e1 _ _ hq2, e1 _ _ hq2]; exact ih
      · rw [if_neg hp]
        have hs' : (lkp m k).isSome = true := by
          have : lkp (p :: m) k = lkp m k := by unfold lkp; rw [List.find?_cons_of_neg (by simpa using hp)]
          rw [this] at hs; exact hs
        by_cases hq : p.1 = k'
        · have : k' ≠ k := by rintro rfl; exact hp hq
          simp [lkp, hq, this]
        · have e1 : ∀ (l : List (Nat × α)), lkp (p :: l) k' = lkp l k' := fun l => by unfold lkp; rw [List.find?_cons_of_neg (by simpa using hq)]
          rw [e1, e1]; exact ih hs'
  · rename_i hn
    have hn : lkp m k = none := by simpa using hn
    unfold lkp at *
    rw [List.find?_append]
    by_cases hk : k' = k
    · subst hk
      have : m.find? (fun p => decide (p.1 = k')) = none := by simpa using hn
      simp [this]
    · rw [if_neg hk]
      cases hf : m.find? (fun p => decide (p.1 = k')) with
      | some x => simp
      | none => simp; intro h; exact absurd h.symm hk
theorem cutL_nd {m : List (Nat × α)} {k : Nat} (h : (m.map Prod.fst).Nodup) : ((cutL m k).map Prod.fst).Nodup := h.sublist (List.filter_sublist.map _)
theorem lkp_cutL {m : List (Nat × α)} {k k' : Nat} : lkp (cutL m k) k' = if k' = k then none else lkp m k' := by
  unfold lkp cutL
  induction m with
  | nil => simp
  | cons p m ih =>
    by_cases hp : p.1 = k
    · rw [List.filter_cons_of_neg (by simp [hp]), ih]
      by_cases hk : k' = k
      · rw [if_pos hk, if_pos hk]
      · rw [if_neg hk, if_neg hk, List.find?_cons_of_neg (by simp; omega)]
    · rw [List.filter_cons_of_pos (by simpa using hp)]
      by_cases hq : p.1 = k'
      · rw [if_neg (by omega), List.find?_cons_of_pos (by simpa using hq), List.find?_cons_of_pos (by simpa using hq)]
      · rw [List.find?_cons_of_neg (by simpa using hq), List.find?_cons_of_neg (by simpa using hq), ih]
theorem cutL_none {m : List (Nat × α)} {k : Nat} (h : lkp m k = none) : cutL m k = m := by
  unfold cutL
  rw [List.filter_eq_self]
  intro p hp
  simpa using lkp_none.1 h p hp
theorem cutL_at {m : List (Nat × α)} {k j : Nat} {a : α} (hnd : (m.map Prod.fst).Nodup) (h : m[j]? = some (k, a)) : m.eraseIdx j = cutL m k := by
  unfold cutL
  induction m generalizing j with
  | nil => simp at h
  | cons p m ih =>
    simp only [List.map_cons, List.nodup_cons] at hnd
    cases j with
    | zero =>
      simp at h; subst h
      rw [List.eraseIdx_cons_zero, List.filter_cons_of_neg (by simp)]
      symm
      rw [List.filter_eq_self]
      intro p hp
      simp only [decide_eq_true_eq, ne_eq]; intro e; exact hnd.1 (List.mem_map.2 ⟨_, hp, e⟩)
    | succ j =>
      simp at h
      have hm := List.mem_of_getElem? h
      have : p.1 ≠ k := by rintro e; exact hnd.1 (List.mem_map.2 ⟨_, hm, e.symm⟩)
      rw [List.eraseIdx_cons_succ, List.filter_cons_of_pos (by simpa using this), ih hnd.2 h]
end
end Go.Proofs.YtnilejkfbcnkkaaGreatDoor.V
end
section
set_option maxRecDepth 100000
set_option maxHeartbeats 4000000
namespace Go.Proofs.YtnilejkfbcnkkaaGreatDoor.V
open Go Go.RowKit Go.MapKept
attribute [local irreducible] Yields cl pur rowc sv exC fo

class ZW (t : TypeId) (z : outParam Value) : Prop where h : (Tryz.prog.info? t).map (·.zero) = some (some z)
instance : ZW 171 (.pointer none) := ⟨by kernel_rfl⟩
instance : ZW 246 (.pointer none) := ⟨by kernel_rfl⟩
instance : ZW 196 (.pointer none) := ⟨by kernel_rfl⟩
instance : ZW 3 (.int .i64 0) := ⟨by kernel_rfl⟩
instance : ZW 51 (BV blk0) := ⟨by kernel_rfl⟩
def optV {α : Type} (f : α → Value) (z : Value) : Option α → Value
  | some a => f a
  | none => z
section
variable {α : Type} {f : α → Value} {n : Fp} {w0 w : World} {S : Nat → Prop} {X : Post} {R : Regs} {L K : Hp} {ks : List Fr} {kd : Kd} {ops : Array Oper} {rest : List Oper} {d : Nat} {dst : Option Tmp} {ty : TypeId} {pos : String} {after : Array Go.Edge} {gd : Option (Nat × Bool)} {g k : Nat} {m : List (Nat × α)} {mt et : TypeId}
theorem St.mp_open (hw : St w0 S L w) (hs : Sel (mpC f g m) L K) : ∃ es cl, MpR f m es cl ∧ St w0 S (V.blk g (.map es cl) :: K) w := by
  obtain ⟨B, ⟨B1, B2, rfl, ⟨es, cl, rfl, hr⟩, h2⟩, hw⟩ := hw.ent (.perm hs)
  exact ⟨es, cl, hr, _, ⟨_, B2, rfl, rfl, h2⟩, hw⟩
theorem ent_mp {es : Array MapEntry} {cl : Nat} (hr : MpR f m es cl) (h : Ent L (blk g (.map es cl) :: K)) : Ent L (mpC f g m :: K) := h.trans (by
  rintro B ⟨B1, B2, rfl, h1, h2⟩
  exact ⟨B1 ++ B2, [], by simp, B1, B2, rfl, ⟨es, cl, h1, hr⟩, h2⟩)
theorem St.mp (hw : St w0 S L w) (hm : mpC f g m ∈ L) : ∃ es cl, MpR f m es cl ∧ w.heap[g]? = some (.map es cl) := by
  obtain ⟨B, hs, hw⟩ := hw
  obtain ⟨B1, ⟨es, cl, rfl, hr⟩, h2⟩ := Sat.mem hm hs
  exact ⟨es, cl, hr, hw.at_ (g, .map es cl) (h2 _ (by simp))⟩
theorem MpR.size {es : Array MapEntry} {cl : Nat} (h : MpR f m es cl) : es.size = m.length := by
  have := congrArg List.length h.c
  simpa [kvE] using this
theorem run_lk {es : Array MapEntry} {cl : Nat} {z : Value} {b : Bool} (hm : Tryz.prog.underlying mt = some (.map 3 et)) (hz : (Tryz.prog.info? et).map (·.zero) = some (some z)) (hb : w.heap[g]? = some (.map es cl)) (hc : MpR f m es cl) :
    (Instr.lookup mt (.map (some g)) (I k) b).run Tryz.prog w = .ok (if b then .tuple #[optV f z (lkp m k), .bool (lkp m k).isSome] else optV f z (lkp m k)) w := by
  have hd : Tryz.prog.underlying 3 = some (.int .i64) := Tryz.underlying3
  have hkey : IsKey (.int .i64) (I k) := rfl
  have hzero : (zeroValue et).run Tryz.prog w = .ok z w := by
    cases hi : Tryz.prog.info? et with
    | none => simp [hi] at hz
    | some i =>
      have : i.zero = some z := by simpa [hi] using hz
      simp [zeroValue, typeInfo, hi, this]
  rcases find_lkp k .i64 m es.toList 0 hc.c with ⟨h1, h2⟩ | ⟨j, a, h1, _, h2⟩
  · cases b <;> simp [Instr.lookup, run_underlying hm, MapKept.run_getObj_map hb, run_checkKey hd hkey, run_findKey hd h2, Result.andThen, hzero, h1, optV]
  · cases b <;> simp [Instr.lookup, run_underlying hm, MapKept.run_getObj_map hb, run_checkKey hd hkey, run_findKey hd h2, Result.andThen, h1, optV]
theorem y_lk {x y : Operand} {z : Value} [hu : UT Tryz.prog mt (.map 3 et)] [hz : ZW et z] (hx : ev R x = .map (some g)) (hy : ev R y = I k) (hm : mpC f g m ∈ L) :
    Yields Tryz.prog w0 S L ⟨dst, .lookup mt x y true, ty, pos, after, gd⟩ R (.tuple #[optV f z (lkp m k), .bool (lkp m k).isSome]) :=
  y_sem fun w hw => by
    obtain ⟨es, cl, hr, hb⟩ := St.mp hw hm
    have h1 := run_lk (k := k) (b := true) hu.h hz.h hb hr
    simp [execOp, hx, hy, h1]
theorem y_lk0 {x y : Operand} {z : Value} [hu : UT Tryz.prog mt (.map 3 et)] [hz : ZW et z] (hx : ev R x = .map (some g)) (hy : ev R y = I k) (hm : mpC f g m ∈ L) :
    Yields Tryz.prog w0 S L ⟨dst, .lookup mt x y false, ty, pos, after, gd⟩ R (optV f z (lkp m k)) :=
  y_sem fun w hw => by
    obtain ⟨es, cl, hr, hb⟩ := St.mp hw hm
    have h1 := run_lk (k := k) (b := false) hu.h hz.h hb hr
    simp [execOp, hx, hy, h1]
theorem y_ml {x : Operand} [hu : UT Tryz.prog mt (.map 3 et)] (hx : ev R x = .map (some g)) (hm : mpC f g m ∈ L) :
    Yields Tryz.prog w0 S L ⟨dst, .call { callee := .builtin .len, args := #[x], argTypes := #[mt] }, ty, pos, after, gd⟩ R (I m.length) :=
  y_sem fun w hw => by
    obtain ⟨es, cl, hr, hb⟩ := St.mp hw hm
    have h1 := fun ty' => run_len_map (P := Tryz.prog) (w := w) mt ty' g es cl (by simp [Program.mapKeyOf, Program.mapElemOf, hu.h]) hb
    rw [show (I m.length : Value) = .int .i64 (es.size : Int) by rw [hr.size]]
    simp [execOp, resolve, hx, invoke, builtin, h1, goInt]
theorem y_mN {yt : TypeId} {x y : Operand} {r : Option Nat} [hu : UT Tryz.prog mt (.map 3 et)] (hx : ev R x = .map r) (hy : ev R y = .map none) : Yields Tryz.prog w0 S L ⟨dst, .binOp .eql mt x y yt, ty, pos, after, gd⟩ R (.bool r.isNone) :=
  y_val fun w => by
    have hg : (eqGuard .eql mt x y (.map r) (.map none)).run Tryz.prog w = .ok () w := by simp [eqGuard, run_underlying hu.h]
    simp [execOp, hx, hy, hg, run_eql_map_nil w mt 3 et r hu.h]
/-- an entry laid -/
theorem w_mu {x y z : Operand} {a : α} {v : Value} {L' : Hp} [hu : UT Tryz.prog mt (.map 3 et)] (hx : ev R x = .map (some g)) (hy : ev R y = I k) (hz : ev R z = v) (hv : v = f a) (hup : Upd L (mpC f g m) (mpC f g (putL m k a)) L')
    (h : Gl n w0 S X (.ops ops ks rest) R L') : Gl n w0 S X (.ops ops ks (⟨none, .mapUpdate mt x y z, ty, pos, after, none⟩ :: rest)) R L := by
  subst hv
  unfold Gl at *
  refine o_unit rfl rfl fun w hw => ?_
  obtain ⟨K, p, q⟩ := hup
  obtain ⟨es, cl, hr, hw⟩ := hw.mp_open p
  have hd : Tryz.prog.underlying 3 = some (.int .i64) := Tryz.underlying3
  have hkey : IsKey (.int .i64) (I k) := rfl
  have hb := hw.blk (List.mem_cons_self ..)
  have hm := hu.h
  have fold : ∀ es' cl' w', MpR f (putL m k a) es' cl' → w'.heap[g]? = some (.map es' cl') → (∀ j, j ≠ g → w'.heap[j]? = w.heap[j]?) → w'.heap.size = w.heap.size → w'.os = w.os → w'.tape = w.tape → w'.output = w.output → St w0 S L' w' := by
    intro es' cl' w' hr' h1 h2 h3 h4 h5 h6
    have := hw.write (L' := blk g (.map es' cl') :: K) (C := blk g (.map es cl)) (C' := blk g (.map es' cl')) (g := g) (o := .map es cl) (o' := .map es' cl') Upd.hd (fun B hB => hB) rfl h1 h2 h3 h4 h5 h6
    exact this.ent ((ent_mp hr' (.refl _)).trans (.perm q))
  rcases find_lkp k .i64 m es.toList 0 hr.c with ⟨h1, h2⟩ | ⟨j, a', h1, hj, h2⟩
  · refine ⟨{ w with heap := w.heap.setIfInBounds g (.map (es.push { key := I k, val := f a, born := cl }) (cl + 1)) }, L', ?_, ?_, h⟩
    · have hrun : (Instr.mapUpdate mt (.map (some g)) (I k) (f a)).run Tryz.prog w = .ok () { w with heap := w.heap.setIfInBounds g (.map (es.push { key := I k, val := f a, born := cl }) (cl + 1)) } := by
        simp [Instr.mapUpdate, run_underlying hm, MapKept.run_getObj_map hb, run_checkKey hd hkey, run_findKey hd h2, run_setObj_map _ hb, Result.andThen]
      simp [execOp, hx, hy, hz, hrun]
    · refine fold _ _ _ ⟨?_, ?_, putL_nd hr.nd⟩ (heap_set hb).1 (heap_set hb).2 (by simp) rfl rfl rfl
      · unfold putL
        rw [if_neg (by simp [h1]), Array.toList_push, List.map_append, hr.c]
        simp [kvE]
      · refine stamped_push hr.s fun e he => ?_
        have : (e.key, e.val) ∈ kvE f m := by rw [← hr.c]; exact List.mem_map.2 ⟨e, he, rfl⟩
        unfold kvE at this
        obtain ⟨q, hq, e1⟩ := List.mem_map.1 this
        injection e1 with e1 _
        rw [← e1]
        intro e2
        injection e2 with _ e2
        exact lkp_none.1 h1 q hq (by omega)
  · have h2 : Instr.findNow (.int .i64) (I k) es.toList 0 = some (some (j, f a')) := by simpa using h2
    have hjs : j < es.size := by rw [hr.size]; exact (List.getElem?_eq_some_iff.1 hj).1
    have hkj : es[j].key = I k := by
      have : (es.toList.map (fun e => (e.key, e.val)))[j]? = some (I k, f a') := by rw [hr.c]; simp [kvE, hj]
      rw [List.getElem?_map, Array.getElem?_toList, Array.getElem?_eq_getElem hjs] at this
      simp only [Option.map_some, Option.some.injEq, Prod.mk.injEq] at this
      exact this.1
    refine ⟨{ w with heap := w.heap.setIfInBounds g (.map (es.modify j fun e => { e with key := I k, val := f a }) cl) }, L', ?_, ?_, h⟩
    · have hrun : (Instr.mapUpdate mt (.map (some g)) (I k) (f a)).run Tryz.prog w = .ok () { w with heap := w.heap.setIfInBounds g (.map (es.modify j fun e => { e with key := I k, val := f a }) cl) } := by
        have hjj : es[j]? = some es[j] := Array.getElem?_eq_getElem hjs
        simp [Instr.mapUpdate, run_underlying hm, MapKept.run_getObj_map hb, run_checkKey hd hkey, run_findKey hd h2, hjj, hkj, run_keyThatStays hkey, run_setObj_map _ hb, Result.andThen]
      simp [execOp, hx, hy, hz, hrun]
    · refine fold _ _ _ ⟨?_, ?_, putL_nd hr.nd⟩ (heap_set hb).1 (heap_set hb).2 (by simp) rfl rfl rfl
      · unfold putL
        rw [if_pos (by simp [h1])]
        refine List.ext_getElem? fun i => ?_
        have hi := congrArg (fun l => l[i]?) hr.c
        simp only [kvE, List.getElem?_map, Array.getElem?_toList] at hi
        simp only [kvE, List.getElem?_map, Array.getElem?_toList, Array.getElem?_modify]
        by_cases e : j = i
        · subst e
          rw [hj, Array.getElem?_eq_getElem hjs]; simp
        · rw [if_neg e, hi]
          cases hmi : m[i]? with
          | none => rfl
          | some p =>
            have : p.1 ≠ k := by
              intro e2
              have h3 := (List.getElem?_eq_some_iff.1 hj)
              have h4 := (List.getElem?_eq_some_iff.1 hmi)
              have e5 : (m.map Prod.fst)[j]'(by simpa using h3.1) = (m.map Prod.fst)[i]'(by simpa using h4.1) := by simp [h3.2, h4.2, e2]
              exact e ((List.getElem_inj hr.nd).1 e5)
            simp [this]
      · refine stamped_modify hr.s _ _ (fun _ _ => rfl) fun e _ he => ?_
        rw [Array.getElem?_eq_getElem hjs] at he
        cases he; exact hkj.symm
/-- an entry struck -/
theorem w_md {x y : Operand} {L' : Hp} {kt : TypeId} {dd : Option Tmp} [hu : UT Tryz.prog mt (.map 3 et)] (hx : ev R x = .map (some g)) (hy : ev R y = I k) (hd' : dok n dd = true) (hup : Upd L (mpC f g m) (mpC f g (cutL m k)) L')
    (h : Gl n w0 S X (.ops ops ks rest) (put R dd (T [])) L') : Gl n w0 S X (.ops ops ks (⟨dd, .call { callee := .builtin .delete, args := #[x, y], argTypes := #[mt, kt] }, ty, pos, after, none⟩ :: rest)) R L := by
  unfold Gl at *
  refine o_op rfl hd' fun w hw => ?_
  obtain ⟨K, p, q⟩ := hup
  obtain ⟨es, cl, hr, hw⟩ := hw.mp_open p
  have hd : Tryz.prog.underlying 3 = some (.int .i64) := Tryz.underlying3
  have hkey : IsKey (.int .i64) (I k) := rfl
  have hb := hw.blk (List.mem_cons_self ..)
  have hm := hu.h
  have fold : ∀ es' cl' w', MpR f (cutL m k) es' cl' → w'.heap[g]? = some (.map es' cl') → (∀ j, j ≠ g → w'.heap[j]? = w.heap[j]?) → w'.heap.size = w.heap.size → w'.os = w.os → w'.tape = w.tape → w'.output = w.output → St w0 S L' w' := by
    intro es' cl' w' hr' h1 h2 h3 h4 h5 h6
    have := hw.write (L' := blk g (.map es' cl') :: K) (C := blk g (.map es cl)) (C' := blk g (.map es' cl')) (g := g) (o := .map es cl) (o' := .map es' cl') Upd.hd (fun B hB => hB) rfl h1 h2 h3 h4 h5 h6
    exact this.ent ((ent_mp hr' (.refl _)).trans (.perm q))
  rcases find_lkp k .i64 m es.toList 0 hr.c with ⟨h1, h2⟩ | ⟨j, a', h1, hj, h2⟩
  · have hrun : ∀ ty', (Builtin.delete_ #[mt, kt] ty' #[.map (some g), I k]).run Tryz.prog w = .ok (T []) { w with heap := w.heap.setIfInBounds g (.map es cl) } := fun ty' => by
      simp [Builtin.delete_, run_underlying hm, MapKept.run_getObj_map hb, run_checkKey hd hkey, run_findKey hd h2, run_setObj_map _ hb, Result.andThen]
    refine ⟨T [], _, L', by simp [execOp, resolve, hx, hy, invoke, builtin, hrun]; rfl, ?_, h⟩
    exact fold _ _ _ (by rw [cutL_none h1]; exact hr) (heap_set hb).1 (heap_set hb).2 (by simp) rfl rfl rfl
  · have h2 : Instr.findNow (.int .i64) (I k) es.toList 0 = some (some (j, f a')) := by simpa using h2
    have hrun : ∀ ty', (Builtin.delete_ #[mt, kt] ty' #[.map (some g), I k]).run Tryz.prog w = .ok (T []) { w with heap := w.heap.setIfInBounds g (.map (es.eraseIdxIfInBounds j) cl) } := fun ty' => by
      simp [Builtin.delete_, run_underlying hm, MapKept.run_getObj_map hb, run_checkKey hd hkey, run_findKey hd h2, run_setObj_map _ hb, Result.andThen]
    refine ⟨T [], _, L', by simp [execOp, resolve, hx, hy, invoke, builtin, hrun]; rfl, ?_, h⟩
    refine fold _ _ _ ⟨?_, stamped_erase hr.s j, cutL_nd hr.nd⟩ (heap_set hb).1 (heap_set hb).2 (by simp) rfl rfl rfl
    rw [Array.toList_eraseIdxIfInBounds, ← cutL_at hr.nd hj]
    rw [show ∀ l : List MapEntry, (l.eraseIdx j).map (fun e => (e.key, e.val)) = (l.map (fun e => (e.key, e.val))).eraseIdx j from fun l => Go.ChangeMaps.map_eraseIdx _ l j, hr.c]
    unfold kvE
    rw [Go.ChangeMaps.map_eraseIdx]
/-- a new map -/
theorem w_mm (f : α → Value) (hd : decide (d < n.n) = true) (h : ∀ g, Gl n w0 S X (.ops ops ks rest) (upd R d (.map (some g))) (mpC f g [] :: L)) : Gl n w0 S X (.ops ops ks (⟨some d, .makeMap mt none, ty, pos, after, none⟩ :: rest)) R L := by
  unfold Gl at *
  refine o_op rfl hd fun w hw => ⟨.map (some w.heap.size), w.alloc (.map #[] 0), mpC f w.heap.size [] :: L, by simp [execOp, Instr.makeMap, Result.andThen], ?_, h _⟩
  exact (hw.alloc (.map #[] 0)).ent (ent_mp ⟨rfl, stamped_empty 0, by simp⟩ (.refl _))
end
end Go.Proofs.YtnilejkfbcnkkaaGreatDoor.V
end
section
set_option maxRecDepth 100000
set_option maxHeartbeats 4000000
namespace Go.Proofs.YtnilejkfbcnkkaaGreatDoor.V
open Go Go.RowKit Go.MapKept
attribute [local irreducible] Yields cl pur rowc sv exC fo

section
variable {α : Type} {f : α → Value} {n : Fp} {w0 w : World} {S : Nat → Prop} {X : Post} {R : Regs} {L K : Hp} {ks : List Fr} {kd : Kd} {ops : Array Oper} {rest : List Oper} {d : Nat} {dst : Option Tmp} {ty : TypeId} {pos : String} {after : Array Go.Edge} {gd : Option (Nat × Bool)} {g gi : Nat} {m rem : List (Nat × α)} {mt et : TypeId} {cur : Option (Nat × α)}
structure RgR (f : α → Value) (m : List (Nat × α)) (cur : Option (Nat × α)) (rem : List (Nat × α)) (es : Array MapEntry) (cl : Nat) (seen : Array Nat) : Prop where
  mp : MpR f m es cl
  left : (leftOf es seen).toList.map (fun e => (e.key, e.val)) = kvE f rem
  cur : ∀ p, cur = some p → ∃ e ∈ es.toList, ∃ s' : Array Nat, seen = s'.push e.born ∧ (e.key, e.val) = (I p.1, f p.2)
/-- a map that is ranged over: what came out last, what is left -/
def rgC (f : α → Value) (gi g : Nat) (m : List (Nat × α)) (cur : Option (Nat × α)) (rem : List (Nat × α)) : Chunk :=
  ⟨43, fun B => ∃ es cl seen, B = [(g, .map es cl), (gi, .mapIter (some g) cl seen cl)] ∧ RgR f m cur rem es cl seen⟩
theorem St.rg_open (hw : St w0 S L w) (hs : Sel (rgC f gi g m cur rem) L K) : ∃ es cl seen, RgR f m cur rem es cl seen ∧ St w0 S (V.blk gi (.mapIter (some g) cl seen cl) :: V.blk g (.map es cl) :: K) w := by
  obtain ⟨B, ⟨B1, B2, rfl, ⟨es, cl, seen, rfl, hr⟩, h2⟩, hw⟩ := hw.ent (.perm hs)
  refine ⟨es, cl, seen, hr, _, ⟨[(gi, _)], _, rfl, rfl, [(g, _)], B2, rfl, rfl, h2⟩, hw.perm ?_⟩
  exact List.Perm.swap _ _ _
theorem ent_rg {es : Array MapEntry} {cl : Nat} {seen : Array Nat} (hr : RgR f m cur rem es cl seen) (h : Ent L (V.blk gi (.mapIter (some g) cl seen cl) :: V.blk g (.map es cl) :: K)) : Ent L (rgC f gi g m cur rem :: K) := h.trans (by
  rintro B ⟨B1, B2, rfl, h1, B3, B4, rfl, h3, h4⟩
  have h1 : B1 = _ := h1
  have h3 : B3 = _ := h3
  subst h1 h3
  exact ⟨[(g, _), (gi, _)] ++ B4, [], by rw [List.append_nil]; exact List.Perm.swap _ _ _, _, B4, rfl, ⟨es, cl, seen, rfl, hr⟩, h4⟩)
theorem ent_rgm (h : Ent L (rgC f gi g m cur rem :: K)) : Ent L (mpC f g m :: K) := h.trans (by
  rintro B ⟨B1, B2, rfl, ⟨es, cl, seen, rfl, hr⟩, h2⟩
  refine ⟨[(g, .map es cl)] ++ B2, [(gi, .mapIter (some g) cl seen cl)], ?_, _, B2, rfl, ⟨es, cl, rfl, hr.mp⟩, h2⟩
  simp only [List.singleton_append, List.cons_append, List.nil_append]
  exact List.Perm.cons _ (List.perm_append_singleton _ _))
theorem w_rg {x : Operand} [hu : UT Tryz.prog mt (.map 3 et)] (hd : decide (d < n.n) = true) (hx : ev R x = .map (some g)) (hs : Sel (mpC f g m) L K)
    (h : ∀ gi, Gl n w0 S X (.ops ops ks rest) (upd R d (PP gi)) (rgC f gi g m none m :: K)) : Gl n w0 S X (.ops ops ks (⟨some d, .range mt x, ty, pos, after, none⟩ :: rest)) R L := by
  unfold Gl at *
  refine o_op rfl hd fun w hw => ?_
  obtain ⟨es, cl, hr, hw⟩ := hw.mp_open hs
  have hb := hw.blk (List.mem_cons_self ..)
  refine ⟨PP w.heap.size, w.alloc (.mapIter (some g) cl #[] cl), rgC f w.heap.size g m none m :: K, ?_, ?_, h _⟩
  · have := run_range_map (P := Tryz.prog) w mt 3 et g es cl hu.h hb
    simp [execOp, hx, this]
  · refine (hw.alloc (.mapIter (some g) cl #[] cl)).ent (ent_rg ⟨hr, ?_, fun p hp => by cases hp⟩ (.refl _))
    rw [← hr.c]
    simp only [leftOf, Array.toList_filter]
    congr 1
    rw [List.filter_eq_self]
    intro a _; simp
theorem erase_born {e : MapEntry} : ∀ {l : List MapEntry} {j : Nat}, (l.map (·.born)).Nodup → l[j]? = some e → l.filter (fun x => x.born != e.born) = l.eraseIdx j
  | [], j, _, h => by simp at h
  | x :: l, 0, hn, h => by
    simp at h; subst h
    simp only [List.map_cons, List.nodup_cons] at hn
    rw [List.eraseIdx_cons_zero, List.filter_cons_of_neg (by simp), List.filter_eq_self]
    intro y hy
    simp only [bne_iff_ne, ne_eq]
    intro e; exact hn.1 (List.mem_map.2 ⟨y, hy, e⟩)
  | x :: l, j + 1, hn, h => by
    simp at h
    simp only [List.map_cons, List.nodup_cons] at hn
    have hm := List.mem_of_getElem? h
    rw [List.eraseIdx_cons_succ, List.filter_cons_of_pos, erase_born hn.2 h]
    simp only [bne_iff_ne, ne_eq]
    intro e2; exact hn.1 (List.mem_map.2 ⟨e, hm, e2.symm⟩)
theorem left_push (es : Array MapEntry) (seen : Array Nat) (b : Nat) : (leftOf es (seen.push b)).toList = (leftOf es seen).toList.filter (fun x => x.born != b) := by
  unfold leftOf
  simp only [Array.toList_filter, List.filter_filter]
  refine List.filter_congr fun x _ => ?_
  rw [Bool.eq_iff_iff]
  simp [Array.mem_push]
  constructor
  · intro h; exact ⟨fun e => h.2 e, h.1⟩
  · intro h; exact ⟨h.2, fun e => h.1 e⟩
/-- a step: none is left, or one of those that are -/
theorem w_nx {x : Operand} (hd : decide (d < n.n) = true) (hx : ev R x = PP gi) (hs : Sel (rgC f gi g m cur rem) L K)
    (h0 : rem = [] → Gl n w0 S X (.ops ops ks rest) (upd R d (T [.bool false])) (rgC f gi g m cur rem :: K))
    (h1 : ∀ p rem', rem.Perm (p :: rem') → Gl n w0 S X (.ops ops ks rest) (upd R d (T [.bool true, I p.1, f p.2])) (rgC f gi g m (some p) rem' :: K)) :
    Gl n w0 S X (.ops ops ks (⟨some d, .next x false, ty, pos, after, none⟩ :: rest)) R L := by
  unfold Gl at *
  refine o_op rfl hd fun w hw => ?_
  obtain ⟨es, cl, seen, hr, hw⟩ := hw.rg_open hs
  have hi := hw.blk (List.mem_cons_self ..)
  have hb := hw.blk (List.mem_cons_of_mem _ (List.mem_cons_self ..))
  rcases run_next_at (P := Tryz.prog) w ty gi g cl cl seen es cl hi hb hr.mp.s.1 (Nat.le_refl _) with ⟨h2, h3⟩ | ⟨e, he, w1, hw1, h3⟩
  · have hrem : rem = [] := by
      have := congrArg List.length hr.left
      simp only [List.length_map, kvE, Array.length_toList] at this
      exact List.eq_nil_of_length_eq_zero (by omega)
    refine ⟨T [.bool false], w, rgC f gi g m cur rem :: K, ?_, hw.ent (ent_rg hr (.refl _)), h0 hrem⟩
    simp only [PP] at hx
    simp [execOp, hx, h3]
  · obtain ⟨j, hj⟩ := List.getElem?_of_mem he
    have hjr : ∃ p, rem[j]? = some p ∧ (e.key, e.val) = (I p.1, f p.2) := by
      have := congrArg (fun l => l[j]?) hr.left
      simp only [List.getElem?_map, hj, kvE, Option.map_some] at this
      cases hp : rem[j]? with
      | none => rw [hp] at this; cases this
      | some p => rw [hp] at this; exact ⟨p, rfl, by simpa using this⟩
    obtain ⟨p, hp, hkv⟩ := hjr
    have hes : e ∈ es.toList := by
      have : e ∈ (leftOf es seen).toList := he
      unfold leftOf at this
      simp only [Array.toList_filter] at this
      exact (List.mem_filter.1 this).1
    refine ⟨T [.bool true, I p.1, f p.2], Go.ChangeMaps.setBlock w1 gi (.mapIter (some g) cl (seen.push e.born) cl), rgC f gi g m (some p) (rem.eraseIdx j) :: K, ?_, ?_, h1 p _ (perm_erase hp)⟩
    · simp only [PP] at hx
      injection hkv with hk hv
      simp [execOp, hx, h3, hk, hv]
    · have hw2 : St w0 S (V.blk gi (.mapIter (some g) cl seen cl) :: V.blk g (.map es cl) :: K) w1 := by
        rcases hw1 with rfl | rfl
        · exact hw
        · exact hw.drew
      have hi1 := hw2.blk (List.mem_cons_self ..)
      have hw3 := hw2.write (w' := Go.ChangeMaps.setBlock w1 gi (.mapIter (some g) cl (seen.push e.born) cl)) (L' := V.blk gi (.mapIter (some g) cl (seen.push e.born) cl) :: V.blk g (.map es cl) :: K) (C := V.blk gi (.mapIter (some g) cl seen cl)) (C' := V.blk gi (.mapIter (some g) cl (seen.push e.born) cl)) (g := gi) Upd.hd (fun B hB => hB) rfl (heap_set hi1).1 (heap_set hi1).2 (by simp [Go.ChangeMaps.setBlock]) rfl rfl rfl
      refine hw3.ent (ent_rg ⟨hr.mp, ?_, ?_⟩ (.refl _))
      · have hnd : ((leftOf es seen).toList.map (·.born)).Nodup := by
          unfold leftOf
          simp only [Array.toList_filter]
          exact hr.mp.s.2.1.sublist (List.filter_sublist.map _)
        rw [left_push, erase_born hnd hj, Go.ChangeMaps.map_eraseIdx, hr.left]
        unfold kvE
        rw [Go.ChangeMaps.map_eraseIdx]
      · intro p' hp'
        cases hp'
        exact ⟨e, hes, seen, rfl, hkv⟩
theorem y_en {x : Operand} {p : Nat × α} (hx : ev R x = PP gi) (hm : rgC f gi g m (some p) rem ∈ L) :
    Yields Tryz.prog w0 S L ⟨dst, .entry x, ty, pos, after, gd⟩ R (T [I p.1, f p.2]) :=
  y_sem fun w hw => by
    obtain ⟨L1, L2, rfl⟩ := List.append_of_mem hm
    obtain ⟨es, cl, seen, hr, hw⟩ := hw.rg_open (K := L1 ++ L2) (List.perm_middle)
    have hi := hw.blk (List.mem_cons_self ..)
    have hb := hw.blk (List.mem_cons_of_mem _ (List.mem_cons_self ..))
    obtain ⟨e, he, s', rfl, hkv⟩ := hr.cur p rfl
    have h1 := run_entry_at (P := Tryz.prog) w gi g cl s' es cl e hi hb he hr.mp.s.2.1
    injection hkv with hk hv
    simp only [PP] at hx
    simp [execOp, hx, h1, hk, hv]
end
end Go.Proofs.YtnilejkfbcnkkaaGreatDoor.V
end
