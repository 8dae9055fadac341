/- Proved: a member's superblock: that it comes through; room in the log; what makes a record whole: that it comes through; the log's superblock: that it comes through; more rules of the walk: slices that are made with room, elements turned in part, new memory in regions in any order; records: that they come through; the conditions stand in the statements. -/
import Derived.Test.YtnilejkfbcnkkaaGreatDoorM04
set_option linter.unusedVariables false
set_option linter.unusedSimpArgs false
set_option linter.unusedSectionVars false
section
set_option maxRecDepth 100000
namespace Go.Proofs.YtnilejkfbcnkkaaGreatDoor.V
open Go Go.RowKit
attribute [local irreducible] Yields cl blk pur rowc sv exC fo

/-- a roster of any numbers -/
structure Rz where
  m : Int
  s : Int
  r : Int
  st : Nat → Int
  cur : Int
  gone : Bool
abbrev rzL (q : Rz) : List Value := [.int .i64 q.m, .int .i64 q.s, .int .i64 q.r, .int .u8 (q.st 0), .int .u8 (q.st 1), .int .u8 (q.st 2), .int .u8 (q.st 3), .int .u8 (q.st 4), .int .u8 (q.st 5), .int .u8 (q.st 6), .int .u8 (q.st 7), .int .u8 (q.st 8), .int .u8 (q.st 9), .int .u8 (q.st 10), .int .u8 (q.st 11), .int .u8 (q.st 12), .int .u8 (q.st 13), .int .u8 (q.st 14), .int .u8 (q.st 15), .int .i64 q.cur, .bool q.gone]
theorem rzAt {q : Nat → Int} {j : Nat} (hj : j < 16) : ([ .int .u8 (q 0), .int .u8 (q 1), .int .u8 (q 2), .int .u8 (q 3), .int .u8 (q 4), .int .u8 (q 5), .int .u8 (q 6), .int .u8 (q 7), .int .u8 (q 8), .int .u8 (q 9), .int .u8 (q 10), .int .u8 (q 11), .int .u8 (q 12), .int .u8 (q 13), .int .u8 (q 14), .int .u8 (q 15)] : List Value).toArray[(j : Int).toNat]? = some (.int .u8 (q j)) := by
  match j, hj with
  | 0, _ | 1, _ | 2, _ | 3, _ | 4, _ | 5, _ | 6, _ | 7, _ | 8, _ | 9, _ | 10, _ | 11, _ | 12, _ | 13, _ | 14, _ | 15, _ => rfl
  | j + 16, h => omega
def Ros.z (r : Ros) : Rz := ⟨r.g.m, r.g.s, r.g.r, fun i => r.st i, r.cur, r.gone⟩
def someB (v : Value) : Prop := ∃ b : Bool, v = .bool b
theorem f71z {m s r : Int} : Ct Tryz.prog 71 [A [.int .i64 m, .int .i64 s, .int .i64 r]] [] (fun v L => (∃ b : Bool, v = .bool b ∧ (b = true → 3 ≤ m ∧ m ≤ 16 ∧ 1 ≤ s ∧ s ≤ 64)) ∧ L = []) := by
  refine w_ct Tryz.func71 rfl Tryz.ntmps71 rfl fun w B => ?_
  refine W1 fun g1 => ?_
  refine cv f120 ?_
  by_cases h1 : 3 ≤ m ∧ m ≤ 16
  · rw [decide_eq_true h1]
    refine W ?_
    refine cv f120 ?_
    by_cases h2 : 1 ≤ s ∧ s ≤ 64
    · rw [decide_eq_true h2]
      refine W ?_
      refine cv f120 ?_
      refine W ?_
      exact fin ⟨_, rfl, ⟨_, rfl, fun _ => ⟨h1.1, h1.2, h2.1, h2.2⟩⟩, rfl⟩
    · rw [decide_eq_false h2]
      refine W ?_
      exact fin ⟨_, rfl, ⟨false, rfl, fun h => by cases h⟩, rfl⟩
  · rw [decide_eq_false h1]
    refine W ?_
    exact fin ⟨_, rfl, ⟨false, rfl, fun h => by cases h⟩, rfl⟩
theorem f263 {q : Rz} : Ct Tryz.prog 263 [A (rzL q)] [] (fun v L => someB v ∧ L = []) := by
  refine w_ct Tryz.func263 rfl Tryz.ntmps263 rfl fun w B => ?_
  refine W1 fun g1 => ?_
  refine cl' f71z ?_
  rintro _ _ ⟨⟨b, rfl, hb⟩, rfl⟩
  cases b
  · refine W ?_
    exact fin ⟨_, rfl, ⟨_, rfl⟩, rfl⟩
  refine W ?_
  refine w_loop (γ := Nat × Nat) (fun ⟨j, k⟩ => [(1, PP g1), (3, I k), (11, A [.int .u8 (q.st 0), .int .u8 (q.st 1), .int .u8 (q.st 2), .int .u8 (q.st 3), .int .u8 (q.st 4), .int .u8 (q.st 5), .int .u8 (q.st 6), .int .u8 (q.st 7), .int .u8 (q.st 8), .int .u8 (q.st 9), .int .u8 (q.st 10), .int .u8 (q.st 11), .int .u8 (q.st 12), .int .u8 (q.st 13), .int .u8 (q.st 14), .int .u8 (q.st 15)]), (12, I j)]) (fun _ => [cl g1 (rzL q) 92]) (fun x => x.1 ≤ 16 ∧ x.2 ≤ x.1) (fun x => 16 - x.1) (0, 0) sl_ ent_ ⟨Nat.zero_le _, Nat.zero_le _⟩ fun ⟨j, k⟩ B ⟨hj, hk⟩ => ?_
  dsimp only at hj hk ⊢
  refine W ?_
  refine w_if rfl (fun h => ?_) (fun h => ?_)
  · refine w_skip ?_
    refine W ?_
    refine w_y rfl rfl rfl (y_ixVal rfl rfl (UT.h (P := Tryz.prog)) (SZ.h (P := Tryz.prog)) (UT.h (P := Tryz.prog)) rfl (by omega) (by omega) (rzAt (q := q.st) (by omega))) ?_
    refine W ?_
    have key : ∀ b : Bool, b = true ∨ b = false := by intro b; cases b <;> simp
    by_cases h1 : 2 < q.st j
    · rw [decide_eq_true h1]
      refine W ?_
      exact fin ⟨_, rfl, ⟨_, rfl⟩, rfl⟩
    rw [decide_eq_false h1]
    refine W ?_
    have fin1 : ∀ (P : Prop), True := fun _ => trivial
    by_cases h2 : q.m ≤ j
    · rw [decide_eq_true h2]
      refine W ?_
      by_cases h3 : q.st j ≠ 0
      · rw [decide_eq_true h3]
        refine W ?_
        exact fin ⟨_, rfl, ⟨_, rfl⟩, rfl⟩
      · rw [decide_eq_false h3]
        refine W ?_
        refine w_if rfl (fun h4 => ?_) (fun h4 => ?_)
        · omega
        · refine W ?_
          exact w_land rfl (w_round (j + 1, k) ⟨by show j + 1 ≤ 16; omega, by show k ≤ j + 1; omega⟩ (by show 16 - (j + 1) < 16 - j; omega) sl_ ent_)
    · rw [decide_eq_false h2]
      refine W ?_
      refine w_if rfl (fun h4 => ?_) (fun h4 => ?_)
      · refine W ?_
        exact w_land rfl (w_round (j + 1, k + 1) ⟨by show j + 1 ≤ 16; omega, by show k + 1 ≤ j + 1; omega⟩ (by show 16 - (j + 1) < 16 - j; omega) sl_ ent_)
      · refine W ?_
        exact w_land rfl (w_round (j + 1, k) ⟨by show j + 1 ≤ 16; omega, by show k ≤ j + 1; omega⟩ (by show 16 - (j + 1) < 16 - j; omega) sl_ ent_)
  · refine W ?_
    by_cases h1 : (k : Int) ≤ 1
    · rw [decide_eq_true h1]
      refine W ?_
      by_cases h2 : 0 ≤ q.cur
      · rw [decide_eq_true h2]
        refine W ?_
        by_cases h3 : q.cur < q.s
        · rw [decide_eq_true h3]
          refine W ?_
          by_cases h4 : (k : Int) = 1
          · rw [decide_eq_true h4]
            refine W ?_
            exact fin ⟨_, rfl, ⟨_, rfl⟩, rfl⟩
          · rw [decide_eq_false h4]
            refine W ?_
            exact fin ⟨_, rfl, ⟨_, rfl⟩, rfl⟩
        · rw [decide_eq_false h3]
          refine W ?_
          exact fin ⟨_, rfl, ⟨_, rfl⟩, rfl⟩
      · rw [decide_eq_false h2]
        refine W ?_
        exact fin ⟨_, rfl, ⟨_, rfl⟩, rfl⟩
    · rw [decide_eq_false h1]
      refine W ?_
      exact fin ⟨_, rfl, ⟨_, rfl⟩, rfl⟩
theorem f241 {n : Int} : Ct Tryz.prog 241 [.int .u64 n] [] (fun v L => (∃ b : Bool, v = .bool b ∧ (b = true → 1 ≤ n)) ∧ L = []) := by
  refine w_ct Tryz.func241 rfl Tryz.ntmps241 rfl fun w B => ?_
  refine W ?_
  by_cases h1 : 1 ≤ n
  · rw [decide_eq_true h1]
    refine W ?_
    exact fin ⟨_, rfl, ⟨_, rfl, fun _ => h1⟩, rfl⟩
  · rw [decide_eq_false h1]
    refine W ?_
    exact fin ⟨_, rfl, ⟨false, rfl, fun h => by cases h⟩, rfl⟩
theorem f242 {id self : Int} {q : Rz} : Ct Tryz.prog 242 [A (.int .u64 id :: .int .i64 self :: rzL q)] [] (fun v L => someB v ∧ L = []) := by
  refine w_ct Tryz.func242 rfl Tryz.ntmps242 rfl fun w B => ?_
  refine W1 fun g1 => ?_
  by_cases h1 : id ≠ 0
  · rw [decide_eq_true h1]
    refine W ?_
    by_cases h2 : 0 ≤ self
    · rw [decide_eq_true h2]
      refine W ?_
      by_cases h3 : self < q.m
      · rw [decide_eq_true h3]
        refine W ?_
        refine cl' f263 ?_
        rintro _ _ ⟨⟨b, rfl⟩, rfl⟩
        refine W ?_
        exact fin ⟨_, rfl, ⟨_, rfl⟩, rfl⟩
      · rw [decide_eq_false h3]
        refine W ?_
        exact fin ⟨_, rfl, ⟨_, rfl⟩, rfl⟩
    · rw [decide_eq_false h2]
      refine W ?_
      exact fin ⟨_, rfl, ⟨_, rfl⟩, rfl⟩
  · rw [decide_eq_false h1]
    refine W ?_
    exact fin ⟨_, rfl, ⟨_, rfl⟩, rfl⟩
theorem f265 {n : Int} {size : Nat} {g7 c : Nat} {l : List UInt8} {a : Option Addr} (h1 : 1 ≤ size) (h8 : size ≤ 8) (hl : l.length ≤ 1000) : Ct Tryz.prog 265 [.int .u64 n, I size, PP g7] [cl g7 [.slice a l.length c] 231, sv eByte 5 l a c]
    (fun v L => ∃ (l' : List UInt8) (a' : Option Addr) (c' : Nat), l'.length ≤ l.length + 8 ∧ L = [cl g7 [.slice a' l'.length c'] 231, sv eByte 5 l' a' c']) := by
  refine w_ct Tryz.func265 rfl Tryz.ntmps265 rfl fun w B => ?_
  refine W ?_
  refine cl' (f238 h1 h8) ?_
  rintro _ _ ⟨l1, a1, c1, e1, hl1, rfl, rfl⟩
  refine W ?_
  refine w_ap eByte (sel_ : Sel (sv eByte 5 l a c) _ _) (rd_sv mem_) (by omega) (by omega) fun a' c' => ?_
  refine W ?_
  refine w_ends rfl (finN (finE ⟨_, rfl, l ++ l1, a', c', by simp; omega, rfl⟩ ent_))
theorem bys_ro {r : Ros} (hr : RosOk r) : Bys (roL r) 3 16 := fun i hi => ⟨UInt8.ofNat (r.st i), by
  have h := hr.lo i hi
  rw [roAtN hi rfl]
  simp [u8, UInt8.toNat_ofNat']; omega⟩
theorem f243 {id : Int} {self : Nat} {r : Ros} (hr : RosOk r) : Ct Tryz.prog 243 [A (.int .u64 id :: I self :: roL r)] [] (fun v L => ∃ (l : List UInt8) (a : Option Addr) (c : Nat), v = .slice a l.length c ∧ L = [sv eByte 5 l a c]) := by
  refine w_ct Tryz.func243 rfl Tryz.ntmps243 rfl fun w B => ?_
  refine W2 fun g1 g3 => ?_
  refine w_y rfl rfl rfl (y_sa2 0 16 rfl rfl rfl (by omega) (by omega) (by omega)) ?_
  refine cl' (f264 (o := 3) (bys_ro hr) ?_) ?_
  · omega
  rintro _ _ ⟨ls, as_, cs, es, hls, rfl, rfl⟩
  refine W ?_
  obtain ⟨g, st, cur, gone⟩ := r
  have hge := hr.ge
  cases gone
  · refine W ?_
    refine W1 fun g7 => ?_
    refine g_nil eByte 5 rfl ?_
    refine cx (f265 (size := 8) (l := []) (by omega) (by omega) (by first | (simp; done) | (simp at *; omega))) ?_
    rintro _ _ ⟨l1, a1, c1, hl1, rfl⟩
    refine W ?_
    refine cx (f265 (size := 1) (l := l1) (by omega) (by omega) (by first | (simp; done) | (simp at *; omega))) ?_
    rintro _ _ ⟨l2, a2, c2, hl2, rfl⟩
    refine W ?_
    refine cx (f265 (size := 2) (l := l2) (by omega) (by omega) (by first | (simp; done) | (simp at *; omega))) ?_
    rintro _ _ ⟨l3, a3, c3, hl3, rfl⟩
    refine W ?_
    refine cx (f265 (size := 2) (l := l3) (by omega) (by omega) (by first | (simp; done) | (simp at *; omega))) ?_
    rintro _ _ ⟨l4, a4, c4, hl4, rfl⟩
    refine W ?_
    refine cx (f265 (size := 1) (l := l4) (by omega) (by omega) (by first | (simp; done) | (simp at *; omega))) ?_
    rintro _ _ ⟨l5, a5, c5, hl5, rfl⟩
    refine W ?_
    refine w_ap eByte (sel_ : Sel (sv eByte 5 l5 a5 c5) _ _) (rd_sv (show sv eByte 5 ls as_ cs ∈ _ from mem_)) (by simp at *; omega) (by simp at *; omega) fun a6 c6 => ?_
    refine W ?_
    refine cx (f265 (size := 2) (l := (l5 ++ ls)) (by omega) (by omega) (by first | (simp; done) | (simp at *; omega))) ?_
    rintro _ _ ⟨l7, a7, c7, hl7, rfl⟩
    refine W ?_
    refine cx (f265 (size := 1) (l := l7) (by omega) (by omega) (by first | (simp; done) | (simp at *; omega))) ?_
    rintro _ _ ⟨l8, a8, c8, hl8, rfl⟩
    refine W ?_
    exact fin ⟨_, rfl, l8, a8, c8, rfl, rfl⟩
  · refine W ?_
    refine W1 fun g7 => ?_
    refine g_nil eByte 5 rfl ?_
    refine cx (f265 (size := 8) (l := []) (by omega) (by omega) (by first | (simp; done) | (simp at *; omega))) ?_
    rintro _ _ ⟨l1, a1, c1, hl1, rfl⟩
    refine W ?_
    refine cx (f265 (size := 1) (l := l1) (by omega) (by omega) (by first | (simp; done) | (simp at *; omega))) ?_
    rintro _ _ ⟨l2, a2, c2, hl2, rfl⟩
    refine W ?_
    refine cx (f265 (size := 2) (l := l2) (by omega) (by omega) (by first | (simp; done) | (simp at *; omega))) ?_
    rintro _ _ ⟨l3, a3, c3, hl3, rfl⟩
    refine W ?_
    refine cx (f265 (size := 2) (l := l3) (by omega) (by omega) (by first | (simp; done) | (simp at *; omega))) ?_
    rintro _ _ ⟨l4, a4, c4, hl4, rfl⟩
    refine W ?_
    refine cx (f265 (size := 1) (l := l4) (by omega) (by omega) (by first | (simp; done) | (simp at *; omega))) ?_
    rintro _ _ ⟨l5, a5, c5, hl5, rfl⟩
    refine W ?_
    refine w_ap eByte (sel_ : Sel (sv eByte 5 l5 a5 c5) _ _) (rd_sv (show sv eByte 5 ls as_ cs ∈ _ from mem_)) (by simp at *; omega) (by simp at *; omega) fun a6 c6 => ?_
    refine W ?_
    refine cx (f265 (size := 2) (l := (l5 ++ ls)) (by omega) (by omega) (by first | (simp; done) | (simp at *; omega))) ?_
    rintro _ _ ⟨l7, a7, c7, hl7, rfl⟩
    refine W ?_
    refine cx (f265 (size := 1) (l := l7) (by omega) (by omega) (by first | (simp; done) | (simp at *; omega))) ?_
    rintro _ _ ⟨l8, a8, c8, hl8, rfl⟩
    refine W ?_
    exact fin ⟨_, rfl, l8, a8, c8, rfl, rfl⟩
theorem f196 {n id : Int} {self : Nat} {r : Ros} (hr : RosOk r) : Ct Tryz.prog 196 [.int .u64 n, A (.int .u64 id :: I self :: roL r)] [] (fun v L => (∃ (x : Blk) (e : Int), v = T [BV x, .int .i64 e]) ∧ L = []) := by
  refine w_ct Tryz.func196 rfl Tryz.ntmps196 rfl fun w B => ?_
  refine W2 fun g1 g2 => ?_
  refine cl' f241 ?_
  rintro _ _ ⟨⟨b, rfl, hb⟩, rfl⟩
  cases b
  · refine W ?_
    exact fin ⟨_, rfl, ⟨_, _, rfl⟩, rfl⟩
  have hn := hb rfl
  refine W ?_
  refine cl' (f242 (q := r.z)) ?_
  rintro _ _ ⟨⟨b, rfl⟩, rfl⟩
  cases b
  · refine W ?_
    exact fin ⟨_, rfl, ⟨_, _, rfl⟩, rfl⟩
  refine W ?_
  refine cl' (f243 hr) ?_
  rintro _ _ ⟨l, a, c, rfl, rfl⟩
  refine W ?_
  refine cl' (f239 ?_) ?_
  · omega
  rintro _ _ ⟨⟨x, e, rfl⟩, rfl⟩
  refine W ?_
  exact fin ⟨_, rfl, ⟨_, _, rfl⟩, rfl⟩
section
variable {gr g n c at_ size : Nat} {cs : List Value} {ct : TypeId}
theorem f281 (hby : Bys cs 0 n) (hn : n ≤ 100) (hc : n ≤ c) (h1 : 1 ≤ size) (h8 : size ≤ 8) (hat : at_ ≤ 1000) : Ct Tryz.prog 281 [PP gr, I size] [cl gr [SL g n c, I at_] 334, cl g cs ct]
    (fun v L => (∃ z : Int, 0 ≤ z ∧ z ≤ 18446744073709551615 ∧ v = .int .u64 z) ∧ L = [cl gr [SL g n c, I (at_ + size : Nat)] 334, cl g cs ct]) := by
  refine w_ct Tryz.func281 rfl Tryz.ntmps281 rfl fun w B => ?_
  refine W ?_
  refine cl' (f286 (size := size) (at_ := at_) (o := 0) hby ?_ hn hc h1 h8) ?_
  · exact fun _ => rfl
  rintro _ _ ⟨⟨z, e, hz0, hz1, rfl⟩, rfl⟩
  refine W ?_
  exact fin ⟨_, rfl, ⟨z, hz0, hz1, rfl⟩, rfl⟩
theorem f284 {z : Int} : Ct Tryz.prog 284 [.int .u8 z] [] (fun v L => someB v ∧ L = []) := by
  refine w_ct Tryz.func284 rfl Tryz.ntmps284 rfl fun w B => ?_
  refine W ?_
  exact fin ⟨_, rfl, ⟨_, rfl⟩, rfl⟩
theorem f288 {a : Option Addr} {o : Nat} (hby : Bys cs o n) (ha : 0 < n → a = some ⟨g, o, none⟩) (hn : n ≤ 100) : Ct Tryz.prog 288 [.slice a n c, .func (.func 284) #[] #[]] [cl g cs ct] (fun v L => (∃ z : Int, v = .int .i64 z) ∧ L = [cl g cs ct]) := by
  refine w_ct Tryz.func288 rfl Tryz.ntmps288 rfl fun w B => ?_
  refine W ?_
  refine w_loop (γ := Nat) (fun j => [(0, .slice a n c), (1, .func (.func 284) #[] #[]), (7, I n), (8, I j)]) (fun _ => [cl g cs ct]) (fun j => j ≤ n) (fun j => n - j) 0 sl_ ent_ (Nat.zero_le _) fun j B hj => ?_
  refine W ?_
  refine w_if rfl (fun h => ?_) (fun h => ?_)
  · refine w_skip ?_
    refine W ?_
    obtain ⟨y, hy⟩ := hby j (by omega)
    refine w_y rfl rfl rfl (y_ixO j (ha (by omega)) rfl rfl (UT.h (P := Tryz.prog)) (SZ.h (P := Tryz.prog)) rfl (by omega)) ?_
    refine w_y rfl rfl rfl (y_ld1 rfl mem_ (show cs[o + j * 1]? = _ by rw [Nat.mul_one]; exact hy)) ?_
    refine cx (fs := []) (cs := []) (f284 (z := (y.toNat : Int))) ?_
    rintro _ _ ⟨⟨b, rfl⟩, rfl⟩
    cases b
    · refine W ?_
      exact w_land rfl (w_round (j + 1) (by omega) (by omega) sl_ ent_)
    · refine W ?_
      exact fin ⟨_, rfl, ⟨_, rfl⟩, rfl⟩
  · refine W ?_
    exact fin ⟨_, rfl, ⟨_, rfl⟩, rfl⟩
theorem f283 {a : Option Addr} {o : Nat} (hby : Bys cs o n) (ha : 0 < n → a = some ⟨g, o, none⟩) (hn : n ≤ 100) : Ct Tryz.prog 283 [.slice a n c, .func (.func 284) #[] #[]] [cl g cs ct] (fun v L => someB v ∧ L = [cl g cs ct]) := by
  refine w_ct Tryz.func283 rfl Tryz.ntmps283 rfl fun w B => ?_
  refine W ?_
  refine cl' (f288 hby ha hn) ?_
  rintro _ _ ⟨⟨z, rfl⟩, rfl⟩
  refine W ?_
  exact fin ⟨_, rfl, ⟨_, rfl⟩, rfl⟩
end
theorem bys_sub {c : List Value} {o n k : Nat} (h : Bys c o n) (hk : k ≤ n) : Bys c (o + k) (n - k) := fun i hi => by
  have := h (k + i) (by omega)
  rwa [← Nat.add_assoc] at this
theorem copySt {id : Value} {self : Value} {q : Rz} {ls : List UInt8} (h : ls = [] ∨ ls.length = 16) : ∃ st : Nat → Int, Sets (id :: self :: rzL q) 5 (ls.flatMap eByte.enc) (id :: self :: rzL { q with st := st }) := by
  rcases h with rfl | h
  · exact ⟨q.st, by simp, rfl⟩
  · match ls, h with
    | [b0, b1, b2, b3, b4, b5, b6, b7, b8, b9, b10, b11, b12, b13, b14, b15], _ => exact ⟨fun i => (([b0, b1, b2, b3, b4, b5, b6, b7, b8, b9, b10, b11, b12, b13, b14, b15] : List UInt8).getD i 0).toNat, by simp [eByte], rfl⟩
theorem f275 {x : Blk} : Ct Tryz.prog 275 [BV x] [] (fun v L => (∃ (z e : Int) (s : List Value), s.length = 23 ∧ (∀ u ∈ s, u.oneCell' = true) ∧ v = T [.int .u64 z, A s, .int .i64 e]) ∧ L = []) := by
  refine w_ct Tryz.func275 rfl Tryz.ntmps275 rfl fun w B => ?_
  refine W2 fun g1 g3 => ?_
  refine cl' f280 ?_
  rintro _ _ ⟨z, e, l, a, c, hz, hz', hl, rfl, rfl⟩
  refine W ?_
  by_cases he : e ≠ 0
  · rw [decide_eq_true he]
    refine W ?_
    refine fin ⟨_, rfl, ⟨_, _, _, ?_, ?_, rfl⟩, rfl⟩ <;> first | rfl | simp [Value.oneCell']
  rw [decide_eq_false he]
  have hl := hl (by omega)
  refine g_svp rfl sel_ (by omega) fun gb hg => ?_
  subst hg
  refine g_rowcl rfl Sel.hd fun cs hrow => ?_
  have hby := bys_row hrow
  have hlc := hrow.le
  refine W1 fun gr => ?_
  refine cl' (f281 (size := 8) (at_ := 0) hby (by omega) hlc (by omega) (by omega) (by omega)) ?_
  rintro _ _ ⟨⟨z1, h1, h1', rfl⟩, rfl⟩
  refine W1 fun g9 => ?_
  refine cl' (f281 (size := 1) (at_ := 8) hby (by omega) hlc (by omega) (by omega) (by omega)) ?_
  rintro _ _ ⟨⟨z2, h2, h2', rfl⟩, rfl⟩
  refine W ?_
  refine cl' (f281 (size := 2) (at_ := 9) hby (by omega) hlc (by omega) (by omega) (by omega)) ?_
  rintro _ _ ⟨⟨z3, h3, h3', rfl⟩, rfl⟩
  refine W ?_
  refine cl' (f281 (size := 2) (at_ := 11) hby (by omega) hlc (by omega) (by omega) (by omega)) ?_
  rintro _ _ ⟨⟨z4, h4, h4', rfl⟩, rfl⟩
  refine W ?_
  refine w_stN rfl ev_ inferInstance inferInstance upd_ sets_ ?_
  refine W ?_
  refine cl' (f281 (size := 1) (at_ := 13) hby (by omega) hlc (by omega) (by omega) (by omega)) ?_
  rintro _ _ ⟨⟨z5, h5, h5', rfl⟩, rfl⟩
  refine W ?_
  refine w_sqy rfl rfl (y_part 14 l.length rfl (UT.h (P := Tryz.prog)) (SZ.h (P := Tryz.prog)) ⟨_, rfl⟩ rfl (by omega) hlc) ?_
  rw [part_at rfl (by omega)]
  refine W ?_
  refine cl' (f282 (g := gb) (o := 0 + 14 * 1) (n := l.length - 14) (bys_sub hby (by omega)) (fun _ => rfl)) ?_
  rintro _ _ ⟨ls, a2, c2, e2, hls, rfl, rfl⟩
  refine W ?_
  refine w_y rfl rfl rfl (y_sa2 0 16 rfl rfl rfl (by omega) (by omega) (by omega)) ?_
  refine W ?_
  obtain ⟨st, hst⟩ := copySt (id := .int .u64 z1) (self := .int .i64 (wrapv .i64 z5)) (q := ⟨wrapv .i64 z2, wrapv .i64 z3, wrapv .i64 z4, fun _ => 0, 0, false⟩) hls
  have hls16 : ls.length ≤ 16 := by rcases hls with rfl | h <;> simp_all
  refine w_copy (E := eByte) (l := ls) rfl rfl rfl upd_ (rd_sv mem_) (by omega) hst ?_
  refine W ?_
  have hk : ∃ k : Nat, k ≤ 18 ∧ (((13 + 1 : Nat) : Int) + (ls.length : Int) * 2 / 8) = (k : Int) := ⟨14 + ls.length * 2 / 8, by omega, by omega⟩
  obtain ⟨k, hk18, hk⟩ := hk
  rw [hk]
  refine cl' (f281 (size := 2) (at_ := k) hby (by omega) hlc (by omega) (by omega) (by omega)) ?_
  rintro _ _ ⟨⟨z6, h6, h6', rfl⟩, rfl⟩
  refine W ?_
  refine cl' (f281 (size := 1) (at_ := k + 2) hby (by omega) hlc (by omega) (by omega) (by omega)) ?_
  rintro _ _ ⟨⟨z7, h7, h7', rfl⟩, rfl⟩
  refine W ?_
  refine w_qy rfl rfl (y_part (k + 2 + 1) l.length rfl (UT.h (P := Tryz.prog)) (SZ.h (P := Tryz.prog)) ⟨_, rfl⟩ rfl (by omega) hlc) ?_
  rw [part_at rfl (by omega)]
  refine W ?_
  refine cl' (f283 (g := gb) (o := 0 + (k + 2 + 1) * 1) (n := l.length - (k + 2 + 1)) (by rw [Nat.mul_one]; exact bys_sub hby (by omega)) (fun _ => rfl) (by omega)) ?_
  rintro _ _ ⟨⟨b, rfl⟩, rfl⟩
  refine W ?_
  refine cl' f241 ?_
  rintro _ _ ⟨⟨b1, rfl, _⟩, rfl⟩
  cases b1
  · refine W ?_
    refine fin ⟨_, rfl, ⟨_, _, _, ?_, ?_, rfl⟩, rfl⟩ <;> first | rfl | simp [Value.oneCell']
  refine W ?_
  refine cl' (f242 (q := ⟨wrapv .i64 z2, wrapv .i64 z3, wrapv .i64 z4, st, wrapv .i64 z6, decide (z7 = 1)⟩)) ?_
  rintro _ _ ⟨⟨b2, rfl⟩, rfl⟩
  cases b2
  · refine W ?_
    refine fin ⟨_, rfl, ⟨_, _, _, ?_, ?_, rfl⟩, rfl⟩ <;> first | rfl | simp [Value.oneCell']
  refine W ?_
  by_cases h8 : 1 < z7
  · rw [decide_eq_true h8]
    refine W ?_
    refine fin ⟨_, rfl, ⟨_, _, _, ?_, ?_, rfl⟩, rfl⟩ <;> first | rfl | simp [Value.oneCell']
  rw [decide_eq_false h8]
  refine W ?_
  cases b
  · refine W ?_
    refine fin ⟨_, rfl, ⟨_, _, _, ?_, ?_, rfl⟩, rfl⟩ <;> first | rfl | simp [Value.oneCell']
  · refine W ?_
    refine fin ⟨_, rfl, ⟨_, _, _, ?_, ?_, rfl⟩, rfl⟩ <;> first | rfl | simp [Value.oneCell']
theorem f262 {x y : Blk} : Ct Tryz.prog 262 [BV x, BV y] [] (fun v L => (∃ (n : Int) (b : Bool), (n = 0 ∨ n = 1) ∧ v = T [.int .i64 n, .bool b]) ∧ L = []) := by
  refine w_ct Tryz.func262 rfl Tryz.ntmps262 rfl fun w B => ?_
  refine W2 fun g1 g2 => ?_
  refine cl' f275 ?_
  rintro _ _ ⟨⟨z1, e1, s1, hl1, ho1, rfl⟩, rfl⟩
  haveI : LenL s1 23 := ⟨hl1⟩
  haveI : OneL s1 := ⟨ho1⟩
  refine W1 fun g7 => ?_
  refine cl' f275 ?_
  rintro _ _ ⟨⟨z2, e2, s2, hl2, ho2, rfl⟩, rfl⟩
  haveI : LenL s2 23 := ⟨hl2⟩
  haveI : OneL s2 := ⟨ho2⟩
  refine W1 fun g10 => ?_
  by_cases h1 : e1 ≠ 0
  · rw [decide_eq_true h1]
    refine W ?_
    by_cases h2 : e2 ≠ 0
    · rw [decide_eq_true h2]
      refine W ?_
      exact fin ⟨_, rfl, ⟨0, true, .inl rfl, rfl⟩, rfl⟩
    · rw [decide_eq_false h2]
      refine W ?_
      rw [decide_eq_true h1]
      refine W ?_
      exact fin ⟨_, rfl, ⟨1, false, .inr rfl, rfl⟩, rfl⟩
  · rw [decide_eq_false h1]
    refine W ?_
    rw [decide_eq_false h1]
    refine W ?_
    by_cases h2 : e2 = 0
    · rw [decide_eq_true h2]
      refine W ?_
      refine w_if rfl (fun h3 => ?_) (fun h3 => ?_)
      · refine W ?_
        exact fin ⟨_, rfl, ⟨1, false, .inr rfl, rfl⟩, rfl⟩
      · refine W ?_
        exact fin ⟨_, rfl, ⟨0, false, .inl rfl, rfl⟩, rfl⟩
    · rw [decide_eq_false h2]
      refine W ?_
      exact fin ⟨_, rfl, ⟨0, false, .inl rfl, rfl⟩, rfl⟩
/-- where the next superblock goes -/
theorem f240 {x y : Blk} : Ct Tryz.prog 240 [BV x, BV y] [] (fun v L => (∃ n : Nat, n ≤ 1 ∧ v = I n) ∧ L = []) := by
  refine w_ct Tryz.func240 rfl Tryz.ntmps240 rfl fun w B => ?_
  refine W2 fun g1 g2 => ?_
  refine cl' f262 ?_
  rintro _ _ ⟨⟨n, b, hn, rfl⟩, rfl⟩
  refine W ?_
  cases b
  · refine W ?_
    refine w_if rfl (fun h => ?_) (fun h => ?_)
    · refine W ?_
      exact fin ⟨_, rfl, ⟨1, by omega, rfl⟩, rfl⟩
    · refine W ?_
      exact fin ⟨_, rfl, ⟨0, by omega, rfl⟩, rfl⟩
  · refine W ?_
    exact fin ⟨_, rfl, ⟨0, by omega, rfl⟩, rfl⟩
end Go.Proofs.YtnilejkfbcnkkaaGreatDoor.V
end
section
set_option maxRecDepth 100000
namespace Go.Proofs.YtnilejkfbcnkkaaGreatDoor.V
open Go Go.RowKit
attribute [local irreducible] Yields cl blk pur rowc sv exC fo

abbrev U (n : Nat) : Value := .int .u64 (n : Int)
section
variable {ring tail head n : Nat}
theorem f277 (h1 : 1 ≤ ring) (h2 : ring ≤ 256) (h3 : tail ≤ head) (h4 : head ≤ 2305843009213693952) (h5 : head - tail ≤ ring) : CtV Tryz.prog 277 [I ring, U tail, U head] [] (.bool true) := by
  refine w_ct Tryz.func277 rfl Tryz.ntmps277 rfl fun w B => ?_
  refine W ?_
  rw [decide_eq_true (show (1 : Int) ≤ ring by omega)]
  refine W ?_
  rw [decide_eq_true (show (ring : Int) ≤ 256 by omega)]
  refine W ?_
  rw [decide_eq_true (show (tail : Int) ≤ head by omega)]
  refine W ?_
  rw [decide_eq_true (show (head : Int) ≤ 4611686018427387904 by omega)]
  refine W ?_
  rw [decide_eq_true (show (head : Int) - tail ≤ ring by omega)]
  refine W ?_
  exact fin ⟨_, rfl, rfl, rfl⟩
theorem f269 (h1 : 1 ≤ ring) (h2 : ring ≤ 256) (h3 : tail ≤ head) (h4 : head ≤ 2305843009213693952) (h5 : head - tail ≤ ring) : CtV Tryz.prog 269 [I ring, U tail, U head] [] (T [I (ring - (head - tail) : Nat), I 0]) := by
  refine w_ct Tryz.func269 rfl Tryz.ntmps269 rfl fun w B => ?_
  refine W ?_
  refine cv (f277 h1 h2 h3 h4 h5) ?_
  refine W ?_
  exact fin (v := T [.int .i64 ((ring : Int) - ((head : Int) - tail)), I 0]) ⟨_, rfl, by rw [show ((ring - (head - tail) : Nat) : Int) = (ring : Int) - ((head : Int) - tail) by omega], rfl⟩
theorem f249 (h1 : 1 ≤ ring) (h2 : ring ≤ 256) (h3 : tail ≤ head) (h4 : head ≤ 2305843009213693952) (h5 : head - tail ≤ ring) (hn : n ≤ 1000) :
    CtV Tryz.prog 249 [I ring, U tail, U head, I n] [] (if n ≤ ring - (head - tail) then T [U (head + n), I 0] else T [U 0, I 10]) := by
  refine w_ct Tryz.func249 rfl Tryz.ntmps249 rfl fun w B => ?_
  refine W ?_
  refine cv (f269 h1 h2 h3 h4 h5) ?_
  refine W ?_
  rw [decide_eq_false (show ¬ ((n : Int) < 0) by omega)]
  refine W ?_
  by_cases h : n ≤ ring - (head - tail)
  · rw [decide_eq_false (show ¬ (((ring - (head - tail) : Nat) : Int) < n) by omega)]
    refine W ?_
    rw [decide_eq_false (show ¬ ((4611686018427387904 : Int) - head < n) by omega)]
    refine W ?_
    exact fin (v := T [.int .u64 ((head : Int) + n), I 0]) ⟨_, rfl, by rw [if_pos h]; rfl, rfl⟩
  · rw [decide_eq_true (show (((ring - (head - tail) : Nat) : Int) < n) by omega)]
    refine W ?_
    exact fin (v := T [U 0, I 10]) ⟨_, rfl, by rw [if_neg h], rfl⟩
theorem f278 {at_ : Nat} (h1 : 1 ≤ ring) (h2 : ring ≤ 256) : CtV Tryz.prog 278 [I ring, U at_] [] (I (at_ % ring : Nat)) := by
  refine w_ct Tryz.func278 rfl Tryz.ntmps278 rfl fun w B => ?_
  have hm : at_ % ring < ring := Nat.mod_lt _ (by omega)
  have e : (at_ : Int) % (ring : Int) = ((at_ % ring : Nat) : Int) := by simp
  refine W ?_
  exact fin (v := .int .i64 ((at_ : Int) % (ring : Int))) ⟨_, rfl, by rw [e], rfl⟩
theorem f270 {at_ : Nat} (h1 : 1 ≤ ring) (h2 : ring ≤ 256) (h4 : at_ ≤ 2305843009213693952) (hn : 1 ≤ n) (hn' : n ≤ ring) :
    Ct Tryz.prog 270 [I ring, U at_, I n] [] (fun v L => ∃ (l : List Nat) (g : Nat), l.length = n ∧ (∀ x ∈ l, x < ring) ∧ v = T [SL g n n, I 0] ∧ L = [rowc eNat 3 l g n]) := by
  refine w_ct Tryz.func270 rfl Tryz.ntmps270 rfl fun w B => ?_
  refine W ?_
  refine cv (f277 h1 h2 (Nat.le_refl _) h4 (by omega)) ?_
  refine W ?_
  rw [decide_eq_false (show ¬ ((n : Int) < 0) by omega)]
  refine W ?_
  rw [decide_eq_false (show ¬ ((ring : Int) < n) by omega)]
  refine W ?_
  rw [decide_eq_true (show (0 : Int) < n by omega)]
  refine W ?_
  rw [decide_eq_false (show ¬ ((4611686018427387904 : Int) - at_ < (n : Int) - 1) by omega)]
  refine W ?_
  refine w_mk (E := eNat) 0 n rfl inferInstance rfl rfl rfl (by simp only [maxLen]; omega) (by omega) fun g => ?_
  rw [List.length_replicate]
  refine W ?_
  refine w_loop (γ := Nat × List Nat) (fun ⟨j, l⟩ => [(0, I ring), (1, U at_), (8, SL g n n), (38, I n), (39, I j)]) (fun ⟨j, l⟩ => [rowc eNat 3 l g n]) (fun x => x.1 ≤ n ∧ x.2.length = n ∧ ∀ y ∈ x.2, y < ring) (fun x => n - x.1) (0, List.replicate n 0) sl_ ent_ ⟨Nat.zero_le _, by simp, by intro y hy; have := List.eq_of_mem_replicate hy; omega⟩ fun ⟨j, l⟩ B ⟨hj, hl, hy⟩ => ?_
  dsimp only at hj hl hy ⊢
  refine W ?_
  refine w_if rfl (fun h => ?_) (fun h => ?_)
  · refine W ?_
    have hm : (at_ + j) % ring < ring := Nat.mod_lt _ (by omega)
    refine cv (f278 (at_ := at_ + j) h1 h2) ?_
    refine W ?_
    refine w_stE (E := eNat) (i := j) (x := (at_ + j) % ring) inferInstance rfl rfl rfl ?_ rfl upd_ ?_
    · omega
    refine W ?_
    refine w_land rfl (w_round (j + 1, l.set j ((at_ + j) % ring)) ⟨by show j + 1 ≤ n; omega, by simpa using hl, ?_⟩ (by show n - (j + 1) < n - j; omega) sl_ ent_)
    intro y hy'
    rcases List.mem_or_eq_of_mem_set hy' with h | h
    · exact hy y h
    · omega
  · refine W ?_
    exact fin ⟨_, rfl, l, g, hl, hy, rfl, rfl⟩
end
end Go.Proofs.YtnilejkfbcnkkaaGreatDoor.V
end
section
set_option maxRecDepth 100000
namespace Go.Proofs.YtnilejkfbcnkkaaGreatDoor.V
open Go Go.RowKit
attribute [local irreducible] Yields cl blk pur rowc sv exC fo

abbrev noL (seq at_ k : Nat) (sum : Int) : List Value := [U seq, U at_, I k, .int .u32 sum]
section
variable {seq at_ k : Nat} {sum : Int}
theorem f253 : CtV Tryz.prog 253 [U seq] [] (I (seq % 8 : Nat)) := by
  refine w_ct Tryz.func253 rfl Tryz.ntmps253 rfl fun w B => ?_
  refine W ?_
  exact fin (v := .int .i64 ((seq : Int) % 8)) ⟨_, rfl, by rw [show ((seq % 8 : Nat) : Int) = (seq : Int) % 8 by omega], rfl⟩
theorem f272 (h1 : 1 ≤ seq) (h2 : seq ≤ 2305843009213693952) (h3 : at_ ≤ 2305843009213693952) (h4 : 1 ≤ k) (h5 : k ≤ 32) : CtV Tryz.prog 272 [A (noL seq at_ k sum)] [] (.bool true) := by
  refine w_ct Tryz.func272 rfl Tryz.ntmps272 rfl fun w B => ?_
  refine W1 fun g1 => ?_
  rw [decide_eq_true (show (1 : Int) ≤ seq by omega)]
  refine W ?_
  rw [decide_eq_true (show (seq : Int) ≤ 4611686018427387904 by omega)]
  refine W ?_
  rw [decide_eq_true (show (at_ : Int) ≤ 4611686018427387904 by omega)]
  refine W ?_
  rw [decide_eq_true (show (1 : Int) ≤ k by omega)]
  refine W ?_
  rw [decide_eq_true (show (k : Int) ≤ 32 by omega)]
  refine W ?_
  exact fin ⟨_, rfl, rfl, rfl⟩
theorem f273 : Ct Tryz.prog 273 [A (noL seq at_ k sum)] [] (fun v L => ∃ (l : List UInt8) (a : Option Addr) (c : Nat), v = .slice a l.length c ∧ L = [sv eByte 5 l a c]) := by
  refine w_ct Tryz.func273 rfl Tryz.ntmps273 rfl fun w B => ?_
  refine W1 fun g1 => ?_
  refine cl' (f238 (size := 8) (by omega) (by omega)) ?_
  rintro _ _ ⟨l1, a1, c1, e1, hl1, rfl, rfl⟩
  refine W ?_
  refine cl' (f238 (size := 2) (by omega) (by omega)) ?_
  rintro _ _ ⟨l2, a2, c2, e2, hl2, rfl, rfl⟩
  refine W ?_
  refine cl' (f238 (size := 4) (by omega) (by omega)) ?_
  rintro _ _ ⟨l3, a3, c3, e3, hl3, rfl, rfl⟩
  refine W ?_
  refine w_ap eByte (sel_ : Sel (sv eByte 5 l1 a1 c1) _ _) (rd_sv (show sv eByte 5 l2 a2 c2 ∈ _ from mem_)) (by omega) (by omega) fun a4 c4 => ?_
  refine W ?_
  refine w_ap eByte (sel_ : Sel (sv eByte 5 (l1 ++ l2) a4 c4) _ _) (rd_sv (show sv eByte 5 l3 a3 c3 ∈ _ from mem_)) (by simp; omega) (by simp; omega) fun a5 c5 => ?_
  refine W ?_
  exact fin ⟨_, rfl, _, _, _, rfl, rfl⟩
theorem f252 (h1 : 1 ≤ seq) (h2 : seq ≤ 2305843009213693952) (h3 : at_ ≤ 2305843009213693952) (h4 : 1 ≤ k) (h5 : k ≤ 32) : Ct Tryz.prog 252 [A (noL seq at_ k sum)] [] (fun v L => (∃ (x : Blk) (e : Int), v = T [BV x, .int .i64 e]) ∧ L = []) := by
  refine w_ct Tryz.func252 rfl Tryz.ntmps252 rfl fun w B => ?_
  refine W2 fun g1 g2 => ?_
  refine cv (f272 h1 h2 h3 h4 h5) ?_
  refine W ?_
  refine w_dag [.q 0, .q 1, .q 2, .m 3 [0, 1], .m 4 [], .q 5, .q 6, .m 7 [], .q 8] (by decide +kernel) ?_
  refine W ?_
  refine dm fun E => ?_
  refine cl' f273 ?_
  rintro _ _ ⟨l, a, c, rfl, rfl⟩
  refine W ?_
  refine dm fun E => ?_
  refine cl' (f239 (nr := (seq : Int)) (by omega)) ?_
  rintro _ _ ⟨⟨x, e, rfl⟩, rfl⟩
  refine W ?_
  exact fin ⟨_, rfl, ⟨_, _, rfl⟩, rfl⟩
end
end Go.Proofs.YtnilejkfbcnkkaaGreatDoor.V
end
section
set_option maxRecDepth 100000
namespace Go.Proofs.YtnilejkfbcnkkaaGreatDoor.V
open Go Go.RowKit
/-- how the global's block is laid -/
class GlK where
  t : TypeId
  k : Nat × Nat
variable [GlK]
attribute [local irreducible] Yields cl blk pur rowc sv exC fo

/-- the sizes, which the program lays -/
def glC : Chunk := ⟨31, fun B => B = [(0, .cells [I 8, I 2, I 8, I 8].toArray GlK.t GlK.k)]⟩
theorem Rd.gl {w0 : World} {S : Nat → Prop} {H : Hp} {off k : Nat} {vs : List Value} (hm : glC ∈ H) (hs : Sg [I 8, I 2, I 8, I 8] off k vs) : Rd w0 S H 0 off vs := by
  intro w hw j v hj
  obtain ⟨B, hB, hw⟩ := hw
  obtain ⟨B1, h1, h2⟩ := Sat.mem hm hB
  have h1 : B1 = [(0, .cells [I 8, I 2, I 8, I 8].toArray GlK.t GlK.k)] := h1
  subst h1
  have h3 := hw.at_ (0, .cells [I 8, I 2, I 8, I 8].toArray GlK.t GlK.k) (h2 _ (by simp))
  simp only [World.cell?, h3]
  simpa using hs.2 j v hj
theorem y_ldG {w0 : World} {S : Nat → Prop} {R : Regs} {H : Hp} {dst : Option Tmp} {ty : TypeId} {pos : String} {after : Array Go.Edge} {gd : Option (Nat × Bool)} {x : Operand} {t : TypeId} {off : Nat} {v : Value} [hu : SC Tryz.prog t] (hx : ev R x = PP 0 off) (hm : glC ∈ H) (hv : ([I 8, I 2, I 8, I 8] : List Value)[off]? = some v) : Yields Tryz.prog w0 S H ⟨dst, .load t x, ty, pos, after, gd⟩ R v :=
  let ⟨_, h1, h2⟩ := hu.h; y_load hx h1 h2 (Rd.gl hm (Sg.one hv))
abbrev maL (id ring first at_ : Nat) : List Value := [U id, I ring, U first, U at_]
section
variable {count id ring first at_ : Nat}
theorem f194 : CtV Tryz.prog 194 [U count] [] (I (count % 2 : Nat)) := by
  refine w_ct Tryz.func194 rfl Tryz.ntmps194 rfl fun w B => ?_
  refine W ?_
  exact fin (v := .int .i64 ((count : Int) % 2)) ⟨_, rfl, by rw [show ((count % 2 : Nat) : Int) = (count : Int) % 2 by omega], rfl⟩
theorem f237 (h0 : 0 < id) (h1 : 40 ≤ ring) (h2 : ring ≤ 256) (h3 : 1 ≤ first) (h4 : first ≤ 2305843009213693952) (h5 : at_ ≤ 2305843009213693952) : CtV Tryz.prog 237 [A (maL id ring first at_)] [] (.bool true) := by
  refine w_ct Tryz.func237 rfl Tryz.ntmps237 rfl fun w B => ?_
  refine W1 fun g1 => ?_
  rw [decide_eq_true (show (id : Int) ≠ 0 by omega)]
  refine W ?_
  rw [decide_eq_true (show (40 : Int) ≤ ring by omega)]
  refine W ?_
  rw [decide_eq_true (show (ring : Int) ≤ 256 by omega)]
  refine W ?_
  rw [decide_eq_true (show (1 : Int) ≤ first by omega)]
  refine W ?_
  rw [decide_eq_true (show (first : Int) ≤ 4611686018427387904 by omega)]
  refine W ?_
  rw [decide_eq_true (show (at_ : Int) ≤ 4611686018427387904 by omega)]
  refine W ?_
  exact fin ⟨_, rfl, rfl, rfl⟩
theorem szAt {j : Nat} (hj : j < 4) : ∃ s : Nat, 1 ≤ s ∧ s ≤ 8 ∧ ([I 8, I 2, I 8, I 8] : List Value)[j]? = some (I s) := by
  match j, hj with
  | 0, _ => exact ⟨8, by omega, by omega, rfl⟩
  | 1, _ => exact ⟨2, by omega, by omega, rfl⟩
  | 2, _ => exact ⟨8, by omega, by omega, rfl⟩
  | 3, _ => exact ⟨8, by omega, by omega, rfl⟩
  | j + 4, h => omega
theorem mvAt {a b c d : Int} {j : Nat} (hj : j < 4) : ∃ z : Int, ([.int .u64 a, .int .u64 b, .int .u64 c, .int .u64 d] : List Value).toArray[(j : Int).toNat]? = some (.int .u64 z) := by
  match j, hj with
  | 0, _ => exact ⟨a, rfl⟩
  | 1, _ => exact ⟨b, rfl⟩
  | 2, _ => exact ⟨c, rfl⟩
  | 3, _ => exact ⟨d, rfl⟩
  | j + 4, h => omega
theorem f193 (hc : 1 ≤ count) (hc' : count ≤ 2305843009213693952) (h0 : 0 < id) (h1 : 40 ≤ ring) (h2 : ring ≤ 256) (h3 : 1 ≤ first) (h4 : first ≤ 2305843009213693952) (h5 : at_ ≤ 2305843009213693952) :
    Ct Tryz.prog 193 [U count, A (maL id ring first at_)] [glC] (fun v L => (∃ (x : Blk) (e : Int), v = T [BV x, .int .i64 e]) ∧ L = [glC]) := by
  refine w_ct Tryz.func193 rfl Tryz.ntmps193 rfl fun w B => ?_
  refine W2 fun g1 g2 => ?_
  rw [decide_eq_false (show ¬ ((count : Int) < 1) by omega)]
  refine W ?_
  rw [decide_eq_false (show ¬ ((4611686018427387904 : Int) < count) by omega)]
  refine W ?_
  refine cv (f237 h0 h1 h2 h3 h4 h5) ?_
  refine W ?_
  refine w_y rfl rfl rfl (y_build (ps := [(0, U id), (1, U ring), (2, U first), (3, U at_)]) (c := #[U id, U ring, U first, U at_]) (by rw [Array.toList_map]; exact pts_) (by unfold Program.built; simp only [Tryz.underlying286]; kernel_rfl)) ?_
  refine W ?_
  refine g_nil eByte 5 rfl ?_
  refine w_loop (γ := Nat × List UInt8 × Option Addr × Nat) (fun ⟨j, l, a, c⟩ => [(0, U count), (4, PP g2), (6, .slice a l.length c), (32, A [.int .u64 (id : Int), .int .u64 (ring : Int), .int .u64 (first : Int), .int .u64 (at_ : Int)]), (33, I j)])
    (fun ⟨j, l, a, c⟩ => [sv eByte 5 l a c, cl g2 (bl blk0) 51, glC]) (fun ⟨j, l, a, c⟩ => j ≤ 4 ∧ l.length ≤ 8 * j) (fun x => 4 - x.1) (0, [], none, 0) sl_ ent_ ⟨Nat.zero_le _, by simp⟩ fun ⟨j, l, a, c⟩ B ⟨hj, hl⟩ => ?_
  dsimp only at hj hl ⊢
  refine W ?_
  refine w_if rfl (fun h => ?_) (fun h => ?_)
  · refine W ?_
    obtain ⟨z, hz⟩ := mvAt (a := id) (b := ring) (c := first) (d := at_) (j := j) (by omega)
    refine w_y rfl rfl rfl (y_ixVal rfl rfl (UT.h (P := Tryz.prog)) (SZ.h (P := Tryz.prog)) (UT.h (P := Tryz.prog)) rfl (by omega) (by omega) hz) ?_
    refine W ?_
    obtain ⟨s, hs1, hs2, hs⟩ := szAt (j := j) (by omega)
    refine w_y rfl rfl rfl (y_ldG (v := I s) rfl mem_ (by simpa using hs)) ?_
    refine cl' (f238 (n := z) (size := s) hs1 hs2) ?_
    rintro _ _ ⟨l1, a1, c1, e1, hl1, rfl, rfl⟩
    refine W ?_
    refine w_ap eByte (sel_ : Sel (sv eByte 5 l a c) _ _) (rd_sv (show sv eByte 5 l1 a1 c1 ∈ _ from mem_)) (by omega) (by omega) fun a2 c2 => ?_
    refine W ?_
    exact w_land rfl (w_round (j + 1, l ++ l1, a2, c2) ⟨by show j + 1 ≤ 4; omega, by show (l ++ l1).length ≤ 8 * (j + 1); simp; omega⟩ (by show 4 - (j + 1) < 4 - j; omega) sl_ ent_)
  · refine W ?_
    refine cl' (f239 (nr := (count : Int)) (by omega)) ?_
    rintro _ _ ⟨⟨x, e, rfl⟩, rfl⟩
    refine W ?_
    exact fin ⟨_, rfl, ⟨_, _, rfl⟩, rfl⟩
end
end Go.Proofs.YtnilejkfbcnkkaaGreatDoor.V
end
section
set_option maxRecDepth 100000
namespace Go.Proofs.YtnilejkfbcnkkaaGreatDoor.V
open Go Go.RowKit
attribute [local irreducible] Yields cl blk pur rowc sv exC fo

section
variable {α : Type} {E : Enc α} {e : TypeId} {n : Fp} {w0 : World} {S : Nat → Prop} {X : Post} {R : Regs} {L K : Hp} {ks : List Fr} {ops : Array Oper} {rest : List Oper} {d : Nat} {ty : TypeId} {pos : String} {after : Array Go.Edge}
theorem w_mkc {x y : Operand} {t bytes sz : Nat} (z0 : α) {k k' : IntKind} (ln m : Nat) (hln : ln ≤ m) [T : SLT t e sz bytes] (he : sz = E.sz) (hzv : ZV Tryz.prog e (E.enc z0)) (hd : decide (d < n.n) = true)
    (hx : ev R x = .int k (ln : Int)) (hy : ev R y = .int k' (m : Int)) (hm : m ≤ maxLen) (hb : bytes * m ≤ 281474976710656)
    (h : ∀ g, Gl n w0 S X (.ops ops ks rest) (upd R d (.slice (some ⟨g, 0, none⟩) (List.replicate ln z0).length m)) (rowc E e (List.replicate ln z0) g m :: L)) :
    Gl n w0 S X (.ops ops ks (⟨some d, .makeSlice t x y, ty, pos, after, none⟩ :: rest)) R L := by
  have T := T.st he
  unfold Gl at *
  refine o_op rfl hd fun w hw => ?_
  obtain ⟨i, z, hi, hz', hsz, hby, hzs⟩ := T.hi
  obtain ⟨z', hz2, hzc'⟩ := hzv.h
  have hzz : z' = z := by simp [hi, hz'] at hz2; exact hz2.symm
  subst hzz
  have hzc : z'.cells = (E.enc z0).toArray := by rw [← hzc']
  have hr := run_make (P := Tryz.prog) w t e i z' T.ht hi hz' k k' (ln : Int) (m : Int) (by omega) (by omega) (by rw [hby]; omega) (by simp only [maxLen] at hm; omega)
  have hrow : Row E (List.replicate m z0) (madeCells z'.cells (((m : Int)).toNat * i.size)) m := by
    refine ⟨by rw [size_madeCells, hsz]; simp, by simp, hm, ?_⟩
    have e1 : (madeCells z'.cells (((m : Int)).toNat * i.size)).toList = (List.replicate m z0).flatMap E.enc := by
      apply List.ext_getElem?
      intro j
      by_cases hj : j < m * E.sz
      · have hd : j / E.sz < m := (Nat.div_lt_iff_lt_mul E.pos).2 hj
        have hm' := Nat.div_add_mod j E.sz
        have hr := Nat.mod_lt j E.pos
        have hv : (E.enc z0)[j % E.sz]? = some ((E.enc z0)[j % E.sz]'(by rw [E.len]; exact hr)) := List.getElem?_eq_getElem _
        have h1 := E.flat_at (List.replicate m z0) (j / E.sz) (by simpa using hd) (j % E.sz) _ (by rw [List.getElem_replicate]; exact hv)
        have e2 : j / E.sz * E.sz + j % E.sz = j := by rw [Nat.mul_comm]; exact hm'
        rw [e2] at h1
        rw [h1]
        have hjs : j < m * i.size := by rw [hsz]; exact hj
        simp only [madeCells, Int.toNat_natCast, Array.toList_map, Array.toList_range, List.getElem?_map, List.getElem?_range hjs, Option.map_some]
        congr 1
        rw [hzc]
        simp only [List.size_toArray, E.len]
        simp [E.len, hr]
      · rw [List.getElem?_eq_none, List.getElem?_eq_none]
        · rw [E.flat_len]; simp; omega
        · simp [madeCells, hsz]; omega
    rw [e1, List.take_of_length_le (by rw [E.flat_len]; simp)]
  have hrow := hrow.first ln
  rw [List.take_replicate, Nat.min_eq_left hln] at hrow
  have h2 := fun g => h g
  simp only [List.length_replicate] at h2
  have hal := hw.allocC (madeCells z'.cells (((m : Int)).toNat * i.size)).toList e
  refine ⟨_, _, _, ?_, hal.ent (Ent.fold (M := [V.cl _ _ e]) (row_cl _ (by simpa using hrow)) (.refl _)), h2 _⟩
  simp [execOp, hx, hy, hr]

/-- a join ahead of what comes next -/
theorem w_joinS {γ : Type} (sl : γ → List (Nat × Value)) (hp : γ → Hp) (J : γ → Prop) {x y : Code} (h : Gl n w0 S X (.run x (.join (JoinJ n w0 S sl hp J) :: .seq y :: ks)) R L)
    (k : ∀ g B, J g → Gl n w0 S X (.run y ks) (rg (sl g) B) (hp g)) : Gl n w0 S X (.run x (.seq y :: ks)) R L := by
  unfold Gl at *
  intro a w ha hw
  refine Code.wp_mono (fun e a' w' q => ?_) (h a w ha hw)
  cases e with
  | normal =>
    obtain ⟨g, R', hI, hs, hr, hw⟩ := q
    rw [hs.eq] at hr
    exact k g R' hI a' w' hr hw
  | _ => exact q
theorem row_in {l : List α} {c vs : List Value} {cap i j : Nat} {x x' : α} (h : Row E l c.toArray cap) (hx : l[i]? = some x) (hj : Sets (E.enc x) j vs (E.enc x')) : ∃ c', Sets c (i * E.sz + j) vs c' ∧ Row E (l.set i x') c'.toArray cap := by
  obtain ⟨hi, rfl⟩ := List.getElem?_eq_some_iff.1 hx
  have hcl : i * E.sz + E.sz ≤ c.length := by
    have h1 := h.size
    have h2 := h.le
    simp at h1
    rw [h1]
    calc i * E.sz + E.sz = (i + 1) * E.sz := by rw [Nat.add_mul]; simp
      _ ≤ cap * E.sz := Nat.mul_le_mul_right _ (by omega)
  have e1 : (c.drop (i * E.sz)).take E.sz = E.enc l[i] := by
    refine List.ext_getElem? fun q => ?_
    rw [List.getElem?_take]
    split
    · rename_i hq
      rw [List.getElem?_drop]
      have hv : (E.enc l[i])[q]? = some ((E.enc l[i])[q]'(by rw [E.len]; exact hq)) := List.getElem?_eq_getElem _
      have := h.at_ i hi q _ hv
      rw [hv]; simpa using this
    · rw [List.getElem?_eq_none]; rw [E.len]; omega
  have e2 : c = c.take (i * E.sz) ++ (E.enc l[i] ++ c.drop (i * E.sz + E.sz)) := by
    rw [← e1]
    have : c.drop (i * E.sz + E.sz) = (c.drop (i * E.sz)).drop E.sz := by rw [List.drop_drop]
    rw [this, List.take_append_drop, List.take_append_drop]
  have hA : LenL (c.take (i * E.sz)) (i * E.sz) := ⟨by simp; omega⟩
  refine ⟨c.take (i * E.sz) ++ (E.enc x' ++ c.drop (i * E.sz + E.sz)), ?_, ?_⟩
  · have := Sets.right (off' := i * E.sz + j) (hA := hA) (hj.left (B := c.drop (i * E.sz + E.sz))) rfl
    rwa [← e2] at this
  · refine h.put hi ⟨by rw [E.len]; exact hcl, ?_⟩
    rw [E.len, List.append_assoc]
theorem w_bs3 (E : Enc α) (a b c : α) {t bytes sz d e : Nat} {v u z : Value} {o p q : Operand} [T : SLT t e sz bytes] (hv : ev R o = v) (hu : ev R p = u) (hz : ev R q = z) (hc : v.cells.toList = E.enc a) (hc' : u.cells.toList = E.enc b) (hc'' : z.cells.toList = E.enc c) (he : sz = E.sz) (hsm : 3 * E.sz ≤ 16777216)
    (h : ∀ g, Gl n w0 S X (.ops ops ks rest) (upd R d (.slice (some ⟨g, 0, none⟩) 3 3)) (rowc E e [a, b, c] g 3 :: L)) (hd : decide (d < n.n) = true := by rfl) :
    Gl n w0 S X (.ops ops ks (⟨some d, .buildSlice t 3 #[(0, o), (1, p), (2, q)], ty, pos, after, none⟩ :: rest)) R L :=
  w_bs (l := [a, b, c]) [v, u, z] he (by simp [hc, hc', hc'']) rfl hd (by simp [hv, hu, hz]) (by simp) (by simpa using hsm) h
theorem fr_mk {x y : Operand} {t bytes sz : Nat} (z0 : α) {k k' : IntKind} (m : Nat) [T : SLT t e sz bytes] (he : sz = E.sz) (hzv : ZV Tryz.prog e (E.enc z0)) (hd : decide (d < n.n) = true)
    (hx : ev R x = .int k (m : Int)) (hy : ev R y = .int k' (m : Int)) (hm : m ≤ maxLen) (hb : bytes * m ≤ 281474976710656) :
    FreshO Tryz.prog n w0 S ops ⟨some d, .makeSlice t x y, ty, pos, after, none⟩ R (fun g => .slice (some ⟨g, 0, none⟩) m m) (fun g => rowc E e (List.replicate m z0) g m) := by
  intro L X h
  have := w_mk (E := E) (n := n) (w0 := w0) (S := S) (X := X) (R := R) (L := L) (ks := []) (ops := ops) (rest := []) (d := d) (ty := ty) (pos := pos) (after := after) (t := t) (x := x) (y := y) z0 m he hzv hd hx hy hm hb (fun g => by
    refine w_nil ?_
    unfold Gl
    rw [List.length_replicate]
    exact h g)
  unfold Gl at this
  exact this
theorem fr_bs {t bytes sz : Nat} (l : List α) (vs : List Value) {m : Nat} {parts : Array (Nat × Operand)} [T : SLT t e sz bytes] (he : sz = E.sz) (hv : vs.map (fun v => v.cells.toList) = l.map E.enc) (hm : m = l.length) (hd : decide (d < n.n) = true)
    (hparts : (parts.map fun (i, x) => (i, ev R x)).toList = (vs.zipIdx 0).map fun p => (p.2, p.1)) (hpos : 0 < l.length) (hsm : l.length * E.sz ≤ 16777216) :
    FreshO Tryz.prog n w0 S ops ⟨some d, .buildSlice t m parts, ty, pos, after, none⟩ R (fun g => .slice (some ⟨g, 0, none⟩) l.length l.length) (fun g => rowc E e l g l.length) := by
  intro L X h
  have := w_bs (E := E) (n := n) (w0 := w0) (S := S) (X := X) (R := R) (L := L) (ks := []) (ops := ops) (rest := []) (d := d) (ty := ty) (pos := pos) (after := after) (t := t) (parts := parts) l vs he hv hm hd hparts hpos hsm (fun g => by
    refine w_nil ?_
    unfold Gl
    exact h g)
  unfold Gl at this
  exact this
end
end Go.Proofs.YtnilejkfbcnkkaaGreatDoor.V
end
section
set_option maxRecDepth 100000
namespace Go.Proofs.YtnilejkfbcnkkaaGreatDoor.V
open Go Go.RowKit
attribute [local irreducible] Yields cl blk pur rowc sv exC fo

structure Cel where
  s : Nat
  m : Nat
  b : Blk
def eCel : Enc Cel := ⟨fun c => I c.s :: I c.m :: bl c.b, 66, fun c => by simp [bl_len], fun c v hv => by
  simp only [List.mem_cons] at hv
  rcases hv with rfl | rfl | hv
  · rfl
  · rfl
  · exact bv_one c.b v hv, by omega⟩
instance : EncV eCel (fun c => I c.s :: I c.m :: bl c.b) := ⟨rfl⟩
/-- may cells stand in a record? -/
def CelOk (l : List Cel) : Prop := ∀ c ∈ l, c.s < 64 ∧ c.m < 16
def hds (n : Nat) : Nat := (n + 15) / 16
theorem f266 {s m : Nat} (hs : s < 64) (hm : m < 16) : CtV Tryz.prog 266 [A [I s, I m]] [] (.bool true) := by
  refine w_ct Tryz.func266 rfl Tryz.ntmps266 rfl fun w B => ?_
  refine W1 fun g1 => ?_
  rw [decide_eq_true (show (0 : Int) ≤ s by omega)]
  refine W ?_
  rw [decide_eq_true (show (s : Int) < 64 by omega)]
  refine W ?_
  rw [decide_eq_true (show (0 : Int) ≤ m by omega)]
  refine W ?_
  rw [decide_eq_true (show (m : Int) < 16 by omega)]
  refine W ?_
  exact fin ⟨_, rfl, rfl, rfl⟩
theorem f267 {n : Nat} (hn : n ≤ 1000) : CtV Tryz.prog 267 [I n] [] (I (hds n)) := by
  refine w_ct Tryz.func267 rfl Tryz.ntmps267 rfl fun w B => ?_
  refine W ?_
  exact fin (v := .int .i64 (((n : Int) + 16 - 1) / 16)) ⟨_, rfl, by unfold hds; exact ie (by omega), rfl⟩
theorem f268 {n : Nat} (h1 : 1 ≤ n) (h2 : n ≤ 32) : CtV Tryz.prog 268 [I n] [] (I (hds n + n : Nat)) := by
  refine w_ct Tryz.func268 rfl Tryz.ntmps268 rfl fun w B => ?_
  refine W ?_
  rw [decide_eq_false (show ¬ ((n : Int) < 1) by omega)]
  refine W ?_
  rw [decide_eq_false (show ¬ ((32 : Int) < n) by omega)]
  refine W ?_
  refine cv (f267 (n := n) (by omega)) ?_
  have : hds n ≤ 100 := by unfold hds; omega
  refine W ?_
  exact fin (v := .int .i64 ((hds n : Int) + n)) ⟨_, rfl, ie (by omega), rfl⟩
theorem f251 {l : List Blk} {a : Option Addr} {c : Nat} (hl : l.length ≤ 1000) : Ct Tryz.prog 251 [.slice a l.length c] [sv eBlk 51 l a c] (fun v L => (∃ z : Int, v = .int .u32 z) ∧ L = [sv eBlk 51 l a c]) := by
  refine w_ct Tryz.func251 rfl Tryz.ntmps251 rfl fun w B => ?_
  refine W ?_
  refine w_loop (γ := Nat × Int) (fun ⟨j, z⟩ => [(3, .int .u32 z), (6, .slice a l.length c), (7, I l.length), (8, I j)]) (fun _ => [sv eBlk 51 l a c]) (fun x => x.1 ≤ l.length) (fun x => l.length - x.1) (0, 0) sl_ ent_ (Nat.zero_le _) fun ⟨j, z⟩ B hj => ?_
  dsimp only at hj ⊢
  refine W ?_
  refine w_if rfl (fun h => ?_) (fun h => ?_)
  · refine g_svp rfl sel_ (by omega) fun g hg => ?_
    subst hg
    refine W1 fun g5 => ?_
    refine w_y rfl rfl rfl (y_sa2 0 64 rfl rfl rfl (by omega) (by omega) (by omega)) ?_
    refine cl' (f271 (g := g5) (o := 0) (n := 64) (bys_bl l[j] (by omega)) (fun _ => rfl) (by omega)) ?_
    rintro _ _ ⟨⟨z', _, _, rfl⟩, rfl⟩
    refine W ?_
    exact w_land rfl (w_round (j + 1, z') (by show j + 1 ≤ l.length; omega) (by show l.length - (j + 1) < l.length - j; omega) sl_ (ent_sv ent_))
  · refine W ?_
    exact fin ⟨_, rfl, ⟨_, rfl⟩, rfl⟩
theorem ent_svr {α : Type} {E : Enc α} {e : TypeId} {l : List α} {g cap : Nat} {L K : Hp} (h : Ent L (sv E e l (some ⟨g, 0, none⟩) cap :: K)) : Ent L (rowc E e l g cap :: K) := h.trans (by
  rintro B ⟨B1, B2, rfl, h1, h2⟩
  refine ⟨B1 ++ B2, [], by simp, B1, B2, rfl, ?_, h2⟩
  unfold sv at h1
  unfold rowc
  rcases h1 with ⟨e, _⟩ | ⟨g', c, e, hB, hr⟩
  · cases e
  · cases e; exact ⟨c, hB, hr⟩)
theorem f251r {l : List Blk} {g c : Nat} (hl : l.length ≤ 1000) : Ct Tryz.prog 251 [SL g l.length c] [rowc eBlk 51 l g c] (fun v L => (∃ z : Int, v = .int .u32 z) ∧ L = [rowc eBlk 51 l g c]) := by
  have h := f251 (a := some ⟨g, 0, none⟩) (c := c) hl
  have h2 := Ct.frame (K := []) h (L := [rowc eBlk 51 l g c]) (by simpa using ent_sv (.refl _))
  intro w B hs hat
  refine (h2 w B hs hat).mono fun e w' ⟨o, M, h1, ⟨v, h3, M0, ⟨h4, h5⟩, h6⟩, h7⟩ => ?_
  subst h5
  refine ⟨o, [rowc eBlk 51 l g c], h1, ⟨v, h3, h4, rfl⟩, h7.ent ?_⟩
  rw [h6, List.append_nil]
  exact ent_svr (.refl _)
theorem f248 {l : List Cel} {g c : Nat} (h1 : 1 ≤ l.length) (h2 : l.length ≤ 32) (hok : CelOk l) : Ct Tryz.prog 248 [SL g l.length c] [rowc eCel 163 l g c]
    (fun v L => ∃ (o : List Blk) (a : Option Addr) (c' : Nat), o.length = hds l.length + l.length ∧ v = T [.slice a o.length c', I 0] ∧ L = [sv eBlk 51 o a c', rowc eCel 163 l g c]) := by
  refine w_ct Tryz.func248 rfl Tryz.ntmps248 rfl fun w B => ?_
  refine W ?_
  rw [decide_eq_false (show ¬ ((l.length : Int) = 0) by omega)]
  refine W ?_
  refine w_loop (γ := Nat) (fun j => [(0, SL g l.length c), (15, SL g l.length c), (16, I l.length), (17, I j)]) (fun _ => [rowc eCel 163 l g c]) (fun x => x ≤ l.length) (fun x => l.length - x) 0 sl_ ent_ (Nat.zero_le _) fun j B hj => ?_
  refine W ?_
  refine w_if rfl (fun h => ?_) (fun h => ?_)
  · refine W1 fun g5 => ?_
    have hc := hok l[j] (List.getElem_mem _)
    refine cv (f266 hc.1 hc.2) ?_
    refine W ?_
    exact w_land rfl (w_round (j + 1) (by show j + 1 ≤ l.length; omega) (by show l.length - (j + 1) < l.length - j; omega) sl_ ent_)
  refine W ?_
  rw [decide_eq_false (show ¬ ((32 : Int) < l.length) by omega)]
  refine W ?_
  refine cv (f267 (n := l.length) (by omega)) ?_
  refine W ?_
  refine cv (f268 (n := l.length) h1 h2) ?_
  have hh : hds l.length ≤ 2 ∧ l.length ≤ 16 * hds l.length := by unfold hds; omega
  refine w_mkc (E := eBlk) blk0 (hds l.length) (hds l.length + l.length) (by omega) rfl inferInstance rfl rfl rfl (by simp only [maxLen]; omega) (by omega) fun g6 => ?_
  rw [List.length_replicate]
  refine W ?_
  refine w_loop (γ := Nat × List Blk × Option Addr × Nat) (fun ⟨j, o, a, c'⟩ => [(6, .slice a o.length c'), (36, SL g l.length c), (37, I l.length), (38, I j)]) (fun ⟨j, o, a, c'⟩ => [sv eBlk 51 o a c', rowc eCel 163 l g c]) (fun ⟨j, o, a, c'⟩ => j ≤ l.length ∧ o.length = hds l.length + j) (fun x => l.length - x.1) (0, List.replicate (hds l.length) blk0, some ⟨g6, 0, none⟩, hds l.length + l.length) (by refine ⟨by rw [List.length_replicate]; rfl, ?_⟩; exact sl_) (ent_sv ent_) ⟨Nat.zero_le _, by simp⟩ fun ⟨j, o, a, c'⟩ B ⟨hj, ho⟩ => ?_
  dsimp only at hj ho ⊢
  refine W ?_
  refine w_if rfl (fun h => ?_) (fun h => ?_)
  · refine g_svp rfl sel_ (by omega) fun g7 hg => ?_
    subst hg
    refine W1 fun g8 => ?_
    have hc := hok l[j] (List.getElem_mem _)
    have hq : j / 16 < o.length := by omega
    have e1 : ((j : Int) / 16).toNat = j / 16 := by omega
    have e2 : ((j : Int) % 16 * 4) = ((j % 16 * 4 : Nat) : Int) := by omega
    have hx : o[j / 16]? = some o[j / 16] := List.getElem?_eq_getElem hq
    refine w_y rfl rfl rfl (y_sa2 (j % 16 * 4) 64 rfl ⟨.i64, ie e2⟩ rfl (by omega) (by omega) (by omega)) ?_
    refine w_y rfl rfl rfl (y_slice (l := 0) (h := 4) rfl (UT.h (P := Tryz.prog)) (SZ.h (P := Tryz.prog)) rfl ⟨.i64, rfl⟩ (by omega) (by omega)) ?_
    rw [if_neg (by omega), e1]
    refine W ?_
    refine cl' (f238 (size := 2) (by omega) (by omega)) ?_
    rintro _ _ ⟨l1, a1, c1, e3, hl1, rfl, rfl⟩
    refine W ?_
    refine g_rowcl rfl (sel_ : Sel (rowc eBlk 51 o g7 c') _ _) fun cs hr => ?_
    obtain ⟨x1, hx1⟩ := over o[j / 16] l1 (o := j % 16 * 4) (by omega)
    obtain ⟨cs1, hs1, hr1⟩ := row_in (E := eBlk) (j := j % 16 * 4) hr hx hx1
    refine w_copy (E := eByte) (l := l1) rfl rfl rfl upd_ (rd_sv mem_) (by omega) (by simpa [eBlk] using hs1) ?_
    refine W ?_
    refine w_y rfl rfl rfl (y_ixSl rfl rfl (UT.h (P := Tryz.prog)) (SZ.h (P := Tryz.prog)) (by omega) (by omega) rfl) ?_
    obtain ⟨b, hb⟩ := byteOf (z := (l[j].m : Int)) (by omega)
    have hx2 : (o.set (j / 16) x1)[j / 16]? = some x1 := by simp [hq]
    obtain ⟨cs2, hs2, hr2⟩ := row_in (E := eBlk) (j := j % 16 * 4 + 2) hr1 hx2 (bl_sets (x := x1) (j := j % 16 * 4 + 2) (by omega) rfl b)
    refine w_st1 rfl ev_ inferInstance upd_ (c' := cs2) ?_ ?_
    · rw [hb]
      simpa [eBlk, Nat.add_assoc] using hs2
    refine W ?_
    obtain ⟨o2, ho2, hr3⟩ : ∃ o2 : List Blk, o2.length = o.length ∧ Row eBlk o2 cs2.toArray c' := ⟨_, by simp, hr2⟩
    refine g_ent rfl (ent_sv (ent_rowcl hr3 ent_) : Ent _ [sv eBlk 51 o2 (some ⟨g7, 0, none⟩) c', cl g8 (I l[j].s :: I l[j].m :: bl l[j].b) 163, rowc eCel 163 l g c]) ?_
    refine W ?_
    refine w_bs1 eBlk l[j].b rfl rfl rfl (by decide) fun gt => ?_
    refine W ?_
    refine w_ap eBlk (sel_ : Sel (sv eBlk 51 o2 _ c') _ _) (rd_row (show rowc eBlk 51 [l[j].b] gt 1 ∈ _ from mem_)) (by simp; omega) (by simp; omega) (hn0 := ho2.symm) fun a9 c9 => ?_
    refine W ?_
    exact w_land rfl (w_round (j + 1, o2 ++ [l[j].b], a9, c9) ⟨by show j + 1 ≤ l.length; omega, by show (o2 ++ [l[j].b]).length = hds l.length + (j + 1); simp; omega⟩ (by show l.length - (j + 1) < l.length - j; omega) sl_ ent_)
  · refine W ?_
    exact fin ⟨_, rfl, o, a, c', by omega, rfl, rfl⟩
end Go.Proofs.YtnilejkfbcnkkaaGreatDoor.V
end
