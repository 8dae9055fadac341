/- Proved: small facts on blocks of bytes, and what the program's rows say of their type; the conditions stand in the statements. -/
import Derived.Test.YtaekfjidnbcajaaProg
import Derived.Test.YtaekfjidnbcajaaEngF
namespace Go.Proofs.Ytaekfjidnbcajaa.Wall
open Go Go.RowKit Go.Proofs.Ytaekfjidnbcajaa.Eng

theorem s5 : (Try.prog.info? 5).map (·.size) = some 1 := by kernel_rfl
theorem s25 : (Try.prog.info? 25).map (·.size) = some 64 := by kernel_rfl
theorem T25 : BlkType Try.prog 25 5 := ⟨Try.underlying25, Try.underlying5, s25, s5, by kernel_rfl⟩

def zB : Blk := Vector.replicate 64 0
def xorB (a b : Blk) : Blk := Vector.zipWith (· ^^^ ·) a b
def mixB (j : Nat) (a b : Blk) : Blk := Vector.ofFn fun i => if i.val < j then a[i] else b[i]

theorem z25 : (Try.prog.info? 25).map (·.zero) = some (some (.agg (bv zB))) := by kernel_rfl

theorem mixB_get (j : Nat) (a b : Blk) (i : Nat) (h : i < 64) : (mixB j a b)[i] = if i < j then a[i] else b[i] := by simp [mixB]
theorem mixB_zero (a b : Blk) : mixB 0 a b = b := by
  apply Vector.ext; intro i h; simp [mixB_get]
theorem mixB_full (a b : Blk) : mixB 64 a b = a := by
  apply Vector.ext; intro i h; simp [mixB_get, h]
theorem mixB_succ (j : Nat) (a b : Blk) (h : j < 64) : (mixB j a b).set j a[j] h = mixB (j + 1) a b := by
  apply Vector.ext
  intro i hi
  rw [Vector.getElem_set, mixB_get, mixB_get]
  by_cases e : j = i
  · subst e; simp
  · rw [if_neg e]
    by_cases h1 : i < j
    · rw [if_pos h1, if_pos (by omega)]
    · rw [if_neg h1, if_neg (by omega)]
theorem xorB_get (a b : Blk) (i : Nat) (h : i < 64) : (xorB a b)[i] = a[i] ^^^ b[i] := by simp [xorB]
theorem mix_xor (a b : Blk) (j : Nat) (h : j < 64) : (mixB j (xorB a b) a).set j ((mixB j (xorB a b) a)[j] ^^^ b[j]) h = mixB (j + 1) (xorB a b) a := by
  rw [← mixB_succ j _ _ h, mixB_get]
  simp [xorB_get]

theorem mix_xor' (a b : Blk) (j : Nat) (h : j < 64) (y : Blk) : (mixB j (xorB a b) y).set j (a[j] ^^^ b[j]) h = mixB (j + 1) (xorB a b) y := by
  rw [← mixB_succ j _ _ h, xorB_get]

theorem xorB_comm (a b : Blk) : xorB a b = xorB b a := by
  apply Vector.ext; intro i h; rw [xorB_get _ _ _ h, xorB_get _ _ _ h, UInt8.xor_comm]
theorem xorB_assoc (a b c : Blk) : xorB (xorB a b) c = xorB a (xorB b c) := by
  apply Vector.ext; intro i h; simp only [xorB_get _ _ _ h, UInt8.xor_assoc]
theorem xorB_self (a : Blk) : xorB a a = zB := by
  apply Vector.ext; intro i h; simp [xorB_get _ _ _ h, zB]
theorem xorB_zero (a : Blk) : xorB a zB = a := by
  apply Vector.ext; intro i h; simp [xorB_get _ _ _ h, zB]
theorem zero_xorB (a : Blk) : xorB zB a = a := by rw [xorB_comm, xorB_zero]

def foldB (l : List Blk) : Blk := l.foldl xorB zB
theorem foldB_zero (l : List Blk) : foldB (l.take 0) = zB := rfl
theorem foldB_snoc (l : List Blk) (x : Blk) : foldB (l ++ [x]) = xorB (foldB l) x := by simp [foldB]
theorem foldB_succ (l : List Blk) (j : Nat) (h : j < l.length) : foldB (l.take (j + 1)) = xorB (foldB (l.take j)) l[j] := by
  rw [List.take_succ_eq_append_getElem h, foldB_snoc]
theorem foldl_xorB (l : List Blk) (x : Blk) : l.foldl xorB x = xorB x (foldB l) := by
  induction l generalizing x with
  | nil => simp [foldB, xorB_zero]
  | cons y l ih =>
    have e : foldB (y :: l) = l.foldl xorB (xorB zB y) := rfl
    rw [List.foldl_cons, ih, e, ih, zero_xorB, xorB_assoc]
theorem foldB_append (l m : List Blk) : foldB (l ++ m) = xorB (foldB l) (foldB m) := by
  rw [foldB, List.foldl_append, foldl_xorB]; rfl
theorem foldB_cons (x : Blk) (l : List Blk) : foldB (x :: l) = xorB x (foldB l) := by
  have := foldB_append [x] l
  have e : foldB [x] = x := zero_xorB x
  rw [e] at this; exact this

/-- The parity of all but the n-th. -/
def missB (l : List Blk) (n : Int) : Blk := if 0 ≤ n ∧ n < l.length then xorB (foldB l) (l.getD n.toNat zB) else zB
def missE (l : List Blk) (n : Int) : Int := if 0 ≤ n ∧ n < l.length then 0 else 2
theorem missB_in (l : List Blk) (n : Int) (h0 : 0 ≤ n) (h1 : n < l.length) : missB l n = xorB (foldB l) (l[n.toNat]'(by omega)) := by
  rw [missB, if_pos ⟨h0, h1⟩]; simp [List.getD_eq_getElem?_getD, show n.toNat < l.length by omega]
theorem missE_in (l : List Blk) (n : Int) (h0 : 0 ≤ n) (h1 : n < l.length) : missE l n = 0 := by rw [missE, if_pos ⟨h0, h1⟩]
theorem missB_out (l : List Blk) (n : Int) (h : n < 0 ∨ (l.length : Int) ≤ n) : missB l n = zB := by rw [missB, if_neg (by omega)]
theorem missE_out (l : List Blk) (n : Int) (h : n < 0 ∨ (l.length : Int) ≤ n) : missE l n = 2 := by rw [missE, if_neg (by omega)]
def foldX (l : List Blk) (n : Int) : Nat → Blk
  | 0 => zB
  | j + 1 => if (j : Int) = n then foldX l n j else xorB (foldX l n j) (l.getD j zB)
theorem foldX_succ (l : List Blk) (n : Int) (j : Nat) (h : j < l.length) : foldX l n (j + 1) = if (j : Int) = n then foldX l n j else xorB (foldX l n j) l[j] := by
  rw [foldX]; simp [List.getD_eq_getElem?_getD, h]
theorem foldX_is (l : List Blk) (n : Int) (h0 : 0 ≤ n) (h1 : n < l.length) : ∀ j, j ≤ l.length → foldX l n j = if (j : Int) ≤ n then foldB (l.take j) else xorB (foldB (l.take j)) (l.getD n.toNat zB) := by
  intro j
  induction j with
  | zero => intro _; rw [if_pos (by omega)]; rfl
  | succ j ih =>
    intro hj
    have ih := ih (by omega)
    rw [foldX_succ l n j (by omega), ih, foldB_succ l j (by omega)]
    by_cases e : (j : Int) = n
    · subst e
      rw [if_pos rfl, if_pos (by omega), if_neg (by omega)]
      have e2 : l.getD ((j : Int)).toNat zB = l[j]'(by omega) := by simp [List.getD_eq_getElem?_getD, show j < l.length by omega]
      rw [e2, xorB_assoc, xorB_self, xorB_zero]
    · rw [if_neg e]
      by_cases h : (j : Int) ≤ n
      · rw [if_pos h, if_pos (by omega)]
      · rw [if_neg h, if_neg (by omega), xorB_assoc, xorB_assoc, xorB_comm (l.getD _ _)]
theorem foldX_full (l : List Blk) (n : Int) (h0 : 0 ≤ n) (h1 : n < l.length) : foldX l n l.length = xorB (foldB l) (l.getD n.toNat zB) := by
  rw [foldX_is l n h0 h1 _ (Nat.le_refl _), if_neg (by omega), List.take_length]

/-! torn -/
def clampN (n : Int) : Nat := min n.toNat 64
theorem clampN_le (n : Int) : clampN n ≤ 64 := by unfold clampN; omega
theorem clamp_eq (n : Int) : min (max n 0) 64 = ((clampN n : Nat) : Int) := by unfold clampN; omega
theorem mix_clamp (n : Int) (b a : Blk) : mixB (clampN n) b a = mixB n.toNat b a := by
  apply Vector.ext; intro i h
  rw [mixB_get _ _ _ _ h, mixB_get _ _ _ _ h]
  have : (i < clampN n) ↔ i < n.toNat := by unfold clampN; omega
  simp [this]
theorem mix_toNat (n : Int) (j : Nat) (b a : Blk) (h1 : (j : Int) ≤ n.toNat) (h2 : j = 64 ∨ n ≤ j) (_h3 : j ≤ 64) : mixB j b a = mixB n.toNat b a := by
  apply Vector.ext; intro i h
  rw [mixB_get _ _ _ _ h, mixB_get _ _ _ _ h]
  have : (i < j) ↔ i < n.toNat := by omega
  simp [this]
def eByte : Enc UInt8 := ⟨fun x => [.int .u8 (x.toNat : Int)], 1, fun _ => rfl, by simp [Value.oneCell'], by omega⟩
theorem bytes_flat (x : List UInt8) : x.flatMap eByte.enc = x.map fun b => Value.int .u8 (b.toNat : Int) := by
  induction x with
  | nil => rfl
  | cons b x ih => simp [eByte] at ih ⊢; exact ih
theorem bv_list (x : Blk) : (bv x).toList = x.toList.map fun b => Value.int .u8 (b.toNat : Int) := by simp only [bv, Array.toList_map]; rfl
theorem Row.bytes (x : Blk) : Row eByte x.toList (bv x) 64 :=
  ⟨by simp [bv_size, eByte], by simp, by simp [maxLen], by rw [bytes_flat, bv_list, List.take_of_length_le (by simp [eByte])]⟩
theorem copy_bytes (k : Nat) (src dst : Blk) (h : k ≤ 64) : (bv dst).toList.take 0 ++ (src.toList.take k).flatMap eByte.enc ++ (bv dst).toList.drop (0 + k * eByte.sz) = (bv (mixB k src dst)).toList := by
  have e1 : 0 + k * eByte.sz = k := by simp [eByte]
  have e2 : (mixB k src dst).toList = src.toList.take k ++ dst.toList.drop k := by
    apply List.ext_getElem
    · simp; omega
    · intro i h1 h2
      have hi : i < 64 := by simpa using h1
      rw [List.getElem_append, Vector.getElem_toList, mixB_get _ _ _ _ hi]
      by_cases hik : i < k
      · rw [if_pos hik, dif_pos (by simp; omega)]
        simp
      · rw [if_neg hik, dif_neg (by simp; omega)]
        simp only [List.getElem_drop, Vector.getElem_toList]
        congr 1
        simp; omega
  rw [e1, bytes_flat, bv_list, bv_list, e2, List.take_zero, List.nil_append, List.map_append, List.map_drop]
section
variable {P : Program} {n : Nat} {w0 : World} {S : Nat → Prop} {R : Regs} {H : Hp} {dst : Option Tmp} {ty : TypeId} {pos : String} {after : Array Edge} {gd : Option (Nat × Bool)}
theorem y_sliceArr0 {x : Operand} {t e : TypeId} {len : Nat} {b : Nat} {hi : Option Operand} (h : Nat) (hx : ev R x = .pointer (some ⟨b, 0, none⟩)) (hu : P.underlying t = some (.array len e))
    (hs : (P.info? e).map (·.size) = some 1) (hhi : match hi with | some q => ∃ k, ev R q = .int k (h : Int) | none => h = len) (hc : h ≤ len) :
    Eng.Yields P w0 S H ⟨dst, .slice t x none hi none, ty, pos, after, gd⟩ R (.slice (some ⟨b, 0, none⟩) h len) := by
  have := y_sliceArr (P := P) (w0 := w0) (S := S) (H := H) (dst := dst) (ty := ty) (pos := pos) (after := after) (gd := gd) (lo := none) (hi := hi) 0 h hx hu hs rfl hhi (by omega) hc
  simpa [part_, Addr.add_mid] using this
end

/-! zero -/
theorem u8z {x : UInt8} (h : x.toNat = 0) : x = 0 := UInt8.toNat_inj.1 h
theorem zero_next {a : Blk} {j : Nat} (h : ∀ (i : Nat) (h : i < 64), i < j → a[i] = 0) (hj : j < 64) (h0 : a[j] = 0) : ∀ (i : Nat) (h : i < 64), i < j + 1 → a[i] = 0 := by
  intro i hi hij
  by_cases e : i = j
  · subst e; exact h0
  · exact h i hi (by omega)
theorem zero_all {a : Blk} (h : ∀ (i : Nat) (h : i < 64), i < 64 → a[i] = 0) : decide (a = zB) = true := by
  rw [decide_eq_true_eq]
  apply Vector.ext; intro i hi
  rw [h i hi hi]; simp [zB]
theorem zero_not {a : Blk} {j : Nat} (hj : j < 64) (h : ¬ a[j] = 0) : decide (a = zB) = false := by
  rw [decide_eq_false_iff_not]
  rintro rfl
  exact h (by simp [zB])

/-! rows of blocks -/
def b7 : Blk := zB.set 0 7
def wideB (l : List Blk) (j : Nat) : List Blk := l.take j ++ List.replicate (l.length + 2 - j) zB
theorem wideB_zero (l : List Blk) : List.replicate (l.length + 2) zB = wideB l 0 := by simp [wideB]
theorem wideB_len (l : List Blk) (j : Nat) (h : j ≤ l.length) : (wideB l j).length = l.length + 2 := by simp [wideB]; omega
theorem wideB_set (l : List Blk) (j : Nat) (h : j < l.length) : (wideB l j).set j l[j] = wideB l (j + 1) := by
  have e1 : l.length + 2 - j = (l.length + 2 - (j + 1)) + 1 := by omega
  unfold wideB
  rw [List.set_append_right _ _ (by simp; omega), e1, List.replicate_succ, List.take_succ_eq_append_getElem h, List.append_assoc]
  congr 1
  have : j - (l.take j).length = 0 := by simp; omega
  rw [this]; rfl
def sevB (l : List Blk) (k : Nat) : List Blk := l ++ List.replicate (k - l.length) b7 ++ List.replicate (l.length + 2 - k) zB
theorem sevB_start (l : List Blk) : wideB l l.length = sevB l l.length := by simp [wideB, sevB]
theorem sevB_end (l : List Blk) : sevB l (l.length + 2) = l ++ [b7, b7] := by simp [sevB, List.replicate]
theorem sevB_len (l : List Blk) (k : Nat) (h0 : l.length ≤ k) (h : k ≤ l.length + 2) : (sevB l k).length = l.length + 2 := by simp [sevB]; omega
theorem sevB_set (l : List Blk) (k : Nat) (h0 : l.length ≤ k) (h : k < l.length + 2) : (sevB l k).set k (((sevB l k)[k]'(by rw [sevB_len l k h0 (by omega)]; exact h)).set 0 7) = sevB l (k + 1) := by
  have hz : (sevB l k)[k]'(by rw [sevB_len l k h0 (by omega)]; exact h) = zB := by
    simp only [sevB, List.getElem_append, List.length_append, List.length_replicate]
    rw [dif_neg (by omega)]
    simp
  rw [hz]
  show (sevB l k).set k b7 = _
  have e1 : l.length + 2 - k = (l.length + 2 - (k + 1)) + 1 := by omega
  have e2 : k + 1 - l.length = (k - l.length) + 1 := by omega
  unfold sevB
  rw [List.set_append_right _ _ (by simp; omega), e1, List.replicate_succ, e2, List.replicate_succ']
  simp
  rw [show k - (l.length + (k - l.length)) = 0 by omega]
  simp
theorem wide_tail (l : List Blk) (j : Nat) (h0 : l.length ≤ j) (h : j < l.length + 2) : (l ++ [b7, b7])[j]'(by simp; exact h) = b7 := by
  rw [List.getElem_append_right h0]
  have : j - l.length = 0 ∨ j - l.length = 1 := by omega
  rcases this with e | e <;> simp [e]

/-! the laws -/
theorem wrap_u64 (n : Int) : IntKind.u64.wrap n = n % 18446744073709551616 := by simp [IntKind.wrap, IntKind.signed, IntKind.bits]
def kN (n : Int) (m : Nat) : Nat := ((n % 18446744073709551616) % (m : Int)).toNat
theorem kN_eq (n : Int) (m : Nat) (h : 0 < m) : (n % 18446744073709551616).tmod (m : Int) = ((kN n m : Nat) : Int) := by
  have h0 := Int.emod_nonneg n (show (18446744073709551616 : Int) ≠ 0 by omega)
  have h1 := Int.emod_nonneg (n % 18446744073709551616) (show (m : Int) ≠ 0 by omega)
  rw [Int.tmod_eq_emod_of_nonneg h0, kN]; omega
theorem kN_lt (n : Int) (m : Nat) (h : 0 < m) : kN n m < m := by
  have h1 := Int.emod_lt_of_pos (n % 18446744073709551616) (show (0 : Int) < m by omega)
  have h2 := Int.emod_nonneg (n % 18446744073709551616) (show (m : Int) ≠ 0 by omega)
  unfold kN; omega
theorem mixB_same (j : Nat) (a : Blk) : mixB j a a = a := by
  apply Vector.ext; intro i h; simp [mixB_get]
theorem torn_byte (n : Int) (j : Nat) (a b : Blk) (hj : j < 64) {x : UInt8} (h : ((j : Int) < n ∧ x = b[j]) ∨ (¬ (j : Int) < n ∧ x = a[j])) : ¬ (mixB n.toNat b a)[j] ≠ x := by
  rw [mixB_get _ _ _ _ hj]
  rcases h with ⟨h, rfl⟩ | ⟨h, rfl⟩
  · rw [if_pos (by omega)]; simp
  · rw [if_neg (by omega)]; simp
theorem fold_set (l : List Blk) (k : Nat) (x : Blk) (h : k < l.length) : xorB (foldB l) (xorB l[k] x) = foldB (l.set k x) := by
  have e1 : foldB l = xorB (foldB (l.take k)) (xorB l[k] (foldB (l.drop (k + 1)))) := by
    have : foldB (l.take k ++ l[k] :: l.drop (k + 1)) = foldB l := by congr 1; simp
    rw [← this, foldB_append, foldB_cons]
  have e2 : l.set k x = l.take k ++ x :: l.drop (k + 1) := by rw [List.set_eq_take_append_cons_drop, if_pos h]
  rw [e2, e1, foldB_append, foldB_cons, xorB_assoc]
  congr 1
  rw [xorB_comm l[k] x, xorB_comm l[k], xorB_assoc, ← xorB_assoc l[k], xorB_comm l[k] x, xorB_assoc x, xorB_self, xorB_zero, xorB_comm]
theorem miss_all (l : List Blk) (j : Nat) (h : j < (l ++ [foldB l]).length) : missB (l ++ [foldB l]) j = (l ++ [foldB l])[j] := by
  rw [missB_in _ _ (by omega) (by omega)]
  have e : foldB (l ++ [foldB l]) = zB := by rw [foldB_snoc, xorB_self]
  rw [e, zero_xorB]
  rfl
theorem xor_zero_iff (a b : Blk) : decide (xorB a b = zB) = decide (a = b) := by
  apply decide_eq_decide.2
  constructor
  · intro h
    rw [← xorB_zero a, ← xorB_self b, ← xorB_assoc, h, zero_xorB]
  · rintro rfl; exact xorB_self a

theorem kN_one (n : Int) : kN n (0 + 1) = 0 := by have := kN_lt n (0 + 1) (by omega); omega
theorem rev_one (l : List Blk) (h : 0 < l.length) : l.reverse.take 1 = [l[((((l.length : Nat) : Int) - 1)).toNat]'(by omega)] := by
  rw [List.take_succ_eq_append_getElem (by simpa using h)]
  simp
theorem rev_next (l : List Blk) (q : Nat) (h : q < l.length) : l.reverse.take (q + 1) = l.reverse.take q ++ [l[((((l.length : Nat) : Int) - 1 - ((q : Nat) : Int))).toNat]'(by omega)] := by
  rw [List.take_succ_eq_append_getElem (by simpa using h)]
  simp
theorem fold_rev (l : List Blk) : foldB (l.reverse.take l.length) = foldB l := by
  have : l.reverse.take l.length = l.reverse := List.take_of_length_le (by simp)
  rw [this]
  induction l with
  | nil => rfl
  | cons x l ih => rw [List.reverse_cons, foldB_snoc, ih (List.take_of_length_le (by simp)), foldB_cons, xorB_comm]
theorem fold_rot (l : List Blk) (k : Nat) (_h : k ≤ l.length) : foldB ((l.drop k).take (l.length - k) ++ l.take k) = foldB l := by
  rw [List.take_of_length_le (by simp), foldB_append, xorB_comm, ← foldB_append, List.take_append_drop]
theorem fold_two (l : List Blk) (k : Nat) (_h : k ≤ l.length) : xorB (foldB (l.take k)) (foldB ((l.drop k).take (l.length - k))) = foldB l := by
  have : (l.drop k).take (l.length - k) = l.drop k := List.take_of_length_le (by simp)
  rw [this, ← foldB_append, List.take_append_drop]

theorem b8 : Bodied Try.prog 8 := ⟨_, Try.func8, by kernel_rfl, rfl⟩
theorem b9 : Bodied Try.prog 9 := ⟨_, Try.func9, by kernel_rfl, rfl⟩
theorem b10 : Bodied Try.prog 10 := ⟨_, Try.func10, by kernel_rfl, rfl⟩
theorem b11 : Bodied Try.prog 11 := ⟨_, Try.func11, by kernel_rfl, rfl⟩
theorem b12 : Bodied Try.prog 12 := ⟨_, Try.func12, by kernel_rfl, rfl⟩
theorem b13 : Bodied Try.prog 13 := ⟨_, Try.func13, by kernel_rfl, rfl⟩
theorem b14 : Bodied Try.prog 14 := ⟨_, Try.func14, by kernel_rfl, rfl⟩
theorem b15 : Bodied Try.prog 15 := ⟨_, Try.func15, by kernel_rfl, rfl⟩
theorem b16 : Bodied Try.prog 16 := ⟨_, Try.func16, by kernel_rfl, rfl⟩
theorem b17 : Bodied Try.prog 17 := ⟨_, Try.func17, by kernel_rfl, rfl⟩
theorem b18 : Bodied Try.prog 18 := ⟨_, Try.func18, by kernel_rfl, rfl⟩
theorem b19 : Bodied Try.prog 19 := ⟨_, Try.func19, by kernel_rfl, rfl⟩
theorem b20 : Bodied Try.prog 20 := ⟨_, Try.func20, by kernel_rfl, rfl⟩
theorem b21 : Bodied Try.prog 21 := ⟨_, Try.func21, by kernel_rfl, rfl⟩
theorem b22 : Bodied Try.prog 22 := ⟨_, Try.func22, by kernel_rfl, rfl⟩
theorem b23 : Bodied Try.prog 23 := ⟨_, Try.func23, by kernel_rfl, rfl⟩
theorem b24 : Bodied Try.prog 24 := ⟨_, Try.func24, by kernel_rfl, rfl⟩
theorem SL22 : SlType Try.prog 22 25 eBlk 64 := SlType.mk' (.agg (bv zB)) Try.underlying22 (by kernel_rfl) (by simp [Value.cells, bv_size, eBlk])
theorem zr22 : (Try.prog.info? 25).map (fun i => i.zero.map (·.cells)) = some (some (eBlk.enc zB).toArray) := by kernel_rfl
end Go.Proofs.Ytaekfjidnbcajaa.Wall
