/- Proved: numbers as bytes: that they come through (what they come to is of no account); sectors that are whole: that they come through; the conditions stand in the statements. -/
import Derived.Test.YtnilejkfbcnkkaaGreatDoorM03
set_option linter.unusedVariables false
set_option linter.unusedSimpArgs false
set_option linter.unusedSectionVars false
section
set_option maxRecDepth 100000
namespace Go.Proofs.YtnilejkfbcnkkaaGreatDoor.V
open Go Go.RowKit
attribute [local irreducible] Yields cl blk pur rowc sv exC fo

def eByte : Enc UInt8 := ⟨fun x => [.int .u8 (x.toNat : Int)], 1, fun _ => rfl, by simp [Value.oneCell'], by omega⟩
instance : EncV eByte (fun x => [.int .u8 (x.toNat : Int)]) := ⟨rfl⟩
theorem zByte : ZV Tryz.prog 5 (eByte.enc 0) := show ZV Tryz.prog 5 [.int .u8 0] from inferInstance
theorem byteOf {z : Int} (h : 0 ≤ z ∧ z ≤ 255) : ∃ x : UInt8, z = (x.toNat : Int) := ⟨UInt8.ofNat z.toNat, by simp [UInt8.toNat_ofNat']; omega⟩
theorem wrapB (z : Int) : ∃ x : UInt8, wrapv .u8 z = (x.toNat : Int) := byteOf (wrapv_8 z)
theorem bitB (op : BinOp) (a b : Int) : ∃ x : UInt8, bitv op .u8 a b = (x.toNat : Int) := byteOf (bitv_8 op a b)
/-- from o on there are n bytes -/
def Bys (c : List Value) (o n : Nat) : Prop := ∀ i, i < n → ∃ z : UInt8, c[o + i]? = some (.int .u8 (z.toNat : Int))
theorem bys_bl (x : Blk) {o n : Nat} (h : o + n ≤ 64) : Bys (bl x) o n := fun i hi => ⟨x[o + i], bl_get (by omega) rfl⟩
theorem bys_row {l : List UInt8} {c : List Value} {cap : Nat} (h : Row eByte l c.toArray cap) : Bys c 0 l.length := fun i hi => ⟨l[i], by
  have := h.at_ i hi 0 (.int .u8 (l[i].toNat : Int)) rfl
  have e : (eByte : Enc UInt8).sz = 1 := rfl
  rw [e] at this
  simpa using this⟩
/-- a number's bytes -/
theorem f238 {n : Int} {size : Nat} (h1 : 1 ≤ size) (h8 : size ≤ 8) : Ct Tryz.prog 238 [.int .u64 n, I size] [] (fun v L => ∃ (l : List UInt8) (a : Option Addr) (c : Nat) (e : Int), l.length ≤ size ∧ v = T [.slice a l.length c, .int .i64 e] ∧ L = [sv eByte 5 l a c]) := by
  refine w_ct Tryz.func238 rfl Tryz.ntmps238 rfl fun w B => ?_
  refine W ?_
  rw [decide_eq_false (show ¬ ((size : Int) < 1) by omega)]
  refine W ?_
  rw [decide_eq_false (show ¬ ((8 : Int) < size) by omega)]
  refine W ?_
  by_cases hs : (size : Int) < 8
  · rw [decide_eq_true hs]
    refine W ?_
    refine w_if rfl (fun h => ?_) (fun h => ?_)
    · refine W ?_
      exact finE ⟨_, rfl, [], none, 0, 2, by simp, rfl, rfl⟩ (ent_svn .nil)
    · refine W ?_
      refine w_mk (E := eByte) 0 size rfl zByte rfl (ie rfl) (ie rfl) (by simp only [maxLen]; omega) (by omega) fun g => ?_
      rw [List.length_replicate]
      refine W ?_
      refine w_loop (γ := Nat × List UInt8) (fun ⟨j, l⟩ => [(0, .int .u64 n), (6, SL g size size), (27, I size), (28, I j)]) (fun ⟨j, l⟩ => [rowc eByte 5 l g size]) (fun x => x.1 ≤ size ∧ x.2.length = size) (fun x => size - x.1) (0, List.replicate size 0) sl_ ent_ ⟨Nat.zero_le _, by simp⟩ fun ⟨j, l⟩ B ⟨hj, hl⟩ => ?_
      dsimp only at hj hl ⊢
      refine W ?_
      refine w_if rfl (fun h => ?_) (fun h => ?_)
      · refine W ?_
        obtain ⟨xb, hxb⟩ := wrapB (shrv .u64 n (8 * (j : Int)))
        rw [hxb]
        refine w_stE (E := eByte) (i := j) (x := xb) inferInstance rfl rfl rfl ?_ rfl upd_ ?_
        · omega
        refine W ?_
        exact w_land rfl (w_round (j + 1, l.set j _) ⟨by show j + 1 ≤ size; omega, by simpa using hl⟩ (by show size - (j + 1) < size - j; omega) sl_ ent_)
      · refine W ?_
        refine finE ⟨_, rfl, l, some ⟨g, 0, none⟩, size, 0, by omega, by rw [hl], rfl⟩ (ent_sv ent_)
  · rw [decide_eq_false hs]
    refine W ?_
    refine w_mk (E := eByte) 0 size rfl zByte rfl (ie rfl) (ie rfl) (by simp only [maxLen]; omega) (by omega) fun g => ?_
    rw [List.length_replicate]
    refine W ?_
    refine w_loop (γ := Nat × List UInt8) (fun ⟨j, l⟩ => [(0, .int .u64 n), (6, SL g size size), (27, I size), (28, I j)]) (fun ⟨j, l⟩ => [rowc eByte 5 l g size]) (fun x => x.1 ≤ size ∧ x.2.length = size) (fun x => size - x.1) (0, List.replicate size 0) sl_ ent_ ⟨Nat.zero_le _, by simp⟩ fun ⟨j, l⟩ B ⟨hj, hl⟩ => ?_
    dsimp only at hj hl ⊢
    refine W ?_
    refine w_if rfl (fun h => ?_) (fun h => ?_)
    · refine W ?_
      obtain ⟨xb, hxb⟩ := wrapB (shrv .u64 n (8 * (j : Int)))
      rw [hxb]
      refine w_stE (E := eByte) (i := j) (x := xb) inferInstance rfl rfl rfl ?_ rfl upd_ ?_
      · omega
      refine W ?_
      exact w_land rfl (w_round (j + 1, l.set j _) ⟨by show j + 1 ≤ size; omega, by simpa using hl⟩ (by show size - (j + 1) < size - j; omega) sl_ ent_)
    · refine W ?_
      refine finE ⟨_, rfl, l, some ⟨g, 0, none⟩, size, 0, by omega, by rw [hl], rfl⟩ (ent_sv ent_)
/-- a number of bytes -/
theorem f286 {a : Option Addr} {g o n c size at_ : Nat} {cs : List Value} {ct : TypeId} (hby : Bys cs o n) (ha : 0 < n → a = some ⟨g, o, none⟩) (hn : n ≤ 100) (hc : n ≤ c) (h1 : 1 ≤ size) (h8 : size ≤ 8) :
    Ct Tryz.prog 286 [.slice a n c, I at_, I size] [cl g cs ct] (fun v L => (∃ z e : Int, 0 ≤ z ∧ z ≤ 18446744073709551615 ∧ v = T [.int .u64 z, .int .i64 e]) ∧ L = [cl g cs ct]) := by
  refine w_ct Tryz.func286 rfl Tryz.ntmps286 rfl fun w B => ?_
  refine W ?_
  rw [decide_eq_false (show ¬ ((size : Int) < 1) by omega)]
  refine W ?_
  rw [decide_eq_false (show ¬ ((8 : Int) < size) by omega)]
  refine W ?_
  rw [decide_eq_false (show ¬ ((at_ : Int) < 0) by omega)]
  refine W ?_
  by_cases hat : (n : Int) < at_
  · rw [decide_eq_true hat]
    refine W ?_
    exact finE ⟨_, rfl, ⟨0, 2, by omega, by omega, rfl⟩, rfl⟩ ent_
  rw [decide_eq_false hat]
  refine W ?_
  refine w_if rfl (fun h => ?_) (fun h => ?_)
  · refine W ?_
    exact finE ⟨_, rfl, ⟨0, 4, by omega, by omega, rfl⟩, rfl⟩ ent_
  refine W ?_
  refine w_y rfl rfl rfl (y_part (l := at_) (h := at_ + size) rfl (UT.h (P := Tryz.prog)) (SZ.h (P := Tryz.prog)) ⟨_, rfl⟩ ⟨_, rfl⟩ (by omega) (by omega)) ?_
  rw [Nat.add_sub_cancel_left]
  refine W ?_
  have hp : part_ a at_ 1 c = some ⟨g, o + at_, none⟩ := by rw [part_, if_neg (by omega), ha (by omega)]; simp [Addr.add]
  refine w_loop (γ := Nat × Int) (fun ⟨j, z⟩ => [(8, .int .u64 z), (40, .slice (part_ a at_ 1 c) size (c - at_)), (41, I size), (42, I j)]) (fun _ => [cl g cs ct]) (fun ⟨j, z⟩ => j ≤ size ∧ 0 ≤ z ∧ z ≤ 18446744073709551615) (fun x => size - x.1) (0, 0) sl_ ent_ ⟨Nat.zero_le _, by omega, by omega⟩ fun ⟨j, z⟩ B ⟨hj, hz0, hz1⟩ => ?_
  dsimp only at hj hz0 hz1 ⊢
  refine W ?_
  refine w_if rfl (fun h => ?_) (fun h => ?_)
  · refine w_skip ?_
    refine W ?_
    obtain ⟨y, hy⟩ := hby (at_ + j) (by omega)
    refine w_y rfl rfl rfl (y_ixO j hp rfl rfl (UT.h (P := Tryz.prog)) (SZ.h (P := Tryz.prog)) rfl (by omega)) ?_
    refine w_y rfl rfl rfl (y_ld1 rfl mem_ (show cs[o + at_ + j * 1]? = _ by rw [show o + at_ + j * 1 = o + (at_ + j) by omega]; exact hy)) ?_
    clear hy
    generalize (y.toNat : Int) = y
    refine W ?_
    have hr := bitv_64 .or z (shlv .u64 (wrapv .u64 y) (8 * (j : Int)))
    exact w_land rfl (w_round (j + 1, bitv .or .u64 z (shlv .u64 (wrapv .u64 y) (8 * (j : Int)))) ⟨by omega, hr.1, hr.2⟩ (by show size - (j + 1) < size - j; omega) sl_ ent_)
  · refine W ?_
    exact finE ⟨_, rfl, ⟨z, 0, hz0, hz1, rfl⟩, rfl⟩ ent_
theorem f276 : CtV Tryz.prog 276 [I 2] [] (.bool true) := by
  refine w_ct Tryz.func276 rfl Tryz.ntmps276 rfl fun w B => ?_
  refine W ?_
  exact fin ⟨_, rfl, rfl, rfl⟩
/-- numbers of two bits as bytes -/
theorem f264 {g o c : Nat} {cs : List Value} {ct : TypeId} (hby : Bys cs o 16) (hc : 16 ≤ c) : Ct Tryz.prog 264 [.slice (some ⟨g, o, none⟩) 16 c, I 2] [cl g cs ct] (fun v L => ∃ (l : List UInt8) (a : Option Addr) (c' : Nat) (e : Int), l.length ≤ 8 ∧ v = T [.slice a l.length c', .int .i64 e] ∧ L = [sv eByte 5 l a c', cl g cs ct]) := by
  refine w_ct Tryz.func264 rfl Tryz.ntmps264 rfl fun w B => ?_
  refine W ?_
  refine cv f276 ?_
  refine W ?_
  refine w_mk (E := eByte) 0 4 rfl zByte rfl (ie rfl) (ie rfl) (by simp only [maxLen]; omega) (by omega) fun gr => ?_
  rw [List.length_replicate]
  refine W ?_
  refine w_loop (γ := Nat × List UInt8) (fun ⟨j, l⟩ => [(1, I 2), (6, SL gr 4 4), (22, .slice (some ⟨g, o, none⟩) 16 c), (23, I 16), (24, I j)]) (fun ⟨j, l⟩ => [cl g cs ct, rowc eByte 5 l gr 4]) (fun x => x.1 ≤ 16 ∧ x.2.length = 4) (fun x => 16 - x.1) (0, List.replicate 4 0) sl_ ent_ ⟨Nat.zero_le _, by simp⟩ fun ⟨j, l⟩ B ⟨hj, hl⟩ => ?_
  dsimp only at hj hl ⊢
  refine W ?_
  refine w_if rfl (fun h => ?_) (fun h => ?_)
  · refine w_skip ?_
    refine W ?_
    obtain ⟨y, hy⟩ := hby j (by omega)
    refine w_y rfl rfl rfl (y_ixO j rfl rfl rfl (UT.h (P := Tryz.prog)) (SZ.h (P := Tryz.prog)) rfl (by omega)) ?_
    refine w_y rfl rfl rfl (y_ld1 rfl mem_ (show cs[o + j * 1]? = _ by rw [Nat.mul_one]; exact hy)) ?_
    clear hy
    generalize (y.toNat : Int) = y
    refine W ?_
    refine w_if rfl (fun h' => ?_) (fun h' => ?_)
    · refine W ?_
      exact finE ⟨_, rfl, [], none, 0, 2, by simp, rfl, rfl⟩ (ent_svn ent_)
    · refine W ?_
      obtain ⟨xb, hxb⟩ := bitB .or ((l[((j : Int) * 2 / 8).toNat]).toNat : Int) (shlv .u8 y ((j : Int) * 2 % 8))
      rw [hxb]
      refine w_stE (E := eByte) (i := ((j : Int) * 2 / 8).toNat) (x := xb) inferInstance rfl rfl rfl ?_ rfl upd_ ?_
      · omega
      refine W ?_
      rw [decide_eq_false (show ¬ (0 < (j : Int) * 2 % 8 + 2 - 8) by omega)]
      refine W ?_
      exact w_land rfl (w_round (j + 1, l.set _ _) ⟨by show j + 1 ≤ 16; omega, by simpa using hl⟩ (by show 16 - (j + 1) < 16 - j; omega) sl_ ent_)
  · refine W ?_
    exact finE ⟨_, rfl, l, some ⟨gr, 0, none⟩, 4, 0, by omega, by rw [hl], rfl⟩ (ent_sv ent_)
/-- numbers of two bits -/
theorem f282 {a : Option Addr} {g o n c : Nat} {cs : List Value} {ct : TypeId} (hby : Bys cs o n) (ha : 0 < n → a = some ⟨g, o, none⟩) : Ct Tryz.prog 282 [.slice a n c, I 2, I 16] [cl g cs ct] (fun v L => ∃ (l : List UInt8) (a : Option Addr) (c' : Nat) (e : Int), (l = [] ∨ l.length = 16) ∧ v = T [.slice a l.length c', .int .i64 e] ∧ L = [sv eByte 5 l a c', cl g cs ct]) := by
  refine w_ct Tryz.func282 rfl Tryz.ntmps282 rfl fun w B => ?_
  refine W ?_
  refine cv f276 ?_
  refine W ?_
  by_cases hn : n < 4
  · rw [decide_eq_true (show (n : Int) < (16 * 2 + 8 - 1) / 8 by omega)]
    refine W ?_
    exact finE ⟨_, rfl, [], none, 0, 4, .inl rfl, rfl, rfl⟩ (ent_svn ent_)
  rw [decide_eq_false (show ¬ (n : Int) < (16 * 2 + 8 - 1) / 8 by omega)]
  refine W ?_
  refine w_mk (E := eByte) 0 16 rfl zByte rfl (ie rfl) (ie rfl) (by simp only [maxLen]; omega) (by omega) fun gr => ?_
  rw [List.length_replicate]
  refine W ?_
  refine w_loop (γ := Nat × List UInt8) (fun ⟨j, l⟩ => [(0, .slice a n c), (1, I 2), (8, SL gr 16 16), (37, I 16), (38, I j)]) (fun ⟨j, l⟩ => [cl g cs ct, rowc eByte 5 l gr 16]) (fun x => x.1 ≤ 16 ∧ x.2.length = 16) (fun x => 16 - x.1) (0, List.replicate 16 0) sl_ ent_ ⟨Nat.zero_le _, by simp⟩ fun ⟨j, l⟩ B ⟨hj, hl⟩ => ?_
  dsimp only at hj hl ⊢
  refine W ?_
  refine w_if rfl (fun h => ?_) (fun h => ?_)
  · refine w_skip ?_
    refine W ?_
    obtain ⟨y, hy⟩ := hby ((j : Int) * 2 / 8).toNat (by omega)
    refine w_y rfl rfl rfl (y_ixO ((j : Int) * 2 / 8).toNat (ha (by omega)) rfl rfl (UT.h (P := Tryz.prog)) (SZ.h (P := Tryz.prog)) (by omega) (by omega)) ?_
    refine w_y rfl rfl rfl (y_ld1 rfl mem_ (show cs[o + ((j : Int) * 2 / 8).toNat * 1]? = _ by rw [Nat.mul_one]; exact hy)) ?_
    clear hy
    generalize (y.toNat : Int) = y
    refine W ?_
    rw [decide_eq_false (show ¬ (8 < (j : Int) * 2 % 8 + 2) by omega)]
    refine W ?_
    rw [show shlv .u16 1 2 = 4 by rfl]
    refine W ?_
    obtain ⟨xb, hxb⟩ := wrapB (bitv .and .u16 (shrv .u16 (wrapv .u16 y) ((j : Int) * 2 % 8)) (4 - 1))
    rw [hxb]
    refine w_stE (E := eByte) (i := j) (x := xb) inferInstance rfl rfl rfl ?_ rfl upd_ ?_
    · omega
    refine W ?_
    exact w_land rfl (w_round (j + 1, l.set _ _) ⟨by show j + 1 ≤ 16; omega, by simpa using hl⟩ (by show 16 - (j + 1) < 16 - j; omega) sl_ ent_)
  · refine W ?_
    exact finE ⟨_, rfl, l, some ⟨gr, 0, none⟩, 16, 0, .inr hl, by rw [hl], rfl⟩ (ent_sv ent_)
/-! sums of bytes -/
abbrev crcT : List Value := [.int .u32 0, .int .u32 274646895, .int .u32 549293790, .int .u32 820201905, .int .u32 1098587580, .int .u32 1361435347, .int .u32 1640403810, .int .u32 1905808397, .int .u32 2197175160, .int .u32 2460548119, .int .u32 2722870694, .int .u32 2987750089, .int .u32 3280807620, .int .u32 3553878443, .int .u32 3811616794, .int .u32 4084100981]
theorem crcAt {j : Nat} (hj : j < 16) : ∃ z : Int, crcT[j]? = some (.int .u32 z) := by
  match j, hj with
  | 0, _ | 1, _ | 2, _ | 3, _ | 4, _ | 5, _ | 6, _ | 7, _ | 8, _ | 9, _ | 10, _ | 11, _ | 12, _ | 13, _ | 14, _ | 15, _ => exact ⟨_, rfl⟩
  | j + 16, h => omega
theorem f285 : CtV Tryz.prog 285 [] [] (A crcT) := by
  refine w_ct Tryz.func285 rfl Tryz.ntmps285 rfl fun w B => ?_
  refine W1 fun g => ?_
  refine w_y rfl rfl rfl (y_build (c := crcT.toArray) (by rfl) (by unfold Program.built; simp only [Tryz.underlying339]; kernel_rfl)) ?_
  refine W ?_
  exact fin ⟨_, rfl, rfl, rfl⟩
theorem f279 {r b : Int} : Ct Tryz.prog 279 [.int .u32 r, .int .u8 b] [] (fun v L => (∃ z : Int, v = .int .u32 z) ∧ L = []) := by
  refine w_ct Tryz.func279 rfl Tryz.ntmps279 rfl fun w B => ?_
  refine W ?_
  refine cv f285 ?_
  have h1 := and15 (bitv .xor .u32 r (wrapv .u32 b))
  refine W1 fun g => ?_
  obtain ⟨z, hz⟩ := crcAt (j := (bitv .and .u32 (bitv .xor .u32 r (wrapv .u32 b)) 15).toNat) (by omega)
  refine w_y rfl rfl rfl (y_ld1 rfl mem_ (show crcT[0 + (bitv .and .u32 (bitv .xor .u32 r (wrapv .u32 b)) 15).toNat * 1]? = _ by rw [Nat.mul_one, Nat.zero_add]; exact hz)) ?_
  have h2 := and15 (bitv .xor .u32 (shrv .u32 (bitv .xor .u32 r (wrapv .u32 b)) 4) z)
  refine W ?_
  obtain ⟨z', hz'⟩ := crcAt (j := (bitv .and .u32 (bitv .xor .u32 (shrv .u32 (bitv .xor .u32 r (wrapv .u32 b)) 4) z) 15).toNat) (by omega)
  refine w_y rfl rfl rfl (y_ld1 rfl mem_ (show crcT[0 + (bitv .and .u32 (bitv .xor .u32 (shrv .u32 (bitv .xor .u32 r (wrapv .u32 b)) 4) z) 15).toNat * 1]? = _ by rw [Nat.mul_one, Nat.zero_add]; exact hz')) ?_
  refine W ?_
  exact fin ⟨_, rfl, ⟨_, rfl⟩, rfl⟩
theorem y_unX {w0 : World} {S : Nat → Prop} {R : Regs} {L : Hp} {dst : Option Tmp} {ty : TypeId} {pos : String} {after : Array Go.Edge} {gd : Option (Nat × Bool)} {xt : TypeId} {x : Operand} {k : IntKind} {a : Int} (hx : ev R x = .int k a) :
    Yields Tryz.prog w0 S L ⟨dst, .unOp .xor xt x, ty, pos, after, gd⟩ R (.int k (bitv .xor k (if k.signed then -1 else k.max) a)) :=
  y_val fun w => by simp [execOp, hx, Op.unary, Op.intBits, bitv]
theorem f271 {s : Int} {a : Option Addr} {g o n c : Nat} {cs : List Value} {ct : TypeId} (hby : Bys cs o n) (ha : 0 < n → a = some ⟨g, o, none⟩) (hn : n ≤ 1000) : Ct Tryz.prog 271 [.int .u32 s, .slice a n c] [cl g cs ct] (fun v L => (∃ z : Int, 0 ≤ z ∧ z ≤ 4294967295 ∧ v = .int .u32 z) ∧ L = [cl g cs ct]) := by
  refine w_ct Tryz.func271 rfl Tryz.ntmps271 rfl fun w B => ?_
  refine W ?_
  refine w_y rfl rfl rfl (y_unX rfl) ?_
  refine W ?_
  refine w_loop (γ := Nat × Int) (fun ⟨j, z⟩ => [(5, .int .u32 z), (10, .slice a n c), (11, I n), (12, I j)]) (fun _ => [cl g cs ct]) (fun x => x.1 ≤ n) (fun x => n - x.1) (0, _) sl_ ent_ (Nat.zero_le _) fun ⟨j, z⟩ B hj => ?_
  dsimp only at hj ⊢
  refine W ?_
  refine w_if rfl (fun h => ?_) (fun h => ?_)
  · refine w_skip ?_
    refine W ?_
    obtain ⟨y, hy⟩ := hby j (by omega)
    refine w_y rfl rfl rfl (y_ixO j (ha (by omega)) rfl rfl (UT.h (P := Tryz.prog)) (SZ.h (P := Tryz.prog)) rfl (by omega)) ?_
    refine w_y rfl rfl rfl (y_ld1 rfl mem_ (show cs[o + j * 1]? = _ by rw [Nat.mul_one]; exact hy)) ?_
    clear hy
    generalize (y.toNat : Int) = y
    refine W ?_
    refine cl' f279 ?_
    rintro _ _ ⟨⟨z', rfl⟩, rfl⟩
    refine W ?_
    exact w_land rfl (w_round (j + 1, z') (by show j + 1 ≤ n; omega) (by show n - (j + 1) < n - j; omega) sl_ ent_)
  · refine W ?_
    refine w_y rfl rfl rfl (y_unX rfl) ?_
    refine W ?_
    have hr := bitv_32 .xor (if IntKind.u32.signed then -1 else IntKind.u32.max) z
    exact finE ⟨_, rfl, ⟨_, hr.1, hr.2, rfl⟩, rfl⟩ ent_
theorem f261 {a : Option Addr} {g o n c : Nat} {cs : List Value} {ct : TypeId} (hby : Bys cs o n) (ha : 0 < n → a = some ⟨g, o, none⟩) (hn : n ≤ 1000) : Ct Tryz.prog 261 [.slice a n c] [cl g cs ct] (fun v L => (∃ z : Int, 0 ≤ z ∧ z ≤ 4294967295 ∧ v = .int .u32 z) ∧ L = [cl g cs ct]) := by
  refine w_ct Tryz.func261 rfl Tryz.ntmps261 rfl fun w B => ?_
  refine W ?_
  refine cl' (f271 hby ha hn) ?_
  rintro _ _ ⟨⟨z, h0, h1, rfl⟩, rfl⟩
  refine W ?_
  exact fin ⟨_, rfl, ⟨z, h0, h1, rfl⟩, rfl⟩
end Go.Proofs.YtnilejkfbcnkkaaGreatDoor.V
end
section
set_option maxRecDepth 100000
namespace Go.Proofs.YtnilejkfbcnkkaaGreatDoor.V
open Go Go.RowKit
section
variable {w0 : World} {S : Nat → Prop} {R : Regs} {L : Hp} {dst : Option Tmp} {ty : TypeId} {pos : String} {after : Array Go.Edge} {gd : Option (Nat × Bool)}
theorem y_sa2 {x : Operand} {t e : TypeId} {len sz : Nat} {b o : Nat} {lo hi : Option Operand} [hu : UT Tryz.prog t (.array len e)] [hs : SZ Tryz.prog e sz] (l h : Nat) (hx : ev R x = PP b o)
    (hlo : match lo with | some q => ∃ k, ev R q = .int k (l : Int) | none => l = 0) (hhi : match hi with | some q => ∃ k, ev R q = .int k (h : Int) | none => h = len) (hlh : l ≤ h) (hc : h ≤ len) (hl : l < len) :
    Yields Tryz.prog w0 S L ⟨dst, .slice t x lo hi none, ty, pos, after, gd⟩ R (.slice (some ⟨b, o + l * sz, none⟩) (h - l) (len - l)) := by
  have := y_sliceArr (P := Tryz.prog) (w0 := w0) (S := S) (H := L) (dst := dst) (ty := ty) (pos := pos) (after := after) (gd := gd) l h hx hu.h hs.h hlo hhi hlh hc
  rw [part_at rfl (by omega)] at this
  exact this
theorem y_sa3 {x r q' : Operand} {t e : TypeId} {len sz : Nat} {b o : Nat} {lo : Option Operand} [hu : UT Tryz.prog t (.array len e)] [hs : SZ Tryz.prog e sz] (l h m : Nat) (hx : ev R x = PP b o)
    (hlo : match lo with | some q => ∃ k, ev R q = .int k (l : Int) | none => l = 0) (hhi : ∃ k, ev R q' = .int k (h : Int)) (hm : ∃ k, ev R r = .int k (m : Int)) (hlh : l ≤ h) (hhm : h ≤ m) (hc : m ≤ len) (hl : l < m) :
    Yields Tryz.prog w0 S L ⟨dst, .slice t x lo (some q') (some r), ty, pos, after, gd⟩ R (.slice (some ⟨b, o + l * sz, none⟩) (h - l) (m - l)) :=
  y_val fun w => by
    obtain ⟨km, hm⟩ := hm
    obtain ⟨it, hit, rfl⟩ : ∃ it, Tryz.prog.info? e = some it ∧ it.size = sz := by
      have hs := hs.h
      cases h : Tryz.prog.info? e with
      | none => simp [h] at hs
      | some it => exact ⟨it, rfl, by simpa [h] using hs⟩
    have key : (Instr.sliceAt t (.pointer (some ⟨b, o, none⟩)) (lo.map (ev R)) (some (ev R q')) (some (ev R r))).run Tryz.prog w = .ok (.slice (some ⟨b, o + l * it.size, none⟩) (h - l) (m - l)) w := by
      have q1 : (Instr.sliceBounds false len len (lo.map (ev R)) (some (ev R q')) (some (ev R r))).run Tryz.prog w = .ok (l, h, m) w := by
        obtain ⟨k', hk'⟩ := hhi
        cases lo <;> simp only at hlo
        · subst hlo
          simp [Instr.sliceBounds, Instr.sliceBound, asIntOf, hk', hm, hc, hhm]
        · obtain ⟨k, hk⟩ := hlo
          simp [Instr.sliceBounds, Instr.sliceBound, asIntOf, hk, hk', hc, hlh, hm, hhm]
      simp only [Instr.sliceAt, Sem.run_bind, run_underlying hu.h, Result.andThen_ok, Instr.sureAddr, Sem.run_pure, q1]
      simp [sizeOf, typeInfo, hit, show ¬ m = l by omega, Addr.add]
    simp only [execOp, Sem.run_bind, hx, Option.map_some, key, Result.andThen_ok, Sem.run_pure]
end
section
variable {n : Fp} {w0 : World} {S : Nat → Prop} {X : Post} {R : Regs} {L K : Hp} {ks : List Fr} {ops : Array Oper} {rest : List Oper} {ty : TypeId} {pos : String} {after : Array Go.Edge} {α : Type} {E : Enc α}
theorem g_rowcl {kd : Kd} {e : TypeId} {l : List α} {g cap : Nat} (hk : kd.plain = true) (hs : Sel (rowc E e l g cap) L K) (h : ∀ c : List Value, Row E l c.toArray cap → Gl n w0 S X kd R (cl g c e :: K)) : Gl n w0 S X kd R L := by
  refine g_open (γ := List Value) (M := fun c => [pur (Row E l c.toArray cap), cl g c e]) hk ?_ hs fun c => ?_
  · rintro B ⟨c, rfl, hr⟩
    refine ⟨c.toList, [], _, rfl, ?_, [_], [], rfl, ?_, rfl⟩
    · unfold pur; exact ⟨by simpa using hr, rfl⟩
    · unfold cl; simp
  · exact g_pure hk Sel.hd fun hr => h c hr
theorem ent_rowcl {e : TypeId} {l : List α} {g cap : Nat} {c : List Value} (hr : Row E l c.toArray cap) (h : Ent L (cl g c e :: K)) : Ent L (rowc E e l g cap :: K) := Ent.fold (M := [cl g c e]) (row_cl c hr) h
/-- copy into a block -/
theorem w_copy {d : Option Tmp} {x y : Operand} {t u e et : TypeId} {r : TypeId} {g o sl sc m cap : Nat} {c c' : List Value} {l : List α} {a : Option Addr} {H' : Hp} (hx : ev R x = .slice (some ⟨g, o, none⟩) sl sc) (hy : ev R y = .slice a m cap) (hm : m = l.length)
    (hu : Upd L (cl g c et) (cl g c' et) H') (hr : Rds L E l a cap) (hle : l.length ≤ sl) (hst : Sets c o (l.flatMap E.enc) c') (h : Gl n w0 S X (.ops ops ks rest) (put R d (.int .i64 (m : Int))) H') [ht : UT Tryz.prog t (.slice e)] [hz : SZ Tryz.prog e E.sz] (hd : dok n d = true := by rfl) :
    Gl n w0 S X (.ops ops ks (⟨d, .call { callee := .builtin .copy, args := #[x, y], argTypes := #[t, u] }, r, pos, after, none⟩ :: rest)) R L := by
  subst hm
  unfold Gl at *
  refine o_op rfl hd fun w hw => ?_
  obtain ⟨bx, ox, h1⟩ := hr _ _ _ hw
  have hmem : cl g c et ∈ L := by obtain ⟨K, p, _⟩ := hu; exact p.mem_iff.2 (List.mem_cons_self ..)
  have hg := hw.cl hmem
  obtain ⟨it, hit, hits⟩ : ∃ it, Tryz.prog.info? e = some it ∧ it.size = E.sz := by
    have hz := hz.h
    cases h : Tryz.prog.info? e with
    | none => simp [h] at hz
    | some it => exact ⟨it, rfl, by simpa [h] using hz⟩
  have hf : (Builtin.firstCells E.sz l.length (.slice a l.length cap)).run Tryz.prog w = .ok (l.flatMap E.enc).toArray w := by
    by_cases h0 : l.length = 0
    · have : l = [] := List.eq_nil_of_length_eq_zero h0
      subst this
      cases a <;> simp [Builtin.firstCells, loadCells, loadCellsFrom]
    · rw [h1.at_ (by omega)]
      exact run_firstCells_some (P := Tryz.prog) w E.sz l.length ⟨bx, ox, none⟩ l.length cap (l.flatMap E.enc) (E.flat_len l) (sl_cells h1)
  have hs := run_storeCells_at (P := Tryz.prog) g o et (l.flatMap E.enc) 0 c.toArray w hg (by simpa using hst.1) (E.flat_one l)
  rw [Nat.add_zero] at hs
  simp only [] at hs
  rw [hst.2] at hs
  have hmin : Nat.min l.length sl = l.length := Nat.min_eq_left hle
  refine ⟨.int .i64 (l.length : Int), w.setRow g c'.toArray, _, ?_, ?_, h⟩
  · simp only [execOp, resolve, Sem.run_bind, List.map_toArray, List.map_cons, List.map_nil, hx, hy, invoke, builtin, Sem.run_pure, Result.andThen_ok]
    simp [Builtin.copy_, run_underlying ht.h, Builtin.lenOf, sizeOf, typeInfo, hit, hits, hmin, hf, hs, goInt]
  · exact hw.write hu (g := g) (o := .cells c.toArray et (0, 0)) (o' := .cells c'.toArray et (0, 0)) (fun B hB => by unfold cl at hB; exact hB) (by unfold cl; rfl) (setRow_heap w g c.toArray c'.toArray et (0, 0) hg) (fun k hk => setRow_other w g k c'.toArray hk) (by simp) rfl rfl rfl
end
section
variable {n : Fp} {w0 : World} {S : Nat → Prop} {X : Post} {R : Regs} {L K : Hp} {ks : List Fr} {ops : Array Oper} {rest : List Oper} {dst : Option Tmp} {ty : TypeId} {pos : String} {after : Array Go.Edge} {gd : Option (Nat × Bool)}
theorem eqGuard_sl (op : BinOp) (t : TypeId) (x y : Operand) (a b : Option Addr) (l c l' c' : Nat) (w : World) : (eqGuard op t x y (.slice a l c) (.slice b l' c')).run Tryz.prog w = .ok () w := by
  unfold eqGuard
  cases op <;> simp
theorem run_equalIn_slN (w : World) (d : Nat) (t e : TypeId) (a : Option Addr) (n c n' c' : Nat) (h : Tryz.prog.underlying t = some (.slice e)) :
    (Op.equalIn (d + 1) t (.slice a n c) (.slice none n' c')).run Tryz.prog w = .ok a.isNone w := by
  cases a <;> simp [Op.equalIn, run_underlying h]
theorem y_slN {t yt e : TypeId} {x y : Operand} {a : Option Addr} {l c l' c' : Nat} [hu : UT Tryz.prog t (.slice e)] (hx : ev R x = .slice a l c) (hy : ev R y = .slice none l' c') :
    Yields Tryz.prog w0 S L ⟨dst, .binOp .eql t x y yt, ty, pos, after, gd⟩ R (.bool a.isNone) :=
  y_val fun w => by
    have h1 := run_equalIn_slN w 9999 t e a l c l' c' hu.h
    have h2 : (binOp .eql t (.slice a l c) (.slice none l' c')).run Tryz.prog w = .ok (.bool a.isNone) w := by
      simp only [binOp]
      simp [Op.equal, Op.maxDepth, h1]
    simp [execOp, hx, hy, eqGuard_sl, h2]
theorem rd_by {g o m c : Nat} {cs : List Value} {ct : TypeId} (hby : Bys cs o m) (hc : m ≤ c) (hx : c ≤ maxLen) : ∃ l : List UInt8, l.length = m ∧ ∀ L : Hp, cl g cs ct ∈ L → Rds L eByte l (some ⟨g, o, none⟩) c := by
  have hby' : ∀ i : Fin m, ∃ z : UInt8, cs[o + i.1]? = some (.int .u8 (z.toNat : Int)) := fun i => hby i.1 i.2
  refine ⟨List.ofFn fun i => (hby' i).choose, by simp, fun L hm w0 S w hw => ⟨g, o, fun _ => rfl, ?_, by simpa using hc, hx⟩⟩
  intro i hi j v hj
  have hi' : i < m := by simpa using hi
  have hg := hw.cl hm
  have hz := (hby' ⟨i, hi'⟩).choose_spec
  simp only [eByte, List.getElem_ofFn] at hj
  cases j with
  | zero =>
    simp at hj
    subst hj
    simp only [World.cell?, hg, Nat.add_zero]
    simpa [eByte] using hz
  | succ j => simp at hj
theorem w_bs0 {α : Type} (E : Enc α) {t bytes sz d e : Nat} [T : SLT t e sz bytes] (h : ∀ g, Gl n w0 S X (.ops ops ks rest) (upd R d (.slice (some ⟨g, 0, none⟩) 0 0)) (sv E e ([] : List α) (some ⟨g, 0, none⟩) 0 :: L)) (he : sz = E.sz := by rfl) (hd : decide (d < n.n) = true := by rfl) :
    Gl n w0 S X (.ops ops ks (⟨some d, .buildSlice t 0 #[], ty, pos, after, none⟩ :: rest)) R L := by
  have T := T.st he
  unfold Gl at *
  refine o_op rfl hd fun w hw => ?_
  obtain ⟨i, z, hi, hz, hsz, hby, hzs⟩ := T.hi
  have hal := hw.allocC [] e
  have hrow : Row E ([] : List α) ([] : List Value).toArray 0 := ⟨by simp, Nat.le_refl _, Nat.zero_le _, by simp⟩
  refine ⟨_, _, _, ?_, hal.ent (ent_sv (Ent.fold (M := [V.cl _ _ e]) (row_cl _ hrow) (.refl _))), h _⟩
  have hr0 : Array.range 0 = #[] := by apply Array.eq_empty_of_size_eq_zero; simp
  simp [execOp, Instr.buildSlice, run_underlying T.ht, sizeOf, typeInfo, hi, Instr.fill, newRow, hr0]
end
attribute [local irreducible] Yields cl blk pur rowc sv exC fo
/-- bytes laid over a block's -/
theorem over (x : Blk) (l : List UInt8) {o : Nat} (h : o + l.length ≤ 64) : ∃ x' : Blk, Sets (bl x) o (l.flatMap eByte.enc) (bl x') := by
  refine ⟨Vector.ofFn fun i : Fin 64 => if o ≤ i.1 ∧ i.1 < o + l.length then l.getD (i.1 - o) 0 else x[i], ?_, ?_⟩
  · have h1 : (eByte : Enc UInt8).sz = 1 := rfl
    rw [bl_len, Enc.flat_len, h1, Nat.mul_one]; exact h
  · have e : l.flatMap eByte.enc = l.map fun b => Value.int .u8 (b.toNat : Int) := by
      have : ∀ l : List UInt8, l.flatMap eByte.enc = l.map fun b => Value.int .u8 (b.toNat : Int) := by
        intro l; induction l with
        | nil => rfl
        | cons b l ih => rw [List.flatMap_cons, ih]; rfl
      exact this l
    rw [e]
    refine List.ext_getElem? fun i => ?_
    have hl := bl_len x
    by_cases hi : i < 64
    · rw [bl_get (x := Vector.ofFn _) hi rfl]
      rw [List.append_assoc, List.getElem?_append]
      simp only [List.length_take, hl]
      by_cases h1 : i < o
      · rw [if_pos (by omega), List.getElem?_take_of_lt h1, bl_get hi rfl]
        simp [show ¬ (o ≤ i) by omega]
      · rw [if_neg (by omega), show min o 64 = o by omega, List.getElem?_append]
        simp only [List.length_map]
        by_cases h2 : i < o + l.length
        · rw [if_pos (by omega), List.getElem?_map]
          simp [show o ≤ i by omega, h2, List.getD_eq_getElem?_getD, show i - o < l.length by omega]
        · rw [if_neg (by omega), List.getElem?_drop, show o + l.length + (i - o - l.length) = i by omega, bl_get hi rfl]
          simp [h2]
    · rw [List.getElem?_eq_none (by simp [hl]; omega), List.getElem?_eq_none (by rw [bl_len]; omega)]
theorem f239 {nr : Int} {a : Option Addr} {c : Nat} {l : List UInt8} (hn : 0 ≤ nr) : Ct Tryz.prog 239 [.int .u64 nr, .slice a l.length c] [sv eByte 5 l a c] (fun v L => (∃ (x : Blk) (e : Int), v = T [BV x, .int .i64 e]) ∧ L = []) := by
  refine w_ct Tryz.func239 rfl Tryz.ntmps239 rfl fun w B => ?_
  refine W1 fun g => ?_
  by_cases h0 : nr = 0
  · rw [decide_eq_true h0]
    refine W ?_
    exact fin ⟨_, rfl, ⟨_, _, rfl⟩, rfl⟩
  rw [decide_eq_false h0]
  refine W ?_
  refine w_if rfl (fun h => ?_) (fun h => ?_)
  · refine W ?_
    exact fin ⟨_, rfl, ⟨_, _, rfl⟩, rfl⟩
  refine W ?_
  refine cl' (f238 (size := 8) (by omega) (by omega)) ?_
  rintro _ _ ⟨l1, a1, c1, e1, hl1, rfl, rfl⟩
  refine W ?_
  refine w_y rfl rfl rfl (y_sa2 0 8 rfl rfl ⟨_, rfl⟩ (by omega) (by omega) (by omega)) ?_
  refine W ?_
  obtain ⟨x1, hx1⟩ := over blk0 l1 (o := 0) (by omega)
  refine w_copy (E := eByte) (l := l1) rfl rfl rfl upd_ (rd_sv mem_) (by omega) hx1 ?_
  refine W ?_
  refine w_y rfl rfl rfl (y_sa3 8 52 52 rfl ⟨_, rfl⟩ ⟨_, rfl⟩ ⟨_, rfl⟩ (by omega) (by omega) (by omega) (by omega)) ?_
  refine W ?_
  obtain ⟨x2, hx2⟩ := over x1 l (o := 0 + 8 * 1) (by omega)
  refine w_copy (E := eByte) (l := l) rfl rfl rfl upd_ (rd_sv mem_) (by omega) hx2 ?_
  refine W ?_
  refine w_y rfl rfl rfl (y_sa3 0 52 52 rfl rfl ⟨_, rfl⟩ ⟨_, rfl⟩ (by omega) (by omega) (by omega) (by omega)) ?_
  refine cl' (f261 (o := 0 + 0 * 1) (n := 52 - 0) (bys_bl x2 ?_) ?_ ?_) ?_
  · omega
  · exact fun _ => rfl
  · omega
  rintro _ _ ⟨⟨z, hz0, hz1, rfl⟩, rfl⟩
  refine W ?_
  refine cl' (f238 (size := 4) (by omega) (by omega)) ?_
  rintro _ _ ⟨l2, a2, c2, e2, hl2, rfl, rfl⟩
  refine W ?_
  refine w_y rfl rfl rfl (y_sa3 52 56 56 rfl ⟨_, rfl⟩ ⟨_, rfl⟩ ⟨_, rfl⟩ (by omega) (by omega) (by omega) (by omega)) ?_
  refine W ?_
  obtain ⟨x3, hx3⟩ := over x2 l2 (o := 0 + 52 * 1) (by omega)
  refine w_copy (E := eByte) (l := l2) rfl rfl rfl upd_ (rd_sv mem_) (by omega) hx3 ?_
  refine W ?_
  refine w_y rfl rfl rfl (y_sa2 56 64 rfl ⟨_, rfl⟩ rfl (by omega) (by omega) (by omega)) ?_
  refine W ?_
  obtain ⟨x4, hx4⟩ := over x3 l1 (o := 0 + 56 * 1) (by omega)
  refine w_copy (E := eByte) (l := l1) rfl rfl rfl upd_ (rd_sv mem_) (by omega) hx4 ?_
  refine W ?_
  exact fin ⟨_, rfl, ⟨_, _, rfl⟩, rfl⟩
theorem f287 {g o n c : Nat} {cs : List Value} {ct : TypeId} (hby : Bys cs o n) (hc : n ≤ c) (hn : c ≤ 64) : Ct Tryz.prog 287 [.slice (some ⟨g, o, none⟩) n c] [cl g cs ct] (fun v L => ∃ (l : List UInt8) (a : Option Addr) (c' : Nat), l.length = n ∧ v = .slice a l.length c' ∧ L = [sv eByte 5 l a c', cl g cs ct]) := by
  refine w_ct Tryz.func287 rfl Tryz.ntmps287 rfl fun w B => ?_
  refine W ?_
  refine w_y rfl rfl rfl (y_slN rfl rfl) ?_
  refine W ?_
  refine w_bs0 eByte fun gn => ?_
  refine W ?_
  obtain ⟨l, hl, hr⟩ := rd_by (g := g) (ct := ct) hby hc (by simp only [maxLen]; omega)
  refine w_ap eByte sel_ (hr _ mem_) (by simp; omega) (by simp; omega) (hm := hl.symm) fun a c' => ?_
  refine W ?_
  refine fin ⟨_, rfl, l, a, c', hl, ?_, rfl⟩
  rfl
theorem f280 {x : Blk} : Ct Tryz.prog 280 [BV x] [] (fun v L => ∃ (z e : Int) (l : List UInt8) (a : Option Addr) (c : Nat), 0 ≤ z ∧ z ≤ 18446744073709551615 ∧ (e = 0 → l.length = 44) ∧ v = T [.int .u64 z, .slice a l.length c, .int .i64 e] ∧ L = [sv eByte 5 l a c]) := by
  refine w_ct Tryz.func280 rfl Tryz.ntmps280 rfl fun w B => ?_
  refine W1 fun g => ?_
  refine w_y rfl rfl rfl (y_sa2 0 64 rfl rfl rfl (by omega) (by omega) (by omega)) ?_
  refine cl' (f286 (size := 8) (at_ := 0) (o := 0) (n := 64) (bys_bl x ?_) ?_ ?_ ?_ ?_ ?_) ?_
  · omega
  · exact fun _ => rfl
  · omega
  · omega
  · omega
  · omega
  rintro _ _ ⟨⟨z1, e1, hz1, hz1', rfl⟩, rfl⟩
  refine W ?_
  refine w_y rfl rfl rfl (y_sa2 0 64 rfl rfl rfl (by omega) (by omega) (by omega)) ?_
  refine cl' (f286 (size := 8) (at_ := 56) (o := 0) (n := 64) (bys_bl x ?_) ?_ ?_ ?_ ?_ ?_) ?_
  · omega
  · exact fun _ => rfl
  · omega
  · omega
  · omega
  · omega
  rintro _ _ ⟨⟨z2, e2, hz2, hz2', rfl⟩, rfl⟩
  refine W ?_
  by_cases h0 : z1 = 0
  · rw [decide_eq_true h0]
    refine W ?_
    exact finE ⟨_, rfl, 0, 5, [], none, 0, by omega, by omega, fun h => by omega, rfl, rfl⟩ (ent_svn .nil)
  rw [decide_eq_false h0]
  refine W ?_
  refine w_if rfl (fun h => ?_) (fun h => ?_)
  · refine W ?_
    exact finE ⟨_, rfl, 0, 5, [], none, 0, by omega, by omega, fun h => by omega, rfl, rfl⟩ (ent_svn .nil)
  refine W ?_
  refine w_y rfl rfl rfl (y_sa2 0 64 rfl rfl rfl (by omega) (by omega) (by omega)) ?_
  refine cl' (f286 (size := 4) (at_ := 52) (o := 0) (n := 64) (bys_bl x ?_) ?_ ?_ ?_ ?_ ?_) ?_
  · omega
  · exact fun _ => rfl
  · omega
  · omega
  · omega
  · omega
  rintro _ _ ⟨⟨z3, e3, hz3, hz3', rfl⟩, rfl⟩
  refine W ?_
  refine w_y rfl rfl rfl (y_sa3 0 52 52 rfl rfl ⟨_, rfl⟩ ⟨_, rfl⟩ (by omega) (by omega) (by omega) (by omega)) ?_
  refine cl' (f261 (o := 0) (n := 52) (bys_bl x ?_) ?_ ?_) ?_
  · omega
  · exact fun _ => rfl
  · omega
  rintro _ _ ⟨⟨z, hz0, hz1, rfl⟩, rfl⟩
  refine W ?_
  refine w_if rfl (fun h => ?_) (fun h => ?_)
  · refine W ?_
    exact finE ⟨_, rfl, 0, 6, [], none, 0, by omega, by omega, fun h => by omega, rfl, rfl⟩ (ent_svn .nil)
  refine W ?_
  refine w_y rfl rfl rfl (y_sa3 8 52 52 rfl ⟨_, rfl⟩ ⟨_, rfl⟩ ⟨_, rfl⟩ (by omega) (by omega) (by omega) (by omega)) ?_
  refine cl' (f287 (o := 8) (n := 44) (bys_bl x ?_) ?_ ?_) ?_
  · omega
  · omega
  · omega
  rintro _ _ ⟨l, a, c, hl, rfl, rfl⟩
  refine W ?_
  exact fin ⟨_, rfl, z1, 0, l, a, c, by omega, by omega, fun _ => hl, rfl, rfl⟩
end Go.Proofs.YtnilejkfbcnkkaaGreatDoor.V
end
