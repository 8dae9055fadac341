/- Proved: what an argument that can be read as data is: a block of 64 bytes, a slice of elements of one kind; each lemma's conditions stand in its own statement. -/
import Derived.Test.YtpbpenlceigddaaEngE
import Derived.Deep.Slices
import Derived.OpenShut
import Derived.SizedLaws
namespace Go.Proofs.Ytpbpenlceigddaa.Eng
open Go Go.RowKit Go.ChangeShapes Go.WideShapes Go.Deep

section
variable {H : Type} {enc : TypeId × Value → H} {P : Program} {W : World} {base : Nat} {spare : Nat → Bool} {held : Bool}

theorem u8_of {n : Int} (h : (Lit.int .u8 n).wf = true) : ∃ u : UInt8, n = (u.toNat : Int) := by
  have h1 : 0 ≤ n ∧ n ≤ 255 := by
    simp [Lit.wf, IntKind.min, IntKind.max, IntKind.signed, IntKind.bits] at h; omega
  refine ⟨UInt8.ofNat n.toNat, ?_⟩
  rw [UInt8.toNat_ofNat_of_lt' (by show n.toNat < 256; omega)]
  omega

theorem list_of {α : Type} {p : Nat → α → Prop} : ∀ n : Nat, (∀ i, i < n → ∃ x, p i x) → ∃ l : List α, l.length = n ∧ ∀ i (h : i < l.length), p i l[i] := by
  intro n
  induction n with
  | zero => intro _; exact ⟨[], rfl, fun i h => by simp at h⟩
  | succ n ih =>
    intro h
    obtain ⟨l, hl, hp⟩ := ih fun i hi => h i (by omega)
    obtain ⟨x, hx⟩ := h n (by omega)
    refine ⟨l ++ [x], by simp [hl], fun i hi => ?_⟩
    by_cases e : i < l.length
    · rw [List.getElem_append_left e]; exact hp i e
    · have : i = n := by simp [hl] at hi; omega
      subst this
      rw [List.getElem_append_right (by omega)]
      simpa [hl] using hx

/-- A reading of 64 bytes is of a block. -/
theorem trod_blk {t e : TypeId} {fuel : Nat} {cs : List Value} {x : DataW H × List MemPlace} (hu : P.underlying t = some (.array 64 e)) (he : P.underlying e = some (.int .u8)) (hc : P.cellsOf e = 1) (ht : P.cellsOf t = 64)
    (h : DataW.trod enc P W base spare held fuel t cs = some x) : ∃ b : Blk, cs = eBlk.enc b := by
  obtain ⟨xs, m, _, _, hl, hxl, hi⟩ := DataW.trod_array hu h
  rw [ht] at hl
  have key : ∀ i, i < 64 → ∃ u : UInt8, cs[i]? = some (.int .u8 (u.toNat : Int)) := by
    intro i hi64
    have h1 := hi i hi64
    rw [hc, Nat.mul_one] at h1
    have hx : xs[i]? = some (xs[i]'(by omega)) := List.getElem?_eq_getElem _
    rw [hx] at h1
    obtain ⟨n, hn, _, wn⟩ := DataW.trod_int he h1
    obtain ⟨u, rfl⟩ := u8_of wn
    refine ⟨u, ?_⟩
    have h2 : ((cs.drop i).take 1)[0]? = some (.int .u8 (u.toNat : Int)) := by rw [hn]; rfl
    simpa using h2
  obtain ⟨l, hll, hp⟩ := list_of (p := fun i (u : UInt8) => cs[i]? = some (.int .u8 (u.toNat : Int))) 64 key
  refine ⟨⟨l.toArray, by simpa using hll⟩, ?_⟩
  apply List.ext_getElem?
  intro i
  by_cases hi64 : i < 64
  · have := hp i (by omega)
    rw [this]
    simp only [eBlk, bv, Array.toList_map]
    simp [show i < l.length by omega]
  · rw [List.getElem?_eq_none (by omega), List.getElem?_eq_none (by rw [eBlk.len]; show 64 ≤ i; omega)]

/-- An argument that is a block. -/
theorem open_blk {t e : TypeId} {v : Value} {r : Reach} {b0 : Nat} {d : DataW H} {p : List MemPlace} (hu : P.underlying t = some (.array 64 e)) (he : P.underlying e = some (.int .u8)) (hc : P.cellsOf e = 1) (ht : P.cellsOf t = 64)
    (hv : Value.okWide P W r b0 t v) (h : DataW.Trod enc P W base spare held t v d p) : ∃ b : Blk, v = .agg (bv b) := by
  simp only [Value.okWide, hu] at hv
  obtain ⟨cs, rfl, _, _⟩ := hv
  obtain ⟨fuel, hf⟩ := h
  obtain ⟨b, hb⟩ := trod_blk hu he hc ht hf
  refine ⟨b, ?_⟩
  have : cs.toList = (bv b).toList := hb
  rw [Array.toList_inj.1 this]

theorem trod_boolv {t : TypeId} {fuel : Nat} {cs : List Value} {x : DataW H × List MemPlace} (hu : P.underlying t = some .bool) (h : DataW.trod enc P W base spare held fuel t cs = some x) : ∃ b : Bool, cs = eBool.enc b := by
  cases fuel with
  | zero => simp [DataW.trod] at h
  | succ m =>
    unfold DataW.trod at h
    rw [hu] at h
    split at h <;> first | (cases h; done) | (simp at h; done) | skip
    all_goals first | exact ⟨_, rfl⟩ | (simp_all; done)

/-- An argument that is a slice. -/
theorem open_sl {α : Type} (E : Enc α) {t e : TypeId} {v : Value} {r : Reach} {b0 : Nat} {d : DataW H} {p : List MemPlace} (hu : P.underlying t = some (.slice e)) (hc : P.cellsOf e = E.sz)
    (dec : ∀ (fuel : Nat) (cs : List Value) (x : DataW H × List MemPlace), DataW.trod enc P W 0 spare held fuel e cs = some x → ∃ y, cs = E.enc y)
    (hv : Value.okWide P W r b0 t v) (h : DataW.Trod enc P W 0 spare held t v d p) : ∃ (l : List α) (a : Option Addr) (b o cap : Nat), v = .slice a l.length cap ∧ Sl E W l a b o cap := by
  obtain ⟨a, len, cap, rfl⟩ := okWide_slice hu hv
  obtain ⟨fuel, hf⟩ := h
  rcases open_slice hu hf with ⟨hcs, _⟩ | ⟨a', len', cap', m, n, D, Pl, hcs, _, hl, hm, hmm, _, hi⟩
  · simp [Value.cells] at hcs
    obtain ⟨rfl, rfl, rfl⟩ := hcs
    exact ⟨[], none, 0, 0, 0, rfl, ⟨fun h => by simp at h, fun i h => by simp at h, Nat.le_refl _, Nat.zero_le _⟩⟩
  · simp [Value.cells] at hcs
    obtain ⟨rfl, rfl, rfl⟩ := hcs
    have hlm : len ≤ m := by rw [hmm]; split <;> omega
    have key : ∀ i, i < len → ∃ y : α, ∀ j, j < E.sz → W.cell? (a'.add (i * E.sz) |>.add j) = (E.enc y)[j]? := by
      intro i hi'
      obtain ⟨cs', hc', ht⟩ := hi i (by omega)
      obtain ⟨y, rfl⟩ := dec _ _ _ ht
      obtain ⟨_, hcl, hat⟩ := World.cells?_some hc'
      rw [hc] at hat
      exact ⟨y, hat⟩
    obtain ⟨l, hll, hp⟩ := list_of len key
    subst hll
    have hspot : 0 < l.length → a'.spot = none := by
      intro h0
      have h1 := hp 0 h0 0 E.pos
      have h2 : (E.enc l[0])[0]? = some ((E.enc l[0])[0]'(by rw [E.len]; exact E.pos)) := List.getElem?_eq_getElem _
      rw [h2] at h1
      unfold World.cell? at h1
      split at h1
      · split at h1
        · cases h1
        · rename_i hs
          simp only [Addr.add, Nat.zero_mul, if_true] at hs
          cases hq : a'.spot with
          | none => rfl
          | some _ => simp [hq] at hs
      · cases h1
    refine ⟨l, some a', a'.block, a'.off, cap, rfl, ⟨fun h0 => ?_, fun i hi j u hj => ?_, hl, hm⟩⟩
    · have := hspot h0
      cases a'; simp_all
    · have hs := hspot (by omega)
      have hjl : j < E.sz := by have := (List.getElem?_eq_some_iff.1 hj).1; rwa [E.len] at this
      have h1 := hp i hi j hjl
      rw [hj] at h1
      rw [← h1]
      congr 1
      obtain ⟨b', o', s'⟩ := a'
      simp only at hs
      subst hs
      rw [Addr.add_mid, Addr.add_mid]

theorem sized_sl {t e : TypeId} {a : Option Addr} {len cap : Nat} {d : DataW H} {ps : List MemPlace} {ts : List TypeId} {ds : List (DataW H)} {j : Nat}
    (hsz : (DataW.weightsEach P ts ds).all (· ≤ reachBytes) = true) (ht : ts[j]? = some t) (hd : ds[j]? = some d) (hu : P.underlying t = some (.slice e)) {B : Nat} (hB : P.bytesOf e = B)
    (h : DataW.Trod enc P W base spare held t (.slice a len cap) d ps) : len * B ≤ 140737488351232 := by
  obtain ⟨fuel, hf⟩ := h
  rcases open_slice hu hf with ⟨hcs, _⟩ | ⟨a', len', cap', m, n, D, Pl, hcs, _, hl, hm, hmm, hx, hi⟩
  · simp [Value.cells] at hcs
    obtain ⟨rfl, rfl, rfl⟩ := hcs
    simp
  · simp [Value.cells] at hcs
    obtain ⟨rfl, rfl, rfl⟩ := hcs
    obtain ⟨hx, _⟩ := Prod.mk.inj hx
    subst hx
    have z := sized_slice hsz ht hd hu
    rw [hB] at z
    have e1 : len ≤ ((List.range len).map D).length + ((List.range (m - len)).map fun j => D (len + j)).length := by simp
    exact Nat.le_trans (Nat.mul_le_mul_right _ e1) z
end
end Go.Proofs.Ytpbpenlceigddaa.Eng
