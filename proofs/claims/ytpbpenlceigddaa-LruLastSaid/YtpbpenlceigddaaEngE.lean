/- Proved: rules on slices: those that came in, those that are made, appended to and copied into; each rule's conditions stand in its own statement. -/
import Derived.Test.YtpbpenlceigddaaEngD
import Derived.Laws.AppendOwn
import Derived.Laws.MakeOwn
import Derived.Great.BuildSlice
namespace Go.Proofs.Ytpbpenlceigddaa.Eng
open Go Go.RowKit

/-- How an element lies in memory. -/
structure Enc (α : Type) where
  enc : α → List Value
  sz : Nat
  len : ∀ x, (enc x).length = sz
  one : ∀ x, ∀ v ∈ enc x, v.oneCell' = true
  pos : 0 < sz

def eBlk : Enc Blk := ⟨fun x => (bv x).toList, 64, fun x => by simp [bv_size], fun x => bv_one x, by omega⟩
def eInt : Enc Int := ⟨fun x => [.int .i64 x], 1, fun _ => rfl, by simp [Value.oneCell'], by omega⟩
def eBool : Enc Bool := ⟨fun x => [.bool x], 1, fun _ => rfl, by simp [Value.oneCell'], by omega⟩
def eU64 : Enc Int := ⟨fun x => [.int .u64 x], 1, fun _ => rfl, by simp [Value.oneCell'], by omega⟩

section
variable {α : Type} (E : Enc α)

theorem Enc.flat_len (l : List α) : (l.flatMap E.enc).length = l.length * E.sz := by
  induction l with
  | nil => simp
  | cons x l ih => simp [ih, E.len, Nat.add_mul]; omega

theorem Enc.flat_one (l : List α) : ∀ v ∈ l.flatMap E.enc, v.oneCell' = true := by
  intro v hv
  obtain ⟨x, _, hx⟩ := List.mem_flatMap.1 hv
  exact E.one x v hx

theorem Enc.flat_at (l : List α) : ∀ (i : Nat) (h : i < l.length) (j : Nat) (v : Value), (E.enc l[i])[j]? = some v → (l.flatMap E.enc)[i * E.sz + j]? = some v := by
  induction l with
  | nil => intro i h; simp at h
  | cons x l ih =>
    intro i h j v hv
    have hj : j < E.sz := by
      have := (List.getElem?_eq_some_iff.1 hv).1
      rwa [E.len] at this
    rw [List.flatMap_cons]
    cases i with
    | zero =>
      simp only [Nat.zero_mul, Nat.zero_add]
      rw [List.getElem?_append_left (by rw [E.len]; exact hj)]
      exact hv
    | succ i =>
      rw [List.getElem?_append_right (by rw [E.len, Nat.add_mul]; omega), E.len]
      have := ih i (by simpa using h) j v (by simpa using hv)
      rw [← this]
      congr 1
      rw [Nat.add_mul]; omega

/-- A slice that can be read: its list lies at ⟨b, o⟩. -/
structure Sl (w : World) (l : List α) (a : Option Addr) (b o cap : Nat) : Prop where
  at_ : 0 < l.length → a = some ⟨b, o, none⟩
  rd : ∀ i (h : i < l.length), w.rangeAt b (o + i * E.sz) (E.enc l[i])
  le : l.length ≤ cap
  mx : cap ≤ maxLen

/-- A block that holds a slice's elements, and room behind them. -/
structure Row (l : List α) (c : Array Value) (cap : Nat) : Prop where
  size : c.size = cap * E.sz
  le : l.length ≤ cap
  mx : cap ≤ maxLen
  take : c.toList.take (l.length * E.sz) = l.flatMap E.enc
end

section
variable {α : Type} {E : Enc α}

theorem Row.at_ {l : List α} {c : Array Value} {cap : Nat} (h : Row E l c cap) (i : Nat) (hi : i < l.length) (j : Nat) (v : Value) (hv : (E.enc l[i])[j]? = some v) : c[i * E.sz + j]? = some v := by
  have h1 := E.flat_at l i hi j v hv
  rw [← h.take] at h1
  have hlt : i * E.sz + j < l.length * E.sz := by
    have h2 := (List.getElem?_eq_some_iff.1 hv).1
    rw [E.len] at h2
    have : (i + 1) * E.sz ≤ l.length * E.sz := Nat.mul_le_mul_right _ hi
    rw [Nat.add_mul] at this
    omega
  rw [List.getElem?_take_of_lt hlt] at h1
  simpa using h1

theorem Row.lit (l : List α) (hm : l.length ≤ maxLen) : Row E l (l.flatMap E.enc).toArray l.length :=
  ⟨by simpa using E.flat_len l, Nat.le_refl _, hm, by rw [List.take_of_length_le (by simp [E.flat_len])]⟩

/-- The first ones of a row. -/
theorem Row.first {l : List α} {c : Array Value} {cap : Nat} (h : Row E l c cap) (k : Nat) : Row E (l.take k) c cap := by
  refine ⟨h.size, by have := h.le; simp; omega, h.mx, ?_⟩
  have : c.toList.take ((l.take k).length * E.sz) = (c.toList.take (l.length * E.sz)).take ((l.take k).length * E.sz) := by
    rw [List.take_take]
    congr 1
    have : (l.take k).length ≤ l.length := by simp; omega
    have := Nat.mul_le_mul_right E.sz this
    omega
  rw [this, h.take, ← List.take_append_drop k l]
  generalize hx : l.take k = x
  have hx' : (x ++ l.drop k).take k = x := by rw [← hx, List.take_append_drop]
  rw [hx', List.flatMap_append]
  exact List.take_left' (by rw [E.flat_len])

theorem Row.set {l : List α} {c : Array Value} {cap : Nat} (h : Row E l c cap) (i : Nat) (hi : i < l.length) (x : α) {c' : Array Value}
    (hc : c.toList.take (i * E.sz) ++ E.enc x ++ c.toList.drop (i * E.sz + E.sz) = c'.toList) : Row E (l.set i x) c' cap := by
  have hl := h.size
  have h1 : (i + 1) * E.sz ≤ l.length * E.sz := Nat.mul_le_mul_right _ hi
  have h2 : l.length * E.sz ≤ cap * E.sz := Nat.mul_le_mul_right _ h.le
  rw [Nat.add_mul, Nat.one_mul] at h1
  have hcl : c.toList.length = cap * E.sz := by simpa using hl
  refine ⟨?_, by simpa using h.le, h.mx, ?_⟩
  · rw [← Array.length_toList, ← hc]
    simp only [List.length_append, List.length_take, List.length_drop, E.len, hcl]
    omega
  · rw [← hc, List.length_set]
    have e1 : l.set i x = l.take i ++ x :: l.drop (i + 1) := List.set_eq_take_append_cons_drop.trans (by rw [if_pos hi])
    rw [e1, List.flatMap_append, List.flatMap_cons]
    have ft : (l.take i).flatMap E.enc = c.toList.take (i * E.sz) := by
      have := (h.first i).take
      rw [← this]
      congr 1
      simp; rw [Nat.min_eq_left (by omega)]
    have fd : (l.drop (i + 1)).flatMap E.enc = (c.toList.take (l.length * E.sz)).drop ((i + 1) * E.sz) := by
      rw [h.take]
      have e2 : l.flatMap E.enc = (l.take (i + 1)).flatMap E.enc ++ (l.drop (i + 1)).flatMap E.enc := by rw [← List.flatMap_append, List.take_append_drop]
      rw [e2, List.drop_left' (by rw [E.flat_len]; simp; rw [Nat.min_eq_left (by omega)])]
    have hAB : (c.toList.take (i * E.sz) ++ E.enc x).length = i * E.sz + E.sz := by
      rw [List.length_append, List.length_take, hcl, E.len]; omega
    rw [ft, fd, List.take_append, List.take_of_length_le (by rw [hAB]; exact h1), hAB, List.drop_take, List.append_assoc]
    have : (i + 1) * E.sz = i * E.sz + E.sz := by rw [Nat.add_mul, Nat.one_mul]
    rw [this]
end

section
variable {P : Program} {n : Nat} {w0 : World} {S : Nat → Prop} {Q : Exit → Regs → Hp → Prop} {R : Regs} {H : Hp}
variable {dst : Option Tmp} {ty : TypeId} {pos : String} {after : Array Edge} {gd : Option (Nat × Bool)}
variable {α : Type} {E : Enc α}

/-- Readable as long as this is known. -/
def SlG (E : Enc α) (w0 : World) (S : Nat → Prop) (H : Hp) (l : List α) (a : Option Addr) (b o cap : Nat) : Prop := ∀ w, St w0 S H w → Sl E w l a b o cap

theorem SlG.row {k g : Nat} {l : List α} {c : Array Value} {cap : Nat} {t : TypeId} {fr : Nat × Nat} (hi : H[k]? = some (g, .cells c t fr)) (h : Row E l c cap) : SlG E w0 S H l (some ⟨g, 0, none⟩) g 0 cap := by
  intro w hw
  refine ⟨fun _ => rfl, fun i hil => ?_, h.le, h.mx⟩
  exact Rd.blk (List.mem_of_getElem? hi) (fun j v hj => by rw [Nat.zero_add]; exact h.at_ i hil j v hj) w hw

theorem SlG.nil : SlG E w0 S H [] none 0 0 0 := fun _ _ => ⟨fun h => by simp at h, fun i h => by simp at h, Nat.le_refl _, Nat.zero_le _⟩

theorem SlG.old {l : List α} {a : Option Addr} {b o cap : Nat} (h : Sl E w0 l a b o cap) (hS : 0 < l.length → ¬ S b) : SlG E w0 S H l a b o cap := by
  intro w hw
  exact ⟨h.at_, fun i hi => Rd.old (h.rd i hi) (hS (by omega)) w hw, h.le, h.mx⟩

theorem SlG.rd {l : List α} {a : Option Addr} {b o cap : Nat} (h : SlG E w0 S H l a b o cap) (i : Nat) (hi : i < l.length) : Rd w0 S H b (o + i * E.sz) (E.enc l[i]) := fun w hw => (h w hw).rd i hi

/-- The address of a slice's element. -/
theorem y_ixO {x i : Operand} {t e : TypeId} {len cap sz : Nat} {a : Option Addr} {b o : Nat} {k : IntKind} {q : Int} (m : Nat) (ha : a = some ⟨b, o, none⟩) (hx : ev R x = .slice a len cap) (hi : ev R i = .int k q) (hu : P.underlying t = some (.slice e))
    (hs : (P.info? e).map (·.size) = some sz) (h0 : q = (m : Int)) (hl : m < len) : Yields P w0 S H ⟨dst, .indexAddr t x i, ty, pos, after, gd⟩ R (.pointer (some ⟨b, o + m * sz, none⟩)) := by
  subst ha
  subst h0
  exact y_ixSl hx hi hu hs (by omega) (by omega) (by simp)

theorem y_lenA {x : Operand} {t e : TypeId} {a : Option Addr} {l c : Nat} {r : TypeId} (hx : ev R x = .slice a l c) (hu : P.underlying t = some (.slice e)) : Yields P w0 S H ⟨dst, .call { callee := .builtin .len, args := #[x], argTypes := #[t] }, r, pos, after, gd⟩ R (.int .i64 ((l : Nat) : Int)) :=
  y_len hx hu

/-- Part of a slice that may be nil. -/
def part_ (a : Option Addr) (l sz cap : Nat) : Option Addr := if cap = l then a else a.map (·.add (l * sz))
theorem y_part {x : Operand} {t e : TypeId} {len cap sz : Nat} {a : Option Addr} {lo hi : Option Operand} (l h : Nat) (hx : ev R x = .slice a len cap) (hu : P.underlying t = some (.slice e))
    (hs : (P.info? e).map (·.size) = some sz) (hlo : match lo with | some q => ∃ k, ev R q = .int k (l : Int) | none => l = 0) (hhi : match hi with | some q => ∃ k, ev R q = .int k (h : Int) | none => h = len)
    (hlh : l ≤ h) (hc : h ≤ cap) :
    Yields P w0 S H ⟨dst, .slice t x lo hi none, ty, pos, after, gd⟩ R (.slice (part_ a l sz cap) (h - l) (cap - l)) :=
  y_val fun w => by
    obtain ⟨it, hit, rfl⟩ : ∃ it, P.info? e = some it ∧ it.size = sz := by
      cases h : P.info? e with
      | none => simp [h] at hs
      | some it => exact ⟨it, rfl, by simpa [h] using hs⟩
    have key : (Instr.sliceAt t (.slice a len cap) (lo.map (ev R)) (hi.map (ev R)) none).run P w = .ok (.slice (part_ a l it.size cap) (h - l) (cap - l)) w := by
      have q1 : (Instr.sliceBounds true len cap (lo.map (ev R)) (hi.map (ev R)) none).run P w = .ok (l, h, cap) w := by
        cases lo <;> cases hi <;> simp only at hlo hhi
        · subst hlo hhi
          simp [Instr.sliceBounds]
        · obtain ⟨k, hk⟩ := hhi
          subst hlo
          simp [Instr.sliceBounds, Instr.sliceBound, asIntOf, hk, hc]
        · obtain ⟨k, hk⟩ := hlo
          subst hhi
          simp [Instr.sliceBounds, Instr.sliceBound, asIntOf, hk, hlh]
        · obtain ⟨k, hk⟩ := hlo
          obtain ⟨k', hk'⟩ := hhi
          simp [Instr.sliceBounds, Instr.sliceBound, asIntOf, hk, hk', hc, hlh]
      simp only [Instr.sliceAt, Instr.slice, Sem.run_bind, run_underlying hu, Result.andThen_ok, q1]
      simp [sizeOf, typeInfo, hit, part_]
    simp only [execOp, Sem.run_bind, hx, Option.map_none, key, Result.andThen_ok, Sem.run_pure]

theorem SlG.part {l : List α} {a : Option Addr} {b o cap : Nat} (h : SlG E w0 S H l a b o cap) (i j : Nat) (hij : i ≤ j) (hj : j ≤ l.length) :
    SlG E w0 S H ((l.drop i).take (j - i)) (part_ a i E.sz cap) b (o + i * E.sz) (cap - i) := by
  intro w hw
  have h1 := h w hw
  have hlen : ((l.drop i).take (j - i)).length = j - i := by simp; omega
  refine ⟨fun hp => ?_, fun k hk => ?_, by rw [hlen]; have := h1.le; omega, by have := h1.mx; omega⟩
  · rw [hlen] at hp
    have ha := h1.at_ (by omega)
    have := h1.le
    rw [ha, part_, if_neg (by omega)]
    simp [Addr.add_mid]
  · rw [hlen] at hk
    have h2 := h1.rd (i + k) (by omega)
    have e1 : ((l.drop i).take (j - i))[k]'(by rw [hlen]; exact hk) = l[i + k]'(by omega) := by simp
    rw [e1]
    have e2 : o + i * E.sz + k * E.sz = o + (i + k) * E.sz := by rw [Nat.add_mul]; omega
    rw [e2]; exact h2

/-- A slice of an array in memory. -/
theorem y_sliceArr {x : Operand} {t e : TypeId} {len sz : Nat} {b o : Nat} {lo hi : Option Operand} (l h : Nat) (hx : ev R x = .pointer (some ⟨b, o, none⟩)) (hu : P.underlying t = some (.array len e))
    (hs : (P.info? e).map (·.size) = some sz) (hlo : match lo with | some q => ∃ k, ev R q = .int k (l : Int) | none => l = 0) (hhi : match hi with | some q => ∃ k, ev R q = .int k (h : Int) | none => h = len)
    (hlh : l ≤ h) (hc : h ≤ len) :
    Yields P w0 S H ⟨dst, .slice t x lo hi none, ty, pos, after, gd⟩ R (.slice (part_ (some ⟨b, o, none⟩) l sz len) (h - l) (len - l)) :=
  y_val fun w => by
    obtain ⟨it, hit, rfl⟩ : ∃ it, P.info? e = some it ∧ it.size = sz := by
      cases h : P.info? e with
      | none => simp [h] at hs
      | some it => exact ⟨it, rfl, by simpa [h] using hs⟩
    have key : (Instr.sliceAt t (.pointer (some ⟨b, o, none⟩)) (lo.map (ev R)) (hi.map (ev R)) none).run P w = .ok (.slice (part_ (some ⟨b, o, none⟩) l it.size len) (h - l) (len - l)) w := by
      have q1 : (Instr.sliceBounds false len len (lo.map (ev R)) (hi.map (ev R)) none).run P w = .ok (l, h, len) w := by
        cases lo <;> cases hi <;> simp only at hlo hhi
        · subst hlo hhi
          simp [Instr.sliceBounds]
        · obtain ⟨k, hk⟩ := hhi
          subst hlo
          simp [Instr.sliceBounds, Instr.sliceBound, asIntOf, hk, hc]
        · obtain ⟨k, hk⟩ := hlo
          subst hhi
          simp [Instr.sliceBounds, Instr.sliceBound, asIntOf, hk, hlh]
        · obtain ⟨k, hk⟩ := hlo
          obtain ⟨k', hk'⟩ := hhi
          simp [Instr.sliceBounds, Instr.sliceBound, asIntOf, hk, hk', hc, hlh]
      simp only [Instr.sliceAt, Sem.run_bind, run_underlying hu, Result.andThen_ok, Instr.sureAddr, Sem.run_pure, q1]
      simp [sizeOf, typeInfo, hit, part_]
      split <;> rfl
    simp only [execOp, Sem.run_bind, hx, Option.map_none, key, Result.andThen_ok, Sem.run_pure]

theorem y_max {x y : Operand} {k : IntKind} {p q c : Int} {ts : Array TypeId} {r : TypeId} (hx : ev R x = .int k p) (hy : ev R y = .int k q) (h : max p q = c) : Yields P w0 S H ⟨dst, .call { callee := .builtin .max, args := #[x, y], argTypes := ts }, r, pos, after, gd⟩ R (.int k c) :=
  y_val fun w => by
    subst h
    simp [execOp, resolve, hx, hy, invoke, builtin, Builtin.max_, Builtin.max2]
    omega
theorem y_min {x y : Operand} {k : IntKind} {p q c : Int} {ts : Array TypeId} {r : TypeId} (hx : ev R x = .int k p) (hy : ev R y = .int k q) (h : min p q = c) : Yields P w0 S H ⟨dst, .call { callee := .builtin .min, args := #[x, y], argTypes := ts }, r, pos, after, gd⟩ R (.int k c) :=
  y_val fun w => by
    subst h
    simp [execOp, resolve, hx, hy, invoke, builtin, Builtin.min_, Builtin.min2]
    omega

/-! ### Blocks known anew -/
theorem St.sub {w : World} {H' : Hp} (h : St w0 S H w) (hm : ∀ p ∈ H', p ∈ H) (hn : (H'.map Prod.fst).Nodup) : St w0 S H' w :=
  ⟨fun p hp => h.at_ p (hm p hp), hn, fun p hp => h.own p (hm p hp), h.os, h.tape, h.output, h.le, h.fr⟩

/-- What is known no more is let go. -/
theorem o_forget {ops : Array Oper} {l : List Oper} {H' : Hp} (hs : H'.Sublist H) (h : opsG P n w0 S ops Q l R H') : opsG P n w0 S ops Q l R H :=
  fun a w ha hw => h a w ha (hw.drop hs)
theorem c_forget {c : Code} {H' : Hp} (hs : H'.Sublist H) (h : codeG P n w0 S c Q R H') : codeG P n w0 S c Q R H :=
  fun a w ha hw => h a w ha (hw.drop hs)

theorem mem_erase_ids {H : Hp} {i : Nat} {g : Nat} {o : Obj} (hn : (H.map Prod.fst).Nodup) (hi : H[i]? = some (g, o)) : g ∉ (H.eraseIdx i).map Prod.fst := by
  intro hm
  obtain ⟨p, hp, e⟩ := List.mem_map.1 hm
  obtain ⟨j, hj⟩ := List.getElem?_of_mem hp
  rw [List.getElem?_eraseIdx] at hj
  have key : ∀ k, k ≠ i → H[k]? ≠ some p := by
    intro k hk hkp
    have h1 : (H.map Prod.fst)[k]? = some g := by simp [hkp, e]
    have h2 : (H.map Prod.fst)[i]? = some g := by simp [hi]
    have hlt : i < (H.map Prod.fst).length := by have := (List.getElem?_eq_some_iff.1 hi).1; simpa using this
    exact hk ((List.getElem?_inj hlt hn).1 (h2.trans h1.symm)).symm
  split at hj
  · exact key j (by omega) hj
  · exact key (j + 1) (by omega) hj

theorem St.front {w : World} {i g : Nat} {o : Obj} (h : St w0 S H w) (hi : H[i]? = some (g, o)) : St w0 S ((g, o) :: H.eraseIdx i) w :=
  h.sub (fun p hp => by
    rcases List.mem_cons.1 hp with rfl | hp
    · exact List.mem_of_getElem? hi
    · exact (List.eraseIdx_sublist H i).subset hp) (by
    simp only [List.map_cons, List.nodup_cons]
    exact ⟨mem_erase_ids h.nd hi, h.nd.sublist ((List.eraseIdx_sublist H i).map _)⟩)

theorem set_erase {H : Hp} {i : Nat} {p : Nat × Obj} : (H.set i p).eraseIdx i = H.eraseIdx i := by
  apply List.ext_getElem?
  intro j
  rw [List.getElem?_eraseIdx, List.getElem?_eraseIdx, List.getElem?_set, List.getElem?_set]
  split
  · rw [if_neg (by omega)]
  · rw [if_neg (by omega)]

/-! ### Append -/
/-- What a program's rows say of a type of slices. -/
structure SlType (P : Program) (t e : TypeId) (E : Enc α) (bytes : Nat) : Prop where
  ht : P.underlying t = some (.slice e)
  hi : ∃ i z, P.info? e = some i ∧ i.zero = some z ∧ i.size = E.sz ∧ i.bytes = bytes ∧ z.cells.size = E.sz
theorem SlType.mk' {t e : TypeId} {bytes : Nat} (z : Value) (ht : P.underlying t = some (.slice e)) (h : (P.info? e).map (fun i => (i.zero, i.size, i.bytes)) = some (some z, E.sz, bytes)) (hz : z.cells.size = E.sz) : SlType P t e E bytes := by
  refine ⟨ht, ?_⟩
  cases hi : P.info? e with
  | none => simp [hi] at h
  | some i => simp [hi] at h; exact ⟨i, z, rfl, h.1, h.2.1, h.2.2, hz⟩

theorem sl_cells {w : World} {l : List α} {b o cap : Nat} {a : Option Addr} (h : Sl E w l a b o cap) : ∀ j v, (l.flatMap E.enc)[j]? = some v → w.cell? ((⟨b, o, none⟩ : Addr).add j) = some v := by
  intro j v hj
  rw [Addr.add_mid]
  have hlt : j < l.length * E.sz := by have := (List.getElem?_eq_some_iff.1 hj).1; rwa [E.flat_len] at this
  have hd : j / E.sz < l.length := (Nat.div_lt_iff_lt_mul E.pos).2 hlt
  have hm := Nat.div_add_mod j E.sz
  have hr := Nat.mod_lt j E.pos
  have hv : (E.enc l[j / E.sz])[j % E.sz]? = some ((E.enc l[j / E.sz])[j % E.sz]'(by rw [E.len]; exact hr)) := List.getElem?_eq_getElem _
  have h1 := E.flat_at l _ hd _ _ hv
  have e1 : j / E.sz * E.sz + j % E.sz = j := by rw [Nat.mul_comm]; exact hm
  rw [e1, hj] at h1
  have h2 := h.rd _ hd _ _ hv
  rw [← Option.some.inj h1] at h2
  rw [← h2, Nat.add_assoc, e1]

theorem row_made (z : Array Value) (xs : List α) (cap : Nat) (h : xs.length ≤ cap) (hm : cap ≤ maxLen) (hz : z.size = E.sz) : Row E xs ((xs.flatMap E.enc).toArray ++ Builtin.zeroCells z (cap - xs.length)) cap := by
  refine ⟨?_, h, hm, ?_⟩
  · simp only [Array.size_append, size_zeroCells, hz, List.size_toArray, E.flat_len, ← Nat.add_mul]
    congr 1
    omega
  · simp only [Array.toList_append]
    exact List.take_left' (by rw [E.flat_len])

/-- append onto nil of something. -/
theorem o_appendNil {ops : Array Oper} {rest : List Oper} {d : Tmp} {s x : Operand} {t e : TypeId} {bytes : Nat} {r : TypeId} (T : SlType P t e E bytes) {l : List α} {a : Option Addr} {b o m cap : Nat} (hd : decide (d < n) = true)
    (hs : ev R s = .slice none 0 0) (hx : ev R x = .slice a m cap) (hml : m = l.length) (hsl : SlG E w0 S H l a b o cap) (hpos : 0 < l.length) (hbytes : l.length * bytes ≤ 140737488355328)
    (h : ∀ g c cap', Row E l c cap' → opsG P n w0 S ops Q rest (upd R d (.slice (some ⟨g, 0, none⟩) m cap')) ((g, .cells c e (0, 0)) :: H)) :
    opsG P n w0 S ops Q (⟨some d, .call { callee := .builtin .append, args := #[s, x], argTypes := #[t, t] }, r, pos, after, none⟩ :: rest) R H := by
  subst hml
  refine o_op rfl hd fun w hw => ?_
  obtain ⟨i, z, hi, hz, hsz, hby, hzs⟩ := T.hi
  have h1 := hsl w hw
  have ha := h1.at_ hpos
  subst ha
  have hr := run_append_nil (P := P) w t r e i z T.ht hi hz ⟨b, o, none⟩ l.length cap (l.flatMap E.enc) (by rw [E.flat_len, hsz]) (sl_cells h1) hpos (by have := h1.le; have := h1.mx; simp only [maxLen] at this; omega) (by rw [hby]; omega)
  have hge := grownCap_ge w l.length 0 e
  have hcm : grownCap w l.length 0 e ≤ maxLen := grownCap_le_maxLen w l.length 0 e (by have := h1.le; have := h1.mx; omega)
  refine ⟨_, _, _, ?_, St.alloc (w := w.drew) hw.drew _, h _ _ _ (row_made z.cells l _ hge hcm hzs)⟩
  simp [execOp, resolve, hs, hx, invoke, builtin, hr]

/-- append onto nil of nothing. -/
theorem y_appendNil0 {s x : Operand} {t e : TypeId} {bytes : Nat} {r : TypeId} (T : SlType P t e E bytes) {a : Option Addr} {cap : Nat}
    (hs : ev R s = .slice none 0 0) (hx : ev R x = .slice a 0 cap) :
    Yields P w0 S H ⟨dst, .call { callee := .builtin .append, args := #[s, x], argTypes := #[t, t] }, r, pos, after, gd⟩ R (.slice none 0 0) :=
  y_val fun w => by
    obtain ⟨i, z, hi, hz, hsz, hby, hzs⟩ := T.hi
    have hc : (Builtin.firstCells E.sz 0 (.slice a 0 cap)).run P w = .ok #[] w := by
      cases a <;> simp [Builtin.firstCells, loadCells, loadCellsFrom]
    simp [execOp, resolve, hs, hx, invoke, builtin, Builtin.append_, run_underlying T.ht, sizeOf, typeInfo, hi, Builtin.lenOf, hsz, hc]

/-- append onto a row of one's own. -/
theorem o_appendOwn {ops : Array Oper} {rest : List Oper} {d : Tmp} {s x : Operand} {t e : TypeId} {bytes : Nat} {r : TypeId} (T : SlType P t e E bytes) {l0 l : List α} {a : Option Addr} {b o m n0 cap g cap0 : Nat} {c0 : Array Value} (k : Nat) (hd : decide (d < n) = true)
    (hs : ev R s = .slice (some ⟨g, 0, none⟩) n0 cap0) (hn0 : n0 = l0.length) (hk : H[k]? = some (g, .cells c0 e (0, 0))) (hrow : Row E l0 c0 cap0)
    (hx : ev R x = .slice a m cap) (hml : m = l.length) (hsl : SlG E w0 S H l a b o cap) (hmx : l0.length + l.length ≤ maxLen) (hbytes : (l0.length + l.length) * bytes ≤ 140737488355328)
    (h : ∀ g c cap', Row E (l0 ++ l) c cap' → opsG P n w0 S ops Q rest (upd R d (.slice (some ⟨g, 0, none⟩) (n0 + m) cap')) ((g, .cells c e (0, 0)) :: H.eraseIdx k)) :
    opsG P n w0 S ops Q (⟨some d, .call { callee := .builtin .append, args := #[s, x], argTypes := #[t, t] }, r, pos, after, none⟩ :: rest) R H := by
  subst hml
  subst hn0
  refine o_op rfl hd fun w hw => ?_
  obtain ⟨i, z, hi, hz, hsz, hby, hzs⟩ := T.hi
  have h1 := hsl w hw
  have hg := hw.at_ _ (List.mem_of_getElem? hk)
  have hfl : (l0 ++ l).flatMap E.enc = l0.flatMap E.enc ++ l.flatMap E.enc := List.flatMap_append
  have hcl : c0.toList.length = cap0 * E.sz := by simpa using hrow.size
  -- into the room that there is
  have room : ∀ {c' : Array Value}, l0.length + l.length ≤ cap0 → c0.toList.take (l0.length * E.sz) ++ l.flatMap E.enc ++ c0.toList.drop (l0.length * E.sz + l.length * E.sz) = c'.toList → Row E (l0 ++ l) c' cap0 := by
    intro c' hroom hc
    have h2 : (l0.length + l.length) * E.sz ≤ cap0 * E.sz := Nat.mul_le_mul_right _ hroom
    rw [Nat.add_mul] at h2
    refine ⟨?_, by simpa using hroom, hrow.mx, ?_⟩
    · rw [← Array.length_toList, ← hc]
      simp only [List.length_append, List.length_take, List.length_drop, E.flat_len, hcl]
      omega
    · rw [← hc, hrow.take, hfl]
      exact List.take_left' (by simp [E.flat_len, Nat.add_mul])
  by_cases h0 : l.length = 0
  · -- nothing: it stays
    have hln : l = [] := List.eq_nil_of_length_eq_zero h0
    subst hln
    have hc : (Builtin.firstCells E.sz 0 (.slice a 0 cap)).run P w = .ok #[] w := by
      cases a <;> simp [Builtin.firstCells, loadCells, loadCellsFrom]
    have hle := hrow.le
    refine ⟨.slice (some ⟨g, 0, none⟩) (l0.length + 0) cap0, w, (g, .cells c0 e (0, 0)) :: H.eraseIdx k, ?_, hw.front hk, h g c0 cap0 (by rw [List.append_nil]; exact hrow)⟩
    simp only [List.length_nil] at hx
    simp [execOp, resolve, hs, hx, invoke, builtin, Builtin.append_, run_underlying T.ht, sizeOf, typeInfo, hi, Builtin.lenOf, hsz, hc, hle, storeCells]
  · have ha := h1.at_ (by omega)
    subst ha
    by_cases hroom : l0.length + l.length ≤ cap0
    · have hr := run_append_room (P := P) w t r e i T.ht hi g l0.length cap0 c0 hg ⟨b, o, none⟩ l.length cap (l.flatMap E.enc) (by rw [E.flat_len, hsz]) (sl_cells h1) (E.flat_one l) hroom
        (by rw [hsz, E.flat_len, ← Nat.add_mul, hrow.size]; exact Nat.mul_le_mul_right _ hroom)
      rw [hsz, E.flat_len] at hr
      have hr' := room (c' := (c0.toList.take (l0.length * E.sz) ++ l.flatMap E.enc ++ c0.toList.drop (l0.length * E.sz + l.length * E.sz)).toArray) hroom rfl
      generalize (c0.toList.take (l0.length * E.sz) ++ l.flatMap E.enc ++ c0.toList.drop (l0.length * E.sz + l.length * E.sz)).toArray = c' at hr hr'
      refine ⟨_, w.setRow g c', _, ?_, ?_, h g _ cap0 hr'⟩
      · simp only [execOp, resolve, Sem.run_bind, List.map_toArray, List.map_cons, List.map_nil, hs, hx, invoke, builtin, Sem.run_pure, Result.andThen_ok, hr]
      · have h3 := hw.write k hk (w' := w.setRow g c') (setRow_heap w g c0 _ e (0, 0) hg) (fun k hk => setRow_other w g k _ hk) (by simp) rfl rfl rfl
        have h4 := h3.front (i := k) (g := g) (o := .cells c' e) (by rw [List.getElem?_set]; simp [(List.getElem?_eq_some_iff.1 hk).1])
        rw [set_erase] at h4
        exact h4
    · have holds : ∀ j u, (l0.flatMap E.enc)[j]? = some u → w.cell? ((⟨g, 0, none⟩ : Addr).add j) = some u :=
        sl_cells ((SlG.row (w0 := w0) (S := S) hk hrow) w hw)
      have hr := run_append_grow (P := P) w t r e i z T.ht hi hz ⟨g, 0, none⟩ l0.length cap0 (l0.flatMap E.enc) (by rw [E.flat_len, hsz]) holds ⟨b, o, none⟩ l.length cap (l.flatMap E.enc) (by rw [E.flat_len, hsz]) (sl_cells h1)
        (by omega) (by simp only [maxLen] at hmx; omega) (growslice_fits (by omega) (by rw [hby]; exact hbytes))
      have hge := grownCap_ge w (l0.length + l.length) cap0 e
      have hcm := grownCap_le_maxLen w (l0.length + l.length) cap0 e hmx
      have hrow' := row_made (E := E) z.cells (l0 ++ l) (grownCap w (l0.length + l.length) cap0 e) (by simpa using hge) hcm hzs
      rw [hfl, List.length_append] at hrow'
      have e9 : (List.flatMap E.enc l0 ++ List.flatMap E.enc l).toArray = (List.flatMap E.enc l0).toArray ++ (List.flatMap E.enc l).toArray := by simp
      rw [e9] at hrow'
      generalize (List.flatMap E.enc l0).toArray ++ (List.flatMap E.enc l).toArray ++ Builtin.zeroCells z.cells (grownCap w (l0.length + l.length) cap0 e - (l0.length + l.length)) = c' at hrow' hr
      refine ⟨_, w.drew.alloc (.cells c' e), (w.heap.size, .cells c' e (0, 0)) :: H.eraseIdx k, ?_, ((St.alloc (w := w.drew) hw.drew _).sub ?_ ?_), h _ _ _ hrow'⟩
      · simp only [execOp, resolve, Sem.run_bind, List.map_toArray, List.map_cons, List.map_nil, hs, hx, invoke, builtin, Sem.run_pure, Result.andThen_ok, hr]
      · intro p hp
        rcases List.mem_cons.1 hp with rfl | hp
        · exact List.mem_cons_self ..
        · exact List.mem_cons_of_mem _ ((List.eraseIdx_sublist H k).subset hp)
      · have hnd := (St.alloc (w := w.drew) hw.drew (.cells #[] e)).nd
        simp only [List.map_cons, List.nodup_cons] at hnd ⊢
        exact ⟨fun hm => hnd.1 (((List.eraseIdx_sublist H k).map _).subset hm), hnd.2.sublist ((List.eraseIdx_sublist H k).map _)⟩

/-! ### make -/
theorem o_make {ops : Array Oper} {rest : List Oper} {d : Tmp} {x y : Operand} {t e : TypeId} {bytes : Nat} (T : SlType P t e E bytes) (z0 : α) {k k' : IntKind} (m : Nat) (hd : decide (d < n) = true)
    (hz : (P.info? e).map (fun i => i.zero.map (·.cells)) = some (some (E.enc z0).toArray)) (hx : ev R x = .int k (m : Int)) (hy : ev R y = .int k' (m : Int)) (hm : m ≤ maxLen) (hb : bytes * m ≤ 281474976710656)
    (h : ∀ g c, Row E (List.replicate m z0) c m → opsG P n w0 S ops Q rest (upd R d (.slice (some ⟨g, 0, none⟩) m m)) ((g, .cells c e (0, 0)) :: H)) :
    opsG P n w0 S ops Q (⟨some d, .makeSlice t x y, ty, pos, after, none⟩ :: rest) R H := by
  refine o_op rfl hd fun w hw => ?_
  obtain ⟨i, z, hi, hz', hsz, hby, hzs⟩ := T.hi
  have hzc : z.cells = (E.enc z0).toArray := by simpa [hi, hz'] using hz
  have hr := run_make (P := P) w t e i z T.ht hi hz' k k' (m : Int) (m : Int) (by omega) (by omega) (by rw [hby]; omega) (by simp only [maxLen] at hm; omega)
  have hrow : Row E (List.replicate m z0) (madeCells z.cells (((m : Int)).toNat * i.size)) m := by
    refine ⟨by rw [size_madeCells, hsz]; simp, by simp, hm, ?_⟩
    have e1 : (madeCells z.cells (((m : Int)).toNat * i.size)).toList = (List.replicate m z0).flatMap E.enc := by
      apply List.ext_getElem?
      intro j
      by_cases hj : j < m * E.sz
      · have hd : j / E.sz < m := (Nat.div_lt_iff_lt_mul E.pos).2 hj
        have hm' := Nat.div_add_mod j E.sz
        have hr := Nat.mod_lt j E.pos
        have hv : (E.enc z0)[j % E.sz]? = some ((E.enc z0)[j % E.sz]'(by rw [E.len]; exact hr)) := List.getElem?_eq_getElem _
        have h1 := E.flat_at (List.replicate m z0) (j / E.sz) (by simpa using hd) (j % E.sz) _ (by rw [List.getElem_replicate]; exact hv)
        have e2 : j / E.sz * E.sz + j % E.sz = j := by rw [Nat.mul_comm]; exact hm'
        rw [e2] at h1
        rw [h1]
        have hjs : j < m * i.size := by rw [hsz]; exact hj
        simp only [madeCells, Int.toNat_natCast, Array.toList_map, Array.toList_range, List.getElem?_map, List.getElem?_range hjs, Option.map_some]
        congr 1
        rw [hzc]
        simp only [List.size_toArray, E.len]
        simp [E.len, hr]
      · rw [List.getElem?_eq_none, List.getElem?_eq_none]
        · rw [E.flat_len]; simp; omega
        · simp [madeCells, hsz]; omega
    rw [e1, List.take_of_length_le (by rw [E.flat_len]; simp)]
  refine ⟨_, _, _, ?_, hw.alloc _, h _ _ hrow⟩
  simp [execOp, hx, hy, hr]

/-! ### A slice written out -/
theorem fill_cells (sz : Nat) : ∀ (vs : List Value) (k : Nat) (done zs : List Value), (∀ v ∈ vs, v.cells.size = sz) → done.length = k * sz → zs.length = vs.length * sz →
    Instr.fill (fun i => some (i * sz, sz)) (done ++ zs).toArray ((vs.zipIdx k).map fun p => (p.2, p.1)) = some (done ++ vs.flatMap fun v => v.cells.toList).toArray
  | [], k, done, zs, _, _, hz => by
    have : zs = [] := List.eq_nil_of_length_eq_zero (by simpa using hz)
    subst this
    simp [Instr.fill]
  | v :: vs, k, done, zs, hv, hd, hz => by
    have hvs := hv v (by simp)
    simp only [List.zipIdx_cons, List.map_cons, Instr.fill]
    have hlen : zs.length = sz + vs.length * sz := by rw [hz]; simp [Nat.add_mul]; omega
    rw [if_neg (by simp [hvs, hd, hlen])]
    have key : v.cells.zipIdx.foldl (fun cs (c, j) => cs.setIfInBounds (k * sz + j) c) (done ++ zs).toArray = ((done ++ v.cells.toList) ++ zs.drop sz).toArray := by
      have gen : ∀ (us : List Value) (j : Nat) (pre suf : List Value), pre.length = k * sz + j → us.length ≤ suf.length →
          (us.zipIdx j).foldl (fun (cs : Array Value) (p : Value × Nat) => cs.setIfInBounds (k * sz + p.2) p.1) (pre ++ suf).toArray = (pre ++ us ++ suf.drop us.length).toArray := by
        intro us
        induction us with
        | nil => intro j pre suf _ _; simp
        | cons u us ih =>
          intro j pre suf hp hl
          cases suf with
          | nil => simp at hl
          | cons s suf =>
            simp only [List.zipIdx_cons, List.foldl_cons]
            have e1 : (pre ++ s :: suf).toArray.setIfInBounds (k * sz + j) u = ((pre ++ [u]) ++ suf).toArray := by
              rw [← hp]
              simp [List.setIfInBounds_toArray, List.set_append_right]
            rw [e1, ih (j + 1) (pre ++ [u]) suf (by simp; omega) (by simpa using hl)]
            simp
      have := gen v.cells.toList 0 done zs (by omega) (by simp [hvs, hlen])
      rw [← Array.foldl_toList, Array.toList_zipIdx]
      rw [this]
      simp [hvs]
    rw [key]
    have := fill_cells sz vs (k + 1) (done ++ v.cells.toList) (zs.drop sz) (fun u hu => hv u (by simp [hu])) (by simp [hvs, hd, Nat.add_mul]) (by simp [hlen])
    rw [this]
    simp

theorem o_buildSlice {ops : Array Oper} {rest : List Oper} {d : Tmp} {t e : TypeId} {bytes : Nat} (T : SlType P t e E bytes) (l : List α) (V : α → Value) (hV : ∀ x, (V x).cells.toList = E.enc x) {m : Nat} (hm : m = l.length) {parts : Array (Nat × Operand)} (hd : decide (d < n) = true)
    (hparts : (parts.map fun (i, x) => (i, ev R x)).toList = ((l.map V).zipIdx 0).map fun p => (p.2, p.1)) (hpos : 0 < l.length) (hsm : l.length * E.sz ≤ 16777216)
    (h : ∀ g, opsG P n w0 S ops Q rest (upd R d (.slice (some ⟨g, 0, none⟩) m m)) ((g, .cells (l.flatMap E.enc).toArray e (0, 0)) :: H)) :
    opsG P n w0 S ops Q (⟨some d, .buildSlice t m parts, ty, pos, after, none⟩ :: rest) R H := by
  subst hm
  refine o_op rfl hd fun w hw => ?_
  obtain ⟨i, z, hi, hz, hsz, hby, hzs⟩ := T.hi
  have hVs : ∀ v ∈ l.map V, v.cells.size = E.sz := by
    intro v hv
    obtain ⟨x, _, rfl⟩ := List.mem_map.1 hv
    rw [← Array.length_toList, hV, E.len]
  have hfill := fill_cells E.sz (l.map V) 0 [] ((Array.range (l.length * i.size)).map (z.cells[· % z.cells.size]!)).toList hVs (by simp) (by simp [hsz])
  have hpos' : ¬ l.length * i.size = 0 := by rw [hsz]; have := E.pos; intro e; rcases Nat.mul_eq_zero.1 e with x | x <;> omega
  have hr := run_buildSlice (P := P) w t e l.length (parts.map fun (i, x) => (i, ev R x)) (l.flatMap E.enc).toArray i z T.ht hi hz (by rw [hsz]; omega) hpos' (by
    rw [hparts, hsz]
    simp only [List.nil_append, Array.toArray_toList] at hfill
    rw [hsz] at hfill
    rw [hfill]
    congr 2
    rw [List.flatMap_map]
    congr 1
    funext x
    exact hV x)
  refine ⟨_, _, _, ?_, hw.alloc _, h _⟩
  simp only [execOp, Sem.run_bind, hr, Result.andThen_ok, Sem.run_pure]

/-! ### copy into a block of one's own -/
theorem o_copy {ops : Array Oper} {rest : List Oper} {d : Option Tmp} {x y : Operand} {t u e : TypeId} {r : TypeId} {g o sl sc : Nat} {c0 : Array Value} {et : TypeId} {l : List α} {a : Option Addr} {b o' m cap : Nat} (k : Nat) {c' : Array Value} {H' : Hp}
    (hd : (match d with | some d => decide (d < n) | none => true) = true) (hx : ev R x = .slice (some ⟨g, o, none⟩) sl sc) (hy : ev R y = .slice a m cap) (hml : m = l.length) (hu : P.underlying t = some (.slice e)) (hs : (P.info? e).map (·.size) = some E.sz)
    (hk : H[k]? = some (g, .cells c0 et (0, 0))) (hsl : SlG E w0 S H l a b o' cap) (hle : m ≤ sl) (hin : o + m * E.sz ≤ c0.size) (hc : c0.toList.take o ++ l.flatMap E.enc ++ c0.toList.drop (o + m * E.sz) = c'.toList)
    (hH : H.set k (g, .cells c' et (0, 0)) = H')
    (h : opsG P n w0 S ops Q rest (put R d (.int .i64 (m : Int))) H') :
    opsG P n w0 S ops Q (⟨d, .call { callee := .builtin .copy, args := #[x, y], argTypes := #[t, u] }, r, pos, after, none⟩ :: rest) R H := by
  subst hml
  subst hH
  refine o_op rfl hd fun w hw => ?_
  have h1 := hsl w hw
  have hg := hw.at_ _ (List.mem_of_getElem? hk)
  obtain ⟨it, hit, hits⟩ : ∃ it, P.info? e = some it ∧ it.size = E.sz := by
    cases h : P.info? e with
    | none => simp [h] at hs
    | some it => exact ⟨it, rfl, by simpa [h] using hs⟩
  have hf : (Builtin.firstCells E.sz l.length (.slice a l.length cap)).run P w = .ok (l.flatMap E.enc).toArray w := by
    by_cases h0 : l.length = 0
    · have : l = [] := List.eq_nil_of_length_eq_zero h0
      subst this
      cases a <;> simp [Builtin.firstCells, loadCells, loadCellsFrom]
    · rw [h1.at_ (by omega)]
      exact run_firstCells_some (P := P) w E.sz l.length ⟨b, o', none⟩ l.length cap (l.flatMap E.enc) (E.flat_len l) (sl_cells h1)
  have hst := run_storeCells_at (P := P) g o et (l.flatMap E.enc) 0 c0 w hg (by rw [E.flat_len]; simpa using hin) (E.flat_one l)
  rw [E.flat_len, Nat.add_zero, hc] at hst
  have hmin : Nat.min l.length sl = l.length := Nat.min_eq_left hle
  refine ⟨.int .i64 (l.length : Int), w.setRow g c', _, ?_, ?_, h⟩
  · simp only [execOp, resolve, Sem.run_bind, List.map_toArray, List.map_cons, List.map_nil, hx, hy, invoke, builtin, Sem.run_pure, Result.andThen_ok]
    simp [Builtin.copy_, run_underlying hu, Builtin.lenOf, sizeOf, typeInfo, hit, hits, hmin, hf, hst, goInt]
  · exact hw.write k hk (setRow_heap w g c0 c' et (0, 0) hg) (fun k hk => setRow_other w g k c' hk) (by simp) rfl rfl rfl
end
end Go.Proofs.Ytpbpenlceigddaa.Eng
