/- Proved: rules on calls that make memory, stores into rows, values that are built; each rule's conditions stand in its own statement. -/
import Derived.Test.YtpbpenlceigddaaEngE
namespace Go.Proofs.Ytpbpenlceigddaa.Eng
open Go Go.RowKit

section
variable {P : Program} {n : Nat} {w0 : World} {S : Nat → Prop} {Q : Exit → Regs → Hp → Prop} {R : Regs} {H : Hp}
variable {dst : Option Tmp} {ty : TypeId} {pos : String} {after : Array Edge} {gd : Option (Nat × Bool)}
variable {α : Type} {E : Enc α}

/-- What a call made, on top of what was known. -/
theorem St.join {w w' : World} {H' : Hp} (h : St w0 S H w) (h' : St w (fun _ => False) H' w') : St w0 S (H' ++ H) w' := by
  have hnew : ∀ p ∈ H', w.heap.size ≤ p.1 := fun p hp => (h'.own p hp).resolve_left (fun x => x)
  have hold : ∀ p ∈ H, w'.heap[p.1]? = w.heap[p.1]? := fun p hp => h'.fr p.1 (h.lt hp) (fun x => x)
  refine ⟨?_, ?_, ?_, h'.os.trans h.os, h'.tape.trans h.tape, h'.output.trans h.output, Nat.le_trans h.le h'.le, ?_⟩
  · intro p hp
    rcases List.mem_append.1 hp with hp | hp
    · exact h'.at_ p hp
    · rw [hold p hp]; exact h.at_ p hp
  · rw [List.map_append, List.nodup_append]
    refine ⟨h'.nd, h.nd, ?_⟩
    intro a ha b hb e
    obtain ⟨p, hp, rfl⟩ := List.mem_map.1 ha
    obtain ⟨q, hq, rfl⟩ := List.mem_map.1 hb
    have := hnew p hp
    have := h.lt hq
    omega
  · intro p hp
    rcases List.mem_append.1 hp with hp | hp
    · have := hnew p hp; have := h.le; exact .inr (by omega)
    · exact h.own p hp
  · intro b hb hs
    have := h.le
    rw [h'.fr b (by omega) (fun x => x)]
    exact h.fr b hb hs

theorem o_callNew {ops : Array Oper} {rest : List Oper} {d : Option Tmp} {f : FuncId} {args : Array Operand} {at_ : Array TypeId} {vs : List Value} {T : Value → Hp → Prop} (hf : Bodied P f) (hd : (match d with | some d => decide (d < n) | none => true) = true)
    (hv : args.toList.map (ev R) = vs)
    (hc : ∀ w, St w0 S H w → Calls P f vs.toArray w fun e w' => ∃ v H', e = .returned v ∧ St w (fun _ => False) H' w' ∧ T v H')
    (h : ∀ v H', T v H' → opsG P n w0 S ops Q rest (put R d v) (H' ++ H)) :
    opsG P n w0 S ops Q (⟨d, .call { callee := .value (.func f), args := args, argTypes := at_ }, ty, pos, after, none⟩ :: rest) R H := by
  refine o_call (T := fun v H2 => ∃ H', T v H' ∧ H2 = H' ++ H) rfl hd (run_call hf hv) (fun w hw => (hc w hw).mono ?_) ?_
  · rintro e w' ⟨v, H', he, hs, ht⟩
    exact ⟨v, H' ++ H, he, hw.join hs, H', ht, rfl⟩
  · rintro v H2 ⟨H', ht, rfl⟩
    exact h v H' ht

/-- A store into a row of one's own. -/
theorem o_storeRow {t : TypeId} {ops : Array Oper} {rest : List Oper} {x y : Operand} {g off cap : Nat} {c : Array Value} {et : TypeId} {l : List α} {u : α} {v : Value} (k i : Nat)
    (hx : ev R x = .pointer (some ⟨g, off, none⟩)) (ho : off = i * E.sz) (hy : ev R y = v) (hv : v.cells.toList = E.enc u) (hs : (P.info? t).map (·.size) = some E.sz) (hk : H[k]? = some (g, .cells c et (0, 0))) (hrow : Row E l c cap) (hi : i < l.length)
    (h : ∀ c', Row E (l.set i u) c' cap → opsG P n w0 S ops Q rest R (H.set k (g, .cells c' et (0, 0)))) :
    opsG P n w0 S ops Q (⟨none, .store t x y, ty, pos, after, none⟩ :: rest) R H := by
  subst ho
  have hsz : v.cells.size = E.sz := by rw [← Array.length_toList, hv, E.len]
  have h1 : (i + 1) * E.sz ≤ l.length * E.sz := Nat.mul_le_mul_right _ hi
  have h2 : l.length * E.sz ≤ cap * E.sz := Nat.mul_le_mul_right _ hrow.le
  rw [Nat.add_mul, Nat.one_mul] at h1
  have h3 := hrow.size
  refine o_store (v := v) k (c.toList.take (i * E.sz) ++ E.enc u ++ c.toList.drop (i * E.sz + E.sz)).toArray hx hy hk (by rw [hs, hsz]) (by rw [hsz, h3]; omega) (by rw [hv]; exact E.one u) (by rw [hv, hsz]) (h _ (hrow.set i hi u rfl))

/-- A byte of a block of a row of one's own. -/
theorem o_storeRowB {t : TypeId} {ops : Array Oper} {rest : List Oper} {x y : Operand} {g off cap : Nat} {c : Array Value} {et : TypeId} {l : List Blk} {b : Int} (k i kk : Nat) (hkk : kk < 64)
    (hx : ev R x = .pointer (some ⟨g, off, none⟩)) (ho : off = i * 64 + kk) (hy : ev R y = .int .u8 b) {u : UInt8} (hb : b = (u.toNat : Int)) (hs : (P.info? t).map (·.size) = some 1) (hk : H[k]? = some (g, .cells c et (0, 0))) (hrow : Row eBlk l c cap) (hi : i < l.length)
    (h : ∀ c', Row eBlk (l.set i ((l[i]).set kk u hkk)) c' cap → opsG P n w0 S ops Q rest R (H.set k (g, .cells c' et (0, 0)))) :
    opsG P n w0 S ops Q (⟨none, .store t x y, ty, pos, after, none⟩ :: rest) R H := by
  subst ho
  subst hb
  have h1 : (i + 1) * 64 ≤ l.length * 64 := Nat.mul_le_mul_right _ hi
  have h2 : l.length * 64 ≤ cap * 64 := Nat.mul_le_mul_right _ hrow.le
  have h3 : c.size = cap * 64 := hrow.size
  have hcl : c.toList.length = cap * 64 := by simpa using h3
  have hseg : c.toList = c.toList.take (i * 64) ++ (bv l[i]).toList ++ c.toList.drop (i * 64 + 64) := by
    apply List.ext_getElem?
    intro j
    rw [List.getElem?_append, List.getElem?_append]
    simp only [List.length_append, List.length_take, hcl, Array.length_toList, bv_size]
    have hmin : min (i * 64) (cap * 64) = i * 64 := by omega
    rw [hmin]
    split
    · split
      · rw [List.getElem?_take_of_lt (by omega)]
      · have hj : j - i * 64 < 64 := by omega
        have := hrow.at_ i hi (j - i * 64) _ (List.getElem?_eq_getElem (by rw [eBlk.len]; exact hj))
        have e1 : i * eBlk.sz + (j - i * 64) = j := by show i * 64 + (j - i * 64) = j; omega
        rw [e1] at this
        simp only [Array.getElem?_toList]
        rw [this, bv_get _ _ hj]
        simp [eBlk, bv]
    · rw [List.getElem?_drop]; congr 1; omega
  refine o_store (v := .int .u8 (u.toNat : Int)) k (c.setIfInBounds (i * 64 + kk) (.int .u8 (u.toNat : Int))) hx hy hk (by rw [hs]; rfl) (by simp [Value.cells]; omega) (by intro u hu; simp [Value.cells] at hu; subst hu; rfl) ?_ (h _ (hrow.set i hi _ ?_))
  · simp only [Value.cells, Array.toList_setIfInBounds]
    rw [List.set_eq_take_append_cons_drop, if_pos (by rw [hcl]; omega)]
    simp
  · show c.toList.take (i * 64) ++ (bv ((l[i]).set kk u hkk)).toList ++ c.toList.drop (i * 64 + 64) = _
    rw [← bv_set _ _ hkk, Array.toList_setIfInBounds, Array.toList_setIfInBounds]
    conv => rhs; rw [hseg]
    have l1 : (c.toList.take (i * 64)).length = i * 64 := by rw [List.length_take, hcl]; omega
    rw [List.append_assoc, List.append_assoc, List.set_append_right _ _ (by rw [l1]; omega), l1, List.set_append_left _ _ (by simp [bv_size]; omega)]
    congr 3
    omega

/-- A struct or an array that is built. -/
theorem y_build {t : TypeId} {parts : Array (Nat × Operand)} {ps : List (Nat × Value)} {c : Array Value} (hp : (parts.map fun (i, x) => (i, ev R x)).toList = ps) (h : P.built t ps = some c) :
    Yields P w0 S H ⟨dst, .build t parts, ty, pos, after, gd⟩ R (.agg c) :=
  y_val fun w => by
    have hr := run_build (P := P) w t (parts.map fun (i, x) => (i, ev R x)) c (by rw [hp]; exact h)
    simp only [execOp, Sem.run_bind, hr, Result.andThen_ok, Sem.run_pure]

theorem part_at {a : Option Addr} {b o i sz cap : Nat} (ha : a = some ⟨b, o, none⟩) (h : cap ≠ i) : part_ a i sz cap = some ⟨b, o + i * sz, none⟩ := by
  subst ha
  rw [part_, if_neg h]
  simp [Addr.add_mid]

theorem add_zero_addr (x : Addr) : x.add 0 = x := by unfold Addr.add; split <;> simp_all

/-- The first ones of a slice. -/
theorem y_partL {x : Operand} {t e : TypeId} {len cap sz : Nat} {a : Option Addr} {hi : Option Operand} (h : Nat) (hx : ev R x = .slice a len cap) (hu : P.underlying t = some (.slice e))
    (hs : (P.info? e).map (·.size) = some sz) (hhi : match hi with | some q => ∃ k, ev R q = .int k (h : Int) | none => h = len) (hc : h ≤ cap) :
    Yields P w0 S H ⟨dst, .slice t x none hi none, ty, pos, after, gd⟩ R (.slice a h cap) := by
  have h1 := y_part (P := P) (w0 := w0) (S := S) (H := H) (dst := dst) (ty := ty) (pos := pos) (after := after) (gd := gd) (lo := none) 0 h hx hu hs rfl hhi (Nat.zero_le _) hc
  have e1 : part_ a 0 sz cap = a := by
    unfold part_
    split
    · rfl
    · cases a <;> simp [add_zero_addr]
  rw [e1] at h1
  simpa using h1
theorem y_partE {x : Operand} {t e : TypeId} {len cap sz : Nat} {a : Option Addr} {lo : Option Operand} (hx : ev R x = .slice a len cap) (hu : P.underlying t = some (.slice e))
    (hs : (P.info? e).map (·.size) = some sz) (hlo : match lo with | some q => ∃ k, ev R q = .int k (len : Int) | none => len = 0) (hc : len ≤ cap) :
    Yields P w0 S H ⟨dst, .slice t x lo none none, ty, pos, after, gd⟩ R (.slice (part_ a len sz cap) 0 (cap - len)) := by
  have h1 := y_part (P := P) (w0 := w0) (S := S) (H := H) (dst := dst) (ty := ty) (pos := pos) (after := after) (gd := gd) (hi := none) len len hx hu hs hlo rfl (Nat.le_refl _) hc
  rw [Nat.sub_self] at h1
  exact h1
/-- With three indexes, from the begin. -/
theorem y_slice3 {x p q : Operand} {t e : TypeId} {len cap sz : Nat} {a : Option Addr} {k k' : IntKind} (h m : Nat) (hx : ev R x = .slice a len cap) (hu : P.underlying t = some (.slice e))
    (hs : (P.info? e).map (·.size) = some sz) (hp : ev R p = .int k (h : Int)) (hq : ev R q = .int k' (m : Int)) (hhm : h ≤ m) (hc : m ≤ cap) :
    Yields P w0 S H ⟨dst, .slice t x none (some p) (some q), ty, pos, after, gd⟩ R (.slice a h m) :=
  y_val fun w => by
    obtain ⟨it, hit, rfl⟩ : ∃ it, P.info? e = some it ∧ it.size = sz := by
      cases h : P.info? e with
      | none => simp [h] at hs
      | some it => exact ⟨it, rfl, by simpa [h] using hs⟩
    have key : (Instr.sliceAt t (.slice a len cap) (Option.map (ev R) none) (Option.map (ev R) (some p)) (Option.map (ev R) (some q))).run P w = .ok (.slice a h m) w := by
      have q1 : (Instr.sliceBounds true len cap (Option.map (ev R) none) (Option.map (ev R) (some p)) (Option.map (ev R) (some q))).run P w = .ok (0, h, m) w := by
        simp [Instr.sliceBounds, Instr.sliceBound, asIntOf, hp, hq, hhm, hc]
      simp only [Instr.sliceAt, Instr.slice, Sem.run_bind, run_underlying hu, Result.andThen_ok, q1]
      have e1 : (if m = 0 then a else Option.map (fun x => x.add (0 * it.size)) a) = a := by
        split
        · rfl
        · cases a <;> simp [add_zero_addr]
      simp [sizeOf, typeInfo, hit]
      cases a <;> simp [add_zero_addr]
    simp only [execOp, Sem.run_bind, hx, key, Result.andThen_ok, Sem.run_pure]

theorem Sl.first {w : World} {l : List α} {a : Option Addr} {b o cap : Nat} (h : Sl E w l a b o cap) (k : Nat) : Sl E w (l.take k) a b o cap :=
  ⟨fun hp => h.at_ (by simp at hp; omega), fun i hi => by
    have hi' : i < l.length := by simp at hi; omega
    have := h.rd i hi'
    simpa using this, by have := h.le; simp; omega, h.mx⟩
theorem SlG.first {l : List α} {a : Option Addr} {b o cap : Nat} (h : SlG E w0 S H l a b o cap) (k : Nat) : SlG E w0 S H (l.take k) a b o cap := fun w hw => (h w hw).first k

theorem Sl.pre {w : World} {l m : List α} {a : Option Addr} {b o cap : Nat} (h : Sl E w (l ++ m) a b o cap) : Sl E w l a b o cap := by
  have := h.first l.length
  rwa [List.take_left] at this
theorem SlG.pre {l m : List α} {a : Option Addr} {b o cap : Nat} (h : SlG E w0 S H (l ++ m) a b o cap) : SlG E w0 S H l a b o cap := fun w hw => (h w hw).pre
theorem SlG.none {a : Option Addr} {b o cap : Nat} (hm : cap ≤ maxLen) : SlG E w0 S H [] a b o cap := fun _ _ => ⟨fun h => by simp at h, fun i h => by simp at h, Nat.zero_le _, hm⟩

theorem y_bool {o : Oper} {b c : Bool} (h : Yields P w0 S H o R (.bool b)) (e : b = c) : Yields P w0 S H o R (.bool c) := e ▸ h
theorem y_as {o : Oper} {u v : Value} (h : Yields P w0 S H o R u) (e : u = v) : Yields P w0 S H o R v := e ▸ h

theorem beq_dec {α : Type} [DecidableEq α] {a b : α} : (a == b) = decide (a = b) := by
  by_cases h : a = b <;> simp [h]
end
end Go.Proofs.Ytpbpenlceigddaa.Eng
