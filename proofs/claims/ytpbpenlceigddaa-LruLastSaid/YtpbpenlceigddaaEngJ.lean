/- Proved: rules on calls that turn known blocks, on pointers, on parts of rows; each rule's conditions stand in its own statement. -/
import Derived.Test.YtpbpenlceigddaaEngH
import Derived.LaidEqlPtr
import Derived.Laws.Pointers
set_option linter.unusedVariables false
namespace Go.Proofs.Ytpbpenlceigddaa.Eng
open Go Go.RowKit

/-- These blocks lie as they are told. -/
def At (H0 : Hp) (w : World) : Prop := (∀ p ∈ H0, w.heap[p.1]? = some p.2) ∧ (H0.map Prod.fst).Nodup
def ids (H0 : Hp) : Nat → Prop := fun b => b ∈ H0.map Prod.fst

section
variable {P : Program} {n : Nat} {w0 : World} {S : Nat → Prop} {Q : Exit → Regs → Hp → Prop} {R : Regs} {H : Hp}
variable {dst : Option Tmp} {ty : TypeId} {pos : String} {after : Array Go.Edge} {gd : Option (Nat × Bool)}

theorem At.st {H0 : Hp} {w : World} (h : At H0 w) : St w (ids H0) H0 w :=
  ⟨h.1, h.2, fun p hp => .inl (List.mem_map_of_mem hp), rfl, rfl, rfl, Nat.le_refl _, fun _ _ _ => rfl⟩
theorem St.at' {H0 K : Hp} {w : World} (h : St w0 S (H0 ++ K) w) : At H0 w :=
  ⟨fun p hp => h.at_ p (List.mem_append_left _ hp), h.nd.sublist ((List.sublist_append_left H0 K).map _)⟩
theorem St.atAll {w : World} (h : St w0 S H w) : At H w := ⟨h.at_, h.nd⟩
theorem St.sat {H0 : Hp} {w : World} (h : St w0 S H w) (hs : H0.Sublist H) : At H0 w := (h.drop hs).atAll

/-- A call that turned the blocks H0 into H'. -/
theorem St.call {H0 K H' : Hp} {w w' : World} (h : St w0 S (H0 ++ K) w) (h' : St w (ids H0) H' w') : St w0 S (H' ++ K) w' := by
  have hnd := h.nd
  rw [List.map_append, List.nodup_append] at hnd
  obtain ⟨hn0, hnK, hdis⟩ := hnd
  have hKlt : ∀ p ∈ K, p.1 < w.heap.size := fun p hp => h.lt (List.mem_append_right _ hp)
  have hKno : ∀ p ∈ K, ¬ ids H0 p.1 := fun p hp hm => hdis _ hm _ (List.mem_map_of_mem hp) rfl
  refine ⟨?_, ?_, ?_, h'.os.trans h.os, h'.tape.trans h.tape, h'.output.trans h.output, Nat.le_trans h.le h'.le, ?_⟩
  · intro p hp
    rcases List.mem_append.1 hp with hp | hp
    · exact h'.at_ p hp
    · rw [h'.fr p.1 (hKlt p hp) (hKno p hp)]; exact h.at_ p (List.mem_append_right _ hp)
  · rw [List.map_append, List.nodup_append]
    refine ⟨h'.nd, hnK, ?_⟩
    intro a ha b hb e
    obtain ⟨p, hp, rfl⟩ := List.mem_map.1 ha
    obtain ⟨q, hq, rfl⟩ := List.mem_map.1 hb
    rcases h'.own p hp with x | x
    · exact hKno q hq (e ▸ x)
    · have := hKlt q hq; omega
  · intro p hp
    rcases List.mem_append.1 hp with hp | hp
    · rcases h'.own p hp with x | x
      · obtain ⟨q, hq, e⟩ := List.mem_map.1 x
        rw [← e]; exact h.own q (List.mem_append_left _ hq)
      · have := h.le; exact .inr (by omega)
    · exact h.own p (List.mem_append_right _ hp)
  · intro b hb hs
    have hno : ¬ ids H0 b := by
      intro hm
      obtain ⟨q, hq, e⟩ := List.mem_map.1 hm
      rcases h.own q (List.mem_append_left _ hq) with x | x
      · exact hs (e ▸ x)
      · omega
    rw [h'.fr b (by have := h.le; omega) hno]
    exact h.fr b hb hs

theorem St.same {H0 H' : Hp} {w w' : World} (hat : At H0 w) (h' : St w (ids H0) H' w') (hm : H0.Sublist H') : Below w.heap.size w w' := by
  refine ⟨h'.os, h'.tape, h'.output, h'.le, fun k hk => ?_⟩
  by_cases hi : ids H0 k
  · obtain ⟨p, hp, e⟩ := List.mem_map.1 hi
    rw [← e, h'.at_ p (hm.subset hp), hat.1 p hp]
  · exact h'.fr k hk hi

theorem St.pure {H0 H1 H' : Hp} {w w' : World} (hat : At H0 w) (h' : St w (ids H0) H' w') (hm : (H0 ++ H1).Sublist H') : St w (fun _ => False) H1 w' := by
  have hb := St.same hat h' ((List.sublist_append_left H0 H1).trans hm)
  have h2 := h'.drop hm
  have hnd := h2.nd
  rw [List.map_append, List.nodup_append] at hnd
  refine ⟨fun p hp => h2.at_ p (List.mem_append_right _ hp), hnd.2.1, ?_, hb.os, hb.tape, hb.output, hb.size, fun k hk _ => hb.block k hk⟩
  intro p hp
  rcases h2.own p (List.mem_append_right _ hp) with x | x
  · exact absurd rfl (hnd.2.2 _ x _ (List.mem_map_of_mem hp))
  · exact .inr x

/-- A call that turns known blocks. -/
theorem o_callS {ops : Array Oper} {rest : List Oper} {d : Option Tmp} {f : FuncId} {args : Array Operand} {at_ : Array TypeId} {vs : List Value} {T : Value → Hp → Prop} (H0 K : Hp) (hH : H.Perm (H0 ++ K)) (hf : Bodied P f) (hd : (match d with | some d => decide (d < n) | none => true) = true)
    (hv : args.toList.map (ev R) = vs)
    (hc : ∀ w, At H0 w → Calls P f vs.toArray w fun e w' => ∃ v H', e = .returned v ∧ St w (ids H0) H' w' ∧ T v H')
    (h : ∀ v H', T v H' → opsG P n w0 S ops Q rest (put R d v) (H' ++ K)) :
    opsG P n w0 S ops Q (⟨d, .call { callee := .value (.func f), args := args, argTypes := at_ }, ty, pos, after, none⟩ :: rest) R H := by
  refine o_perm (H' := H0 ++ K) hH.symm ?_
  refine o_call (T := fun v H2 => ∃ H', T v H' ∧ H2 = H' ++ K) rfl hd (run_call hf hv) (fun w hw => (hc w hw.at').mono ?_) ?_
  · rintro e w' ⟨v, H', he, hs, ht⟩
    exact ⟨v, H' ++ K, he, hw.call hs, H', ht, rfl⟩
  · rintro v H2 ⟨H', ht, rfl⟩
    exact h v H' ht

/-! ### Pointers -/
theorem y_nilCheck {x : Operand} {a : Addr} (hx : ev R x = .pointer (some a)) : Yields P w0 S H ⟨dst, .nilCheck x, ty, pos, after, gd⟩ R (.pointer (some a)) :=
  y_val fun w => by simp [execOp, hx]
theorem eqGuard_ptr (op : BinOp) (t : TypeId) (x y : Operand) (a b : Option Addr) (w : World) : (eqGuard op t x y (.pointer a) (.pointer b)).run P w = .ok () w := by
  unfold eqGuard
  cases op <;> simp
theorem y_eqlN {t yt : TypeId} {x y : Operand} {a : Option Addr} {c : Bool} (hx : ev R x = .pointer a) (hy : ev R y = .pointer none) (hu : P.underlying t = some (.pointer (P.pointee t))) (hc : a.isNone = c) :
    Yields P w0 S H ⟨dst, .binOp .eql t x y yt, ty, pos, after, gd⟩ R (.bool c) :=
  y_val fun w => by subst hc; simp [execOp, hx, hy, eqGuard_ptr, run_eql_pointer_nil w t a hu]
theorem y_neqN {t yt : TypeId} {x y : Operand} {a : Option Addr} {c : Bool} (hx : ev R x = .pointer a) (hy : ev R y = .pointer none) (hu : P.underlying t = some (.pointer (P.pointee t))) (hc : (!a.isNone) = c) :
    Yields P w0 S H ⟨dst, .binOp .neq t x y yt, ty, pos, after, gd⟩ R (.bool c) :=
  y_val fun w => by subst hc; simp [execOp, hx, hy, eqGuard_ptr, run_neq_pointer_nil w t a hu]

/-! ### Parts of what is read -/
theorem Rd.sub {b o k o' : Nat} {cs cs' : List Value} (h : Rd w0 S H b o cs) (ho : o + k = o') (hs : ∀ j v, cs'[j]? = some v → cs[k + j]? = some v) : Rd w0 S H b o' cs' := by
  subst ho
  intro w hw j v hj
  have h1 := h w hw (k + j) v (hs j v hj)
  rw [← h1, Nat.add_assoc]
theorem Rd.sub1 {b o k o' : Nat} {cs : List Value} {v : Value} (h : Rd w0 S H b o cs) (ho : o + k = o') (hv : cs[k]? = some v) : Rd w0 S H b o' [v] :=
  h.sub ho fun j u hj => by
    cases j with
    | zero => simp at hj; subst hj; exact hv
    | succ j => simp at hj

/-! ### Pieces of lists -/
theorem seg_get {A B C : List Value} {k j : Nat} {v : Value} (hk : k = A.length) (h : B[j]? = some v) : (A ++ B ++ C)[k + j]? = some v := by
  subst hk
  have hj := (List.getElem?_eq_some_iff.1 h).1
  rw [List.getElem?_append_left (by rw [List.length_append]; omega), List.getElem?_append_right (by omega)]
  rw [Nat.add_sub_cancel_left]; exact h
theorem seg_set {A B C vs : List Value} {k j m : Nat} (hk : k = A.length + j) (hm : m = k + vs.length) (h : j + vs.length ≤ B.length) :
    (A ++ B ++ C).take k ++ vs ++ (A ++ B ++ C).drop m = A ++ (B.take j ++ vs ++ B.drop (j + vs.length)) ++ C := by
  subst hm
  subst hk
  have e1 : (A ++ B ++ C).take (A.length + j) = A ++ B.take j := by
    rw [List.append_assoc, List.take_length_add_append, List.take_append_of_le_length (by omega)]
  have e2 : (A ++ B ++ C).drop (A.length + j + vs.length) = B.drop (j + vs.length) ++ C := by
    rw [List.append_assoc, Nat.add_assoc, List.drop_length_add_append, List.drop_append_of_le_length (by omega)]
  rw [e1, e2]
  simp only [List.append_assoc]
variable {α : Type} {E : Enc α}
theorem flat_set (l : List α) (i : Nat) (hi : i < l.length) (x : α) : (l.flatMap E.enc).take (i * E.sz) ++ E.enc x ++ (l.flatMap E.enc).drop (i * E.sz + E.sz) = (l.set i x).flatMap E.enc := by
  have e1 : l.set i x = l.take i ++ x :: l.drop (i + 1) := List.set_eq_take_append_cons_drop.trans (by rw [if_pos hi])
  have e2 : l.flatMap E.enc = (l.take i).flatMap E.enc ++ (l.drop i).flatMap E.enc := by rw [← List.flatMap_append, List.take_append_drop]
  have h1 : ((l.take i).flatMap E.enc).length = i * E.sz := by rw [E.flat_len]; simp; rw [Nat.min_eq_left (by omega)]
  have e3 : (l.drop i).flatMap E.enc = E.enc l[i] ++ (l.drop (i + 1)).flatMap E.enc := by rw [List.drop_eq_getElem_cons hi, List.flatMap_cons]
  rw [e1, List.flatMap_append, List.flatMap_cons, e2, e3, List.take_left' h1, ← List.append_assoc ((l.take i).flatMap E.enc), List.drop_left' (by rw [List.length_append, h1, E.len]), List.append_assoc]

/-- A store into a part of an element of a row of one's own. -/
theorem o_storeRowP {t : TypeId} {ops : Array Oper} {rest : List Oper} {x y : Operand} {g off cap : Nat} {c : Array Value} {et : TypeId} {l : List α} {u : α} {v : Value} (k i kk : Nat)
    (hx : ev R x = .pointer (some ⟨g, off, none⟩)) (ho : off = i * E.sz + kk) (hy : ev R y = v) (hs : (P.info? t).map (·.size) = some v.cells.size) (hk : H[k]? = some (g, .cells c et (0, 0))) (hrow : Row E l c cap) (hi : i < l.length)
    (hkk : kk + v.cells.size ≤ E.sz) (h1 : ∀ u ∈ v.cells.toList, u.oneCell' = true) (hu : (E.enc l[i]).take kk ++ v.cells.toList ++ (E.enc l[i]).drop (kk + v.cells.size) = E.enc u)
    (h : ∀ c', Row E (l.set i u) c' cap → opsG P n w0 S ops Q rest R (H.set k (g, .cells c' et (0, 0)))) :
    opsG P n w0 S ops Q (⟨none, .store t x y, ty, pos, after, none⟩ :: rest) R H := by
  subst ho
  have ha : (i + 1) * E.sz ≤ l.length * E.sz := Nat.mul_le_mul_right _ hi
  have hb : l.length * E.sz ≤ cap * E.sz := Nat.mul_le_mul_right _ hrow.le
  rw [Nat.add_mul, Nat.one_mul] at ha
  have hc := hrow.size
  have hcl : c.toList.length = cap * E.sz := by simpa using hc
  have hseg : c.toList = c.toList.take (i * E.sz) ++ E.enc l[i] ++ c.toList.drop (i * E.sz + E.sz) := by
    apply List.ext_getElem?
    intro j
    rw [List.getElem?_append, List.getElem?_append]
    simp only [List.length_append, List.length_take, hcl, E.len]
    have hmin : min (i * E.sz) (cap * E.sz) = i * E.sz := by omega
    rw [hmin]
    split
    · split
      · rw [List.getElem?_take_of_lt (by omega)]
      · have hj : j - i * E.sz < E.sz := by omega
        have := hrow.at_ i hi (j - i * E.sz) _ (List.getElem?_eq_getElem (by rw [E.len]; exact hj))
        rw [show i * E.sz + (j - i * E.sz) = j by omega] at this
        simp only [Array.getElem?_toList]
        rw [this, List.getElem?_eq_getElem (by rw [E.len]; exact hj)]
    · rw [List.getElem?_drop]; congr 1; omega
  have l1 : (c.toList.take (i * E.sz)).length = i * E.sz := by rw [List.length_take, hcl]; omega
  have e1 := seg_set (A := c.toList.take (i * E.sz)) (B := E.enc l[i]) (C := c.toList.drop (i * E.sz + E.sz)) (vs := v.cells.toList) (k := i * E.sz + kk) (j := kk) (m := i * E.sz + kk + v.cells.size) (by rw [l1]) (by simp) (by rw [E.len]; simpa using hkk)
  rw [← hseg] at e1
  have hu' : (E.enc l[i]).take kk ++ v.cells.toList ++ (E.enc l[i]).drop (kk + v.cells.toList.length) = E.enc u := by simpa using hu
  rw [hu'] at e1
  refine o_store (v := v) k (c.toList.take (i * E.sz) ++ E.enc u ++ c.toList.drop (i * E.sz + E.sz)).toArray hx hy hk hs (by omega) h1 (by rw [e1]) (h _ (hrow.set i hi u rfl))
end
end Go.Proofs.Ytpbpenlceigddaa.Eng
