/- Proved: rules on slices of one's own that may be nil (a list that grows by append), on structs' fields, on calls that hand such slices back; each rule's conditions stand in its own statement. -/
import Derived.Test.YtpbpenlceigddaaEngF
namespace Go.Proofs.Ytpbpenlceigddaa.Eng
open Go Go.RowKit

/-- A slice of one's own: nil, or a row; 'Hx' is its block, if it has one. -/
inductive OwnV {α : Type} (E : Enc α) (e : TypeId) (l : List α) : Option Addr → Nat → Nat → Hp → Prop
  | nil (g : Nat) (h : l = []) : OwnV E e l none g 0 []
  | row (g cap : Nat) (c : Array Value) (h : Row E l c cap) : OwnV E e l (some ⟨g, 0, none⟩) g cap [(g, .cells c e (0, 0))]

section
variable {P : Program} {n : Nat} {w0 : World} {S : Nat → Prop} {Q : Exit → Regs → Hp → Prop} {R : Regs} {H : Hp}
variable {dst : Option Tmp} {ty : TypeId} {pos : String} {after : Array Edge} {gd : Option (Nat × Bool)}
variable {α : Type} {E : Enc α} {e : TypeId} {l : List α} {a : Option Addr} {g cap : Nat} {Hx : Hp}

theorem OwnV.none' : OwnV E e ([] : List α) none 0 0 [] := .nil 0 rfl
theorem OwnV.at_ (h : OwnV E e l a g cap Hx) (hp : 0 < l.length) : a = some ⟨g, 0, none⟩ := by
  cases h with
  | nil _ h => subst h; simp at hp
  | row => rfl
theorem OwnV.le (h : OwnV E e l a g cap Hx) : l.length ≤ cap := by
  cases h with
  | nil _ h => subst h; simp
  | row _ _ _ h => exact h.le
theorem OwnV.mx (h : OwnV E e l a g cap Hx) : cap ≤ maxLen := by
  cases h with
  | nil => exact Nat.zero_le _
  | row _ _ _ h => exact h.mx
theorem OwnV.nil_of (h : OwnV E e l a g cap Hx) (hn : a = none) : l = [] := by
  cases h with
  | nil _ h => exact h
  | row => cases hn

theorem SlG.own (h : OwnV E e l a g cap Hx) (hm : ∀ p ∈ Hx, p ∈ H) : SlG E w0 S H l a g 0 cap := by
  cases h with
  | nil _ h =>
    subst h
    exact SlG.none (Nat.zero_le _)
  | row _ _ c h =>
    obtain ⟨k, hk⟩ := List.getElem?_of_mem (hm _ (List.mem_cons_self ..))
    exact SlG.row hk h

theorem St.perm {w : World} {H' : Hp} (h : St w0 S H w) (hp : H'.Perm H) : St w0 S H' w :=
  h.sub (fun _ hp' => hp.subset hp') ((hp.map Prod.fst).nodup_iff.2 h.nd)
theorem o_perm {ops : Array Oper} {ol : List Oper} {H' : Hp} (hp : H'.Perm H) (h : opsG P n w0 S ops Q ol R H') : opsG P n w0 S ops Q ol R H :=
  fun a w ha hw => h a w ha (hw.perm hp)
theorem opsG_perm {ops : Array Oper} {ol : List Oper} {H' : Hp} (hp : H'.Perm H) (h : opsG P n w0 S ops Q ol R H) : opsG P n w0 S ops Q ol R H' :=
  fun a w ha hw => h a w ha (hw.perm hp.symm)

/-- append onto a slice of one's own, nil or not, of whatever. -/
theorem o_appendV {ops : Array Oper} {rest : List Oper} {d : Tmp} {s x : Operand} {t : TypeId} {bytes : Nat} {r : TypeId} (T : SlType P t e E bytes) {l' : List α} {a' : Option Addr} {b o m m0 cap' : Nat} (K : Hp) (F : Hp → Hp) (hd : decide (d < n) = true)
    (hF : ∀ Hy, (F Hy).Perm (Hy ++ K)) (hH : H.Perm (Hx ++ K)) (hown : OwnV E e l a g cap Hx)
    (hs : ev R s = .slice a m0 cap) (hm0 : m0 = l.length) (hx : ev R x = .slice a' m cap') (hml : m = l'.length) (hsl : SlG E w0 S H l' a' b o cap') (hmx : l.length + l'.length ≤ maxLen) (hbytes : (l.length + l'.length) * bytes ≤ 140737488355328)
    (h : ∀ a2 g2 cap2 Hy, OwnV E e (l ++ l') a2 g2 cap2 Hy → opsG P n w0 S ops Q rest (upd R d (.slice a2 (m0 + m) cap2)) (F Hy)) :
    opsG P n w0 S ops Q (⟨some d, .call { callee := .builtin .append, args := #[s, x], argTypes := #[t, t] }, r, pos, after, none⟩ :: rest) R H := by
  subst hml
  cases hown with
  | nil _ hl =>
    subst hl
    simp only [List.length_nil] at hm0
    subst hm0
    by_cases h0 : l' = []
    · subst h0
      refine o_y (v := .slice none 0 0) rfl hd (y_appendNil0 T hs hx) ?_
      have h1 := h none g 0 [] (.nil g rfl)
      exact opsG_perm ((by simpa using hH : H.Perm ([] ++ K)).trans (hF []).symm) h1
    · refine o_appendNil T hd hs hx rfl hsl (List.length_pos_iff.2 h0) (by simpa using hbytes) fun g2 c2 cap2 hr => ?_
      have h1 := h _ g2 cap2 _ (.row g2 cap2 c2 (by rw [List.nil_append]; exact hr))
      rw [Nat.zero_add] at h1
      exact opsG_perm ((List.Perm.cons _ (by simpa using hH)).trans (hF [(g2, .cells c2 e (0, 0))]).symm) h1
  | row _ _ c hrow =>
    refine o_perm (H' := (g, .cells c e (0, 0)) :: K) (by simpa using hH.symm) ?_
    refine o_appendOwn T 0 hd hs hm0 rfl hrow hx rfl (fun w hw => hsl w (hw.perm (by simpa using hH))) hmx hbytes fun g2 c2 cap2 hr => ?_
    have h1 := h _ g2 cap2 _ (.row g2 cap2 c2 hr)
    exact opsG_perm (hF [(g2, .cells c2 e (0, 0))]).symm h1

/-- A call that hands back what it made. -/
theorem o_callV {ops : Array Oper} {rest : List Oper} {d : Option Tmp} {f : FuncId} {args : Array Operand} {at_ : Array TypeId} {vs : List Value} {T : Value → Hp → Prop} (F : Hp → Hp) (hF : ∀ Hy, (F Hy).Perm (Hy ++ H)) (hf : Bodied P f) (hd : (match d with | some d => decide (d < n) | none => true) = true)
    (hv : args.toList.map (ev R) = vs)
    (hc : ∀ w, St w0 S H w → Calls P f vs.toArray w fun e w' => ∃ v H', e = .returned v ∧ St w (fun _ => False) H' w' ∧ T v H')
    (h : ∀ v H', T v H' → opsG P n w0 S ops Q rest (put R d v) (F H')) :
    opsG P n w0 S ops Q (⟨d, .call { callee := .value (.func f), args := args, argTypes := at_ }, ty, pos, after, none⟩ :: rest) R H :=
  o_callNew hf hd hv hc fun v H' hT => opsG_perm (hF H').symm (h v H' hT)

/-- A store into a slice of one's own. -/
theorem o_storeV {t : TypeId} {ops : Array Oper} {rest : List Oper} {x y : Operand} {off : Nat} {u : α} {v : Value} (K : Hp) (F : Hp → Hp) (hF : ∀ Hy, (F Hy).Perm (Hy ++ K)) (hH : H.Perm (Hx ++ K)) (hown : OwnV E e l a g cap Hx) (i : Nat)
    (hx : ev R x = .pointer (some ⟨g, off, none⟩)) (ho : off = i * E.sz) (hy : ev R y = v) (hv : v.cells.toList = E.enc u) (hs : (P.info? t).map (·.size) = some E.sz) (hi : i < l.length)
    (h : ∀ Hy, OwnV E e (l.set i u) a g cap Hy → opsG P n w0 S ops Q rest R (F Hy)) :
    opsG P n w0 S ops Q (⟨none, .store t x y, ty, pos, after, none⟩ :: rest) R H := by
  cases hown with
  | nil _ hl => subst hl; simp at hi
  | row _ _ c hrow =>
    refine o_perm (H' := (g, .cells c e (0, 0)) :: K) (by simpa using hH.symm) ?_
    refine o_storeRow (E := E) (u := u) 0 i hx ho hy hv hs rfl hrow hi fun c' hr => ?_
    exact opsG_perm (hF [(g, .cells c' e (0, 0))]).symm (h _ (.row g cap c' hr))

/-- A slice written out, its block known as a row alone. -/
theorem o_buildRow {ops : Array Oper} {rest : List Oper} {d : Tmp} {t e : TypeId} {bytes : Nat} (T : SlType P t e E bytes) (l : List α) (V : α → Value) (hV : ∀ x, (V x).cells.toList = E.enc x) {m : Nat} (hm : m = l.length) {parts : Array (Nat × Operand)} (hd : decide (d < n) = true)
    (hparts : (parts.map fun (i, x) => (i, ev R x)).toList = ((l.map V).zipIdx 0).map fun p => (p.2, p.1)) (hpos : 0 < l.length) (hsm : l.length * E.sz ≤ 16777216)
    (h : ∀ g c, Row E l c m → opsG P n w0 S ops Q rest (upd R d (.slice (some ⟨g, 0, none⟩) m m)) ((g, .cells c e (0, 0)) :: H)) :
    opsG P n w0 S ops Q (⟨some d, .buildSlice t m parts, ty, pos, after, none⟩ :: rest) R H :=
  o_buildSlice T l V hV hm hd hparts hpos hsm fun g => h g _ (by
    subst hm
    refine Row.lit l ?_
    have := E.pos
    have : l.length * 1 ≤ l.length * E.sz := Nat.mul_le_mul_left _ this
    simp only [maxLen]; omega)

/-- A guarded operation whose guard was itself skipped is skipped. -/
theorem o_guardU {ops : Array Oper} {o : Oper} {rest : List Oper} {j d : Nat} {want : Bool} (hg : o.guard = some (j, want)) (hj : (ops[j]?).bind (·.dst) = some d)
    (hb : R d = undef) (hd : dstOk n o = true) (hf : opsG P n w0 S ops Q rest (put R o.dst undef) H) :
    opsG P n w0 S ops Q (o :: rest) R H := by
  intro a w ha hw
  have hy : yielded ops a.tmps j = none := by
    have h1 := ha.get d
    rw [hb] at h1
    unfold yielded
    rw [hj]
    simp only [Option.bind_some]
    rw [Array.getD_eq_getD_getElem?] at h1
    cases h2 : a.tmps[d]? with
    | none => rfl
    | some u => rw [h2] at h1; simp at h1; subst h1; rfl
  have hw1 : Region.wanted o (yielded ops a.tmps) = false := by simp [Region.wanted, hg, hy]
  unfold wpList
  rw [hw1, if_neg (by simp)]
  exact hf _ _ (ha.put undef hd) hw

theorem q_guardU {ops : Array Oper} {o : Oper} {rest : List Oper} {K : Regs → Prop} {j d : Nat} {want : Bool} (hg : o.guard = some (j, want)) (hj : (ops[j]?).bind (·.dst) = some d) (hb : R d = undef)
    (h : quietG P w0 S H ops rest (put R o.dst undef) K) : quietG P w0 S H ops (o :: rest) R K := by
  refine ⟨undef, .inr ⟨?_, rfl⟩, h⟩
  unfold Region.wanted yieldedR
  rw [hg]
  simp [hj, hb, undef]

/-! ### Fields -/
theorem y_fieldAddr {s : TypeId} {x : Operand} {b o i k o' : Nat} {fs : Array Field} {f : Field} (hx : ev R x = .pointer (some ⟨b, o, none⟩)) (hu : P.underlying s = some (.struct fs)) (hf : fs[i]? = some f) (hk : f.offset = k) (hs : ∃ m, (P.info? f.type).map (·.size) = some (m + 1)) (ho : o + k = o') :
    Yields P w0 S H ⟨dst, .fieldAddr s x i, ty, pos, after, gd⟩ R (.pointer (some ⟨b, o', none⟩)) :=
  y_val fun w => by
    obtain ⟨m, hs⟩ := hs
    obtain ⟨it, hit, hsz⟩ : ∃ it, P.info? f.type = some it ∧ it.size = m + 1 := by
      cases h : P.info? f.type with
      | none => simp [h] at hs
      | some it => exact ⟨it, rfl, by simpa [h] using hs⟩
    subst hk
    subst ho
    simp [execOp, hx, Instr.fieldAt, run_underlying hu, hf, Instr.sureAddr, fieldPlace, sizeOf, typeInfo, hit, hsz, Addr.add_mid]

/-- A field of one cell of a struct that is a value. -/
theorem y_field1 {s : TypeId} {x : Operand} {i k : Nat} {fs : Array Field} {f : Field} {cs : Array Value} {d : TypeDesc} {v : Value} (hx : ev R x = .agg cs) (hu : P.underlying s = some (.struct fs)) (hf : fs[i]? = some f) (hk : f.offset = k) (he : P.underlying f.type = some d) (hd : d.isRow = false) (hv : cs[k]? = some v) :
    Yields P w0 S H ⟨dst, .field s x i, ty, pos, after, gd⟩ R v :=
  y_val fun w => by
    subst hk
    have hagg : (isAgg f.type).run P w = .ok false w := by
      unfold isAgg
      rw [Sem.run_bind, run_underlying he w]
      cases d <;> simp_all
    simp [execOp, hx, Instr.field, run_underlying hu, hf, asAgg, part, hagg, hv]

/-- A struct out of memory, whole. -/
theorem y_loadS {x : Operand} {t : TypeId} {b o : Nat} {c : Array Value} {d : TypeDesc} (hx : ev R x = .pointer (some ⟨b, o, none⟩)) (hu : P.underlying t = some d) (hd : d.isRow = true)
    (hi : (P.info? t).map (·.size) = some c.size) (hr : Rd w0 S H b o c.toList) : Yields P w0 S H ⟨dst, .load t x, ty, pos, after, gd⟩ R (.agg c) := by
  have := y_loadN (P := P) (dst := dst) (ty := ty) (pos := pos) (after := after) (gd := gd) hx hu hd (by rw [hi]; simp) hr
  simpa using this
theorem loadS {t : TypeId} {b o : Nat} {c : Array Value} {d : TypeDesc} {w : World} (hu : P.underlying t = some d) (hd : d.isRow = true) (hi : (P.info? t).map (·.size) = some c.size) (hr : w.rangeAt b o c.toList) : (loadVar t ⟨b, o, none⟩).run P w = .ok (.agg c) w := by
  have := run_loadVar_mid (P := P) w b o t c.toList d hr hu hd (by rw [hi]; simp)
  simpa using this

/-- A struct into a block of its own, whole. -/
theorem o_storeS {t : TypeId} {ops : Array Oper} {rest : List Oper} {x y : Operand} {b : Nat} {c c' : Array Value} {et : TypeId} (i : Nat) {H' : Hp}
    (hx : ev R x = .pointer (some ⟨b, 0, none⟩)) (hy : ev R y = .agg c') (hi : H[i]? = some (b, .cells c et (0, 0))) (hs : (P.info? t).map (·.size) = some c'.size) (hc : c.size = c'.size) (h1 : ∀ u ∈ c'.toList, u.oneCell' = true) (hH : H.set i (b, .cells c' et (0, 0)) = H')
    (h : opsG P n w0 S ops Q rest R H') : opsG P n w0 S ops Q (⟨none, .store t x y, ty, pos, after, none⟩ :: rest) R H := by
  subst hH
  refine o_store (v := .agg c') i c' hx hy hi hs (by simp [Value.cells, hc]) h1 ?_ h
  simp only [Value.cells, List.take_zero, List.nil_append, Nat.zero_add]
  rw [List.drop_eq_nil_of_le (by simp [hc])]
  simp
/-- One cell into a block of its own. -/
theorem o_storeC {t : TypeId} {ops : Array Oper} {rest : List Oper} {x y : Operand} {b off : Nat} {c c' : Array Value} {v : Value} {et : TypeId} (i : Nat) {H' : Hp}
    (hx : ev R x = .pointer (some ⟨b, off, none⟩)) (hy : ev R y = v) (hv : v.cells = #[v]) (h1 : v.oneCell' = true) (hi : H[i]? = some (b, .cells c et (0, 0))) (hs : (P.info? t).map (·.size) = some 1) (ho : off < c.size) (hc : c.setIfInBounds off v = c') (hH : H.set i (b, .cells c' et (0, 0)) = H')
    (h : opsG P n w0 S ops Q rest R H') : opsG P n w0 S ops Q (⟨none, .store t x y, ty, pos, after, none⟩ :: rest) R H := by
  subst hH
  subst hc
  refine o_store (v := v) i (c.setIfInBounds off v) hx hy hi (by rw [hs, hv]; rfl) (by rw [hv]; simp; omega) (by rw [hv]; intro u hu; simp at hu; subst hu; exact h1) ?_ h
  rw [hv, Array.toList_setIfInBounds, List.set_eq_take_append_cons_drop, if_pos (by simpa using ho)]
  simp
end
end Go.Proofs.Ytpbpenlceigddaa.Eng
