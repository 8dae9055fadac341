/- Proved: a region that draws its order may be walked in the text's own order, if its first operations are quiet and the others follow one by one; the conditions stand in the statements. -/
import Derived.Test.YtpbpenlceigddaaEngA
namespace Go.Proofs.Ytpbpenlceigddaa.Eng
open Go Go.RowKit

theorem execOp_congr {o : Oper} {r r' : Operand → Value} (hs : ∀ cs b, o.op ≠ .select cs b) (h : ∀ x ∈ o.op.operands.toList, r x = r' x) : execOp r o = execOp r' o := by
  have harr : ∀ {l : Array Operand}, (∀ x ∈ l.toList, r x = r' x) → l.map r = l.map r' := by
    intro l hl
    apply Array.ext'
    simpa using hl
  have hopt : ∀ {l : Option Operand}, (∀ x ∈ l.toList, r x = r' x) → l.map r = l.map r' := by
    intro l hl
    cases l <;> simp_all
  have hparts : ∀ {l : Array (Nat × Operand)}, (∀ x ∈ l.toList.map (·.2), r x = r' x) → (l.map fun (i, x) => (i, r x)) = (l.map fun (i, x) => (i, r' x)) := by
    intro l hl
    apply Array.ext'
    simp only [Array.toList_map]
    apply List.map_congr_left
    rintro ⟨i, x⟩ hx
    simp only [Prod.mk.injEq, true_and]
    exact hl x (List.mem_map.2 ⟨_, hx, rfl⟩)
  have hcall : ∀ {c : Call}, (∀ x ∈ c.operands.toList, r x = r' x) → ∀ t, resolve r c t = resolve r' c t := by
    intro c hc t
    have ha : c.args.map r = c.args.map r' := harr fun x hx => hc x (by simp [Call.operands]; right; simpa using hx)
    unfold resolve
    rw [ha]
    cases hcal : c.callee with
    | builtin b => rfl
    | invoke v m => simp only; rw [hc v (by simp [Call.operands, hcal])]
    | value f => simp only; rw [hc f (by simp [Call.operands, hcal])]
  cases hop : o.op with
  | select cs b => exact absurd hop (hs cs b)
  | call c => simp only [hop, Op.operands] at h; simp only [execOp, hop, hcall h]
  | go c => simp only [hop, Op.operands] at h; simp only [execOp, hop, hcall h]
  | defer c => simp only [hop, Op.operands] at h; simp only [execOp, hop, hcall h]
  | build t ps => simp only [hop, Op.operands] at h; simp only [execOp, hop]; rw [hparts (by simpa using h)]
  | buildSlice t l ps => simp only [hop, Op.operands] at h; simp only [execOp, hop]; rw [hparts (by simpa using h)]
  | makeFunc f a b =>
    simp only [hop, Op.operands] at h
    simp only [execOp, hop]
    rw [harr (l := a) (fun x hx => h x (by simp; left; simpa using hx)), harr (l := b) (fun x hx => h x (by simp; right; simpa using hx))]
  | makeMap t a => simp only [hop, Op.operands] at h; simp only [execOp, hop]; rw [hopt (l := a) (fun x hx => h x (by cases a <;> simp_all))]
  | slice t x l hh m =>
    simp only [hop, Op.operands] at h
    simp only [execOp, hop]
    rw [h x (by simp), hopt (l := l) (fun x hx => h x (by cases l <;> simp_all)), hopt (l := hh) (fun x hx => h x (by cases hh <;> simp_all)), hopt (l := m) (fun x hx => h x (by cases m <;> simp_all))]
  | _ => simp [hop, Op.operands] at h; simp [execOp, hop, h]

def yieldedR (ops : Array Oper) (R : Regs) (j : Nat) : Option Bool :=
  match (ops[j]?).bind (·.dst) with
  | some d => match R d with | .bool b => some b | _ => none
  | none => none

theorem Rep.yielded {n : Nat} {a : Act} {R : Regs} (h : Rep n a R) (ops : Array Oper) : yielded ops a.tmps = yieldedR ops R := by
  funext j
  unfold Go.yielded yieldedR
  cases hd : (ops[j]?).bind (·.dst) with
  | none => simp
  | some d =>
    have h1 := h.get d
    rw [Array.getD_eq_getD_getElem?] at h1
    simp only [Option.bind_some]
    cases h2 : a.tmps[d]? with
    | none => rw [h2] at h1; simp [undef] at h1; rw [← h1]
    | some v =>
      rw [h2] at h1
      have h3 : v = R d := by simpa using h1
      rw [← h3]
      cases v <;> rfl

section
variable (P : Program) (n : Nat) (w0 : World) (S : Nat → Prop) (H : Hp)

/-- In the state 'R' the operation 'o' comes to 'v', whatever the world. -/
def qY (ops : Array Oper) (o : Oper) (R : Regs) (v : Value) : Prop :=
  (Region.wanted o (yieldedR ops R) = true ∧ Yields P w0 S H o R v) ∨ (Region.wanted o (yieldedR ops R) = false ∧ v = undef)

def quietG (ops : Array Oper) : List Oper → Regs → (Regs → Prop) → Prop
  | [], R, K => K R
  | o :: l, R, K => ∃ v, qY P w0 S H ops o R v ∧ quietG ops l (put R o.dst v) K
end

def lex : List Oper → List Value → Regs → Regs
  | o :: l, v :: vs, R => lex l vs (put R o.dst v)
  | _, _, R => R

def tmpsOf (o : Oper) : List Nat := o.op.operands.toList.filterMap fun | .tmp t => some t | _ => none

/-- May the region be walked in the text's order, its first 'm' operations quiet, the others one behind the other? -/
def drawOk (l : List Oper) (m : Nat) : Bool :=
  decide (m ≤ l.length) &&
  (l.all fun o => (match o.op with | .select .. => false | _ => true)) &&
  ((List.range l.length).all fun i => match l[i]? with
    | some o => o.after.all fun e => !Region.binds .any e || decide (e.on < i)
    | none => true) &&
  ((List.range m).all fun i => (List.range m).all fun j => i == j || match l[i]?, l[j]? with
    | some o, some p => o.dst.isNone || o.dst != p.dst
    | _, _ => true) &&
  ((List.range m).all fun i => match l[i]? with
    | some o => (List.range m).all fun j => match l[j]? with
      | some p => (match p.dst with
        | some d => !(tmpsOf o).contains d || (decide (j < i) && o.after.any fun e => Region.binds .any e && e.on == j)
        | none => true) && (match o.guard with
        | some (g, _) => decide (g < m) && (g != j || (decide (j < i) && o.after.any fun e => Region.binds .any e && e.on == j))
        | none => true)
      | none => true
    | none => true) &&
  (m == l.length || (List.range m).all fun i => (List.range (m + 1)).any fun j => decide (i < j) && match l[j]? with
    | some p => p.after.any fun e => Region.binds .any e && e.on == i
    | none => false) &&
  ((List.range l.length).all fun t => decide (t ≤ m) || match l[t]? with
    | some p => p.after.any fun e => Region.binds .any e && e.on == t - 1
    | none => false)

structure DrawOk (l : List Oper) (m : Nat) : Prop where
  le : m ≤ l.length
  sel : ∀ o ∈ l, ∀ cs b, o.op ≠ .select cs b
  back : ∀ i o, l[i]? = some o → ∀ e ∈ o.after, Region.binds .any e = true → e.on < i
  uniq : ∀ i j o p d, i < m → j < m → l[i]? = some o → l[j]? = some p → o.dst = some d → p.dst = some d → i = j
  data : ∀ i j o p d, i < m → j < m → l[i]? = some o → l[j]? = some p → p.dst = some d → d ∈ tmpsOf o → j < i ∧ ∃ e ∈ o.after, Region.binds .any e = true ∧ e.on = j
  guard : ∀ i o g b, i < m → l[i]? = some o → o.guard = some (g, b) → g < i ∧ ∃ e ∈ o.after, Region.binds .any e = true ∧ e.on = g
  sink : m < l.length → ∀ i, i < m → ∃ j p, i < j ∧ j ≤ m ∧ l[j]? = some p ∧ ∃ e ∈ p.after, Region.binds .any e = true ∧ e.on = i
  chain : ∀ t p, m < t → l[t]? = some p → ∃ e ∈ p.after, Region.binds .any e = true ∧ e.on = t - 1

theorem DrawOk.of {l : List Oper} {m : Nat} (h : drawOk l m = true) : DrawOk l m := by
  unfold drawOk at h
  simp only [Bool.and_eq_true] at h
  obtain ⟨⟨⟨⟨⟨⟨h1, h2⟩, h3⟩, h4⟩, h5⟩, h6⟩, h7⟩ := h
  have any_ : ∀ {o : Oper} {j : Nat}, (o.after.any fun e => Region.binds .any e && e.on == j) = true → ∃ e ∈ o.after, Region.binds .any e = true ∧ e.on = j := by
    intro o j ha
    obtain ⟨e, he, hb⟩ := Array.any_eq_true'.1 ha
    simp only [Bool.and_eq_true, beq_iff_eq] at hb
    exact ⟨e, he, hb.1, hb.2⟩
  have lt_of : ∀ {i : Nat} {o : Oper}, l[i]? = some o → i < l.length := fun h => (List.getElem?_eq_some_iff.1 h).1
  refine ⟨of_decide_eq_true h1, ?_, ?_, ?_, ?_, ?_, ?_, ?_⟩
  · intro o ho cs b e
    have := List.all_eq_true.1 h2 o ho
    rw [e] at this
    cases this
  · intro i o ho e he hb
    have := List.all_eq_true.1 h3 i (List.mem_range.2 (lt_of ho))
    rw [ho] at this
    have := (Array.all_eq_true_iff_forall_mem.1 this) e he
    simpa [hb] using this
  · intro i j o p d hi hj ho hp hd hd'
    have := List.all_eq_true.1 (List.all_eq_true.1 h4 i (List.mem_range.2 hi)) j (List.mem_range.2 hj)
    rw [ho, hp] at this
    simpa [hd, hd'] using this
  · intro i j o p d hi hj ho hp hd hm
    have := List.all_eq_true.1 h5 i (List.mem_range.2 hi)
    rw [ho] at this
    have := List.all_eq_true.1 this j (List.mem_range.2 hj)
    rw [hp] at this
    simp only [hd, Bool.and_eq_true, Bool.or_eq_true, Bool.not_eq_true', decide_eq_true_eq] at this
    rcases this.1 with x | x
    · rw [List.contains_iff_mem.2 hm] at x; cases x
    · exact ⟨x.1, any_ x.2⟩
  · intro i o g b hi ho hg
    have h5i := List.all_eq_true.1 h5 i (List.mem_range.2 hi)
    rw [ho] at h5i
    have hgm : g < m := by
      have := List.all_eq_true.1 h5i i (List.mem_range.2 hi)
      rw [ho] at this
      simp only [hg, Bool.and_eq_true, decide_eq_true_eq] at this
      exact this.2.1
    have := List.all_eq_true.1 h5i g (List.mem_range.2 hgm)
    have hlt : g < l.length := Nat.lt_of_lt_of_le hgm (of_decide_eq_true h1)
    rw [List.getElem?_eq_getElem hlt] at this
    simp only [hg, Bool.and_eq_true, Bool.or_eq_true, decide_eq_true_eq, bne_self_eq_false, Bool.false_eq_true, false_or] at this
    exact ⟨this.2.2.1, any_ this.2.2.2⟩
  · intro hml i hi
    have h6' := h6
    simp only [Bool.or_eq_true, beq_iff_eq] at h6'
    rcases h6' with x | x
    · omega
    · obtain ⟨j, hj, hj2⟩ := List.any_eq_true.1 (List.all_eq_true.1 x i (List.mem_range.2 hi))
      have hj := List.mem_range.1 hj
      simp only [Bool.and_eq_true, decide_eq_true_eq] at hj2
      cases hp : l[j]? with
      | none => rw [hp] at hj2; cases hj2.2
      | some p => rw [hp] at hj2; exact ⟨j, p, hj2.1, by omega, hp, any_ hj2.2⟩
  · intro t p ht hp
    have := List.all_eq_true.1 h7 t (List.mem_range.2 (lt_of hp))
    rw [hp] at this
    simp only [Bool.or_eq_true, decide_eq_true_eq] at this
    rcases this with x | x
    · omega
    · exact any_ x

/-! ### The text's own order, taken apart -/
section
variable {P : Program} {n : Nat} {w0 : World} {S : Nat → Prop} {H : Hp}

theorem quietG_vals {ops : Array Oper} : ∀ (l : List Oper) (R : Regs) (K : Regs → Prop), quietG P w0 S H ops l R K →
    ∃ vs : List Value, vs.length = l.length ∧ K (lex l vs R) ∧ ∀ i o v, l[i]? = some o → vs[i]? = some v → qY P w0 S H ops o (lex (l.take i) (vs.take i) R) v
  | [], R, K, h => ⟨[], rfl, h, by simp⟩
  | o :: l, R, K, h => by
    obtain ⟨v, hv, hk⟩ := h
    obtain ⟨vs, hl, hK, hq⟩ := quietG_vals l _ K hk
    refine ⟨v :: vs, by simp [hl], hK, ?_⟩
    intro i p u hp hu
    cases i with
    | zero => simp at hp hu; subst hp hu; exact hv
    | succ i => simp at hp hu; exact hq i p u hp hu

/-- What the lexical state holds. -/
theorem lex_get : ∀ (l : List Oper) (vs : List Value) (R : Regs), vs.length = l.length → (∀ (i j : Nat) (o p : Oper) (d : Tmp), l[i]? = some o → l[j]? = some p → o.dst = some d → p.dst = some d → i = j) →
    (∀ (i : Nat) (o : Oper) (v : Value) (d : Tmp), l[i]? = some o → vs[i]? = some v → o.dst = some d → lex l vs R d = v) ∧ (∀ t, (∀ (i : Nat) (o : Oper), l[i]? = some o → o.dst ≠ some t) → lex l vs R t = R t)
  | [], vs, R, _, _ => ⟨by simp, by intro t _; simp [lex]⟩
  | o :: l, [], R, h, _ => by simp at h
  | o :: l, v :: vs, R, h, hu => by
    have hu' : ∀ (i j : Nat) (o p : Oper) (d : Tmp), l[i]? = some o → l[j]? = some p → o.dst = some d → p.dst = some d → i = j := by
      intro i j o p d ho hp hd hd'
      have := hu (i + 1) (j + 1) o p d (by simpa using ho) (by simpa using hp) hd hd'
      omega
    obtain ⟨h1, h2⟩ := lex_get l vs (put R o.dst v) (by simpa using h) hu'
    refine ⟨?_, ?_⟩
    · intro i p u d hp hv hd
      cases i with
      | zero =>
        simp at hp hv
        subst hp hv
        simp only [lex]
        rw [h2 d (fun i q hq e => by have := hu 0 (i + 1) o q d rfl (by simpa using hq) hd e; omega), hd]
        simp [put, upd]
      | succ i => simp at hp hv; exact h1 i p u d hp hv hd
    · intro t ht
      simp only [lex]
      rw [h2 t (fun i q hq => ht (i + 1) q (by simpa using hq))]
      have h0 := ht 0 o rfl
      cases hd : o.dst with
      | none => rfl
      | some d => simp only [put, upd]; rw [if_neg]; intro e; exact h0 (by rw [hd, e])

theorem countP_lt {p q : Nat → Bool} : ∀ (L : List Nat), (∀ x ∈ L, q x = true → p x = true) → (∃ x ∈ L, p x = true ∧ q x = false) → L.countP q < L.countP p
  | [], _, h => by simp at h
  | x :: L, h1, h2 => by
    have hle : L.countP q ≤ L.countP p := List.countP_mono_left fun y hy => h1 y (List.mem_cons_of_mem _ hy)
    rw [List.countP_cons, List.countP_cons]
    by_cases hx : p x = true ∧ q x = false
    · rw [if_neg (by simp [hx.2]), if_pos hx.1]; omega
    · have : L.countP q < L.countP p := countP_lt L (fun y hy => h1 y (List.mem_cons_of_mem _ hy)) (by
        obtain ⟨y, hy, hy2⟩ := h2
        rcases List.mem_cons.1 hy with rfl | hy
        · exact absurd hy2 hx
        · exact ⟨y, hy, hy2⟩)
      have : (if q x = true then 1 else 0) ≤ (if p x = true then 1 else 0) := by
        by_cases hq : q x = true
        · rw [if_pos hq, if_pos (h1 x (List.mem_cons_self ..) hq)]; exact Nat.le_refl _
        · rw [if_neg hq]; exact Nat.zero_le _
      omega

def left (ops : Array Oper) (listed : Array Bool) : Nat := (List.range ops.size).countP fun i => !listed.getD i true

theorem getD_set (listed : Array Bool) (i j : Nat) (hi : i < listed.size) (x : Bool) : (listed.setIfInBounds i true).getD j x = if i = j then true else listed.getD j x := by
  simp only [Array.getD_eq_getD_getElem?, Array.getElem?_setIfInBounds]
  by_cases e : i = j
  · subst e; simp [hi]
  · simp [e]

theorem left_set {ops : Array Oper} {listed : Array Bool} {i : Nat} (hi : i < ops.size) (hs : listed.size = ops.size) (hl : listed.getD i true = false) : left ops (listed.setIfInBounds i true) < left ops listed := by
  refine countP_lt _ (fun x _ hx => ?_) ⟨i, List.mem_range.2 hi, by simp [hl], ?_⟩
  · rw [getD_set _ _ _ (by omega)] at hx
    split at hx <;> simp_all
  · rw [getD_set _ _ _ (by omega)]; simp

theorem wpAny_inv {ops : Array Oper} {Q : Exit → Act → World → Prop} (I : Array Bool → Act → World → Prop) (hsz : ∀ listed a w, I listed a w → listed.size = ops.size)
    (hstep : ∀ listed a w i, I listed a w → i ∈ Region.ready .any ops listed → wpOp P ops Q i (fun a' w' => I (listed.setIfInBounds i true) a' w') a w)
    (hend : ∀ listed a w, I listed a w → Region.ready .any ops listed = [] → Q .normal a w) :
    ∀ (fuel : Nat) (listed : Array Bool) (a : Act) (w : World), I listed a w → left ops listed ≤ fuel → wpAny P .any ops Q fuel listed a w := by
  have mono : ∀ {i : Nat} {K K' : Act → World → Prop} {a : Act} {w : World}, (∀ a w, K a w → K' a w) → wpOp P ops Q i K a w → wpOp P ops Q i K' a w := by
    intro i K K' a w hk h
    unfold wpOp at *
    cases ho : ops[i]? with
    | none => rw [ho] at h; exact hk _ _ h
    | some o =>
      rw [ho] at h
      simp only at h ⊢
      split
      · rename_i hw
        rw [if_pos hw] at h
        refine h.imp ?_ id
        unfold Oper.wp Oper.upon
        intro h
        split at h
        · exact hk _ _ h
        · exact hk _ _ h
        · exact hk _ _ h
        · exact h.mono fun e w'' q => by cases e <;> first | exact hk _ _ q | exact q
        · exact h.mono fun v w'' q => hk _ _ q
        · exact h
        · exact h
      · rename_i hw; rw [if_neg hw] at h; exact hk _ _ h
  have lt_of : ∀ {listed : Array Bool} {i : Nat}, i ∈ Region.ready .any ops listed → i < ops.size ∧ listed.getD i true = false := by
    intro listed i hi
    obtain ⟨h1, o, h2, _⟩ := mem_ready.1 hi
    exact ⟨(Array.getElem?_eq_some_iff.1 h2).1, h1⟩
  intro fuel
  induction fuel with
  | zero =>
    intro listed a w hI hl
    have he : Region.ready .any ops listed = [] := by
      cases hr : Region.ready .any ops listed with
      | nil => rfl
      | cons i l =>
        obtain ⟨h1, h2⟩ := lt_of (listed := listed) (i := i) (by rw [hr]; simp)
        have := left_set h1 (hsz _ _ _ hI) h2
        omega
    exact ⟨he, hend _ _ _ hI he⟩
  | succ fuel ih =>
    intro listed a w hI hl
    refine ⟨fun h => hend _ _ _ hI h, fun i hi => mono (fun a' w' h => ih _ a' w' h ?_) (hstep listed a w i hI hi)⟩
    obtain ⟨h1, h2⟩ := lt_of hi
    have := left_set h1 (hsz _ _ _ hI) h2
    omega

theorem c_draw {l : List Oper} {id : Nat} {Q : Exit → Regs → Hp → Prop} {R : Regs} (m : Nat) (hm : P.follows .mixedOrders = true) (hck : (drawOk l m && l.all (dstOk n)) = true)
    (h : quietG P w0 S H l.toArray (l.take m) R fun R' => opsG P n w0 S l.toArray Q (l.drop m) R' H) : codeG P n w0 S (.region id l.toArray true) Q R H := by
  simp only [Bool.and_eq_true] at hck
  obtain ⟨hck, hdst⟩ := hck
  have ok := DrawOk.of hck
  have hdst : ∀ o ∈ l, dstOk n o = true := fun o ho => List.all_eq_true.1 hdst o ho
  obtain ⟨vs, hlen, hK, hq⟩ := quietG_vals _ _ _ h
  have hlm : (l.take m).length = m := by simp [ok.le]
  rw [hlm] at hlen
  have tk : ∀ {i : Nat}, i < m → (l.take m)[i]? = l[i]? := fun hi => by simp [hi]
  -- the lexical state ahead of the operation i
  have lexAt : ∀ i, i ≤ m → (∀ k o v d, k < i → l[k]? = some o → vs[k]? = some v → o.dst = some d → lex ((l.take m).take i) (vs.take i) R d = v) ∧
      (∀ t, (∀ k o, k < i → l[k]? = some o → o.dst ≠ some t) → lex ((l.take m).take i) (vs.take i) R t = R t) := by
    intro i hi
    have e : (l.take m).take i = l.take i := by rw [List.take_take]; congr 1; omega
    rw [e]
    obtain ⟨h1, h2⟩ := lex_get (l.take i) (vs.take i) R (by simp; have := ok.le; omega) (by
      intro a b o p d ho hp hd hd'
      have ha : a < i := by have := (List.getElem?_eq_some_iff.1 ho).1; simp at this; omega
      have hb : b < i := by have := (List.getElem?_eq_some_iff.1 hp).1; simp at this; omega
      exact ok.uniq a b o p d (by omega) (by omega) (by simpa [ha] using ho) (by simpa [hb] using hp) hd hd')
    refine ⟨fun k o v d hk ho hv hd => h1 k o v d (by simpa [hk] using ho) (by simpa [hk] using hv) hd, fun t ht => h2 t fun k o ho => ?_⟩
    have hk : k < i := by have := (List.getElem?_eq_some_iff.1 ho).1; simp at this; omega
    exact ht k o hk (by simpa [hk] using ho)
  intro a w ha hw
  refine wp_region_any hm ?_
  let ops := l.toArray
  have hops : ∀ i : Nat, ops[i]? = l[i]? := fun i => by simp [ops]
  have hsize : ops.size = l.length := by simp [ops]
  let closed (listed : Array Bool) : Prop := ∀ (i : Nat) (o : Oper), l[i]? = some o → listed.getD i true = true → ∀ e ∈ o.after, Region.binds .any e = true → listed.getD e.on false = true
  let HI (listed : Array Bool) (a : Act) (w : World) : Prop := listed.size = ops.size ∧ ∃ Rc, Rep n a Rc ∧ St w0 S H w ∧ closed listed ∧ (∀ t, m ≤ t → t < l.length → listed.getD t true = false) ∧
    (∀ k o v d, k < m → listed.getD k true = true → l[k]? = some o → vs[k]? = some v → o.dst = some d → Rc d = v) ∧ (∀ t, (∀ k o, k < m → listed.getD k true = true → l[k]? = some o → o.dst ≠ some t) → Rc t = R t)
  let TI (listed : Array Bool) (a : Act) (w : World) : Prop := listed.size = ops.size ∧ ∃ t, m < t ∧ t ≤ l.length ∧ (∀ k, k < t → listed.getD k true = true) ∧ (∀ k, t ≤ k → k < l.length → listed.getD k true = false) ∧
    wpList P ops (lift n w0 S Q) (l.drop t) a w
  have flip : ∀ {listed : Array Bool} {i : Nat}, listed.size = ops.size → i < l.length → (listed.getD i false = true ↔ listed.getD i true = true) := by
    intro listed i hs hi
    have : i < listed.size := by omega
    simp [this]
  have lt_of : ∀ {i : Nat} {o : Oper}, l[i]? = some o → i < l.length := fun h => (List.getElem?_eq_some_iff.1 h).1
  -- behind all of the head the state is the lexical one
  have headDone : ∀ {listed : Array Bool} {Rc : Regs}, (∀ k, k < m → listed.getD k true = true) →
      (∀ k o v d, k < m → listed.getD k true = true → l[k]? = some o → vs[k]? = some v → o.dst = some d → Rc d = v) → (∀ t, (∀ k o, k < m → listed.getD k true = true → l[k]? = some o → o.dst ≠ some t) → Rc t = R t) →
      Rc = lex (l.take m) vs R := by
    intro listed Rc hall h1 h2
    obtain ⟨g1, g2⟩ := lexAt m (Nat.le_refl _)
    have e1 : (l.take m).take m = l.take m := by rw [List.take_take]; congr 1; omega
    have e2 : vs.take m = vs := List.take_of_length_le (by omega)
    rw [e1, e2] at g1 g2
    funext t
    by_cases ht : ∃ k o, k < m ∧ l[k]? = some o ∧ o.dst = some t
    · obtain ⟨k, o, hk, ho, hd⟩ := ht
      have hv : vs[k]? = some (vs[k]'(by omega)) := List.getElem?_eq_getElem _
      rw [h1 k o _ t hk (hall k hk) ho hv hd, g1 k o _ t hk ho hv hd]
    · have hn : ∀ k o, k < m → l[k]? = some o → o.dst ≠ some t := fun k o hk ho hd => ht ⟨k, o, hk, ho, hd⟩
      rw [h2 t (fun k o hk _ ho => hn k o hk ho), g2 t hn]
  refine wpAny_inv (fun listed a w => HI listed a w ∨ TI listed a w) ?_ ?_ ?_ _ _ _ _ (.inl ?_) ?_
  · rintro listed a w (⟨h, _⟩ | ⟨h, _⟩) <;> exact h
  · rintro listed a w i (⟨hs, Rc, hr, hst, hcl, htl, hv1, hv2⟩ | ⟨hs, t, ht1, ht2, hd1, hd2, hwp⟩) hi
    · obtain ⟨hun, o, ho, haft⟩ := mem_ready.1 hi
      rw [hops] at ho
      have hil := lt_of ho
      have aft : ∀ e ∈ o.after, Region.binds .any e = true → listed.getD e.on true = true := fun e he hb => by
        have h1 := haft e he hb
        have := ok.back i o ho e he hb
        exact (flip hs (by omega)).1 h1
      by_cases him : i < m
      · -- an operation of the head
        have hvi : vs[i]? = some (vs[i]'(by omega)) := List.getElem?_eq_getElem _
        have hqi := hq i o _ (by rw [tk him]; exact ho) hvi
        obtain ⟨g1, g2⟩ := lexAt i (by omega)
        generalize hRi : lex ((l.take m).take i) (vs.take i) R = Ri at hqi g1 g2
        have same : ∀ d, (∀ k p, k < m → l[k]? = some p → p.dst = some d → k < i ∧ listed.getD k true = true) → Rc d = Ri d := by
          intro d hd
          by_cases hx : ∃ k p, k < m ∧ l[k]? = some p ∧ p.dst = some d
          · obtain ⟨k, p, hk, hp, hpd⟩ := hx
            obtain ⟨hki, hkl⟩ := hd k p hk hp hpd
            have hvk : vs[k]? = some (vs[k]'(by omega)) := List.getElem?_eq_getElem _
            rw [hv1 k p _ d hk hkl hp hvk hpd, g1 k p _ d hki hp hvk hpd]
          · have hn : ∀ k p, k < m → l[k]? = some p → p.dst ≠ some d := fun k p hk hp e => hx ⟨k, p, hk, hp, e⟩
            rw [hv2 d (fun k p hk _ hp => hn k p hk hp), g2 d (fun k p hk hp => hn k p (by omega) hp)]
        have hop : ∀ x ∈ o.op.operands.toList, ev Rc x = ev Ri x := by
          intro x hx
          cases x with
          | tmp d =>
            refine same d fun k p hk hp hpd => ?_
            obtain ⟨h1, e, he, hb, hon⟩ := ok.data i k o p d him hk ho hp hpd (by unfold tmpsOf; exact List.mem_filterMap.2 ⟨_, hx, rfl⟩)
            exact ⟨h1, hon ▸ aft e he hb⟩
          | _ => rfl
        have hexec : execOp (ev Rc) o = execOp (ev Ri) o := execOp_congr (ok.sel o (List.mem_of_getElem? ho)) hop
        have hwant : Region.wanted o (yieldedR ops Rc) = Region.wanted o (yieldedR ops Ri) := by
          unfold Region.wanted
          cases hg : o.guard with
          | none => rfl
          | some gb =>
            obtain ⟨g, b⟩ := gb
            obtain ⟨h1, e, he, hb, hon⟩ := ok.guard i o g b him ho hg
            have hyy : yieldedR ops Rc g = yieldedR ops Ri g := by
              unfold yieldedR
              cases hd : (ops[g]?).bind (·.dst) with
              | none => rfl
              | some d =>
                simp only
                rw [same d]
                intro k p hk hp hpd
                obtain ⟨q, hq1, hq2⟩ := Option.bind_eq_some_iff.1 hd
                rw [hops] at hq1
                obtain rfl := ok.uniq k g p q d hk (by omega) hp hq1 hpd hq2
                exact ⟨h1, hon ▸ aft e he hb⟩
            simp only [hyy]
        -- the step
        have next : ∀ w', St w0 S H w' → HI (listed.setIfInBounds i true) (a.put o.dst (vs[i]'(by omega))) w' := by
          intro w' hw'
          have hsi : i < listed.size := by omega
          refine ⟨by simp [hs], _, hr.put _ (hdst o (List.mem_of_getElem? ho)), hw', ?_, ?_, ?_, ?_⟩
          · intro k p hp hk e he hb
            have hkl := lt_of hp
            rw [getD_set _ _ _ hsi] at hk ⊢
            by_cases h1 : i = k
            · subst h1
              obtain rfl : p = o := Option.some.inj (hp.symm.trans ho)
              split
              · rfl
              · exact haft e he hb
            · rw [if_neg h1] at hk
              split
              · rfl
              · exact hcl k p hp hk e he hb
          · intro t ht htl'
            rw [getD_set _ _ _ hsi, if_neg (by omega)]
            exact htl t ht htl'
          · intro k p v d hk hkl hp hv hd
            rw [getD_set _ _ _ hsi] at hkl
            by_cases h1 : i = k
            · subst h1
              obtain rfl : p = o := Option.some.inj (hp.symm.trans ho)
              obtain rfl : v = vs[i]'(by omega) := Option.some.inj (hv.symm.trans hvi)
              rw [hd]; simp [put, upd]
            · rw [if_neg h1] at hkl
              have := hv1 k p v d hk hkl hp hv hd
              cases hod : o.dst with
              | none => exact this
              | some d' =>
                simp only [put, upd]
                rw [if_neg]
                · exact this
                · intro e2; subst e2; exact h1 (ok.uniq i k o p d him hk ho hp hod hd)
          · intro t ht
            have h0 : o.dst ≠ some t := ht i o him (by rw [getD_set _ _ _ hsi]; simp) ho
            have := hv2 t fun k p hk hkl hp => ht k p hk (by rw [getD_set _ _ _ hsi]; split <;> first | rfl | exact hkl) hp
            cases hod : o.dst with
            | none => exact this
            | some d' =>
              simp only [put, upd]
              rw [if_neg]
              · exact this
              · intro e2; exact h0 (by rw [hod, e2])
        unfold wpOp
        rw [hops, ho]
        simp only
        have hy := hr.yielded ops
        rw [hy, hwant]
        rcases hqi with ⟨hw1, hyv⟩ | ⟨hw1, hyv⟩
        · rw [if_pos hw1]
          left
          have h1 := hyv w hst
          unfold Oper.wp
          rw [hr.ev, hexec]
          generalize (execOp (ev Ri) o).run P w = r at h1
          cases r with
          | ok x w' =>
            cases x <;> simp only [Oper.quietUpon] at h1 <;> simp only [Oper.upon]
            case value u => obtain ⟨rfl, rfl⟩ := h1; exact .inl (next _ hst)
            case skip => obtain ⟨rfl, h2⟩ := h1; rw [← h2]; exact .inl (next _ hst)
            case enter f args =>
              obtain ⟨rfl, hc⟩ := h1
              exact hc.mono fun e w'' ⟨he, hs'⟩ => by subst he; exact .inl (next _ hs')
          | halt x w' => simp only [Oper.quietUpon] at h1
        · have hw2 : Region.wanted o (yieldedR ops Ri) = false := hw1
          rw [if_neg (by simp [hw2]), ← hyv]
          exact .inl (next _ hst)
      · -- the first one behind the head
        have hmi : i = m := by
          rcases Nat.lt_or_ge m i with hgt | hle
          · obtain ⟨e, he, hb, hon⟩ := ok.chain i o hgt ho
            have h1 := aft e he hb
            rw [hon, htl (i - 1) (by omega) (by omega)] at h1
            cases h1
          · omega
        subst hmi
        have hall : ∀ k, k < i → listed.getD k true = true := by
          have key : ∀ d k, k < i → i - k ≤ d → listed.getD k true = true := by
            intro d
            induction d with
            | zero => intro k hk hd; omega
            | succ d ih =>
              intro k hk hd
              obtain ⟨j, p, hkj, hji, hp, e, he, hb, hon⟩ := ok.sink hil k hk
              by_cases hj : j = i
              · subst hj
                obtain rfl : p = o := Option.some.inj (hp.symm.trans ho)
                exact hon ▸ aft e he hb
              · have h1 := hcl j p hp (ih j (by omega) (by omega)) e he hb
                rw [hon] at h1
                exact (flip hs (by omega)).1 h1
          exact fun k hk => key (i - k) k hk (Nat.le_refl _)
        have hRc := headDone hall hv1 hv2
        subst hRc
        have hwp := hK a w hr hst
        have hdr : l.drop i = o :: l.drop (i + 1) := by
          rw [List.drop_eq_getElem_cons hil]
          congr 1
          exact (List.getElem?_eq_some_iff.1 ho).2
        rw [hdr] at hwp
        unfold wpList at hwp
        unfold wpOp
        rw [hops, ho]
        simp only
        have next : ∀ a' w', wpList P ops (lift n w0 S Q) (l.drop (i + 1)) a' w' → TI (listed.setIfInBounds i true) a' w' := by
          intro a' w' h1
          have hsi : i < listed.size := by omega
          refine ⟨by simp [hs], i + 1, by omega, by omega, ?_, ?_, h1⟩
          · intro k hk
            rw [getD_set _ _ _ hsi]
            split
            · rfl
            · exact hall k (by omega)
          · intro k hk hkl
            rw [getD_set _ _ _ hsi, if_neg (by omega)]
            exact htl k (by omega) hkl
        split
        · rename_i hw1
          rw [if_pos hw1] at hwp
          refine hwp.imp ?_ (fun x => x)
          unfold Oper.wp Oper.upon
          intro h1
          split at h1
          · exact .inr (next _ _ h1)
          · exact .inr (next _ _ h1)
          · exact .inr (next _ _ h1)
          · exact h1.mono fun e w'' q => by cases e <;> first | exact .inr (next _ _ q) | exact q
          · exact h1.mono fun v w'' q => .inr (next _ _ q)
          · exact h1
          · exact h1
        · rename_i hw1
          rw [if_neg hw1] at hwp
          exact .inr (next _ _ hwp)
    · obtain ⟨hun, o, ho, haft⟩ := mem_ready.1 hi
      rw [hops] at ho
      have hil := lt_of ho
      have hit : i = t := by
        rcases Nat.lt_or_ge i t with h1 | h1
        · rw [hd1 i h1] at hun; cases hun
        · rcases Nat.lt_or_ge t i with h2 | h2
          · obtain ⟨e, he, hb, hon⟩ := ok.chain i o (by omega) ho
            have h3 := (flip hs (by omega)).1 (haft e he hb)
            rw [hon, hd2 (i - 1) (by omega) (by omega)] at h3
            cases h3
          · omega
      subst hit
      have hdr : l.drop i = o :: l.drop (i + 1) := by
        rw [List.drop_eq_getElem_cons hil]
        congr 1
        exact (List.getElem?_eq_some_iff.1 ho).2
      rw [hdr] at hwp
      unfold wpList at hwp
      unfold wpOp
      rw [hops, ho]
      simp only
      have next : ∀ a' w', wpList P ops (lift n w0 S Q) (l.drop (i + 1)) a' w' → TI (listed.setIfInBounds i true) a' w' := by
        intro a' w' h1
        have hsi : i < listed.size := by omega
        refine ⟨by simp [hs], i + 1, by omega, by omega, ?_, ?_, h1⟩
        · intro k hk
          rw [getD_set _ _ _ hsi]
          split
          · rfl
          · exact hd1 k (by omega)
        · intro k hk hkl
          rw [getD_set _ _ _ hsi, if_neg (by omega)]
          exact hd2 k (by omega) hkl
      split
      · rename_i hw1
        rw [if_pos hw1] at hwp
        refine hwp.imp ?_ (fun x => x)
        unfold Oper.wp Oper.upon
        intro h1
        split at h1
        · exact .inr (next _ _ h1)
        · exact .inr (next _ _ h1)
        · exact .inr (next _ _ h1)
        · exact h1.mono fun e w'' q => by cases e <;> first | exact .inr (next _ _ q) | exact q
        · exact h1.mono fun v w'' q => .inr (next _ _ q)
        · exact h1
        · exact h1
      · rename_i hw1
        rw [if_neg hw1] at hwp
        exact .inr (next _ _ hwp)
  · -- nothing more to do
    have allOf : ∀ {listed : Array Bool}, listed.size = ops.size → Region.ready .any ops listed = [] → ∀ k, k < l.length → listed.getD k true = true := by
      intro listed hs hr k
      induction k using Nat.strongRecOn with
      | _ k ih =>
        intro hk
        cases hx : listed.getD k true with
        | true => rfl
        | false =>
          exfalso
          have : k ∈ Region.ready .any ops listed := mem_ready.2 ⟨hx, l[k], by rw [hops]; exact List.getElem?_eq_getElem hk, fun e he hb => by
            have hlt := ok.back k _ (List.getElem?_eq_getElem hk) e he hb
            exact (flip hs (by omega)).2 (ih e.on hlt (by omega))⟩
          rw [hr] at this
          cases this
    rintro listed a w (⟨hs, Rc, hr, hst, hcl, htl, hv1, hv2⟩ | ⟨hs, t, ht1, ht2, hd1, hd2, hwp⟩) he
    · have hall := allOf hs he
      have hmm : m = l.length := by
        rcases Nat.lt_or_ge m l.length with h1 | h1
        · exact absurd (hall m h1) (by rw [htl m (Nat.le_refl _) h1]; simp)
        · have := ok.le; omega
      have hRc := headDone (fun k hk => hall k (by omega)) hv1 hv2
      subst hRc
      have := hK a w hr hst
      rw [hmm, List.drop_length] at this
      exact this
    · have hall := allOf hs he
      have : t = l.length := by
        rcases Nat.lt_or_ge t l.length with h1 | h1
        · exact absurd (hall t h1) (by rw [hd2 t (Nat.le_refl _) h1]; simp)
        · omega
      rw [this, List.drop_length] at hwp
      exact hwp
  · refine ⟨by simp [ops], R, ⟨ha.size, ha.defers, ha.get⟩, hw.drew, ?_, ?_, ?_, fun t _ => rfl⟩
    · intro i o ho hli
      have := lt_of ho
      simp [this] at hli
    · intro t _ htl'
      simp [htl']
    · intro k o v d hk hli
      have := ok.le
      have : k < l.length := by omega
      simp [this] at hli
  · exact Nat.le_trans List.countP_le_length (by simp)

/-! ### Its rules -/
variable {ops : Array Oper} {R : Regs} {K : Regs → Prop} {o : Oper} {rest : List Oper}
theorem q_nil (h : K R) : quietG P w0 S H ops [] R K := h
theorem q_y {v : Value} (hg : o.guard = none) (hy : Yields P w0 S H o R v) (h : quietG P w0 S H ops rest (put R o.dst v) K) : quietG P w0 S H ops (o :: rest) R K :=
  ⟨v, .inl ⟨by simp [Region.wanted, hg], hy⟩, h⟩
theorem Yields.unguard {v : Value} (hy : Yields P w0 S H { o with guard := none } R v) : Yields P w0 S H o R v := hy
theorem q_guardT {j d : Nat} {want : Bool} (hg : o.guard = some (j, want)) (hj : (ops[j]?).bind (·.dst) = some d) (hb : R d = .bool want)
    (h : quietG P w0 S H ops ({ o with guard := none } :: rest) R K) : quietG P w0 S H ops (o :: rest) R K := by
  obtain ⟨v, hq, hk⟩ := h
  refine ⟨v, .inl ⟨?_, ?_⟩, hk⟩
  · unfold Region.wanted yieldedR
    rw [hg]
    simp [hj, hb]
  · rcases hq with ⟨_, hy⟩ | ⟨hw, _⟩
    · exact hy
    · simp [Region.wanted] at hw
theorem q_guardF {j d : Nat} {want b : Bool} (hg : o.guard = some (j, want)) (hj : (ops[j]?).bind (·.dst) = some d) (hb : R d = .bool b) (hn : b = !want)
    (h : quietG P w0 S H ops rest (put R o.dst undef) K) : quietG P w0 S H ops (o :: rest) R K := by
  refine ⟨undef, .inr ⟨?_, rfl⟩, h⟩
  unfold Region.wanted yieldedR
  rw [hg]
  subst hn
  cases want <;> simp [hj, hb]
end

/-- A join: what holds there is named. -/
theorem c_cut {P : Program} {n : Nat} {w0 : World} {S : Nat → Prop} {Q : Exit → Regs → Hp → Prop} {R : Regs} {H : Hp} {x y : Code} (J : Regs → Hp → Prop) (h : codeG P n w0 S x (thenK J Q) R H) (k : ∀ R H, J R H → codeG P n w0 S y Q R H) : codeG P n w0 S (.seq x y) Q R H := by
  intro a w ha hw
  refine wp_seq (Code.wp_mono (fun e a' w' q => ?_) (h a w ha hw))
  obtain ⟨R', H', hr, hs, hq⟩ := q
  cases e <;> first | exact k _ _ hq a' w' hr hs | exact ⟨R', H', hr, hs, hq⟩
end Go.Proofs.Ytpbpenlceigddaa.Eng
