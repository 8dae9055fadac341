/- Proved: a region that draws its order may be walked quiet operations first, the others one behind the other, where the others form a chain and each quiet operation stays quiet as long as it may be due; the conditions stand in the statements. -/
import Derived.Test.YtpbpenlceigddaaEngG
namespace Go.Proofs.Ytpbpenlceigddaa.Eng
open Go Go.RowKit

def edge (o : Oper) (j : Nat) : Bool := o.after.any fun e => Region.binds .any e && e.on == j
def dstAt (l : List Oper) (i : Nat) : Option Tmp := (l[i]?).bind (·.dst)

/-- hds: the quiet ones, tl: the others, el: those of the quiet ones that come ahead of the first of the others. -/
def drawOkF (l : List Oper) (hds tl el : List Nat) : Bool :=
  (l.all fun o => (match o.op with | .select .. => false | _ => true)) &&
  ((List.range l.length).all fun i => match l[i]? with
    | some o => (match o.guard with | some (g, _) => hds.contains g && decide (g < i) && edge o g | none => true)
    | none => true) &&
  ((List.range l.length).all fun i => match l[i]? with
    | some o => o.after.all fun e => !Region.binds .any e || decide (e.on < i)
    | none => true) &&
  ((List.range l.length).all fun i => hds.contains i != tl.contains i) &&
  (hds.all fun i => decide (i < l.length)) && (tl.all fun i => decide (i < l.length)) && decide (hds.Pairwise (· < ·)) && decide tl.Nodup &&
  (hds.all fun i => (List.range l.length).all fun j => i == j || (dstAt l i).isNone || dstAt l i != dstAt l j) &&
  ((List.range l.length).all fun i => match l[i]? with
    | some o => (List.range l.length).all fun j => match l[j]? with
      | some p => (match p.dst with
        | some d => !(tmpsOf o).contains d || (if tl.contains j then tl.contains i || edge p i else decide (j < i) && edge o j)
        | none => true)
      | none => true
    | none => true) &&
  ((List.range tl.length).all fun k => match tl[k]?, tl[k + 1]? with
    | some t, some t' => (match l[t']? with | some p => edge p t | none => false)
    | _, _ => true) &&
  (el.all fun i => (List.range l.length).any fun j => decide (i < j) && (tl.head? == some j || el.contains j) && (match l[j]? with | some p => edge p i | none => false))

def Edge (o : Oper) (j : Nat) : Prop := ∃ e ∈ o.after, Region.binds .any e = true ∧ e.on = j
theorem edge_of {o : Oper} {j : Nat} (h : edge o j = true) : Edge o j := by
  obtain ⟨e, he, hb⟩ := Array.any_eq_true'.1 h
  simp only [Bool.and_eq_true, beq_iff_eq] at hb
  exact ⟨e, he, hb.1, hb.2⟩

structure DrawOkF (l : List Oper) (hds tl el : List Nat) : Prop where
  guard : ∀ i o g b, l[i]? = some o → o.guard = some (g, b) → g ∈ hds ∧ g < i ∧ Edge o g
  sel : ∀ o ∈ l, ∀ cs b, o.op ≠ .select cs b
  back : ∀ i o, l[i]? = some o → ∀ e ∈ o.after, Region.binds .any e = true → e.on < i
  part : ∀ i, i < l.length → (i ∈ hds ∧ i ∉ tl) ∨ (i ∈ tl ∧ i ∉ hds)
  hlt : ∀ i ∈ hds, i < l.length
  tlt : ∀ i ∈ tl, i < l.length
  srt : hds.Pairwise (· < ·)
  nd : tl.Nodup
  uniq : ∀ i j d, i ∈ hds → j < l.length → i ≠ j → dstAt l i = some d → dstAt l j ≠ some d
  dataH : ∀ i j o d, l[i]? = some o → j ∈ hds → dstAt l j = some d → d ∈ tmpsOf o → j < i ∧ Edge o j
  dataT : ∀ i j o p d, l[i]? = some o → l[j]? = some p → i ∈ hds → j ∈ tl → p.dst = some d → d ∈ tmpsOf o → Edge p i
  chain : ∀ k t t' p, tl[k]? = some t → tl[k + 1]? = some t' → l[t']? = some p → Edge p t
  early : ∀ i ∈ el, ∃ j p, i < j ∧ j < l.length ∧ (tl.head? = some j ∨ j ∈ el) ∧ l[j]? = some p ∧ Edge p i

theorem DrawOkF.of {l : List Oper} {hds tl el : List Nat} (h : drawOkF l hds tl el = true) : DrawOkF l hds tl el := by
  unfold drawOkF at h
  simp only [Bool.and_eq_true] at h
  obtain ⟨⟨⟨⟨⟨⟨⟨⟨⟨⟨⟨h1, h0⟩, h2⟩, h3⟩, h4⟩, h5⟩, h6⟩, h7⟩, h8⟩, h9⟩, h10⟩, h11⟩ := h
  have lt_of : ∀ {i : Nat} {o : Oper}, l[i]? = some o → i < l.length := fun h => (List.getElem?_eq_some_iff.1 h).1
  have part : ∀ i, i < l.length → (i ∈ hds ∧ i ∉ tl) ∨ (i ∈ tl ∧ i ∉ hds) := by
    intro i hi
    have := List.all_eq_true.1 h3 i (List.mem_range.2 hi)
    by_cases a : i ∈ hds <;> by_cases b : i ∈ tl <;> simp_all
  have hlt : ∀ i ∈ hds, i < l.length := fun i hi => of_decide_eq_true (List.all_eq_true.1 h4 i hi)
  have tlt : ∀ i ∈ tl, i < l.length := fun i hi => of_decide_eq_true (List.all_eq_true.1 h5 i hi)
  have notT : ∀ {j}, j ∈ hds → tl.contains j = false := by
    intro j hj
    rcases part j (hlt j hj) with x | x
    · simpa using x.2
    · exact absurd hj x.2
  have isT : ∀ {j}, j ∈ tl → tl.contains j = true := fun hj => List.contains_iff_mem.2 hj
  refine ⟨?_, ?_, ?_, part, hlt, tlt, of_decide_eq_true h6, of_decide_eq_true h7, ?_, ?_, ?_, ?_, ?_⟩
  · intro i o g b ho hg
    have := List.all_eq_true.1 h0 i (List.mem_range.2 (lt_of ho))
    rw [ho] at this
    simp only [hg, Bool.and_eq_true, decide_eq_true_eq] at this
    exact ⟨List.contains_iff_mem.1 this.1.1, this.1.2, edge_of this.2⟩
  · intro o ho cs b e
    have := List.all_eq_true.1 h1 o ho
    rw [e] at this
    simp at this
  · intro i o ho e he hb
    have := List.all_eq_true.1 h2 i (List.mem_range.2 (lt_of ho))
    rw [ho] at this
    have := (Array.all_eq_true_iff_forall_mem.1 this) e he
    simpa [hb] using this
  · intro i j d hi hj hne hd hd'
    have := List.all_eq_true.1 (List.all_eq_true.1 h8 i hi) j (List.mem_range.2 hj)
    rw [hd, hd'] at this
    simp at this
    exact hne this
  · intro i j o d ho hj hd hm
    have := List.all_eq_true.1 h9 i (List.mem_range.2 (lt_of ho))
    rw [ho] at this
    have := List.all_eq_true.1 this j (List.mem_range.2 (hlt j hj))
    unfold dstAt at hd
    cases hp : l[j]? with
    | none => rw [hp] at hd; cases hd
    | some p =>
      rw [hp] at this hd
      have hd : p.dst = some d := hd
      simp only [hd, notT hj, List.contains_iff_mem.2 hm, Bool.not_true, Bool.false_or, if_neg, Bool.false_eq_true, not_false_eq_true, Bool.and_eq_true, decide_eq_true_eq] at this
      exact ⟨this.1, edge_of this.2⟩
  · intro i j o p d ho hp hi hj hd hm
    have := List.all_eq_true.1 h9 i (List.mem_range.2 (lt_of ho))
    rw [ho] at this
    have := List.all_eq_true.1 this j (List.mem_range.2 (lt_of hp))
    rw [hp] at this
    simp only [hd, isT hj, notT hi, List.contains_iff_mem.2 hm, Bool.not_true, Bool.false_or, if_true] at this
    exact edge_of this
  · intro k t t' p hk hk' hp
    have := List.all_eq_true.1 h10 k (List.mem_range.2 (List.getElem?_eq_some_iff.1 hk).1)
    rw [hk, hk'] at this
    simp only [hp] at this
    exact edge_of this
  · intro i hi
    obtain ⟨j, hj, hj2⟩ := List.any_eq_true.1 (List.all_eq_true.1 h11 i hi)
    have hj := List.mem_range.1 hj
    simp only [Bool.and_eq_true, decide_eq_true_eq, Bool.or_eq_true, beq_iff_eq] at hj2
    cases hp : l[j]? with
    | none => rw [hp] at hj2; cases hj2.2
    | some p =>
      rw [hp] at hj2
      exact ⟨j, p, hj2.1.1, hj, hj2.1.2.imp id (fun x => List.contains_iff_mem.1 x), hp, edge_of hj2.2⟩

section
variable (P : Program) (n : Nat) (w0 : World) (S : Nat → Prop)

def quietF (ops : Array Oper) (H : Hp) (l : List Oper) (el : List Nat) : List Nat → Regs → List (Oper × Regs × Value) → (Regs → List (Oper × Regs × Value) → Prop) → Prop
  | [], R, acc, K => K R acc
  | i :: is, R, acc, K => ∃ o v, l[i]? = some o ∧ qY P w0 S H ops o R v ∧ quietF ops H l el is (put R o.dst v) (if el.contains i = true then acc else (o, R, v) :: acc) K

def allQ (ops : Array Oper) (H : Hp) : List (Oper × Regs × Value) → Prop
  | [] => True
  | x :: acc => qY P w0 S H ops x.1 x.2.1 x.2.2 ∧ allQ ops H acc

def tailG (ops : Array Oper) (l : List Oper) (acc : List (Oper × Regs × Value)) (Q : Exit → Regs → Hp → Prop) : List Nat → Regs → Hp → Prop
  | [], R, H => Q .normal R H
  | i :: is, R, H => ∃ o, l[i]? = some o ∧ opsG P n w0 S ops (fun e R' H' => e = .normal ∧ allQ P w0 S ops H' acc ∧ tailG ops l acc Q is R' H') [o] R H
end

section
variable {P : Program} {n : Nat} {w0 : World} {S : Nat → Prop} {H : Hp}

theorem allQ_mem {ops : Array Oper} {acc : List (Oper × Regs × Value)} (h : allQ P w0 S ops H acc) : ∀ x ∈ acc, qY P w0 S H ops x.1 x.2.1 x.2.2 := by
  induction acc with
  | nil => intro x hx; cases hx
  | cons y acc ih =>
    intro x hx
    rcases List.mem_cons.1 hx with rfl | hx
    · exact h.1
    · exact ih h.2 x hx

theorem quietF_vals {ops : Array Oper} {l : List Oper} {el : List Nat} : ∀ (is : List Nat) (R : Regs) (acc : List (Oper × Regs × Value)) (K : Regs → List (Oper × Regs × Value) → Prop),
    quietF P w0 S ops H l el is R acc K → is.Pairwise (· < ·) → (∀ i j d, i ∈ is → j ∈ is → i ≠ j → dstAt l i = some d → dstAt l j ≠ some d) →
    ∃ (v : Nat → Value) (Ri : Nat → Regs) (R' : Regs) (acc' : List (Oper × Regs × Value)), K R' acc' ∧ (∀ x ∈ acc, x ∈ acc') ∧
      (∀ i ∈ is, ∃ o, l[i]? = some o ∧ qY P w0 S H ops o (Ri i) (v i) ∧ (i ∉ el → (o, Ri i, v i) ∈ acc')) ∧
      (∀ i ∈ is, ∀ d, (∀ j ∈ is, j < i → dstAt l j ≠ some d) → Ri i d = R d) ∧ (∀ i ∈ is, ∀ j ∈ is, ∀ d, j < i → dstAt l j = some d → Ri i d = v j) ∧
      (∀ j ∈ is, ∀ d, dstAt l j = some d → R' d = v j) ∧ (∀ d, (∀ j ∈ is, dstAt l j ≠ some d) → R' d = R d)
  | [], R, acc, K, h, _, _ => ⟨fun _ => undef, fun _ => R, R, acc, h, fun _ h => h, by simp, by simp, by simp, by simp, by simp⟩
  | i :: is, R, acc, K, h, hs, hu => by
    obtain ⟨o, u, ho, hy, hq⟩ := h
    obtain ⟨hi, hs'⟩ := List.pairwise_cons.1 hs
    obtain ⟨v, Ri, R', acc', hK, hac, hel, f1, f2, f3, f4⟩ := quietF_vals is _ _ K hq hs' (fun a b d ha hb => hu a b d (List.mem_cons_of_mem _ ha) (List.mem_cons_of_mem _ hb))
    have hdi : dstAt l i = o.dst := by simp [dstAt, ho]
    have ne : ∀ {k}, k ∈ is → k ≠ i := fun hk e => by have := hi _ hk; omega
    have pt : ∀ {d}, o.dst = some d → put R o.dst u d = u := by intro d hd; rw [hd]; simp [put, upd]
    have pf : ∀ {d}, o.dst ≠ some d → put R o.dst u d = R d := by
      intro d hd
      cases e : o.dst with
      | none => rfl
      | some d' =>
        simp only [put, upd]
        rw [if_neg]
        intro e2; subst e2; exact hd e
    refine ⟨fun k => if k = i then u else v k, fun k => if k = i then R else Ri k, R', acc', hK, ?_, ?_, ?_, ?_, ?_, ?_⟩
    · intro x hx
      refine hac x ?_
      split
      · exact hx
      · exact List.mem_cons_of_mem _ hx
    · intro k hk
      by_cases e : k = i
      · subst e
        refine ⟨o, ho, by simpa using hy, fun hne => ?_⟩
        have := hac (o, R, u) (by rw [if_neg (by simpa using hne)]; exact List.mem_cons_self ..)
        simpa using this
      · have hk' : k ∈ is := (List.mem_cons.1 hk).resolve_left e
        obtain ⟨p, hp, hy', ha⟩ := hel k hk'
        exact ⟨p, hp, by simpa [e] using hy', fun hne => by simpa [e] using ha hne⟩
    · intro k hk d hd
      by_cases e : k = i
      · subst e; simp
      · have hk' : k ∈ is := (List.mem_cons.1 hk).resolve_left e
        simp only [if_neg e]
        rw [f1 k hk' d (fun j hj hjk => hd j (List.mem_cons_of_mem _ hj) hjk)]
        exact pf (hdi ▸ hd i (List.mem_cons_self ..) (hi k hk'))
    · intro k hk j hj d hjk hd
      by_cases e : k = i
      · subst e
        rcases List.mem_cons.1 hj with e2 | hj'
        · omega
        · have := hi j hj'; omega
      · have hk' : k ∈ is := (List.mem_cons.1 hk).resolve_left e
        simp only [if_neg e]
        by_cases e2 : j = i
        · subst e2
          simp only [if_true]
          rw [f1 k hk' d (fun j' hj' _ hd' => hu j j' d (List.mem_cons_self ..) (List.mem_cons_of_mem _ hj') (fun e3 => ne hj' e3.symm) hd hd')]
          exact pt (hdi ▸ hd)
        · have hj' : j ∈ is := (List.mem_cons.1 hj).resolve_left e2
          simp only [if_neg e2]
          exact f2 k hk' j hj' d hjk hd
    · intro j hj d hd
      by_cases e2 : j = i
      · subst e2
        simp only [if_true]
        rw [f4 d (fun j' hj' hd' => hu j j' d (List.mem_cons_self ..) (List.mem_cons_of_mem _ hj') (fun e3 => ne hj' e3.symm) hd hd')]
        exact pt (hdi ▸ hd)
      · have hj' : j ∈ is := (List.mem_cons.1 hj).resolve_left e2
        simp only [if_neg e2]
        exact f3 j hj' d hd
    · intro d hd
      rw [f4 d (fun j hj => hd j (List.mem_cons_of_mem _ hj))]
      exact pf (hdi ▸ hd i (List.mem_cons_self ..))

theorem Rep.one {a : Act} {R R' : Regs} (h : Rep n a R) (h' : Rep n a R') : R = R' := by
  funext t
  rw [← h.get t, h'.get t]

theorem getD_set' (listed : Array Bool) (i j : Nat) (hi : i < listed.size) : (listed.setIfInBounds i true).getD j false = if i = j then true else listed.getD j false := by
  simp only [Array.getD_eq_getD_getElem?, Array.getElem?_setIfInBounds]
  by_cases e : i = j
  · subst e; simp [hi]
  · simp [e]

/-- A step of one operation, told at one act, holds at another that reads the same. -/
theorem step_one {ops : Array Oper} {o : Oper} {Q : Exit → Act → World → Prop} {Q' : Regs → Hp → Prop} {Rf Rc : Regs} {af a : Act} {w : World} {K : Act → World → Prop} (hf : Rep n af Rf) (hc : Rep n a Rc) (hsel : ∀ cs b, o.op ≠ .select cs b)
    (hop : ∀ x ∈ o.op.operands.toList, ev Rc x = ev Rf x) (hwant : Region.wanted o (yieldedR ops Rc) = Region.wanted o (yieldedR ops Rf))
    (h : wpList P ops (lift n w0 S fun e R' H' => e = .normal ∧ Q' R' H') [o] af w)
    (hK : ∀ v w' R' H', Rep n (af.put o.dst v) R' → St w0 S H' w' → Q' R' H' → K (a.put o.dst v) w') :
    if Region.wanted o (yielded ops a.tmps) then o.wp P a w K Q ∨ (o.asks P a w ∧ LetsOut Q) else K (a.put o.dst undef) w := by
  have exec : execOp (ev Rc) o = execOp (ev Rf) o := execOp_congr hsel hop
  rw [hc.yielded ops, hwant, ← hf.yielded ops]
  unfold wpList at h
  split
  · rename_i hw
    rw [if_pos hw] at h
    rcases h with h | ⟨_, b, w', R', H', _, _, he, _⟩
    · left
      have e1 : a.eval = ev Rc := hc.ev
      have e2 : af.eval = ev Rf := hf.ev
      unfold Oper.wp at h ⊢
      rw [e2] at h
      rw [e1, exec]
      generalize (execOp (ev Rf) o).run P w = r at h ⊢
      have next : ∀ v w', wpList P ops (lift n w0 S fun e R' H' => e = .normal ∧ Q' R' H') [] (af.put o.dst v) w' → K (a.put o.dst v) w' := by
        intro v w' hq
        obtain ⟨R', H', hr, hs, _, hq⟩ := hq
        exact hK _ _ _ _ hr hs hq
      cases r with
      | ok x w' =>
        cases x <;> simp only [Oper.upon] at h ⊢
        case value u => exact next _ _ h
        case skip => exact next _ _ h
        case enter f args =>
          exact Calls.mono h fun e w'' he => by
            cases e with
            | returned v => exact next _ _ he
            | panicked c => obtain ⟨_, _, _, _, he, _⟩ := he; cases he
            | outgrown => obtain ⟨_, _, _, _, _, _, he, _⟩ := he; cases he
        case row r as => exact Rows.mono h fun v w'' he => next _ _ he
        case defer d =>
          obtain ⟨R', H', hr, _⟩ := h
          have := hr.defers
          cases ho : o.dst <;> simp [Act.put, ho] at this
      | halt x w' =>
        cases x <;> simp only [Oper.upon] at h ⊢
        case panic v => obtain ⟨_, _, _, _, he, _⟩ := h; cases he
    · cases he
  · rename_i hw
    rw [if_neg hw] at h
    obtain ⟨R', H', hr, hs, _, hq⟩ := h
    exact hK _ _ _ _ hr hs hq

theorem Rep.fill {a : Act} {R R' : Regs} (h : Rep n a R) (hu : ∀ t, n ≤ t → R' t = undef) : ∃ af, Rep n af R' := by
  refine ⟨{ a with tmps := ((List.range n).map R').toArray }, by simp, h.defers, fun t => ?_⟩
  rw [Array.getD_eq_getD_getElem?]
  by_cases ht : t < n
  · simp [ht]
  · rw [hu t (by omega)]; simp [ht]

theorem Rep.undef {a : Act} {R : Regs} (h : Rep n a R) {t : Nat} (ht : n ≤ t) : R t = undef := by
  rw [← h.get t, Array.getD_eq_getD_getElem?, Array.getElem?_eq_none (by rw [h.size]; exact ht)]; rfl

theorem put_ne {R : Regs} {dst : Option Tmp} {v : Value} {d : Nat} (h : dst ≠ some d) : Eng.put R dst v d = R d := by
  cases dst with
  | none => rfl
  | some d' => simp only [Eng.put, upd]; rw [if_neg (fun e => h (by rw [e]))]
theorem put_eq {R : Regs} {dst : Option Tmp} {v : Value} {d : Nat} (h : dst = some d) : Eng.put R dst v d = v := by
  subst h; simp [Eng.put, upd]

/-- THE RULE. -/
theorem c_drawF {l : List Oper} {id : Nat} {Q : Exit → Regs → Hp → Prop} {R : Regs} (hds tl el : List Nat) (hm : P.follows .mixedOrders = true) (hck : (drawOkF l hds tl el && l.all (dstOk n)) = true)
    (h : quietF P w0 S l.toArray H l el hds R [] fun R' acc => tailG P n w0 S l.toArray l acc Q tl R' H) : codeG P n w0 S (.region id l.toArray true) Q R H := by
  simp only [Bool.and_eq_true] at hck
  obtain ⟨hck, hdst⟩ := hck
  have ok := DrawOkF.of hck
  have hdst : ∀ o ∈ l, dstOk n o = true := fun o ho => List.all_eq_true.1 hdst o ho
  obtain ⟨v, Ri, R', acc, hK, _, hq, f1, f2, f3, f4⟩ := quietF_vals hds R [] _ h ok.srt (fun i j d hi hj hne hd => ok.uniq i j d hi (ok.hlt j hj) hne hd)
  intro a w ha hw
  refine wp_region_any hm ?_
  let ops := l.toArray
  have hops : ∀ i : Nat, ops[i]? = l[i]? := fun i => by simp [ops]
  have hsize : ops.size = l.length := by simp [ops]
  have lt_of : ∀ {i : Nat} {o : Oper}, l[i]? = some o → i < l.length := fun h => (List.getElem?_eq_some_iff.1 h).1
  have dAt : ∀ {i : Nat} {o : Oper}, l[i]? = some o → dstAt l i = o.dst := fun h => by simp [dstAt, h]
  have flip : ∀ {listed : Array Bool} {i : Nat}, listed.size = ops.size → i < l.length → (listed.getD i false = true ↔ listed.getD i true = true) := by
    intro listed i hs hi
    have : i < listed.size := by omega
    simp [this]
  let I (listed : Array Bool) (a : Act) (w : World) : Prop := listed.size = ops.size ∧ ∃ k af Rf Rc Hk, k ≤ tl.length ∧ Rep n af Rf ∧ Rep n a Rc ∧ St w0 S Hk w ∧
    (∀ (j t : Nat), tl[j]? = some t → (listed.getD t false = true ↔ j < k)) ∧
    (∀ (i : Nat) (o : Oper), l[i]? = some o → listed.getD i false = true → ∀ e ∈ o.after, Region.binds .any e = true → listed.getD e.on false = true) ∧
    (∀ i ∈ hds, listed.getD i false = false → ∃ o, l[i]? = some o ∧ qY P w0 S Hk ops o (Ri i) (v i)) ∧
    tailG P n w0 S ops l acc Q (tl.drop k) Rf Hk ∧
    (∀ i ∈ hds, listed.getD i false = true → ∀ d, dstAt l i = some d → Rc d = v i) ∧ (∀ i ∈ hds, ∀ d, dstAt l i = some d → Rf d = v i) ∧
    (∀ d, (∀ i ∈ hds, dstAt l i ≠ some d) → Rc d = Rf d) ∧
    (∀ d, (∀ i ∈ hds, dstAt l i ≠ some d) → (∀ (j t : Nat), j < k → tl[j]? = some t → dstAt l t ≠ some d) → Rf d = R d)
  refine wpAny_inv I (fun _ _ _ h => h.1) ?_ ?_ _ _ _ _ ?_ ?_
  · rintro listed a w i ⟨hs, k, af, Rf, Rc, Hk, hk, hrf, hrc, hst, htl, hcl, hqy, htail, hv1, hv2, hv3, hv4⟩ hi
    obtain ⟨hun, o, ho, haft⟩ := mem_ready.1 hi
    rw [hops] at ho
    have hil := lt_of ho
    have hsi : i < listed.size := by omega
    have hunf : listed.getD i false = false := by
      cases hx : listed.getD i false with
      | false => rfl
      | true => rw [(flip hs hil).1 hx] at hun; cases hun
    have aft : ∀ {j}, Edge o j → listed.getD j false = true := fun ⟨e, he, hb, hon⟩ => hon ▸ haft e he hb
    have closed' : ∀ (i' : Nat) (o' : Oper), l[i']? = some o' → (listed.setIfInBounds i true).getD i' false = true → ∀ e ∈ o'.after, Region.binds .any e = true → (listed.setIfInBounds i true).getD e.on false = true := by
      intro i' p hp hl e he hb
      rw [getD_set' _ _ _ hsi] at hl ⊢
      split
      · rfl
      · by_cases h1 : i = i'
        · subst h1
          obtain rfl : p = o := Option.some.inj (hp.symm.trans ho)
          exact haft e he hb
        · rw [if_neg h1] at hl
          exact hcl i' p hp hl e he hb
    unfold wpOp
    rw [hops, ho]
    simp only
    rcases ok.part i hil with ⟨hih, hit⟩ | ⟨hit, hih⟩
    · -- a quiet one
      obtain ⟨o', ho', hqi⟩ := hqy i hih hunf
      obtain rfl : o' = o := Option.some.inj (ho'.symm.trans ho)
      have isHead : ∀ j ∈ hds, ∀ d, j < i → Edge o' j → dstAt l j = some d → Rc d = Ri i d := by
        intro j hj d hji hE hd
        rw [hv1 j hj (aft hE) d hd, f2 i hih j hj d hji hd]
      have hop : ∀ x ∈ o'.op.operands.toList, ev Rc x = ev (Ri i) x := by
        intro x hx
        cases x with
        | tmp d =>
          have hm : d ∈ tmpsOf o' := List.mem_filterMap.2 ⟨_, hx, rfl⟩
          show Rc d = Ri i d
          by_cases hh : ∃ j ∈ hds, dstAt l j = some d
          · obtain ⟨j, hj, hd⟩ := hh
            obtain ⟨hji, hE⟩ := ok.dataH i j o' d ho hj hd hm
            exact isHead j hj d hji hE hd
          · have hn : ∀ j ∈ hds, dstAt l j ≠ some d := fun j hj hd => hh ⟨j, hj, hd⟩
            rw [f1 i hih d (fun j hj _ => hn j hj), hv3 d hn, hv4 d hn]
            intro j t hjk htj hdt
            have htl' : t < l.length := ok.tlt t (List.mem_of_getElem? htj)
            have hdt' : (l[t]'htl').dst = some d := by rw [← dAt (List.getElem?_eq_getElem htl')]; exact hdt
            have := ok.dataT i t o' _ d ho (List.getElem?_eq_getElem htl') hih (List.mem_of_getElem? htj) hdt' hm
            obtain ⟨e, he, hb, hon⟩ := this
            have := hcl t _ (List.getElem?_eq_getElem htl') ((htl j t htj).2 hjk) e he hb
            rw [hon, hunf] at this
            cases this
        | _ => rfl
      have hexec : execOp (ev Rc) o' = execOp (ev (Ri i)) o' := execOp_congr (ok.sel o' (List.mem_of_getElem? ho)) hop
      have hwant : Region.wanted o' (yieldedR ops Rc) = Region.wanted o' (yieldedR ops (Ri i)) := by
        unfold Region.wanted
        cases hg : o'.guard with
        | none => rfl
        | some gb =>
          obtain ⟨g, b⟩ := gb
          obtain ⟨hgh, hgi, hE⟩ := ok.guard i o' g b ho hg
          have hyy : yieldedR ops Rc g = yieldedR ops (Ri i) g := by
            unfold yieldedR
            have e9 : (ops[g]?).bind (·.dst) = dstAt l g := by rw [hops]; rfl
            rw [e9]
            cases hd : dstAt l g with
            | none => rfl
            | some d => simp only; rw [isHead g hgh d hgi hE hd]
          simp only [hyy]
      have next : ∀ w', St w0 S Hk w' → I (listed.setIfInBounds i true) (a.put o'.dst (v i)) w' := by
        intro w' hw'
        refine ⟨by simp [hs], k, af, Rf, _, Hk, hk, hrf, hrc.put _ (hdst o' (List.mem_of_getElem? ho)), hw', ?_, closed', ?_, htail, ?_, hv2, ?_, hv4⟩
        · intro j t htj
          rw [getD_set' _ _ _ hsi, if_neg (fun (e : i = t) => hit (e ▸ List.mem_of_getElem? htj))]
          exact htl j t htj
        · intro i' hi' hl
          rw [getD_set' _ _ _ hsi] at hl
          by_cases h1 : i = i'
          · simp [h1] at hl
          · rw [if_neg h1] at hl; exact hqy i' hi' hl
        · intro i' hi' hl d hd
          rw [getD_set' _ _ _ hsi] at hl
          by_cases h1 : i = i'
          · subst h1
            exact put_eq (by rw [← dAt ho]; exact hd)
          · rw [if_neg h1] at hl
            rw [put_ne (by rw [← dAt ho]; exact fun e => ok.uniq i i' d hih (ok.hlt i' hi') h1 e hd)]
            exact hv1 i' hi' hl d hd
        · intro d hd
          rw [put_ne (by rw [← dAt ho]; exact hd i hih)]
          exact hv3 d hd
      rw [hrc.yielded ops, hwant]
      rcases hqi with ⟨hw1, hyv⟩ | ⟨hw1, hyv⟩
      · rw [if_pos hw1]
        left
        have h1 := hyv w hst
        unfold Oper.wp
        rw [hrc.ev, hexec]
        generalize (execOp (ev (Ri i)) o').run P w = r at h1
        cases r with
        | ok x w' =>
          cases x <;> simp only [Oper.quietUpon] at h1 <;> simp only [Oper.upon]
          case value u => obtain ⟨rfl, rfl⟩ := h1; exact next _ hst
          case skip => obtain ⟨rfl, h2⟩ := h1; rw [← h2]; exact next _ hst
          case enter f args =>
            obtain ⟨rfl, hc⟩ := h1
            exact hc.mono fun e w'' ⟨he, hs'⟩ => by subst he; exact next _ hs'
        | halt x w' => simp only [Oper.quietUpon] at h1
      · rw [if_neg (by simp [hw1]), ← hyv]
        exact next _ hst
    · -- the next one of the others
      obtain ⟨j, htj⟩ := List.getElem?_of_mem hit
      have hjk : ¬ j < k := fun h => by rw [(htl j i htj).2 h] at hunf; cases hunf
      have hjk' : j = k := by
        rcases Nat.lt_or_ge k j with hgt | hle
        · exfalso
          have hj1 : j - 1 < tl.length := by have := (List.getElem?_eq_some_iff.1 htj).1; omega
          have hE := ok.chain (j - 1) tl[j - 1] i o (List.getElem?_eq_getElem hj1) (by rw [show j - 1 + 1 = j by omega]; exact htj) ho
          have := (htl (j - 1) _ (List.getElem?_eq_getElem hj1)).1 (aft hE)
          omega
        · omega
      subst hjk'
      have hjl : j < tl.length := (List.getElem?_eq_some_iff.1 htj).1
      have hdr : tl.drop j = i :: tl.drop (j + 1) := by
        rw [List.drop_eq_getElem_cons hjl]
        congr 1
        exact (List.getElem?_eq_some_iff.1 htj).2
      rw [hdr] at htail
      obtain ⟨o', ho', hop1⟩ := htail
      obtain rfl : o' = o := Option.some.inj (ho'.symm.trans ho)
      have hop : ∀ x ∈ o'.op.operands.toList, ev Rc x = ev Rf x := by
        intro x hx
        cases x with
        | tmp d =>
          have hm : d ∈ tmpsOf o' := List.mem_filterMap.2 ⟨_, hx, rfl⟩
          show Rc d = Rf d
          by_cases hh : ∃ i' ∈ hds, dstAt l i' = some d
          · obtain ⟨i', hi', hd⟩ := hh
            obtain ⟨_, hE⟩ := ok.dataH i i' o' d ho hi' hd hm
            rw [hv1 i' hi' (aft hE) d hd, hv2 i' hi' d hd]
          · exact hv3 d fun i' hi' hd => hh ⟨i', hi', hd⟩
        | _ => rfl
      have hwant : Region.wanted o' (yieldedR ops Rc) = Region.wanted o' (yieldedR ops Rf) := by
        unfold Region.wanted
        cases hg : o'.guard with
        | none => rfl
        | some gb =>
          obtain ⟨g, b⟩ := gb
          obtain ⟨hgh, hgi, hE⟩ := ok.guard i o' g b ho hg
          have hyy : yieldedR ops Rc g = yieldedR ops Rf g := by
            unfold yieldedR
            have e9 : (ops[g]?).bind (·.dst) = dstAt l g := by rw [hops]; rfl
            rw [e9]
            cases hd : dstAt l g with
            | none => rfl
            | some d => simp only; rw [hv1 g hgh (aft hE) d hd, hv2 g hgh d hd]
          simp only [hyy]
      refine step_one (Q' := fun R' H' => allQ P w0 S ops H' acc ∧ tailG P n w0 S ops l acc Q (tl.drop (j + 1)) R' H') hrf hrc (ok.sel o' (List.mem_of_getElem? ho)) hop hwant (hop1 af w hrf hst) ?_
      rintro u w' R2 H2 hr2 hs2 ⟨hall, htail2⟩
      have hd1 : dstOk n o' = true := hdst o' (List.mem_of_getElem? ho)
      have e2 : R2 = Eng.put Rf o'.dst u := Rep.one hr2 (hrf.put u hd1)
      subst e2
      have nd : ∀ {j' t' : Nat}, tl[j']? = some t' → t' = i → j' = j := fun h1 h2 => by
        subst h2
        exact ((List.getElem?_inj (List.getElem?_eq_some_iff.1 h1).1 ok.nd).1 (h1.trans htj.symm))
      refine ⟨by simp [hs], j + 1, _, _, _, H2, hjl, hr2, hrc.put u hd1, hs2, ?_, closed', ?_, htail2, ?_, ?_, ?_, ?_⟩
      · intro j' t' htj'
        rw [getD_set' _ _ _ hsi]
        by_cases h1 : i = t'
        · rw [if_pos h1]
          have := nd htj' h1.symm
          simp [this]
        · rw [if_neg h1, htl j' t' htj']
          constructor
          · intro h; omega
          · intro h
            rcases Nat.lt_or_ge j' j with h2 | h2
            · exact h2
            · exfalso
              have : j' = j := by omega
              subst this
              exact h1 (Option.some.inj (htj.symm.trans htj'))
      · intro i' hi' hl
        rw [getD_set' _ _ _ hsi] at hl
        have hl : listed.getD i' false = false := by
          by_cases h1 : i = i'
          · simp [h1] at hl
          · rwa [if_neg h1] at hl
        have hne : i' ∉ el := by
          intro hel
          have key : ∀ m x, l.length - x ≤ m → x ∈ el → listed.getD x false = true := by
            intro m
            induction m with
            | zero =>
              intro x hx hxe
              obtain ⟨y, _, h1, h2, _⟩ := ok.early x hxe
              omega
            | succ m ih =>
              intro x hx hxe
              obtain ⟨y, p, h1, h2, h3, hp, e, he, hb, hon⟩ := ok.early x hxe
              rcases h3 with h3 | h3
              · have hy0 : tl[0]? = some y := by rw [← List.head?_eq_getElem?]; exact h3
                by_cases h0 : j = 0
                · subst h0
                  obtain rfl : i = y := Option.some.inj (htj.symm.trans hy0)
                  obtain rfl : p = o' := Option.some.inj (hp.symm.trans ho)
                  exact hon ▸ haft e he hb
                · exact hon ▸ hcl y p hp ((htl 0 y hy0).2 (by omega)) e he hb
              · exact hon ▸ hcl y p hp (ih y (by omega) h3) e he hb
          rw [key _ i' (Nat.le_refl _) hel] at hl
          cases hl
        obtain ⟨p, hp, _, hac⟩ := hq i' hi'
        exact ⟨p, hp, allQ_mem hall _ (hac hne)⟩
      · intro i' hi' hl d hd
        rw [getD_set' _ _ _ hsi] at hl
        have h1 : i ≠ i' := fun e => hih (e ▸ hi')
        rw [if_neg h1] at hl
        rw [put_ne (by rw [← dAt ho]; exact fun e => ok.uniq i' i d hi' hil (Ne.symm h1) hd e)]
        exact hv1 i' hi' hl d hd
      · intro i' hi' d hd
        have h1 : i ≠ i' := fun e => hih (e ▸ hi')
        rw [put_ne (by rw [← dAt ho]; exact fun e => ok.uniq i' i d hi' hil (Ne.symm h1) hd e)]
        exact hv2 i' hi' d hd
      · intro d hd
        by_cases h1 : o'.dst = some d
        · rw [put_eq h1, put_eq h1]
        · rw [put_ne h1, put_ne h1]; exact hv3 d hd
      · intro d hd hn
        rw [put_ne (by rw [← dAt ho]; exact hn j i (by omega) htj)]
        exact hv4 d hd fun j' t' h1 h2 => hn j' t' (by omega) h2
  · rintro listed a w ⟨hs, k, af, Rf, Rc, Hk, hk, hrf, hrc, hst, htl, hcl, hqy, htail, hv1, hv2, hv3, hv4⟩ he
    have hall : ∀ k, k < l.length → listed.getD k true = true := by
      intro k
      induction k using Nat.strongRecOn with
      | _ k ih =>
        intro hk
        cases hx : listed.getD k true with
        | true => rfl
        | false =>
          exfalso
          have : k ∈ Region.ready .any ops listed := mem_ready.2 ⟨hx, l[k], by rw [hops]; exact List.getElem?_eq_getElem hk, fun e he hb => by
            have hlt := ok.back k _ (List.getElem?_eq_getElem hk) e he hb
            exact (flip hs (by omega)).2 (ih e.on hlt (by omega))⟩
          rw [he] at this
          cases this
    have hkl : k = tl.length := by
      rcases Nat.lt_or_ge k tl.length with h1 | h1
      · have h2 := ok.tlt tl[k] (List.getElem_mem h1)
        have := (htl k tl[k] (List.getElem?_eq_getElem h1)).1 ((flip hs h2).2 (hall _ h2))
        omega
      · omega
    rw [hkl, List.drop_length] at htail
    have e1 : Rc = Rf := by
      funext d
      by_cases hh : ∃ i ∈ hds, dstAt l i = some d
      · obtain ⟨i, hi, hd⟩ := hh
        rw [hv1 i hi ((flip hs (ok.hlt i hi)).2 (hall i (ok.hlt i hi))) d hd, hv2 i hi d hd]
      · exact hv3 d fun i hi hd => hh ⟨i, hi, hd⟩
    subst e1
    exact ⟨_, _, hrc, hst, htail⟩
  · have hun : ∀ i, (Array.replicate ops.size false).getD i false = false := by
      intro i
      rw [Array.getD_eq_getD_getElem?, Array.getElem?_replicate]
      split <;> rfl
    obtain ⟨af, haf⟩ := ha.fill (R' := R') (by
      intro t ht
      rw [f4 t, ha.undef ht]
      intro j hj hd
      have hjl := ok.hlt j hj
      have h1 := hdst _ (List.getElem_mem hjl)
      have h2 : (l[j]).dst = some t := by rw [← dAt (List.getElem?_eq_getElem hjl)]; exact hd
      unfold dstOk at h1
      rw [h2] at h1
      have h3 : t < n := by simpa using h1
      omega)
    refine ⟨Array.size_replicate, 0, af, R', R, H, Nat.zero_le _, haf, ⟨ha.size, ha.defers, ha.get⟩, hw.drew, ?_, ?_, ?_, hK, ?_, f3, ?_, ?_⟩
    · intro j t _; rw [hun]; simp
    · intro i o _ hl; rw [hun] at hl; cases hl
    · intro i hi _; obtain ⟨o, ho, hy, _⟩ := hq i hi; exact ⟨o, ho, hy⟩
    · intro i hi hl; rw [hun] at hl; cases hl
    · intro d hd; rw [f4 d hd]
    · intro d hd _; exact f4 d hd
  · exact Nat.le_trans List.countP_le_length (by rw [List.length_range]; exact Nat.le_refl _)

/-! ### Its rules -/
section
variable {ops : Array Oper} {l : List Oper} {el is : List Nat} {i : Nat} {R : Regs} {acc : List (Oper × Regs × Value)} {K : Regs → List (Oper × Regs × Value) → Prop} {Q : Exit → Regs → Hp → Prop} {o : Oper} {v : Value}
theorem f_nil (h : K R acc) : quietF P w0 S ops H l el [] R acc K := h
theorem f_e (ho : l[i]? = some o) (he : el.contains i = true) (hq : qY P w0 S H ops o R v) (h : quietF P w0 S ops H l el is (put R o.dst v) acc K) : quietF P w0 S ops H l el (i :: is) R acc K :=
  ⟨o, v, ho, hq, by rw [if_pos he]; exact h⟩
theorem f_l (ho : l[i]? = some o) (he : el.contains i = false) (hq : qY P w0 S H ops o R v) (h : quietF P w0 S ops H l el is (put R o.dst v) ((o, R, v) :: acc) K) : quietF P w0 S ops H l el (i :: is) R acc K :=
  ⟨o, v, ho, hq, by rw [if_neg (by simp only [he]; decide)]; exact h⟩
theorem qn (hg : o.guard = none) (hy : Yields P w0 S H o R v) : qY P w0 S H ops o R v := .inl ⟨by simp [Region.wanted, hg], hy⟩
theorem qt {j d : Nat} {want : Bool} (hg : o.guard = some (j, want)) (hj : (ops[j]?).bind (·.dst) = some d) (hb : R d = .bool want) (hy : Yields P w0 S H o R v) : qY P w0 S H ops o R v :=
  .inl ⟨by unfold Region.wanted yieldedR; rw [hg]; simp [hj, hb], hy⟩
theorem qf {j d : Nat} {want b : Bool} (hg : o.guard = some (j, want)) (hj : (ops[j]?).bind (·.dst) = some d) (hb : R d = .bool b) (hn : b = !want) : qY P w0 S H ops o R undef := by
  refine .inr ⟨?_, rfl⟩
  unfold Region.wanted yieldedR
  rw [hg]
  subst hn
  cases want <;> simp [hj, hb]
theorem qu {j d : Nat} {want : Bool} (hg : o.guard = some (j, want)) (hj : (ops[j]?).bind (·.dst) = some d) (hb : R d = undef) : qY P w0 S H ops o R undef := by
  refine .inr ⟨?_, rfl⟩
  unfold Region.wanted yieldedR
  rw [hg]
  simp [hj, hb, Go.undef]
theorem t_nil (h : Q .normal R H) : tailG P n w0 S ops l acc Q [] R H := h
theorem t_step (ho : l[i]? = some o) (h : opsG P n w0 S ops (fun e R' H' => e = .normal ∧ allQ P w0 S ops H' acc ∧ tailG P n w0 S ops l acc Q is R' H') [o] R H) : tailG P n w0 S ops l acc Q (i :: is) R H := ⟨o, ho, h⟩
end
end
end Go.Proofs.Ytpbpenlceigddaa.Eng
