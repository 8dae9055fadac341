/- Proved: rules for walking a function's code over a frame of registers and a list of known blocks; each rule's conditions stand in its own statement. -/
import Derived.WalkKit
import Derived.KernelRfl
import Derived.Below
import Derived.Orders
import Derived.Deep.Quiet
import Derived.Deep.LoopGhost
namespace Go.Proofs.Ytpbpenlceigddaa.Eng
open Go Go.RowKit

abbrev Regs := Nat → Value
abbrev Hp := List (Nat × Obj)

def upd (R : Regs) (d : Nat) (v : Value) : Regs := fun t => if t = d then v else R t
def ev (R : Regs) : Operand → Value
  | .tmp t => R t
  | .const v => v
  | .global g => .pointer (some ⟨g, 0, none⟩)
  | .func f => .func (.func f) #[] #[]
def put (R : Regs) : Option Tmp → Value → Regs
  | some d, v => upd R d v
  | none, _ => R

structure Rep (n : Nat) (a : Act) (R : Regs) : Prop where
  size : a.tmps.size = n
  defers : a.defers = []
  get : ∀ t, a.tmps.getD t undef = R t

theorem Rep.ev {n : Nat} {a : Act} {R : Regs} (h : Rep n a R) : a.eval = ev R := by
  funext x
  cases x <;> simp [Act.eval, Eng.ev]
  have := h.get
  rename_i t
  simpa using this t

def dstOk (n : Nat) (o : Oper) : Bool := match o.dst with | some d => decide (d < n) | none => true

theorem Rep.put {n : Nat} {a : Act} {R : Regs} (h : Rep n a R) {dst : Option Tmp} (v : Value) (hd : (match dst with | some d => decide (d < n) | none => true) = true) : Rep n (a.put dst v) (put R dst v) := by
  cases dst with
  | none => exact h
  | some d =>
    have hd : d < n := by simpa using hd
    refine ⟨by simp [Act.put, h.size], h.defers, fun t => ?_⟩
    have := h.get t
    have hs := h.size
    simp only [Act.put, Eng.put, upd, Array.getD_eq_getD_getElem?, Array.getElem?_setIfInBounds] at this ⊢
    by_cases e : t = d
    · subst e; simp [hs, hd]
    · have e' : ¬ d = t := fun x => e x.symm
      simp only [e, e', if_false]; exact this

/-- What is known of memory: the blocks of 'H' as they stand; of what was there at the begin nothing else than 'S' may have turned. -/
structure St (w0 : World) (S : Nat → Prop) (H : Hp) (w : World) : Prop where
  at_ : ∀ p ∈ H, w.heap[p.1]? = some p.2
  nd : (H.map Prod.fst).Nodup
  own : ∀ p ∈ H, S p.1 ∨ w0.heap.size ≤ p.1
  os : w.os = w0.os
  tape : w.tape = w0.tape
  output : w.output = w0.output
  le : w0.heap.size ≤ w.heap.size
  fr : ∀ b, b < w0.heap.size → ¬ S b → w.heap[b]? = w0.heap[b]?

theorem St.nil (w : World) (S : Nat → Prop) : St w S [] w := ⟨by simp, by simp, by simp, rfl, rfl, rfl, Nat.le_refl _, fun _ _ _ => rfl⟩

theorem St.drew {w0 w : World} {S : Nat → Prop} {H : Hp} (h : St w0 S H w) : St w0 S H { w with drawn := w.drawn + 1 } :=
  ⟨h.at_, h.nd, h.own, h.os, h.tape, h.output, h.le, h.fr⟩

theorem St.lt {w0 w : World} {S : Nat → Prop} {H : Hp} (h : St w0 S H w) {p : Nat × Obj} (hp : p ∈ H) : p.1 < w.heap.size :=
  (Array.getElem?_eq_some_iff.1 (h.at_ p hp)).1

theorem St.below {w0 w : World} {H : Hp} (h : St w0 (fun _ => False) H w) : Below w0.heap.size w0 w :=
  ⟨h.os, h.tape, h.output, h.le, fun k hk => h.fr k hk (fun x => x)⟩

theorem St.alloc {w0 w : World} {S : Nat → Prop} {H : Hp} (h : St w0 S H w) (o : Obj) : St w0 S ((w.heap.size, o) :: H) (w.alloc o) := by
  refine ⟨?_, ?_, ?_, h.os, h.tape, h.output, ?_, ?_⟩
  · intro p hp
    rcases List.mem_cons.1 hp with rfl | hp
    · show (w.heap.push o)[w.heap.size]? = _
      simp
    · rw [Below.heap_alloc _ _ _ (h.lt hp)]; exact h.at_ p hp
  · simp only [List.map_cons, List.nodup_cons]
    refine ⟨fun hm => ?_, h.nd⟩
    obtain ⟨p, hp, e⟩ := List.mem_map.1 hm
    have := h.lt hp
    omega
  · intro p hp
    rcases List.mem_cons.1 hp with rfl | hp
    · exact .inr h.le
    · exact h.own p hp
  · have : (w.alloc o).heap.size = w.heap.size + 1 := by simp
    have := h.le; omega
  · intro b hb hs
    rw [Below.heap_alloc _ _ _ (by have := h.le; omega)]
    exact h.fr b hb hs

/-- A block of the list is another one now. -/
def setAt (H : Hp) (i : Nat) (o : Obj) : Hp := match H[i]? with | some p => H.set i (p.1, o) | none => H

theorem St.write {w0 w w' : World} {S : Nat → Prop} {H : Hp} (h : St w0 S H w) (i : Nat) {g : Nat} {o o' : Obj} (hi : H[i]? = some (g, o))
    (hg : w'.heap[g]? = some o') (hk : ∀ k, k ≠ g → w'.heap[k]? = w.heap[k]?) (hs : w'.heap.size = w.heap.size) (ho : w'.os = w.os) (ht : w'.tape = w.tape) (hp : w'.output = w.output) :
    St w0 S (H.set i (g, o')) w' := by
  have hlt : i < H.length := (List.getElem?_eq_some_iff.1 hi).1
  have hv : H[i] = (g, o) := (List.getElem?_eq_some_iff.1 hi).2
  have hids : (H.set i (g, o')).map Prod.fst = H.map Prod.fst := by
    rw [List.map_set]
    have : (H.map Prod.fst)[i]? = some g := by simp [hi]
    apply List.ext_getElem?
    intro j
    rw [List.getElem?_set]
    by_cases e : i = j
    · subst e; simp [hlt, hv]
    · simp [e]
  refine ⟨?_, by rw [hids]; exact h.nd, ?_, ho.trans h.os, ht.trans h.tape, hp.trans h.output, by rw [hs]; exact h.le, ?_⟩
  · intro p hp
    obtain ⟨j, hj⟩ := List.getElem?_of_mem hp
    rw [List.getElem?_set] at hj
    by_cases e : i = j
    · subst e
      simp only [if_true, hlt] at hj
      cases hj; exact hg
    · rw [if_neg e] at hj
      have hne : p.1 ≠ g := by
        intro e2
        have hj1 : (H.map Prod.fst)[j]? = some g := by simp [hj, e2]
        have hi1 : (H.map Prod.fst)[i]? = some g := by simp [hi]
        exact e ((List.getElem?_inj (by simpa using hlt) h.nd).1 (hi1.trans hj1.symm))
      rw [hk p.1 hne]
      exact h.at_ p (List.mem_of_getElem? hj)
  · intro p hp
    have : p.1 ∈ (H.set i (g, o')).map Prod.fst := List.mem_map_of_mem hp
    rw [hids] at this
    obtain ⟨q, hq, e⟩ := List.mem_map.1 this
    rw [← e]; exact h.own q hq
  · intro b hb hS
    have hne : b ≠ g := by
      intro e
      rcases h.own (g, o) (List.mem_of_getElem? hi) with x | x
      · exact hS (e ▸ x)
      · have : w0.heap.size ≤ g := x
        omega
    rw [hk b hne]; exact h.fr b hb hS

/-- The first blocks alone. -/
theorem St.drop {w0 w : World} {S : Nat → Prop} {H H' : Hp} (h : St w0 S H w) (hs : H'.Sublist H) : St w0 S H' w :=
  ⟨fun p hp => h.at_ p (hs.subset hp), (h.nd.sublist (hs.map _)), fun p hp => h.own p (hs.subset hp), h.os, h.tape, h.output, h.le, h.fr⟩

/-! ### Code -/
section
variable (P : Program) (n : Nat) (w0 : World) (S : Nat → Prop)

def lift (Q : Exit → Regs → Hp → Prop) : Exit → Act → World → Prop := fun e a w => ∃ R H, Rep n a R ∧ St w0 S H w ∧ Q e R H

def codeG (c : Code) (Q : Exit → Regs → Hp → Prop) (R : Regs) (H : Hp) : Prop :=
  ∀ a w, Rep n a R → St w0 S H w → c.wp P (lift n w0 S Q) a w

def opsG (ops : Array Oper) (Q : Exit → Regs → Hp → Prop) (l : List Oper) (R : Regs) (H : Hp) : Prop :=
  ∀ a w, Rep n a R → St w0 S H w → wpList P ops (lift n w0 S Q) l a w

def thenK (K : Regs → Hp → Prop) (Q : Exit → Regs → Hp → Prop) : Exit → Regs → Hp → Prop
  | .normal, R, H => K R H
  | e, R, H => Q e R H

def inBlk (id : Nat) (Q : Exit → Regs → Hp → Prop) : Exit → Regs → Hp → Prop
  | .exit i, R, H => if i = id then Q .normal R H else Q (.exit i) R H
  | e, R, H => Q e R H
end

section
variable {P : Program} {n : Nat} {w0 : World} {S : Nat → Prop} {Q : Exit → Regs → Hp → Prop} {R : Regs} {H : Hp}

theorem c_seq {x y : Code} (h : ∀ K : Regs → Hp → Prop, (∀ R H, codeG P n w0 S y Q R H → K R H) → codeG P n w0 S x (thenK K Q) R H) : codeG P n w0 S (.seq x y) Q R H := by
  intro a w ha hw
  refine wp_seq (Code.wp_mono (fun e a' w' q => ?_) (h (fun R H => codeG P n w0 S y Q R H) (fun _ _ h => h) a w ha hw))
  obtain ⟨R', H', hr, hs, hq⟩ := q
  cases e <;> first | exact hq a' w' hr hs | exact ⟨R', H', hr, hs, hq⟩

theorem c_skip (h : Q .normal R H) : codeG P n w0 S .skip Q R H := fun _ _ ha hw => wp_skip ⟨R, H, ha, hw, h⟩
theorem c_label {l : Nat} (h : Q .normal R H) : codeG P n w0 S (.label l) Q R H := fun _ _ ha hw => wp_label ⟨R, H, ha, hw, h⟩
theorem c_ret (h : Q .ret R H) : codeG P n w0 S .ret Q R H := fun _ _ ha hw => wp_ret ⟨R, H, ha, hw, h⟩
theorem c_exit {id : Nat} (h : Q (.exit id) R H) : codeG P n w0 S (.exit id) Q R H := fun _ _ ha hw => wp_exit ⟨R, H, ha, hw, h⟩

theorem c_cond {c : Operand} {x y : Code} {t : Bool} (hc : ev R c = .bool t) (ht : t = true → codeG P n w0 S x Q R H) (hf : t = false → codeG P n w0 S y Q R H) : codeG P n w0 S (.cond c x y) Q R H := by
  intro a w ha hw
  refine wp_cond (t := t) (by rw [ha.ev]; exact hc) ?_
  cases t
  · exact hf rfl a w ha hw
  · exact ht rfl a w ha hw

theorem c_block {id : Nat} {c : Code} (h : codeG P n w0 S c (inBlk id Q) R H) : codeG P n w0 S (.block id c) Q R H := by
  intro a w ha hw
  refine wp_block (Code.wp_mono (fun e a' w' q => ?_) (h a w ha hw))
  obtain ⟨R', H', hr, hs, hq⟩ := q
  cases e with
  | exit i =>
    simp only [Exit.inBlock, inBlk] at hq ⊢
    split
    · rename_i e; rw [if_pos e] at hq; exact ⟨R', H', hr, hs, hq⟩
    · rename_i e; rw [if_neg e] at hq; exact ⟨R', H', hr, hs, hq⟩
  | _ => exact ⟨R', H', hr, hs, hq⟩

theorem c_loop {c : Code} (I : Nat → Regs → Hp → Prop) (d : Nat) (h0 : I d R H)
    (h : ∀ d R H, I d R H → codeG P n w0 S c (thenK (fun R' H' => ∃ d', d' < d ∧ I d' R' H') Q) R H) : codeG P n w0 S (.loop c) Q R H := by
  intro a w ha hw
  refine wp_loop_ghost (fun d a w => ∃ R H, Rep n a R ∧ St w0 S H w ∧ I d R H) d ⟨R, H, ha, hw, h0⟩ fun d a w hI => ?_
  obtain ⟨R1, H1, ha1, hw1, hI1⟩ := hI
  refine Code.wp_mono (fun e a' w' q => ?_) (h d R1 H1 hI1 a w ha1 hw1)
  obtain ⟨R', H', hr, hs, hq⟩ := q
  cases e with
  | normal => obtain ⟨d', hd, hi⟩ := hq; exact ⟨d', hd, R', H', hr, hs, hi⟩
  | _ => exact ⟨R', H', hr, hs, hq⟩

theorem c_mono {c : Code} {Q' : Exit → Regs → Hp → Prop} (hq : ∀ e R H, Q e R H → Q' e R H) (h : codeG P n w0 S c Q R H) : codeG P n w0 S c Q' R H :=
  fun a w ha hw => Code.wp_mono (fun _ _ _ ⟨R, H, hr, hs, q⟩ => ⟨R, H, hr, hs, hq _ _ _ q⟩) (h a w ha hw)

theorem c_region {id : Nat} {l : List Oper} (h : opsG P n w0 S l.toArray Q l R H) : codeG P n w0 S (.region id l.toArray false) Q R H :=
  fun a w ha hw => wp_region_lit (h a w ha hw)

theorem o_nil {ops : Array Oper} (h : Q .normal R H) : opsG P n w0 S ops Q [] R H := fun _ _ ha hw => wpList_nil ⟨R, H, ha, hw, h⟩

/-- The general rule: an operation without a guard. -/
theorem o_op {ops : Array Oper} {o : Oper} {rest : List Oper} (hg : o.guard = none) (hd : dstOk n o = true)
    (h : ∀ w, St w0 S H w → ∃ v w' H', (execOp (ev R) o).run P w = .ok (.value v) w' ∧ St w0 S H' w' ∧ opsG P n w0 S ops Q rest (put R o.dst v) H') :
    opsG P n w0 S ops Q (o :: rest) R H := by
  intro a w ha hw
  refine wpList_plain hg fun K hK => ?_
  obtain ⟨v, w', H', hr, hs, hk⟩ := h w hw
  unfold Oper.wp
  rw [ha.ev, hr]
  exact hK _ _ (hk _ _ (ha.put v hd) hs)

theorem o_unit {ops : Array Oper} {o : Oper} {rest : List Oper} (hg : o.guard = none) (hd : o.dst = none)
    (h : ∀ w, St w0 S H w → ∃ w' H', (execOp (ev R) o).run P w = .ok .skip w' ∧ St w0 S H' w' ∧ opsG P n w0 S ops Q rest R H') :
    opsG P n w0 S ops Q (o :: rest) R H := by
  intro a w ha hw
  refine wpList_plain hg fun K hK => ?_
  obtain ⟨w', H', hr, hs, hk⟩ := h w hw
  unfold Oper.wp
  rw [ha.ev, hr]
  have : a.put o.dst undef = a := by rw [hd]; rfl
  simp only [Oper.upon, this]
  exact hK _ _ (hk _ _ ha hs)

theorem o_guard {ops : Array Oper} {o : Oper} {rest : List Oper} {j d : Nat} {b want : Bool} (hg : o.guard = some (j, want)) (hj : (ops[j]?).bind (·.dst) = some d)
    (hb : R d = .bool b) (ht : b = want → opsG P n w0 S ops Q ({ o with guard := none } :: rest) R H) (hd : dstOk n o = true) (hf : b = !want → opsG P n w0 S ops Q rest (put R o.dst undef) H) :
    opsG P n w0 S ops Q (o :: rest) R H := by
  intro a w ha hw
  have hy : yielded ops a.tmps j = some b := by
    have h1 := ha.get d
    rw [hb] at h1
    unfold yielded
    rw [hj]
    simp only [Option.bind_some]
    rw [Array.getD_eq_getD_getElem?] at h1
    cases h2 : a.tmps[d]? with
    | none => rw [h2] at h1; simp [undef] at h1
    | some u => rw [h2] at h1; simp at h1; subst h1; rfl
  have hw1 : Region.wanted o (yielded ops a.tmps) = (b == want) := by simp [Region.wanted, hg, hy]
  unfold wpList
  by_cases e : b = want
  · rw [hw1, if_pos (by simp [e])]
    have := ht e a w ha hw
    unfold wpList at this
    have hwn : Region.wanted { o with guard := none } (yielded ops a.tmps) = true := rfl
    rw [if_pos hwn] at this
    exact this
  · rw [hw1, if_neg (by simpa using e)]
    exact hf (by cases b <;> cases want <;> simp_all) _ _ (ha.put undef hd) hw

/-! ### Operations that yield a value whenever they come up, and leave what is known of memory -/
def Yields (P : Program) (w0 : World) (S : Nat → Prop) (H : Hp) (o : Oper) (R : Regs) (v : Value) : Prop :=
  ∀ w, St w0 S H w → Oper.quietUpon P (St w0 S H) w v ((execOp (ev R) o).run P w)

theorem o_y {ops : Array Oper} {o : Oper} {rest : List Oper} {v : Value} (hg : o.guard = none) (hd : dstOk n o = true) (hy : Yields P w0 S H o R v)
    (h : opsG P n w0 S ops Q rest (put R o.dst v) H) : opsG P n w0 S ops Q (o :: rest) R H := by
  intro a w ha hw
  refine wpList_plain hg fun K hK => ?_
  have h1 := hy w hw
  unfold Oper.wp
  rw [ha.ev]
  generalize (execOp (ev R) o).run P w = r at h1
  cases r with
  | ok x w' =>
    cases x <;> simp only [Oper.quietUpon] at h1 <;> simp only [Oper.upon]
    case value u => obtain ⟨rfl, rfl⟩ := h1; exact hK _ _ (h _ _ (ha.put _ hd) hw)
    case skip => obtain ⟨rfl, rfl⟩ := h1; exact hK _ _ (h _ _ (ha.put _ hd) hw)
    case enter f args =>
      obtain ⟨rfl, hc⟩ := h1
      exact hc.mono fun e w'' ⟨he, hs⟩ => by subst he; exact hK _ _ (h _ _ (ha.put _ hd) hs)
  | halt x w' => simp only [Oper.quietUpon] at h1

/-- A call whose answer may hang on the world, and that may turn what is known. -/
theorem o_call {ops : Array Oper} {o : Oper} {rest : List Oper} {f : FuncId} {args : Array Value} {T : Value → Hp → Prop} (hg : o.guard = none) (hd : dstOk n o = true)
    (hf : ∀ w, (execOp (ev R) o).run P w = .ok (.enter f args) w)
    (hc : ∀ w, St w0 S H w → Calls P f args w fun e w' => ∃ v H', e = .returned v ∧ St w0 S H' w' ∧ T v H')
    (h : ∀ v H', T v H' → opsG P n w0 S ops Q rest (put R o.dst v) H') : opsG P n w0 S ops Q (o :: rest) R H := by
  intro a w ha hw
  refine wpList_plain hg fun K hK => ?_
  unfold Oper.wp
  rw [ha.ev, hf w]
  simp only [Oper.upon]
  exact (hc w hw).mono fun e w' ⟨v, H', he, hs, ht⟩ => by subst he; exact hK _ _ (h v H' ht _ _ (ha.put _ hd) hs)

/-! ### A whole function -/
def regs (args : List Value) : Regs := fun t => (args[t]?).getD undef

/-- What results there are. -/
def Results (P : Program) (R : Regs) (w : World) : List ResultVar → List Value → Prop
  | [], [] => True
  | .tmp t :: rs, v :: vs => v = R t ∧ Results P R w rs vs
  | .cell p ty :: rs, v :: vs => (∃ x, R p = .pointer (some x) ∧ (loadVar ty x).run P w = .ok v w) ∧ Results P R w rs vs
  | _, _ => False

def one : List Value → Value
  | [v] => v
  | vs => .tuple vs.toArray

def resOf (tmps : Array Value) : ResultVar → Sem Value
  | .tmp t => pure (tmps.getD t undef)
  | .cell a t => do loadVar t (← asAddr (tmps.getD a undef))

theorem run_results {fn : Func} {tmps : Array Value} {w : World} (ht : ∀ t, tmps.getD t undef = R t) {vs : List Value} (h : Results P R w fn.results.toList vs) :
    (results fn tmps).run P w = .ok (one vs) w := by
  have key : ∀ (rs : List ResultVar) (vs : List Value), Results P R w rs vs → (rs.mapM (resOf tmps) : Sem (List Value)).run P w = Result.ok vs w := by
    intro rs
    induction rs with
    | nil => intro vs h; cases vs <;> simp [Results] at h ⊢
    | cons r rs ih =>
      intro vs h
      cases vs with
      | nil => cases r <;> simp [Results] at h
      | cons v vs =>
        cases r with
        | tmp t =>
          simp only [Results] at h
          have := ih vs h.2
          rw [List.mapM_cons]
          simp only [Sem.run_bind, this, Result.andThen_ok, resOf, ht, h.1, Sem.run_pure]
        | cell p ty =>
          simp only [Results] at h
          obtain ⟨⟨x, hx, hl⟩, h2⟩ := h
          have := ih vs h2
          rw [List.mapM_cons]
          simp only [Sem.run_bind, this, Result.andThen_ok, resOf, ht, hx, asAddr, Sem.run_pure, hl]
  have h1 := key fn.results.toList vs h
  have e : results fn tmps = (do let vs ← fn.results.mapM (resOf tmps); pure (if h : vs.size = 1 then vs[0] else .tuple vs)) := rfl
  rw [e, Array.mapM_eq_mapM_toList]
  simp only [Sem.run_bind, Sem.run_map, h1]
  simp only [Result.andThen_ok, Sem.run_pure]
  cases vs with
  | nil => simp [one]
  | cons v vs => cases vs <;> simp [one]

/-- The end of a body. -/
def bodyQ (P : Program) (w0 : World) (S : Nat → Prop) (rs : List ResultVar) (T : Value → Hp → Prop) : Exit → Regs → Hp → Prop
  | .normal, R, H | .ret, R, H => ∀ w, St w0 S H w → ∃ vs, Results P R w rs vs ∧ T (one vs) H
  | _, _, _ => False

theorem calls_of {f : FuncId} {fn : Func} {c : Code} {args : List Value} {T : Value → Hp → Prop} (hf : P.funcs[f]? = some fn) (hb : fn.body = some c) (hn : fn.ntmps = n) (hl : args.length ≤ n)
    (rs : List ResultVar) (hrs : fn.results.toList = rs)
    {w : World} (hw : St w0 S H w) (h : codeG P n w0 S c (bodyQ P w0 S rs T) (regs args) H) :
    Calls P f args.toArray w fun e w' => ∃ v H', e = .returned v ∧ St w0 S H' w' ∧ T v H' := by
  refine calls_of_wp hf hb (Code.wp_mono (fun e a' w' q => ?_) (h _ w ⟨?_, rfl, ?_⟩ hw))
  · obtain ⟨R', H', hr, hs, hq⟩ := q
    have fin : (∀ w, St w0 S H' w → ∃ vs, Results P R' w rs vs ∧ T (one vs) H') → a'.defers = [] ∧ ∃ v, (results fn a'.tmps).run P w' = .ok v w' ∧ ∃ v' H'', Ending.returned v = .returned v' ∧ St w0 S H'' w' ∧ T v' H'' := by
      intro hq
      obtain ⟨vs, h1, h2⟩ := hq w' hs
      exact ⟨hr.defers, _, run_results hr.get (by rw [hrs]; exact h1), _, _, rfl, hs, h2⟩
    cases e <;> first | exact fin hq | exact hq.elim
  · simp [hn]; omega
  · intro t
    simp only [Array.getD_eq_getD_getElem?, regs]
    by_cases ht : t < args.length
    · simp [Array.getElem?_append, ht]
    · by_cases ht' : t < n
      · simp [ht, hn, Array.getElem?_append, Array.getElem?_replicate]
        split <;> rfl
      · simp [ht, Array.getElem?_append, Array.getElem?_replicate]
        split <;> rfl
end
end Go.Proofs.Ytpbpenlceigddaa.Eng
