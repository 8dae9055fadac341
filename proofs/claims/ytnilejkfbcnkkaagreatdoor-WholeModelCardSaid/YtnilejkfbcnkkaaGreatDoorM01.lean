/- Proved: the frame of a walk: registers, chunks of memory, the state of a call, code with what comes behind it; for each kind of operation, what it yields and what it leaves of memory; rules for a region whose order is drawn; rules for a region whose order is drawn; rules for a region whose order is drawn; rules of the walk for memory told by chunks, for new memory, calls, closures and panics; the conditions stand in the statements. -/
import Derived.WalkKit
import Derived.KernelRfl
import Derived.Below
import Derived.Orders
import Derived.Deep.Quiet
import Derived.Deep.LoopGhost
import Derived.Deep.MidRow
import Derived.Laws.CopyRow
import Derived.LaidEqlPtr
import Derived.Laws.Pointers
import Derived.Defers
import Derived.Recover
import Derived.Laws.Tables
set_option linter.unusedVariables false
set_option linter.unusedSimpArgs false
set_option linter.unusedSectionVars false
section
namespace Go.Proofs.YtnilejkfbcnkkaaGreatDoor.V
open Go Go.RowKit

abbrev Regs := Nat → Value
abbrev Blks := List (Nat × Obj)
/-- A frame: how many registers, and what is deferred. -/
structure Fp where
  n : Nat
  D : List Deferred

def upd (R : Regs) (d : Nat) (v : Value) : Regs := fun t => if t = d then v else R t
def ev (R : Regs) : Operand → Value
  | .tmp t => R t
  | .const v => v
  | .global g => .pointer (some ⟨g, 0, none⟩)
  | .func f => .func (.func f) #[] #[]
def put (R : Regs) : Option Tmp → Value → Regs
  | some d, v => upd R d v
  | none, _ => R

structure Rep (n : Fp) (a : Act) (R : Regs) : Prop where
  size : a.tmps.size = n.n
  defers : a.defers = n.D
  get : ∀ t, a.tmps.getD t undef = R t

theorem Rep.ev {n : Fp} {a : Act} {R : Regs} (h : Rep n a R) : a.eval = ev R := by
  funext x
  cases x <;> simp [Act.eval, V.ev]
  have := h.get
  rename_i t
  simpa using this t

def dstOk (n : Fp) (o : Oper) : Bool := match o.dst with | some d => decide (d < n.n) | none => true

theorem Rep.put {n : Fp} {a : Act} {R : Regs} (h : Rep n a R) {dst : Option Tmp} (v : Value) (hd : (match dst with | some d => decide (d < n.n) | none => true) = true) : Rep n (a.put dst v) (put R dst v) := by
  cases dst with
  | none => exact h
  | some d =>
    have hd : d < n.n := by simpa using hd
    refine ⟨by simp [Act.put, h.size], h.defers, fun t => ?_⟩
    have := h.get t
    have hs := h.size
    simp only [Act.put, V.put, upd, Array.getD_eq_getD_getElem?, Array.getElem?_setIfInBounds] at this ⊢
    by_cases e : t = d
    · subst e; simp [hs, hd]
    · have e' : ¬ d = t := fun x => e x.symm
      simp only [e, e', if_false]; exact this

/-! ### Blocks that are known -/
structure St0 (w0 : World) (S : Nat → Prop) (H : Blks) (w : World) : Prop where
  at_ : ∀ p ∈ H, w.heap[p.1]? = some p.2
  nd : (H.map Prod.fst).Nodup
  own : ∀ p ∈ H, S p.1 ∨ w0.heap.size ≤ p.1
  os : w.os = w0.os
  tape : w.tape = w0.tape
  output : w.output = w0.output
  le : w0.heap.size ≤ w.heap.size
  fr : ∀ b, b < w0.heap.size → ¬ S b → w.heap[b]? = w0.heap[b]?

namespace St0
variable {w0 w w' : World} {S : Nat → Prop} {H K H' H0 : Blks}
theorem drew (h : St0 w0 S H w) : St0 w0 S H { w with drawn := w.drawn + 1 } := ⟨h.at_, h.nd, h.own, h.os, h.tape, h.output, h.le, h.fr⟩
theorem lt (h : St0 w0 S H w) {p : Nat × Obj} (hp : p ∈ H) : p.1 < w.heap.size := (Array.getElem?_eq_some_iff.1 (h.at_ p hp)).1
theorem alloc (h : St0 w0 S H w) (o : Obj) : St0 w0 S ((w.heap.size, o) :: H) (w.alloc o) := by
  refine ⟨?_, ?_, ?_, h.os, h.tape, h.output, ?_, ?_⟩
  · intro p hp
    rcases List.mem_cons.1 hp with rfl | hp
    · show (w.heap.push o)[w.heap.size]? = _
      simp
    · rw [Below.heap_alloc _ _ _ (h.lt hp)]; exact h.at_ p hp
  · simp only [List.map_cons, List.nodup_cons]
    refine ⟨fun hm => ?_, h.nd⟩
    obtain ⟨p, hp, e⟩ := List.mem_map.1 hm
    have := h.lt hp
    omega
  · intro p hp
    rcases List.mem_cons.1 hp with rfl | hp
    · exact .inr h.le
    · exact h.own p hp
  · have : (w.alloc o).heap.size = w.heap.size + 1 := by simp
    have := h.le; omega
  · intro b hb hs
    rw [Below.heap_alloc _ _ _ (by have := h.le; omega)]
    exact h.fr b hb hs
theorem write (h : St0 w0 S H w) (i : Nat) {g : Nat} {o o' : Obj} (hi : H[i]? = some (g, o))
    (hg : w'.heap[g]? = some o') (hk : ∀ k, k ≠ g → w'.heap[k]? = w.heap[k]?) (hs : w'.heap.size = w.heap.size) (ho : w'.os = w.os) (ht : w'.tape = w.tape) (hp : w'.output = w.output) :
    St0 w0 S (H.set i (g, o')) w' := by
  have hlt : i < H.length := (List.getElem?_eq_some_iff.1 hi).1
  have hv : H[i] = (g, o) := (List.getElem?_eq_some_iff.1 hi).2
  have hids : (H.set i (g, o')).map Prod.fst = H.map Prod.fst := by
    rw [List.map_set]
    have : (H.map Prod.fst)[i]? = some g := by simp [hi]
    apply List.ext_getElem?
    intro j
    rw [List.getElem?_set]
    by_cases e : i = j
    · subst e; simp [hlt, hv]
    · simp [e]
  refine ⟨?_, by rw [hids]; exact h.nd, ?_, ho.trans h.os, ht.trans h.tape, hp.trans h.output, by rw [hs]; exact h.le, ?_⟩
  · intro p hp
    obtain ⟨j, hj⟩ := List.getElem?_of_mem hp
    rw [List.getElem?_set] at hj
    by_cases e : i = j
    · subst e
      simp only [if_true, hlt] at hj
      cases hj; exact hg
    · rw [if_neg e] at hj
      have hne : p.1 ≠ g := by
        intro e2
        have hj1 : (H.map Prod.fst)[j]? = some g := by simp [hj, e2]
        have hi1 : (H.map Prod.fst)[i]? = some g := by simp [hi]
        exact e ((List.getElem?_inj (by simpa using hlt) h.nd).1 (hi1.trans hj1.symm))
      rw [hk p.1 hne]
      exact h.at_ p (List.mem_of_getElem? hj)
  · intro p hp
    have : p.1 ∈ (H.set i (g, o')).map Prod.fst := List.mem_map_of_mem hp
    rw [hids] at this
    obtain ⟨q, hq, e⟩ := List.mem_map.1 this
    rw [← e]; exact h.own q hq
  · intro b hb hS
    have hne : b ≠ g := by
      intro e
      rcases h.own (g, o) (List.mem_of_getElem? hi) with x | x
      · exact hS (e ▸ x)
      · have : w0.heap.size ≤ g := x
        omega
    rw [hk b hne]; exact h.fr b hb hS
theorem drop (h : St0 w0 S H w) (hs : H'.Sublist H) : St0 w0 S H' w :=
  ⟨fun p hp => h.at_ p (hs.subset hp), (h.nd.sublist (hs.map _)), fun p hp => h.own p (hs.subset hp), h.os, h.tape, h.output, h.le, h.fr⟩
theorem perm (h : St0 w0 S H w) (hp : H'.Perm H) : St0 w0 S H' w :=
  ⟨fun p q => h.at_ p (hp.subset q), (hp.map Prod.fst).nodup_iff.2 h.nd, fun p q => h.own p (hp.subset q), h.os, h.tape, h.output, h.le, h.fr⟩
theorem of_below (h : St0 w0 S H w) (hb : Below w.heap.size w w') : St0 w0 S H w' :=
  ⟨fun p hp => (hb.block _ (h.lt hp)).trans (h.at_ p hp), h.nd, h.own, hb.os.trans h.os, hb.tape.trans h.tape, hb.output.trans h.output, Nat.le_trans h.le hb.size,
   fun b hb' hs => (hb.block b (by have := h.le; omega)).trans (h.fr b hb' hs)⟩
end St0

def At (H0 : Blks) (w : World) : Prop := (∀ p ∈ H0, w.heap[p.1]? = some p.2) ∧ (H0.map Prod.fst).Nodup
def ids (H0 : Blks) : Nat → Prop := fun b => b ∈ H0.map Prod.fst
theorem At.st {H0 : Blks} {w : World} (h : At H0 w) : St0 w (ids H0) H0 w :=
  ⟨h.1, h.2, fun p hp => .inl (List.mem_map_of_mem hp), rfl, rfl, rfl, Nat.le_refl _, fun _ _ _ => rfl⟩
theorem St0.at' {w0 w : World} {S : Nat → Prop} {H0 K : Blks} (h : St0 w0 S (H0 ++ K) w) : At H0 w :=
  ⟨fun p hp => h.at_ p (List.mem_append_left _ hp), h.nd.sublist ((List.sublist_append_left H0 K).map _)⟩
theorem St0.call {w0 w w' : World} {S : Nat → Prop} {H0 K H' : Blks} (h : St0 w0 S (H0 ++ K) w) (h' : St0 w (ids H0) H' w') : St0 w0 S (H' ++ K) w' := by
  have hnd := h.nd
  rw [List.map_append, List.nodup_append] at hnd
  obtain ⟨hn0, hnK, hdis⟩ := hnd
  have hKlt : ∀ p ∈ K, p.1 < w.heap.size := fun p hp => h.lt (List.mem_append_right _ hp)
  have hKno : ∀ p ∈ K, ¬ ids H0 p.1 := fun p hp hm => hdis _ hm _ (List.mem_map_of_mem hp) rfl
  refine ⟨?_, ?_, ?_, h'.os.trans h.os, h'.tape.trans h.tape, h'.output.trans h.output, Nat.le_trans h.le h'.le, ?_⟩
  · intro p hp
    rcases List.mem_append.1 hp with hp | hp
    · exact h'.at_ p hp
    · rw [h'.fr p.1 (hKlt p hp) (hKno p hp)]; exact h.at_ p (List.mem_append_right _ hp)
  · rw [List.map_append, List.nodup_append]
    refine ⟨h'.nd, hnK, ?_⟩
    intro a ha b hb e
    obtain ⟨p, hp, rfl⟩ := List.mem_map.1 ha
    obtain ⟨q, hq, rfl⟩ := List.mem_map.1 hb
    rcases h'.own p hp with x | x
    · exact hKno q hq (e ▸ x)
    · have := hKlt q hq; omega
  · intro p hp
    rcases List.mem_append.1 hp with hp | hp
    · rcases h'.own p hp with x | x
      · obtain ⟨q, hq, e⟩ := List.mem_map.1 x
        rw [← e]; exact h.own q (List.mem_append_left _ hq)
      · have := h.le; exact .inr (by omega)
    · exact h.own p (List.mem_append_right _ hp)
  · intro b hb hs
    have hno : ¬ ids H0 b := by
      intro hm
      obtain ⟨q, hq, e⟩ := List.mem_map.1 hm
      rcases h.own q (List.mem_append_left _ hq) with x | x
      · exact hs (e ▸ x)
      · omega
    rw [h'.fr b (by have := h.le; omega) hno]
    exact h.fr b hb hs

/-! ### Chunks: what is said of some blocks -/
structure Chunk where
  tag : Nat
  P : Blks → Prop
abbrev Hp := List Chunk
def Sat : Hp → Blks → Prop
  | [], B => B = []
  | C :: L, B => ∃ B1 B2, B = B1 ++ B2 ∧ C.P B1 ∧ Sat L B2
/-- A block as it stands. -/
def blk (g : Nat) (o : Obj) : Chunk := ⟨0, fun B => B = [(g, o)]⟩
/-- A row of cells as it stands. -/
def cl (g : Nat) (c : List Value) (t : TypeId) : Chunk := ⟨2, fun B => B = [(g, .cells c.toArray t (0, 0))]⟩
def pur (φ : Prop) : Chunk := ⟨1, fun B => φ ∧ B = []⟩

theorem Sat.app {L M : Hp} {B : Blks} : Sat (L ++ M) B ↔ ∃ B1 B2, B = B1 ++ B2 ∧ Sat L B1 ∧ Sat M B2 := by
  induction L generalizing B with
  | nil =>
    constructor
    · intro h; exact ⟨[], B, rfl, rfl, h⟩
    · rintro ⟨_, _, rfl, rfl, h⟩; exact h
  | cons C L ih =>
    simp only [List.cons_append, Sat, ih]
    constructor
    · rintro ⟨B1, _, rfl, hC, B2, B3, rfl, hL, hM⟩
      exact ⟨B1 ++ B2, B3, by simp, ⟨B1, B2, rfl, hC, hL⟩, hM⟩
    · rintro ⟨_, B3, rfl, ⟨B1, B2, rfl, hC, hL⟩, hM⟩
      exact ⟨B1, B2 ++ B3, by simp, hC, B2, B3, rfl, hL, hM⟩

theorem Sat.perm {L M : Hp} (h : L.Perm M) : ∀ {B : Blks}, Sat L B → ∃ B', B'.Perm B ∧ Sat M B' := by
  induction h with
  | nil => intro B h; exact ⟨B, .refl _, h⟩
  | cons C _ ih =>
    rintro _ ⟨B1, B2, rfl, hC, hL⟩
    obtain ⟨B', hp, hs⟩ := ih hL
    exact ⟨B1 ++ B', (List.Perm.refl _).append hp, B1, B', rfl, hC, hs⟩
  | swap C D L =>
    rintro _ ⟨B1, _, rfl, hD, B2, B3, rfl, hC, hL⟩
    refine ⟨B2 ++ (B1 ++ B3), ?_, B2, _, rfl, hC, B1, B3, rfl, hD, hL⟩
    rw [← List.append_assoc, ← List.append_assoc]
    exact List.perm_append_comm.append (.refl _)
  | trans _ _ ih1 ih2 =>
    intro B h
    obtain ⟨B1, p1, h1⟩ := ih1 h
    obtain ⟨B2, p2, h2⟩ := ih2 h1
    exact ⟨B2, p2.trans p1, h2⟩

/-- What is known so is known so, too; less may be. -/
def Ent (L M : Hp) : Prop := ∀ B, Sat L B → ∃ B' K, (B' ++ K).Perm B ∧ Sat M B'

def St (w0 : World) (S : Nat → Prop) (L : Hp) (w : World) : Prop := ∃ B, Sat L B ∧ St0 w0 S B w

theorem St.drew {w0 w : World} {S : Nat → Prop} {H : Hp} (h : St w0 S H w) : St w0 S H { w with drawn := w.drawn + 1 } :=
  let ⟨B, hs, h⟩ := h; ⟨B, hs, h.drew⟩
theorem St.ent {w0 w : World} {S : Nat → Prop} {L M : Hp} (h : St w0 S L w) (he : Ent L M) : St w0 S M w := by
  obtain ⟨B, hs, h⟩ := h
  obtain ⟨B', K, hp, hm⟩ := he B hs
  exact ⟨B', hm, (h.perm hp).drop (List.sublist_append_left _ _)⟩
theorem St.of_below {w0 w w' : World} {S : Nat → Prop} {H : Hp} (h : St w0 S H w) (hb : Below w.heap.size w w') : St w0 S H w' :=
  let ⟨B, hs, h⟩ := h; ⟨B, hs, h.of_below hb⟩

theorem Ent.refl (L : Hp) : Ent L L := fun B h => ⟨B, [], by simp, h⟩
theorem Ent.trans {L M N : Hp} (h : Ent L M) (k : Ent M N) : Ent L N := by
  intro B hB
  obtain ⟨B1, K1, p1, h1⟩ := h B hB
  obtain ⟨B2, K2, p2, h2⟩ := k B1 h1
  exact ⟨B2, K2 ++ K1, by rw [← List.append_assoc]; exact (p2.append (.refl _)).trans p1, h2⟩
theorem Ent.perm {L M : Hp} (h : L.Perm M) : Ent L M := fun B hB => let ⟨B', p, h'⟩ := Sat.perm h hB; ⟨B', [], by simpa using p, h'⟩
theorem Ent.cons {L M : Hp} (C : Chunk) (h : Ent L M) : Ent (C :: L) (C :: M) := by
  rintro _ ⟨B1, B2, rfl, hC, hL⟩
  obtain ⟨B', K, p, h'⟩ := h B2 hL
  exact ⟨B1 ++ B', K, by rw [List.append_assoc]; exact (List.Perm.refl _).append p, B1, B', rfl, hC, h'⟩
theorem Ent.nil {L : Hp} : Ent L [] := fun B _ => ⟨[], B, by simp, rfl⟩
theorem Ent.app {L M L' M' : Hp} (h : Ent L L') (k : Ent M M') : Ent (L ++ M) (L' ++ M') := by
  intro B hB
  obtain ⟨B1, B2, rfl, h1, h2⟩ := Sat.app.1 hB
  obtain ⟨C1, K1, p1, g1⟩ := h _ h1
  obtain ⟨C2, K2, p2, g2⟩ := k _ h2
  refine ⟨C1 ++ C2, K1 ++ K2, ?_, Sat.app.2 ⟨_, _, rfl, g1, g2⟩⟩
  refine List.Perm.trans ?_ (p1.append p2)
  rw [List.append_assoc, List.append_assoc]
  refine (List.Perm.refl _).append ?_
  rw [← List.append_assoc, ← List.append_assoc]
  exact List.perm_append_comm.append (.refl _)
theorem Ent.appL {L M : Hp} (h : Ent L M) (K : Hp) : Ent (L ++ K) (M ++ K) := h.app (.refl K)

/-- C is in L; the others are K. -/
def Sel (C : Chunk) (L K : Hp) : Prop := L.Perm (C :: K)
theorem Sel.hd {C : Chunk} {L : Hp} : Sel C (C :: L) L := .refl _
theorem Sel.tl {C D : Chunk} {L K : Hp} (h : Sel C L K) : Sel C (D :: L) (D :: K) := (List.Perm.cons D h).trans (.swap C D K)
def Pick (M L K : Hp) : Prop := L.Perm (M ++ K)
theorem Pick.nil {L : Hp} : Pick [] L L := .refl _
theorem Pick.cons {C : Chunk} {M L L1 K : Hp} (h : Sel C L L1) (k : Pick M L1 K) : Pick (C :: M) L K := List.Perm.trans h (List.Perm.cons C k)
theorem Ent.sel {C : Chunk} {L K M : Hp} (h : Sel C L K) (k : Ent K M) : Ent L (C :: M) := (Ent.perm h).trans (Ent.cons C k)
/-- In the place of C there is C' now. -/
def Upd (L : Hp) (C C' : Chunk) (L' : Hp) : Prop := ∃ K, L.Perm (C :: K) ∧ (C' :: K).Perm L'
theorem Upd.hd {C C' : Chunk} {L : Hp} : Upd (C :: L) C C' (C' :: L) := ⟨L, .refl _, .refl _⟩
theorem Upd.tl {C C' D : Chunk} {L L' : Hp} (h : Upd L C C' L') : Upd (D :: L) C C' (D :: L') := by
  obtain ⟨K, p, q⟩ := h
  exact ⟨D :: K, (List.Perm.cons D p).trans (.swap C D K), (List.Perm.swap D C' K).trans (List.Perm.cons D q)⟩
/-- What C says of its blocks, taken apart: facts, and other chunks. -/
def Opens {γ : Type} (C : Chunk) (M : γ → Hp) : Prop := ∀ B, C.P B → ∃ x, Sat (M x) B
def Folds (M : Hp) (C : Chunk) : Prop := ∀ B, Sat M B → C.P B
theorem Ent.fold {M L K : Hp} {C : Chunk} (hf : Folds M C) (h : Ent L (M ++ K)) : Ent L (C :: K) := by
  intro B hB
  obtain ⟨B', T, p, h'⟩ := h B hB
  obtain ⟨B1, B2, rfl, h1, h2⟩ := Sat.app.1 h'
  exact ⟨_, T, p, B1, B2, rfl, hf _ h1, h2⟩

theorem Sat.mem {L : Hp} {C : Chunk} (h : C ∈ L) {B : Blks} (hB : Sat L B) : ∃ B1, C.P B1 ∧ ∀ p ∈ B1, p ∈ B := by
  induction L generalizing B with
  | nil => simp at h
  | cons D L ih =>
    obtain ⟨B1, B2, rfl, hD, hL⟩ := hB
    rcases List.mem_cons.1 h with rfl | h
    · exact ⟨B1, hD, fun p hp => List.mem_append_left _ hp⟩
    · obtain ⟨B3, h3, h4⟩ := ih h hL
      exact ⟨B3, h3, fun p hp => List.mem_append_right _ (h4 p hp)⟩
theorem St.blk {w0 w : World} {S : Nat → Prop} {L : Hp} {g : Nat} {o : Obj} (h : St w0 S L w) (hm : blk g o ∈ L) : w.heap[g]? = some o := by
  obtain ⟨B, hs, h⟩ := h
  obtain ⟨B1, h1, h2⟩ := Sat.mem hm hs
  have h1 : B1 = [(g, o)] := h1
  exact h.at_ (g, o) (h2 _ (by simp [h1]))
theorem St.cl {w0 w : World} {S : Nat → Prop} {L : Hp} {g : Nat} {c : List Value} {t : TypeId} (h : St w0 S L w) (hm : cl g c t ∈ L) : w.heap[g]? = some (.cells c.toArray t (0, 0)) := by
  obtain ⟨B, hs, h⟩ := h
  obtain ⟨B1, h1, h2⟩ := Sat.mem hm hs
  have h1 : B1 = [(g, .cells c.toArray t (0, 0))] := h1
  exact h.at_ (g, _) (h2 _ (by simp [h1]))
theorem St.alloc {w0 w : World} {S : Nat → Prop} {L : Hp} (h : St w0 S L w) (o : Obj) : St w0 S (V.blk w.heap.size o :: L) (w.alloc o) := by
  obtain ⟨B, hs, h⟩ := h
  exact ⟨_, ⟨[(w.heap.size, o)], B, rfl, rfl, hs⟩, h.alloc o⟩
theorem St.allocC {w0 w : World} {S : Nat → Prop} {L : Hp} (h : St w0 S L w) (c : List Value) (t : TypeId) : St w0 S (V.cl w.heap.size c t :: L) (w.alloc (.cells c.toArray t (0, 0))) := by
  obtain ⟨B, hs, h⟩ := h
  exact ⟨_, ⟨[(w.heap.size, _)], B, rfl, rfl, hs⟩, h.alloc _⟩
/-- One block is another one now. -/
theorem St.write {w0 w w' : World} {S : Nat → Prop} {L L' : Hp} {C C' : Chunk} {g : Nat} {o o' : Obj} (h : St w0 S L w) (hu : Upd L C C' L') (hC : ∀ B, C.P B → B = [(g, o)]) (hC' : C'.P [(g, o')])
    (hg : w'.heap[g]? = some o') (hk : ∀ k, k ≠ g → w'.heap[k]? = w.heap[k]?) (hs : w'.heap.size = w.heap.size) (ho : w'.os = w.os) (ht : w'.tape = w.tape) (hp : w'.output = w.output) : St w0 S L' w' := by
  obtain ⟨K, p, q⟩ := hu
  obtain ⟨B, ⟨B1, B2, rfl, h1, h2⟩, h⟩ := h.ent (.perm p)
  have h1 := hC _ h1
  subst h1
  have := h.write 0 (g := g) (o := o) (o' := o') rfl hg hk hs ho ht hp
  have hs2 : Sat (C' :: K) ([(g, o')] ++ B2) := ⟨_, _, rfl, hC', h2⟩
  exact St.ent (L := C' :: K) ⟨_, hs2, this⟩ (.perm q)
theorem St.call {w0 w w' : World} {S : Nat → Prop} {K L' : Hp} {B0 BK : Blks} (h : St0 w0 S (B0 ++ BK) w) (hK : Sat K BK) (h' : St w (ids B0) L' w') : St w0 S (L' ++ K) w' := by
  obtain ⟨B', hs, h'⟩ := h'
  exact ⟨_, Sat.app.2 ⟨_, _, rfl, hs, hK⟩, h.call h'⟩

/-! ### A goal: whatever holds of a state, 'Y' holds of the machine -/
section
variable (P : Program) (n : Fp) (w0 : World) (S : Nat → Prop)
def G (Y : Act → World → Prop) (R : Regs) (L : Hp) : Prop := ∀ a w, Rep n a R → St w0 S L w → Y a w
end

inductive Fr where
  | seq (c : Code)
  | blk (id : Nat)
  | loop (J : Act → World → Prop)
  | join (J : Act → World → Prop)

abbrev Post := Exit → Act → World → Prop
def contQ (P : Program) (X : Post) : List Fr → Post
  | [] => X
  | .seq c :: ks => Exit.then (c.wp P (contQ P X ks)) (contQ P X ks)
  | .blk id :: ks => Exit.inBlock id (contQ P X ks)
  | .loop J :: ks => Exit.then J (contQ P X ks)
  | .join J :: ks => Exit.then J (contQ P X ks)

abbrev Run (P : Program) (n : Fp) (w0 : World) (S : Nat → Prop) (X : Post) (c : Code) (ks : List Fr) (R : Regs) (L : Hp) : Prop := G n w0 S (c.wp P (contQ P X ks)) R L
abbrev Ex (P : Program) (n : Fp) (w0 : World) (S : Nat → Prop) (X : Post) (e : Exit) (ks : List Fr) (R : Regs) (L : Hp) : Prop := G n w0 S (contQ P X ks e) R L
/-- Operations of a region, in the text's order, from one on. -/
abbrev Ops (P : Program) (n : Fp) (w0 : World) (S : Nat → Prop) (ops : Array Oper) (X : Post) (l : List Oper) (R : Regs) (L : Hp) : Prop := G n w0 S (wpList P ops X l) R L

section
variable {P : Program} {n : Fp} {w0 : World} {S : Nat → Prop} {X : Post} {ks : List Fr} {R : Regs} {L : Hp} {Y : Act → World → Prop}

theorem G.ent {M : Hp} (he : Ent L M) (h : G n w0 S Y R M) : G n w0 S Y R L := fun a w ha hw => h a w ha (hw.ent he)
theorem G.mono {Y' : Act → World → Prop} (hy : ∀ a w, Y a w → Y' a w) (h : G n w0 S Y R L) : G n w0 S Y' R L := fun a w ha hw => hy _ _ (h a w ha hw)
theorem G.open_ {γ : Type} {C : Chunk} {M : γ → Hp} {K : Hp} (ho : Opens C M) (hs : Sel C L K) (h : ∀ x, G n w0 S Y R (M x ++ K)) : G n w0 S Y R L := by
  intro a w ha hw
  obtain ⟨B, ⟨B1, B2, rfl, h1, h2⟩, hw⟩ := hw.ent (.perm hs)
  obtain ⟨x, hx⟩ := ho _ h1
  exact h x a w ha ⟨_, Sat.app.2 ⟨_, _, rfl, hx, h2⟩, hw⟩
theorem G.fold {C : Chunk} {M K : Hp} (hf : Folds M C) (hp : Pick M L K) (h : G n w0 S Y R (C :: K)) : G n w0 S Y R L :=
  G.ent (Ent.fold hf (.perm hp)) h
theorem G.pure {φ : Prop} {K : Hp} (hs : Sel (pur φ) L K) (h : φ → G n w0 S Y R K) : G n w0 S Y R L := by
  intro a w ha hw
  obtain ⟨B, ⟨B1, B2, rfl, ⟨hφ, rfl⟩, h2⟩, hw⟩ := hw.ent (.perm hs)
  exact h hφ a w ha ⟨B2, h2, hw⟩

/-! ### Code -/
theorem r_seq {x y : Code} (h : Run P n w0 S X x (.seq y :: ks) R L) : Run P n w0 S X (.seq x y) ks R L := fun a w ha hw => wp_seq (h a w ha hw)
theorem r_skip (h : Ex P n w0 S X .normal ks R L) : Run P n w0 S X .skip ks R L := fun a w ha hw => wp_skip (h a w ha hw)
theorem r_label {l : Nat} (h : Ex P n w0 S X .normal ks R L) : Run P n w0 S X (.label l) ks R L := fun a w ha hw => wp_label (h a w ha hw)
theorem r_exit {id : Nat} (h : Ex P n w0 S X (.exit id) ks R L) : Run P n w0 S X (.exit id) ks R L := fun a w ha hw => wp_exit (h a w ha hw)
theorem r_block {id : Nat} {c : Code} (h : Run P n w0 S X c (.blk id :: ks) R L) : Run P n w0 S X (.block id c) ks R L := fun a w ha hw => wp_block (h a w ha hw)
theorem r_true {c : Operand} {x y : Code} (hc : ev R c = .bool true) (h : Run P n w0 S X x ks R L) : Run P n w0 S X (.cond c x y) ks R L :=
  fun a w ha hw => wp_cond_true (by rw [ha.ev]; exact hc) (h a w ha hw)
theorem r_false {c : Operand} {x y : Code} (hc : ev R c = .bool false) (h : Run P n w0 S X y ks R L) : Run P n w0 S X (.cond c x y) ks R L :=
  fun a w ha hw => wp_cond_false (by rw [ha.ev]; exact hc) (h a w ha hw)
/-- A test that is open: two ways. -/
theorem r_if {c : Operand} {x y : Code} {p : Prop} {d : Decidable p} (hc : ev R c = .bool (@decide p d)) (ht : p → Run P n w0 S X x ks R L) (hf : ¬ p → Run P n w0 S X y ks R L) : Run P n w0 S X (.cond c x y) ks R L := by
  by_cases hp : p
  · exact r_true (hc.trans (by simp [hp])) (ht hp)
  · exact r_false (hc.trans (by simp [hp])) (hf hp)
theorem r_ifn {c : Operand} {x y : Code} {p : Prop} {d : Decidable p} (hc : ev R c = .bool (!(@decide p d))) (ht : ¬ p → Run P n w0 S X x ks R L) (hf : p → Run P n w0 S X y ks R L) : Run P n w0 S X (.cond c x y) ks R L := by
  by_cases hp : p
  · exact r_false (hc.trans (by simp [hp])) (hf hp)
  · exact r_true (hc.trans (by simp [hp])) (ht hp)
theorem r_ifb {c : Operand} {x y : Code} {b : Bool} (hc : ev R c = .bool b) (ht : b = true → Run P n w0 S X x ks R L) (hf : b = false → Run P n w0 S X y ks R L) : Run P n w0 S X (.cond c x y) ks R L := by
  cases b
  · exact r_false hc (hf rfl)
  · exact r_true hc (ht rfl)
theorem r_region {id : Nat} {l : List Oper} (h : Ops P n w0 S l.toArray (contQ P X ks) l R L) : Run P n w0 S X (.region id l.toArray false) ks R L := fun a w ha hw => wp_region_lit (h a w ha hw)
theorem ops_nil {ops : Array Oper} (h : Ex P n w0 S X .normal ks R L) : Ops P n w0 S ops (contQ P X ks) [] R L := h

/-- Where one comes to behind an exit. -/
def jump : Exit → List Fr → Option (Code × List Fr)
  | .normal, .seq c :: ks => some (c, ks)
  | .normal, .blk _ :: ks => jump .normal ks
  | .exit i, .blk j :: ks => if i = j then jump .normal ks else jump (.exit i) ks
  | .exit i, .seq _ :: ks => jump (.exit i) ks
  | .exit i, .loop _ :: ks => jump (.exit i) ks
  | .exit i, .join _ :: ks => jump (.exit i) ks
  | _, _ => none
def land : Exit → List Fr → Option (Act → World → Prop)
  | .normal, .loop J :: _ => some J
  | .normal, .join J :: _ => some J
  | .normal, .blk _ :: ks => land .normal ks
  | .exit i, .blk j :: ks => if i = j then land .normal ks else land (.exit i) ks
  | .exit i, .seq _ :: ks => land (.exit i) ks
  | .exit i, .loop _ :: ks => land (.exit i) ks
  | .exit i, .join _ :: ks => land (.exit i) ks
  | _, _ => none
def ends : Exit → List Fr → Option Exit
  | e, [] => some e
  | .normal, .blk _ :: ks => ends .normal ks
  | .exit i, .blk j :: ks => if i = j then ends .normal ks else ends (.exit i) ks
  | .exit i, _ :: ks => ends (.exit i) ks
  | .ret, _ :: ks => ends .ret ks
  | .panic ch, _ :: ks => ends (.panic ch) ks
  | _, _ => none

theorem jump_ok : ∀ {e : Exit} {ks ks' : List Fr} {c : Code}, jump e ks = some (c, ks') → ∀ a w, c.wp P (contQ P X ks') a w → contQ P X ks e a w
  | e, [], ks', c, h => by cases e <;> simp [jump] at h
  | e, f :: ks, ks', c, h => by
    intro a w hw
    cases e with
    | normal =>
      cases f with
      | seq d => simp only [jump, Option.some.injEq, Prod.mk.injEq] at h; obtain ⟨rfl, rfl⟩ := h; exact hw
      | blk j => simp only [jump] at h; exact jump_ok h a w hw
      | _ => simp [jump] at h
    | exit i =>
      cases f with
      | seq d => simp only [jump] at h; exact jump_ok h a w hw
      | loop d => simp only [jump] at h; exact jump_ok h a w hw
      | join d => simp only [jump] at h; exact jump_ok h a w hw
      | blk j =>
        simp only [jump] at h
        simp only [contQ, Exit.inBlock]
        split
        · rename_i e; rw [if_pos e] at h; exact jump_ok h a w hw
        · rename_i e; rw [if_neg e] at h; exact jump_ok h a w hw
    | _ => simp [jump] at h
theorem land_ok : ∀ {e : Exit} {ks : List Fr} {J : Act → World → Prop}, land e ks = some J → ∀ a w, J a w → contQ P X ks e a w
  | e, [], J, h => by cases e <;> simp [land] at h
  | e, f :: ks, J, h => by
    intro a w hw
    cases e with
    | normal =>
      cases f with
      | seq d => simp [land] at h
      | blk j => simp only [land] at h; exact land_ok h a w hw
      | loop K => simp only [land, Option.some.injEq] at h; subst h; exact hw
      | join K => simp only [land, Option.some.injEq] at h; subst h; exact hw
    | exit i =>
      cases f with
      | seq d => simp only [land] at h; exact land_ok h a w hw
      | loop d => simp only [land] at h; exact land_ok h a w hw
      | join d => simp only [land] at h; exact land_ok h a w hw
      | blk j =>
        simp only [land] at h
        simp only [contQ, Exit.inBlock]
        split
        · rename_i e; rw [if_pos e] at h; exact land_ok h a w hw
        · rename_i e; rw [if_neg e] at h; exact land_ok h a w hw
    | _ => simp [land] at h
theorem ends_ok : ∀ {ks : List Fr} {e e' : Exit}, ends e ks = some e' → ∀ a w, X e' a w → contQ P X ks e a w
  | [], e, e', h => by intro a w hw; cases e <;> simp [ends] at h <;> subst h <;> exact hw
  | f :: ks, e, e', h => by
    intro a w hw
    cases e with
    | normal =>
      cases f with
      | blk j => simp only [ends] at h; exact ends_ok h a w hw
      | _ => simp [ends] at h
    | exit i =>
      cases f with
      | seq d => simp only [ends] at h; exact ends_ok h a w hw
      | loop d => simp only [ends] at h; exact ends_ok h a w hw
      | join d => simp only [ends] at h; exact ends_ok h a w hw
      | blk j =>
        simp only [ends] at h
        simp only [contQ, Exit.inBlock]
        split
        · rename_i e; rw [if_pos e] at h; exact ends_ok h a w hw
        · rename_i e; rw [if_neg e] at h; exact ends_ok h a w hw
    | ret => cases f <;> (simp only [ends] at h; exact ends_ok (ks := ks) h a w hw)
    | panic ch => cases f <;> (simp only [ends] at h; exact ends_ok (ks := ks) h a w hw)
    | _ => cases f <;> simp [ends] at h
theorem ex_jump {e : Exit} {ks' : List Fr} {c : Code} (h : jump e ks = some (c, ks')) (k : Run P n w0 S X c ks' R L) : Ex P n w0 S X e ks R L := G.mono (jump_ok h) k
theorem ex_land {e : Exit} {J : Act → World → Prop} (h : land e ks = some J) (k : G n w0 S J R L) : Ex P n w0 S X e ks R L := G.mono (land_ok h) k
theorem ex_ends {e e' : Exit} (h : ends e ks = some e') (k : G n w0 S (X e') R L) : Ex P n w0 S X e ks R L := G.mono (ends_ok h) k
theorem ret_ends : ∀ {ks : List Fr}, ends .ret ks = some .ret
  | [] => rfl
  | f :: ks => by cases f <;> (simp only [ends]; exact ret_ends)
theorem panic_ends {ch : List PanicEntry} : ∀ {ks : List Fr}, ends (.panic ch) ks = some (.panic ch)
  | [] => rfl
  | f :: ks => by cases f <;> (simp only [ends]; exact panic_ends)
theorem r_ret (k : G n w0 S (X .ret) R L) : Run P n w0 S X .ret ks R L := fun a w ha hw => wp_ret (ends_ok ret_ends a w (k a w ha hw))
theorem ex_panic {ch : List PanicEntry} (k : G n w0 S (X (.panic ch)) R L) : Ex P n w0 S X (.panic ch) ks R L := ex_ends panic_ends k

/-! ### Loops and joins -/
def Slots (R : Regs) : List (Nat × Value) → Prop
  | [] => True
  | (t, v) :: l => R t = v ∧ Slots R l
def rg : List (Nat × Value) → Regs → Regs
  | [], B => B
  | (t, v) :: l, B => upd (rg l B) t v
theorem Slots.eq {R : Regs} : ∀ {l : List (Nat × Value)}, Slots R l → R = rg l R
  | [], _ => rfl
  | (t, v) :: l, h => by
    have h2 := h.2.eq
    funext k
    simp only [rg, upd]
    split
    · rename_i e; rw [e]; exact h.1
    · exact congrFun h2 k
/-- What a round hands on. -/
def LoopJ (n : Fp) (w0 : World) (S : Nat → Prop) {γ : Type} (sl : γ → List (Nat × Value)) (hp : γ → Hp) (I : γ → Prop) (μ : γ → Nat) (g : γ) : Act → World → Prop :=
  fun a w => ∃ g' R', I g' ∧ μ g' < μ g ∧ Slots R' (sl g') ∧ Rep n a R' ∧ St w0 S (hp g') w
theorem r_loop {γ : Type} (sl : γ → List (Nat × Value)) (hp : γ → Hp) (I : γ → Prop) (μ : γ → Nat) (g0 : γ) {c : Code} (h0 : Slots R (sl g0)) (he : Ent L (hp g0)) (hI : I g0)
    (step : ∀ g B, I g → Run P n w0 S X c (.loop (LoopJ n w0 S sl hp I μ g) :: ks) (rg (sl g) B) (hp g)) : Run P n w0 S X (.loop c) ks R L := by
  intro a w ha hw
  refine wp_loop_ghost (fun d a w => ∃ g R', I g ∧ μ g = d ∧ Slots R' (sl g) ∧ Rep n a R' ∧ St w0 S (hp g) w) (μ g0) ⟨g0, R, hI, rfl, h0, ha, hw.ent he⟩ ?_
  rintro d a w ⟨g, R', hI, rfl, hs, ha, hw⟩
  rw [hs.eq] at ha
  refine Code.wp_mono (fun e a' w' q => ?_) (step g R' hI a w ha hw)
  cases e with
  | normal => obtain ⟨g', R'', h1, h2, h3, h4, h5⟩ := q; exact ⟨_, h2, g', R'', h1, rfl, h3, h4, h5⟩
  | _ => exact q
theorem l_loop {γ : Type} {sl : γ → List (Nat × Value)} {hp : γ → Hp} {I : γ → Prop} {μ : γ → Nat} {g : γ} (g' : γ) (hI : I g') (hm : μ g' < μ g) (hs : Slots R (sl g')) (he : Ent L (hp g')) : G n w0 S (LoopJ n w0 S sl hp I μ g) R L :=
  fun a w ha hw => ⟨g', R, hI, hm, hs, ha, hw.ent he⟩
def JoinJ (n : Fp) (w0 : World) (S : Nat → Prop) {γ : Type} (sl : γ → List (Nat × Value)) (hp : γ → Hp) (I : γ → Prop) : Act → World → Prop :=
  fun a w => ∃ g R', I g ∧ Slots R' (sl g) ∧ Rep n a R' ∧ St w0 S (hp g) w
theorem r_join {γ : Type} (sl : γ → List (Nat × Value)) (hp : γ → Hp) (I : γ → Prop) {x y : Code} (h : Run P n w0 S X x (.join (JoinJ n w0 S sl hp I) :: .seq y :: ks) R L)
    (k : ∀ g B, I g → Run P n w0 S X y ks (rg (sl g) B) (hp g)) : Run P n w0 S X (.seq x y) ks R L := by
  intro a w ha hw
  refine wp_seq (Code.wp_mono (fun e a' w' q => ?_) (h a w ha hw))
  cases e with
  | normal =>
    obtain ⟨g, R', hI, hs, hr, hw⟩ := q
    rw [hs.eq] at hr
    exact k g R' hI a' w' hr hw
  | _ => exact q
theorem l_join {γ : Type} {sl : γ → List (Nat × Value)} {hp : γ → Hp} {I : γ → Prop} (g : γ) (hI : I g) (hs : Slots R (sl g)) (he : Ent L (hp g)) : G n w0 S (JoinJ n w0 S sl hp I) R L :=
  fun a w ha hw => ⟨g, R, hI, hs, ha, hw.ent he⟩
end

/-! ### A whole function -/
def regs (args : List Value) : Regs := fun t => (args[t]?).getD undef
def Results (P : Program) (R : Regs) (w : World) : List ResultVar → List Value → Prop
  | [], [] => True
  | .tmp t :: rs, v :: vs => v = R t ∧ Results P R w rs vs
  | .cell p ty :: rs, v :: vs => (∃ x, R p = .pointer (some x) ∧ (loadVar ty x).run P w = .ok v w) ∧ Results P R w rs vs
  | _, _ => False
def one : List Value → Value
  | [v] => v
  | vs => .tuple vs.toArray
def resOf (tmps : Array Value) : ResultVar → Sem Value
  | .tmp t => pure (tmps.getD t undef)
  | .cell a t => do loadVar t (← asAddr (tmps.getD a undef))
theorem run_results {P : Program} {R : Regs} {fn : Func} {tmps : Array Value} {w : World} (ht : ∀ t, tmps.getD t undef = R t) {vs : List Value} (h : Results P R w fn.results.toList vs) :
    (results fn tmps).run P w = .ok (one vs) w := by
  have key : ∀ (rs : List ResultVar) (vs : List Value), Results P R w rs vs → (rs.mapM (resOf tmps) : Sem (List Value)).run P w = Result.ok vs w := by
    intro rs
    induction rs with
    | nil => intro vs h; cases vs <;> simp [Results] at h ⊢
    | cons r rs ih =>
      intro vs h
      cases vs with
      | nil => cases r <;> simp [Results] at h
      | cons v vs =>
        cases r with
        | tmp t =>
          simp only [Results] at h
          have := ih vs h.2
          rw [List.mapM_cons]
          simp only [Sem.run_bind, this, Result.andThen_ok, resOf, ht, h.1, Sem.run_pure]
        | cell p ty =>
          simp only [Results] at h
          obtain ⟨⟨x, hx, hl⟩, h2⟩ := h
          have := ih vs h2
          rw [List.mapM_cons]
          simp only [Sem.run_bind, this, Result.andThen_ok, resOf, ht, hx, asAddr, Sem.run_pure, hl]
  have h1 := key fn.results.toList vs h
  have e : results fn tmps = (do let vs ← fn.results.mapM (resOf tmps); pure (if h : vs.size = 1 then vs[0] else .tuple vs)) := rfl
  rw [e, Array.mapM_eq_mapM_toList]
  simp only [Sem.run_bind, Sem.run_map, h1]
  simp only [Result.andThen_ok, Sem.run_pure]
  cases vs with
  | nil => simp [one]
  | cons v vs => cases vs <;> simp [one]

inductive Out where
  | ret (v : Value)
  | pan (v : Value)
def Out.ending : Out → Ending
  | .ret v => .returned v
  | .pan v => .panicked [{ v := v, recovered := false }]
def After (w : World) (B : Blks) (Q : Out → Hp → Prop) : Ending → World → Prop := fun e w' => ∃ o L', e = o.ending ∧ Q o L' ∧ St w (ids B) L' w'
/-- A function's contract: called so, where the chunks 'L' are there, it ends so. -/
def CtP (P : Program) (f : FuncId) (args : List Value) (L : Hp) (Q : Out → Hp → Prop) : Prop :=
  ∀ w B, Sat L B → At B w → Calls P f args.toArray w (After w B Q)
def retQ (Q : Value → Hp → Prop) : Out → Hp → Prop := fun o L => ∃ v, o = .ret v ∧ Q v L
abbrev Ct (P : Program) (f : FuncId) (args : List Value) (L : Hp) (Q : Value → Hp → Prop) : Prop := CtP P f args L (retQ Q)
/-- It leaves all as it is, and answers v. -/
abbrev CtV (P : Program) (f : FuncId) (args : List Value) (L : Hp) (v : Value) : Prop := Ct P f args L (fun v' L' => v' = v ∧ L' = L)

def XF (P : Program) (fn : Func) (w0 : World) (B : Blks) (Q : Out → Hp → Prop) : Post := bodyPostD P fn (After w0 B Q)

theorem fn_of {P : Program} {f : FuncId} {fn : Func} {c : Code} {args : List Value} {L : Hp} {Q : Out → Hp → Prop} {N : Nat} (hf : P.funcs[f]? = some fn) (hb : fn.body = some c) (hn : fn.ntmps = N) (hl : Nat.ble args.length N = true)
    (h : ∀ w B, Run P ⟨N, []⟩ w (ids B) (XF P fn w B Q) c [] (regs args) L) : CtP P f args L Q := by
  intro w B hs hat
  refine calls_of_wp_defers hf hb (Code.wp_mono (fun e a' w' q => q) (h w B _ w ⟨?_, rfl, ?_⟩ ⟨B, hs, hat.st⟩))
  · have hl := Nat.le_of_ble_eq_true hl
    simp [hn]; omega
  · intro t
    have hl := Nat.le_of_ble_eq_true hl
    simp only [regs, hn, Array.getD_eq_getD_getElem?, Array.getElem?_append, List.size_toArray, List.getElem?_toArray]
    by_cases ht : t < args.length
    · simp [ht]
    · rw [if_neg ht]
      simp only [Array.getElem?_replicate]
      rw [List.getElem?_eq_none (by omega)]
      split <;> simp

/-- The end of a function that deferred nothing. -/
theorem fin_ret {P : Program} {fn : Func} {N : Nat} {w0 : World} {B : Blks} {Q : Out → Hp → Prop} {R : Regs} {L L' : Hp} {vs : List Value} (hr : ∀ w, St w0 (ids B) L w → Results P R w fn.results.toList vs) (hQ : Q (.ret (one vs)) L') (he : Ent L L') :
    G ⟨N, []⟩ w0 (ids B) (XF P fn w0 B Q .ret) R L := by
  intro a w ha hw
  have hd : a.defers = [] := ha.defers
  have hr := run_results ha.get (hr w hw)
  have : Leaves P fn a.tmps (After w0 B Q) [] .returning w := ⟨_, hr, _, _, rfl, hQ, hw.ent he⟩
  have h2 : Leaves P fn a.tmps (After w0 B Q) a.defers .returning w := by rw [hd]; exact this
  exact h2
theorem fin_normal {P : Program} {fn : Func} {N : Nat} {w0 : World} {B : Blks} {Q : Out → Hp → Prop} {R : Regs} {L : Hp} (h : G ⟨N, []⟩ w0 (ids B) (XF P fn w0 B Q .ret) R L) :
    G ⟨N, []⟩ w0 (ids B) (XF P fn w0 B Q .normal) R L := h
theorem fin_panic {P : Program} {fn : Func} {N : Nat} {w0 : World} {B : Blks} {Q : Out → Hp → Prop} {R : Regs} {L L' : Hp} {v : Value} (hQ : Q (.pan v) L') (he : Ent L L') :
    G ⟨N, []⟩ w0 (ids B) (XF P fn w0 B Q (.panic [{ v := v, recovered := false }])) R L := by
  intro a w ha hw
  have hd : a.defers = [] := ha.defers
  have : Leaves P fn a.tmps (After w0 B Q) [] (.panicking [{ v := v, recovered := false }]) w := ⟨_, _, rfl, hQ, hw.ent he⟩
  have h2 : Leaves P fn a.tmps (After w0 B Q) a.defers (.panicking [{ v := v, recovered := false }]) w := by rw [hd]; exact this
  exact h2
theorem CtP.mono {P : Program} {f : FuncId} {args : List Value} {L : Hp} {Q Q' : Out → Hp → Prop} (h : CtP P f args L Q) (hq : ∀ o L', Q o L' → Q' o L') : CtP P f args L Q' :=
  fun w B hs hat => (h w B hs hat).mono fun e w' ⟨o, L', h1, h2, h3⟩ => ⟨o, L', h1, hq _ _ h2, h3⟩
end Go.Proofs.YtnilejkfbcnkkaaGreatDoor.V
end
section
namespace Go.Proofs.YtnilejkfbcnkkaaGreatDoor.V
open Go Go.RowKit

/-! ### What the program says of its types -/
class UT (P : Program) (t : TypeId) (d : outParam TypeDesc) : Prop where h : P.underlying t = some d
/-- a type of one cell; one of a row of cells -/
class SC (P : Program) (t : TypeId) : Prop where h : ∃ d, P.underlying t = some d ∧ d.isRow = false
class RW (P : Program) (t : TypeId) : Prop where h : ∃ d, P.underlying t = some d ∧ d.isRow = true
class SZ (P : Program) (t : TypeId) (k : outParam Nat) : Prop where h : (P.info? t).map (·.size) = some k
/-- the place of a struct's field -/
class FLD (P : Program) (s : TypeId) (i : Nat) (k : outParam Nat) : Prop where h : ∃ fs f m, P.underlying s = some (.struct fs) ∧ fs[i]? = some f ∧ f.offset = k ∧ (P.info? f.type).map (·.size) = some (m + 1)
/-- the type's cells where nothing was written -/
class ZV (P : Program) (t : TypeId) (c : outParam (List Value)) : Prop where h : ∃ z, (P.info? t).map (·.zero) = some (some z) ∧ z.cells.toList = c
def Bodied (P : Program) (f : FuncId) : Prop := ∃ fn, P.funcs[f]? = some fn ∧ (fn.name == "runtime.NumGoroutine") = false ∧ fn.body.isNone = false
class BD (P : Program) (f : FuncId) : Prop where h : Bodied P f
/-- values of one cell, and lists of such -/
class OneV (v : Value) : Prop where
  h : v.oneCell' = true
  c : v.cells = #[v]
class OneL (l : List Value) : Prop where h : ∀ u ∈ l, u.oneCell' = true
instance {b} : OneV (.bool b) := ⟨rfl, rfl⟩
instance {k n} : OneV (.int k n) := ⟨rfl, rfl⟩
instance {a} : OneV (.pointer a) := ⟨rfl, rfl⟩
instance {a l c} : OneV (.slice a l c) := ⟨rfl, rfl⟩
instance {r} : OneV (.map r) := ⟨rfl, rfl⟩
instance {f a b} : OneV (.func f a b) := ⟨rfl, rfl⟩
instance : OneV .nilFunc := ⟨rfl, rfl⟩
instance {t v} : OneV (.iface t v) := ⟨rfl, rfl⟩
instance : OneV .nilIface := ⟨rfl, rfl⟩
instance : OneL [] := ⟨fun _ h => by cases h⟩
instance {v l} [a : OneV v] [b : OneL l] : OneL (v :: l) := ⟨fun u h => by rcases List.mem_cons.1 h with rfl | h; exact a.h; exact b.h u h⟩
instance {l m} [a : OneL l] [b : OneL m] : OneL (l ++ m) := ⟨fun u h => by rcases List.mem_append.1 h with h | h; exact a.h u h; exact b.h u h⟩
class LenL (l : List Value) (n : outParam Nat) : Prop where h : l.length = n
instance : LenL [] 0 := ⟨rfl⟩
instance {v l n} [a : LenL l n] : LenL (v :: l) (n + 1) := ⟨by simp [a.h]⟩
instance {l m n k} [a : LenL l n] [b : LenL m k] : LenL (l ++ m) (n + k) := ⟨by simp [a.h, b.h]⟩
abbrev A (c : List Value) : Value := .agg c.toArray
abbrev PP (g : Nat) (o : Nat := 0) : Value := .pointer (some ⟨g, o, none⟩)
abbrev I (a : Int) : Value := .int .i64 a
abbrev NP : Value := .pointer none
abbrev T (l : List Value) : Value := .tuple l.toArray

section
variable {P : Program} {n : Fp} {w0 : World} {S : Nat → Prop} {X : Post} {R : Regs} {H : Hp}
variable {dst : Option Tmp} {ty : TypeId} {pos : String} {after : Array Go.Edge} {gd : Option (Nat × Bool)}

/-! ### Operations that yield a value whenever they come up, and leave what is known of memory -/
def Yields (P : Program) (w0 : World) (S : Nat → Prop) (H : Hp) (o : Oper) (R : Regs) (v : Value) : Prop :=
  ∀ w, St w0 S H w → Oper.quietUpon P (St w0 S H) w v ((execOp (ev R) o).run P w)
/-- The general rule: an operation without a guard. -/
theorem o_op {ops : Array Oper} {o : Oper} {rest : List Oper} (hg : o.guard = none) (hd : dstOk n o = true)
    (h : ∀ w, St w0 S H w → ∃ v w' H', (execOp (ev R) o).run P w = .ok (.value v) w' ∧ St w0 S H' w' ∧ Ops P n w0 S ops X rest (put R o.dst v) H') :
    Ops P n w0 S ops X (o :: rest) R H := by
  intro a w ha hw
  refine wpList_plain hg fun K hK => ?_
  obtain ⟨v, w', H', hr, hs, hk⟩ := h w hw
  unfold Oper.wp
  rw [ha.ev, hr]
  exact hK _ _ (hk _ _ (ha.put v hd) hs)
theorem o_unit {ops : Array Oper} {o : Oper} {rest : List Oper} (hg : o.guard = none) (hd : o.dst = none)
    (h : ∀ w, St w0 S H w → ∃ w' H', (execOp (ev R) o).run P w = .ok .skip w' ∧ St w0 S H' w' ∧ Ops P n w0 S ops X rest R H') :
    Ops P n w0 S ops X (o :: rest) R H := by
  intro a w ha hw
  refine wpList_plain hg fun K hK => ?_
  obtain ⟨w', H', hr, hs, hk⟩ := h w hw
  unfold Oper.wp
  rw [ha.ev, hr]
  have : a.put o.dst undef = a := by rw [hd]; rfl
  simp only [Oper.upon, this]
  exact hK _ _ (hk _ _ ha hs)
theorem o_guard {ops : Array Oper} {o : Oper} {rest : List Oper} {j d : Nat} {b want : Bool} (hg : o.guard = some (j, want)) (hj : (ops[j]?).bind (·.dst) = some d)
    (hb : R d = .bool b) (ht : b = want → Ops P n w0 S ops X ({ o with guard := none } :: rest) R H) (hd : dstOk n o = true) (hf : b = !want → Ops P n w0 S ops X rest (put R o.dst undef) H) :
    Ops P n w0 S ops X (o :: rest) R H := by
  intro a w ha hw
  have hy : yielded ops a.tmps j = some b := by
    have h1 := ha.get d
    rw [hb] at h1
    unfold yielded
    rw [hj]
    simp only [Option.bind_some]
    rw [Array.getD_eq_getD_getElem?] at h1
    cases h2 : a.tmps[d]? with
    | none => rw [h2] at h1; simp [undef] at h1
    | some u => rw [h2] at h1; simp at h1; subst h1; rfl
  have hw1 : Region.wanted o (yielded ops a.tmps) = (b == want) := by simp [Region.wanted, hg, hy]
  unfold wpList
  by_cases e : b = want
  · rw [hw1, if_pos (by simp [e])]
    have := ht e a w ha hw
    unfold wpList at this
    have hwn : Region.wanted { o with guard := none } (yielded ops a.tmps) = true := rfl
    rw [if_pos hwn] at this
    exact this
  · rw [hw1, if_neg (by simpa using e)]
    exact hf (by cases b <;> cases want <;> simp_all) _ _ (ha.put undef hd) hw
theorem o_y {ops : Array Oper} {o : Oper} {rest : List Oper} {v : Value} (hg : o.guard = none) (hd : dstOk n o = true) (hy : Yields P w0 S H o R v)
    (h : Ops P n w0 S ops X rest (put R o.dst v) H) : Ops P n w0 S ops X (o :: rest) R H := by
  intro a w ha hw
  refine wpList_plain hg fun K hK => ?_
  have h1 := hy w hw
  unfold Oper.wp
  rw [ha.ev]
  generalize (execOp (ev R) o).run P w = r at h1
  cases r with
  | ok x w' =>
    cases x <;> simp only [Oper.quietUpon] at h1 <;> simp only [Oper.upon]
    case value u => obtain ⟨rfl, rfl⟩ := h1; exact hK _ _ (h _ _ (ha.put _ hd) hw)
    case skip => obtain ⟨rfl, rfl⟩ := h1; exact hK _ _ (h _ _ (ha.put _ hd) hw)
    case enter f args =>
      obtain ⟨rfl, hc⟩ := h1
      exact hc.mono fun e w'' ⟨he, hs⟩ => by subst he; exact hK _ _ (h _ _ (ha.put _ hd) hs)
  | halt x w' => simp only [Oper.quietUpon] at h1
theorem o_nil {ops : Array Oper} (h : G n w0 S (X .normal) R H) : Ops P n w0 S ops X [] R H := fun a w ha hw => wpList_nil (h a w ha hw)

def Rd (w0 : World) (S : Nat → Prop) (H : Hp) (b o : Nat) (cs : List Value) : Prop := ∀ w, St w0 S H w → w.rangeAt b o cs
theorem y_val {o : Oper} {v : Value} (h : ∀ w, (execOp (ev R) o).run P w = .ok (.value v) w) : Yields P w0 S H o R v := by
  intro w _
  rw [h w]
  exact ⟨rfl, rfl⟩
theorem y_sem {o : Oper} {v : Value} (h : ∀ w, St w0 S H w → (execOp (ev R) o).run P w = .ok (.value v) w) : Yields P w0 S H o R v := by
  intro w hw
  rw [h w hw]
  exact ⟨rfl, rfl⟩
theorem y_move {x : Operand} {v : Value} (hx : ev R x = v) : Yields P w0 S H ⟨dst, .move x, ty, pos, after, gd⟩ R v :=
  y_val fun w => by simp [execOp, hx]
theorem y_assign {x : Operand} {v : Value} (hx : ev R x = v) : Yields P w0 S H ⟨dst, .assign x, ty, pos, after, gd⟩ R v :=
  y_val fun w => by simp [execOp, hx]
theorem y_pick {c x y : Operand} {b : Bool} {v : Value} (hc : ev R c = .bool b) (hx : (if b then ev R x else ev R y) = v) : Yields P w0 S H ⟨dst, .pick c x y, ty, pos, after, gd⟩ R v :=
  y_val fun w => by simp [execOp, hc, asBool, hx]
theorem y_extract {x : Operand} {i : Nat} {vs : Array Value} {v : Value} (hx : ev R x = .tuple vs) (hi : vs[i]? = some v) : Yields P w0 S H ⟨dst, .extract x i, ty, pos, after, gd⟩ R v :=
  y_val fun w => by simp [execOp, hx, Instr.extract, hi]
theorem eqGuard_int (op : BinOp) (t : TypeId) (x y : Operand) (k k' : IntKind) (a b : Int) (w : World) : (eqGuard op t x y (.int k a) (.int k' b)).run P w = .ok () w := by
  unfold eqGuard
  cases op <;> simp
theorem y_int {op : BinOp} {xt yt : TypeId} {x y : Operand} {k : IntKind} {a b : Int} {v : Value} (hx : ev R x = .int k a) (hy : ev R y = .int k b)
    (h : ∀ w, (binOp op xt (.int k a) (.int k b)).run P w = .ok v w) : Yields P w0 S H ⟨dst, .binOp op xt x y yt, ty, pos, after, gd⟩ R v :=
  y_val fun w => by simp [execOp, hx, hy, eqGuard_int, h w]
theorem y_add {xt yt : TypeId} {x y : Operand} {k : IntKind} {a b c : Int} (hx : ev R x = .int k a) (hy : ev R y = .int k b) (h : k.wrap (a + b) = c) : Yields P w0 S H ⟨dst, .binOp .add xt x y yt, ty, pos, after, gd⟩ R (.int k c) :=
  y_int hx hy fun w => by simp [binOp, Op.intArith, h]
theorem y_sub {xt yt : TypeId} {x y : Operand} {k : IntKind} {a b c : Int} (hx : ev R x = .int k a) (hy : ev R y = .int k b) (h : k.wrap (a - b) = c) : Yields P w0 S H ⟨dst, .binOp .sub xt x y yt, ty, pos, after, gd⟩ R (.int k c) :=
  y_int hx hy fun w => by simp [binOp, Op.intArith, h]
theorem y_mul {xt yt : TypeId} {x y : Operand} {k : IntKind} {a b c : Int} (hx : ev R x = .int k a) (hy : ev R y = .int k b) (h : k.wrap (a * b) = c) : Yields P w0 S H ⟨dst, .binOp .mul xt x y yt, ty, pos, after, gd⟩ R (.int k c) :=
  y_int hx hy fun w => by simp [binOp, Op.intArith, h]
theorem y_rem {xt yt : TypeId} {x y : Operand} {k : IntKind} {a b c : Int} (hx : ev R x = .int k a) (hy : ev R y = .int k b) (hb : b ≠ 0) (h : a.tmod b = c) : Yields P w0 S H ⟨dst, .binOp .rem xt x y yt, ty, pos, after, gd⟩ R (.int k c) :=
  y_int hx hy fun w => by simp [binOp, Op.intDiv, hb, h]
theorem y_xor8 {xt yt : TypeId} {x y : Operand} {a b : Int} (hx : ev R x = .int .u8 a) (hy : ev R y = .int .u8 b) : Yields P w0 S H ⟨dst, .binOp .xor xt x y yt, ty, pos, after, gd⟩ R (.int .u8 (IntKind.u8.wrap (BitVec.ofInt 8 a ^^^ BitVec.ofInt 8 b).toNat)) :=
  y_int hx hy fun w => by simp [binOp, Op.intBits, IntKind.bits, BitVec.toNat_ofInt]; rfl
theorem y_cmp {op : BinOp} {xt yt : TypeId} {x y : Operand} {k : IntKind} {a b : Int} {c : Bool} (hx : ev R x = .int k a) (hy : ev R y = .int k b)
    (h : ∀ w, (Op.intCmp op a b).run P w = .ok (.bool c) w) (hop : op = .eql ∨ op = .neq ∨ op = .lss ∨ op = .leq ∨ op = .gtr ∨ op = .geq) : Yields P w0 S H ⟨dst, .binOp op xt x y yt, ty, pos, after, gd⟩ R (.bool c) :=
  y_int hx hy fun w => by rcases hop with e | e | e | e | e | e <;> subst e <;> simpa [binOp] using h w
theorem y_lss {xt yt : TypeId} {x y : Operand} {k : IntKind} {a b : Int} {c : Bool} (hx : ev R x = .int k a) (hy : ev R y = .int k b) (h : decide (a < b) = c) : Yields P w0 S H ⟨dst, .binOp .lss xt x y yt, ty, pos, after, gd⟩ R (.bool c) :=
  y_cmp hx hy (fun w => by simp [Op.intCmp, ← h]) (by simp)
theorem y_leq {xt yt : TypeId} {x y : Operand} {k : IntKind} {a b : Int} {c : Bool} (hx : ev R x = .int k a) (hy : ev R y = .int k b) (h : decide (a ≤ b) = c) : Yields P w0 S H ⟨dst, .binOp .leq xt x y yt, ty, pos, after, gd⟩ R (.bool c) :=
  y_cmp hx hy (fun w => by simp [Op.intCmp, ← h]) (by simp)
theorem y_gtr {xt yt : TypeId} {x y : Operand} {k : IntKind} {a b : Int} {c : Bool} (hx : ev R x = .int k a) (hy : ev R y = .int k b) (h : decide (b < a) = c) : Yields P w0 S H ⟨dst, .binOp .gtr xt x y yt, ty, pos, after, gd⟩ R (.bool c) :=
  y_cmp hx hy (fun w => by simp [Op.intCmp, ← h]) (by simp)
theorem y_geq {xt yt : TypeId} {x y : Operand} {k : IntKind} {a b : Int} {c : Bool} (hx : ev R x = .int k a) (hy : ev R y = .int k b) (h : decide (b ≤ a) = c) : Yields P w0 S H ⟨dst, .binOp .geq xt x y yt, ty, pos, after, gd⟩ R (.bool c) :=
  y_cmp hx hy (fun w => by simp [Op.intCmp, ← h]) (by simp)
theorem y_eql {xt yt : TypeId} {x y : Operand} {k : IntKind} {a b : Int} {c : Bool} (hx : ev R x = .int k a) (hy : ev R y = .int k b) (h : decide (a = b) = c) : Yields P w0 S H ⟨dst, .binOp .eql xt x y yt, ty, pos, after, gd⟩ R (.bool c) :=
  y_cmp hx hy (fun w => by rw [← h]; simp [Op.intCmp]; rfl) (by simp)
theorem y_neq {xt yt : TypeId} {x y : Operand} {k : IntKind} {a b : Int} {c : Bool} (hx : ev R x = .int k a) (hy : ev R y = .int k b) (h : decide (a ≠ b) = c) : Yields P w0 S H ⟨dst, .binOp .neq xt x y yt, ty, pos, after, gd⟩ R (.bool c) :=
  y_cmp hx hy (fun w => by rw [← h]; simp [Op.intCmp]; rfl) (by simp)
theorem run_equal_bool {t : TypeId} (hu : P.underlying t = some .bool) (a b : Bool) (w : World) : (Op.equal t (.bool a) (.bool b)).run P w = .ok (a == b) w := by
  have e : Op.equal t (.bool a) (.bool b) = Op.equalIn (9999 + 1) t (.bool a) (.bool b) := rfl
  rw [e, Op.equalIn]
  simp [run_underlying hu]
theorem y_eqlB {xt yt : TypeId} {x y : Operand} {a b c : Bool} (hx : ev R x = .bool a) (hy : ev R y = .bool b) (hu : P.underlying xt = some .bool) (h : (a == b) = c) : Yields P w0 S H ⟨dst, .binOp .eql xt x y yt, ty, pos, after, gd⟩ R (.bool c) :=
  y_val fun w => by subst h; simp [execOp, hx, hy, eqGuard, binOp, run_equal_bool hu]
theorem y_neqB {xt yt : TypeId} {x y : Operand} {a b c : Bool} (hx : ev R x = .bool a) (hy : ev R y = .bool b) (hu : P.underlying xt = some .bool) (h : (a != b) = c) : Yields P w0 S H ⟨dst, .binOp .neq xt x y yt, ty, pos, after, gd⟩ R (.bool c) :=
  y_val fun w => by subst h; simp [execOp, hx, hy, eqGuard, binOp, run_equal_bool hu]; cases a <;> cases b <;> rfl
theorem y_not {xt : TypeId} {x : Operand} {b c : Bool} (hx : ev R x = .bool b) (h : (!b) = c) : Yields P w0 S H ⟨dst, .unOp .not xt x, ty, pos, after, gd⟩ R (.bool c) :=
  y_val fun w => by simp [execOp, hx, Op.unary, h]
theorem y_neg {xt : TypeId} {x : Operand} {k : IntKind} {a c : Int} (hx : ev R x = .int k a) (h : k.wrap (0 - a) = c) : Yields P w0 S H ⟨dst, .unOp .neg xt x, ty, pos, after, gd⟩ R (.int k c) :=
  y_val fun w => by simp [execOp, hx, Op.unary, Op.intArith, ← h]
theorem y_conv {src d : TypeId} {x : Operand} {k k' : IntKind} {a c : Int} (hx : ev R x = .int k a) (hs : P.underlying src = some (.int k)) (hu : P.underlying d = some (.int k')) (h : k'.wrap a = c) : Yields P w0 S H ⟨dst, .convert src d x, ty, pos, after, gd⟩ R (.int k' c) :=
  y_val fun w => by simp [execOp, hx, convert, run_underlying hu, run_underlying hs, Conv.intToInt, h]
theorem y_len {x : Operand} {t e : TypeId} {a : Option Addr} {l c : Nat} {r : TypeId} (hx : ev R x = .slice a l c) (hu : P.underlying t = some (.slice e)) : Yields P w0 S H ⟨dst, .call { callee := .builtin .len, args := #[x], argTypes := #[t] }, r, pos, after, gd⟩ R (.int .i64 l) :=
  y_val fun w => by
    simp [execOp, resolve, hx, invoke, builtin, Builtin.len_, run_underlying hu, goInt]
theorem y_cap {x : Operand} {t e : TypeId} {a : Option Addr} {l c : Nat} {r : TypeId} (hx : ev R x = .slice a l c) (hu : P.underlying t = some (.slice e)) : Yields P w0 S H ⟨dst, .call { callee := .builtin .cap, args := #[x], argTypes := #[t] }, r, pos, after, gd⟩ R (.int .i64 c) :=
  y_val fun w => by
    simp [execOp, resolve, hx, invoke, builtin, Builtin.cap_, run_underlying hu, goInt]
theorem y_loadN {x : Operand} {t : TypeId} {b o : Nat} {cs : List Value} {d : TypeDesc} (hx : ev R x = .pointer (some ⟨b, o, none⟩)) (hu : P.underlying t = some d) (hd : d.isRow = true)
    (hi : (P.info? t).map (·.size) = some cs.length) (hr : Rd w0 S H b o cs) : Yields P w0 S H ⟨dst, .load t x, ty, pos, after, gd⟩ R (.agg cs.toArray) :=
  y_sem fun w hw => by
    simp only [execOp, hx, Sem.run_bind, run_loadAt_mid w b o t cs d (hr w hw) hu hd hi, Result.andThen_ok, Sem.run_pure]
theorem run_load1 {w : World} {t : TypeId} {a : Addr} {v : Value} {d : TypeDesc} (hu : P.underlying t = some d) (hd : d.isRow = false) (hc : w.cell? a = some v) : (loadVar t a).run P w = .ok v w := by
  have hagg : (isAgg t).run P w = .ok false w := by
    unfold isAgg
    rw [Sem.run_bind, run_underlying hu w]
    cases d <;> simp_all
  simp [loadVar, hagg, hc]
theorem y_load {x : Operand} {t : TypeId} {b o : Nat} {v : Value} {d : TypeDesc} (hx : ev R x = .pointer (some ⟨b, o, none⟩)) (hu : P.underlying t = some d) (hd : d.isRow = false)
    (hr : Rd w0 S H b o [v]) : Yields P w0 S H ⟨dst, .load t x, ty, pos, after, gd⟩ R v :=
  y_sem fun w hw => by
    have hc : w.cell? ⟨b, o, none⟩ = some v := hr w hw 0 v rfl
    simp only [execOp, hx, Instr.loadAt, Instr.sureAddr, Sem.run_bind, Sem.run_pure, Result.andThen_ok, run_load1 hu hd hc]
/-- The address of an element of an array in memory. -/
theorem y_ixArr {x i : Operand} {t e : TypeId} {len sz : Nat} {b o o' : Nat} {k : IntKind} {a : Int} (hx : ev R x = .pointer (some ⟨b, o, none⟩)) (hi : ev R i = .int k a) (hu : P.underlying t = some (.array len e))
    (hs : (P.info? e).map (·.size) = some sz) (h0 : 0 ≤ a) (hl : a < len) (ho : o + a.toNat * sz = o') : Yields P w0 S H ⟨dst, .indexAddr t x i, ty, pos, after, gd⟩ R (.pointer (some ⟨b, o', none⟩)) :=
  y_val fun w => by
    obtain ⟨it, hit, rfl⟩ : ∃ it, P.info? e = some it ∧ it.size = sz := by
      cases h : P.info? e with
      | none => simp [h] at hs
      | some it => exact ⟨it, rfl, by simpa [h] using hs⟩
    have hc : 0 ≤ a ∧ a < (len : Int) := ⟨h0, hl⟩
    simp [execOp, hx, hi, Instr.indexAt, asIntOf, run_underlying hu, Instr.sureAddr, hc, sizeOf, typeInfo, hit, ho, Addr.add_mid]
/-- The address of a slice's element. -/
theorem y_ixSl {x i : Operand} {t e : TypeId} {len cap sz : Nat} {b o o' : Nat} {k : IntKind} {a : Int} (hx : ev R x = .slice (some ⟨b, o, none⟩) len cap) (hi : ev R i = .int k a) (hu : P.underlying t = some (.slice e))
    (hs : (P.info? e).map (·.size) = some sz) (h0 : 0 ≤ a) (hl : a < len) (ho : o + a.toNat * sz = o') : Yields P w0 S H ⟨dst, .indexAddr t x i, ty, pos, after, gd⟩ R (.pointer (some ⟨b, o', none⟩)) :=
  y_val fun w => by
    obtain ⟨it, hit, rfl⟩ : ∃ it, P.info? e = some it ∧ it.size = sz := by
      cases h : P.info? e with
      | none => simp [h] at hs
      | some it => exact ⟨it, rfl, by simpa [h] using hs⟩
    have hc : 0 ≤ a ∧ a < (len : Int) := ⟨h0, hl⟩
    simp [execOp, hx, hi, Instr.indexAt, asIntOf, run_underlying hu, hc, sizeOf, typeInfo, hit, ho, Addr.add_mid]
/-- An element of an array that is a value: one cell. -/
theorem y_ixVal {x i : Operand} {t e : TypeId} {len : Nat} {cs : Array Value} {k : IntKind} {a : Int} {d : TypeDesc} {v : Value} (hx : ev R x = .agg cs) (hi : ev R i = .int k a) (hu : P.underlying t = some (.array len e))
    (hs : (P.info? e).map (·.size) = some 1) (he : P.underlying e = some d) (hd : d.isRow = false) (h0 : 0 ≤ a) (hl : a < len) (hv : cs[a.toNat]? = some v) : Yields P w0 S H ⟨dst, .index t x i, ty, pos, after, gd⟩ R v :=
  y_val fun w => by
    obtain ⟨it, hit, hsz⟩ : ∃ it, P.info? e = some it ∧ it.size = 1 := by
      cases h : P.info? e with
      | none => simp [h] at hs
      | some it => exact ⟨it, rfl, by simpa [h] using hs⟩
    have hc : 0 ≤ a ∧ a < (len : Int) := ⟨h0, hl⟩
    have hagg : (isAgg e).run P w = .ok false w := by
      unfold isAgg
      rw [Sem.run_bind, run_underlying he w]
      cases d <;> simp_all
    simp [execOp, hx, hi, Instr.index, asIntOf, run_underlying hu, hc, sizeOf, typeInfo, hit, hsz, part, hagg, hv]
/-- Part of a slice. -/
theorem y_slice {x : Operand} {t e : TypeId} {len cap sz : Nat} {b o : Nat} {lo hi : Option Operand} {l h : Nat} (hx : ev R x = .slice (some ⟨b, o, none⟩) len cap) (hu : P.underlying t = some (.slice e))
    (hs : (P.info? e).map (·.size) = some sz) (hlo : match lo with | some q => ∃ k, ev R q = .int k (l : Int) | none => l = 0) (hhi : match hi with | some q => ∃ k, ev R q = .int k (h : Int) | none => h = len)
    (hlh : l ≤ h) (hc : h ≤ cap) :
    Yields P w0 S H ⟨dst, .slice t x lo hi none, ty, pos, after, gd⟩ R (.slice (some (if cap = l then ⟨b, o, none⟩ else ⟨b, o + l * sz, none⟩)) (h - l) (cap - l)) :=
  y_val fun w => by
    obtain ⟨it, hit, rfl⟩ : ∃ it, P.info? e = some it ∧ it.size = sz := by
      cases h : P.info? e with
      | none => simp [h] at hs
      | some it => exact ⟨it, rfl, by simpa [h] using hs⟩
    have key : (Instr.sliceAt t (.slice (some ⟨b, o, none⟩) len cap) (lo.map (ev R)) (hi.map (ev R)) none).run P w = .ok (.slice (some (if cap = l then ⟨b, o, none⟩ else ⟨b, o + l * it.size, none⟩)) (h - l) (cap - l)) w := by
      have q1 : (Instr.sliceBounds true len cap (lo.map (ev R)) (hi.map (ev R)) none).run P w = .ok (l, h, cap) w := by
        cases lo <;> cases hi <;> simp only at hlo hhi
        · subst hlo hhi
          simp [Instr.sliceBounds]
        · obtain ⟨k, hk⟩ := hhi
          subst hlo
          simp [Instr.sliceBounds, Instr.sliceBound, asIntOf, hk, hc]
        · obtain ⟨k, hk⟩ := hlo
          subst hhi
          simp [Instr.sliceBounds, Instr.sliceBound, asIntOf, hk, hlh]
        · obtain ⟨k, hk⟩ := hlo
          obtain ⟨k', hk'⟩ := hhi
          simp [Instr.sliceBounds, Instr.sliceBound, asIntOf, hk, hk', hc, hlh]
      simp only [Instr.sliceAt, Instr.slice, Sem.run_bind, run_underlying hu, Result.andThen_ok, q1]
      simp [sizeOf, typeInfo, hit, Addr.add_mid]
      split <;> rfl
    simp only [execOp, Sem.run_bind, hx, Option.map_none, key, Result.andThen_ok, Sem.run_pure]
theorem run_call {f : FuncId} {args : Array Operand} {at_ : Array TypeId} {vs : List Value} (hf : Bodied P f) (hv : args.toList.map (ev R) = vs) (w : World) :
    (execOp (ev R) ⟨dst, .call { callee := .value (.func f), args := args, argTypes := at_ }, ty, pos, after, gd⟩).run P w = .ok (.enter f vs.toArray) w := by
  obtain ⟨fn, h1, h2, h3⟩ := hf
  have hv' : args.map (ev R) = vs.toArray := by
    rw [← hv, ← Array.toList_map]
  have h2' : ¬ fn.name = "runtime.NumGoroutine" := by simpa using h2
  have h3' : ¬ fn.body = none := fun e => by rw [e] at h3; cases h3
  simp [execOp, resolve, ev, Deferred.ofValue, invoke, callFunc, h1, h2', h3', hv']
theorem setRow_heap_other (w : World) (g : Nat) (c : Array Value) (k : Nat) (h : k ≠ g) : (w.setRow g c).heap[k]? = w.heap[k]? := setRow_other w g k c h
theorem run_store {w : World} {t : TypeId} {g off : Nat} {c : Array Value} {et : TypeId} {v : Value} (hg : w.heap[g]? = some (.cells c et (0, 0))) (hi : (P.info? t).map (·.size) = some v.cells.size)
    (ho : off + v.cells.size ≤ c.size) (h1 : ∀ u ∈ v.cells.toList, u.oneCell' = true) :
    (storeVar t ⟨g, off, none⟩ v).run P w = .ok () (w.setRow g (c.toList.take off ++ v.cells.toList ++ c.toList.drop (off + v.cells.size)).toArray) := by
  have hrun := run_storeCells_at (P := P) g off et v.cells.toList 0 c w hg (by simpa using ho) h1
  cases hq : P.info? t with
  | none => simp [hq] at hi
  | some i =>
    have hs : i.size = v.cells.size := by simpa [hq] using hi
    simp only [Nat.add_zero, Array.length_toList] at hrun
    simp [storeVar, sizeOf, typeInfo, hq, hs, hrun]
theorem wi_i64 {x : Int} (h0 : -9223372036854775808 ≤ x) (h1 : x ≤ 9223372036854775807) : IntKind.i64.wrap x = x := by
  simp only [IntKind.wrap, IntKind.signed, IntKind.bits]
  simp
  split <;> omega
theorem wi_u64 {x : Int} (h0 : 0 ≤ x) (h1 : x ≤ 18446744073709551615) : IntKind.u64.wrap x = x := by
  simp only [IntKind.wrap, IntKind.signed, IntKind.bits]
  simp
  omega
theorem wi_u8 {x : Int} (h0 : 0 ≤ x) (h1 : x ≤ 255) : IntKind.u8.wrap x = x := by
  simp only [IntKind.wrap, IntKind.signed, IntKind.bits]
  simp
  omega
theorem wi_u16 {x : Int} (h0 : 0 ≤ x) (h1 : x ≤ 65535) : IntKind.u16.wrap x = x := by
  simp only [IntKind.wrap, IntKind.signed, IntKind.bits]
  simp
  omega
theorem wi_u32 {x : Int} (h0 : 0 ≤ x) (h1 : x ≤ 4294967295) : IntKind.u32.wrap x = x := by
  simp only [IntKind.wrap, IntKind.signed, IntKind.bits]
  simp
  omega
theorem ie {k : IntKind} {a b : Int} (h : a = b) : Value.int k a = Value.int k b := by rw [h]
abbrev Blk := Vector UInt8 64
def bv (x : Blk) : Array Value := (x.toArray.map fun b => Value.int .u8 (b.toNat : Int))
theorem bv_size (x : Blk) : (bv x).size = 64 := by simp [bv]
theorem bv_get (x : Blk) (i : Nat) (h : i < 64) : (bv x)[i]? = some (.int .u8 ((x[i]).toNat : Int)) := by simp [bv, h]
theorem bv_set (x : Blk) (i : Nat) (h : i < 64) (b : UInt8) : (bv x).setIfInBounds i (.int .u8 (b.toNat : Int)) = bv (x.set i b h) := by
  simp only [bv, Vector.toArray_set, Array.map_set]
  rw [Array.setIfInBounds, dif_pos (by simp; omega)]
theorem bv_one (x : Blk) : ∀ u ∈ (bv x).toList, u.oneCell' = true := by
  intro u hu
  simp [bv] at hu
  obtain ⟨b, _, rfl⟩ := hu
  rfl
theorem bv_inj {x y : Blk} (h : bv x = bv y) : x = y := by
  apply Vector.ext
  intro i hi
  have h1 := bv_get x i hi
  rw [h, bv_get y i hi] at h1
  simp at h1
  exact UInt8.toNat_inj.1 (by omega)
theorem u8_inj {p q : UInt8} : ((p.toNat : Int) = (q.toNat : Int)) ↔ p = q :=
  ⟨fun h => UInt8.toNat_inj.1 (by omega), fun h => by rw [h]⟩
theorem y_xorB {xt yt : TypeId} {x y : Operand} {p q : UInt8} (hx : ev R x = .int .u8 (p.toNat : Int)) (hy : ev R y = .int .u8 (q.toNat : Int)) :
    Yields P w0 S H ⟨dst, .binOp .xor xt x y yt, ty, pos, after, gd⟩ R (.int .u8 ((p ^^^ q).toNat : Int)) := by
  have := y_xor8 (P := P) (w0 := w0) (S := S) (H := H) (dst := dst) (ty := ty) (pos := pos) (after := after) (gd := gd) (xt := xt) (yt := yt) hx hy
  have e : IntKind.u8.wrap ((BitVec.ofInt 8 (p.toNat : Int) ^^^ BitVec.ofInt 8 (q.toNat : Int)).toNat : Int) = ((p ^^^ q).toNat : Int) := by
    have h1 : BitVec.ofInt 8 (p.toNat : Int) = p.toBitVec := by
      apply BitVec.eq_of_toNat_eq; simp
    have h2 : BitVec.ofInt 8 (q.toNat : Int) = q.toBitVec := by
      apply BitVec.eq_of_toNat_eq; simp
    rw [h1, h2]
    have h3 : (p.toBitVec ^^^ q.toBitVec) = (p ^^^ q).toBitVec := rfl
    rw [h3]
    have := (p ^^^ q).toNat_lt
    have h4 : (p ^^^ q).toBitVec.toNat = (p ^^^ q).toNat := rfl
    rw [h4, wi_u8 (by omega) (by omega)]
  rw [e] at this
  exact this
theorem y_eqlB8 {xt yt : TypeId} {x y : Operand} {p q : UInt8} (hx : ev R x = .int .u8 (p.toNat : Int)) (hy : ev R y = .int .u8 (q.toNat : Int)) :
    Yields P w0 S H ⟨dst, .binOp .eql xt x y yt, ty, pos, after, gd⟩ R (.bool (decide (p = q))) :=
  y_eql hx hy (decide_eq_decide.2 u8_inj)
theorem y_neqB8 {xt yt : TypeId} {x y : Operand} {p q : UInt8} (hx : ev R x = .int .u8 (p.toNat : Int)) (hy : ev R y = .int .u8 (q.toNat : Int)) :
    Yields P w0 S H ⟨dst, .binOp .neq xt x y yt, ty, pos, after, gd⟩ R (.bool (decide (p ≠ q))) :=
  y_neq hx hy (decide_eq_decide.2 (not_congr u8_inj))
theorem run_equal_blk {t e : TypeId} {it : TypeInfo} (hu : P.underlying t = some (.array 64 e)) (he : P.underlying e = some (.int .u8)) (hi : P.info? e = some it) (hs : it.size = 1) (x y : Blk) (w : World) :
    (Op.equal t (.agg (bv x)) (.agg (bv y))).run P w = .ok (decide (x = y)) w := by
  have e0 : Op.equal t (.agg (bv x)) (.agg (bv y)) = Op.equalIn (9999 + 1) t (.agg (bv x)) (.agg (bv y)) := rfl
  have hc : P.cellsOf e = 1 := by simp [Program.cellsOf, hi, hs]
  have hagg : (isAgg e).run P w = .ok false w := by
    unfold isAgg
    rw [Sem.run_bind, run_underlying he w]
    simp
  have hpart : ∀ (z : Blk) (i : Nat) (h : i < 64), (part e (bv z) i).run P w = .ok (.int .u8 ((z[i]).toNat : Int)) w := by
    intro z i h
    simp [part, hagg, bv_get z i h]
  have key : ∀ l : List Nat, (∀ i ∈ l, i < 64) → (Op.eqItems 9999 e 1 (bv x) (bv y) l).run P w = .ok (decide (∀ i, i ∈ l → x[i]? = y[i]?)) w := by
    intro l
    induction l with
    | nil => intro _; simp [Op.eqItems]
    | cons i l ih =>
      intro h
      have hi := h i (by simp)
      have := ih fun j hj => h j (by simp [hj])
      have e1 : (9999 : Nat) = 9998 + 1 := rfl
      simp only [Op.eqItems, Sem.run_bind, Nat.mul_one, hpart x i hi, hpart y i hi, Result.andThen_ok]
      rw [e1, run_equalIn_int w 9998 e .u8 .u8 _ _ he, Result.andThen_ok]
      by_cases hxy : x[i] = y[i]
      · have hb : (((x[i]).toNat : Int) == ((y[i]).toNat : Int)) = true := by simp [hxy]
        rw [hb]
        simp only [Bool.not_true, Bool.false_eq_true, if_false]
        rw [e1] at this
        rw [this]
        congr 1
        simp [hi, hxy]
      · have hb : (((x[i]).toNat : Int) == ((y[i]).toNat : Int)) = false := by simp [u8_inj, hxy]
        rw [hb]
        simp [hi, hxy]
  rw [e0, run_equalIn_array w 9999 _ _ hu hi, hc, key _ (by simp)]
  congr 1
  apply decide_eq_decide.2
  constructor
  · intro h
    apply Vector.ext
    intro i hi
    have := h i (List.mem_range.2 hi)
    simpa [hi] using this
  · rintro rfl _ _; rfl
/-- What a program's rows say of the type of blocks. -/
structure BlkType (P : Program) (t e : TypeId) : Prop where
  hu : P.underlying t = some (.array 64 e)
  he : P.underlying e = some (.int .u8)
  hs : (P.info? t).map (·.size) = some 64
  hse : (P.info? e).map (·.size) = some 1
  hg : P.eqGuardType P.depth t = false
theorem y_eqlV {t e : TypeId} (T : BlkType P t e) {yt : TypeId} {x y : Operand} {p q : Blk} (hx : ev R x = .agg (bv p)) (hy : ev R y = .agg (bv q)) :
    Yields P w0 S H ⟨dst, .binOp .eql t x y yt, ty, pos, after, gd⟩ R (.bool (decide (p = q))) :=
  y_val fun w => by
    obtain ⟨it, hit, hsz⟩ : ∃ it, P.info? e = some it ∧ it.size = 1 := by
      have := T.hse
      cases h : P.info? e with
      | none => simp [h] at this
      | some it => exact ⟨it, rfl, by simpa [h] using this⟩
    simp only [execOp, hx, hy, Sem.run_bind, run_eqGuard_agg w .eql t x y _ _ T.hg, Result.andThen_ok]
    have e1 : binOp .eql t (.agg (bv p)) (.agg (bv q)) = (do pure (Value.bool (← Op.equal t (.agg (bv p)) (.agg (bv q)))) : Sem Value) := rfl
    rw [e1]
    simp only [Sem.run_bind, run_equal_blk T.hu T.he hit hsz p q w, Result.andThen_ok, Sem.run_pure]
theorem y_neqV {t e : TypeId} (T : BlkType P t e) {yt : TypeId} {x y : Operand} {p q : Blk} (hx : ev R x = .agg (bv p)) (hy : ev R y = .agg (bv q)) :
    Yields P w0 S H ⟨dst, .binOp .neq t x y yt, ty, pos, after, gd⟩ R (.bool (decide (p ≠ q))) :=
  y_val fun w => by
    obtain ⟨it, hit, hsz⟩ : ∃ it, P.info? e = some it ∧ it.size = 1 := by
      have := T.hse
      cases h : P.info? e with
      | none => simp [h] at this
      | some it => exact ⟨it, rfl, by simpa [h] using this⟩
    simp only [execOp, hx, hy, Sem.run_bind, run_eqGuard_agg w .neq t x y _ _ T.hg, Result.andThen_ok]
    have e1 : binOp .neq t (.agg (bv p)) (.agg (bv q)) = (do pure (Value.bool (!(← Op.equal t (.agg (bv p)) (.agg (bv q))))) : Sem Value) := rfl
    rw [e1]
    simp only [Sem.run_bind, run_equal_blk T.hu T.he hit hsz p q w, Result.andThen_ok, Sem.run_pure]
    simp
theorem y_max {x y : Operand} {k : IntKind} {p q c : Int} {ts : Array TypeId} {r : TypeId} (hx : ev R x = .int k p) (hy : ev R y = .int k q) (h : max p q = c) : Yields P w0 S H ⟨dst, .call { callee := .builtin .max, args := #[x, y], argTypes := ts }, r, pos, after, gd⟩ R (.int k c) :=
  y_val fun w => by
    subst h
    simp [execOp, resolve, hx, hy, invoke, builtin, Builtin.max_, Builtin.max2]
    omega
theorem y_min {x y : Operand} {k : IntKind} {p q c : Int} {ts : Array TypeId} {r : TypeId} (hx : ev R x = .int k p) (hy : ev R y = .int k q) (h : min p q = c) : Yields P w0 S H ⟨dst, .call { callee := .builtin .min, args := #[x, y], argTypes := ts }, r, pos, after, gd⟩ R (.int k c) :=
  y_val fun w => by
    subst h
    simp [execOp, resolve, hx, hy, invoke, builtin, Builtin.min_, Builtin.min2]
    omega
/-- Part of a slice that may be nil. -/
def part_ (a : Option Addr) (l sz cap : Nat) : Option Addr := if cap = l then a else a.map (·.add (l * sz))
theorem y_part {x : Operand} {t e : TypeId} {len cap sz : Nat} {a : Option Addr} {lo hi : Option Operand} (l h : Nat) (hx : ev R x = .slice a len cap) (hu : P.underlying t = some (.slice e))
    (hs : (P.info? e).map (·.size) = some sz) (hlo : match lo with | some q => ∃ k, ev R q = .int k (l : Int) | none => l = 0) (hhi : match hi with | some q => ∃ k, ev R q = .int k (h : Int) | none => h = len)
    (hlh : l ≤ h) (hc : h ≤ cap) :
    Yields P w0 S H ⟨dst, .slice t x lo hi none, ty, pos, after, gd⟩ R (.slice (part_ a l sz cap) (h - l) (cap - l)) :=
  y_val fun w => by
    obtain ⟨it, hit, rfl⟩ : ∃ it, P.info? e = some it ∧ it.size = sz := by
      cases h : P.info? e with
      | none => simp [h] at hs
      | some it => exact ⟨it, rfl, by simpa [h] using hs⟩
    have key : (Instr.sliceAt t (.slice a len cap) (lo.map (ev R)) (hi.map (ev R)) none).run P w = .ok (.slice (part_ a l it.size cap) (h - l) (cap - l)) w := by
      have q1 : (Instr.sliceBounds true len cap (lo.map (ev R)) (hi.map (ev R)) none).run P w = .ok (l, h, cap) w := by
        cases lo <;> cases hi <;> simp only at hlo hhi
        · subst hlo hhi
          simp [Instr.sliceBounds]
        · obtain ⟨k, hk⟩ := hhi
          subst hlo
          simp [Instr.sliceBounds, Instr.sliceBound, asIntOf, hk, hc]
        · obtain ⟨k, hk⟩ := hlo
          subst hhi
          simp [Instr.sliceBounds, Instr.sliceBound, asIntOf, hk, hlh]
        · obtain ⟨k, hk⟩ := hlo
          obtain ⟨k', hk'⟩ := hhi
          simp [Instr.sliceBounds, Instr.sliceBound, asIntOf, hk, hk', hc, hlh]
      simp only [Instr.sliceAt, Instr.slice, Sem.run_bind, run_underlying hu, Result.andThen_ok, q1]
      simp [sizeOf, typeInfo, hit, part_]
    simp only [execOp, Sem.run_bind, hx, Option.map_none, key, Result.andThen_ok, Sem.run_pure]
/-- The address of a slice's element. -/
theorem y_ixO {x i : Operand} {t e : TypeId} {len cap sz : Nat} {a : Option Addr} {b o : Nat} {k : IntKind} {q : Int} (m : Nat) (ha : a = some ⟨b, o, none⟩) (hx : ev R x = .slice a len cap) (hi : ev R i = .int k q) (hu : P.underlying t = some (.slice e))
    (hs : (P.info? e).map (·.size) = some sz) (h0 : q = (m : Int)) (hl : m < len) : Yields P w0 S H ⟨dst, .indexAddr t x i, ty, pos, after, gd⟩ R (.pointer (some ⟨b, o + m * sz, none⟩)) := by
  subst ha
  subst h0
  exact y_ixSl hx hi hu hs (by omega) (by omega) (by simp)
/-- A slice of an array in memory. -/
theorem y_sliceArr {x : Operand} {t e : TypeId} {len sz : Nat} {b o : Nat} {lo hi : Option Operand} (l h : Nat) (hx : ev R x = .pointer (some ⟨b, o, none⟩)) (hu : P.underlying t = some (.array len e))
    (hs : (P.info? e).map (·.size) = some sz) (hlo : match lo with | some q => ∃ k, ev R q = .int k (l : Int) | none => l = 0) (hhi : match hi with | some q => ∃ k, ev R q = .int k (h : Int) | none => h = len)
    (hlh : l ≤ h) (hc : h ≤ len) :
    Yields P w0 S H ⟨dst, .slice t x lo hi none, ty, pos, after, gd⟩ R (.slice (part_ (some ⟨b, o, none⟩) l sz len) (h - l) (len - l)) :=
  y_val fun w => by
    obtain ⟨it, hit, rfl⟩ : ∃ it, P.info? e = some it ∧ it.size = sz := by
      cases h : P.info? e with
      | none => simp [h] at hs
      | some it => exact ⟨it, rfl, by simpa [h] using hs⟩
    have key : (Instr.sliceAt t (.pointer (some ⟨b, o, none⟩)) (lo.map (ev R)) (hi.map (ev R)) none).run P w = .ok (.slice (part_ (some ⟨b, o, none⟩) l it.size len) (h - l) (len - l)) w := by
      have q1 : (Instr.sliceBounds false len len (lo.map (ev R)) (hi.map (ev R)) none).run P w = .ok (l, h, len) w := by
        cases lo <;> cases hi <;> simp only at hlo hhi
        · subst hlo hhi
          simp [Instr.sliceBounds]
        · obtain ⟨k, hk⟩ := hhi
          subst hlo
          simp [Instr.sliceBounds, Instr.sliceBound, asIntOf, hk, hc]
        · obtain ⟨k, hk⟩ := hlo
          subst hhi
          simp [Instr.sliceBounds, Instr.sliceBound, asIntOf, hk, hlh]
        · obtain ⟨k, hk⟩ := hlo
          obtain ⟨k', hk'⟩ := hhi
          simp [Instr.sliceBounds, Instr.sliceBound, asIntOf, hk, hk', hc, hlh]
      simp only [Instr.sliceAt, Sem.run_bind, run_underlying hu, Result.andThen_ok, Instr.sureAddr, Sem.run_pure, q1]
      simp [sizeOf, typeInfo, hit, part_]
      split <;> rfl
    simp only [execOp, Sem.run_bind, hx, Option.map_none, key, Result.andThen_ok, Sem.run_pure]
/-- A struct or an array that is built. -/
theorem y_build {t : TypeId} {parts : Array (Nat × Operand)} {ps : List (Nat × Value)} {c : Array Value} (hp : (parts.map fun (i, x) => (i, ev R x)).toList = ps) (h : P.built t ps = some c) :
    Yields P w0 S H ⟨dst, .build t parts, ty, pos, after, gd⟩ R (.agg c) :=
  y_val fun w => by
    have hr := run_build (P := P) w t (parts.map fun (i, x) => (i, ev R x)) c (by rw [hp]; exact h)
    simp only [execOp, Sem.run_bind, hr, Result.andThen_ok, Sem.run_pure]
theorem part_at {a : Option Addr} {b o i sz cap : Nat} (ha : a = some ⟨b, o, none⟩) (h : cap ≠ i) : part_ a i sz cap = some ⟨b, o + i * sz, none⟩ := by
  subst ha
  rw [part_, if_neg h]
  simp [Addr.add_mid]
theorem add_zero_addr (x : Addr) : x.add 0 = x := by unfold Addr.add; split <;> simp_all
/-- The first ones of a slice. -/
theorem y_partL {x : Operand} {t e : TypeId} {len cap sz : Nat} {a : Option Addr} {hi : Option Operand} (h : Nat) (hx : ev R x = .slice a len cap) (hu : P.underlying t = some (.slice e))
    (hs : (P.info? e).map (·.size) = some sz) (hhi : match hi with | some q => ∃ k, ev R q = .int k (h : Int) | none => h = len) (hc : h ≤ cap) :
    Yields P w0 S H ⟨dst, .slice t x none hi none, ty, pos, after, gd⟩ R (.slice a h cap) := by
  have h1 := y_part (P := P) (w0 := w0) (S := S) (H := H) (dst := dst) (ty := ty) (pos := pos) (after := after) (gd := gd) (lo := none) 0 h hx hu hs rfl hhi (Nat.zero_le _) hc
  have e1 : part_ a 0 sz cap = a := by
    unfold part_
    split
    · rfl
    · cases a <;> simp [add_zero_addr]
  rw [e1] at h1
  simpa using h1
theorem y_partE {x : Operand} {t e : TypeId} {len cap sz : Nat} {a : Option Addr} {lo : Option Operand} (hx : ev R x = .slice a len cap) (hu : P.underlying t = some (.slice e))
    (hs : (P.info? e).map (·.size) = some sz) (hlo : match lo with | some q => ∃ k, ev R q = .int k (len : Int) | none => len = 0) (hc : len ≤ cap) :
    Yields P w0 S H ⟨dst, .slice t x lo none none, ty, pos, after, gd⟩ R (.slice (part_ a len sz cap) 0 (cap - len)) := by
  have h1 := y_part (P := P) (w0 := w0) (S := S) (H := H) (dst := dst) (ty := ty) (pos := pos) (after := after) (gd := gd) (hi := none) len len hx hu hs hlo rfl (Nat.le_refl _) hc
  rw [Nat.sub_self] at h1
  exact h1
/-- With three indexes, from the begin. -/
theorem y_slice3 {x p q : Operand} {t e : TypeId} {len cap sz : Nat} {a : Option Addr} {k k' : IntKind} (h m : Nat) (hx : ev R x = .slice a len cap) (hu : P.underlying t = some (.slice e))
    (hs : (P.info? e).map (·.size) = some sz) (hp : ev R p = .int k (h : Int)) (hq : ev R q = .int k' (m : Int)) (hhm : h ≤ m) (hc : m ≤ cap) :
    Yields P w0 S H ⟨dst, .slice t x none (some p) (some q), ty, pos, after, gd⟩ R (.slice a h m) :=
  y_val fun w => by
    obtain ⟨it, hit, rfl⟩ : ∃ it, P.info? e = some it ∧ it.size = sz := by
      cases h : P.info? e with
      | none => simp [h] at hs
      | some it => exact ⟨it, rfl, by simpa [h] using hs⟩
    have key : (Instr.sliceAt t (.slice a len cap) (Option.map (ev R) none) (Option.map (ev R) (some p)) (Option.map (ev R) (some q))).run P w = .ok (.slice a h m) w := by
      have q1 : (Instr.sliceBounds true len cap (Option.map (ev R) none) (Option.map (ev R) (some p)) (Option.map (ev R) (some q))).run P w = .ok (0, h, m) w := by
        simp [Instr.sliceBounds, Instr.sliceBound, asIntOf, hp, hq, hhm, hc]
      simp only [Instr.sliceAt, Instr.slice, Sem.run_bind, run_underlying hu, Result.andThen_ok, q1]
      have e1 : (if m = 0 then a else Option.map (fun x => x.add (0 * it.size)) a) = a := by
        split
        · rfl
        · cases a <;> simp [add_zero_addr]
      simp [sizeOf, typeInfo, hit]
      cases a <;> simp [add_zero_addr]
    simp only [execOp, Sem.run_bind, hx, key, Result.andThen_ok, Sem.run_pure]
theorem y_bool {o : Oper} {b c : Bool} (h : Yields P w0 S H o R (.bool b)) (e : b = c) : Yields P w0 S H o R (.bool c) := e ▸ h
theorem y_as {o : Oper} {u v : Value} (h : Yields P w0 S H o R u) (e : u = v) : Yields P w0 S H o R v := e ▸ h
theorem beq_dec {α : Type} [DecidableEq α] {a b : α} : (a == b) = decide (a = b) := by
  by_cases h : a = b <;> simp [h]
theorem y_fieldAddr {s : TypeId} {x : Operand} {b o i k o' : Nat} {fs : Array Field} {f : Field} (hx : ev R x = .pointer (some ⟨b, o, none⟩)) (hu : P.underlying s = some (.struct fs)) (hf : fs[i]? = some f) (hk : f.offset = k) (hs : ∃ m, (P.info? f.type).map (·.size) = some (m + 1)) (ho : o + k = o') :
    Yields P w0 S H ⟨dst, .fieldAddr s x i, ty, pos, after, gd⟩ R (.pointer (some ⟨b, o', none⟩)) :=
  y_val fun w => by
    obtain ⟨m, hs⟩ := hs
    obtain ⟨it, hit, hsz⟩ : ∃ it, P.info? f.type = some it ∧ it.size = m + 1 := by
      cases h : P.info? f.type with
      | none => simp [h] at hs
      | some it => exact ⟨it, rfl, by simpa [h] using hs⟩
    subst hk
    subst ho
    simp [execOp, hx, Instr.fieldAt, run_underlying hu, hf, Instr.sureAddr, fieldPlace, sizeOf, typeInfo, hit, hsz, Addr.add_mid]
/-- A field of one cell of a struct that is a value. -/
theorem y_field1 {s : TypeId} {x : Operand} {i k : Nat} {fs : Array Field} {f : Field} {cs : Array Value} {d : TypeDesc} {v : Value} (hx : ev R x = .agg cs) (hu : P.underlying s = some (.struct fs)) (hf : fs[i]? = some f) (hk : f.offset = k) (he : P.underlying f.type = some d) (hd : d.isRow = false) (hv : cs[k]? = some v) :
    Yields P w0 S H ⟨dst, .field s x i, ty, pos, after, gd⟩ R v :=
  y_val fun w => by
    subst hk
    have hagg : (isAgg f.type).run P w = .ok false w := by
      unfold isAgg
      rw [Sem.run_bind, run_underlying he w]
      cases d <;> simp_all
    simp [execOp, hx, Instr.field, run_underlying hu, hf, asAgg, part, hagg, hv]
theorem loadS {t : TypeId} {b o : Nat} {c : Array Value} {d : TypeDesc} {w : World} (hu : P.underlying t = some d) (hd : d.isRow = true) (hi : (P.info? t).map (·.size) = some c.size) (hr : w.rangeAt b o c.toList) : (loadVar t ⟨b, o, none⟩).run P w = .ok (.agg c) w := by
  have := run_loadVar_mid (P := P) w b o t c.toList d hr hu hd (by rw [hi]; simp)
  simpa using this
theorem y_nilCheck {x : Operand} {a : Addr} (hx : ev R x = .pointer (some a)) : Yields P w0 S H ⟨dst, .nilCheck x, ty, pos, after, gd⟩ R (.pointer (some a)) :=
  y_val fun w => by simp [execOp, hx]
theorem eqGuard_ptr (op : BinOp) (t : TypeId) (x y : Operand) (a b : Option Addr) (w : World) : (eqGuard op t x y (.pointer a) (.pointer b)).run P w = .ok () w := by
  unfold eqGuard
  cases op <;> simp
theorem y_eqlN {t yt : TypeId} {x y : Operand} {a : Option Addr} {c : Bool} (hx : ev R x = .pointer a) (hy : ev R y = .pointer none) (hu : P.underlying t = some (.pointer (P.pointee t))) (hc : a.isNone = c) :
    Yields P w0 S H ⟨dst, .binOp .eql t x y yt, ty, pos, after, gd⟩ R (.bool c) :=
  y_val fun w => by subst hc; simp [execOp, hx, hy, eqGuard_ptr, run_eql_pointer_nil w t a hu]
theorem y_neqN {t yt : TypeId} {x y : Operand} {a : Option Addr} {c : Bool} (hx : ev R x = .pointer a) (hy : ev R y = .pointer none) (hu : P.underlying t = some (.pointer (P.pointee t))) (hc : (!a.isNone) = c) :
    Yields P w0 S H ⟨dst, .binOp .neq t x y yt, ty, pos, after, gd⟩ R (.bool c) :=
  y_val fun w => by subst hc; simp [execOp, hx, hy, eqGuard_ptr, run_neq_pointer_nil w t a hu]
theorem Rd.sub {b o k o' : Nat} {cs cs' : List Value} (h : Rd w0 S H b o cs) (ho : o + k = o') (hs : ∀ j v, cs'[j]? = some v → cs[k + j]? = some v) : Rd w0 S H b o' cs' := by
  subst ho
  intro w hw j v hj
  have h1 := h w hw (k + j) v (hs j v hj)
  rw [← h1, Nat.add_assoc]
theorem Rd.sub1 {b o k o' : Nat} {cs : List Value} {v : Value} (h : Rd w0 S H b o cs) (ho : o + k = o') (hv : cs[k]? = some v) : Rd w0 S H b o' [v] :=
  h.sub ho fun j u hj => by
    cases j with
    | zero => simp at hj; subst hj; exact hv
    | succ j => simp at hj
theorem seg_get {A B C : List Value} {k j : Nat} {v : Value} (hk : k = A.length) (h : B[j]? = some v) : (A ++ B ++ C)[k + j]? = some v := by
  subst hk
  have hj := (List.getElem?_eq_some_iff.1 h).1
  rw [List.getElem?_append_left (by rw [List.length_append]; omega), List.getElem?_append_right (by omega)]
  rw [Nat.add_sub_cancel_left]; exact h
theorem seg_set {A B C vs : List Value} {k j m : Nat} (hk : k = A.length + j) (hm : m = k + vs.length) (h : j + vs.length ≤ B.length) :
    (A ++ B ++ C).take k ++ vs ++ (A ++ B ++ C).drop m = A ++ (B.take j ++ vs ++ B.drop (j + vs.length)) ++ C := by
  subst hm
  subst hk
  have e1 : (A ++ B ++ C).take (A.length + j) = A ++ B.take j := by
    rw [List.append_assoc, List.take_length_add_append, List.take_append_of_le_length (by omega)]
  have e2 : (A ++ B ++ C).drop (A.length + j + vs.length) = B.drop (j + vs.length) ++ C := by
    rw [List.append_assoc, Nat.add_assoc, List.drop_length_add_append, List.drop_append_of_le_length (by omega)]
  rw [e1, e2]
  simp only [List.append_assoc]
end
end Go.Proofs.YtnilejkfbcnkkaaGreatDoor.V
end
section
namespace Go.Proofs.YtnilejkfbcnkkaaGreatDoor.V
open Go Go.RowKit
def liftX (n : Fp) (w0 : World) (S : Nat → Prop) (Q : Exit → Regs → Hp → Prop) : Post := fun e a w => ∃ R H, Rep n a R ∧ St w0 S H w ∧ Q e R H


theorem execOp_congr {o : Oper} {r r' : Operand → Value} (hs : ∀ cs b, o.op ≠ .select cs b) (h : ∀ x ∈ o.op.operands.toList, r x = r' x) : execOp r o = execOp r' o := by
  have harr : ∀ {l : Array Operand}, (∀ x ∈ l.toList, r x = r' x) → l.map r = l.map r' := by
    intro l hl
    apply Array.ext'
    simpa using hl
  have hopt : ∀ {l : Option Operand}, (∀ x ∈ l.toList, r x = r' x) → l.map r = l.map r' := by
    intro l hl
    cases l <;> simp_all
  have hparts : ∀ {l : Array (Nat × Operand)}, (∀ x ∈ l.toList.map (·.2), r x = r' x) → (l.map fun (i, x) => (i, r x)) = (l.map fun (i, x) => (i, r' x)) := by
    intro l hl
    apply Array.ext'
    simp only [Array.toList_map]
    apply List.map_congr_left
    rintro ⟨i, x⟩ hx
    simp only [Prod.mk.injEq, true_and]
    exact hl x (List.mem_map.2 ⟨_, hx, rfl⟩)
  have hcall : ∀ {c : Call}, (∀ x ∈ c.operands.toList, r x = r' x) → ∀ t, resolve r c t = resolve r' c t := by
    intro c hc t
    have ha : c.args.map r = c.args.map r' := harr fun x hx => hc x (by simp [Call.operands]; right; simpa using hx)
    unfold resolve
    rw [ha]
    cases hcal : c.callee with
    | builtin b => rfl
    | invoke v m => simp only; rw [hc v (by simp [Call.operands, hcal])]
    | value f => simp only; rw [hc f (by simp [Call.operands, hcal])]
  cases hop : o.op with
  | select cs b => exact absurd hop (hs cs b)
  | call c => simp only [hop, Op.operands] at h; simp only [execOp, hop, hcall h]
  | go c => simp only [hop, Op.operands] at h; simp only [execOp, hop, hcall h]
  | defer c => simp only [hop, Op.operands] at h; simp only [execOp, hop, hcall h]
  | build t ps => simp only [hop, Op.operands] at h; simp only [execOp, hop]; rw [hparts (by simpa using h)]
  | buildSlice t l ps => simp only [hop, Op.operands] at h; simp only [execOp, hop]; rw [hparts (by simpa using h)]
  | makeFunc f a b =>
    simp only [hop, Op.operands] at h
    simp only [execOp, hop]
    rw [harr (l := a) (fun x hx => h x (by simp; left; simpa using hx)), harr (l := b) (fun x hx => h x (by simp; right; simpa using hx))]
  | makeMap t a => simp only [hop, Op.operands] at h; simp only [execOp, hop]; rw [hopt (l := a) (fun x hx => h x (by cases a <;> simp_all))]
  | slice t x l hh m =>
    simp only [hop, Op.operands] at h
    simp only [execOp, hop]
    rw [h x (by simp), hopt (l := l) (fun x hx => h x (by cases l <;> simp_all)), hopt (l := hh) (fun x hx => h x (by cases hh <;> simp_all)), hopt (l := m) (fun x hx => h x (by cases m <;> simp_all))]
  | _ => simp [hop, Op.operands] at h; simp [execOp, hop, h]

def yieldedR (ops : Array Oper) (R : Regs) (j : Nat) : Option Bool :=
  match (ops[j]?).bind (·.dst) with
  | some d => match R d with | .bool b => some b | _ => none
  | none => none

theorem Rep.yielded {n : Fp} {a : Act} {R : Regs} (h : Rep n a R) (ops : Array Oper) : yielded ops a.tmps = yieldedR ops R := by
  funext j
  unfold Go.yielded yieldedR
  cases hd : (ops[j]?).bind (·.dst) with
  | none => simp
  | some d =>
    have h1 := h.get d
    rw [Array.getD_eq_getD_getElem?] at h1
    simp only [Option.bind_some]
    cases h2 : a.tmps[d]? with
    | none => rw [h2] at h1; simp [undef] at h1; rw [← h1]
    | some v =>
      rw [h2] at h1
      have h3 : v = R d := by simpa using h1
      rw [← h3]
      cases v <;> rfl

section
variable (P : Program) (n : Fp) (w0 : World) (S : Nat → Prop) (H : Hp)

/-- In the state 'R' the operation 'o' comes to 'v', whatever the world. -/
def qY (ops : Array Oper) (o : Oper) (R : Regs) (v : Value) : Prop :=
  (Region.wanted o (yieldedR ops R) = true ∧ Yields P w0 S H o R v) ∨ (Region.wanted o (yieldedR ops R) = false ∧ v = undef)

def quietG (ops : Array Oper) : List Oper → Regs → (Regs → Prop) → Prop
  | [], R, K => K R
  | o :: l, R, K => ∃ v, qY P w0 S H ops o R v ∧ quietG ops l (put R o.dst v) K
end

def lex : List Oper → List Value → Regs → Regs
  | o :: l, v :: vs, R => lex l vs (put R o.dst v)
  | _, _, R => R

def tmpsOf (o : Oper) : List Nat := o.op.operands.toList.filterMap fun | .tmp t => some t | _ => none

/-- May the region be walked in the text's order, its first 'm' operations quiet, the others one behind the other? -/
def drawOk (l : List Oper) (m : Nat) : Bool :=
  decide (m ≤ l.length) &&
  (l.all fun o => (match o.op with | .select .. => false | _ => true)) &&
  ((List.range l.length).all fun i => match l[i]? with
    | some o => o.after.all fun e => !Region.binds .any e || decide (e.on < i)
    | none => true) &&
  ((List.range m).all fun i => (List.range m).all fun j => i == j || match l[i]?, l[j]? with
    | some o, some p => o.dst.isNone || o.dst != p.dst
    | _, _ => true) &&
  ((List.range m).all fun i => match l[i]? with
    | some o => (List.range m).all fun j => match l[j]? with
      | some p => (match p.dst with
        | some d => !(tmpsOf o).contains d || (decide (j < i) && o.after.any fun e => Region.binds .any e && e.on == j)
        | none => true) && (match o.guard with
        | some (g, _) => decide (g < m) && (g != j || (decide (j < i) && o.after.any fun e => Region.binds .any e && e.on == j))
        | none => true)
      | none => true
    | none => true) &&
  (m == l.length || (List.range m).all fun i => (List.range (m + 1)).any fun j => decide (i < j) && match l[j]? with
    | some p => p.after.any fun e => Region.binds .any e && e.on == i
    | none => false) &&
  ((List.range l.length).all fun t => decide (t ≤ m) || match l[t]? with
    | some p => p.after.any fun e => Region.binds .any e && e.on == t - 1
    | none => false)

structure DrawOk (l : List Oper) (m : Nat) : Prop where
  le : m ≤ l.length
  sel : ∀ o ∈ l, ∀ cs b, o.op ≠ .select cs b
  back : ∀ i o, l[i]? = some o → ∀ e ∈ o.after, Region.binds .any e = true → e.on < i
  uniq : ∀ i j o p d, i < m → j < m → l[i]? = some o → l[j]? = some p → o.dst = some d → p.dst = some d → i = j
  data : ∀ i j o p d, i < m → j < m → l[i]? = some o → l[j]? = some p → p.dst = some d → d ∈ tmpsOf o → j < i ∧ ∃ e ∈ o.after, Region.binds .any e = true ∧ e.on = j
  guard : ∀ i o g b, i < m → l[i]? = some o → o.guard = some (g, b) → g < i ∧ ∃ e ∈ o.after, Region.binds .any e = true ∧ e.on = g
  sink : m < l.length → ∀ i, i < m → ∃ j p, i < j ∧ j ≤ m ∧ l[j]? = some p ∧ ∃ e ∈ p.after, Region.binds .any e = true ∧ e.on = i
  chain : ∀ t p, m < t → l[t]? = some p → ∃ e ∈ p.after, Region.binds .any e = true ∧ e.on = t - 1

theorem DrawOk.of {l : List Oper} {m : Nat} (h : drawOk l m = true) : DrawOk l m := by
  unfold drawOk at h
  simp only [Bool.and_eq_true] at h
  obtain ⟨⟨⟨⟨⟨⟨h1, h2⟩, h3⟩, h4⟩, h5⟩, h6⟩, h7⟩ := h
  have any_ : ∀ {o : Oper} {j : Nat}, (o.after.any fun e => Region.binds .any e && e.on == j) = true → ∃ e ∈ o.after, Region.binds .any e = true ∧ e.on = j := by
    intro o j ha
    obtain ⟨e, he, hb⟩ := Array.any_eq_true'.1 ha
    simp only [Bool.and_eq_true, beq_iff_eq] at hb
    exact ⟨e, he, hb.1, hb.2⟩
  have lt_of : ∀ {i : Nat} {o : Oper}, l[i]? = some o → i < l.length := fun h => (List.getElem?_eq_some_iff.1 h).1
  refine ⟨of_decide_eq_true h1, ?_, ?_, ?_, ?_, ?_, ?_, ?_⟩
  · intro o ho cs b e
    have := List.all_eq_true.1 h2 o ho
    rw [e] at this
    cases this
  · intro i o ho e he hb
    have := List.all_eq_true.1 h3 i (List.mem_range.2 (lt_of ho))
    rw [ho] at this
    have := (Array.all_eq_true_iff_forall_mem.1 this) e he
    simpa [hb] using this
  · intro i j o p d hi hj ho hp hd hd'
    have := List.all_eq_true.1 (List.all_eq_true.1 h4 i (List.mem_range.2 hi)) j (List.mem_range.2 hj)
    rw [ho, hp] at this
    simpa [hd, hd'] using this
  · intro i j o p d hi hj ho hp hd hm
    have := List.all_eq_true.1 h5 i (List.mem_range.2 hi)
    rw [ho] at this
    have := List.all_eq_true.1 this j (List.mem_range.2 hj)
    rw [hp] at this
    simp only [hd, Bool.and_eq_true, Bool.or_eq_true, Bool.not_eq_true', decide_eq_true_eq] at this
    rcases this.1 with x | x
    · rw [List.contains_iff_mem.2 hm] at x; cases x
    · exact ⟨x.1, any_ x.2⟩
  · intro i o g b hi ho hg
    have h5i := List.all_eq_true.1 h5 i (List.mem_range.2 hi)
    rw [ho] at h5i
    have hgm : g < m := by
      have := List.all_eq_true.1 h5i i (List.mem_range.2 hi)
      rw [ho] at this
      simp only [hg, Bool.and_eq_true, decide_eq_true_eq] at this
      exact this.2.1
    have := List.all_eq_true.1 h5i g (List.mem_range.2 hgm)
    have hlt : g < l.length := Nat.lt_of_lt_of_le hgm (of_decide_eq_true h1)
    rw [List.getElem?_eq_getElem hlt] at this
    simp only [hg, Bool.and_eq_true, Bool.or_eq_true, decide_eq_true_eq, bne_self_eq_false, Bool.false_eq_true, false_or] at this
    exact ⟨this.2.2.1, any_ this.2.2.2⟩
  · intro hml i hi
    have h6' := h6
    simp only [Bool.or_eq_true, beq_iff_eq] at h6'
    rcases h6' with x | x
    · omega
    · obtain ⟨j, hj, hj2⟩ := List.any_eq_true.1 (List.all_eq_true.1 x i (List.mem_range.2 hi))
      have hj := List.mem_range.1 hj
      simp only [Bool.and_eq_true, decide_eq_true_eq] at hj2
      cases hp : l[j]? with
      | none => rw [hp] at hj2; cases hj2.2
      | some p => rw [hp] at hj2; exact ⟨j, p, hj2.1, by omega, hp, any_ hj2.2⟩
  · intro t p ht hp
    have := List.all_eq_true.1 h7 t (List.mem_range.2 (lt_of hp))
    rw [hp] at this
    simp only [Bool.or_eq_true, decide_eq_true_eq] at this
    rcases this with x | x
    · omega
    · exact any_ x

/-! ### The text's own order, taken apart -/
section
variable {P : Program} {n : Fp} {w0 : World} {S : Nat → Prop} {H : Hp}

theorem quietG_vals {ops : Array Oper} : ∀ (l : List Oper) (R : Regs) (K : Regs → Prop), quietG P w0 S H ops l R K →
    ∃ vs : List Value, vs.length = l.length ∧ K (lex l vs R) ∧ ∀ i o v, l[i]? = some o → vs[i]? = some v → qY P w0 S H ops o (lex (l.take i) (vs.take i) R) v
  | [], R, K, h => ⟨[], rfl, h, by simp⟩
  | o :: l, R, K, h => by
    obtain ⟨v, hv, hk⟩ := h
    obtain ⟨vs, hl, hK, hq⟩ := quietG_vals l _ K hk
    refine ⟨v :: vs, by simp [hl], hK, ?_⟩
    intro i p u hp hu
    cases i with
    | zero => simp at hp hu; subst hp hu; exact hv
    | succ i => simp at hp hu; exact hq i p u hp hu

/-- What the lexical state holds. -/
theorem lex_get : ∀ (l : List Oper) (vs : List Value) (R : Regs), vs.length = l.length → (∀ (i j : Nat) (o p : Oper) (d : Tmp), l[i]? = some o → l[j]? = some p → o.dst = some d → p.dst = some d → i = j) →
    (∀ (i : Nat) (o : Oper) (v : Value) (d : Tmp), l[i]? = some o → vs[i]? = some v → o.dst = some d → lex l vs R d = v) ∧ (∀ t, (∀ (i : Nat) (o : Oper), l[i]? = some o → o.dst ≠ some t) → lex l vs R t = R t)
  | [], vs, R, _, _ => ⟨by simp, by intro t _; simp [lex]⟩
  | o :: l, [], R, h, _ => by simp at h
  | o :: l, v :: vs, R, h, hu => by
    have hu' : ∀ (i j : Nat) (o p : Oper) (d : Tmp), l[i]? = some o → l[j]? = some p → o.dst = some d → p.dst = some d → i = j := by
      intro i j o p d ho hp hd hd'
      have := hu (i + 1) (j + 1) o p d (by simpa using ho) (by simpa using hp) hd hd'
      omega
    obtain ⟨h1, h2⟩ := lex_get l vs (put R o.dst v) (by simpa using h) hu'
    refine ⟨?_, ?_⟩
    · intro i p u d hp hv hd
      cases i with
      | zero =>
        simp at hp hv
        subst hp hv
        simp only [lex]
        rw [h2 d (fun i q hq e => by have := hu 0 (i + 1) o q d rfl (by simpa using hq) hd e; omega), hd]
        simp [put, upd]
      | succ i => simp at hp hv; exact h1 i p u d hp hv hd
    · intro t ht
      simp only [lex]
      rw [h2 t (fun i q hq => ht (i + 1) q (by simpa using hq))]
      have h0 := ht 0 o rfl
      cases hd : o.dst with
      | none => rfl
      | some d => simp only [put, upd]; rw [if_neg]; intro e; exact h0 (by rw [hd, e])

theorem countP_lt {p q : Nat → Bool} : ∀ (L : List Nat), (∀ x ∈ L, q x = true → p x = true) → (∃ x ∈ L, p x = true ∧ q x = false) → L.countP q < L.countP p
  | [], _, h => by simp at h
  | x :: L, h1, h2 => by
    have hle : L.countP q ≤ L.countP p := List.countP_mono_left fun y hy => h1 y (List.mem_cons_of_mem _ hy)
    rw [List.countP_cons, List.countP_cons]
    by_cases hx : p x = true ∧ q x = false
    · rw [if_neg (by simp [hx.2]), if_pos hx.1]; omega
    · have : L.countP q < L.countP p := countP_lt L (fun y hy => h1 y (List.mem_cons_of_mem _ hy)) (by
        obtain ⟨y, hy, hy2⟩ := h2
        rcases List.mem_cons.1 hy with rfl | hy
        · exact absurd hy2 hx
        · exact ⟨y, hy, hy2⟩)
      have : (if q x = true then 1 else 0) ≤ (if p x = true then 1 else 0) := by
        by_cases hq : q x = true
        · rw [if_pos hq, if_pos (h1 x (List.mem_cons_self ..) hq)]; exact Nat.le_refl _
        · rw [if_neg hq]; exact Nat.zero_le _
      omega

def left (ops : Array Oper) (listed : Array Bool) : Nat := (List.range ops.size).countP fun i => !listed.getD i true

theorem getD_set (listed : Array Bool) (i j : Nat) (hi : i < listed.size) (x : Bool) : (listed.setIfInBounds i true).getD j x = if i = j then true else listed.getD j x := by
  simp only [Array.getD_eq_getD_getElem?, Array.getElem?_setIfInBounds]
  by_cases e : i = j
  · subst e; simp [hi]
  · simp [e]

theorem left_set {ops : Array Oper} {listed : Array Bool} {i : Nat} (hi : i < ops.size) (hs : listed.size = ops.size) (hl : listed.getD i true = false) : left ops (listed.setIfInBounds i true) < left ops listed := by
  refine countP_lt _ (fun x _ hx => ?_) ⟨i, List.mem_range.2 hi, by simp [hl], ?_⟩
  · rw [getD_set _ _ _ (by omega)] at hx
    split at hx <;> simp_all
  · rw [getD_set _ _ _ (by omega)]; simp

theorem wpAny_inv {ops : Array Oper} {Q : Exit → Act → World → Prop} (I : Array Bool → Act → World → Prop) (hsz : ∀ listed a w, I listed a w → listed.size = ops.size)
    (hstep : ∀ listed a w i, I listed a w → i ∈ Region.ready .any ops listed → wpOp P ops Q i (fun a' w' => I (listed.setIfInBounds i true) a' w') a w)
    (hend : ∀ listed a w, I listed a w → Region.ready .any ops listed = [] → Q .normal a w) :
    ∀ (fuel : Nat) (listed : Array Bool) (a : Act) (w : World), I listed a w → left ops listed ≤ fuel → wpAny P .any ops Q fuel listed a w := by
  have mono : ∀ {i : Nat} {K K' : Act → World → Prop} {a : Act} {w : World}, (∀ a w, K a w → K' a w) → wpOp P ops Q i K a w → wpOp P ops Q i K' a w := by
    intro i K K' a w hk h
    unfold wpOp at *
    cases ho : ops[i]? with
    | none => rw [ho] at h; exact hk _ _ h
    | some o =>
      rw [ho] at h
      simp only at h ⊢
      split
      · rename_i hw
        rw [if_pos hw] at h
        refine h.imp ?_ id
        unfold Oper.wp Oper.upon
        intro h
        split at h
        · exact hk _ _ h
        · exact hk _ _ h
        · exact hk _ _ h
        · exact h.mono fun e w'' q => by cases e <;> first | exact hk _ _ q | exact q
        · exact h.mono fun v w'' q => hk _ _ q
        · exact h
        · exact h
      · rename_i hw; rw [if_neg hw] at h; exact hk _ _ h
  have lt_of : ∀ {listed : Array Bool} {i : Nat}, i ∈ Region.ready .any ops listed → i < ops.size ∧ listed.getD i true = false := by
    intro listed i hi
    obtain ⟨h1, o, h2, _⟩ := mem_ready.1 hi
    exact ⟨(Array.getElem?_eq_some_iff.1 h2).1, h1⟩
  intro fuel
  induction fuel with
  | zero =>
    intro listed a w hI hl
    have he : Region.ready .any ops listed = [] := by
      cases hr : Region.ready .any ops listed with
      | nil => rfl
      | cons i l =>
        obtain ⟨h1, h2⟩ := lt_of (listed := listed) (i := i) (by rw [hr]; simp)
        have := left_set h1 (hsz _ _ _ hI) h2
        omega
    exact ⟨he, hend _ _ _ hI he⟩
  | succ fuel ih =>
    intro listed a w hI hl
    refine ⟨fun h => hend _ _ _ hI h, fun i hi => mono (fun a' w' h => ih _ a' w' h ?_) (hstep listed a w i hI hi)⟩
    obtain ⟨h1, h2⟩ := lt_of hi
    have := left_set h1 (hsz _ _ _ hI) h2
    omega

theorem c_draw {l : List Oper} {id : Nat} {X : Post} {R : Regs} (m : Nat) (hm : P.follows .mixedOrders = true) (hck : (drawOk l m && l.all (dstOk n)) = true)
    (h : quietG P w0 S H l.toArray (l.take m) R fun R' => Ops P n w0 S l.toArray X (l.drop m) R' H) : G n w0 S ((Code.region id l.toArray true).wp P X) R H := by
  simp only [Bool.and_eq_true] at hck
  obtain ⟨hck, hdst⟩ := hck
  have ok := DrawOk.of hck
  have hdst : ∀ o ∈ l, dstOk n o = true := fun o ho => List.all_eq_true.1 hdst o ho
  obtain ⟨vs, hlen, hK, hq⟩ := quietG_vals _ _ _ h
  have hlm : (l.take m).length = m := by simp [ok.le]
  rw [hlm] at hlen
  have tk : ∀ {i : Nat}, i < m → (l.take m)[i]? = l[i]? := fun hi => by simp [hi]
  -- the lexical state ahead of the operation i
  have lexAt : ∀ i, i ≤ m → (∀ k o v d, k < i → l[k]? = some o → vs[k]? = some v → o.dst = some d → lex ((l.take m).take i) (vs.take i) R d = v) ∧
      (∀ t, (∀ k o, k < i → l[k]? = some o → o.dst ≠ some t) → lex ((l.take m).take i) (vs.take i) R t = R t) := by
    intro i hi
    have e : (l.take m).take i = l.take i := by rw [List.take_take]; congr 1; omega
    rw [e]
    obtain ⟨h1, h2⟩ := lex_get (l.take i) (vs.take i) R (by simp; have := ok.le; omega) (by
      intro a b o p d ho hp hd hd'
      have ha : a < i := by have := (List.getElem?_eq_some_iff.1 ho).1; simp at this; omega
      have hb : b < i := by have := (List.getElem?_eq_some_iff.1 hp).1; simp at this; omega
      exact ok.uniq a b o p d (by omega) (by omega) (by simpa [ha] using ho) (by simpa [hb] using hp) hd hd')
    refine ⟨fun k o v d hk ho hv hd => h1 k o v d (by simpa [hk] using ho) (by simpa [hk] using hv) hd, fun t ht => h2 t fun k o ho => ?_⟩
    have hk : k < i := by have := (List.getElem?_eq_some_iff.1 ho).1; simp at this; omega
    exact ht k o hk (by simpa [hk] using ho)
  intro a w ha hw
  refine wp_region_any hm ?_
  let ops := l.toArray
  have hops : ∀ i : Nat, ops[i]? = l[i]? := fun i => by simp [ops]
  have hsize : ops.size = l.length := by simp [ops]
  let closed (listed : Array Bool) : Prop := ∀ (i : Nat) (o : Oper), l[i]? = some o → listed.getD i true = true → ∀ e ∈ o.after, Region.binds .any e = true → listed.getD e.on false = true
  let HI (listed : Array Bool) (a : Act) (w : World) : Prop := listed.size = ops.size ∧ ∃ Rc, Rep n a Rc ∧ St w0 S H w ∧ closed listed ∧ (∀ t, m ≤ t → t < l.length → listed.getD t true = false) ∧
    (∀ k o v d, k < m → listed.getD k true = true → l[k]? = some o → vs[k]? = some v → o.dst = some d → Rc d = v) ∧ (∀ t, (∀ k o, k < m → listed.getD k true = true → l[k]? = some o → o.dst ≠ some t) → Rc t = R t)
  let TI (listed : Array Bool) (a : Act) (w : World) : Prop := listed.size = ops.size ∧ ∃ t, m < t ∧ t ≤ l.length ∧ (∀ k, k < t → listed.getD k true = true) ∧ (∀ k, t ≤ k → k < l.length → listed.getD k true = false) ∧
    wpList P ops (X) (l.drop t) a w
  have flip : ∀ {listed : Array Bool} {i : Nat}, listed.size = ops.size → i < l.length → (listed.getD i false = true ↔ listed.getD i true = true) := by
    intro listed i hs hi
    have : i < listed.size := by omega
    simp [this]
  have lt_of : ∀ {i : Nat} {o : Oper}, l[i]? = some o → i < l.length := fun h => (List.getElem?_eq_some_iff.1 h).1
  -- behind all of the head the state is the lexical one
  have headDone : ∀ {listed : Array Bool} {Rc : Regs}, (∀ k, k < m → listed.getD k true = true) →
      (∀ k o v d, k < m → listed.getD k true = true → l[k]? = some o → vs[k]? = some v → o.dst = some d → Rc d = v) → (∀ t, (∀ k o, k < m → listed.getD k true = true → l[k]? = some o → o.dst ≠ some t) → Rc t = R t) →
      Rc = lex (l.take m) vs R := by
    intro listed Rc hall h1 h2
    obtain ⟨g1, g2⟩ := lexAt m (Nat.le_refl _)
    have e1 : (l.take m).take m = l.take m := by rw [List.take_take]; congr 1; omega
    have e2 : vs.take m = vs := List.take_of_length_le (by omega)
    rw [e1, e2] at g1 g2
    funext t
    by_cases ht : ∃ k o, k < m ∧ l[k]? = some o ∧ o.dst = some t
    · obtain ⟨k, o, hk, ho, hd⟩ := ht
      have hv : vs[k]? = some (vs[k]'(by omega)) := List.getElem?_eq_getElem _
      rw [h1 k o _ t hk (hall k hk) ho hv hd, g1 k o _ t hk ho hv hd]
    · have hn : ∀ k o, k < m → l[k]? = some o → o.dst ≠ some t := fun k o hk ho hd => ht ⟨k, o, hk, ho, hd⟩
      rw [h2 t (fun k o hk _ ho => hn k o hk ho), g2 t hn]
  refine wpAny_inv (fun listed a w => HI listed a w ∨ TI listed a w) ?_ ?_ ?_ _ _ _ _ (.inl ?_) ?_
  · rintro listed a w (⟨h, _⟩ | ⟨h, _⟩) <;> exact h
  · rintro listed a w i (⟨hs, Rc, hr, hst, hcl, htl, hv1, hv2⟩ | ⟨hs, t, ht1, ht2, hd1, hd2, hwp⟩) hi
    · obtain ⟨hun, o, ho, haft⟩ := mem_ready.1 hi
      rw [hops] at ho
      have hil := lt_of ho
      have aft : ∀ e ∈ o.after, Region.binds .any e = true → listed.getD e.on true = true := fun e he hb => by
        have h1 := haft e he hb
        have := ok.back i o ho e he hb
        exact (flip hs (by omega)).1 h1
      by_cases him : i < m
      · -- an operation of the head
        have hvi : vs[i]? = some (vs[i]'(by omega)) := List.getElem?_eq_getElem _
        have hqi := hq i o _ (by rw [tk him]; exact ho) hvi
        obtain ⟨g1, g2⟩ := lexAt i (by omega)
        generalize hRi : lex ((l.take m).take i) (vs.take i) R = Ri at hqi g1 g2
        have same : ∀ d, (∀ k p, k < m → l[k]? = some p → p.dst = some d → k < i ∧ listed.getD k true = true) → Rc d = Ri d := by
          intro d hd
          by_cases hx : ∃ k p, k < m ∧ l[k]? = some p ∧ p.dst = some d
          · obtain ⟨k, p, hk, hp, hpd⟩ := hx
            obtain ⟨hki, hkl⟩ := hd k p hk hp hpd
            have hvk : vs[k]? = some (vs[k]'(by omega)) := List.getElem?_eq_getElem _
            rw [hv1 k p _ d hk hkl hp hvk hpd, g1 k p _ d hki hp hvk hpd]
          · have hn : ∀ k p, k < m → l[k]? = some p → p.dst ≠ some d := fun k p hk hp e => hx ⟨k, p, hk, hp, e⟩
            rw [hv2 d (fun k p hk _ hp => hn k p hk hp), g2 d (fun k p hk hp => hn k p (by omega) hp)]
        have hop : ∀ x ∈ o.op.operands.toList, ev Rc x = ev Ri x := by
          intro x hx
          cases x with
          | tmp d =>
            refine same d fun k p hk hp hpd => ?_
            obtain ⟨h1, e, he, hb, hon⟩ := ok.data i k o p d him hk ho hp hpd (by unfold tmpsOf; exact List.mem_filterMap.2 ⟨_, hx, rfl⟩)
            exact ⟨h1, hon ▸ aft e he hb⟩
          | _ => rfl
        have hexec : execOp (ev Rc) o = execOp (ev Ri) o := execOp_congr (ok.sel o (List.mem_of_getElem? ho)) hop
        have hwant : Region.wanted o (yieldedR ops Rc) = Region.wanted o (yieldedR ops Ri) := by
          unfold Region.wanted
          cases hg : o.guard with
          | none => rfl
          | some gb =>
            obtain ⟨g, b⟩ := gb
            obtain ⟨h1, e, he, hb, hon⟩ := ok.guard i o g b him ho hg
            have hyy : yieldedR ops Rc g = yieldedR ops Ri g := by
              unfold yieldedR
              cases hd : (ops[g]?).bind (·.dst) with
              | none => rfl
              | some d =>
                simp only
                rw [same d]
                intro k p hk hp hpd
                obtain ⟨q, hq1, hq2⟩ := Option.bind_eq_some_iff.1 hd
                rw [hops] at hq1
                obtain rfl := ok.uniq k g p q d hk (by omega) hp hq1 hpd hq2
                exact ⟨h1, hon ▸ aft e he hb⟩
            simp only [hyy]
        -- the step
        have next : ∀ w', St w0 S H w' → HI (listed.setIfInBounds i true) (a.put o.dst (vs[i]'(by omega))) w' := by
          intro w' hw'
          have hsi : i < listed.size := by omega
          refine ⟨by simp [hs], _, hr.put _ (hdst o (List.mem_of_getElem? ho)), hw', ?_, ?_, ?_, ?_⟩
          · intro k p hp hk e he hb
            have hkl := lt_of hp
            rw [getD_set _ _ _ hsi] at hk ⊢
            by_cases h1 : i = k
            · subst h1
              obtain rfl : p = o := Option.some.inj (hp.symm.trans ho)
              split
              · rfl
              · exact haft e he hb
            · rw [if_neg h1] at hk
              split
              · rfl
              · exact hcl k p hp hk e he hb
          · intro t ht htl'
            rw [getD_set _ _ _ hsi, if_neg (by omega)]
            exact htl t ht htl'
          · intro k p v d hk hkl hp hv hd
            rw [getD_set _ _ _ hsi] at hkl
            by_cases h1 : i = k
            · subst h1
              obtain rfl : p = o := Option.some.inj (hp.symm.trans ho)
              obtain rfl : v = vs[i]'(by omega) := Option.some.inj (hv.symm.trans hvi)
              rw [hd]; simp [put, upd]
            · rw [if_neg h1] at hkl
              have := hv1 k p v d hk hkl hp hv hd
              cases hod : o.dst with
              | none => exact this
              | some d' =>
                simp only [put, upd]
                rw [if_neg]
                · exact this
                · intro e2; subst e2; exact h1 (ok.uniq i k o p d him hk ho hp hod hd)
          · intro t ht
            have h0 : o.dst ≠ some t := ht i o him (by rw [getD_set _ _ _ hsi]; simp) ho
            have := hv2 t fun k p hk hkl hp => ht k p hk (by rw [getD_set _ _ _ hsi]; split <;> first | rfl | exact hkl) hp
            cases hod : o.dst with
            | none => exact this
            | some d' =>
              simp only [put, upd]
              rw [if_neg]
              · exact this
              · intro e2; exact h0 (by rw [hod, e2])
        unfold wpOp
        rw [hops, ho]
        simp only
        have hy := hr.yielded ops
        rw [hy, hwant]
        rcases hqi with ⟨hw1, hyv⟩ | ⟨hw1, hyv⟩
        · rw [if_pos hw1]
          left
          have h1 := hyv w hst
          unfold Oper.wp
          rw [hr.ev, hexec]
          generalize (execOp (ev Ri) o).run P w = r at h1
          cases r with
          | ok x w' =>
            cases x <;> simp only [Oper.quietUpon] at h1 <;> simp only [Oper.upon]
            case value u => obtain ⟨rfl, rfl⟩ := h1; exact .inl (next _ hst)
            case skip => obtain ⟨rfl, h2⟩ := h1; rw [← h2]; exact .inl (next _ hst)
            case enter f args =>
              obtain ⟨rfl, hc⟩ := h1
              exact hc.mono fun e w'' ⟨he, hs'⟩ => by subst he; exact .inl (next _ hs')
          | halt x w' => simp only [Oper.quietUpon] at h1
        · have hw2 : Region.wanted o (yieldedR ops Ri) = false := hw1
          rw [if_neg (by simp [hw2]), ← hyv]
          exact .inl (next _ hst)
      · -- the first one behind the head
        have hmi : i = m := by
          rcases Nat.lt_or_ge m i with hgt | hle
          · obtain ⟨e, he, hb, hon⟩ := ok.chain i o hgt ho
            have h1 := aft e he hb
            rw [hon, htl (i - 1) (by omega) (by omega)] at h1
            cases h1
          · omega
        subst hmi
        have hall : ∀ k, k < i → listed.getD k true = true := by
          have key : ∀ d k, k < i → i - k ≤ d → listed.getD k true = true := by
            intro d
            induction d with
            | zero => intro k hk hd; omega
            | succ d ih =>
              intro k hk hd
              obtain ⟨j, p, hkj, hji, hp, e, he, hb, hon⟩ := ok.sink hil k hk
              by_cases hj : j = i
              · subst hj
                obtain rfl : p = o := Option.some.inj (hp.symm.trans ho)
                exact hon ▸ aft e he hb
              · have h1 := hcl j p hp (ih j (by omega) (by omega)) e he hb
                rw [hon] at h1
                exact (flip hs (by omega)).1 h1
          exact fun k hk => key (i - k) k hk (Nat.le_refl _)
        have hRc := headDone hall hv1 hv2
        subst hRc
        have hwp := hK a w hr hst
        have hdr : l.drop i = o :: l.drop (i + 1) := by
          rw [List.drop_eq_getElem_cons hil]
          congr 1
          exact (List.getElem?_eq_some_iff.1 ho).2
        rw [hdr] at hwp
        unfold wpList at hwp
        unfold wpOp
        rw [hops, ho]
        simp only
        have next : ∀ a' w', wpList P ops (X) (l.drop (i + 1)) a' w' → TI (listed.setIfInBounds i true) a' w' := by
          intro a' w' h1
          have hsi : i < listed.size := by omega
          refine ⟨by simp [hs], i + 1, by omega, by omega, ?_, ?_, h1⟩
          · intro k hk
            rw [getD_set _ _ _ hsi]
            split
            · rfl
            · exact hall k (by omega)
          · intro k hk hkl
            rw [getD_set _ _ _ hsi, if_neg (by omega)]
            exact htl k (by omega) hkl
        split
        · rename_i hw1
          rw [if_pos hw1] at hwp
          refine hwp.imp ?_ (fun x => x)
          unfold Oper.wp Oper.upon
          intro h1
          split at h1
          · exact .inr (next _ _ h1)
          · exact .inr (next _ _ h1)
          · exact .inr (next _ _ h1)
          · exact h1.mono fun e w'' q => by cases e <;> first | exact .inr (next _ _ q) | exact q
          · exact h1.mono fun v w'' q => .inr (next _ _ q)
          · exact h1
          · exact h1
        · rename_i hw1
          rw [if_neg hw1] at hwp
          exact .inr (next _ _ hwp)
    · obtain ⟨hun, o, ho, haft⟩ := mem_ready.1 hi
      rw [hops] at ho
      have hil := lt_of ho
      have hit : i = t := by
        rcases Nat.lt_or_ge i t with h1 | h1
        · rw [hd1 i h1] at hun; cases hun
        · rcases Nat.lt_or_ge t i with h2 | h2
          · obtain ⟨e, he, hb, hon⟩ := ok.chain i o (by omega) ho
            have h3 := (flip hs (by omega)).1 (haft e he hb)
            rw [hon, hd2 (i - 1) (by omega) (by omega)] at h3
            cases h3
          · omega
      subst hit
      have hdr : l.drop i = o :: l.drop (i + 1) := by
        rw [List.drop_eq_getElem_cons hil]
        congr 1
        exact (List.getElem?_eq_some_iff.1 ho).2
      rw [hdr] at hwp
      unfold wpList at hwp
      unfold wpOp
      rw [hops, ho]
      simp only
      have next : ∀ a' w', wpList P ops (X) (l.drop (i + 1)) a' w' → TI (listed.setIfInBounds i true) a' w' := by
        intro a' w' h1
        have hsi : i < listed.size := by omega
        refine ⟨by simp [hs], i + 1, by omega, by omega, ?_, ?_, h1⟩
        · intro k hk
          rw [getD_set _ _ _ hsi]
          split
          · rfl
          · exact hd1 k (by omega)
        · intro k hk hkl
          rw [getD_set _ _ _ hsi, if_neg (by omega)]
          exact hd2 k (by omega) hkl
      split
      · rename_i hw1
        rw [if_pos hw1] at hwp
        refine hwp.imp ?_ (fun x => x)
        unfold Oper.wp Oper.upon
        intro h1
        split at h1
        · exact .inr (next _ _ h1)
        · exact .inr (next _ _ h1)
        · exact .inr (next _ _ h1)
        · exact h1.mono fun e w'' q => by cases e <;> first | exact .inr (next _ _ q) | exact q
        · exact h1.mono fun v w'' q => .inr (next _ _ q)
        · exact h1
        · exact h1
      · rename_i hw1
        rw [if_neg hw1] at hwp
        exact .inr (next _ _ hwp)
  · -- nothing more to do
    have allOf : ∀ {listed : Array Bool}, listed.size = ops.size → Region.ready .any ops listed = [] → ∀ k, k < l.length → listed.getD k true = true := by
      intro listed hs hr k
      induction k using Nat.strongRecOn with
      | _ k ih =>
        intro hk
        cases hx : listed.getD k true with
        | true => rfl
        | false =>
          exfalso
          have : k ∈ Region.ready .any ops listed := mem_ready.2 ⟨hx, l[k], by rw [hops]; exact List.getElem?_eq_getElem hk, fun e he hb => by
            have hlt := ok.back k _ (List.getElem?_eq_getElem hk) e he hb
            exact (flip hs (by omega)).2 (ih e.on hlt (by omega))⟩
          rw [hr] at this
          cases this
    rintro listed a w (⟨hs, Rc, hr, hst, hcl, htl, hv1, hv2⟩ | ⟨hs, t, ht1, ht2, hd1, hd2, hwp⟩) he
    · have hall := allOf hs he
      have hmm : m = l.length := by
        rcases Nat.lt_or_ge m l.length with h1 | h1
        · exact absurd (hall m h1) (by rw [htl m (Nat.le_refl _) h1]; simp)
        · have := ok.le; omega
      have hRc := headDone (fun k hk => hall k (by omega)) hv1 hv2
      subst hRc
      have := hK a w hr hst
      rw [hmm, List.drop_length] at this
      exact this
    · have hall := allOf hs he
      have : t = l.length := by
        rcases Nat.lt_or_ge t l.length with h1 | h1
        · exact absurd (hall t h1) (by rw [hd2 t (Nat.le_refl _) h1]; simp)
        · omega
      rw [this, List.drop_length] at hwp
      exact hwp
  · refine ⟨by simp [ops], R, ⟨ha.size, ha.defers, ha.get⟩, hw.drew, ?_, ?_, ?_, fun t _ => rfl⟩
    · intro i o ho hli
      have := lt_of ho
      simp [this] at hli
    · intro t _ htl'
      simp [htl']
    · intro k o v d hk hli
      have := ok.le
      have : k < l.length := by omega
      simp [this] at hli
  · exact Nat.le_trans List.countP_le_length (by simp)

/-! ### Its rules -/
variable {ops : Array Oper} {R : Regs} {K : Regs → Prop} {o : Oper} {rest : List Oper}
theorem q_nil (h : K R) : quietG P w0 S H ops [] R K := h
theorem q_y {v : Value} (hg : o.guard = none) (hy : Yields P w0 S H o R v) (h : quietG P w0 S H ops rest (put R o.dst v) K) : quietG P w0 S H ops (o :: rest) R K :=
  ⟨v, .inl ⟨by simp [Region.wanted, hg], hy⟩, h⟩
theorem Yields.unguard {v : Value} (hy : Yields P w0 S H { o with guard := none } R v) : Yields P w0 S H o R v := hy
theorem q_guardT {j d : Nat} {want : Bool} (hg : o.guard = some (j, want)) (hj : (ops[j]?).bind (·.dst) = some d) (hb : R d = .bool want)
    (h : quietG P w0 S H ops ({ o with guard := none } :: rest) R K) : quietG P w0 S H ops (o :: rest) R K := by
  obtain ⟨v, hq, hk⟩ := h
  refine ⟨v, .inl ⟨?_, ?_⟩, hk⟩
  · unfold Region.wanted yieldedR
    rw [hg]
    simp [hj, hb]
  · rcases hq with ⟨_, hy⟩ | ⟨hw, _⟩
    · exact hy
    · simp [Region.wanted] at hw
theorem q_guardF {j d : Nat} {want b : Bool} (hg : o.guard = some (j, want)) (hj : (ops[j]?).bind (·.dst) = some d) (hb : R d = .bool b) (hn : b = !want)
    (h : quietG P w0 S H ops rest (put R o.dst undef) K) : quietG P w0 S H ops (o :: rest) R K := by
  refine ⟨undef, .inr ⟨?_, rfl⟩, h⟩
  unfold Region.wanted yieldedR
  rw [hg]
  subst hn
  cases want <;> simp [hj, hb]
end

end Go.Proofs.YtnilejkfbcnkkaaGreatDoor.V
end
section
namespace Go.Proofs.YtnilejkfbcnkkaaGreatDoor.V
open Go Go.RowKit


def edge (o : Oper) (j : Nat) : Bool := o.after.any fun e => Region.binds .any e && e.on == j
def dstAt (l : List Oper) (i : Nat) : Option Tmp := (l[i]?).bind (·.dst)

/-- hds: the quiet ones, tl: the others, el: those of the quiet ones that come ahead of the first of the others. -/
def drawOkF (l : List Oper) (hds tl el : List Nat) : Bool :=
  (l.all fun o => (match o.op with | .select .. => false | _ => true)) &&
  ((List.range l.length).all fun i => match l[i]? with
    | some o => (match o.guard with | some (g, _) => hds.contains g && decide (g < i) && edge o g | none => true)
    | none => true) &&
  ((List.range l.length).all fun i => match l[i]? with
    | some o => o.after.all fun e => !Region.binds .any e || decide (e.on < i)
    | none => true) &&
  ((List.range l.length).all fun i => hds.contains i != tl.contains i) &&
  (hds.all fun i => decide (i < l.length)) && (tl.all fun i => decide (i < l.length)) && decide (hds.Pairwise (· < ·)) && decide tl.Nodup &&
  (hds.all fun i => (List.range l.length).all fun j => i == j || (dstAt l i).isNone || dstAt l i != dstAt l j) &&
  ((List.range l.length).all fun i => match l[i]? with
    | some o => (List.range l.length).all fun j => match l[j]? with
      | some p => (match p.dst with
        | some d => !(tmpsOf o).contains d || (if tl.contains j then tl.contains i || edge p i else decide (j < i) && edge o j)
        | none => true)
      | none => true
    | none => true) &&
  ((List.range tl.length).all fun k => match tl[k]?, tl[k + 1]? with
    | some t, some t' => (match l[t']? with | some p => edge p t | none => false)
    | _, _ => true) &&
  (el.all fun i => (List.range l.length).any fun j => decide (i < j) && (tl.head? == some j || el.contains j) && (match l[j]? with | some p => edge p i | none => false))

def Edge (o : Oper) (j : Nat) : Prop := ∃ e ∈ o.after, Region.binds .any e = true ∧ e.on = j
theorem edge_of {o : Oper} {j : Nat} (h : edge o j = true) : Edge o j := by
  obtain ⟨e, he, hb⟩ := Array.any_eq_true'.1 h
  simp only [Bool.and_eq_true, beq_iff_eq] at hb
  exact ⟨e, he, hb.1, hb.2⟩

structure DrawOkF (l : List Oper) (hds tl el : List Nat) : Prop where
  guard : ∀ i o g b, l[i]? = some o → o.guard = some (g, b) → g ∈ hds ∧ g < i ∧ Edge o g
  sel : ∀ o ∈ l, ∀ cs b, o.op ≠ .select cs b
  back : ∀ i o, l[i]? = some o → ∀ e ∈ o.after, Region.binds .any e = true → e.on < i
  part : ∀ i, i < l.length → (i ∈ hds ∧ i ∉ tl) ∨ (i ∈ tl ∧ i ∉ hds)
  hlt : ∀ i ∈ hds, i < l.length
  tlt : ∀ i ∈ tl, i < l.length
  srt : hds.Pairwise (· < ·)
  nd : tl.Nodup
  uniq : ∀ i j d, i ∈ hds → j < l.length → i ≠ j → dstAt l i = some d → dstAt l j ≠ some d
  dataH : ∀ i j o d, l[i]? = some o → j ∈ hds → dstAt l j = some d → d ∈ tmpsOf o → j < i ∧ Edge o j
  dataT : ∀ i j o p d, l[i]? = some o → l[j]? = some p → i ∈ hds → j ∈ tl → p.dst = some d → d ∈ tmpsOf o → Edge p i
  chain : ∀ k t t' p, tl[k]? = some t → tl[k + 1]? = some t' → l[t']? = some p → Edge p t
  early : ∀ i ∈ el, ∃ j p, i < j ∧ j < l.length ∧ (tl.head? = some j ∨ j ∈ el) ∧ l[j]? = some p ∧ Edge p i

theorem DrawOkF.of {l : List Oper} {hds tl el : List Nat} (h : drawOkF l hds tl el = true) : DrawOkF l hds tl el := by
  unfold drawOkF at h
  simp only [Bool.and_eq_true] at h
  obtain ⟨⟨⟨⟨⟨⟨⟨⟨⟨⟨⟨h1, h0⟩, h2⟩, h3⟩, h4⟩, h5⟩, h6⟩, h7⟩, h8⟩, h9⟩, h10⟩, h11⟩ := h
  have lt_of : ∀ {i : Nat} {o : Oper}, l[i]? = some o → i < l.length := fun h => (List.getElem?_eq_some_iff.1 h).1
  have part : ∀ i, i < l.length → (i ∈ hds ∧ i ∉ tl) ∨ (i ∈ tl ∧ i ∉ hds) := by
    intro i hi
    have := List.all_eq_true.1 h3 i (List.mem_range.2 hi)
    by_cases a : i ∈ hds <;> by_cases b : i ∈ tl <;> simp_all
  have hlt : ∀ i ∈ hds, i < l.length := fun i hi => of_decide_eq_true (List.all_eq_true.1 h4 i hi)
  have tlt : ∀ i ∈ tl, i < l.length := fun i hi => of_decide_eq_true (List.all_eq_true.1 h5 i hi)
  have notT : ∀ {j}, j ∈ hds → tl.contains j = false := by
    intro j hj
    rcases part j (hlt j hj) with x | x
    · simpa using x.2
    · exact absurd hj x.2
  have isT : ∀ {j}, j ∈ tl → tl.contains j = true := fun hj => List.contains_iff_mem.2 hj
  refine ⟨?_, ?_, ?_, part, hlt, tlt, of_decide_eq_true h6, of_decide_eq_true h7, ?_, ?_, ?_, ?_, ?_⟩
  · intro i o g b ho hg
    have := List.all_eq_true.1 h0 i (List.mem_range.2 (lt_of ho))
    rw [ho] at this
    simp only [hg, Bool.and_eq_true, decide_eq_true_eq] at this
    exact ⟨List.contains_iff_mem.1 this.1.1, this.1.2, edge_of this.2⟩
  · intro o ho cs b e
    have := List.all_eq_true.1 h1 o ho
    rw [e] at this
    simp at this
  · intro i o ho e he hb
    have := List.all_eq_true.1 h2 i (List.mem_range.2 (lt_of ho))
    rw [ho] at this
    have := (Array.all_eq_true_iff_forall_mem.1 this) e he
    simpa [hb] using this
  · intro i j d hi hj hne hd hd'
    have := List.all_eq_true.1 (List.all_eq_true.1 h8 i hi) j (List.mem_range.2 hj)
    rw [hd, hd'] at this
    simp at this
    exact hne this
  · intro i j o d ho hj hd hm
    have := List.all_eq_true.1 h9 i (List.mem_range.2 (lt_of ho))
    rw [ho] at this
    have := List.all_eq_true.1 this j (List.mem_range.2 (hlt j hj))
    unfold dstAt at hd
    cases hp : l[j]? with
    | none => rw [hp] at hd; cases hd
    | some p =>
      rw [hp] at this hd
      have hd : p.dst = some d := hd
      simp only [hd, notT hj, List.contains_iff_mem.2 hm, Bool.not_true, Bool.false_or, if_neg, Bool.false_eq_true, not_false_eq_true, Bool.and_eq_true, decide_eq_true_eq] at this
      exact ⟨this.1, edge_of this.2⟩
  · intro i j o p d ho hp hi hj hd hm
    have := List.all_eq_true.1 h9 i (List.mem_range.2 (lt_of ho))
    rw [ho] at this
    have := List.all_eq_true.1 this j (List.mem_range.2 (lt_of hp))
    rw [hp] at this
    simp only [hd, isT hj, notT hi, List.contains_iff_mem.2 hm, Bool.not_true, Bool.false_or, if_true] at this
    exact edge_of this
  · intro k t t' p hk hk' hp
    have := List.all_eq_true.1 h10 k (List.mem_range.2 (List.getElem?_eq_some_iff.1 hk).1)
    rw [hk, hk'] at this
    simp only [hp] at this
    exact edge_of this
  · intro i hi
    obtain ⟨j, hj, hj2⟩ := List.any_eq_true.1 (List.all_eq_true.1 h11 i hi)
    have hj := List.mem_range.1 hj
    simp only [Bool.and_eq_true, decide_eq_true_eq, Bool.or_eq_true, beq_iff_eq] at hj2
    cases hp : l[j]? with
    | none => rw [hp] at hj2; cases hj2.2
    | some p =>
      rw [hp] at hj2
      exact ⟨j, p, hj2.1.1, hj, hj2.1.2.imp id (fun x => List.contains_iff_mem.1 x), hp, edge_of hj2.2⟩

section
variable (P : Program) (n : Fp) (w0 : World) (S : Nat → Prop)

def quietF (ops : Array Oper) (H : Hp) (l : List Oper) (el : List Nat) : List Nat → Regs → List (Oper × Regs × Value) → (Regs → List (Oper × Regs × Value) → Prop) → Prop
  | [], R, acc, K => K R acc
  | i :: is, R, acc, K => ∃ o v, l[i]? = some o ∧ qY P w0 S H ops o R v ∧ quietF ops H l el is (put R o.dst v) (if el.contains i = true then acc else (o, R, v) :: acc) K

def allQ (ops : Array Oper) (H : Hp) : List (Oper × Regs × Value) → Prop
  | [] => True
  | x :: acc => qY P w0 S H ops x.1 x.2.1 x.2.2 ∧ allQ ops H acc

def tailG (ops : Array Oper) (l : List Oper) (acc : List (Oper × Regs × Value)) (X : Post) : List Nat → Regs → Hp → Prop
  | [], R, H => G n w0 S (X .normal) R H
  | i :: is, R, H => ∃ o, l[i]? = some o ∧ Ops P n w0 S ops (liftX n w0 S fun e R' H' => e = .normal ∧ allQ P w0 S ops H' acc ∧ tailG ops l acc X is R' H') [o] R H
end

section
variable {P : Program} {n : Fp} {w0 : World} {S : Nat → Prop} {H : Hp}

theorem allQ_mem {ops : Array Oper} {acc : List (Oper × Regs × Value)} (h : allQ P w0 S ops H acc) : ∀ x ∈ acc, qY P w0 S H ops x.1 x.2.1 x.2.2 := by
  induction acc with
  | nil => intro x hx; cases hx
  | cons y acc ih =>
    intro x hx
    rcases List.mem_cons.1 hx with rfl | hx
    · exact h.1
    · exact ih h.2 x hx

theorem quietF_vals {ops : Array Oper} {l : List Oper} {el : List Nat} : ∀ (is : List Nat) (R : Regs) (acc : List (Oper × Regs × Value)) (K : Regs → List (Oper × Regs × Value) → Prop),
    quietF P w0 S ops H l el is R acc K → is.Pairwise (· < ·) → (∀ i j d, i ∈ is → j ∈ is → i ≠ j → dstAt l i = some d → dstAt l j ≠ some d) →
    ∃ (v : Nat → Value) (Ri : Nat → Regs) (R' : Regs) (acc' : List (Oper × Regs × Value)), K R' acc' ∧ (∀ x ∈ acc, x ∈ acc') ∧
      (∀ i ∈ is, ∃ o, l[i]? = some o ∧ qY P w0 S H ops o (Ri i) (v i) ∧ (i ∉ el → (o, Ri i, v i) ∈ acc')) ∧
      (∀ i ∈ is, ∀ d, (∀ j ∈ is, j < i → dstAt l j ≠ some d) → Ri i d = R d) ∧ (∀ i ∈ is, ∀ j ∈ is, ∀ d, j < i → dstAt l j = some d → Ri i d = v j) ∧
      (∀ j ∈ is, ∀ d, dstAt l j = some d → R' d = v j) ∧ (∀ d, (∀ j ∈ is, dstAt l j ≠ some d) → R' d = R d)
  | [], R, acc, K, h, _, _ => ⟨fun _ => undef, fun _ => R, R, acc, h, fun _ h => h, by simp, by simp, by simp, by simp, by simp⟩
  | i :: is, R, acc, K, h, hs, hu => by
    obtain ⟨o, u, ho, hy, hq⟩ := h
    obtain ⟨hi, hs'⟩ := List.pairwise_cons.1 hs
    obtain ⟨v, Ri, R', acc', hK, hac, hel, f1, f2, f3, f4⟩ := quietF_vals is _ _ K hq hs' (fun a b d ha hb => hu a b d (List.mem_cons_of_mem _ ha) (List.mem_cons_of_mem _ hb))
    have hdi : dstAt l i = o.dst := by simp [dstAt, ho]
    have ne : ∀ {k}, k ∈ is → k ≠ i := fun hk e => by have := hi _ hk; omega
    have pt : ∀ {d}, o.dst = some d → put R o.dst u d = u := by intro d hd; rw [hd]; simp [put, upd]
    have pf : ∀ {d}, o.dst ≠ some d → put R o.dst u d = R d := by
      intro d hd
      cases e : o.dst with
      | none => rfl
      | some d' =>
        simp only [put, upd]
        rw [if_neg]
        intro e2; subst e2; exact hd e
    refine ⟨fun k => if k = i then u else v k, fun k => if k = i then R else Ri k, R', acc', hK, ?_, ?_, ?_, ?_, ?_, ?_⟩
    · intro x hx
      refine hac x ?_
      split
      · exact hx
      · exact List.mem_cons_of_mem _ hx
    · intro k hk
      by_cases e : k = i
      · subst e
        refine ⟨o, ho, by simpa using hy, fun hne => ?_⟩
        have := hac (o, R, u) (by rw [if_neg (by simpa using hne)]; exact List.mem_cons_self ..)
        simpa using this
      · have hk' : k ∈ is := (List.mem_cons.1 hk).resolve_left e
        obtain ⟨p, hp, hy', ha⟩ := hel k hk'
        exact ⟨p, hp, by simpa [e] using hy', fun hne => by simpa [e] using ha hne⟩
    · intro k hk d hd
      by_cases e : k = i
      · subst e; simp
      · have hk' : k ∈ is := (List.mem_cons.1 hk).resolve_left e
        simp only [if_neg e]
        rw [f1 k hk' d (fun j hj hjk => hd j (List.mem_cons_of_mem _ hj) hjk)]
        exact pf (hdi ▸ hd i (List.mem_cons_self ..) (hi k hk'))
    · intro k hk j hj d hjk hd
      by_cases e : k = i
      · subst e
        rcases List.mem_cons.1 hj with e2 | hj'
        · omega
        · have := hi j hj'; omega
      · have hk' : k ∈ is := (List.mem_cons.1 hk).resolve_left e
        simp only [if_neg e]
        by_cases e2 : j = i
        · subst e2
          simp only [if_true]
          rw [f1 k hk' d (fun j' hj' _ hd' => hu j j' d (List.mem_cons_self ..) (List.mem_cons_of_mem _ hj') (fun e3 => ne hj' e3.symm) hd hd')]
          exact pt (hdi ▸ hd)
        · have hj' : j ∈ is := (List.mem_cons.1 hj).resolve_left e2
          simp only [if_neg e2]
          exact f2 k hk' j hj' d hjk hd
    · intro j hj d hd
      by_cases e2 : j = i
      · subst e2
        simp only [if_true]
        rw [f4 d (fun j' hj' hd' => hu j j' d (List.mem_cons_self ..) (List.mem_cons_of_mem _ hj') (fun e3 => ne hj' e3.symm) hd hd')]
        exact pt (hdi ▸ hd)
      · have hj' : j ∈ is := (List.mem_cons.1 hj).resolve_left e2
        simp only [if_neg e2]
        exact f3 j hj' d hd
    · intro d hd
      rw [f4 d (fun j hj => hd j (List.mem_cons_of_mem _ hj))]
      exact pf (hdi ▸ hd i (List.mem_cons_self ..))

theorem Rep.one {a : Act} {R R' : Regs} (h : Rep n a R) (h' : Rep n a R') : R = R' := by
  funext t
  rw [← h.get t, h'.get t]

theorem getD_set' (listed : Array Bool) (i j : Nat) (hi : i < listed.size) : (listed.setIfInBounds i true).getD j false = if i = j then true else listed.getD j false := by
  simp only [Array.getD_eq_getD_getElem?, Array.getElem?_setIfInBounds]
  by_cases e : i = j
  · subst e; simp [hi]
  · simp [e]

/-- A step of one operation, told at one act, holds at another that reads the same. -/
theorem step_one {ops : Array Oper} {o : Oper} {Q : Exit → Act → World → Prop} {Q' : Regs → Hp → Prop} {Rf Rc : Regs} {af a : Act} {w : World} {K : Act → World → Prop} (hf : Rep n af Rf) (hc : Rep n a Rc) (hsel : ∀ cs b, o.op ≠ .select cs b)
    (hop : ∀ x ∈ o.op.operands.toList, ev Rc x = ev Rf x) (hwant : Region.wanted o (yieldedR ops Rc) = Region.wanted o (yieldedR ops Rf))
    (h : wpList P ops (liftX n w0 S fun e R' H' => e = .normal ∧ Q' R' H') [o] af w)
    (hK : ∀ v w' R' H', Rep n (af.put o.dst v) R' → St w0 S H' w' → Q' R' H' → K (a.put o.dst v) w') :
    if Region.wanted o (yielded ops a.tmps) then o.wp P a w K Q ∨ (o.asks P a w ∧ LetsOut Q) else K (a.put o.dst undef) w := by
  have exec : execOp (ev Rc) o = execOp (ev Rf) o := execOp_congr hsel hop
  rw [hc.yielded ops, hwant, ← hf.yielded ops]
  unfold wpList at h
  split
  · rename_i hw
    rw [if_pos hw] at h
    rcases h with h | ⟨_, b, w', R', H', _, _, he, _⟩
    · left
      have e1 : a.eval = ev Rc := hc.ev
      have e2 : af.eval = ev Rf := hf.ev
      unfold Oper.wp at h ⊢
      rw [e2] at h
      rw [e1, exec]
      generalize (execOp (ev Rf) o).run P w = r at h ⊢
      have next : ∀ v w', wpList P ops (liftX n w0 S fun e R' H' => e = .normal ∧ Q' R' H') [] (af.put o.dst v) w' → K (a.put o.dst v) w' := by
        intro v w' hq
        obtain ⟨R', H', hr, hs, _, hq⟩ := hq
        exact hK _ _ _ _ hr hs hq
      cases r with
      | ok x w' =>
        cases x <;> simp only [Oper.upon] at h ⊢
        case value u => exact next _ _ h
        case skip => exact next _ _ h
        case enter f args =>
          exact Calls.mono h fun e w'' he => by
            cases e with
            | returned v => exact next _ _ he
            | panicked c => obtain ⟨_, _, _, _, he, _⟩ := he; cases he
            | outgrown => obtain ⟨_, _, _, _, _, _, he, _⟩ := he; cases he
        case row r as => exact Rows.mono h fun v w'' he => next _ _ he
        case defer d =>
          obtain ⟨R', H', hr, _⟩ := h
          have := hr.defers
          cases ho : o.dst <;> simp [Act.put, ho, hf.defers] at this
      | halt x w' =>
        cases x <;> simp only [Oper.upon] at h ⊢
        case panic v => obtain ⟨_, _, _, _, he, _⟩ := h; cases he
    · cases he
  · rename_i hw
    rw [if_neg hw] at h
    obtain ⟨R', H', hr, hs, _, hq⟩ := h
    exact hK _ _ _ _ hr hs hq

theorem Rep.fill {a : Act} {R R' : Regs} (h : Rep n a R) (hu : ∀ t, n.n ≤ t → R' t = undef) : ∃ af, Rep n af R' := by
  refine ⟨{ a with tmps := ((List.range n.n).map R').toArray }, by simp, h.defers, fun t => ?_⟩
  rw [Array.getD_eq_getD_getElem?]
  by_cases ht : t < n.n
  · simp [ht]
  · rw [hu t (by omega)]; simp [ht]

theorem Rep.undef {a : Act} {R : Regs} (h : Rep n a R) {t : Nat} (ht : n.n ≤ t) : R t = undef := by
  rw [← h.get t, Array.getD_eq_getD_getElem?, Array.getElem?_eq_none (by rw [h.size]; exact ht)]; rfl

theorem put_ne {R : Regs} {dst : Option Tmp} {v : Value} {d : Nat} (h : dst ≠ some d) : V.put R dst v d = R d := by
  cases dst with
  | none => rfl
  | some d' => simp only [V.put, upd]; rw [if_neg (fun e => h (by rw [e]))]
theorem put_eq {R : Regs} {dst : Option Tmp} {v : Value} {d : Nat} (h : dst = some d) : V.put R dst v d = v := by
  subst h; simp [V.put, upd]

/-- THE RULE. -/
theorem c_drawF {l : List Oper} {id : Nat} {X : Post} {R : Regs} (hds tl el : List Nat) (hm : P.follows .mixedOrders = true) (hck : (drawOkF l hds tl el && l.all (dstOk n)) = true)
    (h : quietF P w0 S l.toArray H l el hds R [] fun R' acc => tailG P n w0 S l.toArray l acc X tl R' H) : G n w0 S ((Code.region id l.toArray true).wp P X) R H := by
  simp only [Bool.and_eq_true] at hck
  obtain ⟨hck, hdst⟩ := hck
  have ok := DrawOkF.of hck
  have hdst : ∀ o ∈ l, dstOk n o = true := fun o ho => List.all_eq_true.1 hdst o ho
  obtain ⟨v, Ri, R', acc, hK, _, hq, f1, f2, f3, f4⟩ := quietF_vals hds R [] _ h ok.srt (fun i j d hi hj hne hd => ok.uniq i j d hi (ok.hlt j hj) hne hd)
  intro a w ha hw
  refine wp_region_any hm ?_
  let ops := l.toArray
  have hops : ∀ i : Nat, ops[i]? = l[i]? := fun i => by simp [ops]
  have hsize : ops.size = l.length := by simp [ops]
  have lt_of : ∀ {i : Nat} {o : Oper}, l[i]? = some o → i < l.length := fun h => (List.getElem?_eq_some_iff.1 h).1
  have dAt : ∀ {i : Nat} {o : Oper}, l[i]? = some o → dstAt l i = o.dst := fun h => by simp [dstAt, h]
  have flip : ∀ {listed : Array Bool} {i : Nat}, listed.size = ops.size → i < l.length → (listed.getD i false = true ↔ listed.getD i true = true) := by
    intro listed i hs hi
    have : i < listed.size := by omega
    simp [this]
  let I (listed : Array Bool) (a : Act) (w : World) : Prop := listed.size = ops.size ∧ ∃ k af Rf Rc Hk, k ≤ tl.length ∧ Rep n af Rf ∧ Rep n a Rc ∧ St w0 S Hk w ∧
    (∀ (j t : Nat), tl[j]? = some t → (listed.getD t false = true ↔ j < k)) ∧
    (∀ (i : Nat) (o : Oper), l[i]? = some o → listed.getD i false = true → ∀ e ∈ o.after, Region.binds .any e = true → listed.getD e.on false = true) ∧
    (∀ i ∈ hds, listed.getD i false = false → ∃ o, l[i]? = some o ∧ qY P w0 S Hk ops o (Ri i) (v i)) ∧
    tailG P n w0 S ops l acc X (tl.drop k) Rf Hk ∧
    (∀ i ∈ hds, listed.getD i false = true → ∀ d, dstAt l i = some d → Rc d = v i) ∧ (∀ i ∈ hds, ∀ d, dstAt l i = some d → Rf d = v i) ∧
    (∀ d, (∀ i ∈ hds, dstAt l i ≠ some d) → Rc d = Rf d) ∧
    (∀ d, (∀ i ∈ hds, dstAt l i ≠ some d) → (∀ (j t : Nat), j < k → tl[j]? = some t → dstAt l t ≠ some d) → Rf d = R d)
  refine wpAny_inv I (fun _ _ _ h => h.1) ?_ ?_ _ _ _ _ ?_ ?_
  · rintro listed a w i ⟨hs, k, af, Rf, Rc, Hk, hk, hrf, hrc, hst, htl, hcl, hqy, htail, hv1, hv2, hv3, hv4⟩ hi
    obtain ⟨hun, o, ho, haft⟩ := mem_ready.1 hi
    rw [hops] at ho
    have hil := lt_of ho
    have hsi : i < listed.size := by omega
    have hunf : listed.getD i false = false := by
      cases hx : listed.getD i false with
      | false => rfl
      | true => rw [(flip hs hil).1 hx] at hun; cases hun
    have aft : ∀ {j}, Edge o j → listed.getD j false = true := fun ⟨e, he, hb, hon⟩ => hon ▸ haft e he hb
    have closed' : ∀ (i' : Nat) (o' : Oper), l[i']? = some o' → (listed.setIfInBounds i true).getD i' false = true → ∀ e ∈ o'.after, Region.binds .any e = true → (listed.setIfInBounds i true).getD e.on false = true := by
      intro i' p hp hl e he hb
      rw [getD_set' _ _ _ hsi] at hl ⊢
      split
      · rfl
      · by_cases h1 : i = i'
        · subst h1
          obtain rfl : p = o := Option.some.inj (hp.symm.trans ho)
          exact haft e he hb
        · rw [if_neg h1] at hl
          exact hcl i' p hp hl e he hb
    unfold wpOp
    rw [hops, ho]
    simp only
    rcases ok.part i hil with ⟨hih, hit⟩ | ⟨hit, hih⟩
    · -- a quiet one
      obtain ⟨o', ho', hqi⟩ := hqy i hih hunf
      obtain rfl : o' = o := Option.some.inj (ho'.symm.trans ho)
      have isHead : ∀ j ∈ hds, ∀ d, j < i → Edge o' j → dstAt l j = some d → Rc d = Ri i d := by
        intro j hj d hji hE hd
        rw [hv1 j hj (aft hE) d hd, f2 i hih j hj d hji hd]
      have hop : ∀ x ∈ o'.op.operands.toList, ev Rc x = ev (Ri i) x := by
        intro x hx
        cases x with
        | tmp d =>
          have hm : d ∈ tmpsOf o' := List.mem_filterMap.2 ⟨_, hx, rfl⟩
          show Rc d = Ri i d
          by_cases hh : ∃ j ∈ hds, dstAt l j = some d
          · obtain ⟨j, hj, hd⟩ := hh
            obtain ⟨hji, hE⟩ := ok.dataH i j o' d ho hj hd hm
            exact isHead j hj d hji hE hd
          · have hn : ∀ j ∈ hds, dstAt l j ≠ some d := fun j hj hd => hh ⟨j, hj, hd⟩
            rw [f1 i hih d (fun j hj _ => hn j hj), hv3 d hn, hv4 d hn]
            intro j t hjk htj hdt
            have htl' : t < l.length := ok.tlt t (List.mem_of_getElem? htj)
            have hdt' : (l[t]'htl').dst = some d := by rw [← dAt (List.getElem?_eq_getElem htl')]; exact hdt
            have := ok.dataT i t o' _ d ho (List.getElem?_eq_getElem htl') hih (List.mem_of_getElem? htj) hdt' hm
            obtain ⟨e, he, hb, hon⟩ := this
            have := hcl t _ (List.getElem?_eq_getElem htl') ((htl j t htj).2 hjk) e he hb
            rw [hon, hunf] at this
            cases this
        | _ => rfl
      have hexec : execOp (ev Rc) o' = execOp (ev (Ri i)) o' := execOp_congr (ok.sel o' (List.mem_of_getElem? ho)) hop
      have hwant : Region.wanted o' (yieldedR ops Rc) = Region.wanted o' (yieldedR ops (Ri i)) := by
        unfold Region.wanted
        cases hg : o'.guard with
        | none => rfl
        | some gb =>
          obtain ⟨g, b⟩ := gb
          obtain ⟨hgh, hgi, hE⟩ := ok.guard i o' g b ho hg
          have hyy : yieldedR ops Rc g = yieldedR ops (Ri i) g := by
            unfold yieldedR
            have e9 : (ops[g]?).bind (·.dst) = dstAt l g := by rw [hops]; rfl
            rw [e9]
            cases hd : dstAt l g with
            | none => rfl
            | some d => simp only; rw [isHead g hgh d hgi hE hd]
          simp only [hyy]
      have next : ∀ w', St w0 S Hk w' → I (listed.setIfInBounds i true) (a.put o'.dst (v i)) w' := by
        intro w' hw'
        refine ⟨by simp [hs], k, af, Rf, _, Hk, hk, hrf, hrc.put _ (hdst o' (List.mem_of_getElem? ho)), hw', ?_, closed', ?_, htail, ?_, hv2, ?_, hv4⟩
        · intro j t htj
          rw [getD_set' _ _ _ hsi, if_neg (fun (e : i = t) => hit (e ▸ List.mem_of_getElem? htj))]
          exact htl j t htj
        · intro i' hi' hl
          rw [getD_set' _ _ _ hsi] at hl
          by_cases h1 : i = i'
          · simp [h1] at hl
          · rw [if_neg h1] at hl; exact hqy i' hi' hl
        · intro i' hi' hl d hd
          rw [getD_set' _ _ _ hsi] at hl
          by_cases h1 : i = i'
          · subst h1
            exact put_eq (by rw [← dAt ho]; exact hd)
          · rw [if_neg h1] at hl
            rw [put_ne (by rw [← dAt ho]; exact fun e => ok.uniq i i' d hih (ok.hlt i' hi') h1 e hd)]
            exact hv1 i' hi' hl d hd
        · intro d hd
          rw [put_ne (by rw [← dAt ho]; exact hd i hih)]
          exact hv3 d hd
      rw [hrc.yielded ops, hwant]
      rcases hqi with ⟨hw1, hyv⟩ | ⟨hw1, hyv⟩
      · rw [if_pos hw1]
        left
        have h1 := hyv w hst
        unfold Oper.wp
        rw [hrc.ev, hexec]
        generalize (execOp (ev (Ri i)) o').run P w = r at h1
        cases r with
        | ok x w' =>
          cases x <;> simp only [Oper.quietUpon] at h1 <;> simp only [Oper.upon]
          case value u => obtain ⟨rfl, rfl⟩ := h1; exact next _ hst
          case skip => obtain ⟨rfl, h2⟩ := h1; rw [← h2]; exact next _ hst
          case enter f args =>
            obtain ⟨rfl, hc⟩ := h1
            exact hc.mono fun e w'' ⟨he, hs'⟩ => by subst he; exact next _ hs'
        | halt x w' => simp only [Oper.quietUpon] at h1
      · rw [if_neg (by simp [hw1]), ← hyv]
        exact next _ hst
    · -- the next one of the others
      obtain ⟨j, htj⟩ := List.getElem?_of_mem hit
      have hjk : ¬ j < k := fun h => by rw [(htl j i htj).2 h] at hunf; cases hunf
      have hjk' : j = k := by
        rcases Nat.lt_or_ge k j with hgt | hle
        · exfalso
          have hj1 : j - 1 < tl.length := by have := (List.getElem?_eq_some_iff.1 htj).1; omega
          have hE := ok.chain (j - 1) tl[j - 1] i o (List.getElem?_eq_getElem hj1) (by rw [show j - 1 + 1 = j by omega]; exact htj) ho
          have := (htl (j - 1) _ (List.getElem?_eq_getElem hj1)).1 (aft hE)
          omega
        · omega
      subst hjk'
      have hjl : j < tl.length := (List.getElem?_eq_some_iff.1 htj).1
      have hdr : tl.drop j = i :: tl.drop (j + 1) := by
        rw [List.drop_eq_getElem_cons hjl]
        congr 1
        exact (List.getElem?_eq_some_iff.1 htj).2
      rw [hdr] at htail
      obtain ⟨o', ho', hop1⟩ := htail
      obtain rfl : o' = o := Option.some.inj (ho'.symm.trans ho)
      have hop : ∀ x ∈ o'.op.operands.toList, ev Rc x = ev Rf x := by
        intro x hx
        cases x with
        | tmp d =>
          have hm : d ∈ tmpsOf o' := List.mem_filterMap.2 ⟨_, hx, rfl⟩
          show Rc d = Rf d
          by_cases hh : ∃ i' ∈ hds, dstAt l i' = some d
          · obtain ⟨i', hi', hd⟩ := hh
            obtain ⟨_, hE⟩ := ok.dataH i i' o' d ho hi' hd hm
            rw [hv1 i' hi' (aft hE) d hd, hv2 i' hi' d hd]
          · exact hv3 d fun i' hi' hd => hh ⟨i', hi', hd⟩
        | _ => rfl
      have hwant : Region.wanted o' (yieldedR ops Rc) = Region.wanted o' (yieldedR ops Rf) := by
        unfold Region.wanted
        cases hg : o'.guard with
        | none => rfl
        | some gb =>
          obtain ⟨g, b⟩ := gb
          obtain ⟨hgh, hgi, hE⟩ := ok.guard i o' g b ho hg
          have hyy : yieldedR ops Rc g = yieldedR ops Rf g := by
            unfold yieldedR
            have e9 : (ops[g]?).bind (·.dst) = dstAt l g := by rw [hops]; rfl
            rw [e9]
            cases hd : dstAt l g with
            | none => rfl
            | some d => simp only; rw [hv1 g hgh (aft hE) d hd, hv2 g hgh d hd]
          simp only [hyy]
      refine step_one (Q' := fun R' H' => allQ P w0 S ops H' acc ∧ tailG P n w0 S ops l acc X (tl.drop (j + 1)) R' H') hrf hrc (ok.sel o' (List.mem_of_getElem? ho)) hop hwant (hop1 af w hrf hst) ?_
      rintro u w' R2 H2 hr2 hs2 ⟨hall, htail2⟩
      have hd1 : dstOk n o' = true := hdst o' (List.mem_of_getElem? ho)
      have e2 : R2 = V.put Rf o'.dst u := Rep.one hr2 (hrf.put u hd1)
      subst e2
      have nd : ∀ {j' t' : Nat}, tl[j']? = some t' → t' = i → j' = j := fun h1 h2 => by
        subst h2
        exact ((List.getElem?_inj (List.getElem?_eq_some_iff.1 h1).1 ok.nd).1 (h1.trans htj.symm))
      refine ⟨by simp [hs], j + 1, _, _, _, H2, hjl, hr2, hrc.put u hd1, hs2, ?_, closed', ?_, htail2, ?_, ?_, ?_, ?_⟩
      · intro j' t' htj'
        rw [getD_set' _ _ _ hsi]
        by_cases h1 : i = t'
        · rw [if_pos h1]
          have := nd htj' h1.symm
          simp [this]
        · rw [if_neg h1, htl j' t' htj']
          constructor
          · intro h; omega
          · intro h
            rcases Nat.lt_or_ge j' j with h2 | h2
            · exact h2
            · exfalso
              have : j' = j := by omega
              subst this
              exact h1 (Option.some.inj (htj.symm.trans htj'))
      · intro i' hi' hl
        rw [getD_set' _ _ _ hsi] at hl
        have hl : listed.getD i' false = false := by
          by_cases h1 : i = i'
          · simp [h1] at hl
          · rwa [if_neg h1] at hl
        have hne : i' ∉ el := by
          intro hel
          have key : ∀ m x, l.length - x ≤ m → x ∈ el → listed.getD x false = true := by
            intro m
            induction m with
            | zero =>
              intro x hx hxe
              obtain ⟨y, _, h1, h2, _⟩ := ok.early x hxe
              omega
            | succ m ih =>
              intro x hx hxe
              obtain ⟨y, p, h1, h2, h3, hp, e, he, hb, hon⟩ := ok.early x hxe
              rcases h3 with h3 | h3
              · have hy0 : tl[0]? = some y := by rw [← List.head?_eq_getElem?]; exact h3
                by_cases h0 : j = 0
                · subst h0
                  obtain rfl : i = y := Option.some.inj (htj.symm.trans hy0)
                  obtain rfl : p = o' := Option.some.inj (hp.symm.trans ho)
                  exact hon ▸ haft e he hb
                · exact hon ▸ hcl y p hp ((htl 0 y hy0).2 (by omega)) e he hb
              · exact hon ▸ hcl y p hp (ih y (by omega) h3) e he hb
          rw [key _ i' (Nat.le_refl _) hel] at hl
          cases hl
        obtain ⟨p, hp, _, hac⟩ := hq i' hi'
        exact ⟨p, hp, allQ_mem hall _ (hac hne)⟩
      · intro i' hi' hl d hd
        rw [getD_set' _ _ _ hsi] at hl
        have h1 : i ≠ i' := fun e => hih (e ▸ hi')
        rw [if_neg h1] at hl
        rw [put_ne (by rw [← dAt ho]; exact fun e => ok.uniq i' i d hi' hil (Ne.symm h1) hd e)]
        exact hv1 i' hi' hl d hd
      · intro i' hi' d hd
        have h1 : i ≠ i' := fun e => hih (e ▸ hi')
        rw [put_ne (by rw [← dAt ho]; exact fun e => ok.uniq i' i d hi' hil (Ne.symm h1) hd e)]
        exact hv2 i' hi' d hd
      · intro d hd
        by_cases h1 : o'.dst = some d
        · rw [put_eq h1, put_eq h1]
        · rw [put_ne h1, put_ne h1]; exact hv3 d hd
      · intro d hd hn
        rw [put_ne (by rw [← dAt ho]; exact hn j i (by omega) htj)]
        exact hv4 d hd fun j' t' h1 h2 => hn j' t' (by omega) h2
  · rintro listed a w ⟨hs, k, af, Rf, Rc, Hk, hk, hrf, hrc, hst, htl, hcl, hqy, htail, hv1, hv2, hv3, hv4⟩ he
    have hall : ∀ k, k < l.length → listed.getD k true = true := by
      intro k
      induction k using Nat.strongRecOn with
      | _ k ih =>
        intro hk
        cases hx : listed.getD k true with
        | true => rfl
        | false =>
          exfalso
          have : k ∈ Region.ready .any ops listed := mem_ready.2 ⟨hx, l[k], by rw [hops]; exact List.getElem?_eq_getElem hk, fun e he hb => by
            have hlt := ok.back k _ (List.getElem?_eq_getElem hk) e he hb
            exact (flip hs (by omega)).2 (ih e.on hlt (by omega))⟩
          rw [he] at this
          cases this
    have hkl : k = tl.length := by
      rcases Nat.lt_or_ge k tl.length with h1 | h1
      · have h2 := ok.tlt tl[k] (List.getElem_mem h1)
        have := (htl k tl[k] (List.getElem?_eq_getElem h1)).1 ((flip hs h2).2 (hall _ h2))
        omega
      · omega
    rw [hkl, List.drop_length] at htail
    have e1 : Rc = Rf := by
      funext d
      by_cases hh : ∃ i ∈ hds, dstAt l i = some d
      · obtain ⟨i, hi, hd⟩ := hh
        rw [hv1 i hi ((flip hs (ok.hlt i hi)).2 (hall i (ok.hlt i hi))) d hd, hv2 i hi d hd]
      · exact hv3 d fun i hi hd => hh ⟨i, hi, hd⟩
    subst e1
    exact htail _ _ hrc hst
  · have hun : ∀ i, (Array.replicate ops.size false).getD i false = false := by
      intro i
      rw [Array.getD_eq_getD_getElem?, Array.getElem?_replicate]
      split <;> rfl
    obtain ⟨af, haf⟩ := ha.fill (R' := R') (by
      intro t ht
      rw [f4 t, ha.undef ht]
      intro j hj hd
      have hjl := ok.hlt j hj
      have h1 := hdst _ (List.getElem_mem hjl)
      have h2 : (l[j]).dst = some t := by rw [← dAt (List.getElem?_eq_getElem hjl)]; exact hd
      unfold dstOk at h1
      rw [h2] at h1
      have h3 : t < n.n := by simpa using h1
      omega)
    refine ⟨Array.size_replicate, 0, af, R', R, H, Nat.zero_le _, haf, ⟨ha.size, ha.defers, ha.get⟩, hw.drew, ?_, ?_, ?_, hK, ?_, f3, ?_, ?_⟩
    · intro j t _; rw [hun]; simp
    · intro i o _ hl; rw [hun] at hl; cases hl
    · intro i hi _; obtain ⟨o, ho, hy, _⟩ := hq i hi; exact ⟨o, ho, hy⟩
    · intro i hi hl; rw [hun] at hl; cases hl
    · intro d hd; rw [f4 d hd]
    · intro d hd _; exact f4 d hd
  · exact Nat.le_trans List.countP_le_length (by rw [List.length_range]; exact Nat.le_refl _)

/-! ### Its rules -/
section
variable {ops : Array Oper} {l : List Oper} {el is : List Nat} {i : Nat} {R : Regs} {acc : List (Oper × Regs × Value)} {K : Regs → List (Oper × Regs × Value) → Prop} {X : Post} {o : Oper} {v : Value}
theorem f_nil (h : K R acc) : quietF P w0 S ops H l el [] R acc K := h
theorem f_e (ho : l[i]? = some o) (he : el.contains i = true) (hq : qY P w0 S H ops o R v) (h : quietF P w0 S ops H l el is (put R o.dst v) acc K) : quietF P w0 S ops H l el (i :: is) R acc K :=
  ⟨o, v, ho, hq, by rw [if_pos he]; exact h⟩
theorem f_l (ho : l[i]? = some o) (he : el.contains i = false) (hq : qY P w0 S H ops o R v) (h : quietF P w0 S ops H l el is (put R o.dst v) ((o, R, v) :: acc) K) : quietF P w0 S ops H l el (i :: is) R acc K :=
  ⟨o, v, ho, hq, by rw [if_neg (by simp only [he]; decide)]; exact h⟩
theorem qn (hg : o.guard = none) (hy : Yields P w0 S H o R v) : qY P w0 S H ops o R v := .inl ⟨by simp [Region.wanted, hg], hy⟩
theorem qt {j d : Nat} {want : Bool} (hg : o.guard = some (j, want)) (hj : (ops[j]?).bind (·.dst) = some d) (hb : R d = .bool want) (hy : Yields P w0 S H o R v) : qY P w0 S H ops o R v :=
  .inl ⟨by unfold Region.wanted yieldedR; rw [hg]; simp [hj, hb], hy⟩
theorem qf {j d : Nat} {want b : Bool} (hg : o.guard = some (j, want)) (hj : (ops[j]?).bind (·.dst) = some d) (hb : R d = .bool b) (hn : b = !want) : qY P w0 S H ops o R undef := by
  refine .inr ⟨?_, rfl⟩
  unfold Region.wanted yieldedR
  rw [hg]
  subst hn
  cases want <;> simp [hj, hb]
theorem qu {j d : Nat} {want : Bool} (hg : o.guard = some (j, want)) (hj : (ops[j]?).bind (·.dst) = some d) (hb : R d = undef) : qY P w0 S H ops o R undef := by
  refine .inr ⟨?_, rfl⟩
  unfold Region.wanted yieldedR
  rw [hg]
  simp [hj, hb, Go.undef]
theorem t_nil (h : G n w0 S (X .normal) R H) : tailG P n w0 S ops l acc X [] R H := h
theorem t_step (ho : l[i]? = some o) (h : Ops P n w0 S ops (liftX n w0 S fun e R' H' => e = .normal ∧ allQ P w0 S ops H' acc ∧ tailG P n w0 S ops l acc X is R' H') [o] R H) : tailG P n w0 S ops l acc X (i :: is) R H := ⟨o, ho, h⟩
end
end
end Go.Proofs.YtnilejkfbcnkkaaGreatDoor.V
end
section
namespace Go.Proofs.YtnilejkfbcnkkaaGreatDoor.V
open Go Go.RowKit


def keepK (l : List Oper) (o : Oper) (x : Oper × Regs × Value) : Bool := match x.1.dst with
  | some d => !(o.after.any fun e => Region.binds .any e && dstAt l e.on == some d)
  | none => true
section
variable (P : Program) (n : Fp) (w0 : World) (S : Nat → Prop)
def tailK (ops : Array Oper) (l : List Oper) (acc : List (Oper × Regs × Value)) (X : Post) : List Nat → Regs → Hp → Prop
  | [], R, H => G n w0 S (X .normal) R H
  | i :: is, R, H => ∃ o, l[i]? = some o ∧ Ops P n w0 S ops (liftX n w0 S fun e R' H' => e = .normal ∧ allQ P w0 S ops H' (acc.filter (keepK l o)) ∧ tailK ops l acc X is R' H') [o] R H
end
section
variable {P : Program} {n : Fp} {w0 : World} {S : Nat → Prop} {H : Hp}
/-- THE RULE. -/
theorem c_drawK {l : List Oper} {id : Nat} {X : Post} {R : Regs} (hds tl el : List Nat) (hm : P.follows .mixedOrders = true) (hck : (drawOkF l hds tl el && l.all (dstOk n)) = true)
    (h : quietF P w0 S l.toArray H l el hds R [] fun R' acc => tailK P n w0 S l.toArray l acc X tl R' H) : G n w0 S ((Code.region id l.toArray true).wp P X) R H := by
  simp only [Bool.and_eq_true] at hck
  obtain ⟨hck, hdst⟩ := hck
  have ok := DrawOkF.of hck
  have hdst : ∀ o ∈ l, dstOk n o = true := fun o ho => List.all_eq_true.1 hdst o ho
  obtain ⟨v, Ri, R', acc, hK, _, hq, f1, f2, f3, f4⟩ := quietF_vals hds R [] _ h ok.srt (fun i j d hi hj hne hd => ok.uniq i j d hi (ok.hlt j hj) hne hd)
  intro a w ha hw
  refine wp_region_any hm ?_
  let ops := l.toArray
  have hops : ∀ i : Nat, ops[i]? = l[i]? := fun i => by simp [ops]
  have hsize : ops.size = l.length := by simp [ops]
  have lt_of : ∀ {i : Nat} {o : Oper}, l[i]? = some o → i < l.length := fun h => (List.getElem?_eq_some_iff.1 h).1
  have dAt : ∀ {i : Nat} {o : Oper}, l[i]? = some o → dstAt l i = o.dst := fun h => by simp [dstAt, h]
  have flip : ∀ {listed : Array Bool} {i : Nat}, listed.size = ops.size → i < l.length → (listed.getD i false = true ↔ listed.getD i true = true) := by
    intro listed i hs hi
    have : i < listed.size := by omega
    simp [this]
  let I (listed : Array Bool) (a : Act) (w : World) : Prop := listed.size = ops.size ∧ ∃ k af Rf Rc Hk, k ≤ tl.length ∧ Rep n af Rf ∧ Rep n a Rc ∧ St w0 S Hk w ∧
    (∀ (j t : Nat), tl[j]? = some t → (listed.getD t false = true ↔ j < k)) ∧
    (∀ (i : Nat) (o : Oper), l[i]? = some o → listed.getD i false = true → ∀ e ∈ o.after, Region.binds .any e = true → listed.getD e.on false = true) ∧
    (∀ i ∈ hds, listed.getD i false = false → ∃ o, l[i]? = some o ∧ qY P w0 S Hk ops o (Ri i) (v i)) ∧
    tailK P n w0 S ops l acc X (tl.drop k) Rf Hk ∧
    (∀ i ∈ hds, listed.getD i false = true → ∀ d, dstAt l i = some d → Rc d = v i) ∧ (∀ i ∈ hds, ∀ d, dstAt l i = some d → Rf d = v i) ∧
    (∀ d, (∀ i ∈ hds, dstAt l i ≠ some d) → Rc d = Rf d) ∧
    (∀ d, (∀ i ∈ hds, dstAt l i ≠ some d) → (∀ (j t : Nat), j < k → tl[j]? = some t → dstAt l t ≠ some d) → Rf d = R d)
  refine wpAny_inv I (fun _ _ _ h => h.1) ?_ ?_ _ _ _ _ ?_ ?_
  · rintro listed a w i ⟨hs, k, af, Rf, Rc, Hk, hk, hrf, hrc, hst, htl, hcl, hqy, htail, hv1, hv2, hv3, hv4⟩ hi
    obtain ⟨hun, o, ho, haft⟩ := mem_ready.1 hi
    rw [hops] at ho
    have hil := lt_of ho
    have hsi : i < listed.size := by omega
    have hunf : listed.getD i false = false := by
      cases hx : listed.getD i false with
      | false => rfl
      | true => rw [(flip hs hil).1 hx] at hun; cases hun
    have aft : ∀ {j}, Edge o j → listed.getD j false = true := fun ⟨e, he, hb, hon⟩ => hon ▸ haft e he hb
    have closed' : ∀ (i' : Nat) (o' : Oper), l[i']? = some o' → (listed.setIfInBounds i true).getD i' false = true → ∀ e ∈ o'.after, Region.binds .any e = true → (listed.setIfInBounds i true).getD e.on false = true := by
      intro i' p hp hl e he hb
      rw [getD_set' _ _ _ hsi] at hl ⊢
      split
      · rfl
      · by_cases h1 : i = i'
        · subst h1
          obtain rfl : p = o := Option.some.inj (hp.symm.trans ho)
          exact haft e he hb
        · rw [if_neg h1] at hl
          exact hcl i' p hp hl e he hb
    unfold wpOp
    rw [hops, ho]
    simp only
    rcases ok.part i hil with ⟨hih, hit⟩ | ⟨hit, hih⟩
    · -- a quiet one
      obtain ⟨o', ho', hqi⟩ := hqy i hih hunf
      obtain rfl : o' = o := Option.some.inj (ho'.symm.trans ho)
      have isHead : ∀ j ∈ hds, ∀ d, j < i → Edge o' j → dstAt l j = some d → Rc d = Ri i d := by
        intro j hj d hji hE hd
        rw [hv1 j hj (aft hE) d hd, f2 i hih j hj d hji hd]
      have hop : ∀ x ∈ o'.op.operands.toList, ev Rc x = ev (Ri i) x := by
        intro x hx
        cases x with
        | tmp d =>
          have hm : d ∈ tmpsOf o' := List.mem_filterMap.2 ⟨_, hx, rfl⟩
          show Rc d = Ri i d
          by_cases hh : ∃ j ∈ hds, dstAt l j = some d
          · obtain ⟨j, hj, hd⟩ := hh
            obtain ⟨hji, hE⟩ := ok.dataH i j o' d ho hj hd hm
            exact isHead j hj d hji hE hd
          · have hn : ∀ j ∈ hds, dstAt l j ≠ some d := fun j hj hd => hh ⟨j, hj, hd⟩
            rw [f1 i hih d (fun j hj _ => hn j hj), hv3 d hn, hv4 d hn]
            intro j t hjk htj hdt
            have htl' : t < l.length := ok.tlt t (List.mem_of_getElem? htj)
            have hdt' : (l[t]'htl').dst = some d := by rw [← dAt (List.getElem?_eq_getElem htl')]; exact hdt
            have := ok.dataT i t o' _ d ho (List.getElem?_eq_getElem htl') hih (List.mem_of_getElem? htj) hdt' hm
            obtain ⟨e, he, hb, hon⟩ := this
            have := hcl t _ (List.getElem?_eq_getElem htl') ((htl j t htj).2 hjk) e he hb
            rw [hon, hunf] at this
            cases this
        | _ => rfl
      have hexec : execOp (ev Rc) o' = execOp (ev (Ri i)) o' := execOp_congr (ok.sel o' (List.mem_of_getElem? ho)) hop
      have hwant : Region.wanted o' (yieldedR ops Rc) = Region.wanted o' (yieldedR ops (Ri i)) := by
        unfold Region.wanted
        cases hg : o'.guard with
        | none => rfl
        | some gb =>
          obtain ⟨g, b⟩ := gb
          obtain ⟨hgh, hgi, hE⟩ := ok.guard i o' g b ho hg
          have hyy : yieldedR ops Rc g = yieldedR ops (Ri i) g := by
            unfold yieldedR
            have e9 : (ops[g]?).bind (·.dst) = dstAt l g := by rw [hops]; rfl
            rw [e9]
            cases hd : dstAt l g with
            | none => rfl
            | some d => simp only; rw [isHead g hgh d hgi hE hd]
          simp only [hyy]
      have next : ∀ w', St w0 S Hk w' → I (listed.setIfInBounds i true) (a.put o'.dst (v i)) w' := by
        intro w' hw'
        refine ⟨by simp [hs], k, af, Rf, _, Hk, hk, hrf, hrc.put _ (hdst o' (List.mem_of_getElem? ho)), hw', ?_, closed', ?_, htail, ?_, hv2, ?_, hv4⟩
        · intro j t htj
          rw [getD_set' _ _ _ hsi, if_neg (fun (e : i = t) => hit (e ▸ List.mem_of_getElem? htj))]
          exact htl j t htj
        · intro i' hi' hl
          rw [getD_set' _ _ _ hsi] at hl
          by_cases h1 : i = i'
          · simp [h1] at hl
          · rw [if_neg h1] at hl; exact hqy i' hi' hl
        · intro i' hi' hl d hd
          rw [getD_set' _ _ _ hsi] at hl
          by_cases h1 : i = i'
          · subst h1
            exact put_eq (by rw [← dAt ho]; exact hd)
          · rw [if_neg h1] at hl
            rw [put_ne (by rw [← dAt ho]; exact fun e => ok.uniq i i' d hih (ok.hlt i' hi') h1 e hd)]
            exact hv1 i' hi' hl d hd
        · intro d hd
          rw [put_ne (by rw [← dAt ho]; exact hd i hih)]
          exact hv3 d hd
      rw [hrc.yielded ops, hwant]
      rcases hqi with ⟨hw1, hyv⟩ | ⟨hw1, hyv⟩
      · rw [if_pos hw1]
        left
        have h1 := hyv w hst
        unfold Oper.wp
        rw [hrc.ev, hexec]
        generalize (execOp (ev (Ri i)) o').run P w = r at h1
        cases r with
        | ok x w' =>
          cases x <;> simp only [Oper.quietUpon] at h1 <;> simp only [Oper.upon]
          case value u => obtain ⟨rfl, rfl⟩ := h1; exact next _ hst
          case skip => obtain ⟨rfl, h2⟩ := h1; rw [← h2]; exact next _ hst
          case enter f args =>
            obtain ⟨rfl, hc⟩ := h1
            exact hc.mono fun e w'' ⟨he, hs'⟩ => by subst he; exact next _ hs'
        | halt x w' => simp only [Oper.quietUpon] at h1
      · rw [if_neg (by simp [hw1]), ← hyv]
        exact next _ hst
    · -- the next one of the others
      obtain ⟨j, htj⟩ := List.getElem?_of_mem hit
      have hjk : ¬ j < k := fun h => by rw [(htl j i htj).2 h] at hunf; cases hunf
      have hjk' : j = k := by
        rcases Nat.lt_or_ge k j with hgt | hle
        · exfalso
          have hj1 : j - 1 < tl.length := by have := (List.getElem?_eq_some_iff.1 htj).1; omega
          have hE := ok.chain (j - 1) tl[j - 1] i o (List.getElem?_eq_getElem hj1) (by rw [show j - 1 + 1 = j by omega]; exact htj) ho
          have := (htl (j - 1) _ (List.getElem?_eq_getElem hj1)).1 (aft hE)
          omega
        · omega
      subst hjk'
      have hjl : j < tl.length := (List.getElem?_eq_some_iff.1 htj).1
      have hdr : tl.drop j = i :: tl.drop (j + 1) := by
        rw [List.drop_eq_getElem_cons hjl]
        congr 1
        exact (List.getElem?_eq_some_iff.1 htj).2
      rw [hdr] at htail
      obtain ⟨o', ho', hop1⟩ := htail
      obtain rfl : o' = o := Option.some.inj (ho'.symm.trans ho)
      have hop : ∀ x ∈ o'.op.operands.toList, ev Rc x = ev Rf x := by
        intro x hx
        cases x with
        | tmp d =>
          have hm : d ∈ tmpsOf o' := List.mem_filterMap.2 ⟨_, hx, rfl⟩
          show Rc d = Rf d
          by_cases hh : ∃ i' ∈ hds, dstAt l i' = some d
          · obtain ⟨i', hi', hd⟩ := hh
            obtain ⟨_, hE⟩ := ok.dataH i i' o' d ho hi' hd hm
            rw [hv1 i' hi' (aft hE) d hd, hv2 i' hi' d hd]
          · exact hv3 d fun i' hi' hd => hh ⟨i', hi', hd⟩
        | _ => rfl
      have hwant : Region.wanted o' (yieldedR ops Rc) = Region.wanted o' (yieldedR ops Rf) := by
        unfold Region.wanted
        cases hg : o'.guard with
        | none => rfl
        | some gb =>
          obtain ⟨g, b⟩ := gb
          obtain ⟨hgh, hgi, hE⟩ := ok.guard i o' g b ho hg
          have hyy : yieldedR ops Rc g = yieldedR ops Rf g := by
            unfold yieldedR
            have e9 : (ops[g]?).bind (·.dst) = dstAt l g := by rw [hops]; rfl
            rw [e9]
            cases hd : dstAt l g with
            | none => rfl
            | some d => simp only; rw [hv1 g hgh (aft hE) d hd, hv2 g hgh d hd]
          simp only [hyy]
      refine step_one (Q' := fun R' H' => allQ P w0 S ops H' (acc.filter (keepK l o')) ∧ tailK P n w0 S ops l acc X (tl.drop (j + 1)) R' H') hrf hrc (ok.sel o' (List.mem_of_getElem? ho)) hop hwant (hop1 af w hrf hst) ?_
      rintro u w' R2 H2 hr2 hs2 ⟨hall, htail2⟩
      have hd1 : dstOk n o' = true := hdst o' (List.mem_of_getElem? ho)
      have e2 : R2 = V.put Rf o'.dst u := Rep.one hr2 (hrf.put u hd1)
      subst e2
      have nd : ∀ {j' t' : Nat}, tl[j']? = some t' → t' = i → j' = j := fun h1 h2 => by
        subst h2
        exact ((List.getElem?_inj (List.getElem?_eq_some_iff.1 h1).1 ok.nd).1 (h1.trans htj.symm))
      refine ⟨by simp [hs], j + 1, _, _, _, H2, hjl, hr2, hrc.put u hd1, hs2, ?_, closed', ?_, htail2, ?_, ?_, ?_, ?_⟩
      · intro j' t' htj'
        rw [getD_set' _ _ _ hsi]
        by_cases h1 : i = t'
        · rw [if_pos h1]
          have := nd htj' h1.symm
          simp [this]
        · rw [if_neg h1, htl j' t' htj']
          constructor
          · intro h; omega
          · intro h
            rcases Nat.lt_or_ge j' j with h2 | h2
            · exact h2
            · exfalso
              have : j' = j := by omega
              subst this
              exact h1 (Option.some.inj (htj.symm.trans htj'))
      · intro i' hi' hl
        rw [getD_set' _ _ _ hsi] at hl
        have hl : listed.getD i' false = false := by
          by_cases h1 : i = i'
          · simp [h1] at hl
          · rwa [if_neg h1] at hl
        have hne : i' ∉ el := by
          intro hel
          have key : ∀ m x, l.length - x ≤ m → x ∈ el → listed.getD x false = true := by
            intro m
            induction m with
            | zero =>
              intro x hx hxe
              obtain ⟨y, _, h1, h2, _⟩ := ok.early x hxe
              omega
            | succ m ih =>
              intro x hx hxe
              obtain ⟨y, p, h1, h2, h3, hp, e, he, hb, hon⟩ := ok.early x hxe
              rcases h3 with h3 | h3
              · have hy0 : tl[0]? = some y := by rw [← List.head?_eq_getElem?]; exact h3
                by_cases h0 : j = 0
                · subst h0
                  obtain rfl : i = y := Option.some.inj (htj.symm.trans hy0)
                  obtain rfl : p = o' := Option.some.inj (hp.symm.trans ho)
                  exact hon ▸ haft e he hb
                · exact hon ▸ hcl y p hp ((htl 0 y hy0).2 (by omega)) e he hb
              · exact hon ▸ hcl y p hp (ih y (by omega) h3) e he hb
          rw [key _ i' (Nat.le_refl _) hel] at hl
          cases hl
        obtain ⟨p, hp, _, hac⟩ := hq i' hi'
        refine ⟨p, hp, allQ_mem hall _ (List.mem_filter.2 ⟨hac hne, ?_⟩)⟩
        show keepK l o' (p, Ri i', v i') = true
        unfold keepK
        cases hd : p.dst with
        | none => rfl
        | some d =>
          show (!(o'.after.any fun e => Region.binds .any e && dstAt l e.on == some d)) = true
          cases hx : o'.after.any fun e => Region.binds .any e && dstAt l e.on == some d with
          | false => rfl
          | true =>
            exfalso
            obtain ⟨e, he, hb⟩ := Array.any_eq_true'.1 hx
            simp only [Bool.and_eq_true, beq_iff_eq] at hb
            have hlt := ok.back i o' ho e he hb.1
            by_cases h1 : i' = e.on
            · have := haft e he hb.1
              rw [← h1, hl] at this
              cases this
            · exact ok.uniq i' e.on d hi' (by omega) h1 (by rw [dAt hp]; exact hd) hb.2
      · intro i' hi' hl d hd
        rw [getD_set' _ _ _ hsi] at hl
        have h1 : i ≠ i' := fun e => hih (e ▸ hi')
        rw [if_neg h1] at hl
        rw [put_ne (by rw [← dAt ho]; exact fun e => ok.uniq i' i d hi' hil (Ne.symm h1) hd e)]
        exact hv1 i' hi' hl d hd
      · intro i' hi' d hd
        have h1 : i ≠ i' := fun e => hih (e ▸ hi')
        rw [put_ne (by rw [← dAt ho]; exact fun e => ok.uniq i' i d hi' hil (Ne.symm h1) hd e)]
        exact hv2 i' hi' d hd
      · intro d hd
        by_cases h1 : o'.dst = some d
        · rw [put_eq h1, put_eq h1]
        · rw [put_ne h1, put_ne h1]; exact hv3 d hd
      · intro d hd hn
        rw [put_ne (by rw [← dAt ho]; exact hn j i (by omega) htj)]
        exact hv4 d hd fun j' t' h1 h2 => hn j' t' (by omega) h2
  · rintro listed a w ⟨hs, k, af, Rf, Rc, Hk, hk, hrf, hrc, hst, htl, hcl, hqy, htail, hv1, hv2, hv3, hv4⟩ he
    have hall : ∀ k, k < l.length → listed.getD k true = true := by
      intro k
      induction k using Nat.strongRecOn with
      | _ k ih =>
        intro hk
        cases hx : listed.getD k true with
        | true => rfl
        | false =>
          exfalso
          have : k ∈ Region.ready .any ops listed := mem_ready.2 ⟨hx, l[k], by rw [hops]; exact List.getElem?_eq_getElem hk, fun e he hb => by
            have hlt := ok.back k _ (List.getElem?_eq_getElem hk) e he hb
            exact (flip hs (by omega)).2 (ih e.on hlt (by omega))⟩
          rw [he] at this
          cases this
    have hkl : k = tl.length := by
      rcases Nat.lt_or_ge k tl.length with h1 | h1
      · have h2 := ok.tlt tl[k] (List.getElem_mem h1)
        have := (htl k tl[k] (List.getElem?_eq_getElem h1)).1 ((flip hs h2).2 (hall _ h2))
        omega
      · omega
    rw [hkl, List.drop_length] at htail
    have e1 : Rc = Rf := by
      funext d
      by_cases hh : ∃ i ∈ hds, dstAt l i = some d
      · obtain ⟨i, hi, hd⟩ := hh
        rw [hv1 i hi ((flip hs (ok.hlt i hi)).2 (hall i (ok.hlt i hi))) d hd, hv2 i hi d hd]
      · exact hv3 d fun i hi hd => hh ⟨i, hi, hd⟩
    subst e1
    exact htail _ _ hrc hst
  · have hun : ∀ i, (Array.replicate ops.size false).getD i false = false := by
      intro i
      rw [Array.getD_eq_getD_getElem?, Array.getElem?_replicate]
      split <;> rfl
    obtain ⟨af, haf⟩ := ha.fill (R' := R') (by
      intro t ht
      rw [f4 t, ha.undef ht]
      intro j hj hd
      have hjl := ok.hlt j hj
      have h1 := hdst _ (List.getElem_mem hjl)
      have h2 : (l[j]).dst = some t := by rw [← dAt (List.getElem?_eq_getElem hjl)]; exact hd
      unfold dstOk at h1
      rw [h2] at h1
      have h3 : t < n.n := by simpa using h1
      omega)
    refine ⟨Array.size_replicate, 0, af, R', R, H, Nat.zero_le _, haf, ⟨ha.size, ha.defers, ha.get⟩, hw.drew, ?_, ?_, ?_, hK, ?_, f3, ?_, ?_⟩
    · intro j t _; rw [hun]; simp
    · intro i o _ hl; rw [hun] at hl; cases hl
    · intro i hi _; obtain ⟨o, ho, hy, _⟩ := hq i hi; exact ⟨o, ho, hy⟩
    · intro i hi hl; rw [hun] at hl; cases hl
    · intro d hd; rw [f4 d hd]
    · intro d hd _; exact f4 d hd
  · exact Nat.le_trans List.countP_le_length (by rw [List.length_range]; exact Nat.le_refl _)


section
variable {ops : Array Oper} {l : List Oper} {is : List Nat} {i : Nat} {R : Regs} {acc : List (Oper × Regs × Value)} {X : Post} {o : Oper}
theorem tk_nil (h : G n w0 S (X .normal) R H) : tailK P n w0 S ops l acc X [] R H := h
theorem tk_step (ho : l[i]? = some o) (h : Ops P n w0 S ops (liftX n w0 S fun e R' H' => e = .normal ∧ allQ P w0 S ops H' (acc.filter (keepK l o)) ∧ tailK P n w0 S ops l acc X is R' H') [o] R H) : tailK P n w0 S ops l acc X (i :: is) R H := ⟨o, ho, h⟩
theorem allQ_nil {ops : Array Oper} {l : List Oper} {o : Oper} : allQ P w0 S ops H ([].filter (keepK l o)) := trivial
theorem allQ_no {ops : Array Oper} {l : List Oper} {o : Oper} {x : Oper × Regs × Value} {acc : List (Oper × Regs × Value)} (hk : keepK l o x = false) (h : allQ P w0 S ops H (acc.filter (keepK l o))) : allQ P w0 S ops H ((x :: acc).filter (keepK l o)) := by
  rw [List.filter_cons_of_neg (by rw [hk]; decide)]; exact h
theorem allQ_yes {ops : Array Oper} {l : List Oper} {o : Oper} {x : Oper × Regs × Value} {acc : List (Oper × Regs × Value)} (hq : qY P w0 S H ops x.1 x.2.1 x.2.2) (h : allQ P w0 S ops H (acc.filter (keepK l o))) : allQ P w0 S ops H ((x :: acc).filter (keepK l o)) := by
  rw [List.filter_cons]
  split
  · exact ⟨hq, h⟩
  · exact h
end
end
end Go.Proofs.YtnilejkfbcnkkaaGreatDoor.V
end
section
namespace Go.Proofs.YtnilejkfbcnkkaaGreatDoor.V
open Go Go.RowKit

/-! ### Blocks of 64 bytes -/
def bl (x : Blk) : List Value := (bv x).toList
theorem bl_len (x : Blk) : (bl x).length = 64 := by simp [bl, bv_size]
theorem bl_arr (x : Blk) : (bl x).toArray = bv x := by simp [bl]
theorem bl_inj {x y : Blk} (h : bl x = bl y) : x = y := bv_inj (by rw [← bl_arr, ← bl_arr, h])
instance {x : Blk} : OneL (bl x) := ⟨fun u hu => bv_one x u hu⟩
instance {x : Blk} : LenL (bl x) 64 := ⟨bl_len x⟩
def blk0 : Blk := Vector.replicate 64 0

/-- The k cells from 'off' on are 'vs'. -/
def Sg (c : List Value) (off k : Nat) (vs : List Value) : Prop := vs.length = k ∧ ∀ j v, vs[j]? = some v → c[off + j]? = some v
theorem Sg.cell {c : List Value} {off k : Nat} {vs : List Value} (h : Sg c off k vs) : ∀ j v, vs[j]? = some v → c[off + j]? = some v := h.2
theorem Sg.whole {c : List Value} {k : Nat} [h : LenL c k] : Sg c 0 k c := ⟨h.h, fun j v hv => by simpa using hv⟩
theorem Sg.tl {a : Value} {c vs : List Value} {off k : Nat} (h : Sg c off k vs) : Sg (a :: c) (off + 1) k vs := ⟨h.1, fun j v hv => by rw [Nat.add_right_comm]; simpa using h.2 j v hv⟩
theorem Sg.left {A B vs : List Value} {off k : Nat} (h : Sg A off k vs) : Sg (A ++ B) off k vs :=
  ⟨h.1, fun j v hv => by have h1 := h.2 j v hv; rw [List.getElem?_append_left (List.getElem?_eq_some_iff.1 h1).1]; exact h1⟩
theorem Sg.right {A B vs : List Value} {off k m : Nat} [hA : LenL A m] (h : Sg B off k vs) : Sg (A ++ B) (m + off) k vs :=
  ⟨h.1, fun j v hv => by rw [List.getElem?_append_right (by rw [hA.h]; omega), hA.h]; rw [show m + off + j - m = off + j by omega]; exact h.2 j v hv⟩
theorem Sg.right' {A B vs : List Value} {off off' k m : Nat} [hA : LenL A m] (h : Sg B off k vs) (e : m + off = off') : Sg (A ++ B) off' k vs := e ▸ Sg.right h
theorem Sg.nil {c : List Value} : Sg c 0 0 [] := ⟨rfl, fun j v hv => by simp at hv⟩
theorem Sg.cons {a : Value} {c vs : List Value} {k : Nat} (h : Sg c 0 k vs) : Sg (a :: c) 0 (k + 1) (a :: vs) :=
  ⟨by simp [h.1], fun j v hv => by
    cases j with
    | zero => simpa using hv
    | succ j => simpa using h.2 j v (by simpa using hv)⟩
theorem Sg.one {c : List Value} {off : Nat} {v : Value} (h : c[off]? = some v) : Sg c off 1 [v] := ⟨rfl, fun j u hu => by
  cases j with
  | zero => simp at hu; subst hu; exact h
  | succ j => simp at hu⟩

/-- The cells from 'off' on are 'vs' now. -/
def Sets (c : List Value) (off : Nat) (vs c' : List Value) : Prop := off + vs.length ≤ c.length ∧ c.take off ++ vs ++ c.drop (off + vs.length) = c'
theorem Sets.z {a v : Value} {c : List Value} : Sets (a :: c) 0 [v] (v :: c) := ⟨by simp, by simp⟩
theorem Sets.tl {a : Value} {c vs c' : List Value} {off : Nat} (h : Sets c off vs c') : Sets (a :: c) (off + 1) vs (a :: c') := by
  obtain ⟨h1, h2⟩ := h
  refine ⟨by simp; omega, ?_⟩
  rw [show off + 1 + vs.length = (off + vs.length) + 1 by omega]
  simp [← h2]
theorem Sets.whole {c vs : List Value} {k : Nat} [hc : LenL c k] [hv : LenL vs k] : Sets c 0 vs vs := ⟨by rw [hc.h, hv.h]; omega, by
  rw [List.drop_eq_nil_of_le (by rw [hc.h, hv.h]; omega)]; simp⟩
theorem Sets.left {A B A' vs : List Value} {off : Nat} (h : Sets A off vs A') : Sets (A ++ B) off vs (A' ++ B) := by
  obtain ⟨h1, h2⟩ := h
  refine ⟨by simp; omega, ?_⟩
  rw [List.take_append_of_le_length (by omega), List.drop_append_of_le_length (by omega), ← h2]
  simp
theorem Sets.right {A B B' vs : List Value} {off off' m : Nat} [hA : LenL A m] (h : Sets B off vs B') (e : m + off = off') : Sets (A ++ B) off' vs (A ++ B') := by
  obtain ⟨h1, h2⟩ := h
  have hl := hA.h
  refine ⟨by simp; omega, ?_⟩
  subst e
  rw [← h2, List.take_append, List.drop_append, List.take_of_length_le (by omega), List.drop_eq_nil_of_le (by omega), hl]
  simp only [List.nil_append, List.append_assoc]
  rw [show m + off - m = off by omega, show m + off + vs.length - m = off + vs.length by omega]
theorem Sets.len {c vs c' : List Value} {off : Nat} (h : Sets c off vs c') : c'.length = c.length := by
  obtain ⟨h1, h2⟩ := h
  rw [← h2]; simp; omega

section
variable {P : Program} {n : Fp} {w0 : World} {S : Nat → Prop} {X : Post} {R : Regs} {H : Hp}
variable {dst : Option Tmp} {ty : TypeId} {pos : String} {after : Array Go.Edge} {gd : Option (Nat × Bool)}

theorem Rd.cl {g off k : Nat} {c vs : List Value} {t : TypeId} (hm : cl g c t ∈ H) (hs : Sg c off k vs) : Rd w0 S H g off vs := by
  intro w hw j v hj
  have h1 := hw.cl hm
  simp only [World.cell?, h1]
  simpa using hs.2 j v hj

/-! ### Loads -/
theorem y_ld1 {x : Operand} {t : TypeId} {g off : Nat} {c : List Value} {et : TypeId} {v : Value} [hu : SC P t] (hx : ev R x = PP g off) (hm : cl g c et ∈ H) (hv : c[off]? = some v) : Yields P w0 S H ⟨dst, .load t x, ty, pos, after, gd⟩ R v :=
  let ⟨_, h1, h2⟩ := hu.h; y_load hx h1 h2 (Rd.cl hm (Sg.one hv))
theorem y_ldN {x : Operand} {t : TypeId} {g off k : Nat} {c vs : List Value} {et : TypeId} [hu : RW P t] [hz : SZ P t k] (hx : ev R x = PP g off) (hm : cl g c et ∈ H) (hv : Sg c off k vs) : Yields P w0 S H ⟨dst, .load t x, ty, pos, after, gd⟩ R (A vs) :=
  let ⟨_, h1, h2⟩ := hu.h; y_loadN hx h1 h2 (by rw [hz.h, hv.1]) (Rd.cl hm hv)
theorem y_ldW {x : Operand} {t : TypeId} {g k : Nat} {c : List Value} {et : TypeId} [hu : RW P t] [hz : SZ P t k] [hl : LenL c k] (hx : ev R x = PP g 0) (hm : cl g c et ∈ H) : Yields P w0 S H ⟨dst, .load t x, ty, pos, after, gd⟩ R (A c) :=
  y_ldN hx hm Sg.whole
theorem y_fa {s : TypeId} {x : Operand} {b o i k o' : Nat} [hf : FLD P s i k] (hx : ev R x = PP b o) (ho : o + k = o') : Yields P w0 S H ⟨dst, .fieldAddr s x i, ty, pos, after, gd⟩ R (PP b o') := by
  obtain ⟨fs, f, m, h1, h2, h3, h4⟩ := hf.h
  exact y_fieldAddr hx h1 h2 h3 ⟨m, h4⟩ ho
/-- a field of one cell of a struct that is a value -/
class FT (P : Program) (s : TypeId) (i : Nat) (k ty sz : outParam Nat) : Prop where h : ∃ fs f, P.underlying s = some (.struct fs) ∧ fs[i]? = some f ∧ f.offset = k ∧ f.type = ty ∧ (P.info? ty).map (·.size) = some sz
theorem y_f1 {s ft : TypeId} {x : Operand} {i k sz : Nat} {c : List Value} {v : Value} [hf : FT P s i k ft sz] [hu : SC P ft] (hx : ev R x = A c) (hv : c[k]? = some v) : Yields P w0 S H ⟨dst, .field s x i, ty, pos, after, gd⟩ R v := by
  obtain ⟨fs, f, h1, h2, h3, h4, h5⟩ := hf.h
  obtain ⟨d, g1, g2⟩ := hu.h
  exact y_field1 hx h1 h2 h3 (by rw [h4]; exact g1) g2 (by simpa using hv)
theorem Sg.list {c vs : List Value} {off k : Nat} (h : Sg c off k vs) : (c.drop off).take k = vs := by
  refine List.ext_getElem? fun j => ?_
  rw [List.getElem?_take]
  by_cases hj : j < k
  · rw [if_pos hj, List.getElem?_drop]
    have hjl : j < vs.length := by rw [h.1]; exact hj
    rw [h.2 j _ (List.getElem?_eq_getElem hjl), List.getElem?_eq_getElem hjl]
  · rw [if_neg hj, List.getElem?_eq_none (by rw [h.1]; omega)]
theorem run_part {t : TypeId} {d : TypeDesc} {k off : Nat} {c vs : List Value} (hu : P.underlying t = some d) (hz : (P.info? t).map (·.size) = some k) (hd : d.isRow = true) (hv : Sg c off k vs) (w : World) : (part t c.toArray off).run P w = .ok (A vs) w := by
  have hagg : (isAgg t).run P w = .ok true w := by
    unfold isAgg
    rw [Sem.run_bind, run_underlying hu w]
    cases d <;> simp_all [TypeDesc.isRow]
  obtain ⟨it, hit, hsz⟩ : ∃ it, P.info? t = some it ∧ it.size = k := by
    cases h : P.info? t with
    | none => simp [h] at hz
    | some it => exact ⟨it, rfl, by simpa [h] using hz⟩
  have hlen : off + k ≤ c.length ∨ k = 0 := by
    cases hk : k with
    | zero => exact .inr rfl
    | succ m =>
      left
      have hm : m < vs.length := by rw [hv.1, hk]; omega
      have h1 := hv.2 m vs[m] (List.getElem?_eq_getElem hm)
      have := (List.getElem?_eq_some_iff.1 h1).1
      omega
  have he := hv.list
  simp [part, hagg, sizeOf, typeInfo, hit, hsz]
  simp [A, ← he]
theorem y_fN {s ft : TypeId} {x : Operand} {i k sz : Nat} {c vs : List Value} [hf : FT P s i k ft sz] [hu : RW P ft] (hx : ev R x = A c) (hv : Sg c k sz vs) : Yields P w0 S H ⟨dst, .field s x i, ty, pos, after, gd⟩ R (A vs) := by
  obtain ⟨fs, f, h1, h2, h3, h4, h5⟩ := hf.h
  obtain ⟨d, g1, g2⟩ := hu.h
  refine y_val fun w => ?_
  have := run_part g1 h5 g2 hv w
  subst h3 h4
  simp [execOp, hx, Instr.field, run_underlying h1, h2, asAgg, this]

/-! ### Stores -/
theorem o_st {t : TypeId} {ops : Array Oper} {rest : List Oper} {x y : Operand} {g off k : Nat} {c c' vs : List Value} {et : TypeId} {v : Value} {H' : Hp} [hz : SZ P t k] (hx : ev R x = PP g off) (hy : ev R y = v) (hvc : v.cells.toList = vs) (hvk : vs.length = k) (h1 : ∀ u ∈ vs, u.oneCell' = true)
    (hu : Upd H (cl g c et) (cl g c' et) H') (hs : Sets c off vs c') (h : Ops P n w0 S ops X rest R H') : Ops P n w0 S ops X (⟨none, .store t x y, ty, pos, after, none⟩ :: rest) R H := by
  refine o_unit rfl rfl fun w hw => ?_
  have hm : cl g c et ∈ H := by obtain ⟨K, p, _⟩ := hu; exact p.mem_iff.2 (List.mem_cons_self ..)
  have hg := hw.cl hm
  have hcs : v.cells.size = vs.length := by rw [← hvc]; simp
  have hrun := run_store (P := P) (t := t) (v := v) hg (by rw [hz.h, hcs, hvk]) (off := off) (by rw [hcs]; simpa using hs.1) (by rw [hvc]; exact h1)
  have e : (c.toArray.toList.take off ++ v.cells.toList ++ c.toArray.toList.drop (off + v.cells.size)).toArray = c'.toArray := by rw [hvc, hcs]; exact congrArg _ hs.2
  rw [e] at hrun
  refine ⟨w.setRow g c'.toArray, H', ?_, ?_, h⟩
  · simp [execOp, hx, hy, Instr.storeAt, Instr.sureAddr, hrun]
  · exact hw.write hu (g := g) (o := .cells c.toArray et (0, 0)) (o' := .cells c'.toArray et (0, 0)) (fun B hB => hB) rfl (setRow_heap w g c.toArray c'.toArray et (0, 0) hg) (fun k hk => setRow_other w g k c'.toArray hk) (by simp) rfl rfl rfl
theorem o_st1 {t : TypeId} {ops : Array Oper} {rest : List Oper} {x y : Operand} {g off : Nat} {c c' : List Value} {et : TypeId} {v : Value} {H' : Hp} [hz : SZ P t 1] (hx : ev R x = PP g off) (hy : ev R y = v) (ho : OneV v)
    (hu : Upd H (cl g c et) (cl g c' et) H') (hs : Sets c off [v] c') (h : Ops P n w0 S ops X rest R H') : Ops P n w0 S ops X (⟨none, .store t x y, ty, pos, after, none⟩ :: rest) R H :=
  o_st hx hy (by rw [ho.c]) rfl (by intro u hu; simp at hu; subst hu; exact ho.h) hu hs h
theorem o_stN {t : TypeId} {ops : Array Oper} {rest : List Oper} {x y : Operand} {g off k : Nat} {c c' vs : List Value} {et : TypeId} {H' : Hp} [hz : SZ P t k] (hx : ev R x = PP g off) (hy : ev R y = A vs) (ho : OneL vs) (hl : LenL vs k)
    (hu : Upd H (cl g c et) (cl g c' et) H') (hs : Sets c off vs c') (h : Ops P n w0 S ops X rest R H') : Ops P n w0 S ops X (⟨none, .store t x y, ty, pos, after, none⟩ :: rest) R H :=
  o_st hx hy rfl hl.h ho.h hu hs h
/-- the whole of a block -/
theorem o_stW {t : TypeId} {ops : Array Oper} {rest : List Oper} {x y : Operand} {g k : Nat} {c vs : List Value} {et : TypeId} {H' : Hp} [hz : SZ P t k] (hx : ev R x = PP g 0) (hy : ev R y = A vs) (ho : OneL vs) (hl : LenL vs k)
    (hu : Upd H (cl g c et) (cl g vs et) H') (hc : LenL c k) (h : Ops P n w0 S ops X rest R H') : Ops P n w0 S ops X (⟨none, .store t x y, ty, pos, after, none⟩ :: rest) R H :=
  o_stN hx hy ho hl hu Sets.whole h

/-! ### New memory -/
theorem o_al {ops : Array Oper} {rest : List Oper} {d : Tmp} {e : TypeId} {c : List Value} [hz : ZV P e c] (hd : decide (d < n.n) = true)
    (h : ∀ g, Ops P n w0 S ops X rest (upd R d (PP g)) (cl g c e :: H)) : Ops P n w0 S ops X (⟨some d, .alloc e, ty, pos, after, none⟩ :: rest) R H := by
  obtain ⟨z, hz', rfl⟩ := hz.h
  refine o_op rfl hd fun w hw => ⟨PP w.heap.size, _, _, ?_, hw.allocC _ _, h _⟩
  cases hi : P.info? e with
  | none => simp [hi] at hz'
  | some i =>
    have : i.zero = some z := by simpa [hi] using hz'
    simp [execOp, Instr.alloc, zeroValue, typeInfo, hi, this, newVar, newRow]
theorem o_bx {ops : Array Oper} {rest : List Oper} {d : Tmp} {e : TypeId} {x : Operand} {v : Value} {c : List Value} (hd : decide (d < n.n) = true) (hx : ev R x = v) (hc : v.cells.toList = c)
    (h : ∀ g, Ops P n w0 S ops X rest (upd R d (PP g)) (cl g c e :: H)) : Ops P n w0 S ops X (⟨some d, .box e x, ty, pos, after, none⟩ :: rest) R H := by
  subst hc
  exact o_op rfl hd fun w hw => ⟨PP w.heap.size, _, _, by simp [execOp, hx, Instr.box, newVar, newRow], hw.allocC _ _, h _⟩

/-! ### Functions as values -/
theorem y_mkf {f : Fn} {a b : Array Operand} {p q : Array Value} (ha : a.map (ev R) = p) (hb : b.map (ev R) = q) : Yields P w0 S H ⟨dst, .makeFunc f a b, ty, pos, after, gd⟩ R (.func f p q) :=
  y_val fun w => by simp [execOp, Instr.makeFunc, ha, hb]
theorem y_mki {t : TypeId} {x : Operand} {v : Value} [hu : RW P t] (hx : ev R x = v) : Yields P w0 S H ⟨dst, .makeInterface t x, ty, pos, after, gd⟩ R (.iface t v) :=
  y_val fun w => by
    obtain ⟨d, g1, g2⟩ := hu.h
    have := run_underlying g1 w
    cases d <;> simp_all [execOp, Instr.makeInterface, TypeDesc.isRow]

/-! ### Calls -/
theorem run_callV {x : Operand} {f : FuncId} {first cap : Array Value} {args : Array Operand} {at_ : Array TypeId} {vs : List Value} (hf : Bodied P f) (hx : ev R x = .func (.func f) first cap) (hv : (first ++ args.map (ev R) ++ cap).toList = vs) (w : World) :
    (execOp (ev R) ⟨dst, .call { callee := .value x, args := args, argTypes := at_ }, ty, pos, after, gd⟩).run P w = .ok (.enter f vs.toArray) w := by
  obtain ⟨fn, h1, h2, h3⟩ := hf
  have h2' : ¬ fn.name = "runtime.NumGoroutine" := by simpa using h2
  have h3' : ¬ fn.body = none := fun e => by rw [e] at h3; cases h3
  subst hv
  simp [execOp, resolve, hx, Deferred.ofValue, invoke, callFunc, h1, h2', h3']

/-- A call under its contract: it may turn the chunks 'L0', and may leave by a panic. -/
theorem o_fnP {o : Oper} {ops : Array Oper} {rest : List Oper} {f : FuncId} {vs : List Value} {L0 K : Hp} {Q : Out → Hp → Prop} (hc : CtP P f vs L0 Q) (hg : o.guard = none) (hd : dstOk n o = true)
    (hr : ∀ w, (execOp (ev R) o).run P w = .ok (.enter f vs.toArray) w) (hp : Pick L0 H K)
    (h : ∀ v L, Q (.ret v) L → Ops P n w0 S ops X rest (put R o.dst v) (L ++ K))
    (h' : ∀ v L, Q (.pan v) L → G n w0 S (X (.panic [{ v := v, recovered := false }])) R (L ++ K)) : Ops P n w0 S ops X (o :: rest) R H := by
  intro a w ha hw
  refine wpList_plain hg fun C hC => ?_
  unfold Oper.wp
  rw [ha.ev, hr w]
  simp only [Oper.upon]
  obtain ⟨B, hs, hw⟩ := hw.ent (.perm hp)
  obtain ⟨B0, BK, rfl, hs0, hsK⟩ := Sat.app.1 hs
  refine (hc w B0 hs0 hw.at').mono ?_
  rintro e w' ⟨out, L, rfl, hq, hw'⟩
  have hst := St.call hw hsK hw'
  cases out with
  | ret v => exact hC _ _ (h v L hq _ _ (ha.put v hd) hst)
  | pan v => exact h' v L hq _ _ ha hst
theorem o_fn {o : Oper} {ops : Array Oper} {rest : List Oper} {f : FuncId} {vs : List Value} {L0 K : Hp} {Q : Value → Hp → Prop} (hc : Ct P f vs L0 Q) (hg : o.guard = none) (hd : dstOk n o = true)
    (hr : ∀ w, (execOp (ev R) o).run P w = .ok (.enter f vs.toArray) w) (hp : Pick L0 H K)
    (h : ∀ v L, Q v L → Ops P n w0 S ops X rest (put R o.dst v) (L ++ K)) : Ops P n w0 S ops X (o :: rest) R H :=
  o_fnP hc hg hd hr hp (fun v L ⟨_, he, hq⟩ => by cases he; exact h v L hq) (fun v L ⟨_, he, _⟩ => by cases he)
/-- A call that leaves all as it is. -/
theorem y_fn {o : Oper} {f : FuncId} {vs : List Value} {L0 K : Hp} {v : Value} (hc : CtV P f vs L0 v) (hr : ∀ w, (execOp (ev R) o).run P w = .ok (.enter f vs.toArray) w) (hp : Pick L0 H K) : Yields P w0 S H o R v := by
  intro w hw
  rw [hr w]
  refine ⟨rfl, ?_⟩
  obtain ⟨B, hs, hw⟩ := hw.ent (.perm hp)
  obtain ⟨B0, BK, rfl, hs0, hsK⟩ := Sat.app.1 hs
  refine (hc w B0 hs0 hw.at').mono ?_
  rintro e w' ⟨out, L, rfl, ⟨_, rfl, rfl, rfl⟩, hw'⟩
  exact ⟨rfl, (St.call hw hsK hw').ent (.perm (List.Perm.symm hp))⟩
section
variable {ops : Array Oper} {rest : List Oper} {f : FuncId} {args : Array Operand} {at_ : Array TypeId} {vs : List Value} {L0 K : Hp} {x : Operand} {first cap : Array Value} {d : Option Tmp}
theorem cl_p {Q : Out → Hp → Prop} [hb : BD P f] (hc : CtP P f vs L0 Q) (hv : args.toList.map (ev R) = vs) (hd : (match d with | some d => decide (d < n.n) | none => true) = true) (hp : Pick L0 H K)
    (h : ∀ v L, Q (.ret v) L → Ops P n w0 S ops X rest (put R d v) (L ++ K)) (h' : ∀ v L, Q (.pan v) L → G n w0 S (X (.panic [{ v := v, recovered := false }])) R (L ++ K)) :
    Ops P n w0 S ops X (⟨d, .call { callee := .value (.func f), args := args, argTypes := at_ }, ty, pos, after, none⟩ :: rest) R H :=
  o_fnP hc rfl hd (run_call hb.h hv) hp h h'
theorem cl_ {Q : Value → Hp → Prop} [hb : BD P f] (hc : Ct P f vs L0 Q) (hv : args.toList.map (ev R) = vs) (hd : (match d with | some d => decide (d < n.n) | none => true) = true) (hp : Pick L0 H K)
    (h : ∀ v L, Q v L → Ops P n w0 S ops X rest (put R d v) (L ++ K)) : Ops P n w0 S ops X (⟨d, .call { callee := .value (.func f), args := args, argTypes := at_ }, ty, pos, after, none⟩ :: rest) R H :=
  o_fn hc rfl hd (run_call hb.h hv) hp h
theorem cl_v {v : Value} [hb : BD P f] (hc : CtV P f vs L0 v) (hv : args.toList.map (ev R) = vs) (hp : Pick L0 H K) :
    Yields P w0 S H ⟨d, .call { callee := .value (.func f), args := args, argTypes := at_ }, ty, pos, after, gd⟩ R v :=
  y_fn hc (run_call hb.h hv) hp
theorem cx_p {Q : Out → Hp → Prop} [hb : BD P f] (hc : CtP P f vs L0 Q) (hx : ev R x = .func (.func f) first cap) (hv : (first ++ args.map (ev R) ++ cap).toList = vs) (hd : (match d with | some d => decide (d < n.n) | none => true) = true) (hp : Pick L0 H K)
    (h : ∀ v L, Q (.ret v) L → Ops P n w0 S ops X rest (put R d v) (L ++ K)) (h' : ∀ v L, Q (.pan v) L → G n w0 S (X (.panic [{ v := v, recovered := false }])) R (L ++ K)) :
    Ops P n w0 S ops X (⟨d, .call { callee := .value x, args := args, argTypes := at_ }, ty, pos, after, none⟩ :: rest) R H :=
  o_fnP hc rfl hd (run_callV hb.h hx hv) hp h h'
theorem cx_ {Q : Value → Hp → Prop} [hb : BD P f] (hc : Ct P f vs L0 Q) (hx : ev R x = .func (.func f) first cap) (hv : (first ++ args.map (ev R) ++ cap).toList = vs) (hd : (match d with | some d => decide (d < n.n) | none => true) = true) (hp : Pick L0 H K)
    (h : ∀ v L, Q v L → Ops P n w0 S ops X rest (put R d v) (L ++ K)) : Ops P n w0 S ops X (⟨d, .call { callee := .value x, args := args, argTypes := at_ }, ty, pos, after, none⟩ :: rest) R H :=
  o_fn hc rfl hd (run_callV hb.h hx hv) hp h
end

/-! ### Panics, what is deferred -/
theorem o_panic {ops : Array Oper} {rest : List Oper} {d : Option Tmp} {x : Operand} {t : TypeId} {v : Value} (hx : ev R x = .iface t v) (h : G n w0 S (X (.panic [{ v := .iface t v, recovered := false }])) R H) :
    Ops P n w0 S ops X (⟨d, .panic x, ty, pos, after, none⟩ :: rest) R H := by
  intro a w ha hw
  refine wpList_plain rfl fun C hC => ?_
  unfold Oper.wp
  rw [ha.ev]
  simp only [execOp, hx, Instr.panic]
  exact h a w ha hw
theorem o_defer {ops : Array Oper} {rest : List Oper} {x : Operand} {args : Array Operand} {at_ : Array TypeId} {fv : Fn} {first cap : Array Value} (hx : ev R x = .func fv first cap) {vs : Array Value} (hv : first ++ args.map (ev R) = vs)
    (h : Ops P ⟨n.n, { target := .fn fv cap, args := vs } :: n.D⟩ w0 S ops X rest R H) : Ops P n w0 S ops X (⟨none, .defer { callee := .value x, args := args, argTypes := at_ }, ty, pos, after, none⟩ :: rest) R H := by
  intro a w ha hw
  refine wpList_plain rfl fun C hC => ?_
  unfold Oper.wp
  rw [ha.ev]
  subst hv
  simp only [execOp, resolve, hx, Deferred.ofValue]
  exact hC _ _ (h _ w ⟨ha.size, by simp [Act.put, ha.defers], ha.get⟩ hw)
end
end Go.Proofs.YtnilejkfbcnkkaaGreatDoor.V
end
