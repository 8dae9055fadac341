/- Proved: how a ring of nodes turns, and rules of the walk on nodes; rules of the walk on nodes; what the functions of a list of keys do; what a list of keys keeps as its acts go on; what a list of keys does, said of the row of its keys; how a key comes first; the conditions stand in the statements. -/
import Derived.Test.YtnilejkfbcnkkaaGreatDoorM08
import Derived.LaidEqlPtr
set_option linter.unusedVariables false
set_option linter.unusedSimpArgs false
set_option linter.unusedSectionVars false
section
set_option maxRecDepth 100000
set_option maxHeartbeats 4000000
namespace Go.Proofs.YtnilejkfbcnkkaaGreatDoor.V
open Go Go.RowKit
attribute [local irreducible] Yields cl pur rowc sv exC fo

structure Nd where
  k : Nat
  p : Bool
  a : Value
  b : Value
def Nd.c (x : Nd) : Array Value := #[I x.k, .bool x.p, x.a, x.b]
def setA (f : Nat → Nd) (g : Nat) (v : Value) : Nat → Nd := fun i => if i = g then { f i with a := v } else f i
def setB (f : Nat → Nd) (g : Nat) (v : Value) : Nat → Nd := fun i => if i = g then { f i with b := v } else f i
def setP (f : Nat → Nd) (g : Nat) (v : Bool) : Nat → Nd := fun i => if i = g then { f i with p := v } else f i

def putN (f : Nat → Nd) (g : Nat) (x : Nd) : Nat → Nd := fun i => if i = g then x else f i
section
variable (f : Nat → Nd) (g i : Nat) (v : Value) (b : Bool)
theorem setA_k : (setA f g v i).k = (f i).k := by unfold setA; split <;> rfl
theorem setA_p : (setA f g v i).p = (f i).p := by unfold setA; split <;> rfl
theorem setA_b : (setA f g v i).b = (f i).b := by unfold setA; split <;> rfl
theorem setB_k : (setB f g v i).k = (f i).k := by unfold setB; split <;> rfl
theorem setB_p : (setB f g v i).p = (f i).p := by unfold setB; split <;> rfl
theorem setB_a : (setB f g v i).a = (f i).a := by unfold setB; split <;> rfl
theorem setA_a : (setA f g v g).a = v := by unfold setA; rw [if_pos rfl]
theorem setB_b : (setB f g v g).b = v := by unfold setB; rw [if_pos rfl]
theorem setA_ne (h : i ≠ g) : setA f g v i = f i := if_neg h
theorem setB_ne (h : i ≠ g) : setB f g v i = f i := if_neg h
theorem setP_k : (setP f g b i).k = (f i).k := by unfold setP; split <;> rfl
theorem setP_a : (setP f g b i).a = (f i).a := by unfold setP; split <;> rfl
theorem setP_b : (setP f g b i).b = (f i).b := by unfold setP; split <;> rfl
theorem setP_p : (setP f g b g).p = b := by unfold setP; rw [if_pos rfl]
theorem setP_ne (h : i ≠ g) : setP f g b i = f i := if_neg h
theorem setA_c : (f g).c.setIfInBounds 2 v = (setA f g v g).c := by unfold setA; rw [if_pos rfl]; simp [Nd.c]
theorem setB_c : (f g).c.setIfInBounds 3 v = (setB f g v g).c := by unfold setB; rw [if_pos rfl]; simp [Nd.c]
theorem setP_c : (f g).c.setIfInBounds 1 (.bool b) = (setP f g b g).c := by unfold setP; rw [if_pos rfl]; simp [Nd.c]
end
theorem nd0 {x : Nd} {k : Nat} (h : x.k = k) : x.c[0]? = some (I k) := by subst h; rfl
theorem nd1 {x : Nd} {p : Bool} (h : x.p = p) : x.c[1]? = some (.bool p) := by subst h; rfl
theorem nd2 {x : Nd} {v : Value} (h : x.a = v) : x.c[2]? = some v := by subst h; rfl
theorem nd3 {x : Nd} {v : Value} (h : x.b = v) : x.c[3]? = some v := by subst h; rfl

def Wn (e : Nat) (gs : List Nat) (j : Nat) : Nat := (e :: (gs ++ [e])).getD j e
theorem Wn_0 (e : Nat) (gs : List Nat) : Wn e gs 0 = e := rfl
theorem Wn_s (e : Nat) (gs : List Nat) (j : Nat) (h : j < gs.length) : Wn e gs (j + 1) = gs[j] := by
  unfold Wn
  rw [List.getD_cons_succ, List.getD_eq_getElem?_getD, List.getElem?_append_left h, List.getElem?_eq_getElem h]; rfl
theorem Wn_n (e : Nat) (gs : List Nat) : Wn e gs (gs.length + 1) = e := by
  unfold Wn
  rw [List.getD_cons_succ, List.getD_eq_getElem?_getD]; simp
theorem Wn_mem (e : Nat) (gs : List Nat) (j : Nat) : Wn e gs j ∈ e :: gs := by
  cases j with
  | zero => exact List.mem_cons_self ..
  | succ j =>
    by_cases h : j < gs.length
    · rw [Wn_s e gs j h]; exact List.mem_cons_of_mem _ (List.getElem_mem h)
    · unfold Wn
      rw [List.getD_cons_succ, List.getD_eq_getElem?_getD]
      by_cases h2 : j = gs.length
      · subst h2; simp
      · rw [List.getElem?_eq_none (by simp; omega)]; exact List.mem_cons_self ..
def Lk (f : Nat → Nd) (e : Nat) (gs : List Nat) : Prop := ∀ i, i ≤ gs.length → (f (Wn e gs i)).b = PP (Wn e gs (i + 1)) ∧ (f (Wn e gs (i + 1))).a = PP (Wn e gs i)
def unl (f : Nat → Nd) (x p q : Nat) : Nat → Nd := setA (setB f p (PP q)) q (PP p)
def frs (f : Nat → Nd) (x e h : Nat) : Nat → Nd := setA (setB (setB (setA f x (PP e)) x (PP h)) e (PP x)) h (PP x)
theorem ne_mem {a b : Nat} {l : List Nat} (h : a ∈ l) (h2 : b ∉ l) : a ≠ b := by rintro rfl; exact h2 h
theorem putN_ne (f : Nat → Nd) (g i : Nat) {x : Nd} (h : i ≠ g) : putN f g x i = f i := if_neg h
theorem putN_is (f : Nat → Nd) (g : Nat) (x : Nd) : putN f g x g = x := if_pos rfl
theorem unl_k (f : Nat → Nd) (x p q i : Nat) : (unl f x p q i).k = (f i).k := (setA_k ..).trans (setB_k ..)
theorem unl_p (f : Nat → Nd) (x p q i : Nat) : (unl f x p q i).p = (f i).p := (setA_p ..).trans (setB_p ..)
theorem frs_k (f : Nat → Nd) (x e h i : Nat) : (frs f x e h i).k = (f i).k := by simp only [frs, setA_k, setB_k]
theorem frs_p (f : Nat → Nd) (x e h i : Nat) : (frs f x e h i).p = (f i).p := by simp only [frs, setA_p, setB_p]
/-- The last place behind which nothing is free: of the first j, counted from 0. -/
def lf (f : Nat → Nd) (e : Nat) (gs : List Nat) : Nat → Option Nat
  | 0 => none
  | j + 1 => if (f (Wn e gs (j + 1))).p = false then some j else lf f e gs j
theorem lf_pin {f : Nat → Nd} {e : Nat} {gs : List Nat} {j : Nat} (hj : j ≠ 0) (h : (f (Wn e gs j)).p = true) : lf f e gs j = lf f e gs (j - 1) := by
  cases j with
  | zero => exact absurd rfl hj
  | succ j => rw [lf, if_neg (by rw [h]; decide)]; rfl
theorem lf_free {f : Nat → Nd} {e : Nat} {gs : List Nat} {j : Nat} (hj : j ≠ 0) (h : (f (Wn e gs j)).p = false) : lf f e gs j = some (j - 1) := by
  cases j with
  | zero => exact absurd rfl hj
  | succ j => rw [lf, if_pos h]; rfl
theorem Wn_zero {e : Nat} {gs : List Nat} {j : Nat} (hnd : (e :: gs).Nodup) (hj : j ≤ gs.length) (h : Wn e gs j = e) : j = 0 := by
  cases j with
  | zero => rfl
  | succ j =>
    rw [Wn_s e gs j (by omega)] at h
    exact absurd (h ▸ List.getElem_mem (by omega)) (List.nodup_cons.1 hnd).1
theorem Wn_lt {e : Nat} {gs : List Nat} {j : Nat} (hj : j ≤ gs.length) (h : Wn e gs (j + 1) ≠ e) : j < gs.length := by
  rcases Nat.lt_or_ge j gs.length with h1 | h1
  · exact h1
  · have : j = gs.length := by omega
    subst this; exact absurd (Wn_n e gs) h
theorem Wn_eq {e : Nat} {gs : List Nat} {j : Nat} (hnd : (e :: gs).Nodup) (hj : j ≤ gs.length) (h : Wn e gs (j + 1) = e) : j = gs.length := by
  rcases Nat.lt_or_ge j gs.length with h1 | h1
  · have := Wn_zero hnd (by omega) h; omega
  · omega
theorem Wn_inj {e : Nat} {gs : List Nat} {i j : Nat} (hnd : (e :: gs).Nodup) (hi : i ≤ gs.length) (hj : j ≤ gs.length) (h : Wn e gs i = Wn e gs j) : i = j := by
  have g : ∀ m, m ≤ gs.length → (e :: gs)[m]? = some (Wn e gs m) := by
    intro m hm
    cases m with
    | zero => rfl
    | succ m => rw [Wn_s e gs m hm, List.getElem?_cons_succ, List.getElem?_eq_getElem]
  have h1 := (List.getElem?_eq_some_iff.1 (g i hi))
  have h2 := (List.getElem?_eq_some_iff.1 (g j hj))
  exact (List.getElem_inj hnd).1 (h1.2.trans (h.trans h2.2.symm))
theorem Wn_inj2 {e : Nat} {gs : List Nat} {i j : Nat} (hnd : (e :: gs).Nodup) (hi : i ≤ gs.length) (hj : j ≤ gs.length) (h : Wn e gs (i + 1) = Wn e gs (j + 1)) : i = j := by
  rcases Nat.lt_or_ge i gs.length with h1 | h1
  · rcases Nat.lt_or_ge j gs.length with h2 | h2
    · have := Wn_inj hnd (i := i + 1) (j := j + 1) (by omega) (by omega) h; omega
    · have e2 : j = gs.length := by omega
      subst e2
      rw [Wn_n] at h
      have := Wn_zero hnd (j := i + 1) (by omega) h; omega
  · have e1 : i = gs.length := by omega
    subst e1
    rw [Wn_n] at h
    rcases Nat.lt_or_ge j gs.length with h2 | h2
    · have := Wn_zero hnd (j := j + 1) (by omega) h.symm; omega
    · omega
theorem Wn_cons (e x : Nat) (gs : List Nat) (j : Nat) : Wn e (x :: gs) (j + 2) = Wn e gs (j + 1) := rfl
theorem Wn_cons1 (e x : Nat) (gs : List Nat) : Wn e (x :: gs) 1 = x := rfl
theorem Wn_erase (e : Nat) (gs : List Nat) (i j : Nat) (hi : i < gs.length) (hj : j ≤ gs.length) : Wn e (gs.eraseIdx i) j = if j ≤ i then Wn e gs j else Wn e gs (j + 1) := by
  have hl : (gs.eraseIdx i).length = gs.length - 1 := List.length_eraseIdx_of_lt hi
  cases j with
  | zero => rw [if_pos (Nat.zero_le _)]; rfl
  | succ j =>
    rcases Nat.lt_or_ge j (gs.length - 1) with h1 | h1
    · rw [Wn_s _ _ _ (by omega), List.getElem_eraseIdx]
      by_cases h2 : j < i
      · rw [dif_pos h2, if_pos (by omega), Wn_s _ _ _ (by omega)]
      · rw [dif_neg h2, if_neg (by omega), Wn_s _ _ _ (by omega)]
    · have e1 : j = (gs.eraseIdx i).length := by omega
      have e2 : Wn e (gs.eraseIdx i) (j + 1) = e := by rw [e1]; exact Wn_n e _
      rw [e2, if_neg (by omega)]
      have e3 : j + 1 = gs.length := by omega
      rw [e3]; exact (Wn_n e gs).symm
theorem unlink_lk {f : Nat → Nd} {e : Nat} {gs : List Nat} {i : Nat} (hnd : (e :: gs).Nodup) (hlk : Lk f e gs) (hi : i < gs.length) : Lk (unl f (Wn e gs (i + 1)) (Wn e gs i) (Wn e gs (i + 1 + 1))) e (gs.eraseIdx i) := by
  have hl : (gs.eraseIdx i).length = gs.length - 1 := List.length_eraseIdx_of_lt hi
  intro j hj
  rw [hl] at hj
  rw [Wn_erase e gs i j hi (by omega), Wn_erase e gs i (j + 1) hi (by omega)]
  have keyB : ∀ u, u ≤ gs.length → u ≠ i → (unl f (Wn e gs (i + 1)) (Wn e gs i) (Wn e gs (i + 1 + 1)) (Wn e gs u)).b = (f (Wn e gs u)).b := by
    intro u hu hne
    unfold unl
    rw [setA_b, setB_ne _ _ _ _ (fun h => hne (Wn_inj hnd hu (by omega) h))]
  have keyA : ∀ u, u ≤ gs.length → u ≠ i + 1 → (unl f (Wn e gs (i + 1)) (Wn e gs i) (Wn e gs (i + 1 + 1)) (Wn e gs (u + 1))).a = (f (Wn e gs (u + 1))).a := by
    intro u hu hne
    unfold unl
    rw [setA_ne _ _ _ _ (fun h => hne (Wn_inj2 hnd hu (by omega) h)), setB_a]
  rcases Nat.lt_trichotomy j i with h | h | h
  · rw [if_pos (by omega), if_pos (by omega), keyB j (by omega) (by omega), keyA j (by omega) (by omega)]
    exact hlk j (by omega)
  · subst h
    rw [if_pos (Nat.le_refl _), if_neg (by omega)]
    unfold unl
    rw [setA_b, setB_b, setA_a]
    exact ⟨rfl, rfl⟩
  · rw [if_neg (by omega), if_neg (by omega), keyB (j + 1) (by omega) (by omega), keyA (j + 1) (by omega) (by omega)]
    exact hlk (j + 1) (by omega)
theorem first_lk {f : Nat → Nd} {e x : Nat} {gs : List Nat} (hnd : (e :: gs).Nodup) (hlk : Lk f e gs) (hx : x ∉ e :: gs) : Lk (frs f x e (Wn e gs 1)) e (x :: gs) := by
  have hne : ∀ u, Wn e gs u ≠ x := fun u h => hx (h ▸ Wn_mem e gs u)
  have hxe : x ≠ e := fun h => hx (h ▸ List.mem_cons_self ..)
  intro j hj
  simp only [List.length_cons] at hj
  unfold frs
  rcases j with _ | _ | j
  · show (_ : Value) = PP x ∧ _
    rw [setA_b, Wn_0, setB_b]
    refine ⟨rfl, ?_⟩
    show (setA (setB (setB (setA f x (PP e)) x (PP (Wn e gs 1))) e (PP x)) (Wn e gs 1) (PP x) x).a = PP e
    rw [setA_ne _ _ _ _ (fun h => hne 1 h.symm), setB_a, setB_a, setA_a]
  · show (setA (setB (setB (setA f x (PP e)) x (PP (Wn e gs 1))) e (PP x)) (Wn e gs 1) (PP x) x).b = PP (Wn e gs 1) ∧ (setA (setB (setB (setA f x (PP e)) x (PP (Wn e gs 1))) e (PP x)) (Wn e gs 1) (PP x) (Wn e gs 1)).a = PP x
    rw [setA_b, setB_ne _ _ _ _ hxe, setB_b, setA_a]
    exact ⟨rfl, rfl⟩
  · rw [Wn_cons, Wn_cons]
    rw [setA_b, setB_ne _ _ _ _ (fun h => by have := Wn_zero hnd (j := j + 1) (by omega) h; omega), setB_ne _ _ _ _ (hne _), setA_b,
      setA_ne _ _ _ _ (fun h => by have := Wn_inj2 hnd (i := j + 1) (j := 0) (by omega) (by omega) h; omega), setB_a, setB_a, setA_ne _ _ _ _ (hne _)]
    exact hlk (j + 1) (by omega)
theorem lk_congr {f f' : Nat → Nd} {e : Nat} {gs : List Nat} (hlk : Lk f e gs) (h : ∀ g ∈ e :: gs, (f' g).a = (f g).a ∧ (f' g).b = (f g).b) : Lk f' e gs := by
  intro j hj
  rw [(h _ (Wn_mem e gs j)).2, (h _ (Wn_mem e gs (j + 1))).1]
  exact hlk j hj

end Go.Proofs.YtnilejkfbcnkkaaGreatDoor.V
end
section
set_option maxRecDepth 100000
set_option maxHeartbeats 4000000
namespace Go.Proofs.YtnilejkfbcnkkaaGreatDoor.V
open Go Go.RowKit
attribute [local irreducible] Yields cl pur rowc sv exC fo

def nodB (il : List Nat) (f : Nat → Nd) : Blks := il.map fun g => (g, Obj.cells (f g).c 248 (0, 0))
/-- nodes, each in a block of its own -/
def NodesC (il : List Nat) (f : Nat → Nd) : Chunk := ⟨44, fun B => B = nodB il f⟩
theorem nodB_fst (il : List Nat) (f : Nat → Nd) : (nodB il f).map Prod.fst = il := by
  unfold nodB; rw [List.map_map]; exact (List.map_congr_left (fun _ _ => rfl)).trans (List.map_id _)
theorem nodB_set {il : List Nat} {f f' : Nat → Nd} {g i : Nat} (hnd : il.Nodup) (hi : il[i]? = some g) (hf : ∀ k, k ≠ g → f' k = f k) : (nodB il f).set i (g, Obj.cells (f' g).c 248 (0, 0)) = nodB il f' := by
  apply List.ext_getElem?
  intro j
  have hil : i < il.length := (List.getElem?_eq_some_iff.1 hi).1
  rw [List.getElem?_set]
  by_cases e : i = j
  · subst e
    rw [if_pos rfl, if_pos (by simpa [nodB] using hil)]
    simp [nodB, hi]
  · rw [if_neg e]
    simp only [nodB, List.getElem?_map]
    cases hj : il[j]? with
    | none => rfl
    | some u =>
      have hne : u ≠ g := by
        rintro rfl
        have h1 := (List.getElem?_eq_some_iff.1 hi)
        have h2 := (List.getElem?_eq_some_iff.1 hj)
        exact e ((List.getElem_inj hnd).1 (h1.2.trans h2.2.symm))
      simp [hf u hne]
section
variable {n : Fp} {w0 w w' : World} {S : Nat → Prop} {X : Post} {R : Regs} {L K : Hp} {ks : List Fr} {kd : Kd} {ops : Array Oper} {rest : List Oper} {dst : Option Tmp} {ty : TypeId} {pos : String} {after : Array Go.Edge} {gd : Option (Nat × Bool)} {il : List Nat} {f f' : Nat → Nd} {g j : Nat} {v : Value}
theorem St.nd_at (hw : St w0 S L w) (hm : NodesC il f ∈ L) (hg : g ∈ il) : w.heap[g]? = some (.cells (f g).c 248 (0, 0)) := by
  obtain ⟨B, hs, hw⟩ := hw
  obtain ⟨B1, h1, h2⟩ := Sat.mem hm hs
  have h1 : B1 = nodB il f := h1
  subst h1
  exact hw.at_ (g, _) (h2 _ (List.mem_map.2 ⟨g, hg, rfl⟩))
theorem St.nd_nodup (hw : St w0 S L w) (hm : NodesC il f ∈ L) : il.Nodup := by
  obtain ⟨L1, L2, rfl⟩ := List.append_of_mem hm
  obtain ⟨B, ⟨B1, B2, rfl, h1, h2⟩, hw⟩ := hw.ent (.perm (List.perm_middle))
  have h1 : B1 = nodB il f := h1
  subst h1
  have := hw.nd
  rw [List.map_append, nodB_fst, List.nodup_append] at this
  exact this.1
theorem St.nd_write (hw : St w0 S (NodesC il f :: K) w) (hg : g ∈ il) (hf : ∀ k, k ≠ g → f' k = f k) (h1 : w'.heap[g]? = some (.cells (f' g).c 248 (0, 0))) (hk : ∀ k, k ≠ g → w'.heap[k]? = w.heap[k]?) (hs : w'.heap.size = w.heap.size) (ho : w'.os = w.os) (ht : w'.tape = w.tape) (hp : w'.output = w.output) : St w0 S (NodesC il f' :: K) w' := by
  have hnd := hw.nd_nodup (List.mem_cons_self ..)
  obtain ⟨B, ⟨B1, B2, rfl, h1', h2⟩, hw⟩ := hw
  have h1' : B1 = nodB il f := h1'
  subst h1'
  obtain ⟨i, hi⟩ := List.getElem?_of_mem hg
  have hil := (List.getElem?_eq_some_iff.1 hi).1
  have := hw.write i (g := g) (o := .cells (f g).c 248 (0, 0)) (o' := .cells (f' g).c 248 (0, 0)) (by rw [List.getElem?_append_left (by simpa [nodB] using hil)]; simp [nodB, hi]) h1 hk hs ho ht hp
  rw [List.set_append_left _ _ (by simpa [nodB] using hil), nodB_set hnd hi hf] at this
  exact ⟨_, ⟨_, B2, rfl, rfl, h2⟩, this⟩
theorem y_nd {x : Operand} {t : TypeId} [hu : SC Tryz.prog t] (hx : ev R x = PP g j) (hm : NodesC il f ∈ L) (hg : g ∈ il) (hv : (f g).c[j]? = some v) : Yields Tryz.prog w0 S L ⟨dst, .load t x, ty, pos, after, gd⟩ R v :=
  let ⟨_, h1, h2⟩ := hu.h
  y_load hx h1 h2 fun w hw i u hi => by
    have h3 := hw.nd_at hm hg
    simp only [World.cell?, h3]
    cases i with
    | zero => simp at hi; subst hi; simpa using hv
    | succ i => simp at hi
theorem w_nd {t : TypeId} {x y : Operand} {L' : Hp} [hz : SZ Tryz.prog t 1] (hx : ev R x = PP g j) (hy : ev R y = v) (ho : OneV v) (hg : g ∈ il) (hc : (f g).c.setIfInBounds j v = (f' g).c) (hj : j < 4) (hf : ∀ k, k ≠ g → f' k = f k) (hup : Upd L (NodesC il f) (NodesC il f') L')
    (h : Gl n w0 S X (.ops ops ks rest) R L') : Gl n w0 S X (.ops ops ks (⟨none, .store t x y, ty, pos, after, none⟩ :: rest)) R L := by
  unfold Gl at *
  obtain ⟨K, p, q⟩ := hup
  refine o_unit rfl rfl fun w hw => ?_
  have hw := hw.ent (.perm p)
  have hh := hw.nd_at (List.mem_cons_self ..) hg
  have hcs : v.cells.size = 1 := by rw [ho.c]; rfl
  have hc4 : (f g).c.size = 4 := rfl
  have hrun := run_store (P := Tryz.prog) (t := t) (v := v) hh (by rw [hz.h, hcs]) (off := j) (by rw [hcs, hc4]; omega) (by rw [ho.c]; intro u hu; simp at hu; subst hu; exact ho.h)
  have e : ((f g).c.toList.take j ++ v.cells.toList ++ (f g).c.toList.drop (j + v.cells.size)).toArray = (f' g).c := by
    rw [hcs, ho.c, ← hc]
    apply Array.toList_inj.1
    simp only [List.toList_toArray, Array.toList_setIfInBounds]
    have hl : (f g).c.toList.length = 4 := by simpa using hc4
    rw [List.set_eq_take_append_cons_drop, if_pos (by omega)]
    simp
  rw [e] at hrun
  refine ⟨w.setRow g (f' g).c, L', ?_, ?_, h⟩
  · simp [execOp, hx, hy, Instr.storeAt, Instr.sureAddr, hrun]
  · exact (hw.nd_write hg hf (setRow_heap w g (f g).c (f' g).c 248 (0, 0) hh) (fun k hk => setRow_other w g k _ hk) (by simp) rfl rfl rfl).ent (.perm q)
theorem run_eqlP {t te : TypeId} {j : TypeInfo} {a b : Nat} {ca cb : Array Value} {ta tb : TypeId} (w : World) (hp : Tryz.prog.underlying t = some (.pointer te)) (hte : Tryz.prog.info? te = some j) (hsz : j.size ≠ 0)
    (ha : w.heap[a]? = some (.cells ca ta (0, 0))) (hb : w.heap[b]? = some (.cells cb tb (0, 0))) : (binOp .eql t (PP a) (PP b)).run Tryz.prog w = .ok (.bool (decide (a = b))) w := by
  by_cases e : a = b
  · subst e
    rw [decide_eq_true rfl]
    exact run_eql_ptr_same w _ hp hte
  · rw [decide_eq_false e]
    exact run_eql_ptr_other w hp hte hsz (by intro h; injection h with h; exact e h) ha hb
theorem info248 : ∃ j, Tryz.prog.info? 248 = some j ∧ j.size ≠ 0 := by
  have hz := (z248).h
  cases h : Tryz.prog.info? 248 with
  | none => simp [h] at hz
  | some j => exact ⟨j, rfl, by simp [h] at hz; omega⟩
theorem y_eqP {yt : TypeId} {x y : Operand} {a b : Nat} (hx : ev R x = PP a) (hy : ev R y = PP b) (hm : NodesC il f ∈ L) (ha : a ∈ il) (hb : b ∈ il) : Yields Tryz.prog w0 S L ⟨dst, .binOp .eql 246 x y yt, ty, pos, after, gd⟩ R (.bool (decide (a = b))) :=
  y_sem fun w hw => by
    obtain ⟨j, hj, hjs⟩ := info248
    have h1 := run_eqlP w (t := 246) Tryz.underlying246 hj hjs (hw.nd_at hm ha) (hw.nd_at hm hb)
    simp only [PP] at hx hy h1
    simp [execOp, hx, hy, eqGuard_ptr, h1]
theorem y_neP {yt : TypeId} {x y : Operand} {a b : Nat} (hx : ev R x = PP a) (hy : ev R y = PP b) (hm : NodesC il f ∈ L) (ha : a ∈ il) (hb : b ∈ il) : Yields Tryz.prog w0 S L ⟨dst, .binOp .neq 246 x y yt, ty, pos, after, gd⟩ R (.bool (decide (a ≠ b))) :=
  y_sem fun w hw => by
    obtain ⟨j, hj, hjs⟩ := info248
    have h1 := run_eqlP w (t := 246) Tryz.underlying246 hj hjs (hw.nd_at hm ha) (hw.nd_at hm hb)
    simp only [PP] at hx hy h1
    have e1 : ∀ u v, binOp .eql 246 (.pointer u) (.pointer v) = (do pure (Value.bool (← Op.equal 246 (.pointer u) (.pointer v))) : Sem Value) := fun _ _ => rfl
    have e2 : ∀ u v, binOp .neq 246 (.pointer u) (.pointer v) = (do pure (Value.bool (!(← Op.equal 246 (.pointer u) (.pointer v)))) : Sem Value) := fun _ _ => rfl
    rw [e1] at h1
    have h2 : (Op.equal 246 (.pointer (some ⟨a, 0, none⟩)) (.pointer (some ⟨b, 0, none⟩))).run Tryz.prog w = .ok (decide (a = b)) w := by
      simp only [Sem.run_bind] at h1
      cases hq : (Op.equal 246 (.pointer (some ⟨a, 0, none⟩)) (.pointer (some ⟨b, 0, none⟩))).run Tryz.prog w with
      | halt _ _ => simp [hq, Result.andThen] at h1
      | ok v w1 =>
        simp [hq, Result.andThen] at h1
        obtain ⟨h3, h4⟩ := h1
        rw [h4, h3]
    simp [execOp, hx, hy, eqGuard_ptr, e2, h2, Result.andThen]
/-- a new node is none of the others -/
theorem g_ndnew {c : List Value} {t : TypeId} (hk : kd.plain = true) (hs : Sel (cl g c t) L K) (hm : NodesC il f ∈ K) (h : g ∉ il → Gl n w0 S X kd R L) : Gl n w0 S X kd R L := by
  have key : ∀ Y : Act → World → Prop, (g ∉ il → G n w0 S Y R L) → G n w0 S Y R L := fun Y h a w ha hw => by
    refine h ?_ a w ha hw
    intro hg
    obtain ⟨L1, L2, rfl⟩ := List.append_of_mem hm
    obtain ⟨B, ⟨B1, B2, rfl, h1, B3, B4, rfl, h3, h4⟩, hw⟩ := (hw.ent (.perm hs)).ent (.perm (List.Perm.cons _ (List.perm_middle)))
    have h3 : B3 = nodB il f := h3
    unfold cl at h1
    have h1 : B1 = _ := h1
    subst h1 h3
    have := hw.nd
    rw [List.map_append, List.map_append, nodB_fst, List.nodup_append] at this
    exact this.2.2 g (by simp) g (by simp [hg]) rfl
  cases kd <;> first | (cases hk; done) | (unfold Gl at *; exact key _ h)
theorem ent_ndput {x : Nd} {c : List Value} (hc : c.toArray = x.c) (hg : g ∉ il) : Ent (cl g c 248 :: NodesC il f :: K) (NodesC (g :: il) (putN f g x) :: K) := by
  rintro B ⟨B1, B2, rfl, h1, B3, B4, rfl, h3, h4⟩
  have h3 : B3 = nodB il f := h3
  unfold cl at h1
  have h1 : B1 = _ := h1
  subst h1 h3
  refine ⟨nodB (g :: il) (putN f g x) ++ B4, [], ?_, _, B4, rfl, rfl, h4⟩
  rw [List.append_nil]
  have : nodB (g :: il) (putN f g x) = (g, .cells c.toArray 248 (0, 0)) :: nodB il f := by
    unfold nodB
    rw [List.map_cons]
    unfold putN
    rw [if_pos rfl, hc]
    congr 1
    exact List.map_congr_left fun i hi => by rw [if_neg (by rintro rfl; exact hg hi)]
  rw [this]
  exact .refl _
end
end Go.Proofs.YtnilejkfbcnkkaaGreatDoor.V
end
section
set_option maxRecDepth 100000
set_option maxHeartbeats 4000000
namespace Go.Proofs.YtnilejkfbcnkkaaGreatDoor.V
open Go Go.RowKit
attribute [local irreducible] Yields cl pur rowc sv exC fo mpC NodesC

section
variable {il gs : List Nat} {f : Nat → Nd} {gl gm en x p q h : Nat} {r : Nat} {mp : List (Nat × Nat)}
abbrev liL (r gm en : Nat) : List Value := [I r, .map (some gm), PP en]
theorem f232 : CtV Tryz.prog 232 [PP gl] [cl gl (liL r gm en) 251] (.bool false) := by
  refine w_ct Tryz.func232 rfl Tryz.ntmps232 rfl fun w B => ?_
  refine W ?_
  refine w_y rfl rfl rfl (y_mN rfl rfl) ?_
  refine W ?_
  exact fin ⟨_, rfl, rfl, rfl⟩
theorem f233 (hx : x ∈ il) (hp : p ∈ il) (hq : q ∈ il) (ha : (f x).a = PP p) (hb : (f x).b = PP q) : Ct Tryz.prog 233 [PP x] [NodesC il f] (fun v L => L = [NodesC il (unl f x p q)]) := by
  refine w_ct Tryz.func233 rfl Tryz.ntmps233 rfl fun w B => ?_
  refine W ?_
  refine w_qy rfl rfl (y_nd rfl mem_ hx (nd2 ha)) ?_
  refine W ?_
  refine w_qy rfl rfl (y_nd rfl mem_ hx (nd3 hb)) ?_
  refine W ?_
  refine w_qy rfl rfl (y_nd rfl mem_ hx (nd3 hb)) ?_
  refine W ?_
  refine w_qy rfl rfl (y_nd rfl mem_ hx (nd2 ha)) ?_
  refine W ?_
  refine w_nd (v := PP q) (f' := setB f p (PP q)) rfl rfl inferInstance hp (setB_c f p (PP q)) (by omega) (fun k hk => setB_ne _ _ _ _ hk) upd_ ?_
  refine W ?_
  refine w_nd (v := PP p) (f' := setA (setB f p (PP q)) q (PP p)) rfl rfl inferInstance hq (setA_c _ q (PP p)) (by omega) (fun k hk => setA_ne _ _ _ _ hk) upd_ ?_
  refine W ?_
  exact w_ends rfl (finN (fin ⟨_, rfl, rfl⟩))
theorem f234 (hx : x ∈ il) (he : en ∈ il) (hh : h ∈ il) (hne : en ≠ x) (hb : (f en).b = PP h) : Ct Tryz.prog 234 [PP gl, PP x] [cl gl (liL r gm en) 251, NodesC il f] (fun v L => L = [cl gl (liL r gm en) 251, NodesC il (frs f x en h)]) := by
  refine w_ct Tryz.func234 rfl Tryz.ntmps234 rfl fun w B => ?_
  refine W ?_
  first | refine w_ke rfl (by decide +kernel) rfl (qn rfl (y_nd rfl mem_ he (nd3 hb))) ?_ | refine w_kl rfl (by decide +kernel) rfl (qn rfl (y_nd rfl mem_ he (nd3 hb))) ?_
  refine W ?_
  refine w_nd (v := PP en) (f' := setA f x (PP en)) rfl rfl inferInstance hx (setA_c f x (PP en)) (by omega) (fun k hk => setA_ne _ _ _ _ hk) upd_ ?_
  refine W ?_
  refine w_nd (v := PP h) (f' := setB (setA f x (PP en)) x (PP h)) rfl rfl inferInstance hx (setB_c _ x (PP h)) (by omega) (fun k hk => setB_ne _ _ _ _ hk) upd_ ?_
  refine W ?_
  first | refine w_ke rfl (by decide +kernel) rfl (qn rfl (y_nd rfl mem_ hx (nd2 (by rw [setB_a, setA_a])))) ?_ | refine w_kl rfl (by decide +kernel) rfl (qn rfl (y_nd (v := PP en) rfl mem_ hx (nd2 (by rw [setB_a, setA_a])))) ?_
  refine W ?_
  first | refine w_ke rfl (by decide +kernel) rfl (qn rfl (y_nd (v := PP h) rfl mem_ hx (nd3 (by rw [setB_b])))) ?_ | refine w_kl rfl (by decide +kernel) rfl (qn rfl (y_nd (v := PP h) rfl mem_ hx (nd3 (by rw [setB_b])))) ?_
  refine W ?_
  refine w_nd (v := PP x) (f' := setB (setB (setA f x (PP en)) x (PP h)) en (PP x)) rfl rfl inferInstance he (setB_c _ en (PP x)) (by omega) (fun k hk => setB_ne _ _ _ _ hk) upd_ ?_
  refine W ?_
  refine w_nd (v := PP x) (f' := setA (setB (setB (setA f x (PP en)) x (PP h)) en (PP x)) h (PP x)) rfl rfl inferInstance hh (setA_c _ h (PP x)) (by omega) (fun k hk => setA_ne _ _ _ _ hk) upd_ ?_
  refine W ?_
  exact w_ends rfl (finN (fin ⟨_, rfl, rfl⟩))
theorem f220 {k : Nat} (hx : x ∈ il) (hp : p ∈ il) (hq : q ∈ il) (ha : (f x).a = PP p) (hb : (f x).b = PP q) (hk : (f x).k = k) : Ct Tryz.prog 220 [PP gl, PP x] [cl gl (liL r gm en) 251, mpC (fun g => PP g) gm mp, NodesC il f] (fun v L => L = [cl gl (liL r gm en) 251, mpC (fun g => PP g) gm (cutL mp k), NodesC il (unl f x p q)]) := by
  refine w_ct Tryz.func220 rfl Tryz.ntmps220 rfl fun w B => ?_
  refine W ?_
  refine cl' (f233 hx hp hq ha hb) ?_
  rintro _ _ rfl
  refine W ?_
  refine w_qy rfl rfl (y_nd rfl mem_ hx (nd0 ((unl_k ..).trans hk))) ?_
  refine W ?_
  refine w_md rfl rfl rfl upd_ ?_
  refine W ?_
  exact w_ends rfl (finN (fin ⟨_, rfl, rfl⟩))
theorem f219 {k : Nat} : CtV Tryz.prog 219 [PP gl, I k] [cl gl (liL r gm en) 251, mpC (fun g => PP g) gm mp] (match lkp mp k with | some g => T [PP g, I 0] | none => T [PN, I 7]) := by
  refine w_ct Tryz.func219 rfl Tryz.ntmps219 rfl fun w B => ?_
  refine W ?_
  refine cv (f232 (gl := gl) (r := r) (gm := gm) (en := en)) ?_
  refine W ?_
  refine w_y rfl rfl rfl (y_lk rfl rfl mem_) ?_
  cases hk : lkp mp k
  · refine W ?_
    exact fin ⟨_, rfl, rfl, rfl⟩
  · refine W ?_
    exact fin ⟨_, rfl, rfl, rfl⟩
theorem f202 : CtV Tryz.prog 202 [PP gl] [cl gl (liL r gm en) 251] (I r) := by
  refine w_ct Tryz.func202 rfl Tryz.ntmps202 rfl fun w B => ?_
  refine W ?_
  refine cv (f232 (gl := gl) (r := r) (gm := gm) (en := en)) ?_
  refine W ?_
  exact fin ⟨_, rfl, rfl, rfl⟩
end
end Go.Proofs.YtnilejkfbcnkkaaGreatDoor.V
end
section
set_option maxRecDepth 100000
set_option maxHeartbeats 4000000
namespace Go.Proofs.YtnilejkfbcnkkaaGreatDoor.V
open Go Go.RowKit
attribute [local irreducible] Yields cl pur rowc sv exC fo mpC NodesC

structure LI (en : Nat) (il gs : List Nat) (f : Nat → Nd) (mp : List (Nat × Nat)) (r : Nat) (ks : List (Nat × Bool)) : Prop where
  lk : Lk f en gs
  nd : (en :: gs).Nodup
  sub : ∀ x ∈ en :: gs, x ∈ il
  hk : ks = gs.map fun g => ((f g).k, (f g).p)
  pm : mp.Perm (gs.map fun g => ((f g).k, g))
  kd : (ks.map Prod.fst).Nodup
  le : ks.length ≤ r
section
variable {en r : Nat} {il gs : List Nat} {f : Nat → Nd} {mp : List (Nat × Nat)} {ks : List (Nat × Bool)}
theorem LI.klen (h : LI en il gs f mp r ks) : ks.length = gs.length := by rw [h.hk, List.length_map]
theorem LI.mlen (h : LI en il gs f mp r ks) : mp.length = gs.length := by rw [h.pm.length_eq, List.length_map]
theorem LI.mnd (h : LI en il gs f mp r ks) : (mp.map Prod.fst).Nodup := by
  refine (h.pm.map Prod.fst).nodup_iff.2 ?_
  have := h.kd
  rw [h.hk, List.map_map] at this
  rw [List.map_map]; exact this
theorem LI.get (h : LI en il gs f mp r ks) {k x : Nat} (hl : lkp mp k = some x) : ∃ i, ∃ hi : i < gs.length, gs[i] = x ∧ (f x).k = k := by
  have := h.pm.mem_iff.1 (lkp_mem hl)
  obtain ⟨g, hg, e⟩ := List.mem_map.1 this
  injection e with e1 e2
  subst e2
  obtain ⟨i, hi⟩ := List.getElem?_of_mem hg
  obtain ⟨h1, h2⟩ := List.getElem?_eq_some_iff.1 hi
  exact ⟨i, h1, h2, e1⟩
theorem LI.has (h : LI en il gs f mp r ks) {k x : Nat} (hl : lkp mp k = some x) : k ∈ ks.map Prod.fst := by
  obtain ⟨i, hi, e, hk⟩ := h.get hl
  rw [h.hk, List.map_map]
  exact List.mem_map.2 ⟨gs[i], List.getElem_mem _, by simp [e, hk]⟩
theorem LI.hasnt (h : LI en il gs f mp r ks) {k : Nat} (hl : lkp mp k = none) : k ∉ ks.map Prod.fst := by
  rw [h.hk, List.map_map]
  intro hm
  obtain ⟨g, hg, e⟩ := List.mem_map.1 hm
  exact lkp_none.1 hl ((f g).k, g) (h.pm.mem_iff.2 (List.mem_map.2 ⟨g, hg, rfl⟩)) e
theorem mem_erase {gs : List Nat} {i : Nat} (hnd : gs.Nodup) (hi : i < gs.length) : gs[i] ∉ gs.eraseIdx i := by
  intro hm
  obtain ⟨j, hj⟩ := List.getElem?_of_mem hm
  rw [List.getElem?_eraseIdx] at hj
  split at hj
  · have h1 := List.getElem?_eq_some_iff.1 hj
    have := (List.getElem_inj hnd).1 (h1.2.trans rfl); omega
  · have h1 := List.getElem?_eq_some_iff.1 hj
    have := (List.getElem_inj hnd).1 (h1.2.trans rfl); omega
theorem map_erase' {α β : Type} (f : α → β) : ∀ (l : List α) (i : Nat), (l.eraseIdx i).map f = (l.map f).eraseIdx i
  | [], i => by simp
  | a :: l, 0 => rfl
  | a :: l, i + 1 => by simp [List.eraseIdx_cons_succ, map_erase' f l i]
/-- a node leaves the ring -/
theorem LI.cut (h : LI en il gs f mp r ks) {i : Nat} (hi : i < gs.length) :
    LI en il (gs.eraseIdx i) (unl f gs[i] (Wn en gs i) (Wn en gs (i + 1 + 1))) (cutL mp (f gs[i]).k) r (ks.eraseIdx i) ∧ gs[i] ∉ en :: gs.eraseIdx i := by
  have hW : Wn en gs (i + 1) = gs[i] := Wn_s en gs i hi
  have hlk := unlink_lk h.nd h.lk hi
  rw [hW] at hlk
  have hgnd := (List.nodup_cons.1 h.nd).2
  have hno := mem_erase hgnd hi
  refine ⟨⟨hlk, ?_, ?_, ?_, ?_, ?_, ?_⟩, ?_⟩
  · exact h.nd.sublist (List.Sublist.cons_cons _ (List.eraseIdx_sublist _ _))
  · intro x hx
    rcases List.mem_cons.1 hx with rfl | hx
    · exact h.sub _ (List.mem_cons_self ..)
    · exact h.sub _ (List.mem_cons_of_mem _ ((List.eraseIdx_sublist _ _).subset hx))
  · rw [h.hk, ← map_erase']
    exact List.map_congr_left fun g _ => by rw [unl_k, unl_p]
  · have h1 : (gs.map fun g => ((f g).k, g)).Perm (((f gs[i]).k, gs[i]) :: (gs.eraseIdx i).map fun g => ((f g).k, g)) := by
      have := perm_erase (l := gs) (i := i) (List.getElem?_eq_getElem hi)
      exact this.map _
    have h2 := h.pm.trans h1
    have h3 : (cutL mp (f gs[i]).k).Perm (cutL (((f gs[i]).k, gs[i]) :: (gs.eraseIdx i).map fun g => ((f g).k, g)) (f gs[i]).k) := h2.filter _
    have h4 : cutL (((f gs[i]).k, gs[i]) :: (gs.eraseIdx i).map fun g => ((f g).k, g)) (f gs[i]).k = (gs.eraseIdx i).map fun g => ((f g).k, g) := by
      unfold cutL
      rw [List.filter_cons_of_neg (by simp), List.filter_eq_self]
      intro p hp
      obtain ⟨g, hg, rfl⟩ := List.mem_map.1 hp
      have hnd2 := (h2.map Prod.fst).nodup_iff.1 h.mnd
      simp only [List.map_cons, List.nodup_cons] at hnd2
      simp only [decide_eq_true_eq, ne_eq]
      intro e
      exact hnd2.1 (List.mem_map.2 ⟨_, hp, e⟩)
    rw [h4] at h3
    refine h3.trans (List.Perm.of_eq (List.map_congr_left fun g _ => by rw [unl_k]))
  · exact h.kd.sublist ((List.eraseIdx_sublist _ _).map _)
  · exact Nat.le_trans (List.eraseIdx_sublist _ _).length_le h.le
  · intro hm
    rcases List.mem_cons.1 hm with e | hm
    · exact (List.nodup_cons.1 h.nd).1 (e ▸ List.getElem_mem hi)
    · exact hno hm
/-- a node comes first -/
theorem LI.put (h : LI en il gs f mp r ks) {x : Nat} {mp' : List (Nat × Nat)} (hx : x ∉ en :: gs) (hxi : x ∈ il) (hm : mp'.Perm (((f x).k, x) :: mp)) (hk : (f x).k ∉ ks.map Prod.fst) (hle : ks.length + 1 ≤ r) :
    LI en il (x :: gs) (frs f x en (Wn en gs 1)) mp' r (((f x).k, (f x).p) :: ks) := by
  refine ⟨first_lk h.nd h.lk hx, ?_, ?_, ?_, ?_, ?_, by simpa using hle⟩
  · have h1 := List.nodup_cons.1 h.nd
    simp only [List.mem_cons, not_or] at hx
    simp only [List.nodup_cons, List.mem_cons, not_or]
    exact ⟨⟨fun e => hx.1 e.symm, h1.1⟩, hx.2, h1.2⟩
  · intro y hy
    rcases List.mem_cons.1 hy with rfl | hy
    · exact h.sub _ (List.mem_cons_self ..)
    · rcases List.mem_cons.1 hy with rfl | hy
      · exact hxi
      · exact h.sub _ (List.mem_cons_of_mem _ hy)
  · rw [List.map_cons, frs_k, frs_p, h.hk]
    congr 1
    exact List.map_congr_left fun g _ => by rw [frs_k, frs_p]
  · refine hm.trans ?_
    rw [List.map_cons, frs_k]
    refine List.Perm.cons _ (h.pm.trans (List.Perm.of_eq (List.map_congr_left fun g _ => by rw [frs_k])))
  · simp only [List.map_cons, List.nodup_cons]
    exact ⟨hk, h.kd⟩
theorem LI.congr (h : LI en il gs f mp r ks) {f' : Nat → Nd} {il' : List Nat} (hf : ∀ g ∈ en :: gs, f' g = f g) (hi : ∀ x ∈ il, x ∈ il') : LI en il' gs f' mp r ks := by
  refine ⟨lk_congr h.lk fun g hg => by rw [hf g hg]; exact ⟨rfl, rfl⟩, h.nd, fun x hx => hi x (h.sub x hx), ?_, ?_, h.kd, h.le⟩
  · rw [h.hk]; exact List.map_congr_left fun g hg => by rw [hf g (List.mem_cons_of_mem _ hg)]
  · refine h.pm.trans (List.Perm.of_eq (List.map_congr_left fun g hg => by rw [hf g (List.mem_cons_of_mem _ hg)]))
end
/-- a list of keys, the first one first -/
def LruO (gl r : Nat) (ks : List (Nat × Bool)) : Chunk := exC 45 (fun x : Nat × Nat × List Nat × List Nat × (Nat → Nd) × List (Nat × Nat) =>
  [pur (LI x.2.1 x.2.2.1 x.2.2.2.1 x.2.2.2.2.1 x.2.2.2.2.2 r ks), cl gl (liL r x.1 x.2.1) 251, mpC (fun g => PP g) x.1 x.2.2.2.2.2, NodesC x.2.2.1 x.2.2.2.2.1])
end Go.Proofs.YtnilejkfbcnkkaaGreatDoor.V
end
section
set_option maxRecDepth 100000
set_option maxHeartbeats 4000000
namespace Go.Proofs.YtnilejkfbcnkkaaGreatDoor.V
open Go Go.RowKit
attribute [local irreducible] Yields cl pur rowc sv exC fo mpC NodesC

theorem ent_nd0 {f : Nat → Nd} {L K : Hp} (h : Ent L K) : Ent L (NodesC [] f :: K) := Ent.fold (M := []) (fun B hB => by unfold NodesC; exact hB) h
def pinL (ks : List (Nat × Bool)) (k : Nat) (b : Bool) : List (Nat × Bool) := ks.map fun p => if p.1 = k then (p.1, b) else p
section
variable {gl r k : Nat} {ks : List (Nat × Bool)}
theorem LI.pin {en x : Nat} {il gs : List Nat} {f : Nat → Nd} {mp : List (Nat × Nat)} {b : Bool} (h : LI en il gs f mp r ks) (hl : lkp mp k = some x) : LI en il gs (setP f x b) mp r (pinL ks k b) := by
  obtain ⟨i, hi, hx, hk⟩ := h.get hl
  have hgk : ∀ g ∈ gs, (f g).k = k → g = x := by
    intro g hg e
    obtain ⟨j, hj⟩ := List.getElem?_of_mem hg
    obtain ⟨hj1, hj2⟩ := List.getElem?_eq_some_iff.1 hj
    have hnd := h.kd
    rw [h.hk, List.map_map] at hnd
    have e1 : (gs.map (Prod.fst ∘ fun g => ((f g).k, (f g).p)))[j]'(by simpa using hj1) = (gs.map (Prod.fst ∘ fun g => ((f g).k, (f g).p)))[i]'(by simpa using hi) := by simp [hj2, hx, hk, e]
    have := (List.getElem_inj hnd).1 e1
    subst this
    rw [← hj2, hx]
  refine ⟨lk_congr h.lk fun g hg => ⟨setP_a .., setP_b ..⟩, h.nd, h.sub, ?_, ?_, ?_, by unfold pinL; simpa using h.le⟩
  · unfold pinL
    rw [h.hk, List.map_map]
    refine List.map_congr_left fun g hg => ?_
    simp only [Function.comp]
    by_cases e : (f g).k = k
    · have := hgk g hg e
      subst this
      rw [if_pos e, setP_k, setP_p]
    · have : g ≠ x := by rintro rfl; exact e hk
      rw [if_neg e, setP_ne _ _ _ _ this]
  · refine h.pm.trans (List.Perm.of_eq (List.map_congr_left fun g _ => by rw [setP_k]))
  · have : (pinL ks k b).map Prod.fst = ks.map Prod.fst := by
      unfold pinL
      rw [List.map_map]
      refine List.map_congr_left fun p _ => ?_
      simp only [Function.comp]; split <;> rfl
    rw [this]; exact h.kd
theorem pinL_no {b : Bool} (h : k ∉ ks.map Prod.fst) : pinL ks k b = ks := by
  unfold pinL
  conv => rhs; rw [← List.map_id ks]
  refine List.map_congr_left fun p hp => ?_
  rw [if_neg]; rfl
  rintro rfl; exact h (List.mem_map.2 ⟨p, hp, rfl⟩)
theorem f141 (h1 : 1 ≤ r) (h2 : r ≤ 64) : Ct Tryz.prog 141 [I r] [] (fun v L => ∃ gl, v = T [PP gl, I 0] ∧ L = [LruO gl r []]) := by
  refine w_ct Tryz.func141 rfl Tryz.ntmps141 rfl fun w B => ?_
  refine W ?_
  rw [decide_eq_false (show ¬ ((r : Int) < 1) by omega)]
  refine W ?_
  rw [decide_eq_false (show ¬ ((64 : Int) < r) by omega)]
  refine W1 fun ge => ?_
  refine w_mm (fun g => PP g) rfl fun gm => ?_
  refine W1 fun gl => ?_
  refine finE ⟨_, rfl, gl, rfl, rfl⟩ (ent_ex (gm, ge, [ge], [], putN (fun _ => ⟨0, false, PP ge, PP ge⟩) ge ⟨0, false, PP ge, PP ge⟩, []) (ent_pur ?_ (Ent.sel sel_ (Ent.sel sel_ ?_))))
  · refine ⟨?_, by simp, fun x hx => by simpa using hx, rfl, .refl _, by simp, by simp⟩
    intro i hi
    obtain rfl : i = 0 := by simpa using hi
    unfold putN
    constructor <;> simp [Wn]
  · exact (Ent.sel (show Sel (cl ge [I 0, .bool false, PP ge, PP ge] 248) _ _ from sel_) (ent_nd0 ent_)).trans (ent_ndput (x := ⟨0, false, PP ge, PP ge⟩) rfl (by simp))
theorem f208 {b : Bool} : Ct Tryz.prog 208 [PP gl, I k, .bool b] [LruO gl r ks] (fun v L => (∃ e : Int, v = .int .i64 e) ∧ L = [LruO gl r (pinL ks k b)]) := by
  refine w_ct Tryz.func208 rfl Tryz.ntmps208 rfl fun w B => ?_
  refine g_ex rfl Sel.hd fun ⟨gm, en, il, gs, f, mp⟩ => ?_
  refine g_pure rfl Sel.hd fun h => ?_
  dsimp only at h
  have h219 := f219 (gl := gl) (r := r) (gm := gm) (en := en) (mp := mp) (k := k)
  refine W ?_
  refine cv h219 ?_
  cases hl : lkp mp k with
  | none =>
    refine W ?_
    rw [pinL_no (h.hasnt hl)]
    exact finE ⟨_, rfl, ⟨_, rfl⟩, rfl⟩ (ent_ex (gm, en, il, gs, f, mp) (ent_pur h ent_))
  | some x =>
    obtain ⟨i, hi, hx, hk⟩ := h.get hl
    have hxi : x ∈ il := h.sub x (List.mem_cons_of_mem _ (hx ▸ List.getElem_mem hi))
    refine W ?_
    refine w_nd (v := .bool b) (f' := setP f x b) rfl rfl inferInstance hxi (setP_c f x b) (by omega) (fun k hk => setP_ne _ _ _ _ hk) upd_ ?_
    refine W ?_
    exact finE ⟨_, rfl, ⟨_, rfl⟩, rfl⟩ (ent_ex (gm, en, il, gs, setP f x b, mp) (ent_pur (h.pin hl) ent_))
end
end Go.Proofs.YtnilejkfbcnkkaaGreatDoor.V
end
section
set_option maxRecDepth 100000
set_option maxHeartbeats 4000000
namespace Go.Proofs.YtnilejkfbcnkkaaGreatDoor.V
open Go Go.RowKit
attribute [local irreducible] Yields cl pur rowc sv exC fo mpC NodesC

section
variable {gl r k : Nat} {ks : List (Nat × Bool)}
theorem f184 : Ct Tryz.prog 184 [PP gl, I k] [LruO gl r ks] (fun v L => ∃ ks', L = [LruO gl r ks'] ∧
    ((k ∈ ks.map Prod.fst ∧ ks'.Perm ks ∧ v = T [I 0, .bool false, I 0]) ∨ (k ∉ ks.map Prod.fst ∧ ks.length < r ∧ ks' = (k, false) :: ks ∧ v = T [I 0, .bool false, I 0]) ∨
     (k ∉ ks.map Prod.fst ∧ ∃ k0 rest, ks.Perm ((k0, false) :: rest) ∧ ks' = (k, false) :: rest ∧ v = T [I k0, .bool true, I 0]) ∨
     (k ∉ ks.map Prod.fst ∧ ks.length = r ∧ (∀ p ∈ ks, p.2 = true) ∧ ks' = ks ∧ v = T [I 0, .bool false, I 10]))) := by
  refine w_ct Tryz.func184 rfl Tryz.ntmps184 rfl fun w B => ?_
  refine g_ex rfl Sel.hd fun ⟨gm, en, il, gs, f, mp⟩ => ?_
  refine g_pure rfl Sel.hd fun h => ?_
  dsimp only at h
  have h232 := f232 (gl := gl) (r := r) (gm := gm) (en := en)
  have heni := h.sub en (List.mem_cons_self ..)
  have hWi : ∀ j, Wn en gs j ∈ il := fun j => h.sub _ (Wn_mem en gs j)
  refine W ?_
  refine cv h232 ?_
  refine W ?_
  refine w_y rfl rfl rfl (y_lk rfl rfl mem_) ?_
  cases hl : lkp mp k with
  | some x =>
    obtain ⟨i, hi, hx, hk⟩ := h.get hl
    have hW : Wn en gs (i + 1) = x := (Wn_s en gs i hi).trans hx
    have hxi : x ∈ il := h.sub x (List.mem_cons_of_mem _ (hx ▸ List.getElem_mem hi))
    obtain ⟨hcut, hno⟩ := h.cut hi
    rw [hx] at hcut hno
    have ha : (f x).a = PP (Wn en gs i) := by have := (h.lk i (by omega)).2; rwa [hW] at this
    have hb : (f x).b = PP (Wn en gs (i + 1 + 1)) := by have := (h.lk (i + 1) (by omega)).1; rwa [hW] at this
    refine W ?_
    refine cl' (f233 hxi (hWi i) (hWi (i + 1 + 1)) ha hb) ?_
    rintro _ _ rfl
    refine W ?_
    have hb2 := (hcut.lk 0 (Nat.zero_le _)).1
    refine cl' (f234 (gl := gl) (r := r) (gm := gm) hxi heni (hcut.sub _ (Wn_mem _ _ _)) (fun e => hno (e ▸ List.mem_cons_self ..)) hb2) ?_
    rintro _ _ rfl
    refine W ?_
    have hput := hcut.put (mp' := mp) hno hxi (by
      rw [unl_k, hk]
      have h1 : (cutL mp k).Perm (cutL mp k) := .refl _
      have h2 := lkp_mem hl
      obtain ⟨j, hj⟩ := List.getElem?_of_mem h2
      have := perm_erase hj
      rwa [cutL_at h.mnd hj] at this) (by
      rw [unl_k, hk]
      intro hm
      have hkd := h.kd
      have e1 : ks[i]? = some (k, (f x).p) := by rw [h.hk]; simp [hi, hx, hk]
      have := perm_erase e1
      have := (this.map Prod.fst).nodup_iff.1 hkd
      simp only [List.map_cons, List.nodup_cons] at this
      exact this.1 hm) (by
      have := h.le
      have := h.klen
      rw [List.length_eraseIdx_of_lt (by omega)]; omega)
    refine finE ⟨_, rfl, _, rfl, .inl ⟨h.has hl, ?_, rfl⟩⟩ (ent_ex (gm, en, il, x :: gs.eraseIdx i, _, mp) (ent_pur hput ent_))
    rw [unl_k, unl_p, hk]
    have e1 : ks[i]? = some (k, (f x).p) := by rw [h.hk]; simp [hi, hx, hk]
    exact (perm_erase e1).symm
  | none =>
    have hnk := h.hasnt hl
    refine W ?_
    refine w_qy rfl rfl (y_ml rfl mem_) ?_
    refine W ?_
    refine w_joinS (γ := List Nat × List (Nat × Nat) × (Nat → Nd) × List (Nat × Bool) × Nat × Bool) (fun ⟨gs, mp, f, ks', gone, went⟩ => [(0, PP gl), (1, I k), (4, I gone), (5, .bool went)]) (fun ⟨gs, mp, f, ks', gone, went⟩ => [cl gl (liL r gm en) 251, mpC (fun g => PP g) gm mp, NodesC il f])
      (fun ⟨gs, mp, f, ks', gone, went⟩ => LI en il gs f mp r ks' ∧ lkp mp k = none ∧ ks'.length + 1 ≤ r ∧ ((went = false ∧ gone = 0 ∧ ks' = ks ∧ ks.length < r) ∨ (went = true ∧ ks.Perm ((gone, false) :: ks')))) ?_ ?_
    · have hml := h.mlen
      have hkl := h.klen
      have hle := h.le
      by_cases hfull : mp.length = r
      · rw [decide_eq_true (show ((mp.length : Nat) : Int) = (r : Int) by omega)]
        refine W ?_
        have hen : (f en).a = PP (Wn en gs gs.length) := by have := (h.lk gs.length (Nat.le_refl _)).2; rwa [Wn_n] at this
        refine w_y rfl rfl rfl (y_nd rfl mem_ heni (nd2 hen)) ?_
        refine W ?_
        refine w_loop (γ := Nat) (fun j => [(0, PP gl), (1, I k), (9, PP (Wn en gs j))]) (fun _ => [cl gl (liL r gm en) 251, mpC (fun g => PP g) gm mp, NodesC il f]) (fun j => j ≤ gs.length ∧ ∀ i (hi : i < gs.length), j ≤ i → (f gs[i]).p = true) (fun j => j) gs.length sl_ ent_ ⟨Nat.le_refl _, fun i hi hj => by omega⟩ fun j B ⟨hj, hpin⟩ => ?_
        refine W ?_
        refine w_y rfl rfl rfl (y_neP rfl rfl mem_ (hWi j) heni) ?_
        rcases Nat.eq_zero_or_pos j with rfl | hpos
        · rw [decide_eq_false (show ¬ (Wn en gs 0 ≠ en) from fun h => h rfl)]
          refine W ?_
          refine w_y rfl rfl rfl (y_eqP rfl rfl mem_ (hWi 0) heni) ?_
          rw [decide_eq_true (show Wn en gs 0 = en from rfl)]
          refine W ?_
          refine finE ⟨_, rfl, ks, rfl, .inr (.inr (.inr ⟨hnk, by omega, ?_, rfl, rfl⟩))⟩ (ent_ex (gm, en, il, gs, f, mp) (ent_pur h ent_))
          intro p hp
          rw [h.hk] at hp
          obtain ⟨g, hg, rfl⟩ := List.mem_map.1 hp
          obtain ⟨i, hi⟩ := List.getElem?_of_mem hg
          obtain ⟨hi1, rfl⟩ := List.getElem?_eq_some_iff.1 hi
          exact hpin i hi1 (Nat.zero_le _)
        · have hne : Wn en gs j ≠ en := fun e => by have := Wn_zero h.nd hj e; omega
          rw [decide_eq_true hne]
          refine W ?_
          obtain ⟨i, rfl⟩ : ∃ i, j = i + 1 := ⟨j - 1, by omega⟩
          have hi : i < gs.length := by omega
          have hW : Wn en gs (i + 1) = gs[i] := Wn_s en gs i hi
          have hWm := hWi (i + 1)
          rw [hW] at hne hWm
          rw [hW]
          refine w_y rfl rfl rfl (y_nd rfl mem_ hWm (nd1 rfl)) ?_
          cases hp : (f gs[i]).p
          · refine W ?_
            refine w_y rfl rfl rfl (y_eqP rfl rfl mem_ hWm heni) ?_
            rw [decide_eq_false hne]
            refine W ?_
            refine w_y rfl rfl rfl (y_nd rfl mem_ hWm (nd0 rfl)) ?_
            refine W ?_
            obtain ⟨hcut, hno⟩ := h.cut hi
            have ha : (f gs[i]).a = PP (Wn en gs i) := by have := (h.lk i (by omega)).2; rwa [hW] at this
            have hb : (f gs[i]).b = PP (Wn en gs (i + 1 + 1)) := by have := (h.lk (i + 1) (by omega)).1; rwa [hW] at this
            refine cl' (f220 (gl := gl) (r := r) (gm := gm) (en := en) (mp := mp) hWm (hWi i) (hWi (i + 1 + 1)) ha hb rfl) ?_
            rintro _ _ rfl
            refine W ?_
            have e1 : ks[i]? = some ((f gs[i]).k, false) := by rw [h.hk]; simp [hi, hp]
            have hil : i < ks.length := by omega
            refine w_land rfl (w_meet (gs.eraseIdx i, cutL mp (f gs[i]).k, unl f gs[i] (Wn en gs i) (Wn en gs (i + 1 + 1)), ks.eraseIdx i, (f gs[i]).k, true) ⟨hcut, ?_, ?_, .inr ⟨rfl, perm_erase e1⟩⟩ sl_ ent_)
            · rw [lkp_cutL, hl]; split <;> rfl
            · rw [List.length_eraseIdx_of_lt hil]; omega
          · refine W ?_
            have ha : (f gs[i]).a = PP (Wn en gs i) := by have := (h.lk i (by omega)).2; rwa [hW] at this
            refine w_y rfl rfl rfl (y_nd rfl mem_ hWm (nd2 ha)) ?_
            refine W ?_
            refine w_land rfl (w_round i ⟨by omega, fun i' hi' hle => ?_⟩ (by show i < i + 1; omega) sl_ ent_)
            rcases Nat.eq_or_lt_of_le hle with e | hlt
            · subst e; exact hp
            · exact hpin i' hi' hlt
      · rw [decide_eq_false (show ¬ ((mp.length : Nat) : Int) = (r : Int) by omega)]
        refine W ?_
        exact w_land rfl (w_meet (gs, mp, f, ks, 0, false) ⟨h, hl, by omega, .inl ⟨rfl, rfl, rfl, by omega⟩⟩ sl_ ent_)
    · rintro ⟨gs, mp, f, ks', gone, went⟩ B ⟨h, hl, hle, hcase⟩
      dsimp only at h hl hle hcase ⊢
      have hnk' := h.hasnt hl
      have heni := h.sub en (List.mem_cons_self ..)
      refine W1 fun x => ?_
      refine g_ndnew rfl (show Sel (cl x _ 248) _ _ from sel_) (show NodesC il f ∈ _ from mem_) fun hxi => ?_
      refine g_ent rfl ((Ent.sel (show Sel (cl x [I k, .bool false, PN, PN] 248) _ _ from sel_) (Ent.sel (show Sel (NodesC il f) _ _ from sel_) (.refl _))).trans (ent_ndput (x := ⟨k, false, PN, PN⟩) rfl hxi)) ?_
      refine W ?_
      refine w_mu (f := fun g => PP g) (a := x) rfl rfl rfl rfl upd_ ?_
      refine W ?_
      have hxg : x ∉ en :: gs := fun hm => hxi (h.sub x hm)
      have h1 : LI en (x :: il) gs (putN f x ⟨k, false, PN, PN⟩) mp r ks' := h.congr (fun g hg => putN_ne _ _ _ (fun e => hxg (e ▸ hg))) (fun y hy => List.mem_cons_of_mem _ hy)
      have hb := (h1.lk 0 (Nat.zero_le _)).1
      refine cl' (f234 (gl := gl) (r := r) (gm := gm) (List.mem_cons_self ..) (List.mem_cons_of_mem _ heni) (h1.sub _ (Wn_mem _ _ _)) (fun e => hxg (e ▸ List.mem_cons_self ..)) hb) ?_
      rintro _ _ rfl
      refine W ?_
      have hput := h1.put (x := x) (mp' := putL mp k x) hxg (List.mem_cons_self ..) (by
        rw [putN_is]
        unfold putL
        rw [if_neg (by simp [hl])]
        exact List.perm_append_singleton _ _) (by rw [putN_is]; exact hnk') hle
      rw [putN_is] at hput
      rcases hcase with ⟨rfl, rfl, rfl, hlt⟩ | ⟨rfl, hperm⟩
      · exact finE ⟨_, rfl, _, rfl, .inr (.inl ⟨hnk', hlt, rfl, rfl⟩)⟩ (ent_ex (gm, en, x :: il, x :: gs, _, putL mp k x) (ent_pur hput ent_))
      · exact finE ⟨_, rfl, _, rfl, .inr (.inr (.inl ⟨hnk, gone, ks', hperm, rfl, rfl⟩))⟩ (ent_ex (gm, en, x :: il, x :: gs, _, putL mp k x) (ent_pur hput ent_))
end
end Go.Proofs.YtnilejkfbcnkkaaGreatDoor.V
end
