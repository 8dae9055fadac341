/- Proved: rules for maps from whole numbers to places, for blocks that hold a node each, and for places that are compared; each rule's conditions stand in its own statement. -/
import Derived.Test.YtpbpenlceigddaaEngJ
import Derived.Test.YtpbpenlceigddaaEngK
import Derived.LaidEqlPtr
import Derived.MapFrom
import Derived.WideLaws
import Derived.WalkSpells
set_option linter.unusedVariables false
set_option linter.unusedSimpArgs false
set_option linter.unusedSectionVars false
namespace Go.Proofs.Ytpbpenlceigddaa.Eng
open Go Go.RowKit Go.MapKept

section
variable {P : Program} {n : Nat} {w0 : World} {S : Nat → Prop} {H : Hp} {R : Regs} {dst : Option Tmp} {ty : TypeId} {pos : String} {after : Array Go.Edge} {gd : Option (Nat × Bool)} {Q : Exit → Regs → Hp → Prop}

/-! ### Nodes -/
structure Nd where
  k : Int
  p : Bool
  a : Value
  b : Value
def Nd.c (x : Nd) : Array Value := #[.int .i64 x.k, .bool x.p, x.a, x.b]
def PP (g : Nat) : Value := .pointer (some ⟨g, 0, none⟩)
def Hn (t : TypeId) (il : List Nat) (f : Nat → Nd) : Hp := il.map fun g => (g, .cells (f g).c t (0, 0))
theorem Hn.mem {t : TypeId} {il : List Nat} {f : Nat → Nd} {g : Nat} (h : g ∈ il) : (g, Obj.cells (f g).c t (0, 0)) ∈ Hn t il f := List.mem_map.2 ⟨g, h, rfl⟩
theorem Hn.cons (t : TypeId) (g : Nat) (il : List Nat) (f : Nat → Nd) : Hn t (g :: il) f = (g, .cells (f g).c t (0, 0)) :: Hn t il f := rfl
theorem Hn.fst (t : TypeId) (il : List Nat) (f : Nat → Nd) : (Hn t il f).map Prod.fst = il := by
  unfold Hn; rw [List.map_map]; exact (List.map_congr_left (fun _ _ => rfl)).trans (List.map_id _)
theorem Hn.perm (t : TypeId) {il il' : List Nat} (f : Nat → Nd) (h : il.Perm il') : (Hn t il f).Perm (Hn t il' f) := h.map _
theorem Hn.congr (t : TypeId) {il : List Nat} {f f' : Nat → Nd} (h : ∀ g ∈ il, f g = f' g) : Hn t il f = Hn t il f' := List.map_congr_left fun g hg => by rw [h g hg]
def setA (f : Nat → Nd) (g : Nat) (v : Value) : Nat → Nd := fun i => if i = g then { f i with a := v } else f i
def setB (f : Nat → Nd) (g : Nat) (v : Value) : Nat → Nd := fun i => if i = g then { f i with b := v } else f i
def setP (f : Nat → Nd) (g : Nat) (v : Bool) : Nat → Nd := fun i => if i = g then { f i with p := v } else f i

theorem Rd.nd {t : TypeId} {il : List Nat} {f : Nat → Nd} {g i : Nat} {v : Value} (hH : ∀ p ∈ Hn t il f, p ∈ H) (hg : g ∈ il) (hv : (f g).c[i]? = some v) : Rd w0 S H g i [v] :=
  Rd.blk (hH _ (Hn.mem hg)) fun j u hj => by
    cases j with
    | zero => simp at hj; subst hj; exact hv
    | succ j => simp at hj

theorem Hn.at_ {t : TypeId} {il : List Nat} {f : Nat → Nd} {g : Nat} (hH : ∀ p ∈ Hn t il f, p ∈ H) (hg : g ∈ il) : (g, Obj.cells (f g).c t (0, 0)) ∈ H := hH _ (Hn.mem hg)
theorem Hn.set {t : TypeId} {il : List Nat} {f f' : Nat → Nd} {g i : Nat} (hnd : il.Nodup) (hi : il[i]? = some g) (hf : ∀ k, k ≠ g → f' k = f k) : (Hn t il f).set i (g, .cells (f' g).c t (0, 0)) = Hn t il f' := by
  apply List.ext_getElem?
  intro j
  have hil : i < il.length := (List.getElem?_eq_some_iff.1 hi).1
  rw [List.getElem?_set]
  by_cases e : i = j
  · subst e
    rw [if_pos rfl, if_pos (by simpa [Hn] using hil)]
    simp [Hn, hi]
  · rw [if_neg e]
    simp only [Hn, List.getElem?_map]
    cases hj : il[j]? with
    | none => rfl
    | some u =>
      have hne : u ≠ g := by
        rintro rfl
        have hjl := (List.getElem?_eq_some_iff.1 hj).1
        have h1 := (List.getElem?_eq_some_iff.1 hi).2
        have h2 := (List.getElem?_eq_some_iff.1 hj).2
        exact e ((List.getElem_inj hnd).1 (h1.trans h2.symm))
      simp [hf u hne]

/-- One cell of a node. -/
theorem o_storeN {t et : TypeId} {ops : Array Oper} {rest : List Oper} {x y : Operand} {g off : Nat} {v : Value} {f : Nat → Nd} {il : List Nat} {Hx : Hp} (f' : Nat → Nd) (K : Hp) (F : Hp → Hp) (hF : ∀ Hy, (F Hy).Perm (Hy ++ K)) (hH : H.Perm (Hx ++ K)) (hx0 : Hx = Hn et il f) (hnd : il.Nodup)
    (hx : ev R x = .pointer (some ⟨g, off, none⟩)) (hy : ev R y = v) (hv : v.cells = #[v]) (h1 : v.oneCell' = true) (hs : (P.info? t).map (·.size) = some 1) (hg : g ∈ il) (ho : off < 4)
    (hc : (f g).c.setIfInBounds off v = (f' g).c) (hf : ∀ k, k ≠ g → f' k = f k)
    (h : opsG P n w0 S ops Q rest R (F (Hn et il f'))) :
    opsG P n w0 S ops Q (⟨none, .store t x y, ty, pos, after, none⟩ :: rest) R H := by
  subst hx0
  obtain ⟨i, hi⟩ := List.getElem?_of_mem hg
  have hil : i < il.length := (List.getElem?_eq_some_iff.1 hi).1
  refine o_perm (H' := Hn et il f ++ K) hH.symm ?_
  have hi2 : (Hn et il f ++ K)[i]? = some (g, .cells (f g).c et (0, 0)) := by
    rw [List.getElem?_append_left (by simpa [Hn] using hil)]
    simp [Hn, hi]
  refine o_storeC (H' := Hn et il f' ++ K) i hx hy hv h1 hi2 hs (by simpa [Nd.c] using ho) hc ?_ ?_
  · rw [List.set_append_left _ _ (by simpa [Hn] using hil), Hn.set hnd hi hf]
  · exact opsG_perm (hF _).symm h

theorem o_nodup {ops : Array Oper} {ol : List Oper} (h : (H.map Prod.fst).Nodup → opsG P n w0 S ops Q ol R H) : opsG P n w0 S ops Q ol R H := fun a w ha hw => h hw.nd a w ha hw
theorem c_nodup {c : Code} (h : (H.map Prod.fst).Nodup → codeG P n w0 S c Q R H) : codeG P n w0 S c Q R H := fun a w ha hw => h hw.nd a w ha hw
def putN (f : Nat → Nd) (g : Nat) (x : Nd) : Nat → Nd := fun i => if i = g then x else f i
theorem Hn.put {t : TypeId} {il : List Nat} {f : Nat → Nd} {g : Nat} {x : Nd} (h : g ∉ il) : (g, Obj.cells x.c t (0, 0)) :: Hn t il f = Hn t (g :: il) (putN f g x) := by
  rw [Hn.cons]
  unfold putN
  rw [if_pos rfl]
  congr 1
  exact Hn.congr t fun i hi => by rw [if_neg]; rintro rfl; exact h hi
section
variable (f : Nat → Nd) (g i : Nat) (v : Value) (b : Bool)
theorem setA_k : (setA f g v i).k = (f i).k := by unfold setA; split <;> rfl
theorem setA_p : (setA f g v i).p = (f i).p := by unfold setA; split <;> rfl
theorem setA_b : (setA f g v i).b = (f i).b := by unfold setA; split <;> rfl
theorem setB_k : (setB f g v i).k = (f i).k := by unfold setB; split <;> rfl
theorem setB_p : (setB f g v i).p = (f i).p := by unfold setB; split <;> rfl
theorem setB_a : (setB f g v i).a = (f i).a := by unfold setB; split <;> rfl
theorem setA_a : (setA f g v g).a = v := by unfold setA; rw [if_pos rfl]
theorem setB_b : (setB f g v g).b = v := by unfold setB; rw [if_pos rfl]
theorem setA_ne (h : i ≠ g) : setA f g v i = f i := if_neg h
theorem setB_ne (h : i ≠ g) : setB f g v i = f i := if_neg h
theorem setP_k : (setP f g b i).k = (f i).k := by unfold setP; split <;> rfl
theorem setP_a : (setP f g b i).a = (f i).a := by unfold setP; split <;> rfl
theorem setP_b : (setP f g b i).b = (f i).b := by unfold setP; split <;> rfl
theorem setP_p : (setP f g b g).p = b := by unfold setP; rw [if_pos rfl]
theorem setP_ne (h : i ≠ g) : setP f g b i = f i := if_neg h
theorem setA_c : (f g).c.setIfInBounds 2 v = (setA f g v g).c := by unfold setA; rw [if_pos rfl]; simp [Nd.c]
theorem setB_c : (f g).c.setIfInBounds 3 v = (setB f g v g).c := by unfold setB; rw [if_pos rfl]; simp [Nd.c]
theorem setP_c : (f g).c.setIfInBounds 1 (.bool b) = (setP f g b g).c := by unfold setP; rw [if_pos rfl]; simp [Nd.c]
end
theorem nd0 {x : Nd} {k : Int} (h : x.k = k) : x.c[0]? = some (.int .i64 k) := by subst h; rfl
theorem nd1 {x : Nd} {p : Bool} (h : x.p = p) : x.c[1]? = some (.bool p) := by subst h; rfl
theorem nd2 {x : Nd} {v : Value} (h : x.a = v) : x.c[2]? = some v := by subst h; rfl
theorem nd3 {x : Nd} {v : Value} (h : x.b = v) : x.c[3]? = some v := by subst h; rfl

/-! ### Places that are compared -/
theorem run_eqlP {t te : TypeId} {j : TypeInfo} {a b : Nat} {ca cb : Array Value} {ta tb : TypeId} (w : World) (hp : P.underlying t = some (.pointer te)) (hte : P.info? te = some j) (hsz : j.size ≠ 0)
    (ha : w.heap[a]? = some (.cells ca ta (0, 0))) (hb : w.heap[b]? = some (.cells cb tb (0, 0))) : (binOp .eql t (PP a) (PP b)).run P w = .ok (.bool (decide (a = b))) w := by
  by_cases e : a = b
  · subst e
    rw [decide_eq_true rfl]
    exact run_eql_ptr_same w _ hp hte
  · rw [decide_eq_false e]
    exact run_eql_ptr_other w hp hte hsz (by intro h; injection h with h; exact e h) ha hb
theorem y_eqlP {t te yt : TypeId} {x y : Operand} {a b : Nat} {ca cb : Array Value} {ta tb : TypeId} {c : Bool} (hx : ev R x = PP a) (hy : ev R y = PP b) (hp : P.underlying t = some (.pointer te)) (hsz : ∃ m, (P.info? te).map (·.size) = some (m + 1))
    (ha : (a, Obj.cells ca ta (0, 0)) ∈ H) (hb : (b, Obj.cells cb tb (0, 0)) ∈ H) (hc : decide (a = b) = c) : Yields P w0 S H ⟨dst, .binOp .eql t x y yt, ty, pos, after, gd⟩ R (.bool c) :=
  y_sem fun w hw => by
    subst hc
    obtain ⟨m, hm⟩ := hsz
    obtain ⟨j, hj, hjs⟩ : ∃ j, P.info? te = some j ∧ j.size = m + 1 := by
      cases h : P.info? te with
      | none => simp [h] at hm
      | some j => exact ⟨j, rfl, by simpa [h] using hm⟩
    have h1 := run_eqlP w hp hj (by omega) (hw.at_ _ ha) (hw.at_ _ hb)
    simp only [PP] at hx hy h1
    simp [execOp, hx, hy, eqGuard_ptr, h1]
theorem y_neqP {t te yt : TypeId} {x y : Operand} {a b : Nat} {ca cb : Array Value} {ta tb : TypeId} {c : Bool} (hx : ev R x = PP a) (hy : ev R y = PP b) (hp : P.underlying t = some (.pointer te)) (hsz : ∃ m, (P.info? te).map (·.size) = some (m + 1))
    (ha : (a, Obj.cells ca ta (0, 0)) ∈ H) (hb : (b, Obj.cells cb tb (0, 0)) ∈ H) (hc : decide (a ≠ b) = c) : Yields P w0 S H ⟨dst, .binOp .neq t x y yt, ty, pos, after, gd⟩ R (.bool c) :=
  y_sem fun w hw => by
    subst hc
    obtain ⟨m, hm⟩ := hsz
    obtain ⟨j, hj, hjs⟩ : ∃ j, P.info? te = some j ∧ j.size = m + 1 := by
      cases h : P.info? te with
      | none => simp [h] at hm
      | some j => exact ⟨j, rfl, by simpa [h] using hm⟩
    have h1 := run_eqlP w hp hj (by omega) (hw.at_ _ ha) (hw.at_ _ hb)
    simp only [PP] at hx hy h1
    have e1 : ∀ u v, binOp .eql t (.pointer u) (.pointer v) = (do pure (Value.bool (← Op.equal t (.pointer u) (.pointer v))) : Sem Value) := fun _ _ => rfl
    have e2 : ∀ u v, binOp .neq t (.pointer u) (.pointer v) = (do pure (Value.bool (!(← Op.equal t (.pointer u) (.pointer v)))) : Sem Value) := fun _ _ => rfl
    rw [e1] at h1
    have h2 : (Op.equal t (.pointer (some ⟨a, 0, none⟩)) (.pointer (some ⟨b, 0, none⟩))).run P w = .ok (decide (a = b)) w := by
      simp only [Sem.run_bind] at h1
      cases hq : (Op.equal t (.pointer (some ⟨a, 0, none⟩)) (.pointer (some ⟨b, 0, none⟩))).run P w with
      | halt _ _ => simp [hq, Result.andThen] at h1
      | ok v w1 =>
        simp [hq, Result.andThen] at h1
        obtain ⟨h3, h4⟩ := h1
        rw [h4, h3]
    simp [execOp, hx, hy, eqGuard_ptr, e2, h2, Result.andThen]

/-- A part of an element of a slice of one's own. -/
theorem o_storeVP {α : Type} {E : Enc α} {e : TypeId} {l : List α} {a : Option Addr} {g cap : Nat} {Hx : Hp} {t : TypeId} {ops : Array Oper} {rest : List Oper} {x y : Operand} {off : Nat} {u : α} {v : Value} (K : Hp) (F : Hp → Hp) (hF : ∀ Hy, (F Hy).Perm (Hy ++ K)) (hH : H.Perm (Hx ++ K)) (hown : OwnV E e l a g cap Hx) (i kk : Nat)
    (hx : ev R x = .pointer (some ⟨g, off, none⟩)) (ho : off = i * E.sz + kk) (hy : ev R y = v) (hs : (P.info? t).map (·.size) = some v.cells.size) (hi : i < l.length)
    (hkk : kk + v.cells.size ≤ E.sz) (h1 : ∀ u ∈ v.cells.toList, u.oneCell' = true) (hu : (E.enc l[i]).take kk ++ v.cells.toList ++ (E.enc l[i]).drop (kk + v.cells.size) = E.enc u)
    (h : ∀ Hy, OwnV E e (l.set i u) a g cap Hy → opsG P n w0 S ops Q rest R (F Hy)) :
    opsG P n w0 S ops Q (⟨none, .store t x y, ty, pos, after, none⟩ :: rest) R H := by
  cases hown with
  | nil _ hl => subst hl; simp at hi
  | row _ _ c hrow =>
    refine o_perm (H' := (g, .cells c e (0, 0)) :: K) (by simpa using hH.symm) ?_
    refine o_storeRowP (E := E) (u := u) 0 i kk hx ho hy hs rfl hrow hi hkk h1 hu fun c' hr => ?_
    exact opsG_perm (hF [(g, .cells c' e (0, 0))]).symm (h _ (.row g cap c' hr))

/-! ### Maps -/
def eMap (mp : List (Int × Nat)) : List (Value × Value) := mp.map fun p => (.int .i64 p.1, PP p.2)
def MapC (mp : List (Int × Nat)) (es : Array MapEntry) : Prop := es.toList.map (fun e => (e.key, e.val)) = eMap mp
def lookM (mp : List (Int × Nat)) (k : Int) : Option Nat := (mp.find? fun p => p.1 = k).map (·.2)
theorem MapC.size {mp : List (Int × Nat)} {es : Array MapEntry} (h : MapC mp es) : es.size = mp.length := by
  have := congrArg List.length h
  simpa [eMap] using this
def optP : Option Nat → Value
  | some g => PP g
  | none => .pointer none
theorem map_erase {α β : Type} (f : α → β) : ∀ (l : List α) (i : Nat), (l.eraseIdx i).map f = (l.map f).eraseIdx i
  | [], i => by simp
  | a :: l, 0 => rfl
  | a :: l, i + 1 => by simp [List.eraseIdx_cons_succ, map_erase f l i]
theorem perm_erase {α : Type} {a : α} : ∀ {l : List α} {i : Nat}, l[i]? = some a → l.Perm (a :: l.eraseIdx i)
  | [], i, h => by simp at h
  | b :: l, 0, h => by simp at h; subst h; exact List.Perm.refl _
  | b :: l, i + 1, h => by
    have := perm_erase (l := l) (i := i) (by simpa using h)
    exact (List.Perm.cons b this).trans (List.Perm.swap a b _)
theorem find_look (k : Int) (d : IntKind) : ∀ (mp : List (Int × Nat)) (l : List MapEntry) (i : Nat), l.map (fun e => (e.key, e.val)) = eMap mp →
    (lookM mp k = none ∧ Instr.findNow (.int d) (.int .i64 k) l i = some none) ∨ ∃ j g, lookM mp k = some g ∧ mp[j]? = some (k, g) ∧ Instr.findNow (.int d) (.int .i64 k) l i = some (some (i + j, PP g))
  | [], l, i, h => by
    have : l = [] := by simpa [eMap] using h
    subst this
    exact .inl ⟨rfl, rfl⟩
  | p :: mp, l, i, h => by
    cases l with
    | nil => simp [eMap] at h
    | cons e l =>
      simp only [eMap, List.map_cons, List.cons.injEq, Prod.mk.injEq] at h
      obtain ⟨⟨hk, hv⟩, ht⟩ := h
      by_cases hp : p.1 = k
      · refine .inr ⟨0, p.2, by simp [lookM, hp], by simp [← hp], ?_⟩
        simp [Instr.findNow, hk, Instr.sameNow, hp, hv]
      · have hs : Instr.sameNow (.int d) (.int .i64 k) e.key = some false := by
          rw [hk]; simp [Instr.sameNow]; exact fun x => hp x.symm
        rcases find_look k d mp l (i + 1) ht with ⟨h1, h2⟩ | ⟨j, g, h1, h2, h3⟩
        · exact .inl ⟨by simp [lookM, hp] at h1 ⊢; exact h1, by simp [Instr.findNow, hs, h2]⟩
        · refine .inr ⟨j + 1, g, by simp [lookM, hp] at h1 ⊢; exact h1, by simpa using h2, ?_⟩
          simp [Instr.findNow, hs, h3]; omega

section
variable {mt kt et : TypeId} {gm cl : Nat} {es : Array MapEntry} {mp : List (Int × Nat)} {k : Int}

theorem run_look {w : World} (hm : P.underlying mt = some (.map kt et)) (hd : P.underlying kt = some (.int .i64)) (hz : (P.info? et).map (·.zero) = some (some (.pointer none))) (hb : w.heap[gm]? = some (.map es cl)) (hc : MapC mp es) :
    (Instr.lookup mt (.map (some gm)) (.int .i64 k) true).run P w = .ok (.tuple #[optP (lookM mp k), .bool (lookM mp k).isSome]) w := by
  have hkey : IsKey (.int .i64) (.int .i64 k) := rfl
  have hzero : (zeroValue et).run P w = .ok (.pointer none) w := by
    cases hi : P.info? et with
    | none => simp [hi] at hz
    | some i =>
      have : i.zero = some (.pointer none) := by simpa [hi] using hz
      simp [zeroValue, typeInfo, hi, this]
  rcases find_look k .i64 mp es.toList 0 hc with ⟨h1, h2⟩ | ⟨j, g, h1, _, h2⟩
  · simp [Instr.lookup, run_underlying hm, MapKept.run_getObj_map hb, run_checkKey hd hkey, run_findKey hd h2, Result.andThen, hzero, h1, optP]
  · simp [Instr.lookup, run_underlying hm, MapKept.run_getObj_map hb, run_checkKey hd hkey, run_findKey hd h2, Result.andThen, h1, optP]
theorem y_look {x y : Operand} {o : Option Nat} (hx : ev R x = .map (some gm)) (hy : ev R y = .int .i64 k) (hm : P.underlying mt = some (.map kt et)) (hd : P.underlying kt = some (.int .i64)) (hz : (P.info? et).map (·.zero) = some (some (.pointer none)))
    (hb : (gm, Obj.map es cl) ∈ H) (hc : MapC mp es) (ho : lookM mp k = o) {v : Value} (hv : optP o = v) :
    Yields P w0 S H ⟨dst, .lookup mt x y true, ty, pos, after, gd⟩ R (.tuple #[v, .bool o.isSome]) :=
  y_sem fun w hw => by
    subst ho; subst hv
    have h1 := run_look (k := k) hm hd hz (hw.at_ _ hb) hc
    simp [execOp, hx, hy, h1]
theorem y_lenM {x : Operand} (hx : ev R x = .map (some gm)) (hm : P.underlying mt = some (.map (P.mapKeyOf mt) (P.mapElemOf mt))) (hb : (gm, Obj.map es cl) ∈ H) (hc : MapC mp es) :
    Yields P w0 S H ⟨dst, .call { callee := .builtin .len, args := #[x], argTypes := #[mt] }, ty, pos, after, gd⟩ R (.int .i64 mp.length) :=
  y_sem fun w hw => by
    have h1 := fun ty' => run_len_map (P := P) (w := w) mt ty' gm es cl hm (hw.at_ _ hb)
    rw [← hc.size]
    simp [execOp, resolve, hx, invoke, builtin, h1, goInt]
theorem y_eqlM {yt : TypeId} {x y : Operand} {r : Option Nat} {c : Bool} (hx : ev R x = .map r) (hy : ev R y = .map none) (hm : P.underlying mt = some (.map kt et)) (hc : r.isNone = c) :
    Yields P w0 S H ⟨dst, .binOp .eql mt x y yt, ty, pos, after, gd⟩ R (.bool c) :=
  y_val fun w => by
    subst hc
    have hg : (eqGuard .eql mt x y (.map r) (.map none)).run P w = .ok () w := by simp [eqGuard, run_underlying hm]
    simp [execOp, hx, hy, hg, run_eql_map_nil w mt kt et r hm]
/-- A new entry. -/
theorem o_putM {ops : Array Oper} {rest : List Oper} {x y z : Operand} {g : Nat} (i : Nat) (hx : ev R x = .map (some gm)) (hy : ev R y = .int .i64 k) (hz : ev R z = PP g) (hm : P.underlying mt = some (.map kt et)) (hd : P.underlying kt = some (.int .i64))
    (hi : H[i]? = some (gm, .map es cl)) (hc : MapC mp es) (hl : lookM mp k = none)
    (h : ∀ es' cl', MapC (mp ++ [(k, g)]) es' → opsG P n w0 S ops Q rest R (H.set i (gm, .map es' cl'))) :
    opsG P n w0 S ops Q (⟨none, .mapUpdate mt x y z, ty, pos, after, none⟩ :: rest) R H := by
  refine o_unit rfl rfl fun w hw => ?_
  have hb := hw.at_ _ (List.mem_of_getElem? hi)
  have hkey : IsKey (.int .i64) (.int .i64 k) := rfl
  have hn : Instr.findNow (.int .i64) (.int .i64 k) es.toList 0 = some none := by
    rcases find_look k .i64 mp es.toList 0 hc with ⟨_, h2⟩ | ⟨j, g', h1, _, _⟩
    · exact h2
    · rw [hl] at h1; cases h1
  have hrun : (Instr.mapUpdate mt (.map (some gm)) (.int .i64 k) (PP g)).run P w = .ok () { w with heap := w.heap.setIfInBounds gm (.map (es.push { key := .int .i64 k, val := PP g, born := cl }) (cl + 1)) } := by
    simp [Instr.mapUpdate, run_underlying hm, MapKept.run_getObj_map hb, run_checkKey hd hkey, run_findKey hd hn, run_setObj_map _ hb, Result.andThen]
  refine ⟨{ w with heap := w.heap.setIfInBounds gm (.map (es.push { key := .int .i64 k, val := PP g, born := cl }) (cl + 1)) }, H.set i (gm, .map (es.push { key := .int .i64 k, val := PP g, born := cl }) (cl + 1)), by simp [execOp, hx, hy, hz, hrun], hw.write i hi (heap_set hb).1 (heap_set hb).2 (by simp) rfl rfl rfl, h _ _ ?_⟩
  unfold MapC at hc ⊢
  rw [Array.toList_push, List.map_append, hc]
  simp [eMap]
/-- An entry struck. -/
theorem o_cutM {ops : Array Oper} {rest : List Oper} {x y : Operand} {g : Nat} (i : Nat) (hx : ev R x = .map (some gm)) (hy : ev R y = .int .i64 k) (hm : P.underlying mt = some (.map kt et)) (hd : P.underlying kt = some (.int .i64))
    (hi : H[i]? = some (gm, .map es cl)) (hc : MapC mp es) (hl : lookM mp k = some g)
    (h : ∀ es' cl' mp', MapC mp' es' → mp.Perm ((k, g) :: mp') → opsG P n w0 S ops Q rest R (H.set i (gm, .map es' cl'))) :
    opsG P n w0 S ops Q (⟨none, .call { callee := .builtin .delete, args := #[x, y], argTypes := #[mt, kt] }, ty, pos, after, none⟩ :: rest) R H := by
  have hkey : IsKey (.int .i64) (.int .i64 k) := rfl
  obtain ⟨j, hj, hn⟩ : ∃ j, mp[j]? = some (k, g) ∧ Instr.findNow (.int .i64) (.int .i64 k) es.toList 0 = some (some (j, PP g)) := by
    rcases find_look k .i64 mp es.toList 0 hc with ⟨h1, _⟩ | ⟨j, g', h1, h2, h3⟩
    · rw [hl] at h1; cases h1
    · rw [hl] at h1; cases h1
      exact ⟨j, h2, by simpa using h3⟩
  refine o_op rfl rfl fun w hw => ?_
  have hb := hw.at_ _ (List.mem_of_getElem? hi)
  have hrun : ∀ ty', (Builtin.delete_ #[mt, kt] ty' #[.map (some gm), .int .i64 k]).run P w = .ok (.tuple #[]) { w with heap := w.heap.setIfInBounds gm (.map (es.eraseIdxIfInBounds j) cl) } := fun ty' => by
    simp [Builtin.delete_, run_underlying hm, MapKept.run_getObj_map hb, run_checkKey hd hkey, run_findKey hd hn, run_setObj_map _ hb, Result.andThen]
  refine ⟨.tuple #[], { w with heap := w.heap.setIfInBounds gm (.map (es.eraseIdxIfInBounds j) cl) }, H.set i (gm, .map (es.eraseIdxIfInBounds j) cl), by simp [execOp, resolve, hx, hy, invoke, builtin, hrun], hw.write i hi (heap_set hb).1 (heap_set hb).2 (by simp) rfl rfl rfl, h _ _ (mp.eraseIdx j) ?_ ?_⟩
  · unfold MapC at hc ⊢
    rw [Array.toList_eraseIdxIfInBounds]
    have : (es.toList.eraseIdx j).map (fun e => (e.key, e.val)) = (es.toList.map (fun e => (e.key, e.val))).eraseIdx j := by
      exact map_erase _ _ _
    rw [this, hc]
    exact (map_erase _ _ _).symm
  · exact perm_erase hj
/-- A new map. -/
theorem o_newM {ops : Array Oper} {rest : List Oper} {d : Tmp} (hd : decide (d < n) = true) (h : ∀ g, opsG P n w0 S ops Q rest (upd R d (.map (some g))) ((g, .map #[] 0) :: H)) :
    opsG P n w0 S ops Q (⟨some d, .makeMap mt none, ty, pos, after, none⟩ :: rest) R H :=
  o_op rfl hd fun w hw => ⟨_, _, _, by simp [execOp, Instr.makeMap, Result.andThen], hw.alloc _, h _⟩
theorem MapC.nil : MapC [] #[] := rfl
end
end
end Go.Proofs.Ytpbpenlceigddaa.Eng
