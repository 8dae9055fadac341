/- Proved: how the reference's line lies in memory, what its functions come to, and that it tells what a line tells; the conditions stand in the statements. -/
import Derived.Test.YtediblifbfhahaaLineLaw
set_option linter.unusedVariables false
set_option linter.unusedSimpArgs false
set_option linter.unusedSectionVars false
namespace Go.Proofs.Ytediblifbfhahaa.Line
open Go Go.RowKit Go.Proofs.Ytediblifbfhahaa.Eng

structure Cel where
  k : Bool
  d : Bool
  b : Blk
def eCel : Enc Cel := ⟨fun x => [.bool x.k, .bool x.d] ++ (bv x.b).toList, 66, fun x => by simp [bv_size], fun x v hv => by
  rcases List.mem_append.1 hv with hv | hv
  · simp at hv; rcases hv with rfl | rfl <;> rfl
  · exact bv_one x.b v hv, by omega⟩
def Cel.arr (x : Cel) : Array Value := (eCel.enc x).toArray
theorem Cel.at_b (x : Cel) (j : Nat) (v : Value) (hv : (bv x.b).toList[j]? = some v) : (eCel.enc x)[2 + j]? = some v := by
  have h2 := seg_get (A := [Value.bool x.k, .bool x.d]) (C := []) (k := 2) rfl hv
  simpa [eCel] using h2
theorem Cel.cells (x : Cel) : (Value.agg (Cel.arr x)).cells.toList = eCel.enc x := by simp [Value.cells, Cel.arr]
theorem Cel.setd (x : Cel) (d : Bool) : (eCel.enc x).take 1 ++ (Value.bool d).cells.toList ++ (eCel.enc x).drop (1 + (Value.bool d).cells.size) = eCel.enc { x with d := d } := by
  simp [eCel, Value.cells]
def cel0 : Cel := ⟨false, false, zB⟩
theorem zr63 : (Try.prog.info? 63).map (fun i => i.zero.map (·.cells)) = some (some (eCel.enc cel0).toArray) := by kernel_rfl
theorem SL57 : SlType Try.prog 57 63 eCel 66 := SlType.mk' (.agg (Cel.arr cel0)) Try.underlying57 (by kernel_rfl) (by have : (eCel.enc cel0).length = eCel.sz := eCel.len _; simpa [Value.cells, Cel.arr] using this)

/-! ### Cells that are built -/
theorem fill_one (cs : List Value) (off : Nat) (vs : List Value) (h : off + vs.length ≤ cs.length) :
    vs.toArray.zipIdx.foldl (fun cs (c, j) => cs.setIfInBounds (off + j) c) cs.toArray = (cs.take off ++ vs ++ cs.drop (off + vs.length)).toArray := by
  have gen : ∀ (us : List Value) (j : Nat) (pre suf : List Value), pre.length = off + j → us.length ≤ suf.length →
      (us.zipIdx j).foldl (fun (cs : Array Value) (p : Value × Nat) => cs.setIfInBounds (off + p.2) p.1) (pre ++ suf).toArray = (pre ++ us ++ suf.drop us.length).toArray := by
    intro us
    induction us with
    | nil => intro j pre suf _ _; simp
    | cons u us ih =>
      intro j pre suf hp hl
      cases suf with
      | nil => simp at hl
      | cons s suf =>
        simp only [List.zipIdx_cons, List.foldl_cons]
        have e1 : (pre ++ s :: suf).toArray.setIfInBounds (off + j) u = ((pre ++ [u]) ++ suf).toArray := by
          rw [← hp]
          simp [List.setIfInBounds_toArray, List.set_append_right]
        rw [e1, ih (j + 1) (pre ++ [u]) suf (by simp; omega) (by simpa using hl)]
        simp
  have := gen vs 0 (cs.take off) (cs.drop off) (by simp; omega) (by simp; omega)
  rw [List.take_append_drop, List.drop_drop] at this
  rw [← Array.foldl_toList, Array.toList_zipIdx]
  exact this
theorem built63 (ps : List (Nat × Value)) : Try.prog.built 63 ps = Instr.fill ((#[(0, 1), (1, 1), (2, 64)] : Array (Nat × Nat))[·]?) (Cel.arr cel0) ps := by kernel_rfl
theorem fill_step {pl : Nat → Option (Nat × Nat)} {cs : List Value} {i off sz : Nat} {v : Value} {rest : List (Nat × Value)} (hp : pl i = some (off, sz)) (hs : v.cells.size = sz) (ho : off + sz ≤ cs.length) :
    Instr.fill pl cs.toArray ((i, v) :: rest) = Instr.fill pl (cs.take off ++ v.cells.toList ++ cs.drop (off + sz)).toArray rest := by
  subst hs
  have h := fill_one cs off v.cells.toList (by simpa using ho)
  rw [Array.toArray_toList] at h
  simp only [Instr.fill, hp]
  rw [if_neg (by simp; omega), h]
  simp
theorem bld (x y : Bool) (c : Blk) : Try.prog.built 63 [(0, .bool x), (1, .bool y), (2, .agg (bv c))] = some (Cel.arr ⟨x, y, c⟩) := by
  rw [built63]
  show Instr.fill _ (eCel.enc cel0).toArray _ = _
  rw [fill_step (off := 0) (sz := 1) rfl rfl (by rw [eCel.len]; decide), fill_step (off := 1) (sz := 1) rfl rfl (by simp [Value.cells, eCel, bv_size]), fill_step (off := 2) (sz := 64) rfl (by simp [Value.cells, bv_size]) (by simp [Value.cells, eCel, bv_size])]
  simp [Instr.fill, Cel.arr, eCel, Value.cells, bv_size]
theorem bld02 (x : Bool) (c : Blk) : Try.prog.built 63 [(0, .bool x), (2, .agg (bv c))] = some (Cel.arr ⟨x, false, c⟩) := by
  rw [built63]
  show Instr.fill _ (eCel.enc cel0).toArray _ = _
  rw [fill_step (off := 0) (sz := 1) rfl rfl (by rw [eCel.len]; decide), fill_step (off := 2) (sz := 64) rfl (by simp [Value.cells, bv_size]) (by simp [Value.cells, eCel, bv_size])]
  simp [Instr.fill, Cel.arr, eCel, Value.cells, bv_size, cel0]
theorem bld0 : Try.prog.built 63 [] = some (Cel.arr cel0) := by rw [built63]; rfl

/-! ### The reference's line -/
def RefS (gr : Nat) (cs : List Cel) (sq : List Int) (H : Hp) : Prop := ∃ (gL : Nat) (cL : Array Value) (a : Option Addr) (gs cap : Nat) (Hs : Hp),
  H = [(gr, .cells #[.slice (some ⟨gL, 0, none⟩) cs.length cs.length, .slice a sq.length cap] 60 (0, 0)), (gL, .cells cL 63 (0, 0))] ++ Hs ∧ Row eCel cs cL cs.length ∧ OwnV eU64 24 sq a gs cap Hs
def hasB (n : Nat) (m : Int) : Bool := decide (0 ≤ m ∧ m < n)
theorem has_t {n : Nat} {m : Int} (h : hasB n m = true) : 0 ≤ m ∧ m < n := of_decide_eq_true h
theorem has_f {n : Nat} {m : Int} (h : hasB n m = false) : ¬ (0 ≤ m ∧ m < n) := of_decide_eq_false h
theorem has_is {n : Nat} {m : Int} {b : Bool} (h : b = true ↔ (0 ≤ m ∧ m < n)) : hasB n m = b := by
  unfold hasB
  cases b
  · exact decide_eq_false (fun x => by have := h.2 x; cases this)
  · exact decide_eq_true (h.1 rfl)
def errC (n : Nat) (m : Int) : Int := if hasB n m = true then 0 else 2
def lrnC (cs : List Cel) (m : Int) (b : Blk) : List Cel := if hasB cs.length m = true ∧ (cs.getD m.toNat cel0).k = false then cs.set m.toNat ⟨true, false, b⟩ else cs
def setEC (n : Nat) (m q : Int) : Int := if hasB n m = true ∧ q ≠ 0 then 0 else 2
def setC (cs : List Cel) (m : Int) (b : Blk) (q : Int) : List Cel := if setEC cs.length m q = 0 then cs.set m.toNat ⟨true, true, b⟩ else cs
def setQ (n : Nat) (sq : List Int) (m q : Int) : List Int := if setEC n m q = 0 then sq ++ [q] else sq
def fgtC (cs : List Cel) (m : Int) : List Cel := if hasB cs.length m = true then cs.set m.toNat cel0 else cs
def gtB (cs : List Cel) (m : Int) : Blk := if hasB cs.length m = true then (cs.getD m.toNat cel0).b else zB
def gtK (cs : List Cel) (m : Int) : Bool := if hasB cs.length m = true then (cs.getD m.toNat cel0).k else false
def clnC (cs : List Cel) : Nat → List Cel
  | 0 => cs
  | j + 1 => (clnC cs j).set j { (clnC cs j).getD j cel0 with d := false }
def csel (cs : List Cel) : Nat → List Int
  | 0 => []
  | j + 1 => if (cs.getD j cel0).d = true then csel cs j ++ [(j : Int)] else csel cs j
def leastQ (l : List Int) : Int := l.foldl (fun m x => if m = 0 ∨ x < m then x else m) 0
theorem cln_len (cs : List Cel) (j : Nat) : (clnC cs j).length = cs.length := by
  induction j with
  | zero => rfl
  | succ j ih => rw [clnC, List.length_set, ih]
theorem get_some {cs : List Cel} {i : Nat} {x : Cel} (h : cs[i]? = some x) : cs.getD i cel0 = x ∧ i < cs.length := by
  obtain ⟨h1, h2⟩ := List.getElem?_eq_some_iff.1 h
  exact ⟨by rw [List.getD_eq_getElem?_getD, h]; rfl, h1⟩
theorem csel_t {cs : List Cel} {j : Nat} {x : Cel} (hx : cs[j]? = some x) (h : x.d = true) : csel cs j ++ [(j : Int)] = csel cs (j + 1) := by rw [csel, (get_some hx).1, if_pos h]
theorem csel_f {cs : List Cel} {j : Nat} {x : Cel} (hx : cs[j]? = some x) (h : x.d = false) : csel cs (j + 1) = csel cs j := by rw [csel, (get_some hx).1, if_neg (by rw [h]; decide)]
theorem csel_le (cs : List Cel) (j : Nat) : (csel cs j).length ≤ j := by
  induction j with
  | zero => exact Nat.le_refl _
  | succ j ih =>
    rw [csel]; split
    · rw [List.length_append, List.length_singleton]; omega
    · omega
theorem least_snoc (l : List Int) (x : Int) : leastQ (l ++ [x]) = if leastQ l = 0 ∨ x < leastQ l then x else leastQ l := by
  unfold leastQ
  rw [List.foldl_append]; rfl
theorem least_step (l : List Int) (j : Nat) (h : j < l.length) : leastQ (l.take (j + 1)) = if leastQ (l.take j) = 0 ∨ l[j] < leastQ (l.take j) then l[j] else leastQ (l.take j) := by
  rw [List.take_succ_eq_append_getElem h, least_snoc]
theorem least_t {l : List Int} {j : Nat} (h : j < l.length) (c : leastQ (l.take j) = 0 ∨ l[j] < leastQ (l.take j)) : leastQ (l.take (j + 1)) = l[j] := by rw [least_step l j h, if_pos c]
theorem least_f {l : List Int} {j : Nat} (h : j < l.length) (c : ¬ (leastQ (l.take j) = 0 ∨ l[j] < leastQ (l.take j))) : leastQ (l.take (j + 1)) = leastQ (l.take j) := by rw [least_step l j h, if_neg c]

/-! ### Both tell the same -/
structure Rel (s : LS) (cs : List Cel) (sq : List Int) (n : Nat) : Prop where
  mem : s.mem = cs.length
  pos : 1 ≤ cs.length
  top : cs.length ≤ 16
  kn : ∀ i, i < cs.length → s.kn.getD i false = (cs.getD i cel0).k
  dt : ∀ i, i < cs.length → s.dt.getD i false = (cs.getD i cel0).d
  bl : ∀ i, i < cs.length → (cs.getD i cel0).k = true → s.bl.getD i zB = (cs.getD i cel0).b
  no : ∀ i, i < cs.length → (cs.getD i cel0).k = false → (cs.getD i cel0).b = zB
  fs : s.fs = leastQ sq
  nd : ∀ i, i < cs.length → (cs.getD i cel0).k = false → (cs.getD i cel0).d = false
  qs : ∀ x ∈ sq, 0 < x ∧ x ≤ 18446744073709551615
  len : sq.length ≤ n
theorem Rel.mem' {s : LS} {cs : List Cel} {sq : List Int} {n : Nat} (h : Rel s cs sq n) : 0 ≤ s.mem ∧ s.mem ≤ 16 := by
  have := h.mem; have := h.top; omega
section
variable {s : LS} {cs : List Cel} {sq : List Int} {n : Nat} (h : Rel s cs sq n)
include h
theorem rel_ask (m : Int) : askE s.mem m = errC cs.length m := by
  have h1 := h.mem
  have h2 := h.pos
  unfold askE errC
  rw [if_neg (by omega)]
  cases hb : hasB cs.length m
  · have := has_f hb
    rw [if_pos (by omega), if_neg (by decide)]
  · have := has_t hb
    rw [if_neg (by omega), if_pos rfl]
theorem rel_ask0 {m : Int} : askE s.mem m = 0 ↔ hasB cs.length m = true := by
  rw [rel_ask h]; unfold errC
  constructor
  · intro x
    split at x
    · assumption
    · cases x
  · intro x; rw [if_pos x]
theorem rel_setE (m q : Int) : setE s m q = setEC cs.length m q := by
  unfold setE setEC
  by_cases hb : hasB cs.length m = true
  · rw [if_pos ((rel_ask0 h).2 hb)]
    by_cases hq : q = 0
    · rw [if_pos hq, if_neg (fun x => x.2 hq)]
    · rw [if_neg hq, if_pos ⟨hb, hq⟩]
  · have h0 : ¬ askE s.mem m = 0 := fun x => hb ((rel_ask0 h).1 x)
    rw [if_neg h0, if_neg (fun x => hb x.1), rel_ask h]
    unfold errC
    rw [if_neg hb]
theorem rel_get (m : Int) : getV s m = gtB cs m ∧ getK s m = gtK cs m := by
  unfold gtB gtK
  by_cases hb : hasB cs.length m = true
  · have hm := has_t hb
    have ha := (rel_ask0 h).2 hb
    rw [if_pos hb, if_pos hb]
    cases hk : (cs.getD m.toNat cel0).k
    · have hk' := (h.kn m.toNat (by omega)).trans hk
      rw [getV_no (.inr hk'), getK_no (.inr hk'), h.no m.toNat (by omega) hk]
      exact ⟨rfl, rfl⟩
    · have hk' := (h.kn m.toNat (by omega)).trans hk
      rw [getV_is ha hk', getK_is ha hk', h.bl m.toNat (by omega) hk]
      exact ⟨rfl, rfl⟩
  · have h0 : askE s.mem m ≠ 0 := fun x => hb ((rel_ask0 h).1 x)
    rw [if_neg hb, if_neg hb, getV_no (.inl h0), getK_no (.inl h0)]
    exact ⟨rfl, rfl⟩
theorem rel_dirty : dirtyL s = csel cs cs.length := by
  unfold dirtyL
  have e : s.mem.toNat = cs.length := by have := h.mem; omega
  rw [e]
  have key : ∀ j, j ≤ cs.length → dsel s.dt j = csel cs j := by
    intro j
    induction j with
    | zero => intro _; rfl
    | succ j ih =>
      intro hj
      rw [dsel, csel, ih (by omega), h.dt j (by omega)]
  exact key _ (Nat.le_refl _)
theorem rel_up : Rel s cs sq (n + 1) := ⟨h.mem, h.pos, h.top, h.kn, h.dt, h.bl, h.no, h.fs, h.nd, h.qs, by have := h.len; omega⟩
theorem getD_setC (i j : Nat) (x : Cel) (hi : i < cs.length) : (cs.set i x).getD j cel0 = if i = j then x else cs.getD j cel0 := getD_set cs i j x cel0 hi
theorem rel_learn (m : Int) (b : Blk) : Rel (learnS s m b) (lrnC cs m b) sq (n + 1) := by
  have hl := rel_up h
  unfold learnS lrnC
  by_cases hb : hasB cs.length m = true
  · have hm := has_t hb
    have ha := (rel_ask0 h).2 hb
    have hk := h.kn m.toNat (by omega)
    have ht := h.top
    by_cases hk2 : (cs.getD m.toNat cel0).k = false
    · rw [if_pos ⟨ha, hk.trans hk2⟩, if_pos ⟨hb, hk2⟩]
      have hdd := (h.dt m.toNat (by omega)).trans (h.nd m.toNat (by omega) hk2)
      refine ⟨by rw [List.length_set]; exact h.mem, by rw [List.length_set]; exact h.pos, by rw [List.length_set]; exact h.top, ?_, ?_, ?_, ?_, h.fs, ?_, h.qs, hl.len⟩
      · intro i hi
        rw [List.length_set] at hi
        rw [getD_setC h _ _ _ (by omega)]
        show (s.kn.set m.toNat true).getD i false = _
        rw [getD_set _ _ _ _ _ (by rw [s.hk]; omega)]
        split
        · rfl
        · exact h.kn i hi
      · intro i hi
        rw [List.length_set] at hi
        rw [getD_setC h _ _ _ (by omega)]
        show s.dt.getD i false = _
        split
        · rename_i e; subst e; exact hdd
        · exact h.dt i hi
      · intro i hi
        rw [List.length_set] at hi
        rw [getD_setC h _ _ _ (by omega)]
        show _ → (s.bl.set m.toNat b).getD i zB = _
        rw [getD_set _ _ _ _ _ (by rw [s.hb]; omega)]
        split
        · intro _; rfl
        · exact h.bl i hi
      · intro i hi
        rw [List.length_set] at hi
        rw [getD_setC h _ _ _ (by omega)]
        split
        · intro x; cases x
        · exact h.no i hi
      · intro i hi
        rw [List.length_set] at hi
        rw [getD_setC h _ _ _ (by omega)]
        split
        · intro x; cases x
        · exact h.nd i hi
    · rw [if_neg (fun x => hk2 (hk.symm.trans x.2)), if_neg (fun x => hk2 x.2)]; exact hl
  · have h0 : ¬ askE s.mem m = 0 := fun x => hb ((rel_ask0 h).1 x)
    rw [if_neg (fun x => h0 x.1), if_neg (fun x => hb x.1)]; exact hl
theorem rel_set (m : Int) (b : Blk) (q : Int) (hq : 0 ≤ q ∧ q ≤ 18446744073709551615) : Rel (setS s m b q) (setC cs m b q) (setQ cs.length sq m q) (n + 1) := by
  have hl := rel_up h
  unfold setS setC setQ
  rw [rel_setE h]
  by_cases he : setEC cs.length m q = 0
  · rw [if_pos he, if_pos he, if_pos he]
    have hx : hasB cs.length m = true ∧ q ≠ 0 := by
      unfold setEC at he
      split at he
      · assumption
      · cases he
    obtain ⟨hb, hq0⟩ := hx
    have hm := has_t hb
    have ht := h.top
    have core : ∀ f, f = leastQ (sq ++ [q]) → Rel ((((s.setKn m.toNat true).setDt m.toNat true).setBl m.toNat b).setFs f) (cs.set m.toNat ⟨true, true, b⟩) (sq ++ [q]) (n + 1) := by
      intro f hf
      refine ⟨by rw [List.length_set]; exact h.mem, by rw [List.length_set]; exact h.pos, by rw [List.length_set]; exact h.top, ?_, ?_, ?_, ?_, hf, ?_, ?_, ?_⟩
      · intro i hi
        rw [List.length_set] at hi
        rw [getD_setC h _ _ _ (by omega)]
        show (s.kn.set m.toNat true).getD i false = _
        rw [getD_set _ _ _ _ _ (by rw [s.hk]; omega)]
        split
        · rfl
        · exact h.kn i hi
      · intro i hi
        rw [List.length_set] at hi
        rw [getD_setC h _ _ _ (by omega)]
        show (s.dt.set m.toNat true).getD i false = _
        rw [getD_set _ _ _ _ _ (by rw [s.hd]; omega)]
        split
        · rfl
        · exact h.dt i hi
      · intro i hi
        rw [List.length_set] at hi
        rw [getD_setC h _ _ _ (by omega)]
        show _ → (s.bl.set m.toNat b).getD i zB = _
        rw [getD_set _ _ _ _ _ (by rw [s.hb]; omega)]
        split
        · intro _; rfl
        · exact h.bl i hi
      · intro i hi
        rw [List.length_set] at hi
        rw [getD_setC h _ _ _ (by omega)]
        split
        · intro x; cases x
        · exact h.no i hi
      · intro i hi
        rw [List.length_set] at hi
        rw [getD_setC h _ _ _ (by omega)]
        split
        · intro x; cases x
        · exact h.nd i hi
      · intro x hx
        rcases List.mem_append.1 hx with hx | hx
        · exact h.qs x hx
        · rw [List.mem_singleton.1 hx]; omega
      · have := h.len; simp; omega
    by_cases c : s.fs = 0 ∨ q < s.fs
    · rw [if_pos c]
      refine core q ?_
      rw [least_snoc, ← h.fs, if_pos c]
    · rw [if_neg c]
      have := core s.fs (by rw [least_snoc, ← h.fs, if_neg c])
      exact this
  · rw [if_neg he, if_neg he, if_neg he]; exact hl
theorem rel_forget (m : Int) : Rel (forgetS s m) (fgtC cs m) sq (n + 1) := by
  have hl := rel_up h
  unfold forgetS fgtC
  by_cases hb : hasB cs.length m = true
  · have hm := has_t hb
    have ha := (rel_ask0 h).2 hb
    have ht := h.top
    rw [if_pos ha, if_pos hb]
    refine ⟨by rw [List.length_set]; exact h.mem, by rw [List.length_set]; exact h.pos, by rw [List.length_set]; exact h.top, ?_, ?_, ?_, ?_, h.fs, ?_, h.qs, hl.len⟩
    · intro i hi
      rw [List.length_set] at hi
      rw [getD_setC h _ _ _ (by omega)]
      show (s.kn.set m.toNat false).getD i false = _
      rw [getD_set _ _ _ _ _ (by rw [s.hk]; omega)]
      split
      · rfl
      · exact h.kn i hi
    · intro i hi
      rw [List.length_set] at hi
      rw [getD_setC h _ _ _ (by omega)]
      show (s.dt.set m.toNat false).getD i false = _
      rw [getD_set _ _ _ _ _ (by rw [s.hd]; omega)]
      split
      · rfl
      · exact h.dt i hi
    · intro i hi
      rw [List.length_set] at hi
      rw [getD_setC h _ _ _ (by omega)]
      show _ → (s.bl.set m.toNat zB).getD i zB = _
      rw [getD_set _ _ _ _ _ (by rw [s.hb]; omega)]
      split
      · intro x; cases x
      · exact h.bl i hi
    · intro i hi
      rw [List.length_set] at hi
      rw [getD_setC h _ _ _ (by omega)]
      split
      · intro _; rfl
      · exact h.no i hi
    · intro i hi
      rw [List.length_set] at hi
      rw [getD_setC h _ _ _ (by omega)]
      split
      · intro _; rfl
      · exact h.nd i hi
  · have h0 : ¬ askE s.mem m = 0 := fun x => hb ((rel_ask0 h).1 x)
    rw [if_neg h0, if_neg hb]; exact hl
theorem cln_get (j i : Nat) (hj : j ≤ cs.length) (hi : i < cs.length) : (clnC cs j).getD i cel0 = if i < j then { cs.getD i cel0 with d := false } else cs.getD i cel0 := by
  induction j with
  | zero => rw [if_neg (by omega)]; rfl
  | succ j ih =>
    have hlen := cln_len cs j
    rw [clnC, getD_set _ _ _ _ _ (by rw [hlen]; omega)]
    by_cases e : j = i
    · subst e
      rw [if_pos rfl, if_pos (by omega), ih (by omega), if_neg (by omega)]
    · rw [if_neg e, ih (by omega)]
      by_cases e2 : i < j
      · rw [if_pos e2, if_pos (by omega)]
      · rw [if_neg e2, if_neg (by omega)]
theorem rel_clean : Rel (cleanS s) (clnC cs cs.length) [] (n + 1) := by
  have hm := h.mem
  have hp := h.pos
  have hlen := cln_len cs cs.length
  unfold cleanS
  rw [if_neg (by omega)]
  have g := fun i hi => cln_get h cs.length i (Nat.le_refl _) hi
  refine ⟨by rw [hlen]; exact h.mem, by omega, by rw [hlen]; exact h.top, ?_, ?_, ?_, ?_, rfl, ?_, ?_, Nat.zero_le _⟩
  · intro i hi
    rw [hlen] at hi
    rw [g i hi, if_pos hi]
    exact h.kn i hi
  · intro i hi
    rw [hlen] at hi
    rw [g i hi, if_pos hi]
    exact rep_no i
  · intro i hi
    rw [hlen] at hi
    rw [g i hi, if_pos hi]
    exact h.bl i hi
  · intro i hi
    rw [hlen] at hi
    rw [g i hi, if_pos hi]
    exact h.no i hi
  · intro i hi
    rw [hlen] at hi
    rw [g i hi, if_pos hi]
    intro _; rfl
  · intro x hx; cases hx
theorem rel_cleanE : cleanE s = 0 := by
  have hm := h.mem
  have hp := h.pos
  exact cleanE_ok (by omega)
end
theorem rel_new (n : Nat) (h1 : 1 ≤ n) (h2 : n ≤ 16) : Rel (newL n) (List.replicate n cel0) [] 0 := by
  have g : ∀ i, (List.replicate n cel0).getD i cel0 = cel0 := by
    intro i
    simp only [List.getD_eq_getElem?_getD, List.getElem?_replicate]
    split <;> rfl
  refine ⟨by rw [List.length_replicate]; rfl, by rw [List.length_replicate]; exact h1, by rw [List.length_replicate]; exact h2, ?_, ?_, ?_, ?_, rfl, ?_, ?_, Nat.le_refl _⟩
  · intro i _; rw [g]; exact rep_no i
  · intro i _; rw [g]; exact rep_no i
  · intro i _ hk; rw [g] at hk; cases hk
  · intro i _ _; rw [g]; rfl
  · intro i _ _; rw [g]; rfl
  · intro x hx; cases hx

/-! ### For the walks -/
theorem at_getD {l : List Cel} {i : Nat} (h : i < l.length) : l[i]? = some (l.getD i cel0) := by
  rw [List.getD_eq_getElem?_getD, List.getElem?_eq_getElem h]; rfl
theorem Cel.setd' (l : List Cel) (i : Nat) (h : i < l.length) (d : Bool) : (eCel.enc l[i]).take 1 ++ (Value.bool d).cells.toList ++ (eCel.enc l[i]).drop (1 + (Value.bool d).cells.size) = eCel.enc { l.getD i cel0 with d := d } := by
  rw [show l.getD i cel0 = l[i] from by rw [List.getD_eq_getElem?_getD, List.getElem?_eq_getElem h]; rfl]
  exact Cel.setd _ _
theorem refs_eq {gr : Nat} {cs cs' : List Cel} {sq sq' : List Int} {H : Hp} (h1 : cs' = cs) (h2 : sq' = sq) (h : RefS gr cs sq H) : RefS gr cs' sq' H := by subst h1; subst h2; exact h
theorem csel_t' {cs : List Cel} {j : Nat} (h : (cs.getD j cel0).d = true) : csel cs j ++ [(j : Int)] = csel cs (j + 1) := by rw [csel, if_pos h]
theorem csel_f' {cs : List Cel} {j : Nat} (h : (cs.getD j cel0).d = false) : csel cs (j + 1) = csel cs j := by rw [csel, if_neg (by rw [h]; decide)]
section
variable {cs : List Cel} {sq : List Int} {m q : Int} {b : Blk} {n : Nat}
theorem errC_t (h : hasB n m = true) : errC n m = 0 := if_pos h
theorem errC_f (h : hasB n m = false) : errC n m = 2 := if_neg (by rw [h]; decide)
theorem lrnC_f (h : hasB cs.length m = false) : lrnC cs m b = cs := if_neg (fun x => by rw [x.1] at h; cases h)
theorem lrnC_k (h : (cs.getD m.toNat cel0).k = true) : lrnC cs m b = cs := if_neg (fun x => by rw [x.2] at h; cases h)
theorem lrnC_t (h : hasB cs.length m = true) (h2 : (cs.getD m.toNat cel0).k = false) : lrnC cs m b = cs.set m.toNat ⟨true, false, b⟩ := if_pos ⟨h, h2⟩
theorem setEC_t (h : hasB n m = true) (hq : ¬ q = 0) : setEC n m q = 0 := if_pos ⟨h, hq⟩
theorem setEC_f (h : hasB n m = false) : setEC n m q = 2 := if_neg (fun x => by rw [x.1] at h; cases h)
theorem setEC_q (hq : q = 0) : setEC n m q = 2 := if_neg (fun x => x.2 hq)
theorem setC_no (h : setEC cs.length m q = 2) : setC cs m b q = cs := if_neg (by omega)
theorem setQ_no (h : setEC n m q = 2) : setQ n sq m q = sq := if_neg (by omega)
theorem setC_is (h : setEC cs.length m q = 0) : setC cs m b q = cs.set m.toNat ⟨true, true, b⟩ := if_pos h
theorem setQ_is (h : setEC n m q = 0) : setQ n sq m q = sq ++ [q] := if_pos h
theorem fgtC_t (h : hasB cs.length m = true) : fgtC cs m = cs.set m.toNat cel0 := if_pos h
theorem fgtC_f (h : hasB cs.length m = false) : fgtC cs m = cs := if_neg (by rw [h]; decide)
theorem lrn_len : (lrnC cs m b).length = cs.length := by unfold lrnC; split <;> simp
theorem setC_len : (setC cs m b q).length = cs.length := by unfold setC; split <;> simp
theorem fgt_len : (fgtC cs m).length = cs.length := by unfold fgtC; split <;> simp
theorem gtB_t (h : hasB cs.length m = true) : gtB cs m = (cs.getD m.toNat cel0).b := if_pos h
theorem gtB_f (h : hasB cs.length m = false) : gtB cs m = zB := if_neg (by rw [h]; decide)
theorem gtK_t (h : hasB cs.length m = true) : gtK cs m = (cs.getD m.toNat cel0).k := if_pos h
theorem gtK_f (h : hasB cs.length m = false) : gtK cs m = false := if_neg (by rw [h]; decide)
end
end Go.Proofs.Ytediblifbfhahaa.Line
