/- Proved: how a line lies in memory, what its functions come to in plain words, and what the program's rows say of their types; the conditions stand in the statements. -/
import Derived.Test.YtediblifbfhahaaProg
import Derived.Test.YtediblifbfhahaaEngJ
import Derived.Laws.Tables
set_option linter.unusedVariables false
set_option linter.unusedSimpArgs false
namespace Go.Proofs.Ytediblifbfhahaa.Line
open Go Go.RowKit Go.Proofs.Ytediblifbfhahaa.Eng

theorem s3 : (Try.prog.info? 3).map (·.size) = some 1 := by kernel_rfl
theorem s4 : (Try.prog.info? 4).map (·.size) = some 1 := by kernel_rfl
theorem s5 : (Try.prog.info? 5).map (·.size) = some 1 := by kernel_rfl
theorem s23 : (Try.prog.info? 23).map (·.size) = some 64 := by kernel_rfl
theorem s24 : (Try.prog.info? 24).map (·.size) = some 1 := by kernel_rfl
theorem s25 : (Try.prog.info? 25).map (·.size) = some 1 := by kernel_rfl
theorem s26 : (Try.prog.info? 26).map (·.size) = some 1 := by kernel_rfl
theorem s33 : (Try.prog.info? 33).map (·.size) = some 1 := by kernel_rfl
theorem s41 : (Try.prog.info? 41).map (·.size) = some 67 := by kernel_rfl
theorem s45 : (Try.prog.info? 45).map (·.size) = some 1 := by kernel_rfl
theorem s51 : (Try.prog.info? 51).map (·.size) = some 16 := by kernel_rfl
theorem s52 : (Try.prog.info? 52).map (·.size) = some 1024 := by kernel_rfl
theorem s54 : (Try.prog.info? 54).map (·.size) = some 1058 := by kernel_rfl
theorem s57 : (Try.prog.info? 57).map (·.size) = some 1 := by kernel_rfl
theorem s58 : (Try.prog.info? 58).map (·.size) = some 1 := by kernel_rfl
theorem s60 : (Try.prog.info? 60).map (·.size) = some 2 := by kernel_rfl
theorem s63 : (Try.prog.info? 63).map (·.size) = some 66 := by kernel_rfl
theorem T23 : BlkType Try.prog 23 5 := ⟨Try.underlying23, Try.underlying5, s23, s5, by kernel_rfl⟩
def zB : Blk := Vector.replicate 64 0
/-- A block with one byte. -/
def oneB (n : UInt8) : Blk := zB.set 0 n
theorem z23 : (Try.prog.info? 23).map (·.zero) = some (some (.agg (bv zB))) := by kernel_rfl
theorem SL33 : SlType Try.prog 33 3 eInt 8 := SlType.mk' (.int .i64 0) Try.underlying33 (by kernel_rfl) (by simp [Value.cells, eInt])
theorem SL58 : SlType Try.prog 58 24 eU64 8 := SlType.mk' (.int .u64 0) Try.underlying58 (by kernel_rfl) (by simp [Value.cells, eU64])
theorem b7 : Bodied Try.prog 7 := ⟨_, Try.func7, by kernel_rfl, rfl⟩
theorem b8 : Bodied Try.prog 8 := ⟨_, Try.func8, by kernel_rfl, rfl⟩
theorem b9 : Bodied Try.prog 9 := ⟨_, Try.func9, by kernel_rfl, rfl⟩
theorem b10 : Bodied Try.prog 10 := ⟨_, Try.func10, by kernel_rfl, rfl⟩
theorem b11 : Bodied Try.prog 11 := ⟨_, Try.func11, by kernel_rfl, rfl⟩
theorem b12 : Bodied Try.prog 12 := ⟨_, Try.func12, by kernel_rfl, rfl⟩
theorem b13 : Bodied Try.prog 13 := ⟨_, Try.func13, by kernel_rfl, rfl⟩
theorem b14 : Bodied Try.prog 14 := ⟨_, Try.func14, by kernel_rfl, rfl⟩
theorem b15 : Bodied Try.prog 15 := ⟨_, Try.func15, by kernel_rfl, rfl⟩
theorem b16 : Bodied Try.prog 16 := ⟨_, Try.func16, by kernel_rfl, rfl⟩
theorem b17 : Bodied Try.prog 17 := ⟨_, Try.func17, by kernel_rfl, rfl⟩
theorem b18 : Bodied Try.prog 18 := ⟨_, Try.func18, by kernel_rfl, rfl⟩
theorem b19 : Bodied Try.prog 19 := ⟨_, Try.func19, by kernel_rfl, rfl⟩
theorem b20 : Bodied Try.prog 20 := ⟨_, Try.func20, by kernel_rfl, rfl⟩
theorem b21 : Bodied Try.prog 21 := ⟨_, Try.func21, by kernel_rfl, rfl⟩
theorem b22 : Bodied Try.prog 22 := ⟨_, Try.func22, by kernel_rfl, rfl⟩
theorem b23 : Bodied Try.prog 23 := ⟨_, Try.func23, by kernel_rfl, rfl⟩
theorem b24 : Bodied Try.prog 24 := ⟨_, Try.func24, by kernel_rfl, rfl⟩
theorem b25 : Bodied Try.prog 25 := ⟨_, Try.func25, by kernel_rfl, rfl⟩
theorem b26 : Bodied Try.prog 26 := ⟨_, Try.func26, by kernel_rfl, rfl⟩
theorem b27 : Bodied Try.prog 27 := ⟨_, Try.func27, by kernel_rfl, rfl⟩
theorem b28 : Bodied Try.prog 28 := ⟨_, Try.func28, by kernel_rfl, rfl⟩
theorem b29 : Bodied Try.prog 29 := ⟨_, Try.func29, by kernel_rfl, rfl⟩

/-! ### A line -/
structure LS where
  mem : Int
  kn : List Bool
  dt : List Bool
  bl : List Blk
  fs : Int
  hk : kn.length = 16
  hd : dt.length = 16
  hb : bl.length = 16
namespace LS
def pre (s : LS) : List Value := [Value.int .i64 s.mem]
def enc (s : LS) : Array Value := ([Value.int .i64 s.mem] ++ s.kn.flatMap eBool.enc ++ s.dt.flatMap eBool.enc ++ s.bl.flatMap eBlk.enc ++ [Value.int .u64 s.fs]).toArray
def setKn (s : LS) (i : Nat) (b : Bool) : LS := { s with kn := s.kn.set i b, hk := by simp [s.hk] }
def setDt (s : LS) (i : Nat) (b : Bool) : LS := { s with dt := s.dt.set i b, hd := by simp [s.hd] }
def setBl (s : LS) (i : Nat) (b : Blk) : LS := { s with bl := s.bl.set i b, hb := by simp [s.hb] }
def setFs (s : LS) (q : Int) : LS := { s with fs := q }
def clrDt (s : LS) : LS := { s with dt := List.replicate 16 false, hd := by simp }
variable (s : LS)
theorem lk : (s.kn.flatMap eBool.enc).length = 16 := by rw [eBool.flat_len, s.hk]; rfl
theorem ld : (s.dt.flatMap eBool.enc).length = 16 := by rw [eBool.flat_len, s.hd]; rfl
theorem lb : (s.bl.flatMap eBlk.enc).length = 1024 := by rw [eBlk.flat_len, s.hb]; rfl
theorem size : s.enc.size = 1058 := by simp [enc, s.lk, s.ld, s.lb]
theorem rd_mem : s.enc[0]? = some (.int .i64 s.mem) := by simp [enc]
theorem kn_at (i : Nat) (hi : i < 16) : s.enc[1 + i]? = some (.bool (s.kn.getD i false)) := by
  have hi' : i < s.kn.length := by rw [s.hk]; exact hi
  have h1 : (s.kn.flatMap eBool.enc)[i]? = some (.bool (s.kn.getD i false)) := by
    have := eBool.flat_at s.kn i hi' 0 (.bool s.kn[i]) rfl
    rw [show i * eBool.sz + 0 = i by show i * 1 + 0 = i; omega] at this
    rw [this, List.getD_eq_getElem?_getD, List.getElem?_eq_getElem hi']; rfl
  have h2 := seg_get (A := [Value.int .i64 s.mem]) (C := s.dt.flatMap eBool.enc ++ (s.bl.flatMap eBlk.enc ++ [Value.int .u64 s.fs])) (k := 1) rfl h1
  simpa [enc, List.append_assoc] using h2
theorem dt_at (i : Nat) (hi : i < 16) : s.enc[17 + i]? = some (.bool (s.dt.getD i false)) := by
  have hi' : i < s.dt.length := by rw [s.hd]; exact hi
  have h1 : (s.dt.flatMap eBool.enc)[i]? = some (.bool (s.dt.getD i false)) := by
    have := eBool.flat_at s.dt i hi' 0 (.bool s.dt[i]) rfl
    rw [show i * eBool.sz + 0 = i by show i * 1 + 0 = i; omega] at this
    rw [this, List.getD_eq_getElem?_getD, List.getElem?_eq_getElem hi']; rfl
  have h2 := seg_get (A := [Value.int .i64 s.mem] ++ s.kn.flatMap eBool.enc) (C := s.bl.flatMap eBlk.enc ++ [Value.int .u64 s.fs]) (k := 17) (by rw [List.length_append, s.lk]; rfl) h1
  simpa [enc, List.append_assoc] using h2
theorem fs_at : s.enc[1057]? = some (.int .u64 s.fs) := by
  have h2 := seg_get (A := [Value.int .i64 s.mem] ++ s.kn.flatMap eBool.enc ++ s.dt.flatMap eBool.enc ++ s.bl.flatMap eBlk.enc) (B := [Value.int .u64 s.fs]) (C := []) (k := 1057) (j := 0) (by simp only [List.length_append, s.lk, s.ld, s.lb]; rfl) rfl
  simpa [enc, List.append_assoc] using h2
theorem bl_at (i : Nat) (hi : i < 16) (j : Nat) (v : Value) (hv : (bv (s.bl.getD i zB)).toList[j]? = some v) : s.enc[33 + i * 64 + j]? = some v := by
  have hi' : i < s.bl.length := by rw [s.hb]; exact hi
  have e : s.bl.getD i zB = s.bl[i] := by rw [List.getD_eq_getElem?_getD, List.getElem?_eq_getElem hi']; rfl
  rw [e] at hv
  have h1 := eBlk.flat_at s.bl i hi' j v hv
  have h2 := seg_get (A := [Value.int .i64 s.mem] ++ s.kn.flatMap eBool.enc ++ s.dt.flatMap eBool.enc) (C := [Value.int .u64 s.fs]) (k := 33) (by simp only [List.length_append, s.lk, s.ld]; rfl) h1
  rw [show 33 + i * 64 + j = 33 + (i * eBlk.sz + j) by show _ = 33 + (i * 64 + j); omega]
  simpa [enc, List.append_assoc] using h2
theorem st_kn (i : Nat) (hi : i < 16) (b : Bool) : s.enc.toList.take (1 + i) ++ (Value.bool b).cells.toList ++ s.enc.toList.drop (1 + i + (Value.bool b).cells.size) = (s.setKn i b).enc.toList := by
  have h := seg_set (A := [Value.int .i64 s.mem]) (B := s.kn.flatMap eBool.enc) (C := s.dt.flatMap eBool.enc ++ (s.bl.flatMap eBlk.enc ++ [Value.int .u64 s.fs])) (vs := [Value.bool b]) (k := 1 + i) (j := i) (m := 1 + i + 1) rfl rfl (by rw [s.lk]; simp; omega)
  have h2 := flat_set (E := eBool) s.kn i (by rw [s.hk]; exact hi) b
  rw [show i * eBool.sz = i by show i * 1 = i; omega] at h2
  have h3 : List.take i (s.kn.flatMap eBool.enc) ++ [Value.bool b] ++ List.drop (i + [Value.bool b].length) (s.kn.flatMap eBool.enc) = (s.kn.set i b).flatMap eBool.enc := h2
  rw [h3] at h
  simpa [enc, setKn, Value.cells, List.append_assoc] using h
theorem st_dt (i : Nat) (hi : i < 16) (b : Bool) : s.enc.toList.take (17 + i) ++ (Value.bool b).cells.toList ++ s.enc.toList.drop (17 + i + (Value.bool b).cells.size) = (s.setDt i b).enc.toList := by
  have h := seg_set (A := [Value.int .i64 s.mem] ++ s.kn.flatMap eBool.enc) (B := s.dt.flatMap eBool.enc) (C := s.bl.flatMap eBlk.enc ++ [Value.int .u64 s.fs]) (vs := [Value.bool b]) (k := 17 + i) (j := i) (m := 17 + i + 1) (by rw [List.length_append, s.lk]; rfl) rfl (by rw [s.ld]; simp; omega)
  have h2 := flat_set (E := eBool) s.dt i (by rw [s.hd]; exact hi) b
  rw [show i * eBool.sz = i by show i * 1 = i; omega] at h2
  have h3 : List.take i (s.dt.flatMap eBool.enc) ++ [Value.bool b] ++ List.drop (i + [Value.bool b].length) (s.dt.flatMap eBool.enc) = (s.dt.set i b).flatMap eBool.enc := h2
  rw [h3] at h
  simpa [enc, setDt, Value.cells, List.append_assoc] using h
theorem st_bl (i : Nat) (hi : i < 16) (b : Blk) : s.enc.toList.take (33 + i * 64) ++ (Value.agg (bv b)).cells.toList ++ s.enc.toList.drop (33 + i * 64 + (Value.agg (bv b)).cells.size) = (s.setBl i b).enc.toList := by
  have h := seg_set (A := [Value.int .i64 s.mem] ++ s.kn.flatMap eBool.enc ++ s.dt.flatMap eBool.enc) (B := s.bl.flatMap eBlk.enc) (C := [Value.int .u64 s.fs]) (vs := (bv b).toList) (k := 33 + i * 64) (j := i * 64) (m := 33 + i * 64 + 64) (by simp only [List.length_append, s.lk, s.ld]; rfl) (by simp [bv_size]) (by rw [s.lb]; simp [bv_size]; omega)
  have h2 := flat_set (E := eBlk) s.bl i (by rw [s.hb]; exact hi) b
  have h3 : List.take (i * 64) (s.bl.flatMap eBlk.enc) ++ (bv b).toList ++ List.drop (i * 64 + (bv b).toList.length) (s.bl.flatMap eBlk.enc) = (s.bl.set i b).flatMap eBlk.enc := by
    rw [show (bv b).toList.length = 64 by simp [bv_size]]; exact h2
  rw [h3] at h
  simpa [enc, setBl, Value.cells, bv_size, List.append_assoc] using h
theorem st_fs (q : Int) : s.enc.toList.take 1057 ++ (Value.int .u64 q).cells.toList ++ s.enc.toList.drop (1057 + (Value.int .u64 q).cells.size) = (s.setFs q).enc.toList := by
  have h := seg_set (A := [Value.int .i64 s.mem] ++ s.kn.flatMap eBool.enc ++ s.dt.flatMap eBool.enc ++ s.bl.flatMap eBlk.enc) (B := [Value.int .u64 s.fs]) (C := []) (vs := [Value.int .u64 q]) (k := 1057) (j := 0) (m := 1058) (by simp only [List.length_append, s.lk, s.ld, s.lb]; rfl) rfl (by simp)
  simpa [enc, setFs, Value.cells, List.append_assoc] using h
def noD : Array Value := Array.replicate 16 (.bool false)
theorem noD_is : noD.toList = (List.replicate 16 false).flatMap eBool.enc := rfl
theorem st_clr : s.enc.toList.take 17 ++ (Value.agg noD).cells.toList ++ s.enc.toList.drop (17 + (Value.agg noD).cells.size) = s.clrDt.enc.toList := by
  have h := seg_set (A := [Value.int .i64 s.mem] ++ s.kn.flatMap eBool.enc) (B := s.dt.flatMap eBool.enc) (C := s.bl.flatMap eBlk.enc ++ [Value.int .u64 s.fs]) (vs := noD.toList) (k := 17) (j := 0) (m := 17 + 16) (by rw [List.length_append, s.lk]; rfl) (by rw [noD_is]; rfl) (by rw [s.ld]; decide)
  have h3 : List.take 0 (s.dt.flatMap eBool.enc) ++ noD.toList ++ List.drop (0 + noD.toList.length) (s.dt.flatMap eBool.enc) = (List.replicate 16 false).flatMap eBool.enc := by
    rw [List.take_zero, List.nil_append, List.drop_eq_nil_of_le (by rw [s.ld]; decide), List.append_nil]; rfl
  rw [h3] at h
  simpa [enc, clrDt, Value.cells, noD, List.append_assoc] using h
end LS
def newL (n : Int) : LS := ⟨n, List.replicate 16 false, List.replicate 16 false, List.replicate 16 zB, 0, by simp, by simp, by simp⟩

/-! ### Acts -/
structure Act where
  a : Int
  m : Int
  b : Blk
  q : Int
def eAct : Enc Act := ⟨fun x => [.int .i64 x.a, .int .i64 x.m] ++ (bv x.b).toList ++ [.int .u64 x.q], 67, fun x => by simp [bv_size], fun x v hv => by
  rcases List.mem_append.1 hv with hv | hv
  · rcases List.mem_append.1 hv with hv | hv
    · simp at hv; rcases hv with rfl | rfl <;> rfl
    · exact bv_one x.b v hv
  · simp at hv; subst hv; rfl, by omega⟩
def Act.arr (x : Act) : Array Value := (eAct.enc x).toArray
theorem Act.size (x : Act) : x.arr.size = 67 := by have : (eAct.enc x).length = 67 := eAct.len x; simpa [Act.arr] using this
theorem Act.one (x : Act) : ∀ u ∈ x.arr.toList, u.oneCell' = true := by intro u hu; exact eAct.one x u (by simpa [Act.arr] using hu)
theorem Act.at_a (x : Act) : x.arr[0]? = some (.int .i64 x.a) := by simp [Act.arr, eAct]
theorem Act.at_m (x : Act) : x.arr[1]? = some (.int .i64 x.m) := by simp [Act.arr, eAct]
theorem Act.at_q (x : Act) : x.arr[66]? = some (.int .u64 x.q) := by
  have h2 := seg_get (A := [Value.int .i64 x.a, .int .i64 x.m] ++ (bv x.b).toList) (B := [Value.int .u64 x.q]) (C := []) (k := 66) (j := 0) (by simp [bv_size]) rfl
  simpa [Act.arr, eAct, List.append_assoc] using h2
theorem Act.at_b (x : Act) (j : Nat) (v : Value) (hv : (bv x.b).toList[j]? = some v) : x.arr[2 + j]? = some v := by
  have h2 := seg_get (A := [Value.int .i64 x.a, .int .i64 x.m]) (C := [Value.int .u64 x.q]) (k := 2) rfl hv
  simpa [Act.arr, eAct, List.append_assoc] using h2
theorem _root_.Go.Proofs.Ytediblifbfhahaa.Eng.SlG.rd' {w0 : World} {S : Nat → Prop} {H : Hp} {α : Type} {E : Enc α} {l : List α} {a : Option Addr} {b o cap : Nat} (h : SlG E w0 S H l a b o cap) {i : Nat} {x : α} (hx : l[i]? = some x) : Rd w0 S H b (o + i * E.sz) (E.enc x) := by
  obtain ⟨hi, rfl⟩ := List.getElem?_eq_some_iff.1 hx
  exact h.rd i hi
def act0 : Act := ⟨0, 0, zB, 0⟩
theorem z41 : (Try.prog.info? 41).map (·.zero) = some (some (.agg (Act.arr act0))) := by kernel_rfl

/-! ### What its functions come to -/
def askE (mem m : Int) : Int := if mem = 0 then 1 else if m < 0 ∨ mem ≤ m then 2 else 0
def learnS (s : LS) (m : Int) (b : Blk) : LS := if askE s.mem m = 0 ∧ s.kn.getD m.toNat false = false then (s.setKn m.toNat true).setBl m.toNat b else s
def setE (s : LS) (m q : Int) : Int := if askE s.mem m = 0 then (if q = 0 then 2 else 0) else askE s.mem m
def setS (s : LS) (m : Int) (b : Blk) (q : Int) : LS :=
  if setE s m q = 0 then (if s.fs = 0 ∨ q < s.fs then (((s.setKn m.toNat true).setDt m.toNat true).setBl m.toNat b).setFs q else ((s.setKn m.toNat true).setDt m.toNat true).setBl m.toNat b) else s
def forgetS (s : LS) (m : Int) : LS := if askE s.mem m = 0 then ((s.setKn m.toNat false).setDt m.toNat false).setBl m.toNat zB else s
def getV (s : LS) (m : Int) : Blk := if askE s.mem m = 0 ∧ s.kn.getD m.toNat false = true then s.bl.getD m.toNat zB else zB
def getK (s : LS) (m : Int) : Bool := decide (askE s.mem m = 0) && s.kn.getD m.toNat false
def cleanE (s : LS) : Int := if s.mem = 0 then 1 else 0
def cleanS (s : LS) : LS := if s.mem = 0 then s else s.clrDt.setFs 0
def dsel (d : List Bool) : Nat → List Int
  | 0 => []
  | j + 1 => if d.getD j false = true then dsel d j ++ [(j : Int)] else dsel d j
def dirtyL (s : LS) : List Int := dsel s.dt s.mem.toNat
theorem dsel_t {d : List Bool} {j : Nat} (h : d.getD j false = true) : dsel d j ++ [(j : Int)] = dsel d (j + 1) := by rw [dsel, if_pos h]
theorem dsel_f {d : List Bool} {j : Nat} (h : d.getD j false = false) : dsel d (j + 1) = dsel d j := by rw [dsel, if_neg (by rw [h]; decide)]
theorem dsel_le (d : List Bool) (j : Nat) : (dsel d j).length ≤ j := by
  induction j with
  | zero => exact Nat.le_refl _
  | succ j ih =>
    rw [dsel]; split
    · rw [List.length_append, List.length_singleton]; omega
    · omega
theorem ask0 {mem m : Int} (h : askE mem m = 0) : 0 ≤ m ∧ m < mem ∧ mem ≠ 0 := by
  unfold askE at h
  split at h
  · cases h
  · split at h
    · cases h
    · omega
theorem ask_ok {mem m : Int} (h0 : 0 ≤ m) (h1 : m < mem) : askE mem m = 0 := by
  unfold askE
  rw [if_neg (by omega), if_neg (by omega)]
theorem getV_no {s : LS} {m : Int} (h : askE s.mem m ≠ 0 ∨ s.kn.getD m.toNat false = false) : getV s m = zB := by
  unfold getV; rw [if_neg]; rintro ⟨h1, h2⟩
  rcases h with h | h
  · exact h h1
  · rw [h] at h2; cases h2
theorem getV_is {s : LS} {m : Int} (h : askE s.mem m = 0) (h2 : s.kn.getD m.toNat false = true) : getV s m = s.bl.getD m.toNat zB := if_pos ⟨h, h2⟩
theorem getK_no {s : LS} {m : Int} (h : askE s.mem m ≠ 0 ∨ s.kn.getD m.toNat false = false) : getK s m = false := by
  unfold getK
  rcases h with h | h
  · rw [decide_eq_false h]; rfl
  · rw [h, Bool.and_false]
theorem getK_is {s : LS} {m : Int} (h : askE s.mem m = 0) (h2 : s.kn.getD m.toNat false = true) : getK s m = true := by unfold getK; rw [h2, decide_eq_true h]; rfl
theorem len_eq {a : Option Addr} {m m' c : Nat} (h : m = m') : Value.slice a m c = Value.slice a m' c := by rw [h]
theorem take_next {α : Type} {l m : List α} {j : Nat} (h : l.take j = m.take j) (h1 : j < l.length) (h2 : j < m.length) (e : l[j] = m[j]) : l.take (j + 1) = m.take (j + 1) := by
  rw [List.take_succ_eq_append_getElem h1, List.take_succ_eq_append_getElem h2, h, e]
theorem take_all {α : Type} {l m : List α} {j : Nat} (h : l.take j = m.take j) (h1 : l.length ≤ j) (h2 : m.length ≤ j) : l = m := by
  rwa [List.take_of_length_le h1, List.take_of_length_le h2] at h
end Go.Proofs.Ytediblifbfhahaa.Line
