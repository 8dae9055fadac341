/- Proved: how a row of whole numbers is sorted; how whole numbers in a slice are sorted and copied; the conditions stand in the statements. -/
import Derived.Test.YtnilejkfbcnkkaaGreatDoorM13
import Derived.Shelf.Sort.Plain
import Derived.Shelf.Slices.In.SortNone
set_option linter.unusedVariables false
set_option linter.unusedSimpArgs false
set_option linter.unusedSectionVars false
section
set_option maxRecDepth 100000
set_option maxHeartbeats 2000000
namespace Go.Proofs.YtnilejkfbcnkkaaGreatDoor.V
open Go Go.RowKit

section
open Go.Shelf
def lays189_ren : Go.Shelf.Ren := ⟨fun | 189 => 118 | 125 => 182 | 257 => 181 | 128 => 230 | 129 => 231 | 294 => 221 | 295 => 222 | 296 => 223 | 297 => 224 | 298 => 225 | 299 => 226 | 216 => 227 | 300 => 228 | 301 => 229 | 328 => 255 | 329 => 256 | 330 => 257 | 331 => 258 | 332 => 259 | 215 => 260 | 343 => 274 | n => n, fun | 28 => 30 | 3 => 3 | 46 => 43 | 0 => 0 | 51 => 263 | 53 => 66 | 4 => 4 | 183 => 275 | 182 => 274 | 131 => 159 | 5 => 5 | 9 => 9 | 218 => 308 | 222 => 311 | 228 => 322 | 229 => 323 | n => n, fun | n => n⟩
theorem lays189 : Go.Proofs.Lays.n189 Tryz.prog lays189_ren := {
  mixed := by kernel_rfl
  f125 := Tryz.func182.trans (congrArg some (by kernel_rfl))
  f128 := Tryz.func230.trans (congrArg some (by kernel_rfl))
  f129 := Tryz.func231.trans (congrArg some (by kernel_rfl))
  f189 := Tryz.func118.trans (congrArg some (by kernel_rfl))
  f215 := Tryz.func260.trans (congrArg some (by kernel_rfl))
  f216 := Tryz.func227.trans (congrArg some (by kernel_rfl))
  f257 := Tryz.func181.trans (congrArg some (by kernel_rfl))
  f294 := Tryz.func221.trans (congrArg some (by kernel_rfl))
  f295 := Tryz.func222.trans (congrArg some (by kernel_rfl))
  f296 := Tryz.func223.trans (congrArg some (by kernel_rfl))
  f297 := Tryz.func224.trans (congrArg some (by kernel_rfl))
  f298 := Tryz.func225.trans (congrArg some (by kernel_rfl))
  f299 := Tryz.func226.trans (congrArg some (by kernel_rfl))
  f300 := Tryz.func228.trans (congrArg some (by kernel_rfl))
  f301 := Tryz.func229.trans (congrArg some (by kernel_rfl))
  f328 := Tryz.func255.trans (congrArg some (by kernel_rfl))
  f329 := Tryz.func256.trans (congrArg some (by kernel_rfl))
  f330 := Tryz.func257.trans (congrArg some (by kernel_rfl))
  f331 := Tryz.func258.trans (congrArg some (by kernel_rfl))
  f332 := Tryz.func259.trans (congrArg some (by kernel_rfl))
  f343 := Tryz.func274.trans (congrArg some (by kernel_rfl))
  t0 := Tryz.underlying0
  a0 := Tryz.isAgg0
  z0 := Tryz.sizeOf0
  v0 := Tryz.zeroValue0
  t3 := Tryz.underlying3
  a3 := Tryz.isAgg3
  z3 := Tryz.sizeOf3
  v3 := Tryz.zeroValue3
  t4 := Tryz.underlying4
  a4 := Tryz.isAgg4
  z4 := Tryz.sizeOf4
  v4 := Tryz.zeroValue4
  t5 := Tryz.underlying5
  a5 := Tryz.isAgg5
  z5 := Tryz.sizeOf5
  v5 := Tryz.zeroValue5
  t9 := Tryz.underlying9
  a9 := Tryz.isAgg9
  z9 := Tryz.sizeOf9
  v9 := Tryz.zeroValue9
  t28 := Tryz.underlying30
  a28 := Tryz.isAgg30
  z28 := Tryz.sizeOf30
  v28 := Tryz.zeroValue30
  t46 := Tryz.underlying43
  a46 := Tryz.isAgg43
  z46 := Tryz.sizeOf43
  v46 := Tryz.zeroValue43
  t51 := Tryz.underlying263
  a51 := Tryz.isAgg263
  z51 := Tryz.sizeOf263
  v51 := Tryz.zeroValue263
  t53 := Tryz.underlying66
  a53 := Tryz.isAgg66
  z53 := Tryz.sizeOf66
  v53 := Tryz.zeroValue66
  t131 := Tryz.underlying159
  a131 := Tryz.isAgg159
  z131 := Tryz.sizeOf159
  v131 := Tryz.zeroValue159
  t182 := Tryz.underlying274
  a182 := Tryz.isAgg274
  z182 := Tryz.sizeOf274
  v182 := Tryz.zeroValue274
  t183 := Tryz.underlying275
  a183 := Tryz.isAgg275
  z183 := Tryz.sizeOf275
  v183 := Tryz.zeroValue275
  t218 := Tryz.underlying308
  a218 := Tryz.isAgg308
  z218 := Tryz.sizeOf308
  v218 := Tryz.zeroValue308
  t222 := Tryz.underlying311
  a222 := Tryz.isAgg311
  z222 := Tryz.sizeOf311
  v222 := Tryz.zeroValue311
  t228 := Tryz.underlying322
  a228 := Tryz.isAgg322
  z228 := Tryz.sizeOf322
  v228 := Tryz.zeroValue322
  t229 := Tryz.underlying323
  a229 := Tryz.isAgg323
  z229 := Tryz.sizeOf323
  v229 := Tryz.zeroValue323 }
end
variable [GlK]

def srt (l : List Nat) : List Nat := l.mergeSort fun a b => decide (a ≤ b)
theorem srt_perm {l : List Nat} : (srt l).Perm l := List.mergeSort_perm _ _
theorem srt_len {l : List Nat} : (srt l).length = l.length := srt_perm.length_eq
theorem srt_sorted {l : List Nat} : (srt l).Pairwise (· ≤ ·) := by
  have := List.pairwise_mergeSort (le := fun a b : Nat => decide (a ≤ b)) (by intro a b c h1 h2; simp at *; omega) (by intro a b; simp; omega) l
  exact this.imp (by simp)
theorem srt_int {l : List Nat} : (l.map (fun x : Nat => (x : Int))).mergeSort (fun x y => decide (x ≤ y)) = (srt l).map (fun x : Nat => (x : Int)) := by
  unfold srt
  rw [List.map_mergeSort (s := fun x y : Int => decide (x ≤ y)) (by intro a _ b _; simp)]
theorem f118r {l : List Nat} {g cap : Nat} (hl : l.length ≤ 1000000) : Ct Tryz.prog 118 [SL g l.length cap] [rowc eNat 3 l g cap] (fun v L => v = T [] ∧ L = [rowc eNat 3 (srt l) g cap]) := by
  intro w B hB hat
  obtain ⟨B1, B2, rfl, ⟨c, rfl, hr⟩, rfl⟩ := hB
  have hg : w.heap[g]? = some (.cells c 3 (0, 0)) := hat.1 (g, _) (by simp)
  have hgl : g < w.heap.size := (Array.getElem?_eq_some_iff.1 hg).1
  have hc : ∀ j (hj : j < l.length), c[j]? = some (I l[j]) := fun j hj => by
    have := hr.at_ j hj 0 (I l[j]) rfl
    simpa [eNat] using this
  have hH : Sort.Holds (Value.int .i64) w g 0 (l.map (fun x : Nat => (x : Int))).toArray := by
    intro j hj
    have hj' : j < l.length := by simpa using hj
    constructor
    · simp only [World.cell?, hg, Nat.zero_add]
      show c[j]? = _
      rw [hc j hj']
      rw [getElem!_pos _ j (by simpa using hj')]
      simp
    · simp [World.frozen?, hg]
  have hs := Any.slices_Sort_int lays189 g 0 cap (l.map (fun x : Nat => (x : Int))) w hH hgl (by rw [List.length_map]; omega)
  change Calls Tryz.prog 118 _ _ _ at hs
  rw [List.length_map, srt_int] at hs
  refine Calls.mono hs ?_
  rintro e w' ⟨rfl, n, os, rfl⟩
  have hcs : c.size = cap := by have := hr.size; simpa [eNat] using this
  have hle := hr.le
  have hb : (Sort.grow (Sort.putRow (Value.int .i64) (Sort.ahead w n) g 0 ((srt l).map (fun x : Nat => (x : Int))).toArray) os).heap[g]? = some (.cells (Sort.putCells (Value.int .i64) 0 ((srt l).map (fun x : Nat => (x : Int))).toArray c) 3 (0, 0)) := by
    show ((w.heap.modify g (Sort.onCells _)) ++ os)[g]? = _
    rw [Array.getElem?_append_left (by simpa using hgl), Array.getElem?_modify]
    simp [hg, Sort.onCells]
  have hrow : Row eNat (srt l) (Sort.putCells (Value.int .i64) 0 ((srt l).map (fun x : Nat => (x : Int))).toArray c) cap := by
    refine ⟨?_, ?_, hr.mx, ?_⟩
    · simp [Sort.putCells, hcs, eNat]
    · rw [srt_len]; exact hle
    · show List.take ((srt l).length * 1) _ = (srt l).flatMap fun x : Nat => [I x]
      rw [← List.map_eq_flatMap, Nat.mul_one]
      refine List.ext_getElem? fun k => ?_
      rw [List.getElem?_take]
      by_cases hk : k < (srt l).length
      · rw [if_pos hk]
        have hkc : k < c.size := by rw [hcs]; rw [srt_len] at hk; omega
        rw [Array.getElem?_toList]
        unfold Sort.putCells
        rw [Array.getElem?_mapIdx, Array.getElem?_eq_getElem hkc]
        simp only [Option.map_some, List.size_toArray, List.length_map, Nat.zero_add, Nat.zero_le, true_and, hk, if_true, Nat.sub_zero]
        rw [getElem!_pos _ k (by simpa using hk)]
        simp [hk]
      · rw [if_neg hk, List.getElem?_eq_none (by simp; omega)]
  refine ⟨.ret (T []), [rowc eNat 3 (srt l) g cap], rfl, ⟨T [], rfl, rfl, rfl⟩, ?_⟩
  refine ⟨[(g, .cells (Sort.putCells (Value.int .i64) 0 ((srt l).map (fun x : Nat => (x : Int))).toArray c) 3 (0, 0))], ⟨[(g, .cells (Sort.putCells (Value.int .i64) 0 ((srt l).map (fun x : Nat => (x : Int))).toArray c) 3 (0, 0))], [], rfl, ⟨_, rfl, hrow⟩, rfl⟩, ?_⟩
  refine ⟨?_, by simp, ?_, rfl, rfl, rfl, ?_, ?_⟩
  · intro p hp
    simp only [List.mem_singleton] at hp
    subst hp
    exact hb
  · intro p hp
    simp only [List.mem_singleton] at hp
    subst hp
    exact .inl (by simp [ids])
  · show _ ≤ ((w.heap.modify g (Sort.onCells _)) ++ os).size
    simp
  · intro b hb' hs'
    have hne : b ≠ g := by intro e; subst e; exact hs' (by simp [ids])
    show ((w.heap.modify g (Sort.onCells _)) ++ os)[b]? = _
    rw [Array.getElem?_append_left (by simpa using hb'), Array.getElem?_modify]
    rw [if_neg (Ne.symm hne)]
end Go.Proofs.YtnilejkfbcnkkaaGreatDoor.V
end
section
set_option maxRecDepth 100000
set_option maxHeartbeats 1000000
namespace Go.Proofs.YtnilejkfbcnkkaaGreatDoor.V
variable [GlK]
open Go Go.RowKit

theorem f118n {a : Option Addr} {c : Nat} : Ct Tryz.prog 118 [.slice a 0 c] [] (fun v L => v = T [] ∧ L = []) := by
  intro w B hB hat
  have hs : Calls Tryz.prog (lays189_ren.f 189) #[.slice a 0 c] w fun e w' => e = .returned (.tuple #[]) ∧ w' = w := calls_of_every_depth fun D => AnyS.slices_Sort_int_none_in lays189 D a c w
  change Calls Tryz.prog 118 _ _ _ at hs
  refine Calls.mono hs ?_
  rintro e w' ⟨rfl, rfl⟩
  have hB' : B = [] := hB
  subst hB'
  exact ⟨.ret (T []), [], rfl, ⟨T [], rfl, rfl, rfl⟩, [], rfl, hat.st⟩
attribute [local irreducible] Yields cl blk pur rowc sv exC fo cnt
theorem sv_cases {l : List Nat} {a : Option Addr} {c : Nat} {f : FuncId} {vs : List Value} {Q : Out → Hp → Prop} (h0 : a = none → l = [] → c = 0 → CtP Tryz.prog f vs [sv eNat 3 [] none 0] Q) (h1 : ∀ g, a = some ⟨g, 0, none⟩ → CtP Tryz.prog f vs [rowc eNat 3 l g c] Q) : CtP Tryz.prog f vs [sv eNat 3 l a c] Q := by
  rintro w B ⟨B1, B2, rfl, h, rfl⟩ hat
  unfold sv at h
  rcases h with ⟨rfl, rfl, rfl, rfl⟩ | ⟨g, c', rfl, rfl, hr⟩
  · exact h0 rfl rfl rfl w _ ⟨[], [], rfl, by unfold sv; exact .inl ⟨rfl, rfl, rfl, rfl⟩, rfl⟩ hat
  · exact h1 g rfl w _ ⟨_, [], rfl, by unfold rowc; exact ⟨c', rfl, hr⟩, rfl⟩ hat
theorem f118 {l : List Nat} {a : Option Addr} {c : Nat} (hl : l.length ≤ 1000000) : Ct Tryz.prog 118 [.slice a l.length c] [sv eNat 3 l a c] (fun v L => v = T [] ∧ L = [sv eNat 3 (srt l) a c]) := by
  refine sv_cases ?_ ?_
  · rintro rfl rfl rfl
    refine Ct.ent (Ct.frame (K := [sv eNat 3 [] none 0]) (f118n (a := none) (c := 0)) ent_) ?_
    rintro _ _ ⟨_, ⟨rfl, rfl⟩, rfl⟩
    exact ⟨_, ⟨rfl, rfl⟩, by rw [show srt [] = [] from List.eq_nil_of_length_eq_zero (by rw [srt_len]; rfl)]; exact ent_⟩
  · rintro g rfl
    refine Ct.ent (f118r (g := g) (cap := c) hl) ?_
    rintro _ _ ⟨rfl, rfl⟩
    exact ⟨_, ⟨rfl, rfl⟩, ent_sv ent_⟩
theorem f200 {l : List Nat} {a : Option Addr} {c : Nat} (hl : l.length ≤ 1000000) : Ct Tryz.prog 200 [.slice a l.length c] [sv eNat 3 l a c] (fun v L => ∃ a' c', v = .slice a' l.length c' ∧ L = [sv eNat 3 l a c, sv eNat 3 l a' c']) := by
  refine w_ct Tryz.func200 rfl Tryz.ntmps200 rfl fun w B => ?_
  refine W ?_
  refine g_sv rfl (Sel.hd : Sel (sv eNat 3 l a c) _ _) (fun ha hl0 hc => ?_) (fun g ha => ?_)
  · subst ha hl0 hc
    refine w_y rfl rfl rfl (y_slN rfl rfl) ?_
    refine W ?_
    refine g_nil eNat 3 rfl ?_
    refine g_nil eNat 3 rfl ?_
    exact fin ⟨_, rfl, none, 0, rfl, rfl⟩
  · subst ha
    refine w_y rfl rfl rfl (y_slN rfl rfl) ?_
    refine W ?_
    refine w_bs0 eNat fun g0 => ?_
    refine W ?_
    refine w_ap eNat (sel_ : Sel (sv eNat 3 [] _ 0) _ _) (rd_row (show rowc eNat 3 l g c ∈ _ from mem_)) (by simp; omega) (by simp; omega) fun a' c' => ?_
    refine W ?_
    exact finE ⟨_, rfl, a', c', rfl, rfl⟩ (Ent.trans (Ent.sel (sel_ : Sel (rowc eNat 3 l g c) _ _) (Ent.refl _)) (ent_sv ent_))
end Go.Proofs.YtnilejkfbcnkkaaGreatDoor.V
end
