/- Proved: what a transaction is, how it is read and written; where a number stands in a slice; how a map's keys are told, sorted; how an error leaves a call; the vault's small functions; what an array keeps while cells go home; the conditions stand in the statements. -/
import Derived.Test.YtnilejkfbcnkkaaGreatDoorM16
import Derived.Shelf.SlIterI.Sorted
set_option linter.unusedVariables false
set_option linter.unusedSimpArgs false
set_option linter.unusedSectionVars false
section
set_option maxRecDepth 100000
set_option maxHeartbeats 1000000
namespace Go.Proofs.YtnilejkfbcnkkaaGreatDoor.V
variable [GlK]
open Go Go.RowKit
attribute [local irreducible] Yields cl blk pur rowc sv exC fo cnt

abbrev drfL (g : Geo) (gm : Nat) : List Value := [I g.m, I g.s, I g.r, .map (some gm)]
/-- a transaction -/
def DrC (gd : Nat) (g : Geo) (m : List (Nat × Blk)) : Chunk := exC 54 (fun gm : Nat => [cl gd (drfL g gm) 118, mpC (fun x : Blk => BV x) gm m])
theorem b118 {g : Geo} {gm : Nat} : Tryz.prog.built 118 [(0, GV g), (1, .map (some gm))] = some (drfL g gm).toArray := by
  unfold Program.built; simp only [Tryz.underlying118]; kernel_rfl
section
variable {gd gm : Nat} {g : Geo} {m : List (Nat × Blk)}
theorem f72 : CtV Tryz.prog 72 [PP gd] [cl gd (drfL g gm) 118] (.bool false) := by
  refine w_ct Tryz.func72 rfl Tryz.ntmps72 rfl fun w B => ?_
  refine W ?_
  refine w_y rfl rfl rfl (y_mN rfl rfl) ?_
  refine W ?_
  exact fin ⟨_, rfl, rfl, rfl⟩
theorem f40 (hg : GeoOk g) : Ct Tryz.prog 40 [GV g] [] (fun v L => ∃ gd, v = T [PP gd, I 0] ∧ L = [DrC gd g []]) := by
  refine w_ct Tryz.func40 rfl Tryz.ntmps40 rfl fun w B => ?_
  have h71 := f71 hg
  refine W1 fun g1 => ?_
  refine cv h71 ?_
  refine W ?_
  refine w_mm (fun x : Blk => BV x) rfl fun gm => ?_
  refine w_y rfl rfl rfl (y_build (ps := [(0, GV g), (1, .map (some gm))]) (c := (drfL g gm).toArray) (by rw [Array.toList_map]; exact pts_) b118) ?_
  refine w_bx rfl rfl vc_ fun gd => ?_
  refine W ?_
  exact finE ⟨_, rfl, gd, rfl, rfl⟩ (ent_ex gm ent_)
theorem optB {o : Option Blk} : optV (fun x : Blk => BV x) (BV blk0) o = BV (o.getD blk0) := by cases o <;> rfl
theorem f43 {n : Nat} : CtV Tryz.prog 43 [PP gd, I n] [DrC gd g m] (T [BV ((lkp m n).getD blk0), .bool (lkp m n).isSome]) := by
  refine w_ct Tryz.func43 rfl Tryz.ntmps43 rfl fun w B => ?_
  refine g_ex rfl Sel.hd fun gm => ?_
  have h72 := f72 (gd := gd) (g := g) (gm := gm)
  refine W1 fun g4 => ?_
  refine cv h72 ?_
  refine W ?_
  refine w_y rfl rfl rfl (y_lk rfl rfl mem_) ?_
  rw [optB]
  refine W1 fun g6 => ?_
  exact finE ⟨_, rfl, rfl, rfl⟩ (ent_ex gm ent_)
theorem f42 {n : Nat} {x : Blk} (hg : GeoOk g) (hn : n < g.blocks) (hm : m.length ≤ 16) : Ct Tryz.prog 42 [PP gd, I n, BV x] [DrC gd g m] (fun v L => (((lkp m n).isSome = true ∨ m.length < 16) ∧ v = I 0 ∧ L = [DrC gd g (putL m n x)]) ∨ ((lkp m n).isSome = false ∧ m.length = 16 ∧ v = I 11 ∧ L = [DrC gd g m])) := by
  refine w_ct Tryz.func42 rfl Tryz.ntmps42 rfl fun w B => ?_
  refine g_ex rfl Sel.hd fun gm => ?_
  have h72 := f72 (gd := gd) (g := g) (gm := gm)
  have h64 := f64 hg
  refine W1 fun g5 => ?_
  refine cv h72 ?_
  refine W ?_
  refine w_y rfl rfl rfl (y_lk rfl rfl mem_) ?_
  rw [optB]
  refine W1 fun g7 => ?_
  rw [decide_eq_false (show ¬ ((n : Nat) : Int) < 0 by omega)]
  refine W ?_
  refine cv h64 ?_
  refine W ?_
  rw [decide_eq_false (show ¬ ((g.blocks : Nat) : Int) ≤ n by omega)]
  cases hs : (lkp m n).isSome
  · refine W ?_
    refine w_y rfl rfl rfl (y_ml rfl mem_) ?_
    refine W ?_
    refine w_if rfl (fun h => ?_) (fun h => ?_)
    · refine W ?_
      exact finE ⟨_, rfl, .inr ⟨rfl, by omega, rfl, rfl⟩⟩ (ent_ex gm ent_)
    · refine W ?_
      refine w_mu (a := x) (v := BV x) rfl rfl rfl rfl upd_ ?_
      refine W ?_
      exact finE ⟨_, rfl, .inl ⟨.inr (by omega), rfl, rfl⟩⟩ (ent_ex gm ent_)
  · refine W ?_
    refine w_mu (a := x) (v := BV x) rfl rfl rfl rfl upd_ ?_
    refine W ?_
    exact finE ⟨_, rfl, .inl ⟨.inl rfl, rfl, rfl⟩⟩ (ent_ex gm ent_)
end
end Go.Proofs.YtnilejkfbcnkkaaGreatDoor.V
end
section
set_option maxRecDepth 100000
set_option maxHeartbeats 1000000
namespace Go.Proofs.YtnilejkfbcnkkaaGreatDoor.V
variable [GlK]
open Go Go.RowKit
attribute [local irreducible] Yields cl blk pur rowc sv exC fo cnt

theorem f146 {l : List Nat} {a : Option Addr} {c k : Nat} : Ct Tryz.prog 146 [.slice a l.length c, I k] [sv eNat 3 l a c] (fun v L => ((∃ i : Nat, ∃ hi : i < l.length, l[i] = k ∧ v = I i) ∨ (k ∉ l ∧ v = .int .i64 (-1))) ∧ L = [sv eNat 3 l a c]) := by
  refine w_ct Tryz.func146 rfl Tryz.ntmps146 rfl fun w B => ?_
  refine g_lenS rfl (show sv eNat 3 l a c ∈ _ from mem_) fun hlc hcm => ?_
  simp only [maxLen] at hcm
  refine W ?_
  refine w_loop (γ := Nat) (fun j => [(0, .slice a l.length c), (1, I k), (7, I l.length), (8, I j)]) (fun j => [sv eNat 3 l a c]) (fun j => j ≤ l.length ∧ ∀ i, i < j → ∀ hi : i < l.length, l[i] ≠ k) (fun j => l.length - j) 0 sl_ ent_ ⟨Nat.zero_le _, fun i hi => by omega⟩ fun j B ⟨hj, hno⟩ => ?_
  refine W ?_
  refine w_if rfl (fun h => ?_) (fun h => ?_)
  · have hlt : j < l.length := by omega
    refine w_skip ?_
    refine g_svp rfl (sel_ : Sel (sv eNat 3 l a c) _ _) (by omega) fun ga hga => ?_
    subst hga
    refine W ?_
    refine w_if rfl (fun he => ?_) (fun he => ?_)
    · refine W ?_
      exact finE ⟨_, rfl, .inl ⟨j, hlt, by omega, rfl⟩, rfl⟩ (ent_sv ent_)
    · refine W ?_
      refine w_land rfl (w_round (j + 1) ⟨hlt, fun i hi hil => ?_⟩ (by omega) sl_ (ent_sv ent_))
      by_cases e : i = j
      · subst e; omega
      · exact hno i (by omega) hil
  · refine W ?_
    refine fin ⟨_, rfl, .inr ⟨fun hm => ?_, rfl⟩, rfl⟩
    obtain ⟨i, hi, e⟩ := List.mem_iff_getElem.1 hm
    exact hno i (by omega) hi e
end Go.Proofs.YtnilejkfbcnkkaaGreatDoor.V
end
section
set_option maxRecDepth 100000
set_option maxHeartbeats 2000000
namespace Go.Proofs.YtnilejkfbcnkkaaGreatDoor.V
open Go Go.RowKit Go.Maps Go.Sort Go.Shelf

def keysA_ren : Go.Shelf.Ren := ⟨fun | 7 => 92 | 10 => 143 | n => n, fun | 23 => 116 | 26 => 3 | 3 => 51 | 28 => 140 | 0 => 0 | 27 => 139 | 33 => 47 | 4 => 4 | n => n, fun | n => n⟩
theorem keysA : Go.Proofs.SlLaysZI.n7 Tryz.prog keysA_ren := {
  mixed := by kernel_rfl
  f7 := ⟨Tryz.f92.name, by decide, Tryz.func92.trans (congrArg some (by kernel_rfl))⟩
  f10 := ⟨Tryz.f143.name, by decide, Tryz.func143.trans (congrArg some (by kernel_rfl))⟩
  t0 := Tryz.underlying0
  a0 := Tryz.isAgg0
  z0 := Tryz.sizeOf0
  v0 := Tryz.zeroValue0
  t4 := Tryz.underlying4
  a4 := Tryz.isAgg4
  z4 := Tryz.sizeOf4
  v4 := Tryz.zeroValue4
  t23 := Tryz.underlying116
  a23 := Tryz.isAgg116
  z23 := Tryz.sizeOf116
  v23 := Tryz.zeroValue116
  t26 := Tryz.underlying3
  a26 := Tryz.isAgg3
  z26 := Tryz.sizeOf3
  v26 := Tryz.zeroValue3
  t27 := Tryz.underlying139
  a27 := Tryz.isAgg139
  z27 := Tryz.sizeOf139
  v27 := Tryz.zeroValue139
  t28 := Tryz.underlying140
  a28 := Tryz.isAgg140
  z28 := Tryz.sizeOf140
  v28 := Tryz.zeroValue140
  t33 := Tryz.underlying47
  a33 := Tryz.isAgg47
  z33 := Tryz.sizeOf47
  v33 := Tryz.zeroValue47 }
def sortedA_ren : Go.Shelf.Ren := ⟨fun | 6 => 91 | 8 => 142 | 9 => 118 | 11 => 198 | 13 => 182 | 12 => 181 | 23 => 230 | 24 => 231 | 14 => 221 | 15 => 222 | 16 => 223 | 17 => 224 | 18 => 225 | 19 => 226 | 20 => 227 | 21 => 228 | 22 => 229 | 25 => 255 | 26 => 256 | 27 => 257 | 28 => 258 | 29 => 259 | 30 => 260 | 31 => 274 | n => n, fun | 26 => 3 | 28 => 140 | 24 => 30 | 0 => 0 | 3 => 3 | 37 => 43 | 48 => 263 | 50 => 66 | 4 => 4 | 40 => 275 | 39 => 274 | 45 => 159 | 5 => 5 | 9 => 9 | 51 => 308 | 55 => 311 | 57 => 322 | 58 => 323 | 33 => 47 | n => n, fun | n => n⟩
theorem sortedA : Go.Proofs.SlLaysZI.n6 Tryz.prog sortedA_ren := {
  mixed := by kernel_rfl
  f6 := ⟨Tryz.f91.name, by decide, Tryz.func91.trans (congrArg some (by kernel_rfl))⟩
  f8 := ⟨Tryz.f142.name, by decide, Tryz.func142.trans (congrArg some (by kernel_rfl))⟩
  f11 := ⟨Tryz.f198.name, by decide, Tryz.func198.trans (congrArg some (by kernel_rfl))⟩
  t0 := Tryz.underlying0
  a0 := Tryz.isAgg0
  z0 := Tryz.sizeOf0
  v0 := Tryz.zeroValue0
  t24 := Tryz.underlying30
  a24 := Tryz.isAgg30
  z24 := Tryz.sizeOf30
  v24 := Tryz.zeroValue30
  t26 := Tryz.underlying3
  a26 := Tryz.isAgg3
  z26 := Tryz.sizeOf3
  v26 := Tryz.zeroValue3
  t28 := Tryz.underlying140
  a28 := Tryz.isAgg140
  z28 := Tryz.sizeOf140
  v28 := Tryz.zeroValue140
  i26 := by kernel_rfl }

variable [GlK]
theorem sortsA (m : Nat) : AnyZI.SortsIn Tryz.prog sortedA_ren Fence.wide m :=
  ⟨fun blk off cap ss W hH hblk hsz => callsIn_wide.2 (Any.slices_Sort_int lays189 blk off cap ss W hH hblk hsz),
   fun p cap W => callsIn_wide.2 (calls_of_every_depth fun D => AnyS.slices_Sort_int_none_in lays189 D p cap W)⟩
section
variable {α : Type} {f : α → Value}
abbrev anyR : Value → Option (DataW Unit × List MemPlace) := fun _ => some (.nil, [])
theorem rg_nat {e : MapEntry} {k : Nat} (hk : e.key = I k) (hb : k < 4611686018427387904) : Go.WideElems.rd (H := Unit) Tryz.prog 3 anyR e = some (.int .i64 k, .nil) := by
  have hw : (Lit.int .i64 (k : Int)).wf = true := by
    have h1 : IntKind.i64.min = -9223372036854775808 := rfl
    have h2 : IntKind.i64.max = 9223372036854775807 := rfl
    simp only [Lit.wf, h1, h2, Bool.and_eq_true, decide_eq_true_eq]
    omega
  have hm : keyOf Tryz.prog 3 e.key = some (.int .i64 k) := by
    rw [hk]
    simp [keyOf, Tryz.underlying3, mapKey, hw]
  unfold Go.WideElems.rd
  rw [hm]
  rfl
theorem f91 {m : List (Nat × α)} {gm gc : Nat} (hm : m.length ≤ 1000) (hb : ∀ p ∈ m, p.1 < 4611686018427387904) :
    Ct Tryz.prog 91 [.func (.func 143) #[] #[PP gc]] [cl gc [.map (some gm)] 116, mpC f gm m] (fun v L => ∃ a c, v = .slice a m.length c ∧ L = [cl gc [.map (some gm)] 116, mpC f gm m, sv eNat 3 (srt (m.map Prod.fst)) a c]) := by
  intro w B hB hat
  obtain ⟨B1, _, rfl, h1, ⟨B2, _, rfl, ⟨es, ck, rfl, hr⟩, rfl⟩⟩ := hB
  have h1' := h1
  unfold cl at h1
  subst h1
  have hgc : w.heap[gc]? = some (.cells #[.map (some gm)] 116 (0, 0)) := hat.1 (gc, _) (by simp)
  have hgm : w.heap[gm]? = some (.map es ck) := hat.1 (gm, _) (by simp)
  have hlc : gc < w.heap.size := (Array.getElem?_eq_some_iff.1 hgc).1
  have hlm : gm < w.heap.size := (Array.getElem?_eq_some_iff.1 hgm).1
  have hne : gc ≠ gm := by rintro rfl; rw [hgc] at hgm; cases hgm
  have hlen : es.toList.length = m.length := by
    have := congrArg List.length hr.c
    simpa [kvE] using this
  have hsz : es.size = m.length := by simpa using hlen
  have hkey : es.toList.map (fun x => x.key) = m.map (fun p => I p.1) := by
    have := congrArg (List.map Prod.fst) hr.c
    rw [List.map_map] at this
    unfold kvE at this
    rw [List.map_map] at this
    exact this
  have hrd : ∀ x ∈ es.toList, ∃ k : Nat, x.key = I k ∧ k < 4611686018427387904 := by
    intro x hx
    have : x.key ∈ es.toList.map (fun x => x.key) := List.mem_map_of_mem hx
    rw [hkey] at this
    obtain ⟨p, hp, e⟩ := List.mem_map.1 this
    exact ⟨p.1, e.symm, hb p hp⟩
  have hown : w.ownsMap Tryz.prog 3 anyR gm es.size (.map ((es.toList.map (Go.WideElems.rg Tryz.prog 3 anyR)).foldr DataW.insert [])) :=
    ⟨es, ck, hgm, ⟨by rw [hsz]; simp only [maxLen]; omega, hr.s, fun x hx => by obtain ⟨k, h1, h2⟩ := hrd x hx; exact ⟨_, rg_nat h1 h2⟩⟩, Nat.le_refl _, rfl⟩
  have hsize : Maps.size (DataW.map ((es.toList.map (Go.WideElems.rg Tryz.prog 3 anyR)).foldr DataW.insert []) : DataW Unit) = m.length := by
    rw [Maps.size_eq, (Go.WideShapes.sorted_perm _).length_eq, List.length_map, hlen]
  have hkeys : (intKeys (DataW.map ((es.toList.map (Go.WideElems.rg Tryz.prog 3 anyR)).foldr DataW.insert []) : DataW Unit)).Perm ((m.map Prod.fst).map fun x : Nat => (x : Int)) := by
    show (List.map _ _).Perm _
    refine ((Go.WideShapes.sorted_perm _).map _).trans ?_
    rw [List.map_map]
    have e : es.toList.map ((fun p : Lit × DataW Unit => Go.intOf p.1) ∘ Go.WideElems.rg Tryz.prog 3 anyR) = es.toList.map fun x => match x.key with | Value.int _ a => a | _ => 0 := by
      refine List.map_congr_left fun x hx => ?_
      obtain ⟨k, h1, h2⟩ := hrd x hx
      simp only [Function.comp, Go.WideElems.rg_of (rg_nat h1 h2), h1, Go.intOf]
    rw [e]
    have e2 : (es.toList.map fun x => match x.key with | Value.int _ a => a | _ => 0) = (es.toList.map fun x => x.key).map fun v => match v with | Value.int _ a => a | _ => 0 := by rw [List.map_map]; rfl
    rw [e2, hkey, List.map_map, List.map_map]
    exact List.Perm.refl _
  have hseq := AnyZI.keys_gives (ρ := keysA_ren) { keysA with } Fence.wide 2 trivial rfl (by omega) gc gm es.size _ w hlc (by simp [World.cell?, hgc]) hown
  have cS := AnyZI.sorted_in sortedA Fence.wide 5 trivial trivial trivial trivial rfl (by omega) (sortsA _) (enters_of Tryz.func118 (by kernel_rfl) rfl) 143 #[PP gc] trivial (enters_of Tryz.func143 (by kernel_rfl) rfl) _ _ (by rw [hsize]; simp only [maxLen]; omega) (by rw [hsize]; omega) _ hseq
  change CallsIn _ _ Tryz.prog 91 _ _ _ at cS
  have hs := callsIn_wide.1 cS
  refine Calls.mono hs ?_
  rintro e w' ⟨v, ss, rfl, hS, hrow, hnil, hbl⟩
  have hperm := hS.trans hkeys
  have hsl : ss.length = m.length := by rw [hperm.length_eq]; simp
  have hsort : ss.mergeSort (fun x y => decide (x ≤ y)) = (srt (m.map Prod.fst)).map (fun x : Nat => (x : Int)) := by
    rw [mergeSort_of_perm_i hperm]
    exact srt_int
  rw [hsort, hsl] at hrow
  have hk : ∀ i, i < w.heap.size → w'.heap[i]? = w.heap[i]? := hbl.block
  rcases hrow.2 with ⟨rfl, hz⟩ | ⟨gb, cap, cur, rfl, hbase, hgb, r1, r2, r3, r4⟩
  · have hm0 : m = [] := List.eq_nil_of_length_eq_zero hz
    subst hm0
    refine ⟨.ret (.slice none 0 0), _, rfl, ⟨_, rfl, none, 0, rfl, rfl⟩, ⟨[(gc, .cells #[.map (some gm)] 116 (0, 0)), (gm, .map es ck)], ⟨_, _, rfl, h1', ⟨_, _, rfl, ⟨es, ck, rfl, hr⟩, ⟨[], [], rfl, .inl ⟨rfl, by unfold srt; simp, rfl, rfl⟩, rfl⟩⟩⟩, ?_⟩⟩
    refine ⟨?_, by simpa using hne, ?_, hbl.os, hbl.tape, hbl.output, hbl.size, fun i hi _ => hk i hi⟩
    · intro p hp
      simp only [List.mem_cons, List.not_mem_nil, or_false] at hp
      rcases hp with rfl | rfl
      · exact (hk gc hlc).trans hgc
      · exact (hk gm hlm).trans hgm
    · intro p hp
      simp only [List.mem_cons, List.not_mem_nil, or_false] at hp
      rcases hp with rfl | rfl
      · exact .inl (by simp [ids])
      · exact .inl (by simp [ids])
  · have hrw : Row eNat (srt (m.map Prod.fst)) cur cap := by
      refine ⟨r3, by rw [srt_len, List.length_map]; exact r1, r2, ?_⟩
      have e : (srt (m.map Prod.fst)).length * eNat.sz = m.length * 1 := by rw [srt_len, List.length_map]; rfl
      rw [e, r4]
      show _ = (srt (m.map Prod.fst)).flatMap fun x : Nat => [I x]
      rw [← List.map_eq_flatMap, List.map_map]
      rfl
    refine ⟨.ret (.slice (some ⟨gb, 0, none⟩) m.length cap), _, rfl, ⟨_, rfl, some ⟨gb, 0, none⟩, cap, rfl, rfl⟩, ⟨[(gc, .cells #[.map (some gm)] 116 (0, 0)), (gm, .map es ck), (gb, .cells cur 3 (0, 0))], ⟨_, _, rfl, h1', ⟨_, _, rfl, ⟨es, ck, rfl, hr⟩, ⟨[(gb, .cells cur 3 (0, 0))], [], rfl, .inr ⟨gb, cur, rfl, rfl, hrw⟩, rfl⟩⟩⟩, ?_⟩⟩
    refine ⟨?_, ?_, ?_, hbl.os, hbl.tape, hbl.output, hbl.size, fun i hi _ => hk i hi⟩
    · intro p hp
      simp only [List.mem_cons, List.not_mem_nil, or_false] at hp
      rcases hp with rfl | rfl | rfl
      · exact (hk gc hlc).trans hgc
      · exact (hk gm hlm).trans hgm
      · exact hgb
    · simp; omega
    · intro p hp
      simp only [List.mem_cons, List.not_mem_nil, or_false] at hp
      rcases hp with rfl | rfl | rfl
      · exact .inl (by simp [ids])
      · exact .inl (by simp [ids])
      · exact .inr hbase
end
end Go.Proofs.YtnilejkfbcnkkaaGreatDoor.V
end
section
set_option maxRecDepth 100000
set_option maxHeartbeats 600000
namespace Go.Proofs.YtnilejkfbcnkkaaGreatDoor.V
variable [GlK]
open Go Go.RowKit
attribute [local irreducible] Yields cl blk pur rowc sv exC fo cnt

/-- a fault -/
abbrev fltV (e : Int) : Value := .iface 176 (A [.int .i64 e])
theorem f79 : CtP Tryz.prog 79 [I 0] [] (fun o L => o = .ret (T []) ∧ L = []) := by
  refine w_ct Tryz.func79 rfl Tryz.ntmps79 rfl fun w B => ?_
  refine W ?_
  exact w_ends rfl (finN (fin0 rfl ⟨rfl, rfl⟩ ent_))
theorem f79p {e : Int} (he : e ≠ 0) : CtP Tryz.prog 79 [.int .i64 e] [] (fun o L => o = .pan (fltV e) ∧ L = []) := by
  refine w_ct Tryz.func79 rfl Tryz.ntmps79 rfl fun w B => ?_
  refine W ?_
  rw [decide_eq_true he]
  refine W ?_
  refine w_panic (t := 176) (v := A [.int .i64 e]) rfl ?_
  refine w_pan ?_
  exact finP ⟨rfl, rfl⟩ ent_
end Go.Proofs.YtnilejkfbcnkkaaGreatDoor.V
end
section
set_option maxRecDepth 100000
set_option maxHeartbeats 600000
namespace Go.Proofs.YtnilejkfbcnkkaaGreatDoor.V
variable [GlK]
open Go Go.RowKit
attribute [local irreducible] Yields cl blk pur rowc sv exC fo cnt

/-- a vault's own block: hull, bench, shelf, log, dark -/
abbrev vtC (gv gh gb gs : Nat) (l : Value) : Chunk := cl gv [PP gh, PP gb, PP gs, l, .bool false] 87
section
variable {gv gh gb gs : Nat} {l : Value} {h : Hul}
theorem f75 : CtV Tryz.prog 75 [PP gv] [vtC gv gh gb gs l, huC gh gb h] (GV h.r.g) := by
  refine w_ct Tryz.func75 rfl Tryz.ntmps75 rfl fun w B => ?_
  have h41 := f41 (gh := gh) (gb := gb) (h := h)
  refine W1 fun g2 => ?_
  refine cv h41 ?_
  refine W ?_
  refine w_y rfl rfl rfl (y_fN (vs := geL h.r.g) rfl sg_) ?_
  refine W ?_
  exact fin ⟨_, rfl, rfl, rfl⟩
theorem f77 (hr : RosOk h.r) : CtP Tryz.prog 77 [PP gv] [vtC gv gh gb gs l, huC gh gb h] (fun o L => L = [vtC gv gh gb gs l, huC gh gb h] ∧ ((o = .ret (T []) ∧ h.r.state ≠ 5) ∨ (o = .pan (fltV 16) ∧ h.r.state = 5))) := by
  refine w_ct Tryz.func77 rfl Tryz.ntmps77 rfl fun w B => ?_
  have h39 := f39 (gh := gh) (gb := gb) hr
  refine W ?_
  refine cv h39 ?_
  refine W ?_
  by_cases e : h.r.state = 5
  · rw [decide_eq_true (show (h.r.state : Int) = 5 by omega)]
    refine W ?_
    refine w_panic (t := 176) (v := A [.int .i64 16]) rfl ?_
    refine w_pan ?_
    exact finP ⟨rfl, .inr ⟨rfl, e⟩⟩ ent_
  · rw [decide_eq_false (show ¬ (h.r.state : Int) = 5 by omega)]
    refine W ?_
    exact w_ends rfl (finN (fin0 rfl ⟨rfl, .inl ⟨rfl, e⟩⟩ ent_))
theorem f93 {gl : Nat} (hr : RosOk h.r) : CtP Tryz.prog 93 [PP gv] [vtC gv gh gb gs (PP gl), huC gh gb h] (fun o L => L = [vtC gv gh gb gs (PP gl), huC gh gb h] ∧ ((o = .ret (T []) ∧ h.r.state ≠ 5) ∨ (o = .pan (fltV 16) ∧ h.r.state = 5))) := by
  refine w_ct Tryz.func93 rfl Tryz.ntmps93 rfl fun w B => ?_
  have h77 := f77 (gv := gv) (gh := gh) (gb := gb) (gs := gs) (l := PP gl) hr
  refine W ?_
  refine clP h77 (fun v M hq => ?_) (fun v M hq => ?_)
  · obtain ⟨rfl, (⟨e, h5⟩ | ⟨e, h5⟩)⟩ := hq
    · cases e
      refine W ?_
      exact w_ends rfl (finN (fin0 rfl ⟨rfl, .inl ⟨rfl, h5⟩⟩ ent_))
    · cases e
  · obtain ⟨rfl, (⟨e, h5⟩ | ⟨e, h5⟩)⟩ := hq
    · cases e
    · cases e
      refine w_pan ?_
      exact finP ⟨rfl, .inr ⟨rfl, h5⟩⟩ ent_
theorem f73 {b : Ben} {dv : Dev} (hd : b.ds[0]? = some dv) : CtV Tryz.prog 73 [PP gv] [vtC gv gh gb gs l, BenC gb b] (I 0) := by
  refine w_ct Tryz.func73 rfl Tryz.ntmps73 rfl fun w B => ?_
  have h82 := f82 (gb := gb) hd
  refine W ?_
  refine cv h82 ?_
  refine W ?_
  exact fin ⟨_, rfl, rfl, rfl⟩
theorem f93n (hr : RosOk h.r) : CtP Tryz.prog 93 [PP gv] [vtC gv gh gb gs PN, huC gh gb h] (fun o L => L = [vtC gv gh gb gs PN, huC gh gb h] ∧ ((o = .pan (fltV 13) ∧ h.r.state ≠ 5) ∨ (o = .pan (fltV 16) ∧ h.r.state = 5))) := by
  refine w_ct Tryz.func93 rfl Tryz.ntmps93 rfl fun w B => ?_
  have h77 := f77 (gv := gv) (gh := gh) (gb := gb) (gs := gs) (l := PN) hr
  refine W ?_
  refine clP h77 (fun v M hq => ?_) (fun v M hq => ?_)
  · obtain ⟨rfl, (⟨e, h5⟩ | ⟨e, h5⟩)⟩ := hq
    · cases e
      refine W ?_
      refine w_panic (t := 176) (v := A [.int .i64 13]) rfl ?_
      refine w_pan ?_
      exact finP ⟨rfl, .inl ⟨rfl, h5⟩⟩ ent_
    · cases e
  · obtain ⟨rfl, (⟨e, h5⟩ | ⟨e, h5⟩)⟩ := hq
    · cases e
    · cases e
      refine w_pan ?_
      exact finP ⟨rfl, .inr ⟨rfl, h5⟩⟩ ent_
end
end Go.Proofs.YtnilejkfbcnkkaaGreatDoor.V
end
section
set_option maxRecDepth 100000
set_option maxHeartbeats 1000000
namespace Go.Proofs.YtnilejkfbcnkkaaGreatDoor.V
variable [GlK]
open Go Go.RowKit

theorem cnt_mle {f g : Nat → Nat} {k : Nat} : ∀ {n : Nat}, (∀ j, j < n → f j = k → g j = k) → cnt f k n ≤ cnt g k n
  | 0, _ => by unfold cnt; exact Nat.le_refl _
  | n + 1, h => by
    have ih := cnt_mle (n := n) fun j hj => h j (by omega)
    have := h n (by omega)
    unfold cnt
    by_cases e : f n = k
    · simp only [e, this e, if_true]; omega
    · simp only [e, if_false]; split <;> omega
theorem miss_le {r r' : Ros} (h : ∀ j, j < 16 → r'.st j = 0 → r.st j = 0) : r.missing ≤ r'.missing := by
  have := cnt_mle (f := r'.st) (g := r.st) (k := 0) (n := 16) h
  unfold Ros.missing; omega
theorem state5_iff {r : Ros} : r.state = 5 ↔ (1 < r.missing ∨ (r.missing = 1 ∧ r.gone = true)) := by
  unfold Ros.state
  by_cases h : 1 < r.missing ∨ (r.missing = 1 ∧ r.gone = true)
  · simp [h]
  · simp only [h, if_false, iff_false]
    split
    · omega
    · split
      · omega
      · split <;> omega
theorem state5_up {r r' : Ros} (h : ∀ j, j < 16 → r'.st j = 0 → r.st j = 0) (hg : r.gone = true → r'.gone = true) (h5 : r.state = 5) : r'.state = 5 := by
  have hm := miss_le h
  rw [state5_iff] at h5 ⊢
  rcases h5 with e | ⟨e1, e2⟩
  · exact .inl (by omega)
  · by_cases e : 1 < r'.missing
    · exact .inl e
    · exact .inr ⟨by omega, hg e2⟩
theorem MO.state5 {h h' : Hul} {b b' : Ben} (o : MO h b h' b') (h5 : h.r.state = 5) : h'.r.state = 5 :=
  state5_up (fun j hj e => by exact (o.st j).elim (fun f => f ▸ e) (fun ⟨_, _, f⟩ => by omega)) (fun e => o.gone.trans e) h5
theorem clean_drt {l : Ln} : l.clean.drt = false := by
  unfold Ln.drt Ln.clean
  simp
/-- what stands on the members -/
def Dk (B : Nat → Nat → Blk) (h : Hul) (b : Ben) : Prop := ∀ n m, m < h.r.g.m → h.r.has m n = true → b.dead m = false → b.rd m (2 + n) = B n m
theorem Dk.hs {c : Nat} {B : Nat → Nat → Blk} {h h' : Hul} {b b' : Ben} (hm : h.r.g.m ≤ 16) (k : Dk B h b) (s : HS c h b h' b') : Dk B h' b' := by
  intro n m hm' hh hd
  have hg : h'.r.g = h.r.g := s.re.g
  rw [hg] at hm'
  rw [s.be.rd hm' (by omega)]
  refine k n m hm' ?_ (by rw [← s.be.dead]; exact hd)
  cases e : h.r.has m n with
  | true => rfl
  | false => rw [s.mo.has m n (by omega) e] at hh; cases hh
theorem Dk.wr {B : Nat → Nat → Blk} {h h' : Hul} {b b' : Ben} {n m : Nat} {x : Blk} (hm : h.r.g.m ≤ 16) (k : Dk B h b) (q : WrQ h b n m x h' b' (I 0)) : Dk (fun n' m' => if n' = n ∧ m' = m then x else B n' m') h' b' := by
  intro n' m' hm' hh hd
  show _ = if n' = n ∧ m' = m then x else B n' m'
  rcases q with ⟨_, rfl, _, (⟨e, rfl⟩ | ⟨e1, e2, dv, hdv, rfl⟩)⟩ | ⟨hs, (⟨_, _, e1, e2⟩ | ⟨e, _⟩)⟩
  · by_cases c : n' = n ∧ m' = m
    · obtain ⟨rfl, rfl⟩ := c
      rw [e] at hh; cases hh
    · rw [if_neg c]; exact k n' m' hm' hh hd
  · rw [set_rd hdv]
    rw [set_dead hdv] at hd
    by_cases c : n' = n ∧ m' = m
    · obtain ⟨rfl, rfl⟩ := c
      rw [if_pos ⟨rfl, rfl⟩, if_pos ⟨rfl, rfl⟩]
    · rw [if_neg c, if_neg (by omega)]; exact k n' m' hm' hh hd
  · by_cases c : n' = n ∧ m' = m
    · obtain ⟨rfl, rfl⟩ := c
      rw [e2] at hh; cases hh
    · rw [if_neg c]; exact k.hs hm hs n' m' hm' hh hd
  · cases e
def inAt (l : List Cel) (n m : Nat) : Bool := l.any fun x => decide (x.s = n) && decide (x.m = m)
theorem Dk.wrs {B C : Nat → Nat → Blk} {l : List Cel} {h h' : Hul} {b b' : Ben} (q : WrS l h b h' b') (hm : h.r.g.m ≤ 16) (hl : ∀ x ∈ l, x.b = C x.s x.m) (k : Dk B h b) : Dk (fun n m => if inAt l n m then C n m else B n m) h' b' := by
  induction q with
  | nil => exact k
  | @snoc l x h h1 h2 b b1 b2 p w ih =>
    have hk := ih hm (fun y hy => hl y (List.mem_append_left _ hy)) k
    have hg : h1.r.g = h.r.g := p.mo.g
    have := hk.wr (by rw [hg]; exact hm) w
    intro n m hm' hh hd
    have e := this n m hm' hh hd
    rw [e]
    have hb : inAt (l ++ [x]) n m = (inAt l n m || (decide (x.s = n) && decide (x.m = m))) := by simp [inAt]
    show (if n = x.s ∧ m = x.m then x.b else _) = if inAt (l ++ [x]) n m then _ else _
    rw [hb]
    by_cases c : n = x.s ∧ m = x.m
    · obtain ⟨rfl, rfl⟩ := c
      simp [hl x (by simp)]
    · rw [if_neg c]
      have : (decide (x.s = n) && decide (x.m = m)) = false := by
        simp only [Bool.and_eq_false_iff, decide_eq_false_iff_not]
        by_cases c1 : x.s = n
        · exact .inr fun c2 => c ⟨c1.symm, c2.symm⟩
        · exact .inl c1
      rw [this, Bool.or_false]
/-- each stripe's cells come to nothing, laid against each other -/
def CX (C : Nat → Nat → Blk) (g : Geo) : Prop := ∀ n, n < g.s → foldb ((List.range g.m).map (C n)) = blk0
/-- what stands on the members (B), what the shelf knows (C) -/
structure SB (C B : Nat → Nat → Blk) (h : Hul) (b : Ben) (s : Shf) : Prop where
  bx : CX B h.r.g
  dk : Dk B h b
  kn : ∀ n m, m < h.r.g.m → (s.F n).kn m = true → (s.F n).bs m = C n m
  cl : ∀ n m, n < h.r.g.s → m < h.r.g.m → (s.F n).dr m = false → C n m = B n m ∨ (m = h.r.g.par n ∧ h.r.has m n = false)
theorem SB.mo_cl {C B : Nat → Nat → Blk} {h h' : Hul} {b b' : Ben} {s : Shf} (k : SB C B h b s) (hm : h.r.g.m ≤ 16) (o : MO h b h' b') (d : Dk B h' b') : SB C B h' b' s := by
  refine ⟨by rw [o.g]; exact k.bx, d, by rw [o.g]; exact k.kn, fun n m hn hm' hd => ?_⟩
  rw [o.g] at hn hm' ⊢
  rcases k.cl n m hn hm' hd with e | ⟨e1, e2⟩
  · exact .inl e
  · exact .inr ⟨e1, o.has m n (by omega) e2⟩
theorem SB.hs {c : Nat} {C B : Nat → Nat → Blk} {h h' : Hul} {b b' : Ben} {s : Shf} (k : SB C B h b s) (hm : h.r.g.m ≤ 16) (o : HS c h b h' b') : SB C B h' b' s := k.mo_cl hm o.mo (k.dk.hs hm o)
theorem inAt_cells {s : Shf} {M n n' m : Nat} : inAt (s.cells M n) n' m = (decide (n = n') && (decide (m < M) && (s.F n).dr m)) := by
  unfold inAt Shf.cells
  rw [Bool.eq_iff_iff]
  simp only [List.any_map, List.any_filter, List.any_eq_true, List.mem_range, Function.comp, Bool.and_eq_true, decide_eq_true_eq]
  constructor
  · rintro ⟨x, h1, h2, h3, h4⟩; subst h4; exact ⟨h3, h1, h2⟩
  · rintro ⟨h1, h2, h3⟩; exact ⟨m, h2, h3, h1, rfl⟩
theorem SB.back {C B : Nat → Nat → Blk} {h h' : Hul} {b b' : Ben} {s : Shf} {n : Nat} (k : SB C B h b s) (hc : CX C h.r.g) (hkd : s.kd) (hm : h.r.g.m ≤ 16) (q : WrS (s.cells h.r.g.m n) h b h' b') (hn : n < h.r.g.s) :
    SB C (fun n' m => if n' = n then C n m else B n' m) h' b' (s.clean n) := by
  have o := q.mo
  have hd := Dk.wrs (C := C) q hm (by
    intro x hx
    unfold Shf.cells at hx
    obtain ⟨m, h1, rfl⟩ := List.mem_map.1 hx
    have h2 := List.mem_filter.1 h1
    exact k.kn n m (List.mem_range.1 h2.1) (hkd n m h2.2)) k.dk
  refine ⟨?_, ?_, ?_, ?_⟩
  · intro n' hn'
    rw [o.g] at hn' ⊢
    by_cases e : n' = n
    · subst e; simpa using hc n' hn'
    · simpa [e] using k.bx n' hn'
  · intro n' m hm' hh hdd
    rw [hd n' m hm' hh hdd]
    show (if inAt (s.cells h.r.g.m n) n' m = true then C n' m else B n' m) = if n' = n then C n m else B n' m
    rw [inAt_cells]
    rw [o.g] at hm'
    by_cases e : n' = n
    · subst e
      simp only [if_true, decide_true, Bool.true_and, hm']
      cases hdr : (s.F n').dr m with
      | true => simp
      | false =>
        simp only [Bool.false_eq_true, if_false]
        rcases k.cl n' m hn hm' hdr with e | ⟨e1, e2⟩
        · exact e.symm
        · rw [o.has m n' (by omega) e2] at hh; cases hh
    · simp [e, Ne.symm e]
  · intro n' m hm' hk
    rw [o.g] at hm'
    have hk : (fset s.F n (s.F n).clean n').kn m = true := hk
    show (fset s.F n (s.F n).clean n').bs m = _
    by_cases e : n' = n
    · subst e; rw [fset_eq] at hk ⊢; exact k.kn n' m hm' hk
    · rw [fset_ne e] at hk ⊢; exact k.kn n' m hm' hk
  · intro n' m hn' hm' hdr
    rw [o.g] at hn' hm' ⊢
    by_cases e : n' = n
    · subst e; left; simp
    · have hdr : (fset s.F n (s.F n).clean n').dr m = false := hdr
      rw [fset_ne e] at hdr
      rcases k.cl n' m hn' hm' hdr with e' | ⟨e1, e2⟩
      · left; simpa [e] using e'
      · exact .inr ⟨e1, o.has m n' (by omega) e2⟩
end Go.Proofs.YtnilejkfbcnkkaaGreatDoor.V
end
