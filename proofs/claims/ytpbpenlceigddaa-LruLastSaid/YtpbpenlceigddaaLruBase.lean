/- Proved: what the program's rows say of the types that package lru works with. -/
import Derived.Test.YtpbpenlceigddaaProg
import Derived.Test.YtpbpenlceigddaaEngM
import Derived.Laws.Tables
set_option linter.unusedVariables false
set_option linter.unusedSimpArgs false
set_option linter.unnecessarySimpa false
namespace Go.Proofs.Ytpbpenlceigddaa.Lru
open Go Go.RowKit Go.Proofs.Ytpbpenlceigddaa.Eng

theorem s3 : (Try.prog.info? 3).map (·.size) = some 1 := by kernel_rfl
theorem s4 : (Try.prog.info? 4).map (·.size) = some 1 := by kernel_rfl
theorem s5 : (Try.prog.info? 5).map (·.size) = some 1 := by kernel_rfl
theorem s22 : (Try.prog.info? 22).map (·.size) = some 1 := by kernel_rfl
theorem s23 : (Try.prog.info? 23).map (·.size) = some 1 := by kernel_rfl
theorem s24 : (Try.prog.info? 24).map (·.size) = some 1 := by kernel_rfl
theorem s33 : (Try.prog.info? 33).map (·.size) = some 1 := by kernel_rfl
theorem s35 : (Try.prog.info? 35).map (·.size) = some 4 := by kernel_rfl
theorem s40 : (Try.prog.info? 40).map (·.size) = some 1 := by kernel_rfl
theorem s46 : (Try.prog.info? 46).map (·.size) = some 1 := by kernel_rfl
theorem s47 : (Try.prog.info? 47).map (·.size) = some 1 := by kernel_rfl
theorem s49 : (Try.prog.info? 49).map (·.size) = some 3 := by kernel_rfl
theorem s52 : (Try.prog.info? 52).map (·.size) = some 4 := by kernel_rfl
theorem s57 : (Try.prog.info? 57).map (·.size) = some 1 := by kernel_rfl
theorem s59 : (Try.prog.info? 59).map (·.size) = some 2 := by kernel_rfl
theorem s62 : (Try.prog.info? 62).map (·.size) = some 2 := by kernel_rfl
theorem s63 : (Try.prog.info? 63).map (·.size) = some 1 := by kernel_rfl
theorem SL22 : SlType Try.prog 22 3 eInt 8 := SlType.mk' (.int .i64 0) Try.underlying22 (by kernel_rfl) (by simp [Value.cells, eInt])
theorem b8 : Bodied Try.prog 8 := ⟨_, Try.func8, by kernel_rfl, rfl⟩
theorem b9 : Bodied Try.prog 9 := ⟨_, Try.func9, by kernel_rfl, rfl⟩
theorem b10 : Bodied Try.prog 10 := ⟨_, Try.func10, by kernel_rfl, rfl⟩
theorem b11 : Bodied Try.prog 11 := ⟨_, Try.func11, by kernel_rfl, rfl⟩
theorem b12 : Bodied Try.prog 12 := ⟨_, Try.func12, by kernel_rfl, rfl⟩
theorem b13 : Bodied Try.prog 13 := ⟨_, Try.func13, by kernel_rfl, rfl⟩
theorem b14 : Bodied Try.prog 14 := ⟨_, Try.func14, by kernel_rfl, rfl⟩
theorem b15 : Bodied Try.prog 15 := ⟨_, Try.func15, by kernel_rfl, rfl⟩
theorem b16 : Bodied Try.prog 16 := ⟨_, Try.func16, by kernel_rfl, rfl⟩
theorem b17 : Bodied Try.prog 17 := ⟨_, Try.func17, by kernel_rfl, rfl⟩
theorem b18 : Bodied Try.prog 18 := ⟨_, Try.func18, by kernel_rfl, rfl⟩
theorem b19 : Bodied Try.prog 19 := ⟨_, Try.func19, by kernel_rfl, rfl⟩
theorem b20 : Bodied Try.prog 20 := ⟨_, Try.func20, by kernel_rfl, rfl⟩
theorem b21 : Bodied Try.prog 21 := ⟨_, Try.func21, by kernel_rfl, rfl⟩
theorem b22 : Bodied Try.prog 22 := ⟨_, Try.func22, by kernel_rfl, rfl⟩
theorem b23 : Bodied Try.prog 23 := ⟨_, Try.func23, by kernel_rfl, rfl⟩
theorem b24 : Bodied Try.prog 24 := ⟨_, Try.func24, by kernel_rfl, rfl⟩
theorem b25 : Bodied Try.prog 25 := ⟨_, Try.func25, by kernel_rfl, rfl⟩
theorem b26 : Bodied Try.prog 26 := ⟨_, Try.func26, by kernel_rfl, rfl⟩
theorem b27 : Bodied Try.prog 27 := ⟨_, Try.func27, by kernel_rfl, rfl⟩
theorem b28 : Bodied Try.prog 28 := ⟨_, Try.func28, by kernel_rfl, rfl⟩
theorem b29 : Bodied Try.prog 29 := ⟨_, Try.func29, by kernel_rfl, rfl⟩
theorem b30 : Bodied Try.prog 30 := ⟨_, Try.func30, by kernel_rfl, rfl⟩
theorem b31 : Bodied Try.prog 31 := ⟨_, Try.func31, by kernel_rfl, rfl⟩
theorem b32 : Bodied Try.prog 32 := ⟨_, Try.func32, by kernel_rfl, rfl⟩
theorem b33 : Bodied Try.prog 33 := ⟨_, Try.func33, by kernel_rfl, rfl⟩
theorem b34 : Bodied Try.prog 34 := ⟨_, Try.func34, by kernel_rfl, rfl⟩
theorem zp47 : (Try.prog.info? 47).map (·.zero) = some (some (.pointer none)) := by kernel_rfl

/-! ### Keys, as the reference holds them -/
def eKey : Enc (Int × Bool) := ⟨fun x => [.int .i64 x.1, .bool x.2], 2, fun x => rfl, fun x v hv => by simp at hv; rcases hv with rfl | rfl <;> rfl, by omega⟩
theorem SL57 : SlType Try.prog 57 62 eKey 16 := SlType.mk' (.agg #[.int .i64 0, .bool false]) Try.underlying57 (by kernel_rfl) (by simp [Value.cells, eKey])
/-! ### Acts -/
structure Act where
  a : Int
  k : Int
  nth : Bool
  is : Bool
def Act.arr (x : Act) : Array Value := #[.int .i64 x.a, .int .i64 x.k, .bool x.nth, .bool x.is]
def eAct : Enc Act := ⟨fun x => [.int .i64 x.a, .int .i64 x.k, .bool x.nth, .bool x.is], 4, fun x => rfl, fun x v hv => by simp at hv; rcases hv with rfl | rfl | rfl | rfl <;> rfl, by omega⟩
end Go.Proofs.Ytpbpenlceigddaa.Lru
