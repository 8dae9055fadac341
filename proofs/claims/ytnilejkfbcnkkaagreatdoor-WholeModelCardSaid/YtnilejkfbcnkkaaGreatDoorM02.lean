/- Proved: what the program's rows say of its types and functions.; regions that draw their order, which falls into parts that come one behind the other.; regions that draw their order, told by one order of their operations, where what stays open to order is quiet or new memory; the steps of a walk that need no thought, and rules that name a walk's ends; rules of the walk on slices; rules of the walk on slices that are made, appended to, written out, parted or copied into; what the program's rows say of its types of slices.; rules of the walk on structs that are built, on results, on chunks that hide what they stand on; what the program's rows say of its structs.; the steps of a walk that need no thought.; the conditions stand in the statements. -/
import Derived.Test.YtnilejkfbcnkkaaGreatDoorProg
import Derived.Test.YtnilejkfbcnkkaaGreatDoorM01
import Derived.Laws.AppendOwn
import Derived.Laws.MakeOwn
import Derived.Great.BuildSlice
set_option linter.unusedVariables false
set_option linter.unusedSimpArgs false
set_option linter.unusedSectionVars false
section
set_option maxRecDepth 100000
namespace Go.Proofs.YtnilejkfbcnkkaaGreatDoor.V
open Go Go.RowKit

instance : UT Tryz.prog 3 (.int .i64) := ⟨Tryz.underlying3⟩
instance : SC Tryz.prog 3 := ⟨_, Tryz.underlying3, rfl⟩
instance z3 : SZ Tryz.prog 3 1 := ⟨by kernel_rfl⟩
instance : UT Tryz.prog 4 .bool := ⟨Tryz.underlying4⟩
instance : SC Tryz.prog 4 := ⟨_, Tryz.underlying4, rfl⟩
instance z4 : SZ Tryz.prog 4 1 := ⟨by kernel_rfl⟩
instance : UT Tryz.prog 5 (.int .u8) := ⟨Tryz.underlying5⟩
instance : SC Tryz.prog 5 := ⟨_, Tryz.underlying5, rfl⟩
instance z5 : SZ Tryz.prog 5 1 := ⟨by kernel_rfl⟩
instance : SC Tryz.prog 9 := ⟨_, Tryz.underlying9, rfl⟩
instance z9 : SZ Tryz.prog 9 1 := ⟨by kernel_rfl⟩
instance : SC Tryz.prog 20 := ⟨_, Tryz.underlying20, rfl⟩
instance z20 : SZ Tryz.prog 20 1 := ⟨by kernel_rfl⟩
instance : UT Tryz.prog 22 (.slice 32) := ⟨Tryz.underlying22⟩
instance : SC Tryz.prog 22 := ⟨_, Tryz.underlying22, rfl⟩
instance z22 : SZ Tryz.prog 22 1 := ⟨by kernel_rfl⟩
instance : UT Tryz.prog 23 (.pointer 37) := ⟨Tryz.underlying23⟩
instance : SC Tryz.prog 23 := ⟨_, Tryz.underlying23, rfl⟩
instance z23 : SZ Tryz.prog 23 1 := ⟨by kernel_rfl⟩
instance : RW Tryz.prog 27 := ⟨_, Tryz.underlying27, rfl⟩
instance z27 : SZ Tryz.prog 27 3 := ⟨by kernel_rfl⟩
instance : UT Tryz.prog 29 (.slice 53) := ⟨Tryz.underlying29⟩
instance : SC Tryz.prog 29 := ⟨_, Tryz.underlying29, rfl⟩
instance z29 : SZ Tryz.prog 29 1 := ⟨by kernel_rfl⟩
instance : UT Tryz.prog 30 (.slice 3) := ⟨Tryz.underlying30⟩
instance : SC Tryz.prog 30 := ⟨_, Tryz.underlying30, rfl⟩
instance z30 : SZ Tryz.prog 30 1 := ⟨by kernel_rfl⟩
instance : RW Tryz.prog 32 := ⟨_, Tryz.underlying32, rfl⟩
instance z32 : SZ Tryz.prog 32 5 := ⟨by kernel_rfl⟩
instance : UT Tryz.prog 33 (.pointer 71) := ⟨Tryz.underlying33⟩
instance : SC Tryz.prog 33 := ⟨_, Tryz.underlying33, rfl⟩
instance z33 : SZ Tryz.prog 33 1 := ⟨by kernel_rfl⟩
instance : UT Tryz.prog 34 (.pointer 82) := ⟨Tryz.underlying34⟩
instance : SC Tryz.prog 34 := ⟨_, Tryz.underlying34, rfl⟩
instance z34 : SZ Tryz.prog 34 1 := ⟨by kernel_rfl⟩
instance : UT Tryz.prog 35 (.pointer 59) := ⟨Tryz.underlying35⟩
instance : SC Tryz.prog 35 := ⟨_, Tryz.underlying35, rfl⟩
instance z35 : SZ Tryz.prog 35 1 := ⟨by kernel_rfl⟩
instance : RW Tryz.prog 37 := ⟨_, Tryz.underlying37, rfl⟩
instance z37 : SZ Tryz.prog 37 6 := ⟨by kernel_rfl⟩
instance : UT Tryz.prog 39 (.int .i64) := ⟨Tryz.underlying39⟩
instance : SC Tryz.prog 39 := ⟨_, Tryz.underlying39, rfl⟩
instance z39 : SZ Tryz.prog 39 1 := ⟨by kernel_rfl⟩
instance : SC Tryz.prog 42 := ⟨_, Tryz.underlying42, rfl⟩
instance z42 : SZ Tryz.prog 42 1 := ⟨by kernel_rfl⟩
instance : UT Tryz.prog 43 (.int .u64) := ⟨Tryz.underlying43⟩
instance : SC Tryz.prog 43 := ⟨_, Tryz.underlying43, rfl⟩
instance z43 : SZ Tryz.prog 43 1 := ⟨by kernel_rfl⟩
instance : SC Tryz.prog 48 := ⟨_, Tryz.underlying48, rfl⟩
instance z48 : SZ Tryz.prog 48 1 := ⟨by kernel_rfl⟩
instance : UT Tryz.prog 51 (.array 64 5) := ⟨Tryz.underlying51⟩
instance : RW Tryz.prog 51 := ⟨_, Tryz.underlying51, rfl⟩
instance z51 : SZ Tryz.prog 51 64 := ⟨by kernel_rfl⟩
instance : RW Tryz.prog 53 := ⟨_, Tryz.underlying53, rfl⟩
instance z53 : SZ Tryz.prog 53 65 := ⟨by kernel_rfl⟩
instance : UT Tryz.prog 57 (.slice 51) := ⟨Tryz.underlying57⟩
instance : SC Tryz.prog 57 := ⟨_, Tryz.underlying57, rfl⟩
instance z57 : SZ Tryz.prog 57 1 := ⟨by kernel_rfl⟩
instance : RW Tryz.prog 59 := ⟨_, Tryz.underlying59, rfl⟩
instance z59 : SZ Tryz.prog 59 1 := ⟨by kernel_rfl⟩
instance : UT Tryz.prog 66 (.int .u64) := ⟨Tryz.underlying66⟩
instance : SC Tryz.prog 66 := ⟨_, Tryz.underlying66, rfl⟩
instance z66 : SZ Tryz.prog 66 1 := ⟨by kernel_rfl⟩
instance : UT Tryz.prog 68 (.pointer 105) := ⟨Tryz.underlying68⟩
instance : SC Tryz.prog 68 := ⟨_, Tryz.underlying68, rfl⟩
instance z68 : SZ Tryz.prog 68 1 := ⟨by kernel_rfl⟩
instance : UT Tryz.prog 69 (.slice 68) := ⟨Tryz.underlying69⟩
instance : SC Tryz.prog 69 := ⟨_, Tryz.underlying69, rfl⟩
instance z69 : SZ Tryz.prog 69 1 := ⟨by kernel_rfl⟩
instance : RW Tryz.prog 71 := ⟨_, Tryz.underlying71, rfl⟩
instance z71 : SZ Tryz.prog 71 4 := ⟨by kernel_rfl⟩
instance : RW Tryz.prog 77 := ⟨_, Tryz.underlying77, rfl⟩
instance z77 : SZ Tryz.prog 77 7 := ⟨by kernel_rfl⟩
instance : UT Tryz.prog 79 (.pointer 87) := ⟨Tryz.underlying79⟩
instance : SC Tryz.prog 79 := ⟨_, Tryz.underlying79, rfl⟩
instance z79 : SZ Tryz.prog 79 1 := ⟨by kernel_rfl⟩
instance : UT Tryz.prog 80 (.pointer 118) := ⟨Tryz.underlying80⟩
instance : SC Tryz.prog 80 := ⟨_, Tryz.underlying80, rfl⟩
instance z80 : SZ Tryz.prog 80 1 := ⟨by kernel_rfl⟩
instance : RW Tryz.prog 82 := ⟨_, Tryz.underlying82, rfl⟩
instance z82 : SZ Tryz.prog 82 2 := ⟨by kernel_rfl⟩
instance : UT Tryz.prog 83 (.pointer 114) := ⟨Tryz.underlying83⟩
instance : SC Tryz.prog 83 := ⟨_, Tryz.underlying83, rfl⟩
instance z83 : SZ Tryz.prog 83 1 := ⟨by kernel_rfl⟩
instance : UT Tryz.prog 84 (.pointer 170) := ⟨Tryz.underlying84⟩
instance : SC Tryz.prog 84 := ⟨_, Tryz.underlying84, rfl⟩
instance z84 : SZ Tryz.prog 84 1 := ⟨by kernel_rfl⟩
instance : UT Tryz.prog 85 (.pointer 185) := ⟨Tryz.underlying85⟩
instance : SC Tryz.prog 85 := ⟨_, Tryz.underlying85, rfl⟩
instance z85 : SZ Tryz.prog 85 1 := ⟨by kernel_rfl⟩
instance : RW Tryz.prog 87 := ⟨_, Tryz.underlying87, rfl⟩
instance z87 : SZ Tryz.prog 87 5 := ⟨by kernel_rfl⟩
instance : UT Tryz.prog 90 (.array 16 5) := ⟨Tryz.underlying90⟩
instance : RW Tryz.prog 90 := ⟨_, Tryz.underlying90, rfl⟩
instance z90 : SZ Tryz.prog 90 16 := ⟨by kernel_rfl⟩
instance : RW Tryz.prog 92 := ⟨_, Tryz.underlying92, rfl⟩
instance z92 : SZ Tryz.prog 92 21 := ⟨by kernel_rfl⟩
instance : UT Tryz.prog 103 (.slice 284) := ⟨Tryz.underlying103⟩
instance : SC Tryz.prog 103 := ⟨_, Tryz.underlying103, rfl⟩
instance z103 : SZ Tryz.prog 103 1 := ⟨by kernel_rfl⟩
instance : RW Tryz.prog 105 := ⟨_, Tryz.underlying105, rfl⟩
instance z105 : SZ Tryz.prog 105 3 := ⟨by kernel_rfl⟩
instance : RW Tryz.prog 114 := ⟨_, Tryz.underlying114, rfl⟩
instance z114 : SZ Tryz.prog 114 24 := ⟨by kernel_rfl⟩
instance : UT Tryz.prog 116 (.map 3 51) := ⟨Tryz.underlying116⟩
instance : SC Tryz.prog 116 := ⟨_, Tryz.underlying116, rfl⟩
instance z116 : SZ Tryz.prog 116 1 := ⟨by kernel_rfl⟩
instance : RW Tryz.prog 118 := ⟨_, Tryz.underlying118, rfl⟩
instance z118 : SZ Tryz.prog 118 4 := ⟨by kernel_rfl⟩
instance : RW Tryz.prog 120 := ⟨_, Tryz.underlying120, rfl⟩
instance z120 : SZ Tryz.prog 120 2 := ⟨by kernel_rfl⟩
instance : SC Tryz.prog 140 := ⟨_, Tryz.underlying140, rfl⟩
instance z140 : SZ Tryz.prog 140 1 := ⟨by kernel_rfl⟩
instance : UT Tryz.prog 142 (.map 3 3) := ⟨Tryz.underlying142⟩
instance : SC Tryz.prog 142 := ⟨_, Tryz.underlying142, rfl⟩
instance z142 : SZ Tryz.prog 142 1 := ⟨by kernel_rfl⟩
instance : UT Tryz.prog 143 (.slice 147) := ⟨Tryz.underlying143⟩
instance : SC Tryz.prog 143 := ⟨_, Tryz.underlying143, rfl⟩
instance z143 : SZ Tryz.prog 143 1 := ⟨by kernel_rfl⟩
instance : UT Tryz.prog 145 (.slice 4) := ⟨Tryz.underlying145⟩
instance : SC Tryz.prog 145 := ⟨_, Tryz.underlying145, rfl⟩
instance z145 : SZ Tryz.prog 145 1 := ⟨by kernel_rfl⟩
instance : RW Tryz.prog 147 := ⟨_, Tryz.underlying147, rfl⟩
instance z147 : SZ Tryz.prog 147 5 := ⟨by kernel_rfl⟩
instance : UT Tryz.prog 149 (.slice 163) := ⟨Tryz.underlying149⟩
instance : SC Tryz.prog 149 := ⟨_, Tryz.underlying149, rfl⟩
instance z149 : SZ Tryz.prog 149 1 := ⟨by kernel_rfl⟩
instance : RW Tryz.prog 163 := ⟨_, Tryz.underlying163, rfl⟩
instance z163 : SZ Tryz.prog 163 66 := ⟨by kernel_rfl⟩
instance : UT Tryz.prog 167 (.pointer 251) := ⟨Tryz.underlying167⟩
instance : SC Tryz.prog 167 := ⟨_, Tryz.underlying167, rfl⟩
instance z167 : SZ Tryz.prog 167 1 := ⟨by kernel_rfl⟩
instance : UT Tryz.prog 168 (.map 3 171) := ⟨Tryz.underlying168⟩
instance : SC Tryz.prog 168 := ⟨_, Tryz.underlying168, rfl⟩
instance z168 : SZ Tryz.prog 168 1 := ⟨by kernel_rfl⟩
instance : RW Tryz.prog 170 := ⟨_, Tryz.underlying170, rfl⟩
instance z170 : SZ Tryz.prog 170 5 := ⟨by kernel_rfl⟩
instance : UT Tryz.prog 171 (.pointer 228) := ⟨Tryz.underlying171⟩
instance : SC Tryz.prog 171 := ⟨_, Tryz.underlying171, rfl⟩
instance z171 : SZ Tryz.prog 171 1 := ⟨by kernel_rfl⟩
instance : RW Tryz.prog 176 := ⟨_, Tryz.underlying176, rfl⟩
instance z176 : SZ Tryz.prog 176 1 := ⟨by kernel_rfl⟩
instance : UT Tryz.prog 183 (.slice 265) := ⟨Tryz.underlying183⟩
instance : SC Tryz.prog 183 := ⟨_, Tryz.underlying183, rfl⟩
instance z183 : SZ Tryz.prog 183 1 := ⟨by kernel_rfl⟩
instance : RW Tryz.prog 185 := ⟨_, Tryz.underlying185, rfl⟩
instance z185 : SZ Tryz.prog 185 9 := ⟨by kernel_rfl⟩
instance : UT Tryz.prog 186 (.slice 48) := ⟨Tryz.underlying186⟩
instance : SC Tryz.prog 186 := ⟨_, Tryz.underlying186, rfl⟩
instance z186 : SZ Tryz.prog 186 1 := ⟨by kernel_rfl⟩
instance : UT Tryz.prog 195 (.map 3 196) := ⟨Tryz.underlying195⟩
instance : SC Tryz.prog 195 := ⟨_, Tryz.underlying195, rfl⟩
instance z195 : SZ Tryz.prog 195 1 := ⟨by kernel_rfl⟩
instance : UT Tryz.prog 196 (.pointer 147) := ⟨Tryz.underlying196⟩
instance : SC Tryz.prog 196 := ⟨_, Tryz.underlying196, rfl⟩
instance z196 : SZ Tryz.prog 196 1 := ⟨by kernel_rfl⟩
instance : RW Tryz.prog 204 := ⟨_, Tryz.underlying204, rfl⟩
instance z204 : SZ Tryz.prog 204 2 := ⟨by kernel_rfl⟩
instance : UT Tryz.prog 225 (.array 16 4) := ⟨Tryz.underlying225⟩
instance : RW Tryz.prog 225 := ⟨_, Tryz.underlying225, rfl⟩
instance z225 : SZ Tryz.prog 225 16 := ⟨by kernel_rfl⟩
instance : UT Tryz.prog 226 (.array 16 51) := ⟨Tryz.underlying226⟩
instance : RW Tryz.prog 226 := ⟨_, Tryz.underlying226, rfl⟩
instance z226 : SZ Tryz.prog 226 1024 := ⟨by kernel_rfl⟩
instance : RW Tryz.prog 228 := ⟨_, Tryz.underlying228, rfl⟩
instance z228 : SZ Tryz.prog 228 1058 := ⟨by kernel_rfl⟩
instance : UT Tryz.prog 231 (.slice 5) := ⟨Tryz.underlying231⟩
instance : SC Tryz.prog 231 := ⟨_, Tryz.underlying231, rfl⟩
instance z231 : SZ Tryz.prog 231 1 := ⟨by kernel_rfl⟩
instance : RW Tryz.prog 239 := ⟨_, Tryz.underlying239, rfl⟩
instance z239 : SZ Tryz.prog 239 4 := ⟨by kernel_rfl⟩
instance : RW Tryz.prog 244 := ⟨_, Tryz.underlying244, rfl⟩
instance z244 : SZ Tryz.prog 244 23 := ⟨by kernel_rfl⟩
instance : UT Tryz.prog 246 (.pointer 248) := ⟨Tryz.underlying246⟩
instance : SC Tryz.prog 246 := ⟨_, Tryz.underlying246, rfl⟩
instance z246 : SZ Tryz.prog 246 1 := ⟨by kernel_rfl⟩
instance : RW Tryz.prog 248 := ⟨_, Tryz.underlying248, rfl⟩
instance z248 : SZ Tryz.prog 248 4 := ⟨by kernel_rfl⟩
instance : UT Tryz.prog 249 (.map 3 246) := ⟨Tryz.underlying249⟩
instance : SC Tryz.prog 249 := ⟨_, Tryz.underlying249, rfl⟩
instance z249 : SZ Tryz.prog 249 1 := ⟨by kernel_rfl⟩
instance : RW Tryz.prog 251 := ⟨_, Tryz.underlying251, rfl⟩
instance z251 : SZ Tryz.prog 251 3 := ⟨by kernel_rfl⟩
instance : UT Tryz.prog 263 (.int .u32) := ⟨Tryz.underlying263⟩
instance : SC Tryz.prog 263 := ⟨_, Tryz.underlying263, rfl⟩
instance z263 : SZ Tryz.prog 263 1 := ⟨by kernel_rfl⟩
instance : RW Tryz.prog 265 := ⟨_, Tryz.underlying265, rfl⟩
instance z265 : SZ Tryz.prog 265 4 := ⟨by kernel_rfl⟩
instance : UT Tryz.prog 274 (.int .i64) := ⟨Tryz.underlying274⟩
instance : SC Tryz.prog 274 := ⟨_, Tryz.underlying274, rfl⟩
instance z274 : SZ Tryz.prog 274 1 := ⟨by kernel_rfl⟩
instance : RW Tryz.prog 284 := ⟨_, Tryz.underlying284, rfl⟩
instance z284 : SZ Tryz.prog 284 65 := ⟨by kernel_rfl⟩
instance : UT Tryz.prog 286 (.array 4 66) := ⟨Tryz.underlying286⟩
instance : RW Tryz.prog 286 := ⟨_, Tryz.underlying286, rfl⟩
instance z286 : SZ Tryz.prog 286 4 := ⟨by kernel_rfl⟩
instance : UT Tryz.prog 289 (.array 4 3) := ⟨Tryz.underlying289⟩
instance : RW Tryz.prog 289 := ⟨_, Tryz.underlying289, rfl⟩
instance z289 : SZ Tryz.prog 289 4 := ⟨by kernel_rfl⟩
instance : RW Tryz.prog 297 := ⟨_, Tryz.underlying297, rfl⟩
instance z297 : SZ Tryz.prog 297 3 := ⟨by kernel_rfl⟩
instance : UT Tryz.prog 308 (.int .u64) := ⟨Tryz.underlying308⟩
instance : SC Tryz.prog 308 := ⟨_, Tryz.underlying308, rfl⟩
instance z308 : SZ Tryz.prog 308 1 := ⟨by kernel_rfl⟩
instance : UT Tryz.prog 311 (.pointer 3) := ⟨Tryz.underlying311⟩
instance : SC Tryz.prog 311 := ⟨_, Tryz.underlying311, rfl⟩
instance z311 : SZ Tryz.prog 311 1 := ⟨by kernel_rfl⟩
instance : UT Tryz.prog 332 (.pointer 334) := ⟨Tryz.underlying332⟩
instance : SC Tryz.prog 332 := ⟨_, Tryz.underlying332, rfl⟩
instance z332 : SZ Tryz.prog 332 1 := ⟨by kernel_rfl⟩
instance : RW Tryz.prog 334 := ⟨_, Tryz.underlying334, rfl⟩
instance z334 : SZ Tryz.prog 334 2 := ⟨by kernel_rfl⟩
instance : SC Tryz.prog 338 := ⟨_, Tryz.underlying338, rfl⟩
instance z338 : SZ Tryz.prog 338 1 := ⟨by kernel_rfl⟩
instance : UT Tryz.prog 339 (.array 16 263) := ⟨Tryz.underlying339⟩
instance : RW Tryz.prog 339 := ⟨_, Tryz.underlying339, rfl⟩
instance z339 : SZ Tryz.prog 339 16 := ⟨by kernel_rfl⟩
instance : UT Tryz.prog 343 (.int .u16) := ⟨Tryz.underlying343⟩
instance : SC Tryz.prog 343 := ⟨_, Tryz.underlying343, rfl⟩
instance z343 : SZ Tryz.prog 343 1 := ⟨by kernel_rfl⟩
instance : FLD Tryz.prog 27 0 0 := ⟨_, _, _, Tryz.underlying27, rfl, rfl, z3.h⟩
instance : FT Tryz.prog 27 0 0 3 1 := ⟨_, _, Tryz.underlying27, rfl, rfl, rfl, z3.h⟩
instance : FLD Tryz.prog 27 1 1 := ⟨_, _, _, Tryz.underlying27, rfl, rfl, z3.h⟩
instance : FT Tryz.prog 27 1 1 3 1 := ⟨_, _, Tryz.underlying27, rfl, rfl, rfl, z3.h⟩
instance : FLD Tryz.prog 27 2 2 := ⟨_, _, _, Tryz.underlying27, rfl, rfl, z3.h⟩
instance : FT Tryz.prog 27 2 2 3 1 := ⟨_, _, Tryz.underlying27, rfl, rfl, rfl, z3.h⟩
instance : FLD Tryz.prog 32 0 0 := ⟨_, _, _, Tryz.underlying32, rfl, rfl, z3.h⟩
instance : FT Tryz.prog 32 0 0 3 1 := ⟨_, _, Tryz.underlying32, rfl, rfl, rfl, z3.h⟩
instance : FLD Tryz.prog 32 1 1 := ⟨_, _, _, Tryz.underlying32, rfl, rfl, z3.h⟩
instance : FT Tryz.prog 32 1 1 3 1 := ⟨_, _, Tryz.underlying32, rfl, rfl, rfl, z3.h⟩
instance : FLD Tryz.prog 32 2 2 := ⟨_, _, _, Tryz.underlying32, rfl, rfl, z29.h⟩
instance : FT Tryz.prog 32 2 2 29 1 := ⟨_, _, Tryz.underlying32, rfl, rfl, rfl, z29.h⟩
instance : FLD Tryz.prog 32 3 3 := ⟨_, _, _, Tryz.underlying32, rfl, rfl, z3.h⟩
instance : FT Tryz.prog 32 3 3 3 1 := ⟨_, _, Tryz.underlying32, rfl, rfl, rfl, z3.h⟩
instance : FLD Tryz.prog 32 4 4 := ⟨_, _, _, Tryz.underlying32, rfl, rfl, z30.h⟩
instance : FT Tryz.prog 32 4 4 30 1 := ⟨_, _, Tryz.underlying32, rfl, rfl, rfl, z30.h⟩
instance : FLD Tryz.prog 37 0 0 := ⟨_, _, _, Tryz.underlying37, rfl, rfl, z27.h⟩
instance : FT Tryz.prog 37 0 0 27 3 := ⟨_, _, Tryz.underlying37, rfl, rfl, rfl, z27.h⟩
instance : FLD Tryz.prog 37 1 3 := ⟨_, _, _, Tryz.underlying37, rfl, rfl, z33.h⟩
instance : FT Tryz.prog 37 1 3 33 1 := ⟨_, _, Tryz.underlying37, rfl, rfl, rfl, z33.h⟩
instance : FLD Tryz.prog 37 2 4 := ⟨_, _, _, Tryz.underlying37, rfl, rfl, z34.h⟩
instance : FT Tryz.prog 37 2 4 34 1 := ⟨_, _, Tryz.underlying37, rfl, rfl, rfl, z34.h⟩
instance : FLD Tryz.prog 37 3 5 := ⟨_, _, _, Tryz.underlying37, rfl, rfl, z35.h⟩
instance : FT Tryz.prog 37 3 5 35 1 := ⟨_, _, Tryz.underlying37, rfl, rfl, rfl, z35.h⟩
instance : FLD Tryz.prog 53 0 0 := ⟨_, _, _, Tryz.underlying53, rfl, rfl, z3.h⟩
instance : FT Tryz.prog 53 0 0 3 1 := ⟨_, _, Tryz.underlying53, rfl, rfl, rfl, z3.h⟩
instance : FLD Tryz.prog 53 1 1 := ⟨_, _, _, Tryz.underlying53, rfl, rfl, z51.h⟩
instance : FT Tryz.prog 53 1 1 51 64 := ⟨_, _, Tryz.underlying53, rfl, rfl, rfl, z51.h⟩
instance : FLD Tryz.prog 59 0 0 := ⟨_, _, _, Tryz.underlying59, rfl, rfl, z57.h⟩
instance : FT Tryz.prog 59 0 0 57 1 := ⟨_, _, Tryz.underlying59, rfl, rfl, rfl, z57.h⟩
instance : FLD Tryz.prog 71 0 0 := ⟨_, _, _, Tryz.underlying71, rfl, rfl, z69.h⟩
instance : FT Tryz.prog 71 0 0 69 1 := ⟨_, _, Tryz.underlying71, rfl, rfl, rfl, z69.h⟩
instance : FLD Tryz.prog 71 1 1 := ⟨_, _, _, Tryz.underlying71, rfl, rfl, z3.h⟩
instance : FT Tryz.prog 71 1 1 3 1 := ⟨_, _, Tryz.underlying71, rfl, rfl, rfl, z3.h⟩
instance : FLD Tryz.prog 71 2 2 := ⟨_, _, _, Tryz.underlying71, rfl, rfl, z3.h⟩
instance : FT Tryz.prog 71 2 2 3 1 := ⟨_, _, Tryz.underlying71, rfl, rfl, rfl, z3.h⟩
instance : FLD Tryz.prog 71 3 3 := ⟨_, _, _, Tryz.underlying71, rfl, rfl, z4.h⟩
instance : FT Tryz.prog 71 3 3 4 1 := ⟨_, _, Tryz.underlying71, rfl, rfl, rfl, z4.h⟩
instance : FLD Tryz.prog 77 0 0 := ⟨_, _, _, Tryz.underlying77, rfl, rfl, z3.h⟩
instance : FT Tryz.prog 77 0 0 3 1 := ⟨_, _, Tryz.underlying77, rfl, rfl, rfl, z3.h⟩
instance : FLD Tryz.prog 77 1 1 := ⟨_, _, _, Tryz.underlying77, rfl, rfl, z66.h⟩
instance : FT Tryz.prog 77 1 1 66 1 := ⟨_, _, Tryz.underlying77, rfl, rfl, rfl, z66.h⟩
instance : FLD Tryz.prog 77 2 2 := ⟨_, _, _, Tryz.underlying77, rfl, rfl, z3.h⟩
instance : FT Tryz.prog 77 2 2 3 1 := ⟨_, _, Tryz.underlying77, rfl, rfl, rfl, z3.h⟩
instance : FLD Tryz.prog 77 3 3 := ⟨_, _, _, Tryz.underlying77, rfl, rfl, z3.h⟩
instance : FT Tryz.prog 77 3 3 3 1 := ⟨_, _, Tryz.underlying77, rfl, rfl, rfl, z3.h⟩
instance : FLD Tryz.prog 77 4 4 := ⟨_, _, _, Tryz.underlying77, rfl, rfl, z3.h⟩
instance : FT Tryz.prog 77 4 4 3 1 := ⟨_, _, Tryz.underlying77, rfl, rfl, rfl, z3.h⟩
instance : FLD Tryz.prog 77 5 5 := ⟨_, _, _, Tryz.underlying77, rfl, rfl, z3.h⟩
instance : FT Tryz.prog 77 5 5 3 1 := ⟨_, _, Tryz.underlying77, rfl, rfl, rfl, z3.h⟩
instance : FLD Tryz.prog 77 6 6 := ⟨_, _, _, Tryz.underlying77, rfl, rfl, z4.h⟩
instance : FT Tryz.prog 77 6 6 4 1 := ⟨_, _, Tryz.underlying77, rfl, rfl, rfl, z4.h⟩
instance : FLD Tryz.prog 82 0 0 := ⟨_, _, _, Tryz.underlying82, rfl, rfl, z79.h⟩
instance : FT Tryz.prog 82 0 0 79 1 := ⟨_, _, Tryz.underlying82, rfl, rfl, rfl, z79.h⟩
instance : FLD Tryz.prog 82 1 1 := ⟨_, _, _, Tryz.underlying82, rfl, rfl, z80.h⟩
instance : FT Tryz.prog 82 1 1 80 1 := ⟨_, _, Tryz.underlying82, rfl, rfl, rfl, z80.h⟩
instance : FLD Tryz.prog 87 0 0 := ⟨_, _, _, Tryz.underlying87, rfl, rfl, z83.h⟩
instance : FT Tryz.prog 87 0 0 83 1 := ⟨_, _, Tryz.underlying87, rfl, rfl, rfl, z83.h⟩
instance : FLD Tryz.prog 87 1 1 := ⟨_, _, _, Tryz.underlying87, rfl, rfl, z33.h⟩
instance : FT Tryz.prog 87 1 1 33 1 := ⟨_, _, Tryz.underlying87, rfl, rfl, rfl, z33.h⟩
instance : FLD Tryz.prog 87 2 2 := ⟨_, _, _, Tryz.underlying87, rfl, rfl, z84.h⟩
instance : FT Tryz.prog 87 2 2 84 1 := ⟨_, _, Tryz.underlying87, rfl, rfl, rfl, z84.h⟩
instance : FLD Tryz.prog 87 3 3 := ⟨_, _, _, Tryz.underlying87, rfl, rfl, z85.h⟩
instance : FT Tryz.prog 87 3 3 85 1 := ⟨_, _, Tryz.underlying87, rfl, rfl, rfl, z85.h⟩
instance : FLD Tryz.prog 87 4 4 := ⟨_, _, _, Tryz.underlying87, rfl, rfl, z4.h⟩
instance : FT Tryz.prog 87 4 4 4 1 := ⟨_, _, Tryz.underlying87, rfl, rfl, rfl, z4.h⟩
instance : FLD Tryz.prog 92 0 0 := ⟨_, _, _, Tryz.underlying92, rfl, rfl, z27.h⟩
instance : FT Tryz.prog 92 0 0 27 3 := ⟨_, _, Tryz.underlying92, rfl, rfl, rfl, z27.h⟩
instance : FLD Tryz.prog 92 1 3 := ⟨_, _, _, Tryz.underlying92, rfl, rfl, z90.h⟩
instance : FT Tryz.prog 92 1 3 90 16 := ⟨_, _, Tryz.underlying92, rfl, rfl, rfl, z90.h⟩
instance : FLD Tryz.prog 92 2 19 := ⟨_, _, _, Tryz.underlying92, rfl, rfl, z3.h⟩
instance : FT Tryz.prog 92 2 19 3 1 := ⟨_, _, Tryz.underlying92, rfl, rfl, rfl, z3.h⟩
instance : FLD Tryz.prog 92 3 20 := ⟨_, _, _, Tryz.underlying92, rfl, rfl, z4.h⟩
instance : FT Tryz.prog 92 3 20 4 1 := ⟨_, _, Tryz.underlying92, rfl, rfl, rfl, z4.h⟩
instance : FLD Tryz.prog 105 0 0 := ⟨_, _, _, Tryz.underlying105, rfl, rfl, z57.h⟩
instance : FT Tryz.prog 105 0 0 57 1 := ⟨_, _, Tryz.underlying105, rfl, rfl, rfl, z57.h⟩
instance : FLD Tryz.prog 105 1 1 := ⟨_, _, _, Tryz.underlying105, rfl, rfl, z103.h⟩
instance : FT Tryz.prog 105 1 1 103 1 := ⟨_, _, Tryz.underlying105, rfl, rfl, rfl, z103.h⟩
instance : FLD Tryz.prog 105 2 2 := ⟨_, _, _, Tryz.underlying105, rfl, rfl, z4.h⟩
instance : FT Tryz.prog 105 2 2 4 1 := ⟨_, _, Tryz.underlying105, rfl, rfl, rfl, z4.h⟩
instance : FLD Tryz.prog 114 0 0 := ⟨_, _, _, Tryz.underlying114, rfl, rfl, z33.h⟩
instance : FT Tryz.prog 114 0 0 33 1 := ⟨_, _, Tryz.underlying114, rfl, rfl, rfl, z33.h⟩
instance : FLD Tryz.prog 114 1 1 := ⟨_, _, _, Tryz.underlying114, rfl, rfl, z66.h⟩
instance : FT Tryz.prog 114 1 1 66 1 := ⟨_, _, Tryz.underlying114, rfl, rfl, rfl, z66.h⟩
instance : FLD Tryz.prog 114 2 2 := ⟨_, _, _, Tryz.underlying114, rfl, rfl, z66.h⟩
instance : FT Tryz.prog 114 2 2 66 1 := ⟨_, _, Tryz.underlying114, rfl, rfl, rfl, z66.h⟩
instance : FLD Tryz.prog 114 3 3 := ⟨_, _, _, Tryz.underlying114, rfl, rfl, z92.h⟩
instance : FT Tryz.prog 114 3 3 92 21 := ⟨_, _, Tryz.underlying114, rfl, rfl, rfl, z92.h⟩
instance : FLD Tryz.prog 118 0 0 := ⟨_, _, _, Tryz.underlying118, rfl, rfl, z27.h⟩
instance : FT Tryz.prog 118 0 0 27 3 := ⟨_, _, Tryz.underlying118, rfl, rfl, rfl, z27.h⟩
instance : FLD Tryz.prog 118 1 3 := ⟨_, _, _, Tryz.underlying118, rfl, rfl, z116.h⟩
instance : FT Tryz.prog 118 1 3 116 1 := ⟨_, _, Tryz.underlying118, rfl, rfl, rfl, z116.h⟩
instance : FLD Tryz.prog 120 0 0 := ⟨_, _, _, Tryz.underlying120, rfl, rfl, z3.h⟩
instance : FT Tryz.prog 120 0 0 3 1 := ⟨_, _, Tryz.underlying120, rfl, rfl, rfl, z3.h⟩
instance : FLD Tryz.prog 120 1 1 := ⟨_, _, _, Tryz.underlying120, rfl, rfl, z3.h⟩
instance : FT Tryz.prog 120 1 1 3 1 := ⟨_, _, Tryz.underlying120, rfl, rfl, rfl, z3.h⟩
instance : FLD Tryz.prog 147 0 0 := ⟨_, _, _, Tryz.underlying147, rfl, rfl, z3.h⟩
instance : FT Tryz.prog 147 0 0 3 1 := ⟨_, _, Tryz.underlying147, rfl, rfl, rfl, z3.h⟩
instance : FLD Tryz.prog 147 1 1 := ⟨_, _, _, Tryz.underlying147, rfl, rfl, z30.h⟩
instance : FT Tryz.prog 147 1 1 30 1 := ⟨_, _, Tryz.underlying147, rfl, rfl, rfl, z30.h⟩
instance : FLD Tryz.prog 147 2 2 := ⟨_, _, _, Tryz.underlying147, rfl, rfl, z3.h⟩
instance : FT Tryz.prog 147 2 2 3 1 := ⟨_, _, Tryz.underlying147, rfl, rfl, rfl, z3.h⟩
instance : FLD Tryz.prog 147 3 3 := ⟨_, _, _, Tryz.underlying147, rfl, rfl, z145.h⟩
instance : FT Tryz.prog 147 3 3 145 1 := ⟨_, _, Tryz.underlying147, rfl, rfl, rfl, z145.h⟩
instance : FLD Tryz.prog 147 4 4 := ⟨_, _, _, Tryz.underlying147, rfl, rfl, z57.h⟩
instance : FT Tryz.prog 147 4 4 57 1 := ⟨_, _, Tryz.underlying147, rfl, rfl, rfl, z57.h⟩
instance : FLD Tryz.prog 163 0 0 := ⟨_, _, _, Tryz.underlying163, rfl, rfl, z120.h⟩
instance : FT Tryz.prog 163 0 0 120 2 := ⟨_, _, Tryz.underlying163, rfl, rfl, rfl, z120.h⟩
instance : FLD Tryz.prog 163 1 2 := ⟨_, _, _, Tryz.underlying163, rfl, rfl, z51.h⟩
instance : FT Tryz.prog 163 1 2 51 64 := ⟨_, _, Tryz.underlying163, rfl, rfl, rfl, z51.h⟩
instance : FLD Tryz.prog 170 0 0 := ⟨_, _, _, Tryz.underlying170, rfl, rfl, z27.h⟩
instance : FT Tryz.prog 170 0 0 27 3 := ⟨_, _, Tryz.underlying170, rfl, rfl, rfl, z27.h⟩
instance : FLD Tryz.prog 170 1 3 := ⟨_, _, _, Tryz.underlying170, rfl, rfl, z167.h⟩
instance : FT Tryz.prog 170 1 3 167 1 := ⟨_, _, Tryz.underlying170, rfl, rfl, rfl, z167.h⟩
instance : FLD Tryz.prog 170 2 4 := ⟨_, _, _, Tryz.underlying170, rfl, rfl, z168.h⟩
instance : FT Tryz.prog 170 2 4 168 1 := ⟨_, _, Tryz.underlying170, rfl, rfl, rfl, z168.h⟩
instance : FLD Tryz.prog 176 0 0 := ⟨_, _, _, Tryz.underlying176, rfl, rfl, z39.h⟩
instance : FT Tryz.prog 176 0 0 39 1 := ⟨_, _, Tryz.underlying176, rfl, rfl, rfl, z39.h⟩
instance : FLD Tryz.prog 185 0 0 := ⟨_, _, _, Tryz.underlying185, rfl, rfl, z33.h⟩
instance : FT Tryz.prog 185 0 0 33 1 := ⟨_, _, Tryz.underlying185, rfl, rfl, rfl, z33.h⟩
instance : FLD Tryz.prog 185 1 1 := ⟨_, _, _, Tryz.underlying185, rfl, rfl, z3.h⟩
instance : FT Tryz.prog 185 1 1 3 1 := ⟨_, _, Tryz.underlying185, rfl, rfl, rfl, z3.h⟩
instance : FLD Tryz.prog 185 2 2 := ⟨_, _, _, Tryz.underlying185, rfl, rfl, z66.h⟩
instance : FT Tryz.prog 185 2 2 66 1 := ⟨_, _, Tryz.underlying185, rfl, rfl, rfl, z66.h⟩
instance : FLD Tryz.prog 185 3 3 := ⟨_, _, _, Tryz.underlying185, rfl, rfl, z3.h⟩
instance : FT Tryz.prog 185 3 3 3 1 := ⟨_, _, Tryz.underlying185, rfl, rfl, rfl, z3.h⟩
instance : FLD Tryz.prog 185 4 4 := ⟨_, _, _, Tryz.underlying185, rfl, rfl, z66.h⟩
instance : FT Tryz.prog 185 4 4 66 1 := ⟨_, _, Tryz.underlying185, rfl, rfl, rfl, z66.h⟩
instance : FLD Tryz.prog 185 5 5 := ⟨_, _, _, Tryz.underlying185, rfl, rfl, z66.h⟩
instance : FT Tryz.prog 185 5 5 66 1 := ⟨_, _, Tryz.underlying185, rfl, rfl, rfl, z66.h⟩
instance : FLD Tryz.prog 185 6 6 := ⟨_, _, _, Tryz.underlying185, rfl, rfl, z66.h⟩
instance : FT Tryz.prog 185 6 6 66 1 := ⟨_, _, Tryz.underlying185, rfl, rfl, rfl, z66.h⟩
instance : FLD Tryz.prog 185 7 7 := ⟨_, _, _, Tryz.underlying185, rfl, rfl, z66.h⟩
instance : FT Tryz.prog 185 7 7 66 1 := ⟨_, _, Tryz.underlying185, rfl, rfl, rfl, z66.h⟩
instance : FLD Tryz.prog 185 8 8 := ⟨_, _, _, Tryz.underlying185, rfl, rfl, z183.h⟩
instance : FT Tryz.prog 185 8 8 183 1 := ⟨_, _, Tryz.underlying185, rfl, rfl, rfl, z183.h⟩
instance : FLD Tryz.prog 204 0 0 := ⟨_, _, _, Tryz.underlying204, rfl, rfl, z5.h⟩
instance : FT Tryz.prog 204 0 0 5 1 := ⟨_, _, Tryz.underlying204, rfl, rfl, rfl, z5.h⟩
instance : FLD Tryz.prog 204 1 1 := ⟨_, _, _, Tryz.underlying204, rfl, rfl, z30.h⟩
instance : FT Tryz.prog 204 1 1 30 1 := ⟨_, _, Tryz.underlying204, rfl, rfl, rfl, z30.h⟩
instance : FLD Tryz.prog 228 0 0 := ⟨_, _, _, Tryz.underlying228, rfl, rfl, z3.h⟩
instance : FT Tryz.prog 228 0 0 3 1 := ⟨_, _, Tryz.underlying228, rfl, rfl, rfl, z3.h⟩
instance : FLD Tryz.prog 228 1 1 := ⟨_, _, _, Tryz.underlying228, rfl, rfl, z225.h⟩
instance : FT Tryz.prog 228 1 1 225 16 := ⟨_, _, Tryz.underlying228, rfl, rfl, rfl, z225.h⟩
instance : FLD Tryz.prog 228 2 17 := ⟨_, _, _, Tryz.underlying228, rfl, rfl, z225.h⟩
instance : FT Tryz.prog 228 2 17 225 16 := ⟨_, _, Tryz.underlying228, rfl, rfl, rfl, z225.h⟩
instance : FLD Tryz.prog 228 3 33 := ⟨_, _, _, Tryz.underlying228, rfl, rfl, z226.h⟩
instance : FT Tryz.prog 228 3 33 226 1024 := ⟨_, _, Tryz.underlying228, rfl, rfl, rfl, z226.h⟩
instance : FLD Tryz.prog 228 4 1057 := ⟨_, _, _, Tryz.underlying228, rfl, rfl, z66.h⟩
instance : FT Tryz.prog 228 4 1057 66 1 := ⟨_, _, Tryz.underlying228, rfl, rfl, rfl, z66.h⟩
instance : FLD Tryz.prog 239 0 0 := ⟨_, _, _, Tryz.underlying239, rfl, rfl, z66.h⟩
instance : FT Tryz.prog 239 0 0 66 1 := ⟨_, _, Tryz.underlying239, rfl, rfl, rfl, z66.h⟩
instance : FLD Tryz.prog 239 1 1 := ⟨_, _, _, Tryz.underlying239, rfl, rfl, z3.h⟩
instance : FT Tryz.prog 239 1 1 3 1 := ⟨_, _, Tryz.underlying239, rfl, rfl, rfl, z3.h⟩
instance : FLD Tryz.prog 239 2 2 := ⟨_, _, _, Tryz.underlying239, rfl, rfl, z66.h⟩
instance : FT Tryz.prog 239 2 2 66 1 := ⟨_, _, Tryz.underlying239, rfl, rfl, rfl, z66.h⟩
instance : FLD Tryz.prog 239 3 3 := ⟨_, _, _, Tryz.underlying239, rfl, rfl, z66.h⟩
instance : FT Tryz.prog 239 3 3 66 1 := ⟨_, _, Tryz.underlying239, rfl, rfl, rfl, z66.h⟩
instance : FLD Tryz.prog 244 0 0 := ⟨_, _, _, Tryz.underlying244, rfl, rfl, z66.h⟩
instance : FT Tryz.prog 244 0 0 66 1 := ⟨_, _, Tryz.underlying244, rfl, rfl, rfl, z66.h⟩
instance : FLD Tryz.prog 244 1 1 := ⟨_, _, _, Tryz.underlying244, rfl, rfl, z3.h⟩
instance : FT Tryz.prog 244 1 1 3 1 := ⟨_, _, Tryz.underlying244, rfl, rfl, rfl, z3.h⟩
instance : FLD Tryz.prog 244 2 2 := ⟨_, _, _, Tryz.underlying244, rfl, rfl, z92.h⟩
instance : FT Tryz.prog 244 2 2 92 21 := ⟨_, _, Tryz.underlying244, rfl, rfl, rfl, z92.h⟩
instance : FLD Tryz.prog 248 0 0 := ⟨_, _, _, Tryz.underlying248, rfl, rfl, z3.h⟩
instance : FT Tryz.prog 248 0 0 3 1 := ⟨_, _, Tryz.underlying248, rfl, rfl, rfl, z3.h⟩
instance : FLD Tryz.prog 248 1 1 := ⟨_, _, _, Tryz.underlying248, rfl, rfl, z4.h⟩
instance : FT Tryz.prog 248 1 1 4 1 := ⟨_, _, Tryz.underlying248, rfl, rfl, rfl, z4.h⟩
instance : FLD Tryz.prog 248 2 2 := ⟨_, _, _, Tryz.underlying248, rfl, rfl, z246.h⟩
instance : FT Tryz.prog 248 2 2 246 1 := ⟨_, _, Tryz.underlying248, rfl, rfl, rfl, z246.h⟩
instance : FLD Tryz.prog 248 3 3 := ⟨_, _, _, Tryz.underlying248, rfl, rfl, z246.h⟩
instance : FT Tryz.prog 248 3 3 246 1 := ⟨_, _, Tryz.underlying248, rfl, rfl, rfl, z246.h⟩
instance : FLD Tryz.prog 251 0 0 := ⟨_, _, _, Tryz.underlying251, rfl, rfl, z3.h⟩
instance : FT Tryz.prog 251 0 0 3 1 := ⟨_, _, Tryz.underlying251, rfl, rfl, rfl, z3.h⟩
instance : FLD Tryz.prog 251 1 1 := ⟨_, _, _, Tryz.underlying251, rfl, rfl, z249.h⟩
instance : FT Tryz.prog 251 1 1 249 1 := ⟨_, _, Tryz.underlying251, rfl, rfl, rfl, z249.h⟩
instance : FLD Tryz.prog 251 2 2 := ⟨_, _, _, Tryz.underlying251, rfl, rfl, z246.h⟩
instance : FT Tryz.prog 251 2 2 246 1 := ⟨_, _, Tryz.underlying251, rfl, rfl, rfl, z246.h⟩
instance : FLD Tryz.prog 265 0 0 := ⟨_, _, _, Tryz.underlying265, rfl, rfl, z66.h⟩
instance : FT Tryz.prog 265 0 0 66 1 := ⟨_, _, Tryz.underlying265, rfl, rfl, rfl, z66.h⟩
instance : FLD Tryz.prog 265 1 1 := ⟨_, _, _, Tryz.underlying265, rfl, rfl, z66.h⟩
instance : FT Tryz.prog 265 1 1 66 1 := ⟨_, _, Tryz.underlying265, rfl, rfl, rfl, z66.h⟩
instance : FLD Tryz.prog 265 2 2 := ⟨_, _, _, Tryz.underlying265, rfl, rfl, z3.h⟩
instance : FT Tryz.prog 265 2 2 3 1 := ⟨_, _, Tryz.underlying265, rfl, rfl, rfl, z3.h⟩
instance : FLD Tryz.prog 265 3 3 := ⟨_, _, _, Tryz.underlying265, rfl, rfl, z263.h⟩
instance : FT Tryz.prog 265 3 3 263 1 := ⟨_, _, Tryz.underlying265, rfl, rfl, rfl, z263.h⟩
instance : FLD Tryz.prog 284 0 0 := ⟨_, _, _, Tryz.underlying284, rfl, rfl, z3.h⟩
instance : FT Tryz.prog 284 0 0 3 1 := ⟨_, _, Tryz.underlying284, rfl, rfl, rfl, z3.h⟩
instance : FLD Tryz.prog 284 1 1 := ⟨_, _, _, Tryz.underlying284, rfl, rfl, z51.h⟩
instance : FT Tryz.prog 284 1 1 51 64 := ⟨_, _, Tryz.underlying284, rfl, rfl, rfl, z51.h⟩
instance : FLD Tryz.prog 297 0 0 := ⟨_, _, _, Tryz.underlying297, rfl, rfl, z145.h⟩
instance : FT Tryz.prog 297 0 0 145 1 := ⟨_, _, Tryz.underlying297, rfl, rfl, rfl, z145.h⟩
instance : FLD Tryz.prog 297 1 1 := ⟨_, _, _, Tryz.underlying297, rfl, rfl, z145.h⟩
instance : FT Tryz.prog 297 1 1 145 1 := ⟨_, _, Tryz.underlying297, rfl, rfl, rfl, z145.h⟩
instance : FLD Tryz.prog 297 2 2 := ⟨_, _, _, Tryz.underlying297, rfl, rfl, z3.h⟩
instance : FT Tryz.prog 297 2 2 3 1 := ⟨_, _, Tryz.underlying297, rfl, rfl, rfl, z3.h⟩
instance : FLD Tryz.prog 334 0 0 := ⟨_, _, _, Tryz.underlying334, rfl, rfl, z231.h⟩
instance : FT Tryz.prog 334 0 0 231 1 := ⟨_, _, Tryz.underlying334, rfl, rfl, rfl, z231.h⟩
instance : FLD Tryz.prog 334 1 1 := ⟨_, _, _, Tryz.underlying334, rfl, rfl, z3.h⟩
instance : FT Tryz.prog 334 1 1 3 1 := ⟨_, _, Tryz.underlying334, rfl, rfl, rfl, z3.h⟩
instance : ZV Tryz.prog 3 ([.int .i64 0]) := ⟨.int .i64 0, by kernel_rfl, rfl⟩
instance : ZV Tryz.prog 4 ([.bool false]) := ⟨.bool false, by kernel_rfl, rfl⟩
instance : ZV Tryz.prog 5 ([.int .u8 0]) := ⟨.int .u8 0, by kernel_rfl, rfl⟩
instance : ZV Tryz.prog 27 ([.int .i64 0, .int .i64 0, .int .i64 0]) := ⟨.agg ([.int .i64 0, .int .i64 0, .int .i64 0]).toArray, by kernel_rfl, rfl⟩
instance : ZV Tryz.prog 32 ([.int .i64 0, .int .i64 0, .slice none 0 0, .int .i64 0, .slice none 0 0]) := ⟨.agg ([.int .i64 0, .int .i64 0, .slice none 0 0, .int .i64 0, .slice none 0 0]).toArray, by kernel_rfl, rfl⟩
instance : ZV Tryz.prog 39 ([.int .i64 0]) := ⟨.int .i64 0, by kernel_rfl, rfl⟩
instance : ZV Tryz.prog 48 ([.nilFunc]) := ⟨.nilFunc, by kernel_rfl, rfl⟩
instance : ZV Tryz.prog 51 (bl blk0) := ⟨.agg (bl blk0).toArray, by kernel_rfl, rfl⟩
instance : ZV Tryz.prog 53 (.int .i64 0 :: bl blk0) := ⟨.agg (.int .i64 0 :: bl blk0).toArray, by kernel_rfl, rfl⟩
instance : ZV Tryz.prog 68 ([.pointer none]) := ⟨.pointer none, by kernel_rfl, rfl⟩
instance : ZV Tryz.prog 77 ([.int .i64 0, .int .u64 0, .int .i64 0, .int .i64 0, .int .i64 0, .int .i64 0, .bool false]) := ⟨.agg ([.int .i64 0, .int .u64 0, .int .i64 0, .int .i64 0, .int .i64 0, .int .i64 0, .bool false]).toArray, by kernel_rfl, rfl⟩
instance : ZV Tryz.prog 79 ([.pointer none]) := ⟨.pointer none, by kernel_rfl, rfl⟩
instance : ZV Tryz.prog 85 ([.pointer none]) := ⟨.pointer none, by kernel_rfl, rfl⟩
instance : ZV Tryz.prog 92 ([.int .i64 0, .int .i64 0, .int .i64 0, .int .u8 0, .int .u8 0, .int .u8 0, .int .u8 0, .int .u8 0, .int .u8 0, .int .u8 0, .int .u8 0, .int .u8 0, .int .u8 0, .int .u8 0, .int .u8 0, .int .u8 0, .int .u8 0, .int .u8 0, .int .u8 0, .int .i64 0, .bool false]) := ⟨.agg ([.int .i64 0, .int .i64 0, .int .i64 0, .int .u8 0, .int .u8 0, .int .u8 0, .int .u8 0, .int .u8 0, .int .u8 0, .int .u8 0, .int .u8 0, .int .u8 0, .int .u8 0, .int .u8 0, .int .u8 0, .int .u8 0, .int .u8 0, .int .u8 0, .int .u8 0, .int .i64 0, .bool false]).toArray, by kernel_rfl, rfl⟩
instance : ZV Tryz.prog 120 ([.int .i64 0, .int .i64 0]) := ⟨.agg ([.int .i64 0, .int .i64 0]).toArray, by kernel_rfl, rfl⟩
instance : ZV Tryz.prog 147 ([.int .i64 0, .slice none 0 0, .int .i64 0, .slice none 0 0, .slice none 0 0]) := ⟨.agg ([.int .i64 0, .slice none 0 0, .int .i64 0, .slice none 0 0, .slice none 0 0]).toArray, by kernel_rfl, rfl⟩
instance : ZV Tryz.prog 163 (.int .i64 0 :: .int .i64 0 :: bl blk0) := ⟨.agg (.int .i64 0 :: .int .i64 0 :: bl blk0).toArray, by kernel_rfl, rfl⟩
instance : ZV Tryz.prog 176 ([.int .i64 0]) := ⟨.agg ([.int .i64 0]).toArray, by kernel_rfl, rfl⟩
instance : ZV Tryz.prog 204 ([.int .u8 0, .slice none 0 0]) := ⟨.agg ([.int .u8 0, .slice none 0 0]).toArray, by kernel_rfl, rfl⟩
instance : ZV Tryz.prog 231 ([.slice none 0 0]) := ⟨.slice none 0 0, by kernel_rfl, rfl⟩
instance : ZV Tryz.prog 244 ([.int .u64 0, .int .i64 0, .int .i64 0, .int .i64 0, .int .i64 0, .int .u8 0, .int .u8 0, .int .u8 0, .int .u8 0, .int .u8 0, .int .u8 0, .int .u8 0, .int .u8 0, .int .u8 0, .int .u8 0, .int .u8 0, .int .u8 0, .int .u8 0, .int .u8 0, .int .u8 0, .int .u8 0, .int .i64 0, .bool false]) := ⟨.agg ([.int .u64 0, .int .i64 0, .int .i64 0, .int .i64 0, .int .i64 0, .int .u8 0, .int .u8 0, .int .u8 0, .int .u8 0, .int .u8 0, .int .u8 0, .int .u8 0, .int .u8 0, .int .u8 0, .int .u8 0, .int .u8 0, .int .u8 0, .int .u8 0, .int .u8 0, .int .u8 0, .int .u8 0, .int .i64 0, .bool false]).toArray, by kernel_rfl, rfl⟩
instance : ZV Tryz.prog 265 ([.int .u64 0, .int .u64 0, .int .i64 0, .int .u32 0]) := ⟨.agg ([.int .u64 0, .int .u64 0, .int .i64 0, .int .u32 0]).toArray, by kernel_rfl, rfl⟩
instance : ZV Tryz.prog 284 (.int .i64 0 :: bl blk0) := ⟨.agg (.int .i64 0 :: bl blk0).toArray, by kernel_rfl, rfl⟩
instance : ZV Tryz.prog 297 ([.slice none 0 0, .slice none 0 0, .int .i64 0]) := ⟨.agg ([.slice none 0 0, .slice none 0 0, .int .i64 0]).toArray, by kernel_rfl, rfl⟩
instance : ZV Tryz.prog 308 ([.int .u64 0]) := ⟨.int .u64 0, by kernel_rfl, rfl⟩
instance : ZV Tryz.prog 339 ([.int .u32 0, .int .u32 0, .int .u32 0, .int .u32 0, .int .u32 0, .int .u32 0, .int .u32 0, .int .u32 0, .int .u32 0, .int .u32 0, .int .u32 0, .int .u32 0, .int .u32 0, .int .u32 0, .int .u32 0, .int .u32 0]) := ⟨.agg ([.int .u32 0, .int .u32 0, .int .u32 0, .int .u32 0, .int .u32 0, .int .u32 0, .int .u32 0, .int .u32 0, .int .u32 0, .int .u32 0, .int .u32 0, .int .u32 0, .int .u32 0, .int .u32 0, .int .u32 0, .int .u32 0]).toArray, by kernel_rfl, rfl⟩
instance : BD Tryz.prog 3 := ⟨_, Tryz.func3, by kernel_rfl, rfl⟩
instance : BD Tryz.prog 4 := ⟨_, Tryz.func4, by kernel_rfl, rfl⟩
instance : BD Tryz.prog 5 := ⟨_, Tryz.func5, by kernel_rfl, rfl⟩
instance : BD Tryz.prog 6 := ⟨_, Tryz.func6, by kernel_rfl, rfl⟩
instance : BD Tryz.prog 7 := ⟨_, Tryz.func7, by kernel_rfl, rfl⟩
instance : BD Tryz.prog 8 := ⟨_, Tryz.func8, by kernel_rfl, rfl⟩
instance : BD Tryz.prog 9 := ⟨_, Tryz.func9, by kernel_rfl, rfl⟩
instance : BD Tryz.prog 10 := ⟨_, Tryz.func10, by kernel_rfl, rfl⟩
instance : BD Tryz.prog 11 := ⟨_, Tryz.func11, by kernel_rfl, rfl⟩
instance : BD Tryz.prog 12 := ⟨_, Tryz.func12, by kernel_rfl, rfl⟩
instance : BD Tryz.prog 13 := ⟨_, Tryz.func13, by kernel_rfl, rfl⟩
instance : BD Tryz.prog 14 := ⟨_, Tryz.func14, by kernel_rfl, rfl⟩
instance : BD Tryz.prog 15 := ⟨_, Tryz.func15, by kernel_rfl, rfl⟩
instance : BD Tryz.prog 16 := ⟨_, Tryz.func16, by kernel_rfl, rfl⟩
instance : BD Tryz.prog 17 := ⟨_, Tryz.func17, by kernel_rfl, rfl⟩
instance : BD Tryz.prog 18 := ⟨_, Tryz.func18, by kernel_rfl, rfl⟩
instance : BD Tryz.prog 19 := ⟨_, Tryz.func19, by kernel_rfl, rfl⟩
instance : BD Tryz.prog 20 := ⟨_, Tryz.func20, by kernel_rfl, rfl⟩
instance : BD Tryz.prog 21 := ⟨_, Tryz.func21, by kernel_rfl, rfl⟩
instance : BD Tryz.prog 22 := ⟨_, Tryz.func22, by kernel_rfl, rfl⟩
instance : BD Tryz.prog 23 := ⟨_, Tryz.func23, by kernel_rfl, rfl⟩
instance : BD Tryz.prog 24 := ⟨_, Tryz.func24, by kernel_rfl, rfl⟩
instance : BD Tryz.prog 25 := ⟨_, Tryz.func25, by kernel_rfl, rfl⟩
instance : BD Tryz.prog 26 := ⟨_, Tryz.func26, by kernel_rfl, rfl⟩
instance : BD Tryz.prog 27 := ⟨_, Tryz.func27, by kernel_rfl, rfl⟩
instance : BD Tryz.prog 28 := ⟨_, Tryz.func28, by kernel_rfl, rfl⟩
instance : BD Tryz.prog 29 := ⟨_, Tryz.func29, by kernel_rfl, rfl⟩
instance : BD Tryz.prog 30 := ⟨_, Tryz.func30, by kernel_rfl, rfl⟩
instance : BD Tryz.prog 31 := ⟨_, Tryz.func31, by kernel_rfl, rfl⟩
instance : BD Tryz.prog 32 := ⟨_, Tryz.func32, by kernel_rfl, rfl⟩
instance : BD Tryz.prog 33 := ⟨_, Tryz.func33, by kernel_rfl, rfl⟩
instance : BD Tryz.prog 34 := ⟨_, Tryz.func34, by kernel_rfl, rfl⟩
instance : BD Tryz.prog 35 := ⟨_, Tryz.func35, by kernel_rfl, rfl⟩
instance : BD Tryz.prog 36 := ⟨_, Tryz.func36, by kernel_rfl, rfl⟩
instance : BD Tryz.prog 37 := ⟨_, Tryz.func37, by kernel_rfl, rfl⟩
instance : BD Tryz.prog 38 := ⟨_, Tryz.func38, by kernel_rfl, rfl⟩
instance : BD Tryz.prog 39 := ⟨_, Tryz.func39, by kernel_rfl, rfl⟩
instance : BD Tryz.prog 40 := ⟨_, Tryz.func40, by kernel_rfl, rfl⟩
instance : BD Tryz.prog 41 := ⟨_, Tryz.func41, by kernel_rfl, rfl⟩
instance : BD Tryz.prog 42 := ⟨_, Tryz.func42, by kernel_rfl, rfl⟩
instance : BD Tryz.prog 43 := ⟨_, Tryz.func43, by kernel_rfl, rfl⟩
instance : BD Tryz.prog 44 := ⟨_, Tryz.func44, by kernel_rfl, rfl⟩
instance : BD Tryz.prog 45 := ⟨_, Tryz.func45, by kernel_rfl, rfl⟩
instance : BD Tryz.prog 46 := ⟨_, Tryz.func46, by kernel_rfl, rfl⟩
instance : BD Tryz.prog 47 := ⟨_, Tryz.func47, by kernel_rfl, rfl⟩
instance : BD Tryz.prog 48 := ⟨_, Tryz.func48, by kernel_rfl, rfl⟩
instance : BD Tryz.prog 49 := ⟨_, Tryz.func49, by kernel_rfl, rfl⟩
instance : BD Tryz.prog 50 := ⟨_, Tryz.func50, by kernel_rfl, rfl⟩
instance : BD Tryz.prog 51 := ⟨_, Tryz.func51, by kernel_rfl, rfl⟩
instance : BD Tryz.prog 52 := ⟨_, Tryz.func52, by kernel_rfl, rfl⟩
instance : BD Tryz.prog 53 := ⟨_, Tryz.func53, by kernel_rfl, rfl⟩
instance : BD Tryz.prog 54 := ⟨_, Tryz.func54, by kernel_rfl, rfl⟩
instance : BD Tryz.prog 55 := ⟨_, Tryz.func55, by kernel_rfl, rfl⟩
instance : BD Tryz.prog 56 := ⟨_, Tryz.func56, by kernel_rfl, rfl⟩
instance : BD Tryz.prog 57 := ⟨_, Tryz.func57, by kernel_rfl, rfl⟩
instance : BD Tryz.prog 58 := ⟨_, Tryz.func58, by kernel_rfl, rfl⟩
instance : BD Tryz.prog 59 := ⟨_, Tryz.func59, by kernel_rfl, rfl⟩
instance : BD Tryz.prog 60 := ⟨_, Tryz.func60, by kernel_rfl, rfl⟩
instance : BD Tryz.prog 61 := ⟨_, Tryz.func61, by kernel_rfl, rfl⟩
instance : BD Tryz.prog 62 := ⟨_, Tryz.func62, by kernel_rfl, rfl⟩
instance : BD Tryz.prog 63 := ⟨_, Tryz.func63, by kernel_rfl, rfl⟩
instance : BD Tryz.prog 64 := ⟨_, Tryz.func64, by kernel_rfl, rfl⟩
instance : BD Tryz.prog 65 := ⟨_, Tryz.func65, by kernel_rfl, rfl⟩
instance : BD Tryz.prog 66 := ⟨_, Tryz.func66, by kernel_rfl, rfl⟩
instance : BD Tryz.prog 67 := ⟨_, Tryz.func67, by kernel_rfl, rfl⟩
instance : BD Tryz.prog 68 := ⟨_, Tryz.func68, by kernel_rfl, rfl⟩
instance : BD Tryz.prog 69 := ⟨_, Tryz.func69, by kernel_rfl, rfl⟩
instance : BD Tryz.prog 70 := ⟨_, Tryz.func70, by kernel_rfl, rfl⟩
instance : BD Tryz.prog 71 := ⟨_, Tryz.func71, by kernel_rfl, rfl⟩
instance : BD Tryz.prog 72 := ⟨_, Tryz.func72, by kernel_rfl, rfl⟩
instance : BD Tryz.prog 73 := ⟨_, Tryz.func73, by kernel_rfl, rfl⟩
instance : BD Tryz.prog 74 := ⟨_, Tryz.func74, by kernel_rfl, rfl⟩
instance : BD Tryz.prog 75 := ⟨_, Tryz.func75, by kernel_rfl, rfl⟩
instance : BD Tryz.prog 76 := ⟨_, Tryz.func76, by kernel_rfl, rfl⟩
instance : BD Tryz.prog 77 := ⟨_, Tryz.func77, by kernel_rfl, rfl⟩
instance : BD Tryz.prog 78 := ⟨_, Tryz.func78, by kernel_rfl, rfl⟩
instance : BD Tryz.prog 79 := ⟨_, Tryz.func79, by kernel_rfl, rfl⟩
instance : BD Tryz.prog 80 := ⟨_, Tryz.func80, by kernel_rfl, rfl⟩
instance : BD Tryz.prog 81 := ⟨_, Tryz.func81, by kernel_rfl, rfl⟩
instance : BD Tryz.prog 82 := ⟨_, Tryz.func82, by kernel_rfl, rfl⟩
instance : BD Tryz.prog 83 := ⟨_, Tryz.func83, by kernel_rfl, rfl⟩
instance : BD Tryz.prog 84 := ⟨_, Tryz.func84, by kernel_rfl, rfl⟩
instance : BD Tryz.prog 85 := ⟨_, Tryz.func85, by kernel_rfl, rfl⟩
instance : BD Tryz.prog 86 := ⟨_, Tryz.func86, by kernel_rfl, rfl⟩
instance : BD Tryz.prog 87 := ⟨_, Tryz.func87, by kernel_rfl, rfl⟩
instance : BD Tryz.prog 88 := ⟨_, Tryz.func88, by kernel_rfl, rfl⟩
instance : BD Tryz.prog 89 := ⟨_, Tryz.func89, by kernel_rfl, rfl⟩
instance : BD Tryz.prog 90 := ⟨_, Tryz.func90, by kernel_rfl, rfl⟩
instance : BD Tryz.prog 91 := ⟨_, Tryz.func91, by kernel_rfl, rfl⟩
instance : BD Tryz.prog 92 := ⟨_, Tryz.func92, by kernel_rfl, rfl⟩
instance : BD Tryz.prog 93 := ⟨_, Tryz.func93, by kernel_rfl, rfl⟩
instance : BD Tryz.prog 94 := ⟨_, Tryz.func94, by kernel_rfl, rfl⟩
instance : BD Tryz.prog 95 := ⟨_, Tryz.func95, by kernel_rfl, rfl⟩
instance : BD Tryz.prog 96 := ⟨_, Tryz.func96, by kernel_rfl, rfl⟩
instance : BD Tryz.prog 97 := ⟨_, Tryz.func97, by kernel_rfl, rfl⟩
instance : BD Tryz.prog 98 := ⟨_, Tryz.func98, by kernel_rfl, rfl⟩
instance : BD Tryz.prog 99 := ⟨_, Tryz.func99, by kernel_rfl, rfl⟩
instance : BD Tryz.prog 100 := ⟨_, Tryz.func100, by kernel_rfl, rfl⟩
instance : BD Tryz.prog 101 := ⟨_, Tryz.func101, by kernel_rfl, rfl⟩
instance : BD Tryz.prog 102 := ⟨_, Tryz.func102, by kernel_rfl, rfl⟩
instance : BD Tryz.prog 103 := ⟨_, Tryz.func103, by kernel_rfl, rfl⟩
instance : BD Tryz.prog 104 := ⟨_, Tryz.func104, by kernel_rfl, rfl⟩
instance : BD Tryz.prog 105 := ⟨_, Tryz.func105, by kernel_rfl, rfl⟩
instance : BD Tryz.prog 106 := ⟨_, Tryz.func106, by kernel_rfl, rfl⟩
instance : BD Tryz.prog 107 := ⟨_, Tryz.func107, by kernel_rfl, rfl⟩
instance : BD Tryz.prog 108 := ⟨_, Tryz.func108, by kernel_rfl, rfl⟩
instance : BD Tryz.prog 109 := ⟨_, Tryz.func109, by kernel_rfl, rfl⟩
instance : BD Tryz.prog 110 := ⟨_, Tryz.func110, by kernel_rfl, rfl⟩
instance : BD Tryz.prog 111 := ⟨_, Tryz.func111, by kernel_rfl, rfl⟩
instance : BD Tryz.prog 112 := ⟨_, Tryz.func112, by kernel_rfl, rfl⟩
instance : BD Tryz.prog 113 := ⟨_, Tryz.func113, by kernel_rfl, rfl⟩
instance : BD Tryz.prog 114 := ⟨_, Tryz.func114, by kernel_rfl, rfl⟩
instance : BD Tryz.prog 115 := ⟨_, Tryz.func115, by kernel_rfl, rfl⟩
instance : BD Tryz.prog 116 := ⟨_, Tryz.func116, by kernel_rfl, rfl⟩
instance : BD Tryz.prog 117 := ⟨_, Tryz.func117, by kernel_rfl, rfl⟩
instance : BD Tryz.prog 118 := ⟨_, Tryz.func118, by kernel_rfl, rfl⟩
instance : BD Tryz.prog 119 := ⟨_, Tryz.func119, by kernel_rfl, rfl⟩
instance : BD Tryz.prog 120 := ⟨_, Tryz.func120, by kernel_rfl, rfl⟩
instance : BD Tryz.prog 121 := ⟨_, Tryz.func121, by kernel_rfl, rfl⟩
instance : BD Tryz.prog 122 := ⟨_, Tryz.func122, by kernel_rfl, rfl⟩
instance : BD Tryz.prog 123 := ⟨_, Tryz.func123, by kernel_rfl, rfl⟩
instance : BD Tryz.prog 124 := ⟨_, Tryz.func124, by kernel_rfl, rfl⟩
instance : BD Tryz.prog 125 := ⟨_, Tryz.func125, by kernel_rfl, rfl⟩
instance : BD Tryz.prog 126 := ⟨_, Tryz.func126, by kernel_rfl, rfl⟩
instance : BD Tryz.prog 127 := ⟨_, Tryz.func127, by kernel_rfl, rfl⟩
instance : BD Tryz.prog 128 := ⟨_, Tryz.func128, by kernel_rfl, rfl⟩
instance : BD Tryz.prog 129 := ⟨_, Tryz.func129, by kernel_rfl, rfl⟩
instance : BD Tryz.prog 130 := ⟨_, Tryz.func130, by kernel_rfl, rfl⟩
instance : BD Tryz.prog 131 := ⟨_, Tryz.func131, by kernel_rfl, rfl⟩
instance : BD Tryz.prog 132 := ⟨_, Tryz.func132, by kernel_rfl, rfl⟩
instance : BD Tryz.prog 133 := ⟨_, Tryz.func133, by kernel_rfl, rfl⟩
instance : BD Tryz.prog 134 := ⟨_, Tryz.func134, by kernel_rfl, rfl⟩
instance : BD Tryz.prog 135 := ⟨_, Tryz.func135, by kernel_rfl, rfl⟩
instance : BD Tryz.prog 136 := ⟨_, Tryz.func136, by kernel_rfl, rfl⟩
instance : BD Tryz.prog 137 := ⟨_, Tryz.func137, by kernel_rfl, rfl⟩
instance : BD Tryz.prog 138 := ⟨_, Tryz.func138, by kernel_rfl, rfl⟩
instance : BD Tryz.prog 139 := ⟨_, Tryz.func139, by kernel_rfl, rfl⟩
instance : BD Tryz.prog 140 := ⟨_, Tryz.func140, by kernel_rfl, rfl⟩
instance : BD Tryz.prog 141 := ⟨_, Tryz.func141, by kernel_rfl, rfl⟩
instance : BD Tryz.prog 142 := ⟨_, Tryz.func142, by kernel_rfl, rfl⟩
instance : BD Tryz.prog 143 := ⟨_, Tryz.func143, by kernel_rfl, rfl⟩
instance : BD Tryz.prog 144 := ⟨_, Tryz.func144, by kernel_rfl, rfl⟩
instance : BD Tryz.prog 145 := ⟨_, Tryz.func145, by kernel_rfl, rfl⟩
instance : BD Tryz.prog 146 := ⟨_, Tryz.func146, by kernel_rfl, rfl⟩
instance : BD Tryz.prog 147 := ⟨_, Tryz.func147, by kernel_rfl, rfl⟩
instance : BD Tryz.prog 148 := ⟨_, Tryz.func148, by kernel_rfl, rfl⟩
instance : BD Tryz.prog 149 := ⟨_, Tryz.func149, by kernel_rfl, rfl⟩
instance : BD Tryz.prog 150 := ⟨_, Tryz.func150, by kernel_rfl, rfl⟩
instance : BD Tryz.prog 151 := ⟨_, Tryz.func151, by kernel_rfl, rfl⟩
instance : BD Tryz.prog 152 := ⟨_, Tryz.func152, by kernel_rfl, rfl⟩
instance : BD Tryz.prog 153 := ⟨_, Tryz.func153, by kernel_rfl, rfl⟩
instance : BD Tryz.prog 154 := ⟨_, Tryz.func154, by kernel_rfl, rfl⟩
instance : BD Tryz.prog 155 := ⟨_, Tryz.func155, by kernel_rfl, rfl⟩
instance : BD Tryz.prog 156 := ⟨_, Tryz.func156, by kernel_rfl, rfl⟩
instance : BD Tryz.prog 157 := ⟨_, Tryz.func157, by kernel_rfl, rfl⟩
instance : BD Tryz.prog 158 := ⟨_, Tryz.func158, by kernel_rfl, rfl⟩
instance : BD Tryz.prog 159 := ⟨_, Tryz.func159, by kernel_rfl, rfl⟩
instance : BD Tryz.prog 160 := ⟨_, Tryz.func160, by kernel_rfl, rfl⟩
instance : BD Tryz.prog 161 := ⟨_, Tryz.func161, by kernel_rfl, rfl⟩
instance : BD Tryz.prog 162 := ⟨_, Tryz.func162, by kernel_rfl, rfl⟩
instance : BD Tryz.prog 163 := ⟨_, Tryz.func163, by kernel_rfl, rfl⟩
instance : BD Tryz.prog 164 := ⟨_, Tryz.func164, by kernel_rfl, rfl⟩
instance : BD Tryz.prog 165 := ⟨_, Tryz.func165, by kernel_rfl, rfl⟩
instance : BD Tryz.prog 166 := ⟨_, Tryz.func166, by kernel_rfl, rfl⟩
instance : BD Tryz.prog 167 := ⟨_, Tryz.func167, by kernel_rfl, rfl⟩
instance : BD Tryz.prog 168 := ⟨_, Tryz.func168, by kernel_rfl, rfl⟩
instance : BD Tryz.prog 169 := ⟨_, Tryz.func169, by kernel_rfl, rfl⟩
instance : BD Tryz.prog 170 := ⟨_, Tryz.func170, by kernel_rfl, rfl⟩
instance : BD Tryz.prog 171 := ⟨_, Tryz.func171, by kernel_rfl, rfl⟩
instance : BD Tryz.prog 172 := ⟨_, Tryz.func172, by kernel_rfl, rfl⟩
instance : BD Tryz.prog 173 := ⟨_, Tryz.func173, by kernel_rfl, rfl⟩
instance : BD Tryz.prog 174 := ⟨_, Tryz.func174, by kernel_rfl, rfl⟩
instance : BD Tryz.prog 175 := ⟨_, Tryz.func175, by kernel_rfl, rfl⟩
instance : BD Tryz.prog 176 := ⟨_, Tryz.func176, by kernel_rfl, rfl⟩
instance : BD Tryz.prog 177 := ⟨_, Tryz.func177, by kernel_rfl, rfl⟩
instance : BD Tryz.prog 178 := ⟨_, Tryz.func178, by kernel_rfl, rfl⟩
instance : BD Tryz.prog 179 := ⟨_, Tryz.func179, by kernel_rfl, rfl⟩
instance : BD Tryz.prog 180 := ⟨_, Tryz.func180, by kernel_rfl, rfl⟩
instance : BD Tryz.prog 181 := ⟨_, Tryz.func181, by kernel_rfl, rfl⟩
instance : BD Tryz.prog 182 := ⟨_, Tryz.func182, by kernel_rfl, rfl⟩
instance : BD Tryz.prog 183 := ⟨_, Tryz.func183, by kernel_rfl, rfl⟩
instance : BD Tryz.prog 184 := ⟨_, Tryz.func184, by kernel_rfl, rfl⟩
instance : BD Tryz.prog 185 := ⟨_, Tryz.func185, by kernel_rfl, rfl⟩
instance : BD Tryz.prog 186 := ⟨_, Tryz.func186, by kernel_rfl, rfl⟩
instance : BD Tryz.prog 187 := ⟨_, Tryz.func187, by kernel_rfl, rfl⟩
instance : BD Tryz.prog 188 := ⟨_, Tryz.func188, by kernel_rfl, rfl⟩
instance : BD Tryz.prog 189 := ⟨_, Tryz.func189, by kernel_rfl, rfl⟩
instance : BD Tryz.prog 190 := ⟨_, Tryz.func190, by kernel_rfl, rfl⟩
instance : BD Tryz.prog 191 := ⟨_, Tryz.func191, by kernel_rfl, rfl⟩
instance : BD Tryz.prog 192 := ⟨_, Tryz.func192, by kernel_rfl, rfl⟩
instance : BD Tryz.prog 193 := ⟨_, Tryz.func193, by kernel_rfl, rfl⟩
instance : BD Tryz.prog 194 := ⟨_, Tryz.func194, by kernel_rfl, rfl⟩
instance : BD Tryz.prog 195 := ⟨_, Tryz.func195, by kernel_rfl, rfl⟩
instance : BD Tryz.prog 196 := ⟨_, Tryz.func196, by kernel_rfl, rfl⟩
instance : BD Tryz.prog 197 := ⟨_, Tryz.func197, by kernel_rfl, rfl⟩
instance : BD Tryz.prog 198 := ⟨_, Tryz.func198, by kernel_rfl, rfl⟩
instance : BD Tryz.prog 199 := ⟨_, Tryz.func199, by kernel_rfl, rfl⟩
instance : BD Tryz.prog 200 := ⟨_, Tryz.func200, by kernel_rfl, rfl⟩
instance : BD Tryz.prog 201 := ⟨_, Tryz.func201, by kernel_rfl, rfl⟩
instance : BD Tryz.prog 202 := ⟨_, Tryz.func202, by kernel_rfl, rfl⟩
instance : BD Tryz.prog 203 := ⟨_, Tryz.func203, by kernel_rfl, rfl⟩
instance : BD Tryz.prog 204 := ⟨_, Tryz.func204, by kernel_rfl, rfl⟩
instance : BD Tryz.prog 205 := ⟨_, Tryz.func205, by kernel_rfl, rfl⟩
instance : BD Tryz.prog 206 := ⟨_, Tryz.func206, by kernel_rfl, rfl⟩
instance : BD Tryz.prog 207 := ⟨_, Tryz.func207, by kernel_rfl, rfl⟩
instance : BD Tryz.prog 208 := ⟨_, Tryz.func208, by kernel_rfl, rfl⟩
instance : BD Tryz.prog 209 := ⟨_, Tryz.func209, by kernel_rfl, rfl⟩
instance : BD Tryz.prog 210 := ⟨_, Tryz.func210, by kernel_rfl, rfl⟩
instance : BD Tryz.prog 211 := ⟨_, Tryz.func211, by kernel_rfl, rfl⟩
instance : BD Tryz.prog 212 := ⟨_, Tryz.func212, by kernel_rfl, rfl⟩
instance : BD Tryz.prog 213 := ⟨_, Tryz.func213, by kernel_rfl, rfl⟩
instance : BD Tryz.prog 214 := ⟨_, Tryz.func214, by kernel_rfl, rfl⟩
instance : BD Tryz.prog 215 := ⟨_, Tryz.func215, by kernel_rfl, rfl⟩
instance : BD Tryz.prog 216 := ⟨_, Tryz.func216, by kernel_rfl, rfl⟩
instance : BD Tryz.prog 217 := ⟨_, Tryz.func217, by kernel_rfl, rfl⟩
instance : BD Tryz.prog 218 := ⟨_, Tryz.func218, by kernel_rfl, rfl⟩
instance : BD Tryz.prog 219 := ⟨_, Tryz.func219, by kernel_rfl, rfl⟩
instance : BD Tryz.prog 220 := ⟨_, Tryz.func220, by kernel_rfl, rfl⟩
instance : BD Tryz.prog 221 := ⟨_, Tryz.func221, by kernel_rfl, rfl⟩
instance : BD Tryz.prog 222 := ⟨_, Tryz.func222, by kernel_rfl, rfl⟩
instance : BD Tryz.prog 223 := ⟨_, Tryz.func223, by kernel_rfl, rfl⟩
instance : BD Tryz.prog 224 := ⟨_, Tryz.func224, by kernel_rfl, rfl⟩
instance : BD Tryz.prog 225 := ⟨_, Tryz.func225, by kernel_rfl, rfl⟩
instance : BD Tryz.prog 226 := ⟨_, Tryz.func226, by kernel_rfl, rfl⟩
instance : BD Tryz.prog 227 := ⟨_, Tryz.func227, by kernel_rfl, rfl⟩
instance : BD Tryz.prog 228 := ⟨_, Tryz.func228, by kernel_rfl, rfl⟩
instance : BD Tryz.prog 229 := ⟨_, Tryz.func229, by kernel_rfl, rfl⟩
instance : BD Tryz.prog 230 := ⟨_, Tryz.func230, by kernel_rfl, rfl⟩
instance : BD Tryz.prog 231 := ⟨_, Tryz.func231, by kernel_rfl, rfl⟩
instance : BD Tryz.prog 232 := ⟨_, Tryz.func232, by kernel_rfl, rfl⟩
instance : BD Tryz.prog 233 := ⟨_, Tryz.func233, by kernel_rfl, rfl⟩
instance : BD Tryz.prog 234 := ⟨_, Tryz.func234, by kernel_rfl, rfl⟩
instance : BD Tryz.prog 235 := ⟨_, Tryz.func235, by kernel_rfl, rfl⟩
instance : BD Tryz.prog 236 := ⟨_, Tryz.func236, by kernel_rfl, rfl⟩
instance : BD Tryz.prog 237 := ⟨_, Tryz.func237, by kernel_rfl, rfl⟩
instance : BD Tryz.prog 238 := ⟨_, Tryz.func238, by kernel_rfl, rfl⟩
instance : BD Tryz.prog 239 := ⟨_, Tryz.func239, by kernel_rfl, rfl⟩
instance : BD Tryz.prog 240 := ⟨_, Tryz.func240, by kernel_rfl, rfl⟩
instance : BD Tryz.prog 241 := ⟨_, Tryz.func241, by kernel_rfl, rfl⟩
instance : BD Tryz.prog 242 := ⟨_, Tryz.func242, by kernel_rfl, rfl⟩
instance : BD Tryz.prog 243 := ⟨_, Tryz.func243, by kernel_rfl, rfl⟩
instance : BD Tryz.prog 244 := ⟨_, Tryz.func244, by kernel_rfl, rfl⟩
instance : BD Tryz.prog 245 := ⟨_, Tryz.func245, by kernel_rfl, rfl⟩
instance : BD Tryz.prog 246 := ⟨_, Tryz.func246, by kernel_rfl, rfl⟩
instance : BD Tryz.prog 247 := ⟨_, Tryz.func247, by kernel_rfl, rfl⟩
instance : BD Tryz.prog 248 := ⟨_, Tryz.func248, by kernel_rfl, rfl⟩
instance : BD Tryz.prog 249 := ⟨_, Tryz.func249, by kernel_rfl, rfl⟩
instance : BD Tryz.prog 250 := ⟨_, Tryz.func250, by kernel_rfl, rfl⟩
instance : BD Tryz.prog 251 := ⟨_, Tryz.func251, by kernel_rfl, rfl⟩
instance : BD Tryz.prog 252 := ⟨_, Tryz.func252, by kernel_rfl, rfl⟩
instance : BD Tryz.prog 253 := ⟨_, Tryz.func253, by kernel_rfl, rfl⟩
instance : BD Tryz.prog 254 := ⟨_, Tryz.func254, by kernel_rfl, rfl⟩
instance : BD Tryz.prog 255 := ⟨_, Tryz.func255, by kernel_rfl, rfl⟩
instance : BD Tryz.prog 256 := ⟨_, Tryz.func256, by kernel_rfl, rfl⟩
instance : BD Tryz.prog 257 := ⟨_, Tryz.func257, by kernel_rfl, rfl⟩
instance : BD Tryz.prog 258 := ⟨_, Tryz.func258, by kernel_rfl, rfl⟩
instance : BD Tryz.prog 259 := ⟨_, Tryz.func259, by kernel_rfl, rfl⟩
instance : BD Tryz.prog 260 := ⟨_, Tryz.func260, by kernel_rfl, rfl⟩
instance : BD Tryz.prog 261 := ⟨_, Tryz.func261, by kernel_rfl, rfl⟩
instance : BD Tryz.prog 262 := ⟨_, Tryz.func262, by kernel_rfl, rfl⟩
instance : BD Tryz.prog 263 := ⟨_, Tryz.func263, by kernel_rfl, rfl⟩
instance : BD Tryz.prog 264 := ⟨_, Tryz.func264, by kernel_rfl, rfl⟩
instance : BD Tryz.prog 265 := ⟨_, Tryz.func265, by kernel_rfl, rfl⟩
instance : BD Tryz.prog 266 := ⟨_, Tryz.func266, by kernel_rfl, rfl⟩
instance : BD Tryz.prog 267 := ⟨_, Tryz.func267, by kernel_rfl, rfl⟩
instance : BD Tryz.prog 268 := ⟨_, Tryz.func268, by kernel_rfl, rfl⟩
instance : BD Tryz.prog 269 := ⟨_, Tryz.func269, by kernel_rfl, rfl⟩
instance : BD Tryz.prog 270 := ⟨_, Tryz.func270, by kernel_rfl, rfl⟩
instance : BD Tryz.prog 271 := ⟨_, Tryz.func271, by kernel_rfl, rfl⟩
instance : BD Tryz.prog 272 := ⟨_, Tryz.func272, by kernel_rfl, rfl⟩
instance : BD Tryz.prog 273 := ⟨_, Tryz.func273, by kernel_rfl, rfl⟩
instance : BD Tryz.prog 274 := ⟨_, Tryz.func274, by kernel_rfl, rfl⟩
instance : BD Tryz.prog 275 := ⟨_, Tryz.func275, by kernel_rfl, rfl⟩
instance : BD Tryz.prog 276 := ⟨_, Tryz.func276, by kernel_rfl, rfl⟩
instance : BD Tryz.prog 277 := ⟨_, Tryz.func277, by kernel_rfl, rfl⟩
instance : BD Tryz.prog 278 := ⟨_, Tryz.func278, by kernel_rfl, rfl⟩
instance : BD Tryz.prog 279 := ⟨_, Tryz.func279, by kernel_rfl, rfl⟩
instance : BD Tryz.prog 280 := ⟨_, Tryz.func280, by kernel_rfl, rfl⟩
instance : BD Tryz.prog 281 := ⟨_, Tryz.func281, by kernel_rfl, rfl⟩
instance : BD Tryz.prog 282 := ⟨_, Tryz.func282, by kernel_rfl, rfl⟩
instance : BD Tryz.prog 283 := ⟨_, Tryz.func283, by kernel_rfl, rfl⟩
instance : BD Tryz.prog 284 := ⟨_, Tryz.func284, by kernel_rfl, rfl⟩
instance : BD Tryz.prog 285 := ⟨_, Tryz.func285, by kernel_rfl, rfl⟩
instance : BD Tryz.prog 286 := ⟨_, Tryz.func286, by kernel_rfl, rfl⟩
instance : BD Tryz.prog 287 := ⟨_, Tryz.func287, by kernel_rfl, rfl⟩
instance : BD Tryz.prog 288 := ⟨_, Tryz.func288, by kernel_rfl, rfl⟩
end Go.Proofs.YtnilejkfbcnkkaaGreatDoor.V
end
section
set_option maxRecDepth 100000
namespace Go.Proofs.YtnilejkfbcnkkaaGreatDoor.V
open Go Go.RowKit
def rng (b m : Nat) : List Nat := List.range' b (m - b)
theorem mem_rng {b m i : Nat} : i ∈ rng b m ↔ b ≤ i ∧ i < m := by
  unfold rng; rw [List.mem_range'_1]; omega
section
variable (P : Program) (n : Fp) (w0 : World) (S : Nat → Prop)
/-- parts: up to m all are quiet, in any order; or one that is not -/
def SegP (ops : Array Oper) (l : List Oper) (X : Post) : List (Option Nat) → Nat → Regs → Hp → Prop
  | [], _, R, H => G n w0 S (X .normal) R H
  | none :: segs, b, R, H => ∃ o, l[b]? = some o ∧ Ops P n w0 S ops (liftX n w0 S fun e R' H' => e = .normal ∧ SegP ops l X segs (b + 1) R' H') [o] R H
  | some m :: segs, b, R, H => quietG P w0 S H ops ((l.drop b).take (m - b)) R fun R' => SegP ops l X segs m R' H
end
def chainB (l : List Oper) (b : Nat) : Bool := (List.range l.length).all fun t => decide (t ≤ b) || match l[t]? with
  | some p => p.after.any fun e => Region.binds .any e && decide (b ≤ e.on)
  | none => true
def segOk (l : List Oper) : List (Option Nat) → Nat → Bool
  | [], b => b == l.length
  | none :: segs, b => decide (b < l.length) && chainB l b && segOk l segs (b + 1)
  | some m :: segs, b => decide (b < m) && decide (m ≤ l.length) && (m == l.length || chainB l m) &&
    (m == l.length || (rng b m).all fun i => (rng (i + 1) (m + 1)).any fun j => match l[j]? with | some p => edge p i | none => false) &&
    ((rng b m).all fun i => (rng b m).all fun j => i == j || match l[i]?, l[j]? with
      | some o, some p => o.dst.isNone || o.dst != p.dst
      | _, _ => true) &&
    ((rng b m).all fun i => match l[i]? with
      | some o => (rng b m).all fun j => match dstAt l j with
        | some d => (!(tmpsOf o).contains d || (decide (j < i) && edge o j)) && (match o.guard with
          | some (g, _) => dstAt l g != some d || (decide (j < i) && edge o j)
          | none => true)
        | none => true
      | none => true) && segOk l segs m
def segAll (l : List Oper) (segs : List (Option Nat)) : Bool :=
  (l.all fun o => (match o.op with | .select .. => false | _ => true)) &&
  ((List.range l.length).all fun i => match l[i]? with
    | some o => o.after.all fun e => !Region.binds .any e || decide (e.on < i)
    | none => true) && segOk l segs 0

structure SegQ (l : List Oper) (b m : Nat) : Prop where
  lt : b < m
  le : m ≤ l.length
  sink : m < l.length → ∀ i, b ≤ i → i < m → ∃ j p, i < j ∧ j ≤ m ∧ l[j]? = some p ∧ Edge p i
  uniq : ∀ i j d, b ≤ i → i < m → b ≤ j → j < m → i ≠ j → dstAt l i = some d → dstAt l j ≠ some d
  data : ∀ i j o d, b ≤ i → i < m → b ≤ j → j < m → l[i]? = some o → dstAt l j = some d → d ∈ tmpsOf o → j < i ∧ Edge o j
  guard : ∀ i j o g x d, b ≤ i → i < m → b ≤ j → j < m → l[i]? = some o → o.guard = some (g, x) → dstAt l g = some d → dstAt l j = some d → j < i ∧ Edge o j
theorem chainB_of {l : List Oper} {b : Nat} (h : chainB l b = true) : ∀ t p, b < t → l[t]? = some p → ∃ e ∈ p.after, Region.binds .any e = true ∧ b ≤ e.on := by
  intro t p ht hp
  unfold chainB at h
  have hl := (List.getElem?_eq_some_iff.1 hp).1
  have := List.all_eq_true.1 h t (List.mem_range.2 hl)
  rw [hp] at this
  simp only [Bool.or_eq_true, decide_eq_true_eq] at this
  rcases this with h1 | h1
  · omega
  · obtain ⟨e, he, h1⟩ := Array.any_eq_true'.1 h1
    simp only [Bool.and_eq_true, decide_eq_true_eq] at h1
    exact ⟨e, he, h1.1, h1.2⟩
theorem SegQ.of {l : List Oper} {b m : Nat} {segs : List (Option Nat)} (h : segOk l (some m :: segs) b = true) : SegQ l b m ∧ (m = l.length ∨ chainB l m = true) ∧ segOk l segs m = true := by
  unfold segOk at h
  simp only [Bool.and_eq_true] at h
  obtain ⟨⟨⟨⟨⟨⟨h1, h2⟩, h3⟩, h4⟩, h5⟩, h6⟩, h7⟩ := h
  refine ⟨⟨by simpa using h1, by simpa using h2, ?_, ?_, ?_, ?_⟩, ?_, h7⟩
  · intro hm i hi hi'
    simp only [Bool.or_eq_true, beq_iff_eq] at h4
    rcases h4 with h4 | h4
    · omega
    · have := List.all_eq_true.1 h4 i (mem_rng.2 ⟨hi, hi'⟩)
      obtain ⟨j, hj, hj2⟩ := List.any_eq_true.1 this
      obtain ⟨g1, g2⟩ := mem_rng.1 hj
      cases hp : l[j]? with
      | none => rw [hp] at hj2; cases hj2
      | some p => rw [hp] at hj2; exact ⟨j, p, by omega, by omega, hp, edge_of hj2⟩
  · intro i j d hi hi' hj hj' hne hd hd'
    have := List.all_eq_true.1 (List.all_eq_true.1 h5 i (mem_rng.2 ⟨hi, hi'⟩)) j (mem_rng.2 ⟨hj, hj'⟩)
    unfold dstAt at hd hd'
    cases ho : l[i]? with
    | none => simp [ho] at hd
    | some o =>
      cases hp : l[j]? with
      | none => simp [hp] at hd'
      | some p =>
        rw [ho, hp] at this
        rw [ho] at hd
        rw [hp] at hd'
        simp only [Option.bind_some] at hd hd'
        simp [hd, hd', hne] at this
  · intro i j o d hi hi' hj hj' ho hd hm
    have := List.all_eq_true.1 h6 i (mem_rng.2 ⟨hi, hi'⟩)
    rw [ho] at this
    have := List.all_eq_true.1 this j (mem_rng.2 ⟨hj, hj'⟩)
    rw [hd] at this
    simp only [Bool.and_eq_true, Bool.or_eq_true, Bool.not_eq_true', decide_eq_true_eq] at this
    rcases this.1 with h | h
    · exact absurd (List.contains_iff_mem.2 hm) (by rw [h]; simp)
    · exact ⟨h.1, edge_of h.2⟩
  · intro i j o g x d hi hi' hj hj' ho hg hdg hd
    have := List.all_eq_true.1 h6 i (mem_rng.2 ⟨hi, hi'⟩)
    rw [ho] at this
    have := List.all_eq_true.1 this j (mem_rng.2 ⟨hj, hj'⟩)
    rw [hd, hg] at this
    simp only [Bool.and_eq_true, Bool.or_eq_true, Bool.not_eq_true', decide_eq_true_eq, hdg] at this
    rcases this.2 with h | h
    · simp at h
    · exact ⟨h.1, edge_of h.2⟩
  · simpa using h3
section
variable {P : Program} {n : Fp} {w0 : World} {S : Nat → Prop} {H : Hp}
theorem quietG_F {ops : Array Oper} {l : List Oper} {el : List Nat} : ∀ (k b : Nat) (R : Regs) (acc : List (Oper × Regs × Value)) (K : Regs → Prop), b + k ≤ l.length → quietG P w0 S H ops ((l.drop b).take k) R K →
    quietF P w0 S ops H l el (List.range' b k) R acc fun R' _ => K R'
  | 0, b, R, acc, K, _, h => by simpa [quietG, quietF] using h
  | k + 1, b, R, acc, K, hb, h => by
    have hd : l.drop b = l[b] :: l.drop (b + 1) := List.drop_eq_getElem_cons (by omega)
    rw [hd, List.take_succ_cons] at h
    obtain ⟨v, hy, h⟩ := h
    rw [List.range'_succ]
    exact ⟨l[b], v, List.getElem?_eq_getElem (by omega), hy, quietG_F k (b + 1) _ _ K (by omega) h⟩
/-- THE RULE. -/
theorem c_seg {l : List Oper} {id : Nat} {X : Post} {R : Regs} (segs : List (Option Nat)) (hm : P.follows .mixedOrders = true) (hck : (segAll l segs && l.all (dstOk n)) = true)
    (h : SegP P n w0 S l.toArray l X segs 0 R H) : G n w0 S ((Code.region id l.toArray true).wp P X) R H := by
  simp only [Bool.and_eq_true] at hck
  obtain ⟨hck, hdst⟩ := hck
  unfold segAll at hck
  simp only [Bool.and_eq_true] at hck
  obtain ⟨⟨hsel, hback⟩, hseg⟩ := hck
  have hdst : ∀ o ∈ l, dstOk n o = true := fun o ho => List.all_eq_true.1 hdst o ho
  have sel : ∀ o ∈ l, ∀ cs b, o.op ≠ .select cs b := by
    intro o ho cs b he
    have := List.all_eq_true.1 hsel o ho
    rw [he] at this
    simp at this
  have lt_of : ∀ {i : Nat} {o : Oper}, l[i]? = some o → i < l.length := fun h => (List.getElem?_eq_some_iff.1 h).1
  have back : ∀ i o, l[i]? = some o → ∀ e ∈ o.after, Region.binds .any e = true → e.on < i := by
    intro i o ho e he hb
    have := List.all_eq_true.1 hback i (List.mem_range.2 (lt_of ho))
    rw [ho] at this
    have := (Array.all_eq_true'.1 this) e he
    simpa [hb] using this
  intro a w ha hw
  refine wp_region_any hm ?_
  let ops := l.toArray
  have hops : ∀ i : Nat, ops[i]? = l[i]? := fun i => by simp [ops]
  have hsize : ops.size = l.length := by simp [ops]
  have dAt : ∀ {i : Nat} {o : Oper}, l[i]? = some o → dstAt l i = o.dst := fun h => by simp [dstAt, h]
  have flip : ∀ {listed : Array Bool} {i : Nat}, listed.size = ops.size → i < l.length → (listed.getD i false = true ↔ listed.getD i true = true) := by
    intro listed i hs hi
    have : i < listed.size := by omega
    simp [this]
  let Cl (listed : Array Bool) : Prop := ∀ (i : Nat) (o : Oper), l[i]? = some o → listed.getD i false = true → ∀ e ∈ o.after, Region.binds .any e = true → listed.getD e.on false = true
  let Done (b : Nat) (listed : Array Bool) : Prop := ∀ i, i < l.length → (listed.getD i false = true ↔ i < b)
  let IA (listed : Array Bool) (a : Act) (w : World) : Prop := ∃ (segs : List (Option Nat)) (b : Nat) (R : Regs) (H : Hp), segOk l segs b = true ∧ (∀ m s, segs ≠ some m :: s) ∧ Done b listed ∧ Rep n a R ∧ St w0 S H w ∧ SegP P n w0 S ops l X segs b R H
  let IB (listed : Array Bool) (a : Act) (w : World) : Prop := ∃ (segs : List (Option Nat)) (b m : Nat) (R R' Rc : Regs) (H : Hp) (v : Nat → Value) (Ri : Nat → Regs), SegQ l b m ∧ (m = l.length ∨ chainB l m = true) ∧ segOk l segs m = true ∧
    (∀ i, i < l.length → i < b → listed.getD i false = true) ∧ (∀ i, m ≤ i → listed.getD i false = false) ∧ (∃ k, b ≤ k ∧ k < m ∧ listed.getD k false = false) ∧
    Rep n a Rc ∧ St w0 S H w ∧ SegP P n w0 S ops l X segs m R' H ∧ (∀ i, b ≤ i → i < m → ∃ o, l[i]? = some o ∧ qY P w0 S H ops o (Ri i) (v i)) ∧
    (∀ i, b ≤ i → i < m → ∀ d, (∀ j, b ≤ j → j < m → j < i → dstAt l j ≠ some d) → Ri i d = R d) ∧ (∀ i, b ≤ i → i < m → ∀ j, b ≤ j → j < m → ∀ d, j < i → dstAt l j = some d → Ri i d = v j) ∧
    (∀ j, b ≤ j → j < m → ∀ d, dstAt l j = some d → R' d = v j) ∧ (∀ d, (∀ j, b ≤ j → j < m → dstAt l j ≠ some d) → R' d = R d) ∧
    (∀ i, b ≤ i → i < m → listed.getD i false = true → ∀ d, dstAt l i = some d → Rc d = v i) ∧ (∀ d, (∀ i, b ≤ i → i < m → listed.getD i false = true → dstAt l i ≠ some d) → Rc d = R d)
  let I (listed : Array Bool) (a : Act) (w : World) : Prop := listed.size = ops.size ∧ Cl listed ∧ (IA listed a w ∨ IB listed a w)
  -- at a part's begin
  have norm : ∀ (segs : List (Option Nat)) (b : Nat) (R : Regs) (H : Hp) (listed : Array Bool) (a : Act) (w : World), listed.size = ops.size → Cl listed → segOk l segs b = true → Done b listed → Rep n a R → St w0 S H w → SegP P n w0 S ops l X segs b R H → I listed a w := by
    intro segs b R H listed a w hs hcl hok hd hr hst hP
    refine ⟨hs, hcl, ?_⟩
    match segs, hok, hP with
    | [], hok, hP => exact .inl ⟨[], b, R, H, hok, (fun m s e => by cases e), hd, hr, hst, hP⟩
    | none :: segs, hok, hP => exact .inl ⟨none :: segs, b, R, H, hok, (fun m s e => by simp at e), hd, hr, hst, hP⟩
    | some m :: segs, hok, hP =>
      obtain ⟨q, hch, hok'⟩ := SegQ.of hok
      unfold SegP at hP
      have hP := quietG_F (el := rng b m) (acc := []) (m - b) b R _ (by have := q.lt; have := q.le; omega) hP
      obtain ⟨v, Ri, R', acc, hK, _, hq, f1, f2, f3, f4⟩ := quietF_vals (rng b m) R [] _ hP (by unfold rng; exact List.pairwise_lt_range') (fun i j d hi hj hne hd => q.uniq i j d (mem_rng.1 hi).1 (mem_rng.1 hi).2 (mem_rng.1 hj).1 (mem_rng.1 hj).2 hne hd)
      have hlt := q.lt
      have hle := q.le
      refine .inr ⟨segs, b, m, R, R', R, H, v, Ri, q, hch, hok', fun i hi hb => (hd i hi).2 hb, ?_, ⟨b, Nat.le_refl _, q.lt, ?_⟩, hr, hst, hK, ?_, ?_, ?_, ?_, ?_, ?_, ?_⟩
      · intro i hi
        by_cases hil : i < l.length
        · cases hx : listed.getD i false with
          | false => rfl
          | true => have := (hd i hil).1 hx; omega
        · rw [Array.getD_eq_getD_getElem?, Array.getElem?_eq_none (by omega)]; rfl
      · cases hx : listed.getD b false with
        | false => rfl
        | true => have := (hd b (by omega)).1 hx; omega
      · intro i h1 h2
        obtain ⟨o, ho, hy, _⟩ := hq i (mem_rng.2 ⟨h1, h2⟩)
        exact ⟨o, ho, hy⟩
      · exact fun i h1 h2 d hn => f1 i (mem_rng.2 ⟨h1, h2⟩) d fun j hj hji => hn j (mem_rng.1 hj).1 (mem_rng.1 hj).2 hji
      · exact fun i h1 h2 j h3 h4 d hji hd => f2 i (mem_rng.2 ⟨h1, h2⟩) j (mem_rng.2 ⟨h3, h4⟩) d hji hd
      · exact fun j h1 h2 d hd => f3 j (mem_rng.2 ⟨h1, h2⟩) d hd
      · exact fun d hn => f4 d fun j hj => hn j (mem_rng.1 hj).1 (mem_rng.1 hj).2
      · intro i h1 h2 hx
        have := (hd i (by omega)).1 hx; omega
      · exact fun d _ => rfl
  refine wpAny_inv I (fun _ _ _ h => h.1) ?_ ?_ _ _ _ _ ?_ ?_
  · rintro listed a w i ⟨hs, hcl, hI⟩ hi
    obtain ⟨hun, o, ho, haft⟩ := mem_ready.1 hi
    rw [hops] at ho
    have hil := lt_of ho
    have hsi : i < listed.size := by omega
    have hunf : listed.getD i false = false := by
      cases hx : listed.getD i false with
      | false => rfl
      | true => rw [(flip hs hil).1 hx] at hun; cases hun
    have aft : ∀ {j}, Edge o j → listed.getD j false = true := fun ⟨e, he, hb, hon⟩ => hon ▸ haft e he hb
    have closed' : Cl (listed.setIfInBounds i true) := by
      intro i' p hp hl e he hb
      rw [getD_set' _ _ _ hsi] at hl ⊢
      split
      · rfl
      · by_cases h1 : i = i'
        · subst h1
          obtain rfl : p = o := Option.some.inj (hp.symm.trans ho)
          exact haft e he hb
        · rw [if_neg h1] at hl
          exact hcl i' p hp hl e he hb
    unfold wpOp
    rw [hops, ho]
    simp only
    rcases hI with ⟨segs, b, R, H, hok, hne, hd, hr, hst, hP⟩ | ⟨segs, b, m, R, R', Rc, H, v, Ri, q, hch, hok, hlow, hhi, hleft, hr, hst, hP, hqy, f1, f2, f3, f4, hv1, hv2⟩
    · -- one that is not quiet
      have hbi : b ≤ i := by
        rcases Nat.lt_or_ge i b with h1 | h1
        · rw [(hd i hil).2 h1] at hunf; cases hunf
        · exact h1
      match segs, hok, hne, hP with
      | [], hok, _, _ => simp [segOk] at hok; omega
      | some m :: s, _, hne, _ => exact absurd rfl (hne m s)
      | none :: segs, hok, _, hP =>
        unfold segOk at hok
        simp only [Bool.and_eq_true, decide_eq_true_eq] at hok
        obtain ⟨⟨hbl, hchb⟩, hok⟩ := hok
        have hib : i = b := by
          rcases Nat.lt_or_ge b i with h1 | h1
          · obtain ⟨e, he, hb, hon⟩ := chainB_of hchb i o h1 ho
            have h2 := haft e he hb
            have h3 := back i o ho e he hb
            have := (hd e.on (by omega)).1 h2
            omega
          · omega
        subst hib
        unfold SegP at hP
        obtain ⟨o', ho', hop1⟩ := hP
        obtain rfl : o' = o := Option.some.inj (ho'.symm.trans ho)
        refine step_one (Q' := fun R' H' => SegP P n w0 S ops l X segs (i + 1) R' H') hr hr (sel o' (List.mem_of_getElem? ho)) (fun _ _ => rfl) rfl (hop1 a w hr hst) ?_
        rintro u w' R2 H2 hr2 hs2 htail2
        refine norm segs (i + 1) R2 H2 _ _ _ (by simp [hs]) closed' hok ?_ hr2 hs2 htail2
        intro k hk
        rw [getD_set' _ _ _ hsi]
        by_cases h1 : i = k
        · simp [h1]
        · rw [if_neg h1, hd k hk]; omega
    · -- a quiet one
      have hbi : b ≤ i := by
        rcases Nat.lt_or_ge i b with h1 | h1
        · rw [hlow i hil h1] at hunf; cases hunf
        · exact h1
      have him : i < m := by
        rcases Nat.lt_or_ge i m with h1 | h1
        · exact h1
        · exfalso
          have hml : m < l.length := by omega
          rcases Nat.lt_or_ge m i with h2 | h2
          · rcases hch with h3 | h3
            · omega
            · obtain ⟨e, he, hb, hon⟩ := chainB_of h3 i o h2 ho
              have h4 := haft e he hb
              rw [hhi e.on hon] at h4; cases h4
          · have h3 : i = m := by omega
            subst h3
            have key : ∀ d k, i - k ≤ d → b ≤ k → k < i → listed.getD k false = true := by
              intro d
              induction d with
              | zero => intro k h4 h5 h6; omega
              | succ d ih =>
                intro k h4 h5 h6
                obtain ⟨j, p, h7, h8, h9, h10⟩ := q.sink hml k h5 h6
                rcases Nat.lt_or_ge j i with h11 | h11
                · obtain ⟨e, he, hb, hon⟩ := h10
                  exact hon ▸ hcl j p h9 (ih j (by omega) (by omega) h11) e he hb
                · have : j = i := by omega
                  subst this
                  obtain rfl : p = o := Option.some.inj (h9.symm.trans ho)
                  exact aft h10
            obtain ⟨k, h4, h5, h6⟩ := hleft
            rw [key _ k (Nat.le_refl _) h4 h5] at h6; cases h6
      obtain ⟨o', ho', hqi⟩ := hqy i hbi him
      obtain rfl : o' = o := Option.some.inj (ho'.symm.trans ho)
      have same : ∀ d, (∀ j, b ≤ j → j < m → dstAt l j = some d → j < i ∧ Edge o' j) → Rc d = Ri i d := by
        intro d hh
        by_cases hx : ∃ j, b ≤ j ∧ j < m ∧ dstAt l j = some d
        · obtain ⟨j, h1, h2, hjd⟩ := hx
          obtain ⟨hji, hE⟩ := hh j h1 h2 hjd
          rw [hv1 j h1 h2 (aft hE) d hjd, f2 i hbi him j h1 h2 d hji hjd]
        · have hn : ∀ j, b ≤ j → j < m → dstAt l j ≠ some d := fun j h1 h2 h3 => hx ⟨j, h1, h2, h3⟩
          rw [hv2 d fun j h1 h2 _ => hn j h1 h2, f1 i hbi him d fun j h1 h2 _ => hn j h1 h2]
      have hop : ∀ x ∈ o'.op.operands.toList, ev Rc x = ev (Ri i) x := by
        intro x hx
        cases x with
        | tmp d =>
          have hmm : d ∈ tmpsOf o' := List.mem_filterMap.2 ⟨_, hx, rfl⟩
          exact same d fun j h1 h2 h3 => q.data i j o' d hbi him h1 h2 ho h3 hmm
        | _ => rfl
      have hexec : execOp (ev Rc) o' = execOp (ev (Ri i)) o' := execOp_congr (sel o' (List.mem_of_getElem? ho)) hop
      have hwant : Region.wanted o' (yieldedR ops Rc) = Region.wanted o' (yieldedR ops (Ri i)) := by
        unfold Region.wanted
        cases hg : o'.guard with
        | none => rfl
        | some gb =>
          obtain ⟨g, x⟩ := gb
          have hyy : yieldedR ops Rc g = yieldedR ops (Ri i) g := by
            unfold yieldedR
            have e9 : (ops[g]?).bind (·.dst) = dstAt l g := by rw [hops]; rfl
            rw [e9]
            cases hdg : dstAt l g with
            | none => rfl
            | some d => simp only; rw [same d fun j h1 h2 h3 => q.guard i j o' g x d hbi him h1 h2 ho hg hdg h3]
          simp only [hyy]
      have hlt := q.lt
      have hle := q.le
      have next : ∀ w', St w0 S H w' → I (listed.setIfInBounds i true) (a.put o'.dst (v i)) w' := by
        intro w' hw'
        have hr' := hr.put (v i) (hdst o' (List.mem_of_getElem? ho))
        have hv1' : ∀ k, b ≤ k → k < m → (listed.setIfInBounds i true).getD k false = true → ∀ d, dstAt l k = some d → V.put Rc o'.dst (v i) d = v k := by
          intro k h1 h2 hl d hd
          rw [getD_set' _ _ _ hsi] at hl
          by_cases h3 : i = k
          · subst h3
            exact put_eq (by rw [← dAt ho]; exact hd)
          · rw [if_neg h3] at hl
            rw [put_ne (by rw [← dAt ho]; exact fun e => q.uniq i k d hbi him h1 h2 h3 e hd)]
            exact hv1 k h1 h2 hl d hd
        have hv2' : ∀ d, (∀ k, b ≤ k → k < m → (listed.setIfInBounds i true).getD k false = true → dstAt l k ≠ some d) → V.put Rc o'.dst (v i) d = R d := by
          intro d hd
          rw [put_ne (by rw [← dAt ho]; exact hd i hbi him (by rw [getD_set' _ _ _ hsi, if_pos rfl]))]
          refine hv2 d fun k h1 h2 h3 => hd k h1 h2 ?_
          rw [getD_set' _ _ _ hsi]; split <;> simp [h3]
        by_cases hx : ∃ k, b ≤ k ∧ k < m ∧ (listed.setIfInBounds i true).getD k false = false
        · refine ⟨by simp [hs], closed', .inr ⟨segs, b, m, R, R', _, H, v, Ri, q, hch, hok, ?_, ?_, hx, hr', hw', hP, hqy, f1, f2, f3, f4, hv1', hv2'⟩⟩
          · intro k hk hb
            rw [getD_set' _ _ _ hsi]; split
            · rfl
            · exact hlow k hk hb
          · intro k hk
            rw [getD_set' _ _ _ hsi, if_neg (by omega)]
            exact hhi k hk
        · have hall : ∀ k, b ≤ k → k < m → (listed.setIfInBounds i true).getD k false = true := by
            intro k h1 h2
            cases hy : (listed.setIfInBounds i true).getD k false with
            | true => rfl
            | false => exact absurd ⟨k, h1, h2, hy⟩ hx
          have e1 : V.put Rc o'.dst (v i) = R' := by
            funext d
            by_cases hh : ∃ k, b ≤ k ∧ k < m ∧ dstAt l k = some d
            · obtain ⟨k, h1, h2, h3⟩ := hh
              rw [hv1' k h1 h2 (hall k h1 h2) d h3, f3 k h1 h2 d h3]
            · have hn : ∀ j, b ≤ j → j < m → dstAt l j ≠ some d := fun j h1 h2 h3 => hh ⟨j, h1, h2, h3⟩
              rw [hv2' d fun k h1 h2 _ => hn k h1 h2, f4 d hn]
          rw [e1] at hr'
          refine norm segs m R' H _ _ _ (by simp [hs]) closed' hok ?_ hr' hw' hP
          intro k hk
          constructor
          · intro h1
            rcases Nat.lt_or_ge k m with h2 | h2
            · exact h2
            · rw [getD_set' _ _ _ hsi, if_neg (by omega), hhi k h2] at h1; cases h1
          · intro h1
            rcases Nat.lt_or_ge k b with h2 | h2
            · rw [getD_set' _ _ _ hsi]; split
              · rfl
              · exact hlow k hk h2
            · exact hall k h2 h1
      rw [hr.yielded ops, hwant]
      rcases hqi with ⟨hw1, hyv⟩ | ⟨hw1, hyv⟩
      · rw [if_pos hw1]
        left
        have h1 := hyv w hst
        unfold Oper.wp
        rw [hr.ev, hexec]
        generalize (execOp (ev (Ri i)) o').run P w = r at h1
        cases r with
        | ok x w' =>
          cases x <;> simp only [Oper.quietUpon] at h1 <;> simp only [Oper.upon]
          case value u => obtain ⟨rfl, rfl⟩ := h1; exact next _ hst
          case skip => obtain ⟨rfl, h2⟩ := h1; rw [← h2]; exact next _ hst
          case enter f args =>
            obtain ⟨rfl, hc⟩ := h1
            exact hc.mono fun e w'' ⟨he, hs'⟩ => by subst he; exact next _ hs'
        | halt x w' => simp only [Oper.quietUpon] at h1
      · rw [if_neg (by simp [hw1]), ← hyv]
        exact next _ hst
  · rintro listed a w ⟨hs, hcl, hI⟩ he
    have hall : ∀ k, k < l.length → listed.getD k true = true := by
      intro k
      induction k using Nat.strongRecOn with
      | _ k ih =>
        intro hk
        cases hx : listed.getD k true with
        | true => rfl
        | false =>
          exfalso
          have : k ∈ Region.ready .any ops listed := mem_ready.2 ⟨hx, l[k], by rw [hops]; exact List.getElem?_eq_getElem hk, fun e he hb => by
            have hlt := back k _ (List.getElem?_eq_getElem hk) e he hb
            exact (flip hs (by omega)).2 (ih e.on hlt (by omega))⟩
          rw [he] at this
          cases this
    rcases hI with ⟨segs, b, R, H, hok, hne, hd, hr, hst, hP⟩ | ⟨segs, b, m, R, R', Rc, H, v, Ri, q, hch, hok, hlow, hhi, ⟨k, h1, h2, h3⟩, hr, hst, hP, hqy, f1, f2, f3, f4, hv1, hv2⟩
    · match segs, hok, hne, hP with
      | [], hok, _, hP => exact hP a w hr hst
      | some m :: s, _, hne, _ => exact absurd rfl (hne m s)
      | none :: segs, hok, _, hP =>
        unfold segOk at hok
        simp only [Bool.and_eq_true, decide_eq_true_eq] at hok
        have := (hd b hok.1.1).1 ((flip hs hok.1.1).2 (hall b hok.1.1))
        omega
    · have hle := q.le
      rw [(flip hs (by omega)).2 (hall k (by omega))] at h3; cases h3
  · have hun : ∀ i, (Array.replicate ops.size false).getD i false = false := by
      intro i
      rw [Array.getD_eq_getD_getElem?, Array.getElem?_replicate]
      split <;> rfl
    refine norm segs 0 R H _ _ _ (by simp [ops]) (fun i o _ hl => by rw [hun] at hl; cases hl) hseg (fun i _ => ?_) ha hw.drew h
    rw [hun]; simp
  · unfold left; refine Nat.le_trans List.countP_le_length ?_; simp [ops]
end
end Go.Proofs.YtnilejkfbcnkkaaGreatDoor.V
end
section
set_option maxRecDepth 100000
namespace Go.Proofs.YtnilejkfbcnkkaaGreatDoor.V
open Go Go.RowKit

/-- q: a quiet one; f: new memory is told of; a: it is there; m: one that acts, behind which these quiet ones may still be open. -/
inductive Sp where
  | q (i : Nat)
  | f (i : Nat)
  | a (i : Nat)
  | m (i : Nat) (kp : List Nat)

section
variable (P : Program) (n : Fp) (w0 : World) (S : Nat → Prop)
def FreshO (ops : Array Oper) (o : Oper) (R : Regs) (val : Nat → Value) (chk : Nat → Chunk) : Prop :=
  ∀ (L : Hp) (X : Post), (∀ g, G n w0 S (X .normal) (V.put R o.dst (val g)) (chk g :: L)) → Ops P n w0 S ops X [o] R L
def AllE (ops : Array Oper) (H : Hp) (acc : List (Nat × Oper × Regs × Value)) (kp : List Nat) : Prop :=
  ∀ x ∈ acc, kp.contains x.1 = true → ∀ E : Hp, qY P w0 S (H ++ E) ops x.2.1 x.2.2.1 x.2.2.2
def dagG (ops : Array Oper) (l : List Oper) (X : Post) : List Sp → List (Nat × Oper × Regs × Value) → List (Nat × (Nat → Value) × (Nat → Chunk)) → Regs → Hp → Prop
  | [], _, _, R, H => G n w0 S (X .normal) R H
  | .q i :: s, acc, fa, R, H => ∃ o v, l[i]? = some o ∧ (∀ E : Hp, qY P w0 S (H ++ E) ops o R v) ∧ dagG ops l X s ((i, o, R, v) :: acc) fa (V.put R o.dst v) H
  | .f i :: s, acc, fa, R, H => ∃ o d val chk, l[i]? = some o ∧ o.dst = some d ∧ FreshO P n w0 S ops o R val chk ∧ dagG ops l X s acc ((i, val, chk) :: fa) R H
  | .a i :: s, acc, fa, R, H => ∃ o val chk, l[i]? = some o ∧ (i, val, chk) ∈ fa ∧ ∀ g, dagG ops l X s acc fa (V.put R o.dst (val g)) (H ++ [chk g])
  | .m i kp :: s, acc, fa, R, H => ∃ o, l[i]? = some o ∧ ∀ E : Hp, Ops P n w0 S ops (liftX n w0 S fun e R' H' => e = .normal ∧ ∃ H'', H' = H'' ++ E ∧ AllE P w0 S ops H'' acc kp ∧ dagG ops l X s acc fa R' H'') [o] R (H ++ E)
end

def mskStep (ms : List Nat) (o : Oper) : Nat := o.after.foldl (fun m e => if Region.binds .any e then (m ||| 1 <<< e.on) ||| ms.getD e.on 0 else m) 0
def msF (l : List Oper) : List Nat := l.foldl (fun ms o => ms ++ [mskStep ms o]) []
def dep (ms : List Nat) (i j : Nat) : Bool := (ms.getD i 0).testBit j
def sub (a b : Nat) : Bool := a &&& b == a
def dagOk (l : List Oper) (ms : List Nat) : List Sp → Nat → Nat → Nat → Bool
  | [], dn, _, _ => (List.range l.length).all dn.testBit
  | .q i :: s, dn, mn, fd => decide (i < l.length) && !dn.testBit i && !fd.testBit i && sub (ms.getD i 0) dn && sub mn (ms.getD i 0) && dagOk l ms s (dn ||| 1 <<< i) mn fd
  | .f i :: s, dn, mn, fd => decide (i < l.length) && !dn.testBit i && !fd.testBit i && sub (ms.getD i 0) dn && sub mn (ms.getD i 0) && dagOk l ms s dn mn (fd ||| 1 <<< i)
  | .a i :: s, dn, mn, fd => fd.testBit i && !dn.testBit i && dagOk l ms s (dn ||| 1 <<< i) (mn ||| 1 <<< i) fd
  | .m i kp :: s, dn, mn, fd => decide (i < l.length) && !dn.testBit i && !fd.testBit i && sub (ms.getD i 0) dn && sub mn (ms.getD i 0) &&
    ((List.range l.length).all fun j => !dn.testBit j || kp.contains j || dep ms i j || mn.testBit j) && dagOk l ms s (dn ||| 1 <<< i) (mn ||| 1 <<< i) fd
def dagSt (l : List Oper) (ms : List Nat) : Bool :=
  (l.all fun o => (match o.op with | .select .. => false | _ => true)) &&
  ((List.range l.length).all fun i => match l[i]? with
    | some o => (o.after.all fun e => !Region.binds .any e || decide (e.on < i)) && ms.getD i 0 == mskStep ms o &&
      ((List.range l.length).all fun j => match dstAt l j with
        | some d => (i == j || o.dst != some d) && (!(tmpsOf o).contains d || dep ms i j || dep ms j i)
        | none => true) &&
      (match o.guard with | some (g, _) => dep ms i g | none => true)
    | none => true)
def dagAll (l : List Oper) (ord : List Sp) : Bool := dagSt l (msF l) && dagOk l (msF l) ord 0 0 0

theorem tb_set (a i j : Nat) : (a ||| 1 <<< i).testBit j = (a.testBit j || decide (i = j)) := by
  rw [Nat.testBit_or, Nat.one_shiftLeft, Nat.testBit_two_pow]
theorem sub_of {a b : Nat} (h : sub a b = true) {j : Nat} (hj : a.testBit j = true) : b.testBit j = true := by
  unfold sub at h
  have h : a &&& b = a := by simpa using h
  rw [← h, Nat.testBit_and] at hj
  simp at hj; exact hj.2
theorem mskStep_dep {ms : List Nat} {o : Oper} {j : Nat} (h : (mskStep ms o).testBit j = true) : ∃ e ∈ o.after, Region.binds .any e = true ∧ (e.on = j ∨ dep ms e.on j = true) := by
  unfold mskStep at h
  rw [← Array.foldl_toList] at h
  have key : ∀ (es : List Go.Edge) (m : Nat), (es.foldl (fun m e => if Region.binds .any e then (m ||| 1 <<< e.on) ||| ms.getD e.on 0 else m) m).testBit j = true →
      m.testBit j = true ∨ ∃ e ∈ es, Region.binds .any e = true ∧ (e.on = j ∨ dep ms e.on j = true) := by
    intro es
    induction es with
    | nil => intro m h; exact .inl h
    | cons e es ih =>
      intro m h
      rw [List.foldl_cons] at h
      rcases ih _ h with h1 | ⟨e', he, h2⟩
      · by_cases hb : Region.binds .any e = true
        · rw [if_pos hb, Nat.testBit_or, tb_set] at h1
          simp only [Bool.or_eq_true, decide_eq_true_eq] at h1
          rcases h1 with (h1 | h1) | h1
          · exact .inl h1
          · exact .inr ⟨e, by simp, hb, .inl h1⟩
          · exact .inr ⟨e, by simp, hb, .inr h1⟩
        · rw [if_neg hb] at h1
          exact .inl h1
      · exact .inr ⟨e', by simp [he], h2⟩
  rcases key _ _ h with h | ⟨e, he, h⟩
  · simp at h
  · exact ⟨e, by simpa using he, h⟩

structure DC (l : List Oper) (ms : List Nat) : Prop where
  sel : ∀ o ∈ l, ∀ cs b, o.op ≠ .select cs b
  back : ∀ i o, l[i]? = some o → ∀ e ∈ o.after, Region.binds .any e = true → e.on < i
  uniq : ∀ i j d, dstAt l i = some d → dstAt l j = some d → i = j
  data : ∀ i j o d, l[i]? = some o → d ∈ tmpsOf o → dstAt l j = some d → dep ms i j = true ∨ dep ms j i = true
  guard : ∀ i o g b, l[i]? = some o → o.guard = some (g, b) → dep ms i g = true
  dep : ∀ i o j, l[i]? = some o → dep ms i j = true → ∃ e ∈ o.after, Region.binds .any e = true ∧ (e.on = j ∨ V.dep ms e.on j = true)
theorem dst_lt {l : List Oper} {i d : Nat} (h : dstAt l i = some d) : i < l.length := by
  unfold dstAt at h
  cases ho : l[i]? with
  | none => rw [ho] at h; cases h
  | some o => exact (List.getElem?_eq_some_iff.1 ho).1
theorem DC.of {l : List Oper} {ms : List Nat} (h : dagSt l ms = true) : DC l ms := by
  unfold dagSt at h
  simp only [Bool.and_eq_true] at h
  obtain ⟨h1, h2⟩ := h
  have key : ∀ i o, l[i]? = some o → (∀ e ∈ o.after, Region.binds .any e = true → e.on < i) ∧ ms.getD i 0 = mskStep ms o ∧ (∀ j d, dstAt l j = some d → (i = j ∨ o.dst ≠ some d) ∧ (d ∈ tmpsOf o → V.dep ms i j = true ∨ V.dep ms j i = true)) ∧ (∀ g b, o.guard = some (g, b) → V.dep ms i g = true) := by
    intro i o ho
    have := List.all_eq_true.1 h2 i (List.mem_range.2 (List.getElem?_eq_some_iff.1 ho).1)
    rw [ho] at this
    simp only [Bool.and_eq_true] at this
    obtain ⟨⟨⟨h3, h4⟩, h5⟩, h6⟩ := this
    refine ⟨?_, by simpa using h4, ?_, ?_⟩
    · intro e he hb
      have := (Array.all_eq_true'.1 h3) e he
      simpa [hb] using this
    · intro j d hd
      have := List.all_eq_true.1 h5 j (List.mem_range.2 (dst_lt hd))
      rw [hd] at this
      simp only [Bool.and_eq_true, Bool.or_eq_true, beq_iff_eq, bne_iff_ne, ne_eq, Bool.not_eq_true'] at this
      refine ⟨this.1, fun hm => ?_⟩
      rcases this.2 with (h | h) | h
      · exact absurd (List.contains_iff_mem.2 hm) (by rw [h]; simp)
      · exact .inl h
      · exact .inr h
    · intro g b hg
      rw [hg] at h6; exact h6
  refine ⟨?_, fun i o ho => (key i o ho).1, ?_, ?_, fun i o g b ho hg => (key i o ho).2.2.2 g b hg, ?_⟩
  · intro o ho cs b he
    have := List.all_eq_true.1 h1 o ho
    rw [he] at this
    simp at this
  · intro i j d hi hj
    cases ho : l[i]? with
    | none => simp [dstAt, ho] at hi
    | some o =>
      rcases ((key i o ho).2.2.1 j d hj).1 with h | h
      · exact h
      · simp [dstAt, ho] at hi; exact absurd hi h
  · exact fun i j o d ho hm hd => ((key i o ho).2.2.1 j d hd).2 hm
  · intro i o j ho hd
    unfold V.dep at hd
    rw [(key i o ho).2.1] at hd
    exact mskStep_dep hd

section
variable {P : Program} {n : Fp} {w0 : World} {S : Nat → Prop}
structure Snap (l : List Oper) (ms : List Nat) (R0 : Regs) (vv : Nat → Value) (i : Nat) (Ri : Regs) : Prop where
  s1 : ∀ j d, dep ms i j = true → dstAt l j = some d → Ri d = vv j
  s2 : ∀ d, (∀ j, dstAt l j = some d → dep ms j i = true) → Ri d = R0 d
def ech (fv : Nat → (Nat → Value) × (Nat → Chunk)) (ea : List (Nat × Nat)) : Hp := ea.map fun p => (fv p.1).2 p.2
structure DI (P : Program) (n : Fp) (w0 : World) (S : Nat → Prop) (l : List Oper) (ms : List Nat) (X : Post) (R0 : Regs) (listed : Array Bool) (a : Act) (w : World)
    (s : List Sp) (dn mn fd : Nat) (acc : List (Nat × Oper × Regs × Value)) (fa : List (Nat × (Nat → Value) × (Nat → Chunk))) (R : Regs) (H : Hp) (vv : Nat → Value) (Rc : Regs) (ea : List (Nat × Nat)) (fv : Nat → (Nat → Value) × (Nat → Chunk)) : Prop where
  chk : dagOk l ms s dn mn fd = true
  rc : Rep n a Rc
  rf : ∃ af, Rep n af R
  st : St w0 S (H ++ ech fv ea) w
  dag : dagG P n w0 S l.toArray l X s acc fa R H
  dlt : ∀ i, dn.testBit i = true → i < l.length
  flt : ∀ i, fd.testBit i = true → i < l.length
  dcl : ∀ i j, dn.testBit i = true → dep ms i j = true → dn.testBit j = true
  fcl : ∀ i j, fd.testBit i = true → dep ms i j = true → dn.testBit j = true
  mnl : ∀ i, mn.testBit i = true → listed.getD i false = true
  ldn : ∀ i, listed.getD i false = true → dn.testBit i = true ∨ fd.testBit i = true
  eah : ∀ p ∈ ea, fd.testBit p.1 = true ∧ dn.testBit p.1 = false ∧ listed.getD p.1 false = true ∧ vv p.1 = (fv p.1).1 p.2
  eaa : ∀ i, fd.testBit i = true → dn.testBit i = false → listed.getD i false = true → ∃ g, (i, g) ∈ ea
  ean : (ea.map Prod.fst).Nodup
  accd : ∀ i, dn.testBit i = true → listed.getD i false = false → ∃ x ∈ acc, x.1 = i
  accq : ∀ x ∈ acc, listed.getD x.1 false = false → l[x.1]? = some x.2.1 ∧ (∀ E : Hp, qY P w0 S (H ++ E) l.toArray x.2.1 x.2.2.1 x.2.2.2) ∧ vv x.1 = x.2.2.2 ∧ dn.testBit x.1 = true ∧ Snap l ms R0 vv x.1 x.2.2.1
  fad : ∀ i, fd.testBit i = true → dn.testBit i = false → ∃ x ∈ fa, x.1 = i
  faq : ∀ x ∈ fa, fv x.1 = x.2 ∧ fd.testBit x.1 = true ∧ ∃ o Ri d, l[x.1]? = some o ∧ o.dst = some d ∧ (∃ af, Rep n af Ri) ∧ FreshO P n w0 S l.toArray o Ri x.2.1 x.2.2 ∧ Snap l ms R0 vv x.1 Ri
  rg0 : ∀ d, (∀ j, dstAt l j ≠ some d) → R d = R0 d ∧ Rc d = R0 d
  rgf : ∀ j d, dstAt l j = some d → R d = if dn.testBit j = true then vv j else R0 d
  rgc : ∀ j d, dstAt l j = some d → Rc d = if listed.getD j false = true then vv j else R0 d

section
variable {l : List Oper} {ms : List Nat} {X : Post} {R0 : Regs}
def upd' (vv : Nat → Value) (i : Nat) (v : Value) : Nat → Value := fun j => if j = i then v else vv j
theorem upd'_eq {vv : Nat → Value} {i : Nat} {v : Value} : upd' vv i v i = v := by simp [upd']
theorem upd'_ne {vv : Nat → Value} {i j : Nat} {v : Value} (h : j ≠ i) : upd' vv i v j = vv j := by simp [upd', h]
theorem Snap.upd {vv : Nat → Value} {i k : Nat} {v : Value} {Ri : Regs} (h : Snap l ms R0 vv i Ri) (hk : dep ms i k = false) : Snap l ms R0 (upd' vv k v) i Ri :=
  ⟨fun j d hd hj => by
    have : j ≠ k := by rintro rfl; rw [hd] at hk; cases hk
    rw [upd'_ne this]; exact h.s1 j d hd hj, h.s2⟩
/-- what an operation reads is what it read when it was told -/
theorem Snap.agree {ops : Array Oper} {vv : Nat → Value} {i : Nat} {o : Oper} {Ri Rc : Regs} {listed : Array Bool} (ok : DC l ms) (hops : ∀ i : Nat, ops[i]? = l[i]?) (h : Snap l ms R0 vv i Ri) (ho : l[i]? = some o)
    (hdeps : ∀ j, dep ms i j = true → listed.getD j false = true) (hcl : ∀ j, dstAt l j ≠ none → listed.getD j false = true → dep ms j i = false)
    (h0 : ∀ d, (∀ j, dstAt l j ≠ some d) → Rc d = R0 d) (hc : ∀ j d, dstAt l j = some d → Rc d = if listed.getD j false = true then vv j else R0 d) :
    (∀ x ∈ o.op.operands.toList, ev Rc x = ev Ri x) ∧ Region.wanted o (yieldedR ops Rc) = Region.wanted o (yieldedR ops Ri) := by
  constructor
  · intro x hx
    cases x with
    | tmp d =>
      have hm : d ∈ tmpsOf o := List.mem_filterMap.2 ⟨_, hx, rfl⟩
      show Rc d = Ri d
      by_cases hh : ∃ j, dstAt l j = some d ∧ dep ms i j = true
      · obtain ⟨j, hj, hd⟩ := hh
        rw [hc j d hj, if_pos (hdeps j hd), h.s1 j d hd hj]
      · have hn : ∀ j, dstAt l j = some d → dep ms j i = true := by
          intro j hj
          rcases ok.data i j o d ho hm hj with h1 | h1
          · exact absurd ⟨j, hj, h1⟩ hh
          · exact h1
        rw [h.s2 d hn]
        by_cases hj : ∃ j, dstAt l j = some d
        · obtain ⟨j, hj⟩ := hj
          rw [hc j d hj, if_neg]
          intro hl
          have := hcl j (by rw [hj]; simp) hl
          rw [hn j hj] at this; cases this
        · exact h0 d fun j hj' => hj ⟨j, hj'⟩
    | _ => rfl
  · unfold Region.wanted
    cases hg : o.guard with
    | none => rfl
    | some gb =>
      obtain ⟨g, b⟩ := gb
      have hd := ok.guard i o g b ho hg
      have hyy : yieldedR ops Rc g = yieldedR ops Ri g := by
        unfold yieldedR
        have e9 : (ops[g]?).bind (·.dst) = dstAt l g := by rw [hops]; rfl
        rw [e9]
        cases hdg : dstAt l g with
        | none => rfl
        | some d => simp only; rw [hc g d hdg, if_pos (hdeps g hd), h.s1 g d hd hdg]
      simp only [hyy]
theorem snapNow {dn : Nat} {vv : Nat → Value} {i : Nat} {R : Regs} (hn : dn.testBit i = false) (hs : ∀ j, dep ms i j = true → dn.testBit j = true) (dcl : ∀ i j, dn.testBit i = true → dep ms i j = true → dn.testBit j = true)
    (h0 : ∀ d, (∀ j, dstAt l j ≠ some d) → R d = R0 d) (hf : ∀ j d, dstAt l j = some d → R d = if dn.testBit j = true then vv j else R0 d) : Snap l ms R0 vv i R := by
  refine ⟨fun j d hd hj => by rw [hf j d hj, if_pos (hs j hd)], fun d hj => ?_⟩
  by_cases hx : ∃ j, dstAt l j = some d
  · obtain ⟨j, hx⟩ := hx
    rw [hf j d hx, if_neg]
    intro h
    rw [dcl j i h (hj j hx)] at hn; cases hn
  · exact h0 d fun j h => hx ⟨j, h⟩
/-- what is not told of yet leans on all that acted -/
theorem chk_dep : ∀ {s : List Sp} {dn mn fd : Nat}, dagOk l ms s dn mn fd = true → ∀ {i : Nat}, i < l.length → dn.testBit i = false → fd.testBit i = false → ∀ k, mn.testBit k = true → dep ms i k = true
  | [], dn, mn, fd, h, i, hi, h1, h2, k, hk => by
    unfold dagOk at h
    have := List.all_eq_true.1 h i (List.mem_range.2 hi)
    rw [h1] at this; cases this
  | .q j :: s, dn, mn, fd, h, i, hi, h1, h2, k, hk => by
    unfold dagOk at h
    simp only [Bool.and_eq_true] at h
    by_cases e : j = i
    · subst e; exact sub_of h.1.2 hk
    · exact chk_dep h.2 hi (by rw [tb_set, h1]; simp [e]) h2 k hk
  | .f j :: s, dn, mn, fd, h, i, hi, h1, h2, k, hk => by
    unfold dagOk at h
    simp only [Bool.and_eq_true] at h
    by_cases e : j = i
    · subst e; exact sub_of h.1.2 hk
    · exact chk_dep h.2 hi h1 (by rw [tb_set, h2]; simp [e]) k hk
  | .a j :: s, dn, mn, fd, h, i, hi, h1, h2, k, hk => by
    unfold dagOk at h
    simp only [Bool.and_eq_true] at h
    by_cases e : j = i
    · subst e; rw [h.1.1] at h2; cases h2
    · exact chk_dep h.2 hi (by rw [tb_set, h1]; simp [e]) h2 k (by rw [tb_set, hk]; rfl)
  | .m j kp :: s, dn, mn, fd, h, i, hi, h1, h2, k, hk => by
    unfold dagOk at h
    simp only [Bool.and_eq_true] at h
    by_cases e : j = i
    · subst e; exact sub_of h.1.1.2 hk
    · exact chk_dep h.2 hi (by rw [tb_set, h1]; simp [e]) h2 k (by rw [tb_set, hk]; rfl)
theorem ech_upd {fv fv' : Nat → (Nat → Value) × (Nat → Chunk)} {ea : List (Nat × Nat)} (h : ∀ p ∈ ea, fv' p.1 = fv p.1) : ech fv' ea = ech fv ea :=
  List.map_congr_left fun p hp => by rw [h p hp]
/-- on, up to where something must act -/
theorem DI.norm (ok : DC l ms) : ∀ {s : List Sp} {dn mn fd : Nat} {acc : List (Nat × Oper × Regs × Value)} {fa : List (Nat × (Nat → Value) × (Nat → Chunk))} {R : Regs} {H : Hp} {vv : Nat → Value} {Rc : Regs} {ea : List (Nat × Nat)} {fv : Nat → (Nat → Value) × (Nat → Chunk)}
    {listed : Array Bool} {a : Act} {w : World}, (∀ o ∈ l, dstOk n o = true) → DI P n w0 S l ms X R0 listed a w s dn mn fd acc fa R H vv Rc ea fv →
    ∃ s dn mn fd acc fa R H vv ea fv, DI P n w0 S l ms X R0 listed a w s dn mn fd acc fa R H vv Rc ea fv ∧ (s = [] ∨ (∃ i kp s', s = .m i kp :: s') ∨ ∃ i s', s = .a i :: s' ∧ listed.getD i false = false)
  | [], dn, mn, fd, acc, fa, R, H, vv, Rc, ea, fv, listed, a, w, hd, h => ⟨_, _, _, _, _, _, _, _, _, _, _, h, .inl rfl⟩
  | .m i kp :: s, dn, mn, fd, acc, fa, R, H, vv, Rc, ea, fv, listed, a, w, hd, h => ⟨_, _, _, _, _, _, _, _, _, _, _, h, .inr (.inl ⟨i, kp, s, rfl⟩)⟩
  | .q i :: s, dn, mn, fd, acc, fa, R, H, vv, Rc, ea, fv, listed, a, w, hd, h => by
    have hck := h.chk
    unfold dagOk at hck
    simp only [Bool.and_eq_true, decide_eq_true_eq, Bool.not_eq_true'] at hck
    obtain ⟨⟨⟨⟨⟨hil, hdn⟩, hfd⟩, hsub⟩, hmn⟩, hck⟩ := hck
    have hdag := h.dag
    unfold dagG at hdag
    obtain ⟨o, v, ho, hq, hdag⟩ := hdag
    have hul : listed.getD i false = false := by
      cases hx : listed.getD i false with
      | false => rfl
      | true => rcases h.ldn i hx with h1 | h1 <;> simp_all
    have hdeps : ∀ j, dep ms i j = true → dn.testBit j = true := fun j hj => sub_of hsub hj
    have hsn : Snap l ms R0 vv i R := snapNow hdn hdeps h.dcl (fun d hd => (h.rg0 d hd).1) h.rgf
    have hdi : ∀ k, dn.testBit k = true → dep ms k i = false := fun k hk => by
      cases hx : dep ms k i with
      | false => rfl
      | true => rw [h.dcl k i hk hx] at hdn; cases hdn
    have hfi : ∀ k, fd.testBit k = true → dep ms k i = false := fun k hk => by
      cases hx : dep ms k i with
      | false => rfl
      | true => rw [h.fcl k i hk hx] at hdn; cases hdn
    have hii : dep ms i i = false := by
      cases hx : dep ms i i with
      | false => rfl
      | true => rw [hdeps i hx] at hdn; cases hdn
    refine DI.norm ok (s := s) (dn := dn ||| 1 <<< i) (mn := mn) (fd := fd) (acc := (i, o, R, v) :: acc) (fa := fa) (R := V.put R o.dst v) (H := H) (vv := upd' vv i v) (Rc := Rc) (ea := ea) (fv := fv) hd
      { h with
        chk := hck
        rf := ?_, dag := hdag, dlt := ?_, dcl := ?_, fcl := ?_, ldn := ?_, eah := ?_, eaa := ?_, accd := ?_, accq := ?_, fad := ?_, faq := ?_, rg0 := ?_, rgf := ?_, rgc := ?_ }
    · obtain ⟨af, haf⟩ := h.rf
      exact ⟨_, haf.put v (hd o (List.mem_of_getElem? ho))⟩
    · intro k hk
      rw [tb_set] at hk
      simp only [Bool.or_eq_true, decide_eq_true_eq] at hk
      rcases hk with hk | hk
      · exact h.dlt k hk
      · omega
    · intro k j hk hj
      rw [tb_set] at hk ⊢
      simp only [Bool.or_eq_true, decide_eq_true_eq] at hk ⊢
      rcases hk with hk | hk
      · exact .inl (h.dcl k j hk hj)
      · subst hk; exact .inl (hdeps j hj)
    · intro k j hk hj
      rw [tb_set, h.fcl k j hk hj]; rfl
    · intro k hk
      rw [tb_set]
      rcases h.ldn k hk with h1 | h1
      · left; rw [h1]; rfl
      · exact .inr h1
    · intro p hp
      obtain ⟨h1, h2, h3, h4⟩ := h.eah p hp
      have hne : p.1 ≠ i := by intro e; rw [e, hfd] at h1; cases h1
      refine ⟨h1, ?_, h3, ?_⟩
      · rw [tb_set, h2]; simp [Ne.symm hne]
      · rw [upd'_ne hne, h4]
    · intro k hk hk2 hk3
      rw [tb_set] at hk2
      simp only [Bool.or_eq_false_iff] at hk2
      exact h.eaa k hk hk2.1 hk3
    · intro k hk hk2
      rw [tb_set] at hk
      simp only [Bool.or_eq_true, decide_eq_true_eq] at hk
      by_cases e : i = k
      · exact ⟨_, List.mem_cons_self .., e⟩
      · rcases hk with hk | hk
        · obtain ⟨x, hx, hx2⟩ := h.accd k hk hk2
          exact ⟨x, List.mem_cons_of_mem _ hx, hx2⟩
        · exact absurd hk e
    · intro x hx hx2
      rcases List.mem_cons.1 hx with rfl | hx
      · refine ⟨ho, hq, upd'_eq, ?_, hsn.upd hii⟩
        show (dn ||| 1 <<< i).testBit i = true
        rw [tb_set]; simp
      · obtain ⟨h1, h2, h3, h4, h5⟩ := h.accq x hx hx2
        refine ⟨h1, h2, ?_, ?_, h5.upd (hdi _ h4)⟩
        · rw [upd'_ne, h3]; intro e; rw [e, hdn] at h4; cases h4
        · rw [tb_set, h4]; rfl
    · intro k hk hk2
      rw [tb_set] at hk2
      simp only [Bool.or_eq_false_iff] at hk2
      exact h.fad k hk hk2.1
    · intro x hx
      obtain ⟨h1, h2, o', Ri, d, h3, h4, h5, h6, h7⟩ := h.faq x hx
      exact ⟨h1, h2, o', Ri, d, h3, h4, h5, h6, h7.upd (hfi _ h2)⟩
    · intro d hj
      refine ⟨?_, (h.rg0 d hj).2⟩
      rw [put_ne, (h.rg0 d hj).1]
      intro e; exact hj i (by unfold dstAt; rw [ho]; exact e)
    · intro j d hj
      rw [tb_set]
      by_cases e : i = j
      · subst e
        rw [put_eq (by unfold dstAt at hj; rw [ho] at hj; exact hj), upd'_eq, if_pos (by simp)]
      · rw [put_ne (fun e2 => e (ok.uniq i j d (by unfold dstAt; rw [ho]; exact e2) hj)), upd'_ne (Ne.symm e), h.rgf j d hj]
        simp [e]
    · intro j d hj
      rw [h.rgc j d hj]
      by_cases e : j = i
      · subst e; rw [if_neg (by rw [hul]; simp), if_neg (by rw [hul]; simp)]
      · rw [upd'_ne e]
  | .f i :: s, dn, mn, fd, acc, fa, R, H, vv, Rc, ea, fv, listed, a, w, hd, h => by
    have hck := h.chk
    unfold dagOk at hck
    simp only [Bool.and_eq_true, decide_eq_true_eq, Bool.not_eq_true'] at hck
    obtain ⟨⟨⟨⟨⟨hil, hdn⟩, hfd⟩, hsub⟩, hmn⟩, hck⟩ := hck
    have hdag := h.dag
    unfold dagG at hdag
    obtain ⟨o, d0, val, chk, ho, hod, hF, hdag⟩ := hdag
    have hul : listed.getD i false = false := by
      cases hx : listed.getD i false with
      | false => rfl
      | true => rcases h.ldn i hx with h1 | h1 <;> simp_all
    have hdeps : ∀ j, dep ms i j = true → dn.testBit j = true := fun j hj => sub_of hsub hj
    have hsn : Snap l ms R0 vv i R := snapNow hdn hdeps h.dcl (fun d hd => (h.rg0 d hd).1) h.rgf
    have hea : ∀ p ∈ ea, p.1 ≠ i := fun p hp e => by have := (h.eah p hp).1; rw [e, hfd] at this; cases this
    have hfv : ∀ p ∈ ea, (fun k => if k = i then (val, chk) else fv k) p.1 = fv p.1 := fun p hp => by simp [hea p hp]
    refine DI.norm ok (s := s) (dn := dn) (mn := mn) (fd := fd ||| 1 <<< i) (acc := acc) (fa := (i, val, chk) :: fa) (R := R) (H := H) (vv := vv) (Rc := Rc) (ea := ea) (fv := fun k => if k = i then (val, chk) else fv k) hd
      { h with
        chk := hck
        st := by rw [ech_upd hfv]; exact h.st
        dag := hdag, flt := ?_, fcl := ?_, ldn := ?_, eah := ?_, eaa := ?_, fad := ?_, faq := ?_ }
    · intro k hk
      rw [tb_set] at hk
      simp only [Bool.or_eq_true, decide_eq_true_eq] at hk
      rcases hk with hk | hk
      · exact h.flt k hk
      · omega
    · intro k j hk hj
      rw [tb_set] at hk
      simp only [Bool.or_eq_true, decide_eq_true_eq] at hk
      rcases hk with hk | hk
      · exact h.fcl k j hk hj
      · subst hk; exact hdeps j hj
    · intro k hk
      rw [tb_set]
      rcases h.ldn k hk with h1 | h1
      · exact .inl h1
      · right; rw [h1]; rfl
    · intro p hp
      obtain ⟨h1, h2, h3, h4⟩ := h.eah p hp
      refine ⟨by rw [tb_set, h1]; rfl, h2, h3, ?_⟩
      rw [h4]; simp [hea p hp]
    · intro k hk hk2 hk3
      rw [tb_set] at hk
      simp only [Bool.or_eq_true, decide_eq_true_eq] at hk
      rcases hk with hk | hk
      · exact h.eaa k hk hk2 hk3
      · subst hk; rw [hul] at hk3; cases hk3
    · intro k hk hk2
      rw [tb_set] at hk
      simp only [Bool.or_eq_true, decide_eq_true_eq] at hk
      by_cases e : i = k
      · exact ⟨_, List.mem_cons_self .., e⟩
      · rcases hk with hk | hk
        · obtain ⟨x, hx, hx2⟩ := h.fad k hk hk2
          exact ⟨x, List.mem_cons_of_mem _ hx, hx2⟩
        · exact absurd hk e
    · intro x hx
      rcases List.mem_cons.1 hx with rfl | hx
      · refine ⟨by simp, ?_, o, R, d0, ho, hod, h.rf, hF, hsn⟩
        show (fd ||| 1 <<< i).testBit i = true
        rw [tb_set]; simp
      · obtain ⟨h1, h2, h3⟩ := h.faq x hx
        have hne : x.1 ≠ i := by intro e; rw [e, hfd] at h2; cases h2
        exact ⟨by simp [hne, h1], by rw [tb_set, h2]; rfl, h3⟩
  | .a i :: s, dn, mn, fd, acc, fa, R, H, vv, Rc, ea, fv, listed, a, w, hd, h => by
    by_cases hli : listed.getD i false = true
    · have hck := h.chk
      unfold dagOk at hck
      simp only [Bool.and_eq_true, decide_eq_true_eq, Bool.not_eq_true'] at hck
      obtain ⟨⟨hfd, hdn⟩, hck⟩ := hck
      have hdag := h.dag
      unfold dagG at hdag
      obtain ⟨o, val, chk, ho, hfa, hdag⟩ := hdag
      obtain ⟨g, hg⟩ := h.eaa i hfd hdn hli
      obtain ⟨f1, _, o', Ri, d, f3, f4, f5, f6, f7⟩ := h.faq _ hfa
      have f1 : fv i = (val, chk) := f1
      obtain rfl : o' = o := Option.some.inj (f3.symm.trans ho)
      have hv : vv i = val g := by have := (h.eah _ hg).2.2.2; simp only [f1] at this; exact this
      have hpe := List.perm_cons_erase hg
      have hmem : ∀ p, p ∈ ea.erase (i, g) ↔ p ∈ ea ∧ p.1 ≠ i := by
        intro p
        have hnd : ea.Nodup := List.Pairwise.of_map _ (fun a b hne e => hne (by rw [e])) h.ean
        rw [hnd.mem_erase_iff]
        constructor
        · rintro ⟨h1, h2⟩
          refine ⟨h2, fun e => h1 ?_⟩
          obtain ⟨p1, p2⟩ := p
          simp only at e; subst e
          have hmp := (hpe.map Prod.fst).nodup_iff.1 h.ean
          simp only [List.map_cons, List.nodup_cons] at hmp
          by_cases e2 : p2 = g
          · rw [e2]
          · exact absurd (List.mem_map.2 ⟨(p1, p2), (hnd.mem_erase_iff).2 ⟨by intro e3; injection e3 with _ e4; exact e2 e4, h2⟩, rfl⟩) hmp.1
        · rintro ⟨h1, h2⟩
          exact ⟨fun e => h2 (by rw [e]), h1⟩
      have hdeps : ∀ j, dep ms i j = true → dn.testBit j = true := fun j hj => h.fcl i j hfd hj
      refine DI.norm ok (s := s) (dn := dn ||| 1 <<< i) (mn := mn ||| 1 <<< i) (fd := fd) (acc := acc) (fa := fa) (R := V.put R o'.dst (val g)) (H := H ++ [chk g]) (vv := vv) (Rc := Rc) (ea := ea.erase (i, g)) (fv := fv) hd
        { h with
          chk := hck
          rf := ?_, st := ?_, dag := hdag g, dlt := ?_, dcl := ?_, fcl := ?_, mnl := ?_, ldn := ?_, eah := ?_, eaa := ?_, ean := ?_, accd := ?_, accq := ?_, fad := ?_, rg0 := ?_, rgf := ?_ }
      · obtain ⟨af, haf⟩ := h.rf
        exact ⟨_, haf.put _ (hd o' (List.mem_of_getElem? ho))⟩
      · refine h.st.ent (.perm ?_)
        have e1 : ech fv ((i, g) :: ea.erase (i, g)) = chk g :: ech fv (ea.erase (i, g)) := by
          unfold ech; rw [List.map_cons]; simp only [f1]
        rw [List.append_assoc]
        exact (List.Perm.refl H).append ((show (ech fv ea).Perm (ech fv ((i, g) :: ea.erase (i, g))) from hpe.map _).trans (by rw [e1]; exact .refl _))
      · intro k hk
        rw [tb_set] at hk
        simp only [Bool.or_eq_true, decide_eq_true_eq] at hk
        rcases hk with hk | hk
        · exact h.dlt k hk
        · subst hk; exact h.flt _ hfd
      · intro k j hk hj
        rw [tb_set] at hk ⊢
        simp only [Bool.or_eq_true, decide_eq_true_eq] at hk ⊢
        rcases hk with hk | hk
        · exact .inl (h.dcl k j hk hj)
        · subst hk; exact .inl (hdeps j hj)
      · intro k j hk hj
        rw [tb_set, h.fcl k j hk hj]; rfl
      · intro k hk
        rw [tb_set] at hk
        simp only [Bool.or_eq_true, decide_eq_true_eq] at hk
        rcases hk with hk | hk
        · exact h.mnl k hk
        · subst hk; exact hli
      · intro k hk
        rw [tb_set]
        rcases h.ldn k hk with h1 | h1
        · left; rw [h1]; rfl
        · exact .inr h1
      · intro p hp
        obtain ⟨hp1, hp2⟩ := (hmem p).1 hp
        obtain ⟨h1, h2, h3, h4⟩ := h.eah p hp1
        refine ⟨h1, ?_, h3, h4⟩
        rw [tb_set, h2]; simp [Ne.symm hp2]
      · intro k hk hk2 hk3
        rw [tb_set] at hk2
        simp only [Bool.or_eq_false_iff, decide_eq_false_iff_not] at hk2
        obtain ⟨g', hg'⟩ := h.eaa k hk hk2.1 hk3
        exact ⟨g', (hmem _).2 ⟨hg', fun e => hk2.2 e.symm⟩⟩
      · exact h.ean.sublist (List.Sublist.map _ (List.erase_sublist ..))
      · intro k hk hk2
        rw [tb_set] at hk
        simp only [Bool.or_eq_true, decide_eq_true_eq] at hk
        rcases hk with hk | hk
        · exact h.accd k hk hk2
        · subst hk; rw [hli] at hk2; cases hk2
      · intro x hx hx2
        obtain ⟨h1, h2, h3, h4, h5⟩ := h.accq x hx hx2
        refine ⟨h1, fun E => ?_, h3, by rw [tb_set, h4]; rfl, h5⟩
        rw [List.append_assoc]; exact h2 _
      · intro k hk hk2
        rw [tb_set] at hk2
        simp only [Bool.or_eq_false_iff] at hk2
        exact h.fad k hk hk2.1
      · intro d hj
        refine ⟨?_, (h.rg0 d hj).2⟩
        rw [put_ne, (h.rg0 d hj).1]
        intro e; exact hj i (by unfold dstAt; rw [ho]; exact e)
      · intro j d hj
        rw [tb_set]
        by_cases e : i = j
        · subst e
          rw [put_eq (by unfold dstAt at hj; rw [ho] at hj; exact hj), ← hv, if_pos (by simp)]
        · rw [put_ne (fun e2 => e (ok.uniq i j d (by unfold dstAt; rw [ho]; exact e2) hj)), h.rgf j d hj]
          simp [e]
    · exact ⟨_, _, _, _, _, _, _, _, _, _, _, h, .inr (.inr ⟨i, s, rfl, by simpa using hli⟩)⟩
theorem Closed.dep (ok : DC l ms) {listed : Array Bool} (hcl : ∀ (i : Nat) (o : Oper), l[i]? = some o → listed.getD i false = true → ∀ e ∈ o.after, Region.binds .any e = true → listed.getD e.on false = true) :
    ∀ (i : Nat), i < l.length → listed.getD i false = true → ∀ j, V.dep ms i j = true → listed.getD j false = true := by
  intro i
  induction i using Nat.strongRecOn with
  | _ i ih =>
    intro hi hl j hj
    obtain ⟨e, he, hb, hon⟩ := ok.dep i _ j (List.getElem?_eq_getElem hi) hj
    have h1 := hcl i _ (List.getElem?_eq_getElem hi) hl e he hb
    rcases hon with h2 | h2
    · rw [← h2]; exact h1
    · have hlt := ok.back i _ (List.getElem?_eq_getElem hi) e he hb
      exact ih e.on hlt (by omega) h1 j h2
/-- THE RULE. -/
theorem c_dag {id : Nat} {R : Regs} {H : Hp} {l : List Oper} {X : Post} (ord : List Sp) (hm : P.follows .mixedOrders = true) (hck : (dagAll l ord && l.all (dstOk n)) = true)
    (h : dagG P n w0 S l.toArray l X ord [] [] R H) : G n w0 S ((Code.region id l.toArray true).wp P X) R H := by
  simp only [Bool.and_eq_true] at hck
  obtain ⟨hck, hdst⟩ := hck
  unfold dagAll at hck
  simp only [Bool.and_eq_true] at hck
  obtain ⟨hst0, hord⟩ := hck
  generalize hmsd : msF l = ms at hst0 hord
  have ok : DC l ms := DC.of hst0
  have hdst : ∀ o ∈ l, dstOk n o = true := fun o ho => List.all_eq_true.1 hdst o ho
  have lt_of : ∀ {i : Nat} {o : Oper}, l[i]? = some o → i < l.length := fun h => (List.getElem?_eq_some_iff.1 h).1
  intro a w ha hw
  refine wp_region_any hm ?_
  let ops := l.toArray
  have hops : ∀ i : Nat, ops[i]? = l[i]? := fun i => by simp [ops]
  have hsize : ops.size = l.length := by simp [ops]
  have flip : ∀ {listed : Array Bool} {i : Nat}, listed.size = ops.size → i < l.length → (listed.getD i false = true ↔ listed.getD i true = true) := by
    intro listed i hs hi
    have : i < listed.size := by omega
    simp [this]
  let Cl (listed : Array Bool) : Prop := ∀ (i : Nat) (o : Oper), l[i]? = some o → listed.getD i false = true → ∀ e ∈ o.after, Region.binds .any e = true → listed.getD e.on false = true
  let I (listed : Array Bool) (a : Act) (w : World) : Prop := listed.size = ops.size ∧ Cl listed ∧ ∃ s dn mn fd acc fa Rf H vv Rc ea fv, DI P n w0 S l ms X R listed a w s dn mn fd acc fa Rf H vv Rc ea fv ∧ (s = [] ∨ (∃ i kp s', s = .m i kp :: s') ∨ ∃ i s', s = .a i :: s' ∧ listed.getD i false = false)
  refine wpAny_inv I (fun _ _ _ h => h.1) ?_ ?_ _ _ _ _ ?_ ?_
  · rintro listed a w i ⟨hs, hcl, s, dn, mn, fd, acc, fa, Rf, H, vv, Rc, ea, fv, D, hhead⟩ hi
    obtain ⟨hun, o, ho, haft⟩ := mem_ready.1 hi
    rw [hops] at ho
    have hil := lt_of ho
    have hsi : i < listed.size := by omega
    have hunf : listed.getD i false = false := by
      cases hx : listed.getD i false with
      | false => rfl
      | true => rw [(flip hs hil).1 hx] at hun; cases hun
    have hod := hdst o (List.mem_of_getElem? ho)
    have hdeps : ∀ j, dep ms i j = true → listed.getD j false = true := by
      intro j hj
      obtain ⟨e, he, hb, hon⟩ := ok.dep i o j ho hj
      have h1 := haft e he hb
      rcases hon with h2 | h2
      · rw [← h2]; exact h1
      · exact Closed.dep ok hcl e.on (by have := ok.back i o ho e he hb; omega) h1 j h2
    have hnod : ∀ j, dstAt l j ≠ none → listed.getD j false = true → dep ms j i = false := by
      intro j hj hl
      cases hx : dep ms j i with
      | false => rfl
      | true =>
        have hjl : j < l.length := by
          cases h1 : dstAt l j with
          | none => exact absurd h1 hj
          | some d => exact dst_lt h1
        rw [Closed.dep ok hcl j hjl hl i hx] at hunf; cases hunf
    have closed' : Cl (listed.setIfInBounds i true) := by
      intro i' p hp hl e he hb
      rw [getD_set' _ _ _ hsi] at hl ⊢
      split
      · rfl
      · by_cases h1 : i = i'
        · subst h1
          obtain rfl : p = o := Option.some.inj (hp.symm.trans ho)
          exact haft e he hb
        · rw [if_neg h1] at hl
          exact hcl i' p hp hl e he hb
    have lset : ∀ k, (listed.setIfInBounds i true).getD k false = true ↔ (i = k ∨ listed.getD k false = true) := by
      intro k; rw [getD_set' _ _ _ hsi]; by_cases e : i = k <;> simp [e]
    have lsetF : ∀ k, (listed.setIfInBounds i true).getD k false = false ↔ (i ≠ k ∧ listed.getD k false = false) := by
      intro k; rw [getD_set' _ _ _ hsi]; by_cases e : i = k <;> simp [e]
    have hdo : ∀ {d}, o.dst = some d → dstAt l i = some d := fun e => by unfold dstAt; rw [ho]; exact e
    have odh : ∀ {d}, dstAt l i = some d → o.dst = some d := fun e => by unfold dstAt at e; rw [ho] at e; exact e
    -- registers behind it
    have hrc0 : ∀ (u : Value) d, (∀ j, dstAt l j ≠ some d) → V.put Rc o.dst u d = R d := by
      intro u d hj
      rw [put_ne (fun e => hj i (hdo e))]; exact (D.rg0 d hj).2
    unfold wpOp
    rw [hops, ho]
    simp only
    by_cases hdn : dn.testBit i = true
    · -- a quiet one that was told of
      obtain ⟨x, hx, hxi⟩ := D.accd i hdn hunf
      obtain ⟨x1, x2, Ri, v⟩ := x
      simp only at hxi; subst hxi
      obtain ⟨g1, g2, g3, g4, g5⟩ := D.accq _ hx hunf
      simp only at g1 g2 g3 g4 g5
      obtain rfl : x2 = o := Option.some.inj (g1.symm.trans ho)
      obtain ⟨hop, hwant⟩ := Snap.agree ok hops g5 ho hdeps hnod (fun d hj => (D.rg0 d hj).2) D.rgc
      have hexec : execOp (ev Rc) x2 = execOp (ev Ri) x2 := execOp_congr (ok.sel x2 (List.mem_of_getElem? ho)) hop
      have next : ∀ w', St w0 S (H ++ ech fv ea) w' → I (listed.setIfInBounds x1 true) (a.put x2.dst v) w' := by
        intro w' hw'
        refine ⟨by simp [hs], closed', s, dn, mn, fd, acc, fa, Rf, H, vv, V.put Rc x2.dst v, ea, fv,
          { D with
            rc := D.rc.put v hod
            st := hw'
            mnl := fun k hk => (lset k).2 (.inr (D.mnl k hk))
            ldn := fun k hk => by
              rcases (lset k).1 hk with e | e
              · subst e; exact .inl hdn
              · exact D.ldn k e
            eah := fun p hp => by
              obtain ⟨h1, h2, h3, h4⟩ := D.eah p hp
              exact ⟨h1, h2, (lset _).2 (.inr h3), h4⟩
            eaa := fun k hk hk2 hk3 => by
              rcases (lset k).1 hk3 with e | e
              · subst e; rw [hdn] at hk2; cases hk2
              · exact D.eaa k hk hk2 e
            accd := fun k hk hk2 => D.accd k hk ((lsetF k).1 hk2).2
            accq := fun y hy hy2 => D.accq y hy ((lsetF _).1 hy2).2
            rg0 := fun d hj => ⟨(D.rg0 d hj).1, hrc0 v d hj⟩
            rgc := fun j d hj => by
              by_cases e : x1 = j
              · subst e
                rw [put_eq (odh hj), if_pos ((lset _).2 (.inl rfl)), g3]
              · rw [put_ne (fun e2 => e (ok.uniq _ _ d (hdo e2) hj)), D.rgc j d hj]
                by_cases e2 : listed.getD j false = true
                · rw [if_pos e2, if_pos ((lset j).2 (.inr e2))]
                · rw [if_neg e2, if_neg (fun e3 => ((lset j).1 e3).elim e e2)] }, ?_⟩
        rcases hhead with h1 | h1 | ⟨i', s', h1, h2⟩
        · exact .inl h1
        · exact .inr (.inl h1)
        · refine .inr (.inr ⟨i', s', h1, (lsetF i').2 ⟨?_, h2⟩⟩)
          rintro rfl
          have := D.chk
          rw [h1] at this
          unfold dagOk at this
          simp only [Bool.and_eq_true, Bool.not_eq_true'] at this
          rw [hdn] at this; cases this.1.2
      rw [D.rc.yielded ops, hwant]
      rcases g2 (ech fv ea) with ⟨hw1, hyv⟩ | ⟨hw1, hyv⟩
      · have hw1 : Region.wanted x2 (yieldedR ops Ri) = true := hw1
        rw [if_pos hw1]
        left
        have h1 := hyv w D.st
        unfold Oper.wp
        rw [D.rc.ev, hexec]
        generalize (execOp (ev Ri) x2).run P w = r at h1
        cases r with
        | ok x w' =>
          cases x <;> simp only [Oper.quietUpon] at h1 <;> simp only [Oper.upon]
          case value u => obtain ⟨rfl, rfl⟩ := h1; exact next _ D.st
          case skip => obtain ⟨rfl, h2⟩ := h1; rw [← h2]; exact next _ D.st
          case enter f args =>
            obtain ⟨rfl, hc⟩ := h1
            exact hc.mono fun e w'' ⟨he, hs'⟩ => by subst he; exact next _ hs'
        | halt x w' => simp only [Oper.quietUpon] at h1
      · have hw1 : Region.wanted x2 (yieldedR ops Ri) = false := hw1
        rw [if_neg (by simp [hw1]), ← hyv]
        exact next _ D.st
    · have hdn : dn.testBit i = false := by simpa using hdn
      by_cases hfd : fd.testBit i = true
      · -- new memory
        obtain ⟨x, hx, hxi⟩ := D.fad i hfd hdn
        obtain ⟨x1, val, chk⟩ := x
        simp only at hxi; subst hxi
        obtain ⟨f1, f2, o', Ri, d, f3, f4, ⟨af, haf⟩, f6, f7⟩ := D.faq _ hx
        simp only at f1 f2 f3 f6 f7
        obtain rfl : o' = o := Option.some.inj (f3.symm.trans ho)
        obtain ⟨hop, hwant⟩ := Snap.agree ok hops f7 ho hdeps hnod (fun d hj => (D.rg0 d hj).2) D.rgc
        refine step_one (ops := ops) (Q' := fun R' H' => ∃ g, R' = V.put Ri o'.dst (val g) ∧ H' = chk g :: (H ++ ech fv ea)) haf D.rc (ok.sel o' (List.mem_of_getElem? ho)) hop hwant (f6 (H ++ ech fv ea) _ (fun g => fun a w hr hst => ⟨_, _, hr, hst, rfl, g, rfl, rfl⟩) af w haf D.st) ?_
        rintro u w' R2 H2 hr2 hs2 ⟨g, rfl, rfl⟩
        have e2 := Rep.one hr2 (haf.put u hod)
        have eu : val g = u := by
          have := congrFun e2 d
          rwa [put_eq f4, put_eq f4] at this
        subst eu
        have hne : ∀ p ∈ ea, p.1 ≠ x1 := fun p hp e => by
          have := (D.eah p hp).2.2.1
          rw [e, hunf] at this; cases this
        obtain ⟨s1, dn1, mn1, fd1, acc1, fa1, R1, H1, vv1, ea1, fv1, D1, hh1⟩ := DI.norm (P := P) (n := n) (w0 := w0) (S := S) (l := l) (ms := ms) (X := X) (R0 := R) ok (s := s) (dn := dn) (mn := mn) (fd := fd) (acc := acc) (fa := fa) (R := Rf) (H := H) (vv := upd' vv x1 (val g)) (Rc := V.put Rc o'.dst (val g)) (ea := (x1, g) :: ea) (fv := fv) (listed := listed.setIfInBounds x1 true) (a := a.put o'.dst (val g)) (w := w') hdst
          { D with
            rc := D.rc.put _ hod
            st := hs2.ent (.perm (by
              show (chk g :: (H ++ ech fv ea)).Perm (H ++ ((fv x1).2 g :: ech fv ea))
              rw [f1]
              exact List.perm_middle.symm))
            mnl := fun k hk => (lset k).2 (.inr (D.mnl k hk))
            ldn := fun k hk => by
              rcases (lset k).1 hk with e | e
              · subst e; exact .inr hfd
              · exact D.ldn k e
            eah := fun p hp => by
              rcases List.mem_cons.1 hp with rfl | hp
              · exact ⟨hfd, hdn, (lset _).2 (.inl rfl), by rw [upd'_eq]; simp only [f1]⟩
              · obtain ⟨h1, h2, h3, h4⟩ := D.eah p hp
                exact ⟨h1, h2, (lset _).2 (.inr h3), by rw [upd'_ne (hne p hp), h4]⟩
            eaa := fun k hk hk2 hk3 => by
              rcases (lset k).1 hk3 with e | e
              · subst e; exact ⟨g, List.mem_cons_self ..⟩
              · obtain ⟨g', hg'⟩ := D.eaa k hk hk2 e
                exact ⟨g', List.mem_cons_of_mem _ hg'⟩
            ean := by
              simp only [List.map_cons, List.nodup_cons]
              refine ⟨fun hm => ?_, D.ean⟩
              obtain ⟨p, hp, e⟩ := List.mem_map.1 hm
              exact hne p hp e
            accd := fun k hk hk2 => D.accd k hk ((lsetF k).1 hk2).2
            accq := fun y hy hy2 => by
              obtain ⟨h1, h2, h3, h4, h5⟩ := D.accq y hy ((lsetF _).1 hy2).2
              refine ⟨h1, h2, ?_, h4, h5.upd ?_⟩
              · rw [upd'_ne (by intro e; exact ((lsetF _).1 hy2).1 e.symm), h3]
              · cases hz : dep ms y.1 x1 with
                | false => rfl
                | true => rw [D.dcl y.1 x1 h4 hz] at hdn; cases hdn
            faq := fun y hy => by
              obtain ⟨h1, h2, p, Rp, dp, h3, h4, h5, h6, h7⟩ := D.faq y hy
              refine ⟨h1, h2, p, Rp, dp, h3, h4, h5, h6, h7.upd ?_⟩
              cases hz : dep ms y.1 x1 with
              | false => rfl
              | true => rw [D.fcl y.1 x1 h2 hz] at hdn; cases hdn
            rg0 := fun d hj => ⟨(D.rg0 d hj).1, hrc0 _ d hj⟩
            rgf := fun j d hj => by
              rw [D.rgf j d hj]
              by_cases e : j = x1
              · subst e; rw [if_neg (by rw [hdn]; simp), if_neg (by rw [hdn]; simp)]
              · rw [upd'_ne e]
            rgc := fun j d hj => by
              by_cases e : x1 = j
              · subst e
                rw [put_eq (odh hj), if_pos ((lset _).2 (.inl rfl)), upd'_eq]
              · rw [put_ne (fun e2 => e (ok.uniq _ _ d (hdo e2) hj)), D.rgc j d hj, upd'_ne (Ne.symm e)]
                by_cases e2 : listed.getD j false = true
                · rw [if_pos e2, if_pos ((lset j).2 (.inr e2))]
                · rw [if_neg e2, if_neg (fun e3 => ((lset j).1 e3).elim e e2)] }
        exact ⟨by simp [hs], closed', s1, dn1, mn1, fd1, acc1, fa1, R1, H1, vv1, _, ea1, fv1, D1, hh1⟩
      · -- what acts
        have hfd : fd.testBit i = false := by simpa using hfd
        have hck := D.chk
        rcases hhead with rfl | ⟨k, kp, s', rfl⟩ | ⟨k, s', rfl, hk⟩
        · unfold dagOk at hck
          have := List.all_eq_true.1 hck i (List.mem_range.2 hil)
          rw [hdn] at this; cases this
        · have hck0 := hck
          unfold dagOk at hck
          simp only [Bool.and_eq_true, decide_eq_true_eq, Bool.not_eq_true'] at hck
          obtain ⟨⟨⟨⟨⟨⟨hkl, hkdn⟩, hkfd⟩, hsub⟩, hmn⟩, hkp⟩, hck⟩ := hck
          have hki : k = i := by
            by_cases e : k = i
            · exact e
            · exfalso
              have h1 := chk_dep hck hil (by rw [tb_set, hdn]; simp [e]) hfd k (by rw [tb_set]; simp)
              have h2 := hdeps k h1
              rcases D.ldn k h2 with h3 | h3 <;> simp_all
          subst hki
          have hdag := D.dag
          unfold dagG at hdag
          obtain ⟨o', ho', hdag⟩ := hdag
          obtain rfl : o' = o := Option.some.inj (ho'.symm.trans ho)
          have hdd : ∀ j, dep ms k j = true → dn.testBit j = true := fun j hj => sub_of hsub hj
          have hsn : Snap l ms R vv k Rf := snapNow hdn hdd D.dcl (fun d hj => (D.rg0 d hj).1) D.rgf
          obtain ⟨hop, hwant⟩ := Snap.agree ok hops hsn ho hdeps hnod (fun d hj => (D.rg0 d hj).2) D.rgc
          obtain ⟨af, haf⟩ := D.rf
          refine step_one (ops := ops) (Q' := fun R' H' => ∃ H'', H' = H'' ++ ech fv ea ∧ AllE P w0 S l.toArray H'' acc kp ∧ dagG P n w0 S l.toArray l X s' acc fa R' H'') haf D.rc (ok.sel o' (List.mem_of_getElem? ho)) hop hwant (hdag (ech fv ea) af w haf D.st) ?_
          rintro u w' R2 _ hr2 hs2 ⟨H2, rfl, hall, hdag2⟩
          have e2 := Rep.one hr2 (haf.put u hod)
          subst e2
          have hkk : dep ms k k = false := by
            cases hx : dep ms k k with
            | false => rfl
            | true => rw [hdd k hx] at hdn; cases hdn
          obtain ⟨s1, dn1, mn1, fd1, acc1, fa1, R1, H1, vv1, ea1, fv1, D1, hh1⟩ := DI.norm (P := P) (n := n) (w0 := w0) (S := S) (l := l) (ms := ms) (X := X) (R0 := R) ok (s := s') (dn := dn ||| 1 <<< k) (mn := mn ||| 1 <<< k) (fd := fd) (acc := acc) (fa := fa) (R := V.put Rf o'.dst u) (H := H2) (vv := upd' vv k u) (Rc := V.put Rc o'.dst u) (ea := ea) (fv := fv) (listed := listed.setIfInBounds k true) (a := a.put o'.dst u) (w := w') hdst
            { D with
              chk := hck
              rc := D.rc.put _ hod
              rf := ⟨_, haf.put u hod⟩
              st := hs2
              dag := hdag2
              dlt := fun j hj => by
                rw [tb_set] at hj
                simp only [Bool.or_eq_true, decide_eq_true_eq] at hj
                rcases hj with hj | hj
                · exact D.dlt j hj
                · omega
              dcl := fun i' j hi' hj => by
                rw [tb_set] at hi' ⊢
                simp only [Bool.or_eq_true, decide_eq_true_eq] at hi' ⊢
                rcases hi' with hi' | hi'
                · exact .inl (D.dcl i' j hi' hj)
                · subst hi'; exact .inl (hdd j hj)
              fcl := fun i' j hi' hj => by rw [tb_set, D.fcl i' j hi' hj]; rfl
              mnl := fun j hj => by
                rw [tb_set] at hj
                simp only [Bool.or_eq_true, decide_eq_true_eq] at hj
                rcases hj with hj | hj
                · exact (lset j).2 (.inr (D.mnl j hj))
                · exact (lset j).2 (.inl hj)
              ldn := fun j hj => by
                rw [tb_set]
                rcases (lset j).1 hj with e | e
                · left; simp [e]
                · rcases D.ldn j e with h1 | h1
                  · left; rw [h1]; rfl
                  · exact .inr h1
              eah := fun p hp => by
                obtain ⟨h1, h2, h3, h4⟩ := D.eah p hp
                have hne : p.1 ≠ k := by intro e; rw [e, hunf] at h3; cases h3
                refine ⟨h1, ?_, (lset _).2 (.inr h3), ?_⟩
                · rw [tb_set, h2]; simp [Ne.symm hne]
                · rw [upd'_ne hne, h4]
              eaa := fun j hj hj2 hj3 => by
                rw [tb_set] at hj2
                simp only [Bool.or_eq_false_iff, decide_eq_false_iff_not] at hj2
                rcases (lset j).1 hj3 with e | e
                · exact absurd e hj2.2
                · exact D.eaa j hj hj2.1 e
              accd := fun j hj hj2 => by
                rw [tb_set] at hj
                simp only [Bool.or_eq_true, decide_eq_true_eq] at hj
                obtain ⟨h1, h2⟩ := (lsetF j).1 hj2
                rcases hj with hj | hj
                · exact D.accd j hj h2
                · exact absurd hj h1
              accq := fun y hy hy2 => by
                obtain ⟨h0, h00⟩ := (lsetF _).1 hy2
                obtain ⟨h1, h2, h3, h4, h5⟩ := D.accq y hy h00
                have hkept : kp.contains y.1 = true := by
                  have := List.all_eq_true.1 hkp y.1 (List.mem_range.2 (D.dlt _ h4))
                  rw [h4] at this
                  simp only [Bool.not_true, Bool.false_or, Bool.or_eq_true] at this
                  rcases this with (h6 | h6) | h6
                  · exact h6
                  · rw [hdeps _ h6] at h00; cases h00
                  · rw [D.mnl _ h6] at h00; cases h00
                refine ⟨h1, hall y hy hkept, ?_, ?_, h5.upd ?_⟩
                · rw [upd'_ne (Ne.symm h0), h3]
                · rw [tb_set, h4]; rfl
                · cases hz : dep ms y.1 k with
                  | false => rfl
                  | true => rw [D.dcl y.1 k h4 hz] at hdn; cases hdn
              fad := fun j hj hj2 => by
                rw [tb_set] at hj2
                simp only [Bool.or_eq_false_iff] at hj2
                exact D.fad j hj hj2.1
              faq := fun y hy => by
                obtain ⟨h1, h2, p, Rp, dp, h3, h4, h5, h6, h7⟩ := D.faq y hy
                refine ⟨h1, h2, p, Rp, dp, h3, h4, h5, h6, h7.upd ?_⟩
                cases hz : dep ms y.1 k with
                | false => rfl
                | true => rw [D.fcl y.1 k h2 hz] at hdn; cases hdn
              rg0 := fun d hj => ⟨by rw [put_ne (fun e => hj k (hdo e))]; exact (D.rg0 d hj).1, hrc0 _ d hj⟩
              rgf := fun j d hj => by
                rw [tb_set]
                by_cases e : k = j
                · subst e
                  rw [put_eq (odh hj), upd'_eq, if_pos (by simp)]
                · rw [put_ne (fun e2 => e (ok.uniq _ _ d (hdo e2) hj)), upd'_ne (Ne.symm e), D.rgf j d hj]
                  simp [e]
              rgc := fun j d hj => by
                by_cases e : k = j
                · subst e
                  rw [put_eq (odh hj), if_pos ((lset _).2 (.inl rfl)), upd'_eq]
                · rw [put_ne (fun e2 => e (ok.uniq _ _ d (hdo e2) hj)), D.rgc j d hj, upd'_ne (Ne.symm e)]
                  by_cases e2 : listed.getD j false = true
                  · rw [if_pos e2, if_pos ((lset j).2 (.inr e2))]
                  · rw [if_neg e2, if_neg (fun e3 => ((lset j).1 e3).elim e e2)] }
          exact ⟨by simp [hs], closed', s1, dn1, mn1, fd1, acc1, fa1, R1, H1, vv1, _, ea1, fv1, D1, hh1⟩
        · exfalso
          unfold dagOk at hck
          simp only [Bool.and_eq_true, Bool.not_eq_true'] at hck
          obtain ⟨⟨hkf, hkd⟩, hck⟩ := hck
          have hne : k ≠ i := by rintro rfl; rw [hkf] at hfd; cases hfd
          have h1 := chk_dep hck hil (by rw [tb_set, hdn]; simp [hne]) hfd k (by rw [tb_set]; simp)
          rw [hdeps k h1] at hk; cases hk
  · rintro listed a w ⟨hs, hcl, s, dn, mn, fd, acc, fa, Rf, H, vv, Rc, ea, fv, D, hhead⟩ he
    have hall : ∀ k, k < l.length → listed.getD k false = true := by
      intro k
      induction k using Nat.strongRecOn with
      | _ k ih =>
        intro hk
        cases hx : listed.getD k true with
        | true => exact (flip hs hk).2 hx
        | false =>
          exfalso
          have : k ∈ Region.ready .any ops listed := mem_ready.2 ⟨hx, l[k], by rw [hops]; exact List.getElem?_eq_getElem hk, fun e he hb => by
            have hlt := ok.back k _ (List.getElem?_eq_getElem hk) e he hb
            exact ih e.on hlt (by omega)⟩
          rw [he] at this
          cases this
    have hck := D.chk
    rcases hhead with rfl | ⟨k, kp, s', rfl⟩ | ⟨k, s', rfl, hk⟩
    · unfold dagOk at hck
      have hdn : ∀ k, k < l.length → dn.testBit k = true := fun k hk => List.all_eq_true.1 hck k (List.mem_range.2 hk)
      have e1 : Rc = Rf := by
        funext d
        by_cases hh : ∃ j, dstAt l j = some d
        · obtain ⟨j, hj⟩ := hh
          rw [D.rgc j d hj, D.rgf j d hj, if_pos (hall j (dst_lt hj)), if_pos (hdn j (dst_lt hj))]
        · have hj : ∀ j, dstAt l j ≠ some d := fun j h => hh ⟨j, h⟩
          rw [(D.rg0 d hj).1, (D.rg0 d hj).2]
      have e2 : ea = [] := by
        cases ea with
        | nil => rfl
        | cons p ea =>
          obtain ⟨h1, h2, _⟩ := D.eah p (List.mem_cons_self ..)
          rw [hdn p.1 (D.flt _ h1)] at h2; cases h2
      subst e1; subst e2
      have hd := D.dag
      unfold dagG at hd
      have hst := D.st
      simp only [ech, List.map_nil, List.append_nil] at hst
      exact hd _ _ D.rc hst
    · unfold dagOk at hck
      simp only [Bool.and_eq_true, decide_eq_true_eq, Bool.not_eq_true'] at hck
      obtain ⟨⟨⟨⟨⟨⟨hkl, hkdn⟩, hkfd⟩, _⟩, _⟩, _⟩, _⟩ := hck
      rcases D.ldn k (hall k hkl) with h3 | h3 <;> simp_all
    · unfold dagOk at hck
      simp only [Bool.and_eq_true, Bool.not_eq_true'] at hck
      rw [hall k (D.flt _ hck.1.1)] at hk; cases hk
  · have hun : ∀ i, (Array.replicate ops.size false).getD i false = false := by
      intro i
      rw [Array.getD_eq_getD_getElem?, Array.getElem?_replicate]
      split <;> rfl
    obtain ⟨s1, dn1, mn1, fd1, acc1, fa1, R1, H1, vv1, ea1, fv1, D1, hh1⟩ := DI.norm (P := P) (n := n) (w0 := w0) (S := S) (l := l) (ms := ms) (X := X) (R0 := R) ok (s := ord) (dn := 0) (mn := 0) (fd := 0) (acc := []) (fa := []) (R := R) (H := H) (vv := fun _ => undef) (Rc := R) (ea := []) (fv := fun _ => (fun _ => undef, fun _ => pur True)) (listed := Array.replicate ops.size false) (a := a) (w := { w with drawn := w.drawn + 1 }) hdst
      { chk := hord, rc := ha, rf := ⟨_, ha⟩, st := by simpa [ech] using hw.drew, dag := h
        dlt := fun i hi => by simp at hi
        flt := fun i hi => by simp at hi
        dcl := fun i j hi => by simp at hi
        fcl := fun i j hi => by simp at hi
        mnl := fun i hi => by simp at hi
        ldn := fun i hi => by rw [hun] at hi; cases hi
        eah := fun p hp => by cases hp
        eaa := fun i hi => by simp at hi
        ean := by simp
        accd := fun i hi => by simp at hi
        accq := fun x hx => by cases hx
        fad := fun i hi => by simp at hi
        faq := fun x hx => by cases hx
        rg0 := fun d _ => ⟨rfl, rfl⟩
        rgf := fun j d _ => by simp
        rgc := fun j d _ => by rw [hun]; simp }
    exact ⟨by simp [ops], (fun i o _ hl => by rw [hun] at hl; cases hl), s1, dn1, mn1, fd1, acc1, fa1, R1, H1, vv1, _, ea1, fv1, D1, hh1⟩
  · unfold left; refine Nat.le_trans List.countP_le_length ?_; simp [ops]
end
end
end Go.Proofs.YtnilejkfbcnkkaaGreatDoor.V
end
section
set_option maxRecDepth 100000
namespace Go.Proofs.YtnilejkfbcnkkaaGreatDoor.V
open Go Go.RowKit

theorem mixed : Tryz.prog.follows .mixedOrders = true := by kernel_rfl

section
variable {P : Program} {n : Fp} {w0 : World} {S : Nat → Prop} {X : Post} {R : Regs} {H : Hp} {ks : List Fr}
variable {dst : Option Tmp} {ty : TypeId} {pos : String} {after : Array Go.Edge} {gd : Option (Nat × Bool)}

theorem ptee {t e : TypeId} (h : P.underlying t = some (.pointer e)) : P.underlying t = some (.pointer (P.pointee t)) := by
  simp [Program.pointee, h]
theorem y_eqN {t yt e : TypeId} {x y : Operand} {a : Option Addr} [hu : UT P t (.pointer e)] (hx : ev R x = .pointer a) (hy : ev R y = .pointer none) : Yields P w0 S H ⟨dst, .binOp .eql t x y yt, ty, pos, after, gd⟩ R (.bool a.isNone) :=
  y_eqlN hx hy (ptee hu.h) rfl
theorem y_neN {t yt e : TypeId} {x y : Operand} {a : Option Addr} [hu : UT P t (.pointer e)] (hx : ev R x = .pointer a) (hy : ev R y = .pointer none) : Yields P w0 S H ⟨dst, .binOp .neq t x y yt, ty, pos, after, gd⟩ R (.bool (!a.isNone)) :=
  y_neqN hx hy (ptee hu.h) rfl
theorem y_ln {x : Operand} {t e : TypeId} {a : Option Addr} {l c : Nat} {r : TypeId} [hu : UT P t (.slice e)] (hx : ev R x = .slice a l c) : Yields P w0 S H ⟨dst, .call { callee := .builtin .len, args := #[x], argTypes := #[t] }, r, pos, after, gd⟩ R (.int .i64 ((l : Nat) : Int)) :=
  y_len hx hu.h
theorem y_cv {src d : TypeId} {x : Operand} {k k' : IntKind} {a c : Int} [hs : UT P src (.int k)] [hu : UT P d (.int k')] (hx : ev R x = .int k a) (h : k'.wrap a = c) : Yields P w0 S H ⟨dst, .convert src d x, ty, pos, after, gd⟩ R (.int k' c) :=
  y_conv hx hs.h hu.h h
theorem y_eB {xt yt : TypeId} {x y : Operand} {a b : Bool} [hu : UT P xt .bool] (hx : ev R x = .bool a) (hy : ev R y = .bool b) : Yields P w0 S H ⟨dst, .binOp .eql xt x y yt, ty, pos, after, gd⟩ R (.bool (a == b)) := y_eqlB hx hy hu.h rfl
theorem y_nB {xt yt : TypeId} {x y : Operand} {a b : Bool} [hu : UT P xt .bool] (hx : ev R x = .bool a) (hy : ev R y = .bool b) : Yields P w0 S H ⟨dst, .binOp .neq xt x y yt, ty, pos, after, gd⟩ R (.bool (a != b)) := y_neqB hx hy hu.h rfl
theorem y_iA {x i : Operand} {t e : TypeId} {len sz : Nat} {b o : Nat} {k : IntKind} {a : Int} [hu : UT P t (.array len e)] [hs : SZ P e sz] (hx : ev R x = PP b o) (hi : ev R i = .int k a)
    (h0 : 0 ≤ a) (hl : a < len) : Yields P w0 S H ⟨dst, .indexAddr t x i, ty, pos, after, gd⟩ R (PP b (o + a.toNat * sz)) := y_ixArr hx hi hu.h hs.h h0 hl rfl
theorem y_pT {c x y : Operand} {v : Value} (hc : ev R c = .bool true) (hx : ev R x = v) : Yields P w0 S H ⟨dst, .pick c x y, ty, pos, after, gd⟩ R v := y_pick hc hx
theorem y_pF {c x y : Operand} {v : Value} (hc : ev R c = .bool false) (hx : ev R y = v) : Yields P w0 S H ⟨dst, .pick c x y, ty, pos, after, gd⟩ R v := y_pick hc hx

theorem o_gT {ops : Array Oper} {o : Oper} {rest : List Oper} {j d : Nat} {want : Bool} (hg : o.guard = some (j, want)) (hj : (ops[j]?).bind (·.dst) = some d) (hb : R d = .bool want) (hd : dstOk n o = true)
    (h : Ops P n w0 S ops X ({ o with guard := none } :: rest) R H) : Ops P n w0 S ops X (o :: rest) R H :=
  o_guard hg hj hb (fun _ => h) hd (fun e => by cases want <;> cases e)
theorem o_gF {ops : Array Oper} {o : Oper} {rest : List Oper} {j d : Nat} {want : Bool} (hg : o.guard = some (j, want)) (hj : (ops[j]?).bind (·.dst) = some d) (hb : R d = .bool (!want)) (hd : dstOk n o = true)
    (h : Ops P n w0 S ops X rest (put R o.dst undef) H) : Ops P n w0 S ops X (o :: rest) R H :=
  o_guard hg hj hb (fun e => by cases want <;> cases e) hd (fun _ => h)
theorem o_gU {ops : Array Oper} {o : Oper} {rest : List Oper} {j d : Nat} {want : Bool} (hg : o.guard = some (j, want)) (hj : (ops[j]?).bind (·.dst) = some d)
    (hb : R d = undef) (hd : dstOk n o = true) (h : Ops P n w0 S ops X rest (put R o.dst undef) H) : Ops P n w0 S ops X (o :: rest) R H := by
  intro a w ha hw
  have hy : yielded ops a.tmps j = none := by
    rw [ha.yielded ops]
    unfold yieldedR
    rw [hj]; simp [hb, undef]
  have hwn : Region.wanted o (yielded ops a.tmps) = false := by simp [Region.wanted, hg, hy]
  unfold wpList
  rw [hwn, if_neg (by simp)]
  exact h _ _ (ha.put undef hd) hw
theorem q_gU {ops : Array Oper} {o : Oper} {rest : List Oper} {K : Regs → Prop} {j d : Nat} {want : Bool} (hg : o.guard = some (j, want)) (hj : (ops[j]?).bind (·.dst) = some d) (hb : R d = undef)
    (h : quietG P w0 S H ops rest (put R o.dst undef) K) : quietG P w0 S H ops (o :: rest) R K := by
  refine ⟨undef, .inr ⟨?_, rfl⟩, h⟩
  unfold Region.wanted yieldedR
  rw [hg]
  simp [hj, hb, undef]

/-- How many operations at a region's begin are quiet, but for calls. -/
def quietOp (o : Oper) : Bool := match o.op with
  | .move _ | .pick .. | .load .. | .nilCheck _ | .binOp .. | .unOp .. | .convert .. | .fieldAddr .. | .field .. | .indexAddr .. | .index .. | .extract .. | .makeFunc .. | .build .. | .slice .. | .lookup .. | .makeInterface .. => true
  | .call c => match c.callee with | .builtin .len | .builtin .cap | .builtin .max | .builtin .min => true | _ => false
  | _ => false
def headM : List Oper → Nat
  | [] => 0
  | o :: l => if quietOp o then headM l + 1 else 0

/-- the operations of a drawn region that go one behind the other: what acts, and what leans on it -/
def loudOp (o : Oper) : Bool := match o.op with | .assign _ => true | _ => !quietOp o
def tlFrom : List Oper → Nat → List Nat → List Nat → List Nat
  | [], _, _, acc => acc.reverse
  | o :: l, i, td, acc =>
    if loudOp o || (tmpsOf o).any td.contains || (match o.guard with | some (g, _) => acc.contains g | none => false) then tlFrom l (i + 1) (match o.dst with | some d => d :: td | none => td) (i :: acc) else tlFrom l (i + 1) td acc
def tlOf (l : List Oper) : List Nat := tlFrom l 0 [] []
def hdsOf (l : List Oper) : List Nat := (List.range l.length).filter fun i => !(tlOf l).contains i
def elFrom (l : List Oper) (t : Option Nat) : List Nat → List Nat → List Nat
  | [], el => el
  | i :: is, el => if (List.range l.length).any (fun j => decide (i < j) && (t == some j || el.contains j) && (match l[j]? with | some p => edge p i | none => false)) then elFrom l t is (i :: el) else elFrom l t is el
def elOf (l : List Oper) : List Nat := elFrom l (tlOf l).head? (hdsOf l).reverse []

/-! ### The goals of a walk, by kind -/
inductive Kd where
  | run (c : Code) (ks : List Fr)
  | ops (ops : Array Oper) (ks : List Fr) (l : List Oper)
  | qt (ops : Array Oper) (ks : List Fr) (l tail : List Oper)
  | qk (ops : Array Oper) (ks : List Fr) (l : List Oper) (el hds : List Nat) (acc : List (Oper × Regs × Value)) (tl : List Nat)
  | tk (ops : Array Oper) (ks : List Fr) (l : List Oper) (acc : List (Oper × Regs × Value)) (tl : List Nat)
  | sg (ops : Array Oper) (ks : List Fr) (l : List Oper) (segs : List (Option Nat)) (b : Nat)
  | sq (ops : Array Oper) (ks : List Fr) (l rest : List Oper) (segs : List (Option Nat)) (m : Nat)
  | dg (ops : Array Oper) (ks : List Fr) (l : List Oper) (s : List Sp) (acc : List (Nat × Oper × Regs × Value)) (fa : List (Nat × (Nat → Value) × (Nat → Chunk)))
  | ex (e : Exit) (ks : List Fr)
  | fin (e : Exit)
  | jj (J : Act → World → Prop)
def Gl (n : Fp) (w0 : World) (S : Nat → Prop) (X : Post) : Kd → Regs → Hp → Prop
  | .run c ks, R, L => Run Tryz.prog n w0 S X c ks R L
  | .ops o ks l, R, L => Ops Tryz.prog n w0 S o (contQ Tryz.prog X ks) l R L
  | .qt o ks l tail, R, L => quietG Tryz.prog w0 S L o l R fun R' => Ops Tryz.prog n w0 S o (contQ Tryz.prog X ks) tail R' L
  | .qk o ks l el hds acc tl, R, L => quietF Tryz.prog w0 S o L l el hds R acc fun R' acc' => tailK Tryz.prog n w0 S o l acc' (contQ Tryz.prog X ks) tl R' L
  | .tk o ks l acc tl, R, L => tailK Tryz.prog n w0 S o l acc (contQ Tryz.prog X ks) tl R L
  | .sg o ks l segs b, R, L => SegP Tryz.prog n w0 S o l (contQ Tryz.prog X ks) segs b R L
  | .sq o ks l rest segs m, R, L => quietG Tryz.prog w0 S L o rest R fun R' => SegP Tryz.prog n w0 S o l (contQ Tryz.prog X ks) segs m R' L
  | .dg o ks l s acc fa, R, L => dagG Tryz.prog n w0 S o l (contQ Tryz.prog X ks) s acc fa R L
  | .ex e ks, R, L => Ex Tryz.prog n w0 S X e ks R L
  | .fin e, R, L => G n w0 S (X e) R L
  | .jj J, R, L => G n w0 S J R L
/-- kinds that let what is known be told anew -/
def Kd.plain : Kd → Bool
  | .qt .. | .qk .. | .tk .. | .sg .. | .sq .. | .dg .. => false
  | _ => true
end

section
variable {n : Fp} {w0 : World} {S : Nat → Prop} {X : Post} {R : Regs} {L H : Hp} {ks : List Fr} {k : Kd}
variable {dst : Option Tmp} {ty : TypeId} {pos : String} {after : Array Go.Edge} {gd : Option (Nat × Bool)}

theorem g_ent {M : Hp} (hk : k.plain = true) (he : Ent L M) (h : Gl n w0 S X k R M) : Gl n w0 S X k R L := by cases k <;> first | (cases hk; done) | exact G.ent he h
theorem g_open {γ : Type} {C : Chunk} {M : γ → Hp} {K : Hp} (hk : k.plain = true) (ho : Opens C M) (hs : Sel C L K) (h : ∀ x, Gl n w0 S X k R (M x ++ K)) : Gl n w0 S X k R L := by cases k <;> first | (cases hk; done) | exact G.open_ ho hs h
theorem g_fold {C : Chunk} {M K : Hp} (hk : k.plain = true) (hf : Folds M C) (hp : Pick M L K) (h : Gl n w0 S X k R (C :: K)) : Gl n w0 S X k R L := by cases k <;> first | (cases hk; done) | exact G.fold hf hp h
theorem g_pure {φ : Prop} {K : Hp} (hk : k.plain = true) (hs : Sel (pur φ) L K) (h : φ → Gl n w0 S X k R K) : Gl n w0 S X k R L := by cases k <;> first | (cases hk; done) | exact G.pure hs h

theorem w_seq {x y : Code} (h : Gl n w0 S X (.run x (.seq y :: ks)) R L) : Gl n w0 S X (.run (.seq x y) ks) R L := r_seq h
theorem w_skip (h : Gl n w0 S X (.ex .normal ks) R L) : Gl n w0 S X (.run .skip ks) R L := r_skip h
theorem w_label {l : Nat} (h : Gl n w0 S X (.ex .normal ks) R L) : Gl n w0 S X (.run (.label l) ks) R L := r_label h
theorem w_exit {id : Nat} (h : Gl n w0 S X (.ex (.exit id) ks) R L) : Gl n w0 S X (.run (.exit id) ks) R L := r_exit h
theorem w_block {id : Nat} {c : Code} (h : Gl n w0 S X (.run c (.blk id :: ks)) R L) : Gl n w0 S X (.run (.block id c) ks) R L := r_block h
theorem w_ret (h : Gl n w0 S X (.fin .ret) R L) : Gl n w0 S X (.run .ret ks) R L := r_ret h
theorem w_true {c : Operand} {x y : Code} (hc : ev R c = .bool true) (h : Gl n w0 S X (.run x ks) R L) : Gl n w0 S X (.run (.cond c x y) ks) R L := r_true hc h
theorem w_false {c : Operand} {x y : Code} (hc : ev R c = .bool false) (h : Gl n w0 S X (.run y ks) R L) : Gl n w0 S X (.run (.cond c x y) ks) R L := r_false hc h
theorem w_if {c : Operand} {x y : Code} {p : Prop} {d : Decidable p} (hc : ev R c = .bool (@decide p d)) (ht : p → Gl n w0 S X (.run x ks) R L) (hf : ¬ p → Gl n w0 S X (.run y ks) R L) : Gl n w0 S X (.run (.cond c x y) ks) R L := r_if hc ht hf
theorem w_ifn {c : Operand} {x y : Code} {p : Prop} {d : Decidable p} (hc : ev R c = .bool (!(@decide p d))) (ht : ¬ p → Gl n w0 S X (.run x ks) R L) (hf : p → Gl n w0 S X (.run y ks) R L) : Gl n w0 S X (.run (.cond c x y) ks) R L := r_ifn hc ht hf
theorem w_ifb {c : Operand} {x y : Code} {b : Bool} (hc : ev R c = .bool b) (ht : b = true → Gl n w0 S X (.run x ks) R L) (hf : b = false → Gl n w0 S X (.run y ks) R L) : Gl n w0 S X (.run (.cond c x y) ks) R L := r_ifb hc ht hf
theorem w_region {id : Nat} {l : List Oper} (h : Gl n w0 S X (.ops l.toArray ks l) R L) : Gl n w0 S X (.run (.region id l.toArray false) ks) R L := r_region h
theorem w_draw {id : Nat} {l : List Oper} (m : Nat) (hck : (drawOk l m && l.all (dstOk n)) = true) (h : Gl n w0 S X (.qt l.toArray ks (l.take m) (l.drop m)) R L) : Gl n w0 S X (.run (.region id l.toArray true) ks) R L := c_draw m mixed hck h
theorem w_drawH {id : Nat} {l : List Oper} (hck : (drawOk l (headM l) && l.all (dstOk n)) = true) (h : Gl n w0 S X (.qt l.toArray ks (l.take (headM l)) (l.drop (headM l))) R L) : Gl n w0 S X (.run (.region id l.toArray true) ks) R L := c_draw _ mixed hck h
theorem w_drawK {id : Nat} {l : List Oper} (hds tl el : List Nat) (hck : (drawOkF l hds tl el && l.all (dstOk n)) = true) (h : Gl n w0 S X (.qk l.toArray ks l el hds [] tl) R L) : Gl n w0 S X (.run (.region id l.toArray true) ks) R L := c_drawK hds tl el mixed hck h
theorem w_drawA {id : Nat} {l : List Oper} (hck : (drawOkF l (hdsOf l) (tlOf l) (elOf l) && l.all (dstOk n)) = true) (h : Gl n w0 S X (.qk l.toArray ks l (elOf l) (hdsOf l) [] (tlOf l)) R L) : Gl n w0 S X (.run (.region id l.toArray true) ks) R L := w_drawK _ _ _ hck h
section
variable {ops : Array Oper} {l : List Oper} {el is tl : List Nat} {acc : List (Oper × Regs × Value)} {o : Oper} {i d : Nat} {v : Value}
theorem w_knil (h : Gl n w0 S X (.tk ops ks l acc tl) R L) : Gl n w0 S X (.qk ops ks l el [] acc tl) R L := by unfold Gl at *; exact h
theorem w_ke (ho : l[i]? = some o) (he : el.contains i = true) (hd : o.dst = some d) (hq : qY Tryz.prog w0 S L ops o R v) (h : Gl n w0 S X (.qk ops ks l el is acc tl) (upd R d v) L) : Gl n w0 S X (.qk ops ks l el (i :: is) acc tl) R L := f_e ho he hq (by rw [hd]; exact h)
theorem w_kl (ho : l[i]? = some o) (he : el.contains i = false) (hd : o.dst = some d) (hq : qY Tryz.prog w0 S L ops o R v) (h : Gl n w0 S X (.qk ops ks l el is ((o, R, v) :: acc) tl) (upd R d v) L) : Gl n w0 S X (.qk ops ks l el (i :: is) acc tl) R L := f_l ho he hq (by rw [hd]; exact h)
theorem w_tnil (h : Gl n w0 S X (.ex .normal ks) R L) : Gl n w0 S X (.tk ops ks l acc []) R L := h
def XNo : Post := fun _ _ _ => False
def TailJ (n : Fp) (w0 : World) (S : Nat → Prop) (X : Post) (ops : Array Oper) (ks : List Fr) (l : List Oper) (acc : List (Oper × Regs × Value)) (o : Oper) (is : List Nat) : Act → World → Prop :=
  fun a w => ∃ R' H', Rep n a R' ∧ St w0 S H' w ∧ allQ Tryz.prog w0 S ops H' (acc.filter (keepK l o)) ∧ tailK Tryz.prog n w0 S ops l acc (contQ Tryz.prog X ks) is R' H'
theorem w_tstep (ho : l[i]? = some o) (h : Gl n w0 S XNo (.ops ops [.join (TailJ n w0 S X ops ks l acc o is)] [o]) R L) : Gl n w0 S X (.tk ops ks l acc (i :: is)) R L := by
  refine tk_step ho ?_
  have e : (liftX n w0 S fun e R' H' => e = .normal ∧ allQ Tryz.prog w0 S ops H' (acc.filter (keepK l o)) ∧ tailK Tryz.prog n w0 S ops l acc (contQ Tryz.prog X ks) is R' H') = contQ Tryz.prog XNo [.join (TailJ n w0 S X ops ks l acc o is)] := by
    funext e a w
    cases e <;> simp [liftX, contQ, Exit.then, TailJ, XNo]
  unfold Gl at h
  rw [e]
  exact h
theorem w_tjoin (hq : allQ Tryz.prog w0 S ops L (acc.filter (keepK l o))) (h : Gl n w0 S X (.tk ops ks l acc is) R L) : Gl n w0 S XNo (.jj (TailJ n w0 S X ops ks l acc o is)) R L :=
  fun a w ha hw => ⟨R, L, ha, hw, hq, h⟩
end
theorem w_nil {ops : Array Oper} (h : Gl n w0 S X (.ex .normal ks) R L) : Gl n w0 S X (.ops ops ks []) R L := ops_nil h
theorem w_qnil {ops : Array Oper} {tail : List Oper} (h : Gl n w0 S X (.ops ops ks tail) R L) : Gl n w0 S X (.qt ops ks [] tail) R L := by unfold Gl at *; exact h
theorem w_jump {e : Exit} {ks' : List Fr} {c : Code} (h : jump e ks = some (c, ks')) (k : Gl n w0 S X (.run c ks') R L) : Gl n w0 S X (.ex e ks) R L := ex_jump h k
theorem w_land {e : Exit} {J : Act → World → Prop} (h : land e ks = some J) (k : Gl n w0 S X (.jj J) R L) : Gl n w0 S X (.ex e ks) R L := ex_land h k
theorem w_ends {e e' : Exit} (h : ends e ks = some e') (k : Gl n w0 S X (.fin e') R L) : Gl n w0 S X (.ex e ks) R L := ex_ends h k
theorem w_loop {γ : Type} (sl : γ → List (Nat × Value)) (hp : γ → Hp) (I : γ → Prop) (μ : γ → Nat) (g0 : γ) {c : Code} (h0 : Slots R (sl g0)) (he : Ent L (hp g0)) (hI : I g0)
    (step : ∀ g B, I g → Gl n w0 S X (.run c (.loop (LoopJ n w0 S sl hp I μ g) :: ks)) (rg (sl g) B) (hp g)) : Gl n w0 S X (.run (.loop c) ks) R L := r_loop sl hp I μ g0 h0 he hI step
theorem w_round {γ : Type} {sl : γ → List (Nat × Value)} {hp : γ → Hp} {I : γ → Prop} {μ : γ → Nat} {g : γ} (g' : γ) (hI : I g') (hm : μ g' < μ g) (hs : Slots R (sl g')) (he : Ent L (hp g')) : Gl n w0 S X (.jj (LoopJ n w0 S sl hp I μ g)) R L := l_loop g' hI hm hs he
theorem w_join {γ : Type} (sl : γ → List (Nat × Value)) (hp : γ → Hp) (I : γ → Prop) {x y : Code} (h : Gl n w0 S X (.run x (.join (JoinJ n w0 S sl hp I) :: .seq y :: ks)) R L)
    (k : ∀ g B, I g → Gl n w0 S X (.run y ks) (rg (sl g) B) (hp g)) : Gl n w0 S X (.run (.seq x y) ks) R L := r_join sl hp I h k
theorem w_meet {γ : Type} {sl : γ → List (Nat × Value)} {hp : γ → Hp} {I : γ → Prop} (g : γ) (hI : I g) (hs : Slots R (sl g)) (he : Ent L (hp g)) : Gl n w0 S X (.jj (JoinJ n w0 S sl hp I)) R L := l_join g hI hs he

theorem w_y {ops : Array Oper} {o : Oper} {rest : List Oper} {v : Value} {d : Nat} (hg : o.guard = none) (hd : o.dst = some d) (hn : decide (d < n.n) = true) (hy : Yields Tryz.prog w0 S L o R v)
    (h : Gl n w0 S X (.ops ops ks rest) (upd R d v) L) : Gl n w0 S X (.ops ops ks (o :: rest)) R L :=
  o_y hg (by unfold dstOk; rw [hd]; exact hn) hy (by rw [hd]; exact h)
theorem w_y0 {ops : Array Oper} {o : Oper} {rest : List Oper} {v : Value} (hg : o.guard = none) (hd : o.dst = none) (hy : Yields Tryz.prog w0 S L o R v)
    (h : Gl n w0 S X (.ops ops ks rest) R L) : Gl n w0 S X (.ops ops ks (o :: rest)) R L :=
  o_y hg (by unfold dstOk; rw [hd]) hy (by rw [hd]; exact h)
theorem w_qy {ops : Array Oper} {o : Oper} {rest tail : List Oper} {v : Value} {d : Nat} (hg : o.guard = none) (hd : o.dst = some d) (hy : Yields Tryz.prog w0 S L o R v)
    (h : Gl n w0 S X (.qt ops ks rest tail) (upd R d v) L) : Gl n w0 S X (.qt ops ks (o :: rest) tail) R L := q_y hg hy (by rw [hd]; exact h)
theorem w_gT {ops : Array Oper} {o : Oper} {rest : List Oper} {j d : Nat} {want : Bool} (hg : o.guard = some (j, want)) (hj : (ops[j]?).bind (·.dst) = some d) (hb : R d = .bool want) (hd : dstOk n o = true)
    (h : Gl n w0 S X (.ops ops ks ({ o with guard := none } :: rest)) R L) : Gl n w0 S X (.ops ops ks (o :: rest)) R L := o_gT hg hj hb hd h
theorem w_gF {ops : Array Oper} {o : Oper} {rest : List Oper} {j d e : Nat} {want : Bool} (hg : o.guard = some (j, want)) (hj : (ops[j]?).bind (·.dst) = some d) (hb : R d = .bool (!want)) (he : o.dst = some e) (hd : dstOk n o = true)
    (h : Gl n w0 S X (.ops ops ks rest) (upd R e undef) L) : Gl n w0 S X (.ops ops ks (o :: rest)) R L := o_gF hg hj hb hd (by rw [he]; exact h)
theorem w_gU {ops : Array Oper} {o : Oper} {rest : List Oper} {j d e : Nat} {want : Bool} (hg : o.guard = some (j, want)) (hj : (ops[j]?).bind (·.dst) = some d) (hb : R d = undef) (he : o.dst = some e) (hd : dstOk n o = true)
    (h : Gl n w0 S X (.ops ops ks rest) (upd R e undef) L) : Gl n w0 S X (.ops ops ks (o :: rest)) R L := o_gU hg hj hb hd (by rw [he]; exact h)
theorem w_qgT {ops : Array Oper} {o : Oper} {rest tail : List Oper} {j d : Nat} {want : Bool} (hg : o.guard = some (j, want)) (hj : (ops[j]?).bind (·.dst) = some d) (hb : R d = .bool want)
    (h : Gl n w0 S X (.qt ops ks ({ o with guard := none } :: rest) tail) R L) : Gl n w0 S X (.qt ops ks (o :: rest) tail) R L := q_guardT hg hj hb h
theorem w_qgF {ops : Array Oper} {o : Oper} {rest tail : List Oper} {j d e : Nat} {want : Bool} (hg : o.guard = some (j, want)) (hj : (ops[j]?).bind (·.dst) = some d) (hb : R d = .bool (!want)) (he : o.dst = some e)
    (h : Gl n w0 S X (.qt ops ks rest tail) (upd R e undef) L) : Gl n w0 S X (.qt ops ks (o :: rest) tail) R L := q_guardF (b := !want) hg hj hb rfl (by rw [he]; exact h)
theorem w_qgU {ops : Array Oper} {o : Oper} {rest tail : List Oper} {j d e : Nat} {want : Bool} (hg : o.guard = some (j, want)) (hj : (ops[j]?).bind (·.dst) = some d) (hb : R d = undef) (he : o.dst = some e)
    (h : Gl n w0 S X (.qt ops ks rest tail) (upd R e undef) L) : Gl n w0 S X (.qt ops ks (o :: rest) tail) R L := q_gU hg hj hb (by rw [he]; exact h)

/-! regions in parts -/
def segsGo : List Oper → Nat → Bool → List (Option Nat)
  | [], i, q => if q then [some i] else []
  | o :: l, i, q => if (match o.op with | .assign _ => true | _ => quietOp o) then segsGo l (i + 1) true else if q then some i :: none :: segsGo l (i + 1) false else none :: segsGo l (i + 1) false
def segsOf (l : List Oper) : List (Option Nat) := segsGo l 0 false
theorem w_seg {id : Nat} {l : List Oper} (segs : List (Option Nat)) (hck : (segAll l segs && l.all (dstOk n)) = true) (h : Gl n w0 S X (.sg l.toArray ks l segs 0) R L) : Gl n w0 S X (.run (.region id l.toArray true) ks) R L := c_seg segs mixed hck h
theorem w_segA {id : Nat} {l : List Oper} (hck : (segAll l (segsOf l) && l.all (dstOk n)) = true) (h : Gl n w0 S X (.sg l.toArray ks l (segsOf l) 0) R L) : Gl n w0 S X (.run (.region id l.toArray true) ks) R L := w_seg _ hck h
section
variable {ops : Array Oper} {l : List Oper} {segs : List (Option Nat)} {b m : Nat}
theorem w_sgn (h : Gl n w0 S X (.ex .normal ks) R L) : Gl n w0 S X (.sg ops ks l [] b) R L := by
  unfold Gl; unfold SegP; exact h
theorem w_sgq (h : Gl n w0 S X (.sq ops ks l ((l.drop b).take (m - b)) segs m) R L) : Gl n w0 S X (.sg ops ks l (some m :: segs) b) R L := by
  unfold Gl at *; unfold SegP; exact h
theorem w_sqn (h : Gl n w0 S X (.sg ops ks l segs m) R L) : Gl n w0 S X (.sq ops ks l [] segs m) R L := by unfold Gl at *; exact h
theorem w_sqy {o : Oper} {rest : List Oper} {v : Value} {d : Nat} (hg : o.guard = none) (hd : o.dst = some d) (hy : Yields Tryz.prog w0 S L o R v)
    (h : Gl n w0 S X (.sq ops ks l rest segs m) (upd R d v) L) : Gl n w0 S X (.sq ops ks l (o :: rest) segs m) R L := q_y hg hy (by rw [hd]; exact h)
theorem w_sqT {o : Oper} {rest : List Oper} {j d : Nat} {want : Bool} (hg : o.guard = some (j, want)) (hj : (ops[j]?).bind (·.dst) = some d) (hb : R d = .bool want)
    (h : Gl n w0 S X (.sq ops ks l ({ o with guard := none } :: rest) segs m) R L) : Gl n w0 S X (.sq ops ks l (o :: rest) segs m) R L := q_guardT hg hj hb h
theorem w_sqF {o : Oper} {rest : List Oper} {j d e : Nat} {want : Bool} (hg : o.guard = some (j, want)) (hj : (ops[j]?).bind (·.dst) = some d) (hb : R d = .bool (!want)) (he : o.dst = some e)
    (h : Gl n w0 S X (.sq ops ks l rest segs m) (upd R e undef) L) : Gl n w0 S X (.sq ops ks l (o :: rest) segs m) R L := q_guardF (b := !want) hg hj hb rfl (by rw [he]; exact h)
theorem w_sqU {o : Oper} {rest : List Oper} {j d e : Nat} {want : Bool} (hg : o.guard = some (j, want)) (hj : (ops[j]?).bind (·.dst) = some d) (hb : R d = undef) (he : o.dst = some e)
    (h : Gl n w0 S X (.sq ops ks l rest segs m) (upd R e undef) L) : Gl n w0 S X (.sq ops ks l (o :: rest) segs m) R L := q_gU hg hj hb (by rw [he]; exact h)
def SegJ (n : Fp) (w0 : World) (S : Nat → Prop) (X : Post) (ops : Array Oper) (ks : List Fr) (l : List Oper) (segs : List (Option Nat)) (b : Nat) : Act → World → Prop :=
  fun a w => ∃ R' H', Rep n a R' ∧ St w0 S H' w ∧ SegP Tryz.prog n w0 S ops l (contQ Tryz.prog X ks) segs b R' H'
theorem w_sgl {o : Oper} (ho : l[b]? = some o) (h : Gl n w0 S XNo (.ops ops [.join (SegJ n w0 S X ops ks l segs (b + 1))] [o]) R L) : Gl n w0 S X (.sg ops ks l (none :: segs) b) R L := by
  have e : (liftX n w0 S fun e R' H' => e = .normal ∧ SegP Tryz.prog n w0 S ops l (contQ Tryz.prog X ks) segs (b + 1) R' H') = contQ Tryz.prog XNo [.join (SegJ n w0 S X ops ks l segs (b + 1))] := by
    funext e a w
    cases e <;> simp [liftX, contQ, Exit.then, SegJ, XNo]
  unfold Gl at *
  unfold SegP
  exact ⟨o, ho, by rw [e]; exact h⟩
theorem w_sjoin (h : Gl n w0 S X (.sg ops ks l segs b) R L) : Gl n w0 S XNo (.jj (SegJ n w0 S X ops ks l segs b)) R L := fun a w ha hw => ⟨R, L, ha, hw, h⟩
end
/-! regions in any order -/
section
variable {ops : Array Oper} {l : List Oper} {s : List Sp} {acc : List (Nat × Oper × Regs × Value)} {fa : List (Nat × (Nat → Value) × (Nat → Chunk))} {o : Oper} {i d : Nat} {v : Value} {val : Nat → Value} {chk : Nat → Chunk} {kp : List Nat}
theorem w_dag {id : Nat} {l : List Oper} (ord : List Sp) (hck : (dagAll l ord && l.all (dstOk n)) = true) (h : Gl n w0 S X (.dg l.toArray ks l ord [] []) R L) : Gl n w0 S X (.run (.region id l.toArray true) ks) R L := c_dag ord mixed hck h
theorem w_dgn (h : Gl n w0 S X (.ex .normal ks) R L) : Gl n w0 S X (.dg ops ks l [] acc fa) R L := by unfold Gl at *; unfold dagG; exact h
theorem w_dgq (ho : l[i]? = some o) (hd : o.dst = some d) (hq : ∀ E : Hp, qY Tryz.prog w0 S (L ++ E) ops o R v) (h : Gl n w0 S X (.dg ops ks l s ((i, o, R, v) :: acc) fa) (upd R d v) L) : Gl n w0 S X (.dg ops ks l (.q i :: s) acc fa) R L := by
  unfold Gl at *; unfold dagG; exact ⟨o, v, ho, hq, by rw [hd]; exact h⟩
theorem w_dgf (ho : l[i]? = some o) (hd : o.dst = some d) (hf : FreshO Tryz.prog n w0 S ops o R val chk) (h : Gl n w0 S X (.dg ops ks l s acc ((i, val, chk) :: fa)) R L) : Gl n w0 S X (.dg ops ks l (.f i :: s) acc fa) R L := by
  unfold Gl at *; unfold dagG; exact ⟨o, d, val, chk, ho, hd, hf, h⟩
theorem w_dga (ho : l[i]? = some o) (hd : o.dst = some d) (hm : (i, val, chk) ∈ fa) (h : ∀ g, Gl n w0 S X (.dg ops ks l s acc fa) (upd R d (val g)) (L ++ [chk g])) : Gl n w0 S X (.dg ops ks l (.a i :: s) acc fa) R L := by
  unfold Gl at *; unfold dagG; exact ⟨o, val, chk, ho, hm, fun g => by rw [hd]; exact h g⟩
def DagJ (n : Fp) (w0 : World) (S : Nat → Prop) (X : Post) (ops : Array Oper) (ks : List Fr) (l : List Oper) (s : List Sp) (acc : List (Nat × Oper × Regs × Value)) (fa : List (Nat × (Nat → Value) × (Nat → Chunk))) (kp : List Nat) (E : Hp) : Act → World → Prop :=
  fun a w => ∃ R' H', Rep n a R' ∧ St w0 S H' w ∧ ∃ H'', H' = H'' ++ E ∧ AllE Tryz.prog w0 S ops H'' acc kp ∧ dagG Tryz.prog n w0 S ops l (contQ Tryz.prog X ks) s acc fa R' H''
theorem w_dgm (ho : l[i]? = some o) (h : ∀ E : Hp, Gl n w0 S XNo (.ops ops [.join (DagJ n w0 S X ops ks l s acc fa kp E)] [o]) R (L ++ E)) : Gl n w0 S X (.dg ops ks l (.m i kp :: s) acc fa) R L := by
  unfold Gl at *; unfold dagG
  refine ⟨o, ho, fun E => ?_⟩
  have e : (liftX n w0 S fun e R' H' => e = .normal ∧ ∃ H'', H' = H'' ++ E ∧ AllE Tryz.prog w0 S ops H'' acc kp ∧ dagG Tryz.prog n w0 S ops l (contQ Tryz.prog X ks) s acc fa R' H'') = contQ Tryz.prog XNo [.join (DagJ n w0 S X ops ks l s acc fa kp E)] := by
    funext e a w
    cases e <;> simp [liftX, contQ, Exit.then, DagJ, XNo]
  rw [e]; exact h E
/-- what is known falls into that and a rest -/
def Spl (L H E : Hp) : Prop := L = H ++ E
theorem Spl.nil {E : Hp} : Spl E [] E := rfl
theorem Spl.cons {C : Chunk} {L H E : Hp} (h : Spl L H E) : Spl (C :: L) (C :: H) E := by unfold Spl at *; rw [h]; rfl
theorem w_dgj {E : Hp} (hs : Spl L H E) (hall : AllE Tryz.prog w0 S ops H acc kp) (h : Gl n w0 S X (.dg ops ks l s acc fa) R H) : Gl n w0 S XNo (.jj (DagJ n w0 S X ops ks l s acc fa kp E)) R L :=
  fun a w ha hw => ⟨R, L, ha, hw, H, hs, hall, by unfold Gl at h; exact h⟩
theorem alle_nil {H : Hp} {acc : List (Nat × Oper × Regs × Value)} : AllE Tryz.prog w0 S ops H acc [] := fun x _ h => by simp at h
theorem alle_end {H : Hp} : AllE Tryz.prog w0 S ops H [] kp := fun x h => by simp at h
theorem alle_no {H : Hp} {acc : List (Nat × Oper × Regs × Value)} {i : Nat} {o : Oper} {R : Regs} {v : Value} (hk : kp.contains i = false) (h : AllE Tryz.prog w0 S ops H acc kp) : AllE Tryz.prog w0 S ops H ((i, o, R, v) :: acc) kp := by
  intro x hx hc
  rcases List.mem_cons.1 hx with rfl | hx
  · rw [show kp.contains i = true from hc] at hk; cases hk
  · exact h x hx hc
theorem alle_yes {H : Hp} {acc : List (Nat × Oper × Regs × Value)} {i : Nat} {o : Oper} {R : Regs} {v : Value} (hq : ∀ E : Hp, qY Tryz.prog w0 S (H ++ E) ops o R v) (h : AllE Tryz.prog w0 S ops H acc kp) : AllE Tryz.prog w0 S ops H ((i, o, R, v) :: acc) kp := by
  intro x hx hc
  rcases List.mem_cons.1 hx with rfl | hx
  · exact hq
  · exact h x hx hc
theorem fr_al {d : Tmp} {e : TypeId} {c : List Value} [hz : ZV Tryz.prog e c] (hd : decide (d < n.n) = true) : FreshO Tryz.prog n w0 S ops ⟨some d, .alloc e, ty, pos, after, none⟩ R (fun g => PP g) (fun g => cl g c e) := fun L X h => o_al hd h
theorem fr_bx {d : Tmp} {e : TypeId} {x : Operand} {v : Value} {c : List Value} (hd : decide (d < n.n) = true) (hx : ev R x = v) (hc : v.cells.toList = c) : FreshO Tryz.prog n w0 S ops ⟨some d, .box e x, ty, pos, after, none⟩ R (fun g => PP g) (fun g => cl g c e) := fun L X h => o_bx hd hx hc h
end
theorem w_st1 {t : TypeId} {ops : Array Oper} {rest : List Oper} {x y : Operand} {g off : Nat} {c c' : List Value} {et : TypeId} {v : Value} {H' : Hp} [hz : SZ Tryz.prog t 1] (hx : ev R x = PP g off) (hy : ev R y = v) (ho : OneV v)
    (hu : Upd L (cl g c et) (cl g c' et) H') (hs : Sets c off [v] c') (h : Gl n w0 S X (.ops ops ks rest) R H') : Gl n w0 S X (.ops ops ks (⟨none, .store t x y, ty, pos, after, none⟩ :: rest)) R L := o_st1 hx hy ho hu hs h
theorem w_stN {t : TypeId} {ops : Array Oper} {rest : List Oper} {x y : Operand} {g off k : Nat} {c c' vs : List Value} {et : TypeId} {H' : Hp} [hz : SZ Tryz.prog t k] (hx : ev R x = PP g off) (hy : ev R y = A vs) (ho : OneL vs) (hl : LenL vs k)
    (hu : Upd L (cl g c et) (cl g c' et) H') (hs : Sets c off vs c') (h : Gl n w0 S X (.ops ops ks rest) R H') : Gl n w0 S X (.ops ops ks (⟨none, .store t x y, ty, pos, after, none⟩ :: rest)) R L := o_stN hx hy ho hl hu hs h
theorem w_stW {t : TypeId} {ops : Array Oper} {rest : List Oper} {x y : Operand} {g k : Nat} {c vs : List Value} {et : TypeId} {H' : Hp} [hz : SZ Tryz.prog t k] (hx : ev R x = PP g 0) (hy : ev R y = A vs) (ho : OneL vs) (hl : LenL vs k)
    (hu : Upd L (cl g c et) (cl g vs et) H') (hc : LenL c k) (h : Gl n w0 S X (.ops ops ks rest) R H') : Gl n w0 S X (.ops ops ks (⟨none, .store t x y, ty, pos, after, none⟩ :: rest)) R L := o_stW hx hy ho hl hu hc h
theorem w_al {ops : Array Oper} {rest : List Oper} {d : Tmp} {e : TypeId} {c : List Value} [hz : ZV Tryz.prog e c] (hd : decide (d < n.n) = true)
    (h : ∀ g, Gl n w0 S X (.ops ops ks rest) (upd R d (PP g)) (cl g c e :: L)) : Gl n w0 S X (.ops ops ks (⟨some d, .alloc e, ty, pos, after, none⟩ :: rest)) R L := o_al hd h
theorem w_bx {ops : Array Oper} {rest : List Oper} {d : Tmp} {e : TypeId} {x : Operand} {v : Value} {c : List Value} (hd : decide (d < n.n) = true) (hx : ev R x = v) (hc : v.cells.toList = c)
    (h : ∀ g, Gl n w0 S X (.ops ops ks rest) (upd R d (PP g)) (cl g c e :: L)) : Gl n w0 S X (.ops ops ks (⟨some d, .box e x, ty, pos, after, none⟩ :: rest)) R L := o_bx hd hx hc h
section
variable {ops : Array Oper} {rest : List Oper} {f : FuncId} {args : Array Operand} {at_ : Array TypeId} {vs : List Value} {L0 K : Hp} {x : Operand} {first cap : Array Value} {d : Option Tmp}
theorem w_clP {Q : Out → Hp → Prop} [hb : BD Tryz.prog f] (hc : CtP Tryz.prog f vs L0 Q) (hv : args.toList.map (ev R) = vs) (hd : (match d with | some d => decide (d < n.n) | none => true) = true) (hp : Pick L0 L K)
    (h : ∀ v M, Q (.ret v) M → Gl n w0 S X (.ops ops ks rest) (put R d v) (M ++ K)) (h' : ∀ v M, Q (.pan v) M → Gl n w0 S X (.ex (.panic [{ v := v, recovered := false }]) ks) R (M ++ K)) :
    Gl n w0 S X (.ops ops ks (⟨d, .call { callee := .value (.func f), args := args, argTypes := at_ }, ty, pos, after, none⟩ :: rest)) R L := cl_p hc hv hd hp h h'
theorem w_cl {Q : Value → Hp → Prop} [hb : BD Tryz.prog f] (hc : Ct Tryz.prog f vs L0 Q) (hv : args.toList.map (ev R) = vs) (hd : (match d with | some d => decide (d < n.n) | none => true) = true) (hp : Pick L0 L K)
    (h : ∀ v M, Q v M → Gl n w0 S X (.ops ops ks rest) (put R d v) (M ++ K)) : Gl n w0 S X (.ops ops ks (⟨d, .call { callee := .value (.func f), args := args, argTypes := at_ }, ty, pos, after, none⟩ :: rest)) R L := cl_ hc hv hd hp h
theorem w_cxP {Q : Out → Hp → Prop} [hb : BD Tryz.prog f] (hc : CtP Tryz.prog f vs L0 Q) (hx : ev R x = .func (.func f) first cap) (hv : (first ++ args.map (ev R) ++ cap).toList = vs) (hd : (match d with | some d => decide (d < n.n) | none => true) = true) (hp : Pick L0 L K)
    (h : ∀ v M, Q (.ret v) M → Gl n w0 S X (.ops ops ks rest) (put R d v) (M ++ K)) (h' : ∀ v M, Q (.pan v) M → Gl n w0 S X (.ex (.panic [{ v := v, recovered := false }]) ks) R (M ++ K)) :
    Gl n w0 S X (.ops ops ks (⟨d, .call { callee := .value x, args := args, argTypes := at_ }, ty, pos, after, none⟩ :: rest)) R L := cx_p hc hx hv hd hp h h'
theorem w_cx {Q : Value → Hp → Prop} [hb : BD Tryz.prog f] (hc : Ct Tryz.prog f vs L0 Q) (hx : ev R x = .func (.func f) first cap) (hv : (first ++ args.map (ev R) ++ cap).toList = vs) (hd : (match d with | some d => decide (d < n.n) | none => true) = true) (hp : Pick L0 L K)
    (h : ∀ v M, Q v M → Gl n w0 S X (.ops ops ks rest) (put R d v) (M ++ K)) : Gl n w0 S X (.ops ops ks (⟨d, .call { callee := .value x, args := args, argTypes := at_ }, ty, pos, after, none⟩ :: rest)) R L := cx_ hc hx hv hd hp h
theorem y_cl {v : Value} [hb : BD Tryz.prog f] (hc : CtV Tryz.prog f vs L0 v) (hv : args.toList.map (ev R) = vs) (hp : Pick L0 L K) :
    Yields Tryz.prog w0 S L ⟨d, .call { callee := .value (.func f), args := args, argTypes := at_ }, ty, pos, after, gd⟩ R v := cl_v hc hv hp
/-- a call that leaves all as it is -/
theorem w_cv {v : Value} {e : Nat} [hb : BD Tryz.prog f] (hc : CtV Tryz.prog f vs L0 v) (hv : args.toList.map (ev R) = vs) (hd : decide (e < n.n) = true) (hp : Pick L0 L K)
    (h : Gl n w0 S X (.ops ops ks rest) (upd R e v) L) : Gl n w0 S X (.ops ops ks (⟨some e, .call { callee := .value (.func f), args := args, argTypes := at_ }, ty, pos, after, none⟩ :: rest)) R L := w_y rfl rfl hd (cl_v hc hv hp) h
theorem w_cv0 {v : Value} [hb : BD Tryz.prog f] (hc : CtV Tryz.prog f vs L0 v) (hv : args.toList.map (ev R) = vs) (hp : Pick L0 L K)
    (h : Gl n w0 S X (.ops ops ks rest) R L) : Gl n w0 S X (.ops ops ks (⟨none, .call { callee := .value (.func f), args := args, argTypes := at_ }, ty, pos, after, none⟩ :: rest)) R L := w_y0 rfl rfl (cl_v hc hv hp) h
theorem w_panic {t : TypeId} {v : Value} (hx : ev R x = .iface t v) (h : Gl n w0 S X (.ex (.panic [{ v := .iface t v, recovered := false }]) ks) R L) : Gl n w0 S X (.ops ops ks (⟨d, .panic x, ty, pos, after, none⟩ :: rest)) R L := o_panic hx h
theorem w_defer {fv : Go.Fn} {vs : Array Value} (hx : ev R x = .func fv first cap) (hv : first ++ args.map (ev R) = vs)
    (h : Gl ⟨n.n, { target := .fn fv cap, args := vs } :: n.D⟩ w0 S X (.ops ops ks rest) R L) : Gl n w0 S X (.ops ops ks (⟨none, .defer { callee := .value x, args := args, argTypes := at_ }, ty, pos, after, none⟩ :: rest)) R L := o_defer hx hv h
end
theorem w_pan {ch : List PanicEntry} (k : Gl n w0 S X (.fin (.panic ch)) R L) : Gl n w0 S X (.ex (.panic ch) ks) R L := ex_panic k
end

section
variable {w0 : World} {B : Blks} {N : Nat} {fn : Func} {Q : Out → Hp → Prop} {R : Regs} {L L' : Hp}
theorem w_ct {f : FuncId} {c : Code} {args : List Value} (hf : Tryz.prog.funcs[f]? = some fn) (hb : fn.body = some c) (hn : fn.ntmps = N) (hl : Nat.ble args.length N = true)
    (h : ∀ w B, Gl ⟨N, []⟩ w (ids B) (XF Tryz.prog fn w B Q) (.run c []) (regs args) L) : CtP Tryz.prog f args L Q := fn_of hf hb hn hl h
theorem fin0 (hrs : fn.results.toList = []) (hQ : Q (.ret (T [])) L') (he : Ent L L') : Gl ⟨N, []⟩ w0 (ids B) (XF Tryz.prog fn w0 B Q) (.fin .ret) R L :=
  fin_ret (vs := []) (fun w hw => by rw [hrs]; exact trivial) hQ he
theorem fin1 {t : Nat} {v : Value} (hrs : fn.results.toList = [.tmp t]) (hv : R t = v) (hQ : Q (.ret v) L') (he : Ent L L') : Gl ⟨N, []⟩ w0 (ids B) (XF Tryz.prog fn w0 B Q) (.fin .ret) R L :=
  fin_ret (vs := [v]) (fun w hw => by rw [hrs]; exact ⟨hv.symm, trivial⟩) hQ he
theorem fin2 {t t' : Nat} {v v' : Value} (hrs : fn.results.toList = [.tmp t, .tmp t']) (hv : R t = v) (hv' : R t' = v') (hQ : Q (.ret (T [v, v'])) L') (he : Ent L L') :
    Gl ⟨N, []⟩ w0 (ids B) (XF Tryz.prog fn w0 B Q) (.fin .ret) R L := fin_ret (vs := [v, v']) (fun w hw => by rw [hrs]; exact ⟨hv.symm, hv'.symm, trivial⟩) hQ he
theorem fin3 {t t' t'' : Nat} {v v' v'' : Value} (hrs : fn.results.toList = [.tmp t, .tmp t', .tmp t'']) (hv : R t = v) (hv' : R t' = v') (hv'' : R t'' = v'') (hQ : Q (.ret (T [v, v', v''])) L') (he : Ent L L') :
    Gl ⟨N, []⟩ w0 (ids B) (XF Tryz.prog fn w0 B Q) (.fin .ret) R L := fin_ret (vs := [v, v', v'']) (fun w hw => by rw [hrs]; exact ⟨hv.symm, hv'.symm, hv''.symm, trivial⟩) hQ he
theorem finN (h : Gl ⟨N, []⟩ w0 (ids B) (XF Tryz.prog fn w0 B Q) (.fin .ret) R L) : Gl ⟨N, []⟩ w0 (ids B) (XF Tryz.prog fn w0 B Q) (.fin .normal) R L := h
theorem finP {v : Value} (hQ : Q (.pan v) L') (he : Ent L L') : Gl ⟨N, []⟩ w0 (ids B) (XF Tryz.prog fn w0 B Q) (.fin (.panic [{ v := v, recovered := false }])) R L := fin_panic hQ he
end
attribute [irreducible] Gl
attribute [local irreducible] Yields cl blk pur

end Go.Proofs.YtnilejkfbcnkkaaGreatDoor.V
end
section
set_option maxRecDepth 100000
namespace Go.Proofs.YtnilejkfbcnkkaaGreatDoor.V
open Go Go.RowKit

/-- How an element lies in memory. -/
structure Enc (α : Type) where
  enc : α → List Value
  sz : Nat
  len : ∀ x, (enc x).length = sz
  one : ∀ x, ∀ v ∈ enc x, v.oneCell' = true
  pos : 0 < sz
def eBlk : Enc Blk := ⟨bl, 64, bl_len, fun x v hv => bv_one x v hv, by omega⟩
def eInt : Enc Int := ⟨fun x => [.int .i64 x], 1, fun _ => rfl, by simp [Value.oneCell'], by omega⟩
def eBool : Enc Bool := ⟨fun x => [.bool x], 1, fun _ => rfl, by simp [Value.oneCell'], by omega⟩
def eU8 : Enc Int := ⟨fun x => [.int .u8 x], 1, fun _ => rfl, by simp [Value.oneCell'], by omega⟩
/-- one cell that is a value of one cell -/
def eOne : Enc {v : Value // v.oneCell' = true} := ⟨fun x => [x.1], 1, fun _ => rfl, fun x v hv => by simp at hv; subst hv; exact x.2, by omega⟩
section
variable {α : Type} (E : Enc α)
theorem Enc.flat_len (l : List α) : (l.flatMap E.enc).length = l.length * E.sz := by
  induction l with
  | nil => simp
  | cons x l ih => simp [ih, E.len, Nat.add_mul]; omega
theorem Enc.flat_one (l : List α) : ∀ v ∈ l.flatMap E.enc, v.oneCell' = true := by
  intro v hv
  obtain ⟨x, _, hx⟩ := List.mem_flatMap.1 hv
  exact E.one x v hx
theorem Enc.flat_at (l : List α) : ∀ (i : Nat) (h : i < l.length) (j : Nat) (v : Value), (E.enc l[i])[j]? = some v → (l.flatMap E.enc)[i * E.sz + j]? = some v := by
  induction l with
  | nil => intro i h; simp at h
  | cons x l ih =>
    intro i h j v hv
    have hj : j < E.sz := by
      have := (List.getElem?_eq_some_iff.1 hv).1
      rwa [E.len] at this
    rw [List.flatMap_cons]
    cases i with
    | zero =>
      simp only [Nat.zero_mul, Nat.zero_add]
      rw [List.getElem?_append_left (by rw [E.len]; exact hj)]
      exact hv
    | succ i =>
      rw [List.getElem?_append_right (by rw [E.len, Nat.add_mul]; omega), E.len]
      have := ih i (by simpa using h) j v (by simpa using hv)
      rw [← this]
      congr 1
      rw [Nat.add_mul]; omega
/-- A slice that can be read: its list lies at ⟨b, o⟩. -/
structure Sl (w : World) (l : List α) (a : Option Addr) (b o cap : Nat) : Prop where
  at_ : 0 < l.length → a = some ⟨b, o, none⟩
  rd : ∀ i (h : i < l.length), w.rangeAt b (o + i * E.sz) (E.enc l[i])
  le : l.length ≤ cap
  mx : cap ≤ maxLen
/-- A block that holds a slice's elements, and room behind them. -/
structure Row (l : List α) (c : Array Value) (cap : Nat) : Prop where
  size : c.size = cap * E.sz
  le : l.length ≤ cap
  mx : cap ≤ maxLen
  take : c.toList.take (l.length * E.sz) = l.flatMap E.enc
end
section
variable {α : Type} {E : Enc α} {P : Program}
theorem Row.at_ {l : List α} {c : Array Value} {cap : Nat} (h : Row E l c cap) (i : Nat) (hi : i < l.length) (j : Nat) (v : Value) (hv : (E.enc l[i])[j]? = some v) : c[i * E.sz + j]? = some v := by
  have h1 := E.flat_at l i hi j v hv
  rw [← h.take] at h1
  have hlt : i * E.sz + j < l.length * E.sz := by
    have h2 := (List.getElem?_eq_some_iff.1 hv).1
    rw [E.len] at h2
    have : (i + 1) * E.sz ≤ l.length * E.sz := Nat.mul_le_mul_right _ hi
    rw [Nat.add_mul] at this
    omega
  rw [List.getElem?_take_of_lt hlt] at h1
  simpa using h1
theorem Row.lit (l : List α) (hm : l.length ≤ maxLen) : Row E l (l.flatMap E.enc).toArray l.length :=
  ⟨by simpa using E.flat_len l, Nat.le_refl _, hm, by rw [List.take_of_length_le (by simp [E.flat_len])]⟩
/-- The first ones of a row. -/
theorem Row.first {l : List α} {c : Array Value} {cap : Nat} (h : Row E l c cap) (k : Nat) : Row E (l.take k) c cap := by
  refine ⟨h.size, by have := h.le; simp; omega, h.mx, ?_⟩
  have : c.toList.take ((l.take k).length * E.sz) = (c.toList.take (l.length * E.sz)).take ((l.take k).length * E.sz) := by
    rw [List.take_take]
    congr 1
    have : (l.take k).length ≤ l.length := by simp; omega
    have := Nat.mul_le_mul_right E.sz this
    omega
  rw [this, h.take, ← List.take_append_drop k l]
  generalize hx : l.take k = x
  have hx' : (x ++ l.drop k).take k = x := by rw [← hx, List.take_append_drop]
  rw [hx', List.flatMap_append]
  exact List.take_left' (by rw [E.flat_len])
theorem Row.set {l : List α} {c : Array Value} {cap : Nat} (h : Row E l c cap) (i : Nat) (hi : i < l.length) (x : α) {c' : Array Value}
    (hc : c.toList.take (i * E.sz) ++ E.enc x ++ c.toList.drop (i * E.sz + E.sz) = c'.toList) : Row E (l.set i x) c' cap := by
  have hl := h.size
  have h1 : (i + 1) * E.sz ≤ l.length * E.sz := Nat.mul_le_mul_right _ hi
  have h2 : l.length * E.sz ≤ cap * E.sz := Nat.mul_le_mul_right _ h.le
  rw [Nat.add_mul, Nat.one_mul] at h1
  have hcl : c.toList.length = cap * E.sz := by simpa using hl
  refine ⟨?_, by simpa using h.le, h.mx, ?_⟩
  · rw [← Array.length_toList, ← hc]
    simp only [List.length_append, List.length_take, List.length_drop, E.len, hcl]
    omega
  · rw [← hc, List.length_set]
    have e1 : l.set i x = l.take i ++ x :: l.drop (i + 1) := List.set_eq_take_append_cons_drop.trans (by rw [if_pos hi])
    rw [e1, List.flatMap_append, List.flatMap_cons]
    have ft : (l.take i).flatMap E.enc = c.toList.take (i * E.sz) := by
      have := (h.first i).take
      rw [← this]
      congr 1
      simp; rw [Nat.min_eq_left (by omega)]
    have fd : (l.drop (i + 1)).flatMap E.enc = (c.toList.take (l.length * E.sz)).drop ((i + 1) * E.sz) := by
      rw [h.take]
      have e2 : l.flatMap E.enc = (l.take (i + 1)).flatMap E.enc ++ (l.drop (i + 1)).flatMap E.enc := by rw [← List.flatMap_append, List.take_append_drop]
      rw [e2, List.drop_left' (by rw [E.flat_len]; simp; rw [Nat.min_eq_left (by omega)])]
    have hAB : (c.toList.take (i * E.sz) ++ E.enc x).length = i * E.sz + E.sz := by
      rw [List.length_append, List.length_take, hcl, E.len]; omega
    rw [ft, fd, List.take_append, List.take_of_length_le (by rw [hAB]; exact h1), hAB, List.drop_take, List.append_assoc]
    have : (i + 1) * E.sz = i * E.sz + E.sz := by rw [Nat.add_mul, Nat.one_mul]
    rw [this]
/-- What a program's rows say of a type of slices. -/
structure SlType (P : Program) (t e : TypeId) (E : Enc α) (bytes : Nat) : Prop where
  ht : P.underlying t = some (.slice e)
  hi : ∃ i z, P.info? e = some i ∧ i.zero = some z ∧ i.size = E.sz ∧ i.bytes = bytes ∧ z.cells.size = E.sz
theorem SlType.mk' {t e : TypeId} {bytes : Nat} (z : Value) (ht : P.underlying t = some (.slice e)) (h : (P.info? e).map (fun i => (i.zero, i.size, i.bytes)) = some (some z, E.sz, bytes)) (hz : z.cells.size = E.sz) : SlType P t e E bytes := by
  refine ⟨ht, ?_⟩
  cases hi : P.info? e with
  | none => simp [hi] at h
  | some i => simp [hi] at h; exact ⟨i, z, rfl, h.1, h.2.1, h.2.2, hz⟩
theorem sl_cells {w : World} {l : List α} {b o cap : Nat} {a : Option Addr} (h : Sl E w l a b o cap) : ∀ j v, (l.flatMap E.enc)[j]? = some v → w.cell? ((⟨b, o, none⟩ : Addr).add j) = some v := by
  intro j v hj
  rw [Addr.add_mid]
  have hlt : j < l.length * E.sz := by have := (List.getElem?_eq_some_iff.1 hj).1; rwa [E.flat_len] at this
  have hd : j / E.sz < l.length := (Nat.div_lt_iff_lt_mul E.pos).2 hlt
  have hm := Nat.div_add_mod j E.sz
  have hr := Nat.mod_lt j E.pos
  have hv : (E.enc l[j / E.sz])[j % E.sz]? = some ((E.enc l[j / E.sz])[j % E.sz]'(by rw [E.len]; exact hr)) := List.getElem?_eq_getElem _
  have h1 := E.flat_at l _ hd _ _ hv
  have e1 : j / E.sz * E.sz + j % E.sz = j := by rw [Nat.mul_comm]; exact hm
  rw [e1, hj] at h1
  have h2 := h.rd _ hd _ _ hv
  rw [← Option.some.inj h1] at h2
  rw [← h2, Nat.add_assoc, e1]
theorem row_made (z : Array Value) (xs : List α) (cap : Nat) (h : xs.length ≤ cap) (hm : cap ≤ maxLen) (hz : z.size = E.sz) : Row E xs ((xs.flatMap E.enc).toArray ++ Builtin.zeroCells z (cap - xs.length)) cap := by
  refine ⟨?_, h, hm, ?_⟩
  · simp only [Array.size_append, size_zeroCells, hz, List.size_toArray, E.flat_len, ← Nat.add_mul]
    congr 1
    omega
  · simp only [Array.toList_append]
    exact List.take_left' (by rw [E.flat_len])
theorem fill_cells (sz : Nat) : ∀ (vs : List Value) (k : Nat) (done zs : List Value), (∀ v ∈ vs, v.cells.size = sz) → done.length = k * sz → zs.length = vs.length * sz →
    Instr.fill (fun i => some (i * sz, sz)) (done ++ zs).toArray ((vs.zipIdx k).map fun p => (p.2, p.1)) = some (done ++ vs.flatMap fun v => v.cells.toList).toArray
  | [], k, done, zs, _, _, hz => by
    have : zs = [] := List.eq_nil_of_length_eq_zero (by simpa using hz)
    subst this
    simp [Instr.fill]
  | v :: vs, k, done, zs, hv, hd, hz => by
    have hvs := hv v (by simp)
    simp only [List.zipIdx_cons, List.map_cons, Instr.fill]
    have hlen : zs.length = sz + vs.length * sz := by rw [hz]; simp [Nat.add_mul]; omega
    rw [if_neg (by simp [hvs, hd, hlen])]
    have key : v.cells.zipIdx.foldl (fun cs (c, j) => cs.setIfInBounds (k * sz + j) c) (done ++ zs).toArray = ((done ++ v.cells.toList) ++ zs.drop sz).toArray := by
      have gen : ∀ (us : List Value) (j : Nat) (pre suf : List Value), pre.length = k * sz + j → us.length ≤ suf.length →
          (us.zipIdx j).foldl (fun (cs : Array Value) (p : Value × Nat) => cs.setIfInBounds (k * sz + p.2) p.1) (pre ++ suf).toArray = (pre ++ us ++ suf.drop us.length).toArray := by
        intro us
        induction us with
        | nil => intro j pre suf _ _; simp
        | cons u us ih =>
          intro j pre suf hp hl
          cases suf with
          | nil => simp at hl
          | cons s suf =>
            simp only [List.zipIdx_cons, List.foldl_cons]
            have e1 : (pre ++ s :: suf).toArray.setIfInBounds (k * sz + j) u = ((pre ++ [u]) ++ suf).toArray := by
              rw [← hp]
              simp [List.setIfInBounds_toArray, List.set_append_right]
            rw [e1, ih (j + 1) (pre ++ [u]) suf (by simp; omega) (by simpa using hl)]
            simp
      have := gen v.cells.toList 0 done zs (by omega) (by simp [hvs, hlen])
      rw [← Array.foldl_toList, Array.toList_zipIdx]
      rw [this]
      simp [hvs]
    rw [key]
    have := fill_cells sz vs (k + 1) (done ++ v.cells.toList) (zs.drop sz) (fun u hu => hv u (by simp [hu])) (by simp [hvs, hd, Nat.add_mul]) (by simp [hlen])
    rw [this]
    simp
end

section
variable {α : Type}
/-- a row in the block g: its list, the room it has -/
def rowc (E : Enc α) (e : TypeId) (l : List α) (g cap : Nat) : Chunk := ⟨8, fun B => ∃ c, B = [(g, .cells c e (0, 0))] ∧ Row E l c cap⟩
/-- what a slice stands on: nothing, or a row -/
def sv (E : Enc α) (e : TypeId) (l : List α) (a : Option Addr) (cap : Nat) : Chunk := ⟨7, fun B => (a = none ∧ l = [] ∧ cap = 0 ∧ B = []) ∨ ∃ g c, a = some ⟨g, 0, none⟩ ∧ B = [(g, .cells c e (0, 0))] ∧ Row E l c cap⟩
variable {E : Enc α} {e : TypeId} {l l0 : List α} {g cap : Nat} {a : Option Addr} {w0 w : World} {S : Nat → Prop} {L K : Hp} {P : Program} {n : Fp} {X : Post} {R : Regs} {ks : List Fr} {k : Kd}
variable {dst : Option Tmp} {ty : TypeId} {pos : String} {after : Array Go.Edge} {gd : Option (Nat × Bool)}

theorem sv_row : Folds [rowc E e l g cap] (sv E e l (some ⟨g, 0, none⟩) cap) := by
  rintro B ⟨B1, B2, rfl, ⟨c, rfl, hr⟩, rfl⟩
  exact .inr ⟨g, c, rfl, by simp, hr⟩
theorem sv_nil : Folds [] (sv E e ([] : List α) none 0) := by rintro B rfl; exact .inl ⟨rfl, rfl, rfl, rfl⟩
theorem ent_sv (h : Ent L (rowc E e l g cap :: K)) : Ent L (sv E e l (some ⟨g, 0, none⟩) cap :: K) := Ent.fold sv_row h
theorem ent_svn (h : Ent L K) : Ent L (sv E e ([] : List α) none 0 :: K) := Ent.fold sv_nil h
theorem row_cl (c : List Value) (hr : Row E l c.toArray cap) : Folds [cl g c e] (rowc E e l g cap) := by
  rintro B ⟨B1, B2, rfl, h1, rfl⟩
  unfold cl at h1
  exact ⟨_, by rw [h1]; simp, hr⟩
theorem St.rowc_open (hw : St w0 S L w) (hs : Sel (rowc E e l g cap) L K) : ∃ c : List Value, Row E l c.toArray cap ∧ St w0 S (V.cl g c e :: K) w := by
  obtain ⟨B, ⟨B1, B2, rfl, ⟨c, rfl, hr⟩, h2⟩, hw⟩ := hw.ent (.perm hs)
  refine ⟨c.toList, by simpa using hr, _, ⟨_, B2, rfl, ?_, h2⟩, hw⟩
  unfold V.cl; simp
theorem St.rowc (hw : St w0 S L w) (hm : V.rowc E e l g cap ∈ L) : ∃ c, w.heap[g]? = some (.cells c e (0, 0)) ∧ Row E l c cap := by
  obtain ⟨B, hs, hw⟩ := hw
  obtain ⟨B1, ⟨c, rfl, hr⟩, h2⟩ := Sat.mem hm hs
  exact ⟨c, hw.at_ (g, _) (h2 _ (by simp)), hr⟩
theorem row_Sl {c : Array Value} (hg : w.heap[g]? = some (.cells c e (0, 0))) (h : Row E l c cap) : Sl E w l (some ⟨g, 0, none⟩) g 0 cap :=
  ⟨fun _ => rfl, fun i hi j v hj => by
    have := h.at_ i hi j v hj
    simp only [World.cell?, hg, Nat.zero_add]
    exact this, h.le, h.mx⟩
/-- A slice that can be read, by a chunk. -/
def Rds (L : Hp) (E : Enc α) (l : List α) (a : Option Addr) (cap : Nat) : Prop := ∀ w0 S w, St w0 S L w → ∃ b o, Sl E w l a b o cap
theorem rd_row (hm : rowc E e l g cap ∈ L) : Rds L E l (some ⟨g, 0, none⟩) cap := fun w0 S w hw => by
  obtain ⟨c, hg, hr⟩ := hw.rowc hm; exact ⟨g, 0, row_Sl hg hr⟩
theorem rd_sv (hm : sv E e l a cap ∈ L) : Rds L E l a cap := fun w0 S w hw => by
  obtain ⟨B, hs, hw⟩ := hw
  obtain ⟨B1, h1, h2⟩ := Sat.mem hm hs
  rcases h1 with ⟨rfl, rfl, rfl, rfl⟩ | ⟨g, c, rfl, rfl, hr⟩
  · exact ⟨0, 0, fun h => by simp at h, fun i h => by simp at h, Nat.le_refl _, Nat.zero_le _⟩
  · exact ⟨g, 0, row_Sl (hw.at_ (g, .cells c e (0, 0)) (h2 _ (by simp))) hr⟩
theorem sv_len (hm : sv E e l a cap ∈ L) (hw : St w0 S L w) : l.length ≤ cap ∧ cap ≤ maxLen := by
  obtain ⟨b, o, h⟩ := rd_sv hm _ _ _ hw; exact ⟨h.le, h.mx⟩

/-- a slice's chunk, taken apart -/
theorem g_sv (hk : k.plain = true) (hs : Sel (sv E e l a cap) L K) (h0 : a = none → l = [] → cap = 0 → Gl n w0 S X k R K) (h1 : ∀ g, a = some ⟨g, 0, none⟩ → Gl n w0 S X k R (rowc E e l g cap :: K)) : Gl n w0 S X k R L := by
  refine g_open (γ := PUnit ⊕ Nat) (M := fun x => match x with | .inl _ => [pur (a = none ∧ l = [] ∧ cap = 0)] | .inr g => [pur (a = some ⟨g, 0, none⟩), rowc E e l g cap]) hk ?_ hs ?_
  · rintro B (⟨ha, hl, hc, rfl⟩ | ⟨g, c, ha, rfl, hr⟩)
    · refine ⟨.inl ⟨⟩, [], [], rfl, ?_, rfl⟩
      unfold pur; exact ⟨⟨ha, hl, hc⟩, rfl⟩
    · refine ⟨.inr g, [], _, rfl, ?_, [_], [], rfl, ⟨c, rfl, hr⟩, rfl⟩
      unfold pur; exact ⟨ha, rfl⟩
  · rintro (x | g)
    · exact g_pure hk Sel.hd fun h => h0 h.1 h.2.1 h.2.2
    · exact g_pure hk Sel.hd fun h => h1 g h
theorem g_svp (hk : k.plain = true) (hs : Sel (sv E e l a cap) L K) (hp : 0 < l.length) (h1 : ∀ g, a = some ⟨g, 0, none⟩ → Gl n w0 S X k R (rowc E e l g cap :: K)) : Gl n w0 S X k R L :=
  g_sv hk hs (fun _ h => by subst h; simp at hp) h1
/-- how long a row is -/
theorem g_len (hk : k.plain = true) (hm : rowc E e l g cap ∈ L) (h : l.length ≤ cap → cap ≤ maxLen → Gl n w0 S X k R L) : Gl n w0 S X k R L := by
  have key : ∀ Y : Act → World → Prop, (l.length ≤ cap → cap ≤ maxLen → G n w0 S Y R L) → G n w0 S Y R L := fun Y h a w ha hw => by
    obtain ⟨c, _, hr⟩ := hw.rowc hm; exact h hr.le hr.mx a w ha hw
  cases k <;> first | (cases hk; done) | (unfold Gl at *; exact key _ h)

/-! ### Elements -/
theorem y_ixR {x i : Operand} {t e : TypeId} {len cap sz : Nat} {g : Nat} {k : IntKind} {q : Int} [hu : UT P t (.slice e)] [hs : SZ P e sz] (hx : ev R x = .slice (some ⟨g, 0, none⟩) len cap) (hi : ev R i = .int k q) (h0 : 0 ≤ q) (hl : q < len) :
    Yields P w0 S L ⟨dst, .indexAddr t x i, ty, pos, after, gd⟩ R (PP g (q.toNat * sz)) := y_ixSl hx hi hu.h hs.h h0 hl (Nat.zero_add _)
theorem rd_el {i : Nat} {x : α} (hm : rowc E e l g cap ∈ L) (hx : l[i]? = some x) : Rd w0 S L g (i * E.sz) (E.enc x) := fun w hw => by
  obtain ⟨c, hg, hr⟩ := hw.rowc hm
  obtain ⟨hi, rfl⟩ := List.getElem?_eq_some_iff.1 hx
  have := (row_Sl hg hr).rd i hi
  rwa [Nat.zero_add] at this
/-- an element that is a row of cells -/
theorem y_ldE {y : Operand} {t : TypeId} {off i : Nat} {x : α} [hu : RW P t] (hs : SZ P t E.sz) (hx : ev R y = PP g off) (ho : off = i * E.sz) (hm : rowc E e l g cap ∈ L) (hv : l[i]? = some x) : Yields P w0 S L ⟨dst, .load t y, ty, pos, after, gd⟩ R (A (E.enc x)) :=
  let ⟨_, h1, h2⟩ := hu.h; by subst ho; exact y_loadN hx h1 h2 (by rw [hs.h, E.len]) (rd_el hm hv)
/-- an element of one cell, or a cell of an element -/
theorem y_ldE1 {y : Operand} {t : TypeId} {off i j : Nat} {x : α} {v : Value} [hu : SC P t] (hx : ev R y = PP g off) (hm : rowc E e l g cap ∈ L) (hv : l[i]? = some x) (hj : (E.enc x)[j]? = some v) (ho : off = i * E.sz + j) : Yields P w0 S L ⟨dst, .load t y, ty, pos, after, gd⟩ R v :=
  let ⟨_, h1, h2⟩ := hu.h; by subst ho; exact y_load hx h1 h2 (Rd.sub1 (rd_el hm hv) rfl hj)
/-- cells of an element -/
theorem y_ldES {y : Operand} {t : TypeId} {off i j sz : Nat} {x : α} {vs : List Value} [hu : RW P t] [hs : SZ P t sz] (hx : ev R y = PP g off) (hm : rowc E e l g cap ∈ L) (hv : l[i]? = some x) (hj : Sg (E.enc x) j sz vs) (ho : off = i * E.sz + j) : Yields P w0 S L ⟨dst, .load t y, ty, pos, after, gd⟩ R (A vs) :=
  let ⟨_, h1, h2⟩ := hu.h; by subst ho; exact y_loadN hx h1 h2 (by rw [hs.h, hj.1]) (Rd.sub (rd_el hm hv) rfl hj.2)
theorem Row.put {c c' : List Value} {i : Nat} {x : α} (h : Row E l c.toArray cap) (hi : i < l.length) (hs : Sets c (i * E.sz) (E.enc x) c') : Row E (l.set i x) c'.toArray cap := by
  obtain ⟨h1, h2⟩ := hs
  rw [E.len] at h1 h2
  refine h.set i hi x ?_
  simpa using h2
theorem w_stE {t : TypeId} {ops : Array Oper} {rest : List Oper} {y z : Operand} {off i : Nat} {x : α} {v : Value} {L' : Hp} (hz : SZ Tryz.prog t E.sz) (hy : ev R y = PP g off) (hv : ev R z = v) (hvc : v.cells.toList = E.enc x) (hi : i < l.length) (ho : off = i * E.sz)
    (hu : Upd L (rowc E e l g cap) (rowc E e (l.set i x) g cap) L') (h : Gl n w0 S X (.ops ops ks rest) R L') : Gl n w0 S X (.ops ops ks (⟨none, .store t y z, ty, pos, after, none⟩ :: rest)) R L := by
  subst ho
  unfold Gl at *
  obtain ⟨K, p, q⟩ := hu
  intro a w ha hw
  obtain ⟨c, hr, hw⟩ := hw.rowc_open p
  have hcl : i * E.sz + E.sz ≤ c.length := by
    have h1 := hr.size
    have h2 := hr.le
    simp at h1
    rw [h1]
    calc i * E.sz + E.sz = (i + 1) * E.sz := by rw [Nat.add_mul]; simp
      _ ≤ cap * E.sz := Nat.mul_le_mul_right _ (by omega)
  have hset : Sets c (i * E.sz) (E.enc x) (c.take (i * E.sz) ++ E.enc x ++ c.drop (i * E.sz + (E.enc x).length)) := ⟨by rw [E.len]; exact hcl, rfl⟩
  have hrow := hr.put hi hset
  refine o_st (k := E.sz) (hz := hz) (H' := cl g (c.take (i * E.sz) ++ E.enc x ++ c.drop (i * E.sz + (E.enc x).length)) e :: K) hy hv hvc (E.len x) (E.one x) Upd.hd hset ?_ a w ha hw
  exact G.ent ((Ent.fold (M := [cl g _ e]) (row_cl _ hrow) (Ent.refl _)).trans (.perm q)) h
/-- a cell of an element -/
theorem w_stE1 {t : TypeId} {ops : Array Oper} {rest : List Oper} {y z : Operand} {off i j : Nat} {x x' : α} {v : Value} {L' : Hp} [hz : SZ Tryz.prog t 1] (hy : ev R y = PP g off) (hv : ev R z = v) (h1 : OneV v) (hx : l[i]? = some x) (hj : Sets (E.enc x) j [v] (E.enc x')) (ho : off = i * E.sz + j)
    (hu : Upd L (rowc E e l g cap) (rowc E e (l.set i x') g cap) L') (h : Gl n w0 S X (.ops ops ks rest) R L') : Gl n w0 S X (.ops ops ks (⟨none, .store t y z, ty, pos, after, none⟩ :: rest)) R L := by
  subst ho
  unfold Gl at *
  obtain ⟨K, p, q⟩ := hu
  obtain ⟨hi, rfl⟩ := List.getElem?_eq_some_iff.1 hx
  intro a w ha hw
  obtain ⟨c, hr, hw⟩ := hw.rowc_open p
  have hjl : j + 1 ≤ E.sz := by have := hj.1; rw [E.len] at this; simpa using this
  have hcl : i * E.sz + E.sz ≤ c.length := by
    have h1 := hr.size
    have h2 := hr.le
    simp at h1
    rw [h1]
    calc i * E.sz + E.sz = (i + 1) * E.sz := by rw [Nat.add_mul]; simp
      _ ≤ cap * E.sz := Nat.mul_le_mul_right _ (by omega)
  have hset : Sets c (i * E.sz) (E.enc x') (c.take (i * E.sz) ++ E.enc x' ++ c.drop (i * E.sz + (E.enc x').length)) := ⟨by rw [E.len]; exact hcl, rfl⟩
  have hrow := hr.put hi hset
  have hseg : ∀ q, q < E.sz → c[i * E.sz + q]? = (E.enc l[i])[q]? := by
    intro q hq
    have hv : (E.enc l[i])[q]? = some ((E.enc l[i])[q]'(by rw [E.len]; exact hq)) := List.getElem?_eq_getElem _
    have := hr.at_ i hi q _ hv
    rw [hv]; simpa using this
  have hset1 : Sets c (i * E.sz + j) [v] (c.take (i * E.sz) ++ E.enc x' ++ c.drop (i * E.sz + (E.enc x').length)) := by
    refine ⟨by simp; omega, ?_⟩
    obtain ⟨_, hj2⟩ := hj
    rw [← hj2]
    simp only [List.length_cons, List.length_nil, List.length_append, List.length_take, List.length_drop, E.len]
    rw [show min j E.sz + (0 + 1) + (E.sz - (j + (0 + 1))) = E.sz by omega]
    refine List.ext_getElem? fun q => ?_
    simp only [List.getElem?_append, List.length_append, List.length_take, List.length_drop, List.getElem?_take, List.getElem?_drop, List.length_cons, List.length_nil, E.len]
    by_cases c1 : q < i * E.sz
    · simp only [show min (i * E.sz + j) c.length = i * E.sz + j by omega, show min (i * E.sz) c.length = i * E.sz by omega]
      rw [if_pos (by omega), if_pos (by omega), if_pos (by omega), if_pos (by omega), if_pos (by omega)]
      rw [if_pos (by omega)]
    · simp only [show min (i * E.sz + j) c.length = i * E.sz + j by omega, show min (i * E.sz) c.length = i * E.sz by omega]
      by_cases c2 : q < i * E.sz + E.sz
      · have hq := hseg (q - i * E.sz) (by omega)
        rw [show i * E.sz + (q - i * E.sz) = q by omega] at hq
        by_cases c3 : q < i * E.sz + j
        · rw [if_pos (by omega), if_pos (by omega), if_pos (by omega), if_pos (by omega), if_neg (by omega), if_pos (by omega), if_pos (by omega), if_pos (by omega)]
          exact hq
        · by_cases c4 : q = i * E.sz + j
          · subst c4
            rw [if_pos (by omega), if_neg (by omega), if_pos (by omega), if_neg (by omega), if_pos (by omega), if_neg (by omega)]
            congr 1; omega
          · rw [if_neg (by omega), if_pos (by omega), if_neg (by omega), if_neg (by omega)]
            rw [show i * E.sz + j + (0 + 1) + (q - (i * E.sz + j + (0 + 1))) = q by omega, hq]
            congr 1; omega
      · rw [if_neg (by omega), if_neg (by omega)]
        congr 1; omega
  refine o_st (k := 1) (H' := cl g (c.take (i * E.sz) ++ E.enc x' ++ c.drop (i * E.sz + (E.enc x').length)) e :: K) hy hv (vs := [v]) (by rw [h1.c]) rfl (by intro u hu; simp at hu; subst hu; exact h1.h) Upd.hd hset1 ?_ a w ha hw
  exact G.ent ((Ent.fold (M := [cl g _ e]) (row_cl _ hrow) (Ent.refl _)).trans (.perm q)) h
end
end Go.Proofs.YtnilejkfbcnkkaaGreatDoor.V
end
section
set_option maxRecDepth 100000
namespace Go.Proofs.YtnilejkfbcnkkaaGreatDoor.V
open Go Go.RowKit

/-- what the program's rows say of a type of slices: its elements' type, their cells, their bytes -/
class SLT (t : TypeId) (e sz bytes : outParam Nat) : Prop where
  ht : Tryz.prog.underlying t = some (.slice e)
  hi : ∃ z, (Tryz.prog.info? e).map (fun i => (i.zero, i.size, i.bytes)) = some (some z, sz, bytes) ∧ z.cells.size = sz
theorem SLT.st {t e sz bytes : Nat} (h : SLT t e sz bytes) {α : Type} {E : Enc α} (he : sz = E.sz) : SlType Tryz.prog t e E bytes := by
  obtain ⟨z, h1, h2⟩ := h.hi
  subst he
  exact SlType.mk' z h.ht h1 h2

section
variable {α : Type} {E : Enc α} {e : TypeId} {l l0 : List α} {g cap : Nat} {w0 w : World} {S : Nat → Prop} {L K : Hp} {n : Fp} {X : Post} {R : Regs} {ks : List Fr}
variable {dst : Option Tmp} {ty : TypeId} {pos : String} {after : Array Go.Edge} {gd : Option (Nat × Bool)} {ops : Array Oper} {rest : List Oper} {d : Tmp}

theorem Rds.ent {M : Hp} {b : Option Addr} (h : Rds M E l b cap) (he : Ent L M) : Rds L E l b cap := fun w0 S w hw => h w0 S w (hw.ent he)
theorem St.sv_open {a : Option Addr} (hw : St w0 S L w) (hs : Sel (sv E e l a cap) L K) : (a = none ∧ l = [] ∧ cap = 0 ∧ St w0 S K w) ∨ ∃ g, a = some ⟨g, 0, none⟩ ∧ ∃ c : List Value, Row E l c.toArray cap ∧ St w0 S (V.cl g c e :: K) w := by
  obtain ⟨B, ⟨B1, B2, rfl, h1, h2⟩, hw⟩ := hw.ent (.perm hs)
  rcases h1 with ⟨rfl, rfl, rfl, rfl⟩ | ⟨g, c, rfl, rfl, hr⟩
  · exact .inl ⟨rfl, rfl, rfl, B2, h2, hw⟩
  · refine .inr ⟨g, rfl, c.toList, by simpa using hr, _, ⟨_, B2, rfl, ?_, h2⟩, hw⟩
    unfold V.cl; simp
theorem St.toSv {c : List Value} {g : Nat} (hw : St w0 S (V.cl g c e :: K) w) (hr : Row E l c.toArray cap) : St w0 S (sv E e l (some ⟨g, 0, none⟩) cap :: K) w :=
  hw.ent ((Ent.fold (M := [V.cl g c e]) (row_cl c hr) (.refl _)).trans (ent_sv (.refl _)))

/-- append -/
theorem w_app {s x : Operand} {t bytes sz : Nat} {r : TypeId} {a0 b : Option Addr} {n0 m cap0 capx : Nat} [T : SLT t e sz bytes] (he : sz = E.sz) (hd : decide (d < n.n) = true) (hs : ev R s = .slice a0 n0 cap0) (hn0 : n0 = l0.length) (hx : ev R x = .slice b m capx) (hm : m = l.length)
    (hsel : Sel (sv E e l0 a0 cap0) L K) (hr : Rds K E l b capx) (hbytes : (l0.length + l.length) * bytes ≤ 140737488355328) (hmx : l0.length + l.length ≤ maxLen)
    (h : ∀ a cap', Gl n w0 S X (.ops ops ks rest) (upd R d (.slice a (l0 ++ l).length cap')) (sv E e (l0 ++ l) a cap' :: K)) :
    Gl n w0 S X (.ops ops ks (⟨some d, .call { callee := .builtin .append, args := #[s, x], argTypes := #[t, t] }, r, pos, after, none⟩ :: rest)) R L := by
  have T := T.st he
  subst hm hn0
  unfold Gl at *
  refine o_op rfl hd fun w hw => ?_
  obtain ⟨i, z, hi, hz, hsz, hby, hzs⟩ := T.hi
  have hwK : St w0 S K w := hw.ent ((Ent.perm hsel).trans (fun B hB => by
    obtain ⟨B1, B2, rfl, _, h2⟩ := hB
    exact ⟨B2, B1, List.perm_append_comm, h2⟩))
  obtain ⟨bx, ox, h1⟩ := hr _ _ _ hwK
  have hfl : (l0 ++ l).flatMap E.enc = l0.flatMap E.enc ++ l.flatMap E.enc := List.flatMap_append
  rcases hw.sv_open hsel with ⟨rfl, rfl, rfl, hw⟩ | ⟨g, rfl, c0, hrow, hw⟩
  · -- onto nil
    by_cases h0 : l.length = 0
    · have hln : l = [] := List.eq_nil_of_length_eq_zero h0
      subst hln
      have hc : (Builtin.firstCells E.sz 0 (.slice b 0 capx)).run Tryz.prog w = .ok #[] w := by
        cases b <;> simp [Builtin.firstCells, loadCells, loadCellsFrom]
      simp only [List.length_nil] at hs hx
      refine ⟨.slice none 0 0, w, sv E e ([] : List α) none 0 :: K, ?_, hw.ent (ent_svn (.refl _)), h none 0⟩
      simp [execOp, resolve, hs, hx, invoke, builtin, Builtin.append_, run_underlying T.ht, sizeOf, typeInfo, hi, Builtin.lenOf, hsz, hc]
    · have hpos : 0 < l.length := by omega
      have ha := h1.at_ hpos
      subst ha
      have hr := run_append_nil (P := Tryz.prog) w t r e i z T.ht hi hz ⟨bx, ox, none⟩ l.length capx (l.flatMap E.enc) (by rw [E.flat_len, hsz]) (sl_cells h1) hpos (by have := h1.le; have := h1.mx; simp only [maxLen] at this; omega) (by rw [hby]; simp only [List.length_nil, Nat.zero_add] at hbytes; omega)
      have hge := grownCap_ge w l.length 0 e
      have hcm : grownCap w l.length 0 e ≤ maxLen := grownCap_le_maxLen w l.length 0 e (by have := h1.le; have := h1.mx; omega)
      have hrow := row_made (E := E) z.cells l _ hge hcm hzs
      generalize hc' : (l.flatMap E.enc).toArray ++ Builtin.zeroCells z.cells (grownCap w l.length 0 e - l.length) = c' at hr hrow
      have hal := St.allocC hw.drew c'.toList e
      simp only [List.nil_append] at h ⊢
      simp only [List.length_nil] at hs
      refine ⟨.slice (some ⟨w.heap.size, 0, none⟩) l.length (grownCap w l.length 0 e), _, _, ?_, St.toSv hal (by simpa using hrow), h _ _⟩
      simp [execOp, resolve, hs, hx, invoke, builtin, hr]
  · by_cases h0 : l.length = 0
    · have hln : l = [] := List.eq_nil_of_length_eq_zero h0
      subst hln
      have hc : (Builtin.firstCells E.sz 0 (.slice b 0 capx)).run Tryz.prog w = .ok #[] w := by
        cases b <;> simp [Builtin.firstCells, loadCells, loadCellsFrom]
      have hle := hrow.le
      have h := h (some ⟨g, 0, none⟩) cap0
      rw [List.append_nil] at h
      refine ⟨.slice (some ⟨g, 0, none⟩) l0.length cap0, w, _, ?_, hw.toSv hrow, h⟩
      simp only [List.length_nil] at hx
      simp [execOp, resolve, hs, hx, invoke, builtin, Builtin.append_, run_underlying T.ht, sizeOf, typeInfo, hi, Builtin.lenOf, hsz, hc, hle, storeCells]
    · have ha := h1.at_ (by omega)
      subst ha
      have hg := hw.cl (List.mem_cons_self ..)
      have hcl : c0.length = cap0 * E.sz := by have := hrow.size; simpa using this
      by_cases hroom : l0.length + l.length ≤ cap0
      · have h2 : (l0.length + l.length) * E.sz ≤ cap0 * E.sz := Nat.mul_le_mul_right _ hroom
        rw [Nat.add_mul] at h2
        have hr := run_append_room (P := Tryz.prog) w t r e i T.ht hi g l0.length cap0 c0.toArray hg ⟨bx, ox, none⟩ l.length capx (l.flatMap E.enc) (by rw [E.flat_len, hsz]) (sl_cells h1) (E.flat_one l) hroom
          (by rw [hsz, E.flat_len]; simp only [List.size_toArray, hcl]; exact h2)
        rw [hsz, E.flat_len] at hr
        have hrow' : Row E (l0 ++ l) (c0.take (l0.length * E.sz) ++ l.flatMap E.enc ++ c0.drop (l0.length * E.sz + l.length * E.sz)).toArray cap0 := by
          refine ⟨?_, by simpa using hroom, hrow.mx, ?_⟩
          · simp only [List.size_toArray, List.length_append, List.length_take, List.length_drop, E.flat_len, hcl]
            omega
          · have ht := hrow.take
            simp only at ht
            rw [hfl]
            simp only
            rw [show c0.take (l0.length * E.sz) = l0.flatMap E.enc from ht]
            exact List.take_left' (by simp [E.flat_len, Nat.add_mul])
        generalize hc' : c0.take (l0.length * E.sz) ++ l.flatMap E.enc ++ c0.drop (l0.length * E.sz + l.length * E.sz) = c' at hr hrow'
        refine ⟨.slice (some ⟨g, 0, none⟩) (l0 ++ l).length cap0, w.setRow g c'.toArray, _, ?_, St.toSv (c := c') ?_ hrow', h _ _⟩
        · simp only [execOp, resolve, Sem.run_bind, List.map_toArray, List.map_cons, List.map_nil, hs, hx, invoke, builtin, Sem.run_pure, Result.andThen_ok, hr, List.length_append]
        · exact hw.write Upd.hd (g := g) (o := .cells c0.toArray e (0, 0)) (o' := .cells c'.toArray e (0, 0)) (fun B hB => by unfold V.cl at hB; exact hB) (by unfold V.cl; rfl) (setRow_heap w g c0.toArray _ e (0, 0) hg) (fun k hk => setRow_other w g k _ hk) (by simp) rfl rfl rfl
      · have holds : ∀ j u, (l0.flatMap E.enc)[j]? = some u → w.cell? ((⟨g, 0, none⟩ : Addr).add j) = some u := sl_cells (row_Sl hg hrow)
        have hr := run_append_grow (P := Tryz.prog) w t r e i z T.ht hi hz ⟨g, 0, none⟩ l0.length cap0 (l0.flatMap E.enc) (by rw [E.flat_len, hsz]) holds ⟨bx, ox, none⟩ l.length capx (l.flatMap E.enc) (by rw [E.flat_len, hsz]) (sl_cells h1)
          (by omega) (by simp only [maxLen] at hmx; omega) (growslice_fits (by omega) (by rw [hby]; exact hbytes))
        have hge := grownCap_ge w (l0.length + l.length) cap0 e
        have hcm := grownCap_le_maxLen w (l0.length + l.length) cap0 e hmx
        have hrow' := row_made (E := E) z.cells (l0 ++ l) (grownCap w (l0.length + l.length) cap0 e) (by simpa using hge) hcm hzs
        rw [hfl, List.length_append] at hrow'
        have e9 : (List.flatMap E.enc l0 ++ List.flatMap E.enc l).toArray = (List.flatMap E.enc l0).toArray ++ (List.flatMap E.enc l).toArray := by simp
        rw [e9] at hrow'
        generalize (List.flatMap E.enc l0).toArray ++ (List.flatMap E.enc l).toArray ++ Builtin.zeroCells z.cells (grownCap w (l0.length + l.length) cap0 e - (l0.length + l.length)) = c' at hrow' hr
        have hal := St.allocC (hwK.drew) c'.toList e
        refine ⟨.slice (some ⟨w.heap.size, 0, none⟩) (l0 ++ l).length (grownCap w (l0.length + l.length) cap0 e), _, _, ?_, St.toSv hal (by simpa using hrow'), h _ _⟩
        simp only [execOp, resolve, Sem.run_bind, List.map_toArray, List.map_cons, List.map_nil, hs, hx, invoke, builtin, Sem.run_pure, Result.andThen_ok, hr, List.length_append, Array.toArray_toList]
        rfl

/-- make -/
theorem w_mk {x y : Operand} {t bytes sz : Nat} (z0 : α) {k k' : IntKind} (m : Nat) [T : SLT t e sz bytes] (he : sz = E.sz) (hzv : ZV Tryz.prog e (E.enc z0)) (hd : decide (d < n.n) = true)
    (hx : ev R x = .int k (m : Int)) (hy : ev R y = .int k' (m : Int)) (hm : m ≤ maxLen) (hb : bytes * m ≤ 281474976710656)
    (h : ∀ g, Gl n w0 S X (.ops ops ks rest) (upd R d (.slice (some ⟨g, 0, none⟩) (List.replicate m z0).length m)) (rowc E e (List.replicate m z0) g m :: L)) :
    Gl n w0 S X (.ops ops ks (⟨some d, .makeSlice t x y, ty, pos, after, none⟩ :: rest)) R L := by
  have T := T.st he
  unfold Gl at *
  refine o_op rfl hd fun w hw => ?_
  obtain ⟨i, z, hi, hz', hsz, hby, hzs⟩ := T.hi
  obtain ⟨z', hz2, hzc'⟩ := hzv.h
  have hzz : z' = z := by simp [hi, hz'] at hz2; exact hz2.symm
  subst hzz
  have hzc : z'.cells = (E.enc z0).toArray := by rw [← hzc']
  have hr := run_make (P := Tryz.prog) w t e i z' T.ht hi hz' k k' (m : Int) (m : Int) (by omega) (by omega) (by rw [hby]; omega) (by simp only [maxLen] at hm; omega)
  have hrow : Row E (List.replicate m z0) (madeCells z'.cells (((m : Int)).toNat * i.size)) m := by
    refine ⟨by rw [size_madeCells, hsz]; simp, by simp, hm, ?_⟩
    have e1 : (madeCells z'.cells (((m : Int)).toNat * i.size)).toList = (List.replicate m z0).flatMap E.enc := by
      apply List.ext_getElem?
      intro j
      by_cases hj : j < m * E.sz
      · have hd : j / E.sz < m := (Nat.div_lt_iff_lt_mul E.pos).2 hj
        have hm' := Nat.div_add_mod j E.sz
        have hr := Nat.mod_lt j E.pos
        have hv : (E.enc z0)[j % E.sz]? = some ((E.enc z0)[j % E.sz]'(by rw [E.len]; exact hr)) := List.getElem?_eq_getElem _
        have h1 := E.flat_at (List.replicate m z0) (j / E.sz) (by simpa using hd) (j % E.sz) _ (by rw [List.getElem_replicate]; exact hv)
        have e2 : j / E.sz * E.sz + j % E.sz = j := by rw [Nat.mul_comm]; exact hm'
        rw [e2] at h1
        rw [h1]
        have hjs : j < m * i.size := by rw [hsz]; exact hj
        simp only [madeCells, Int.toNat_natCast, Array.toList_map, Array.toList_range, List.getElem?_map, List.getElem?_range hjs, Option.map_some]
        congr 1
        rw [hzc]
        simp only [List.size_toArray, E.len]
        simp [E.len, hr]
      · rw [List.getElem?_eq_none, List.getElem?_eq_none]
        · rw [E.flat_len]; simp; omega
        · simp [madeCells, hsz]; omega
    rw [e1, List.take_of_length_le (by rw [E.flat_len]; simp)]
  have h2 := fun g => h g
  simp only [List.length_replicate] at h2
  have hal := hw.allocC (madeCells z'.cells (((m : Int)).toNat * i.size)).toList e
  refine ⟨_, _, _, ?_, hal.ent (Ent.fold (M := [V.cl _ _ e]) (row_cl _ (by simpa using hrow)) (.refl _)), h2 _⟩
  simp [execOp, hx, hy, hr]

/-- a slice written out -/
theorem w_bs {t bytes sz : Nat} (l : List α) (vs : List Value) {m : Nat} {parts : Array (Nat × Operand)} [T : SLT t e sz bytes] (he : sz = E.sz) (hv : vs.map (fun v => v.cells.toList) = l.map E.enc) (hm : m = l.length) (hd : decide (d < n.n) = true)
    (hparts : (parts.map fun (i, x) => (i, ev R x)).toList = (vs.zipIdx 0).map fun p => (p.2, p.1)) (hpos : 0 < l.length) (hsm : l.length * E.sz ≤ 16777216)
    (h : ∀ g, Gl n w0 S X (.ops ops ks rest) (upd R d (.slice (some ⟨g, 0, none⟩) l.length l.length)) (rowc E e l g l.length :: L)) :
    Gl n w0 S X (.ops ops ks (⟨some d, .buildSlice t m parts, ty, pos, after, none⟩ :: rest)) R L := by
  have T := T.st he
  subst hm
  unfold Gl at *
  refine o_op rfl hd fun w hw => ?_
  obtain ⟨i, z, hi, hz, hsz, hby, hzs⟩ := T.hi
  have hlen : vs.length = l.length := by have := congrArg List.length hv; simpa using this
  have hVs : ∀ v ∈ vs, v.cells.size = E.sz := by
    intro v hvm
    have : v.cells.toList ∈ l.map E.enc := by rw [← hv]; exact List.mem_map_of_mem (f := fun v => v.cells.toList) hvm
    obtain ⟨x, _, hx⟩ := List.mem_map.1 this
    rw [← Array.length_toList, ← hx, E.len]
  have hflat : (vs.flatMap fun v => v.cells.toList) = l.flatMap E.enc := by
    rw [List.flatMap_def, List.flatMap_def, hv]
  have hfill := fill_cells E.sz vs 0 [] ((Array.range (l.length * i.size)).map (z.cells[· % z.cells.size]!)).toList hVs (by simp) (by simp [hsz, hlen])
  have hpos' : ¬ l.length * i.size = 0 := by rw [hsz]; have := E.pos; intro e; rcases Nat.mul_eq_zero.1 e with x | x <;> omega
  have hr := run_buildSlice (P := Tryz.prog) w t e l.length (parts.map fun (i, x) => (i, ev R x)) (l.flatMap E.enc).toArray i z T.ht hi hz (by rw [hsz]; omega) hpos' (by
    rw [hparts, hsz]
    simp only [List.nil_append, Array.toArray_toList] at hfill
    rw [hsz] at hfill
    rw [hfill, hflat])
  have hal := hw.allocC (l.flatMap E.enc) e
  have hrow : Row E l (l.flatMap E.enc).toArray l.length := Row.lit l (by simp only [maxLen]; have := E.pos; have : l.length * 1 ≤ l.length * E.sz := Nat.mul_le_mul_left _ this; omega)
  refine ⟨_, _, _, ?_, hal.ent (Ent.fold (M := [V.cl _ _ e]) (row_cl _ hrow) (.refl _)), h _⟩
  simp only [execOp, Sem.run_bind, hr, Result.andThen_ok, Sem.run_pure]
end
end Go.Proofs.YtnilejkfbcnkkaaGreatDoor.V
end
section
set_option maxRecDepth 100000
namespace Go.Proofs.YtnilejkfbcnkkaaGreatDoor.V
open Go Go.RowKit

instance : SLT 22 32 5 72 := ⟨Tryz.underlying22, .agg ([.int .i64 0, .int .i64 0, .slice none 0 0, .int .i64 0, .slice none 0 0]).toArray, by kernel_rfl, by kernel_rfl⟩
instance : SLT 29 53 65 72 := ⟨Tryz.underlying29, .agg (.int .i64 0 :: bl blk0).toArray, by kernel_rfl, by kernel_rfl⟩
instance : SLT 30 3 1 8 := ⟨Tryz.underlying30, .int .i64 0, by kernel_rfl, by kernel_rfl⟩
instance : SLT 57 51 64 64 := ⟨Tryz.underlying57, .agg (bl blk0).toArray, by kernel_rfl, by kernel_rfl⟩
instance : SLT 69 68 1 8 := ⟨Tryz.underlying69, .pointer none, by kernel_rfl, by kernel_rfl⟩
instance : SLT 103 284 65 72 := ⟨Tryz.underlying103, .agg (.int .i64 0 :: bl blk0).toArray, by kernel_rfl, by kernel_rfl⟩
instance : SLT 143 147 5 88 := ⟨Tryz.underlying143, .agg ([.int .i64 0, .slice none 0 0, .int .i64 0, .slice none 0 0, .slice none 0 0]).toArray, by kernel_rfl, by kernel_rfl⟩
instance : SLT 145 4 1 1 := ⟨Tryz.underlying145, .bool false, by kernel_rfl, by kernel_rfl⟩
instance : SLT 149 163 66 80 := ⟨Tryz.underlying149, .agg (.int .i64 0 :: .int .i64 0 :: bl blk0).toArray, by kernel_rfl, by kernel_rfl⟩
instance : SLT 183 265 4 32 := ⟨Tryz.underlying183, .agg ([.int .u64 0, .int .u64 0, .int .i64 0, .int .u32 0]).toArray, by kernel_rfl, by kernel_rfl⟩
instance : SLT 186 48 1 8 := ⟨Tryz.underlying186, .nilFunc, by kernel_rfl, by kernel_rfl⟩
instance : SLT 231 5 1 1 := ⟨Tryz.underlying231, .int .u8 0, by kernel_rfl, by kernel_rfl⟩
end Go.Proofs.YtnilejkfbcnkkaaGreatDoor.V
end
section
set_option maxRecDepth 100000
namespace Go.Proofs.YtnilejkfbcnkkaaGreatDoor.V
open Go Go.RowKit

/-! ### Structs that are built -/
class STR (t : TypeId) (z : outParam (List Value)) (pl : outParam (List (Nat × Nat))) : Prop where
  h : ∃ z' fs, (Tryz.prog.info? t).map (·.zero) = some (some z') ∧ Tryz.prog.underlying t = some (.struct fs) ∧ z'.cells = z.toArray ∧ fs.toList.mapM (fun f => (Tryz.prog.info? f.type).map fun i => (f.offset, i.size)) = some pl
class BT0 (t : TypeId) (c : outParam (List Value)) : Prop where h : Tryz.prog.built t [] = some c.toArray
def Fill (pl : List (Nat × Nat)) (z : List Value) (ps : List (Nat × Value)) (c : List Value) : Prop := Instr.fill (pl.toArray[·]?) z.toArray ps = some c.toArray
theorem Fill.nil {pl : List (Nat × Nat)} {z : List Value} : Fill pl z [] z := by simp [Fill, Instr.fill]
theorem Fill.cons {pl : List (Nat × Nat)} {z z' c vs : List Value} {i o k : Nat} {v : Value} {ps : List (Nat × Value)} (hp : pl[i]? = some (o, k)) (hv : v.cells.toList = vs) (hk : vs.length = k) (hs : Sets z o vs z') (h : Fill pl z' ps c) : Fill pl z ((i, v) :: ps) c := by
  unfold Fill at *
  have hvs : v.cells.size = k := by rw [← hk, ← hv]; simp
  have h1 := hs.1
  rw [Instr.fill]
  simp only [List.getElem?_toArray, hp]
  rw [if_neg (by simp [hvs]; omega)]
  have key : v.cells.zipIdx.foldl (fun cs (c, j) => cs.setIfInBounds (o + j) c) z.toArray = z'.toArray := by
    have gen : ∀ (us : List Value) (j : Nat) (pre suf : List Value), pre.length = o + j → us.length ≤ suf.length →
        (us.zipIdx j).foldl (fun (cs : Array Value) (p : Value × Nat) => cs.setIfInBounds (o + p.2) p.1) (pre ++ suf).toArray = (pre ++ us ++ suf.drop us.length).toArray := by
      intro us
      induction us with
      | nil => intro j pre suf _ _; simp
      | cons u us ih =>
        intro j pre suf hp hl
        cases suf with
        | nil => simp at hl
        | cons s suf =>
          simp only [List.zipIdx_cons, List.foldl_cons]
          have e1 : (pre ++ s :: suf).toArray.setIfInBounds (o + j) u = ((pre ++ [u]) ++ suf).toArray := by
            rw [← hp]
            simp [List.setIfInBounds_toArray, List.set_append_right]
          rw [e1, ih (j + 1) (pre ++ [u]) suf (by simp; omega) (by simpa using hl)]
          simp
    have h3 := gen vs 0 (z.take o) (z.drop o) (by simp; omega) (by simp; omega)
    rw [List.take_append_drop] at h3
    rw [← Array.foldl_toList, Array.toList_zipIdx, hv, h3, ← hs.2, List.drop_drop]
  rw [key]
  simpa using h
/-- The parts' values. -/
def Pts (R : Regs) (l : List (Nat × Operand)) (ps : List (Nat × Value)) : Prop := l.map (fun p => (p.1, ev R p.2)) = ps
theorem Pts.nil {R : Regs} : Pts R [] [] := rfl
theorem Pts.cons {R : Regs} {i : Nat} {x : Operand} {v : Value} {l : List (Nat × Operand)} {ps : List (Nat × Value)} (hx : ev R x = v) (h : Pts R l ps) : Pts R ((i, x) :: l) ((i, v) :: ps) := by
  unfold Pts at *; simp [hx, h]
theorem Sets.nil {c : List Value} : Sets c 0 [] c := ⟨by simp, by simp⟩
theorem Sets.cons {a v : Value} {c vs c' : List Value} (h : Sets c 0 vs c') : Sets (a :: c) 0 (v :: vs) (v :: c') := by
  obtain ⟨h1, h2⟩ := h
  refine ⟨by simp at h1 ⊢; omega, ?_⟩
  simp at h2 ⊢
  exact h2

section
variable {w0 : World} {S : Nat → Prop} {R : Regs} {L L' : Hp} {n : Fp} {X : Post} {ks : List Fr} {k : Kd}
variable {dst : Option Tmp} {ty : TypeId} {pos : String} {after : Array Go.Edge} {gd : Option (Nat × Bool)}
theorem y_bld {t : TypeId} {parts : Array (Nat × Operand)} {ps : List (Nat × Value)} {z c : List Value} {pl : List (Nat × Nat)} [hs : STR t z pl] (hp : Pts R parts.toList ps) (hf : Fill pl z ps c) :
    Yields Tryz.prog w0 S L ⟨dst, .build t parts, ty, pos, after, gd⟩ R (A c) := by
  obtain ⟨z', fs, h1, h2, h3, h4⟩ := hs.h
  refine y_build (ps := ps) (by rw [Array.toList_map]; exact hp) ?_
  cases hi : Tryz.prog.info? t with
  | none => simp [hi] at h1
  | some it =>
    have hz : it.zero = some z' := by simpa [hi] using h1
    unfold Program.built
    simp only [hi, h2, hz, h4, h3]
    exact hf
theorem y_bl0 {t : TypeId} {c : List Value} [h : BT0 t c] : Yields Tryz.prog w0 S L ⟨dst, .build t #[], ty, pos, after, gd⟩ R (A c) := y_build (ps := []) (by simp) h.h

/-! ### Results -/
def Res (w0 : World) (S : Nat → Prop) (L : Hp) (R : Regs) : List ResultVar → List Value → Prop := fun rs vs => ∀ w, St w0 S L w → Results Tryz.prog R w rs vs
theorem Res.nil : Res w0 S L R [] [] := fun _ _ => trivial
theorem Res.tmp {t : Nat} {v : Value} {rs : List ResultVar} {vs : List Value} (hv : ev R (.tmp t) = v) (h : Res w0 S L R rs vs) : Res w0 S L R (.tmp t :: rs) (v :: vs) := fun w hw => ⟨hv.symm, h w hw⟩
theorem Res.c1 {p g off : Nat} {t et : TypeId} {c : List Value} {v : Value} {rs : List ResultVar} {vs : List Value} [hu : SC Tryz.prog t] (hp : ev R (.tmp p) = PP g off) (hm : cl g c et ∈ L) (hv : c[off]? = some v) (h : Res w0 S L R rs vs) : Res w0 S L R (.cell p t :: rs) (v :: vs) :=
  fun w hw => ⟨⟨_, hp, by
    obtain ⟨d, h1, h2⟩ := hu.h
    exact run_load1 h1 h2 (Rd.cl hm (Sg.one hv) w hw 0 v rfl)⟩, h w hw⟩
theorem Res.cW {p g k : Nat} {t et : TypeId} {c : List Value} {rs : List ResultVar} {vs : List Value} (hp : ev R (.tmp p) = PP g 0) (hm : cl g c et ∈ L) (hu : RW Tryz.prog t) (hz : SZ Tryz.prog t k) (hl : LenL c k) (h : Res w0 S L R rs vs) : Res w0 S L R (.cell p t :: rs) (A c :: vs) :=
  fun w hw => ⟨⟨_, hp, by
    obtain ⟨d, h1, h2⟩ := hu.h
    have hr := Rd.cl (off := 0) hm (Sg.whole (k := k)) w hw
    exact loadS h1 h2 (by rw [hz.h]; simp [hl.h]) (by simpa using hr)⟩, h w hw⟩
theorem finR {fn : Func} {N : Nat} {B : Blks} {Q : Out → Hp → Prop} {rs : List ResultVar} {vs : List Value} {v : Value} (hrs : fn.results.toList = rs) (hr : Res w0 (ids B) L R rs vs) (ho : one vs = v) (hQ : Q (.ret v) L') (he : Ent L L') : Gl ⟨N, []⟩ w0 (ids B) (XF Tryz.prog fn w0 B Q) (.fin .ret) R L := by
  unfold Gl
  subst ho
  exact fin_ret (vs := vs) (fun w hw => by rw [hrs]; exact hr w hw) hQ he

/-! ### Chunks that hide what they stand on -/
def exC (tag : Nat) {γ : Type} (M : γ → Hp) : Chunk := ⟨tag, fun B => ∃ x, Sat (M x) B⟩
theorem exC_opens {tag : Nat} {γ : Type} {M : γ → Hp} : Opens (exC tag M) M := fun B h => h
theorem g_ex {tag : Nat} {γ : Type} {M : γ → Hp} {K : Hp} (hk : k.plain = true) (hs : Sel (exC tag M) L K) (h : ∀ x, Gl n w0 S X k R (M x ++ K)) : Gl n w0 S X k R L := g_open hk exC_opens hs h
theorem ent_ex {tag : Nat} {γ : Type} {M : γ → Hp} {K : Hp} (x : γ) (h : Ent L (M x ++ K)) : Ent L (exC tag M :: K) := Ent.fold (fun B hB => ⟨x, hB⟩) h
theorem ent_pur {φ : Prop} {K : Hp} (h : φ) (he : Ent L K) : Ent L (pur φ :: K) := Ent.fold (M := []) (fun B hB => by unfold pur; exact ⟨h, hB⟩) he
/-- what is told stands now on other names -/
theorem g_eq {L2 : Hp} (e : L = L2) (h : Gl n w0 S X k R L2) : Gl n w0 S X k R L := e ▸ h
end
end Go.Proofs.YtnilejkfbcnkkaaGreatDoor.V
end
section
set_option maxRecDepth 100000
namespace Go.Proofs.YtnilejkfbcnkkaaGreatDoor.V
open Go Go.RowKit

instance : BT0 51 (bl blk0) := ⟨by unfold Program.built; simp only [Tryz.underlying51]; kernel_rfl⟩
instance : STR 27 ([.int .i64 0, .int .i64 0, .int .i64 0]) [(0, 1), (1, 1), (2, 1)] := ⟨.agg ([.int .i64 0, .int .i64 0, .int .i64 0]).toArray, _, by kernel_rfl, Tryz.underlying27, rfl, by kernel_rfl⟩
instance : STR 32 ([.int .i64 0, .int .i64 0, .slice none 0 0, .int .i64 0, .slice none 0 0]) [(0, 1), (1, 1), (2, 1), (3, 1), (4, 1)] := ⟨.agg ([.int .i64 0, .int .i64 0, .slice none 0 0, .int .i64 0, .slice none 0 0]).toArray, _, by kernel_rfl, Tryz.underlying32, rfl, by kernel_rfl⟩
instance : STR 37 ([.int .i64 0, .int .i64 0, .int .i64 0, .pointer none, .pointer none, .pointer none]) [(0, 3), (3, 1), (4, 1), (5, 1)] := ⟨.agg ([.int .i64 0, .int .i64 0, .int .i64 0, .pointer none, .pointer none, .pointer none]).toArray, _, by kernel_rfl, Tryz.underlying37, rfl, by kernel_rfl⟩
instance : STR 53 (.int .i64 0 :: bl blk0) [(0, 1), (1, 64)] := ⟨.agg (.int .i64 0 :: bl blk0).toArray, _, by kernel_rfl, Tryz.underlying53, rfl, by kernel_rfl⟩
instance : STR 59 ([.slice none 0 0]) [(0, 1)] := ⟨.agg ([.slice none 0 0]).toArray, _, by kernel_rfl, Tryz.underlying59, rfl, by kernel_rfl⟩
instance : STR 71 ([.slice none 0 0, .int .i64 0, .int .i64 0, .bool false]) [(0, 1), (1, 1), (2, 1), (3, 1)] := ⟨.agg ([.slice none 0 0, .int .i64 0, .int .i64 0, .bool false]).toArray, _, by kernel_rfl, Tryz.underlying71, rfl, by kernel_rfl⟩
instance : STR 77 ([.int .i64 0, .int .u64 0, .int .i64 0, .int .i64 0, .int .i64 0, .int .i64 0, .bool false]) [(0, 1), (1, 1), (2, 1), (3, 1), (4, 1), (5, 1), (6, 1)] := ⟨.agg ([.int .i64 0, .int .u64 0, .int .i64 0, .int .i64 0, .int .i64 0, .int .i64 0, .bool false]).toArray, _, by kernel_rfl, Tryz.underlying77, rfl, by kernel_rfl⟩
instance : STR 82 ([.pointer none, .pointer none]) [(0, 1), (1, 1)] := ⟨.agg ([.pointer none, .pointer none]).toArray, _, by kernel_rfl, Tryz.underlying82, rfl, by kernel_rfl⟩
instance : STR 87 ([.pointer none, .pointer none, .pointer none, .pointer none, .bool false]) [(0, 1), (1, 1), (2, 1), (3, 1), (4, 1)] := ⟨.agg ([.pointer none, .pointer none, .pointer none, .pointer none, .bool false]).toArray, _, by kernel_rfl, Tryz.underlying87, rfl, by kernel_rfl⟩
instance : STR 92 ([.int .i64 0, .int .i64 0, .int .i64 0, .int .u8 0, .int .u8 0, .int .u8 0, .int .u8 0, .int .u8 0, .int .u8 0, .int .u8 0, .int .u8 0, .int .u8 0, .int .u8 0, .int .u8 0, .int .u8 0, .int .u8 0, .int .u8 0, .int .u8 0, .int .u8 0, .int .i64 0, .bool false]) [(0, 3), (3, 16), (19, 1), (20, 1)] := ⟨.agg ([.int .i64 0, .int .i64 0, .int .i64 0, .int .u8 0, .int .u8 0, .int .u8 0, .int .u8 0, .int .u8 0, .int .u8 0, .int .u8 0, .int .u8 0, .int .u8 0, .int .u8 0, .int .u8 0, .int .u8 0, .int .u8 0, .int .u8 0, .int .u8 0, .int .u8 0, .int .i64 0, .bool false]).toArray, _, by kernel_rfl, Tryz.underlying92, rfl, by kernel_rfl⟩
instance : STR 105 ([.slice none 0 0, .slice none 0 0, .bool false]) [(0, 1), (1, 1), (2, 1)] := ⟨.agg ([.slice none 0 0, .slice none 0 0, .bool false]).toArray, _, by kernel_rfl, Tryz.underlying105, rfl, by kernel_rfl⟩
instance : STR 114 ([.pointer none, .int .u64 0, .int .u64 0, .int .i64 0, .int .i64 0, .int .i64 0, .int .u8 0, .int .u8 0, .int .u8 0, .int .u8 0, .int .u8 0, .int .u8 0, .int .u8 0, .int .u8 0, .int .u8 0, .int .u8 0, .int .u8 0, .int .u8 0, .int .u8 0, .int .u8 0, .int .u8 0, .int .u8 0, .int .i64 0, .bool false]) [(0, 1), (1, 1), (2, 1), (3, 21)] := ⟨.agg ([.pointer none, .int .u64 0, .int .u64 0, .int .i64 0, .int .i64 0, .int .i64 0, .int .u8 0, .int .u8 0, .int .u8 0, .int .u8 0, .int .u8 0, .int .u8 0, .int .u8 0, .int .u8 0, .int .u8 0, .int .u8 0, .int .u8 0, .int .u8 0, .int .u8 0, .int .u8 0, .int .u8 0, .int .u8 0, .int .i64 0, .bool false]).toArray, _, by kernel_rfl, Tryz.underlying114, rfl, by kernel_rfl⟩
instance : STR 118 ([.int .i64 0, .int .i64 0, .int .i64 0, .map none]) [(0, 3), (3, 1)] := ⟨.agg ([.int .i64 0, .int .i64 0, .int .i64 0, .map none]).toArray, _, by kernel_rfl, Tryz.underlying118, rfl, by kernel_rfl⟩
instance : STR 120 ([.int .i64 0, .int .i64 0]) [(0, 1), (1, 1)] := ⟨.agg ([.int .i64 0, .int .i64 0]).toArray, _, by kernel_rfl, Tryz.underlying120, rfl, by kernel_rfl⟩
instance : STR 147 ([.int .i64 0, .slice none 0 0, .int .i64 0, .slice none 0 0, .slice none 0 0]) [(0, 1), (1, 1), (2, 1), (3, 1), (4, 1)] := ⟨.agg ([.int .i64 0, .slice none 0 0, .int .i64 0, .slice none 0 0, .slice none 0 0]).toArray, _, by kernel_rfl, Tryz.underlying147, rfl, by kernel_rfl⟩
instance : STR 163 (.int .i64 0 :: .int .i64 0 :: bl blk0) [(0, 2), (2, 64)] := ⟨.agg (.int .i64 0 :: .int .i64 0 :: bl blk0).toArray, _, by kernel_rfl, Tryz.underlying163, rfl, by kernel_rfl⟩
instance : STR 170 ([.int .i64 0, .int .i64 0, .int .i64 0, .pointer none, .map none]) [(0, 3), (3, 1), (4, 1)] := ⟨.agg ([.int .i64 0, .int .i64 0, .int .i64 0, .pointer none, .map none]).toArray, _, by kernel_rfl, Tryz.underlying170, rfl, by kernel_rfl⟩
instance : STR 176 ([.int .i64 0]) [(0, 1)] := ⟨.agg ([.int .i64 0]).toArray, _, by kernel_rfl, Tryz.underlying176, rfl, by kernel_rfl⟩
instance : STR 185 ([.pointer none, .int .i64 0, .int .u64 0, .int .i64 0, .int .u64 0, .int .u64 0, .int .u64 0, .int .u64 0, .slice none 0 0]) [(0, 1), (1, 1), (2, 1), (3, 1), (4, 1), (5, 1), (6, 1), (7, 1), (8, 1)] := ⟨.agg ([.pointer none, .int .i64 0, .int .u64 0, .int .i64 0, .int .u64 0, .int .u64 0, .int .u64 0, .int .u64 0, .slice none 0 0]).toArray, _, by kernel_rfl, Tryz.underlying185, rfl, by kernel_rfl⟩
instance : STR 204 ([.int .u8 0, .slice none 0 0]) [(0, 1), (1, 1)] := ⟨.agg ([.int .u8 0, .slice none 0 0]).toArray, _, by kernel_rfl, Tryz.underlying204, rfl, by kernel_rfl⟩
instance : STR 239 ([.int .u64 0, .int .i64 0, .int .u64 0, .int .u64 0]) [(0, 1), (1, 1), (2, 1), (3, 1)] := ⟨.agg ([.int .u64 0, .int .i64 0, .int .u64 0, .int .u64 0]).toArray, _, by kernel_rfl, Tryz.underlying239, rfl, by kernel_rfl⟩
instance : STR 244 ([.int .u64 0, .int .i64 0, .int .i64 0, .int .i64 0, .int .i64 0, .int .u8 0, .int .u8 0, .int .u8 0, .int .u8 0, .int .u8 0, .int .u8 0, .int .u8 0, .int .u8 0, .int .u8 0, .int .u8 0, .int .u8 0, .int .u8 0, .int .u8 0, .int .u8 0, .int .u8 0, .int .u8 0, .int .i64 0, .bool false]) [(0, 1), (1, 1), (2, 21)] := ⟨.agg ([.int .u64 0, .int .i64 0, .int .i64 0, .int .i64 0, .int .i64 0, .int .u8 0, .int .u8 0, .int .u8 0, .int .u8 0, .int .u8 0, .int .u8 0, .int .u8 0, .int .u8 0, .int .u8 0, .int .u8 0, .int .u8 0, .int .u8 0, .int .u8 0, .int .u8 0, .int .u8 0, .int .u8 0, .int .i64 0, .bool false]).toArray, _, by kernel_rfl, Tryz.underlying244, rfl, by kernel_rfl⟩
instance : STR 248 ([.int .i64 0, .bool false, .pointer none, .pointer none]) [(0, 1), (1, 1), (2, 1), (3, 1)] := ⟨.agg ([.int .i64 0, .bool false, .pointer none, .pointer none]).toArray, _, by kernel_rfl, Tryz.underlying248, rfl, by kernel_rfl⟩
instance : STR 251 ([.int .i64 0, .map none, .pointer none]) [(0, 1), (1, 1), (2, 1)] := ⟨.agg ([.int .i64 0, .map none, .pointer none]).toArray, _, by kernel_rfl, Tryz.underlying251, rfl, by kernel_rfl⟩
instance : STR 265 ([.int .u64 0, .int .u64 0, .int .i64 0, .int .u32 0]) [(0, 1), (1, 1), (2, 1), (3, 1)] := ⟨.agg ([.int .u64 0, .int .u64 0, .int .i64 0, .int .u32 0]).toArray, _, by kernel_rfl, Tryz.underlying265, rfl, by kernel_rfl⟩
instance : STR 284 (.int .i64 0 :: bl blk0) [(0, 1), (1, 64)] := ⟨.agg (.int .i64 0 :: bl blk0).toArray, _, by kernel_rfl, Tryz.underlying284, rfl, by kernel_rfl⟩
instance : STR 297 ([.slice none 0 0, .slice none 0 0, .int .i64 0]) [(0, 1), (1, 1), (2, 1)] := ⟨.agg ([.slice none 0 0, .slice none 0 0, .int .i64 0]).toArray, _, by kernel_rfl, Tryz.underlying297, rfl, by kernel_rfl⟩
instance : STR 334 ([.slice none 0 0, .int .i64 0]) [(0, 1), (1, 1)] := ⟨.agg ([.slice none 0 0, .int .i64 0]).toArray, _, by kernel_rfl, Tryz.underlying334, rfl, by kernel_rfl⟩
end Go.Proofs.YtnilejkfbcnkkaaGreatDoor.V
end
section
set_option maxRecDepth 100000
namespace Go.Proofs.YtnilejkfbcnkkaaGreatDoor.V
open Go Go.RowKit
/-- how an element's cells are told -/
class EncV {α : Type} (E : Enc α) (f : outParam (α → List Value)) : Prop where h : E.enc = f
instance : EncV eBlk bl := ⟨rfl⟩
instance : EncV eInt (fun x => [.int .i64 x]) := ⟨rfl⟩
instance : EncV eBool (fun x => [.bool x]) := ⟨rfl⟩
/-- a field's place in what stands at o -/
def fo (o k : Nat) : Nat := o + k
structure Hold (B : Prop) : Prop where h : B
def dok (n : Fp) (d : Option Tmp) : Bool := match d with | some d => decide (d < n.n) | none => true
theorem cellsA {c : List Value} : (A c).cells.toList = c := rfl
theorem cells1 {v : Value} [h : OneV v] : v.cells.toList = [v] := by rw [h.c]
section
variable {w0 : World} {S : Nat → Prop} {R : Regs} {L : Hp} {dst : Option Tmp} {ty : TypeId} {pos : String} {after : Array Go.Edge} {gd : Option (Nat × Bool)}
theorem y_ixN {x i : Operand} {t e : TypeId} {len cap sz : Nat} {g : Nat} {k : IntKind} {q : Nat} [hu : UT Tryz.prog t (.slice e)] [hs : SZ Tryz.prog e sz] (hx : ev R x = .slice (some ⟨g, 0, none⟩) len cap) (hi : ev R i = .int k (q : Int)) (hl : q < len) :
    Yields Tryz.prog w0 S L ⟨dst, .indexAddr t x i, ty, pos, after, gd⟩ R (PP g (q * sz)) := by
  have := y_ixR (P := Tryz.prog) (w0 := w0) (S := S) (L := L) (dst := dst) (ty := ty) (pos := pos) (after := after) (gd := gd) (t := t) (e := e) (sz := sz) hx hi (by omega) (by omega)
  simpa using this
theorem y_fa0 {s : TypeId} {x : Operand} {b i k : Nat} [hf : FLD Tryz.prog s i k] (hx : ev R x = PP b 0) : Yields Tryz.prog w0 S L ⟨dst, .fieldAddr s x i, ty, pos, after, gd⟩ R (PP b k) := y_fa hx (Nat.zero_add _)
theorem y_faZ {s : TypeId} {x : Operand} {b o i : Nat} [hf : FLD Tryz.prog s i 0] (hx : ev R x = PP b o) : Yields Tryz.prog w0 S L ⟨dst, .fieldAddr s x i, ty, pos, after, gd⟩ R (PP b o) := y_fa hx (Nat.add_zero _)
theorem y_faR {s : TypeId} {x : Operand} {b m z i k : Nat} [hf : FLD Tryz.prog s i k] (hx : ev R x = PP b (m * z)) : Yields Tryz.prog w0 S L ⟨dst, .fieldAddr s x i, ty, pos, after, gd⟩ R (PP b (fo (m * z) k)) := y_fa hx rfl
theorem y_faF {s : TypeId} {x : Operand} {b o j i k : Nat} [hf : FLD Tryz.prog s i k] (hx : ev R x = PP b (fo o j)) : Yields Tryz.prog w0 S L ⟨dst, .fieldAddr s x i, ty, pos, after, gd⟩ R (PP b (fo o (j + k))) := y_fa hx (by unfold fo; omega)
variable {α : Type} {E : Enc α} {e : TypeId} {l : List α} {g cap : Nat}
theorem y_ldA {y : Operand} {t : TypeId} {i s k : Nat} {f : α → List Value} [hu : RW Tryz.prog t] [hs : SZ Tryz.prog t k] (hx : ev R y = PP g (i * s)) (hm : rowc E e l g cap ∈ L) (h1 : s = E.sz) (h2 : k = E.sz) (hi : i < l.length) (hf : EncV E f) : Yields Tryz.prog w0 S L ⟨dst, .load t y, ty, pos, after, gd⟩ R (A (f l[i])) := by
  obtain ⟨rfl⟩ := hf; subst h2; exact y_ldE hs hx (by rw [h1]) hm (List.getElem?_eq_getElem hi)
theorem y_ldA1 {y : Operand} {t : TypeId} {i s : Nat} {v : Value} [hu : SC Tryz.prog t] (hx : ev R y = PP g (i * s)) (hm : rowc E e l g cap ∈ L) (h1 : s = E.sz) (hi : i < l.length) (hv : (E.enc l[i])[0]? = some v) : Yields Tryz.prog w0 S L ⟨dst, .load t y, ty, pos, after, gd⟩ R v :=
  y_ldE1 hx hm (List.getElem?_eq_getElem hi) hv (by rw [h1]; rfl)
theorem y_ldAF {y : Operand} {t : TypeId} {i j s : Nat} {v : Value} [hu : SC Tryz.prog t] (hx : ev R y = PP g (fo (i * s) j)) (hm : rowc E e l g cap ∈ L) (h1 : s = E.sz) (hi : i < l.length) (hv : (E.enc l[i])[j]? = some v) : Yields Tryz.prog w0 S L ⟨dst, .load t y, ty, pos, after, gd⟩ R v :=
  y_ldE1 hx hm (List.getElem?_eq_getElem hi) hv (by rw [h1, fo])
theorem y_ldAS {y : Operand} {t : TypeId} {i j s k : Nat} {vs : List Value} {f : α → List Value} [hu : RW Tryz.prog t] [hs : SZ Tryz.prog t k] (hx : ev R y = PP g (fo (i * s) j)) (hm : rowc E e l g cap ∈ L) (h1 : s = E.sz) (hi : i < l.length) (hf : EncV E f) (hv : Sg (f l[i]) j k vs) : Yields Tryz.prog w0 S L ⟨dst, .load t y, ty, pos, after, gd⟩ R (A vs) := by
  obtain ⟨rfl⟩ := hf; exact y_ldES hx hm (List.getElem?_eq_getElem hi) hv (by rw [h1, fo])
end
/-! ### Walks: each goes on as far as it needs no word; what it comes to is the new goal -/
theorem mem_ {C : Chunk} {L : Hp} (h : C ∈ L := by (repeat (first | exact List.mem_cons_self | refine List.mem_cons_of_mem _ ?_))) : C ∈ L := h
theorem sel_ {C : Chunk} {L K : Hp} (h : Sel C L K := by (repeat (first | exact Sel.hd | apply Sel.tl))) : Sel C L K := h
theorem upd_ {C C' : Chunk} {L L' : Hp} (h : Upd L C C' L' := by (repeat (first | exact Upd.hd | apply Upd.tl))) : Upd L C C' L' := h
theorem pick_ {M L K : Hp} (h : Pick M L K := by (repeat (first | exact Pick.nil | (apply Pick.cons; focus (repeat (first | exact Sel.hd | apply Sel.tl)))))) : Pick M L K := h
theorem ent_ {M L : Hp} (h : Ent L M := by (first | exact Ent.refl _ | (repeat (first | exact Ent.nil | (apply Ent.sel; focus (repeat (first | exact Sel.hd | apply Sel.tl))))))) : Ent L M := h
theorem sets_ {c vs c' : List Value} {off : Nat} (h : Sets c off vs c' := by (repeat (first | exact Sets.z | exact Sets.nil | exact Sets.whole | apply Sets.cons | apply Sets.tl))) : Sets c off vs c' := h
theorem sg_ {c vs : List Value} {off k : Nat} (h : Sg c off k vs := by (repeat (first | exact Sg.whole | exact Sg.nil | apply Sg.cons | apply Sg.tl))) : Sg c off k vs := h
theorem wi_ {k : IntKind} {a c : Int} (h : k.wrap a = c := by (first | exact wi_i64 (by omega) (by omega) | exact wi_u64 (by omega) (by omega) | exact wi_u8 (by omega) (by omega) | exact wi_u32 (by omega) (by omega) | exact wi_u16 (by omega) (by omega))) : k.wrap a = c := h
theorem ev_ {R : Regs} {x : Operand} {v : Value} (h : ev R x = v := by (conv => lhs; whnf)) : ev R x = v := h
theorem sl_ {R : Regs} {l : List (Nat × Value)} (h : Slots R l := by (repeat (first | exact trivial | refine ⟨by rfl, ?_⟩ | refine ⟨ie (by omega), ?_⟩))) : Slots R l := h

theorem vc_ {v : Value} {c : List Value} (h : v.cells.toList = c := by (first | exact cellsA | exact cells1)) : v.cells.toList = c := h
theorem ln_ {c : List Value} {k : Nat} (h : c.length = k := by (first | exact LenL.h | rfl)) : c.length = k := h
theorem pts_ {R : Regs} {l : List (Nat × Operand)} {ps : List (Nat × Value)} (h : Pts R l ps := by (repeat (first | exact Pts.nil | (apply Pts.cons; (conv => lhs; whnf))))) : Pts R l ps := h
theorem fill_ {pl : List (Nat × Nat)} {z c : List Value} {ps : List (Nat × Value)} (h : Fill pl z ps c := by (repeat (first | exact Fill.nil | (apply Fill.cons; rfl; exact vc_; exact ln_; exact sets_)))) : Fill pl z ps c := h
theorem res_ {w0 : World} {S : Nat → Prop} {L : Hp} {R : Regs} {rs : List ResultVar} {vs : List Value} (h : Res w0 S L R rs vs := by (repeat (first | exact Res.nil | (apply Res.tmp; (conv => lhs; whnf)) | (apply Res.c1; rfl; exact mem_; rfl) | (apply Res.cW; rfl; exact mem_; infer_instance; infer_instance; infer_instance)))) : Res w0 S L R rs vs := h
theorem evl_ {R : Regs} {l : List Operand} {vs : List Value} (h : l.map (ev R) = vs := by rfl) : l.map (ev R) = vs := h
theorem y_rm {w0 : World} {S : Nat → Prop} {R : Regs} {L : Hp} {dst : Option Tmp} {ty : TypeId} {pos : String} {after : Array Go.Edge} {gd : Option (Nat × Bool)} {xt yt : TypeId} {x y : Operand} {k : IntKind} {a b : Int} (hx : ev R x = .int k a) (hy : ev R y = .int k b) (ha : 0 ≤ a) (hb : 0 < b) :
    Yields Tryz.prog w0 S L ⟨dst, .binOp .rem xt x y yt, ty, pos, after, gd⟩ R (.int k (a % b)) := y_rem hx hy (by omega) (Int.tmod_eq_emod_of_nonneg ha)
theorem y_qo {w0 : World} {S : Nat → Prop} {R : Regs} {L : Hp} {dst : Option Tmp} {ty : TypeId} {pos : String} {after : Array Go.Edge} {gd : Option (Nat × Bool)} {xt yt : TypeId} {x y : Operand} {a b : Int} (hx : ev R x = .int .i64 a) (hy : ev R y = .int .i64 b) (ha : 0 ≤ a) (hb : 0 < b) (hm : a ≤ 9223372036854775807) :
    Yields Tryz.prog w0 S L ⟨dst, .binOp .quo xt x y yt, ty, pos, after, gd⟩ R (.int .i64 (a / b)) :=
  y_int hx hy fun w => by
    have h1 : 0 ≤ a / b := Int.ediv_nonneg ha (by omega)
    have h2 : a / b ≤ a := Int.ediv_le_self _ ha
    simp [binOp, Op.intDiv, show ¬ b = 0 by omega, Int.tdiv_eq_ediv_of_nonneg ha, wi_i64 (x := a / b) (by omega) (by omega)]
/-! numbers whose bits are of no account -/
def bitv (op : BinOp) (k : IntKind) (a b : Int) : Int :=
  match op with
  | .and => k.wrap ((BitVec.ofInt k.bits a &&& BitVec.ofInt k.bits b).toNat : Int)
  | .or => k.wrap ((BitVec.ofInt k.bits a ||| BitVec.ofInt k.bits b).toNat : Int)
  | .xor => k.wrap ((BitVec.ofInt k.bits a ^^^ BitVec.ofInt k.bits b).toNat : Int)
  | _ => k.wrap ((BitVec.ofInt k.bits a &&& ~~~BitVec.ofInt k.bits b).toNat : Int)
def shlv (k : IntKind) (a b : Int) : Int := k.wrap (a * 2 ^ min b.toNat k.bits)
def shrv (k : IntKind) (a b : Int) : Int := a.fdiv (2 ^ min b.toNat k.bits)
def wrapv (k : IntKind) (a : Int) : Int := k.wrap a
section
variable {w0 : World} {S : Nat → Prop} {R : Regs} {L : Hp} {dst : Option Tmp} {ty : TypeId} {pos : String} {after : Array Go.Edge} {gd : Option (Nat × Bool)} {xt yt : TypeId} {x y : Operand} {k : IntKind} {a b : Int}
theorem y_bAnd (hx : ev R x = .int k a) (hy : ev R y = .int k b) : Yields Tryz.prog w0 S L ⟨dst, .binOp .and xt x y yt, ty, pos, after, gd⟩ R (.int k (bitv .and k a b)) := y_int hx hy fun w => by simp [binOp, Op.intBits, bitv]
theorem y_bOr (hx : ev R x = .int k a) (hy : ev R y = .int k b) : Yields Tryz.prog w0 S L ⟨dst, .binOp .or xt x y yt, ty, pos, after, gd⟩ R (.int k (bitv .or k a b)) := y_int hx hy fun w => by simp [binOp, Op.intBits, bitv]
theorem y_bXor (hx : ev R x = .int k a) (hy : ev R y = .int k b) : Yields Tryz.prog w0 S L ⟨dst, .binOp .xor xt x y yt, ty, pos, after, gd⟩ R (.int k (bitv .xor k a b)) := y_int hx hy fun w => by simp [binOp, Op.intBits, bitv]
theorem y_bAnn (hx : ev R x = .int k a) (hy : ev R y = .int k b) : Yields Tryz.prog w0 S L ⟨dst, .binOp .andNot xt x y yt, ty, pos, after, gd⟩ R (.int k (bitv .andNot k a b)) := y_int hx hy fun w => by simp [binOp, Op.intBits, bitv]
theorem y_shl {k' : IntKind} (hx : ev R x = .int k a) (hy : ev R y = .int k' b) (hb : 0 ≤ b) : Yields Tryz.prog w0 S L ⟨dst, .binOp .shl xt x y yt, ty, pos, after, gd⟩ R (.int k (shlv k a b)) :=
  y_val fun w => by simp [execOp, hx, hy, eqGuard, binOp, Op.shift, show ¬ b < 0 by omega, shlv]
theorem y_shr {k' : IntKind} (hx : ev R x = .int k a) (hy : ev R y = .int k' b) (hb : 0 ≤ b) : Yields Tryz.prog w0 S L ⟨dst, .binOp .shr xt x y yt, ty, pos, after, gd⟩ R (.int k (shrv k a b)) :=
  y_val fun w => by simp [execOp, hx, hy, eqGuard, binOp, Op.shift, show ¬ b < 0 by omega, shrv]
theorem y_cvW {src d : TypeId} {k' : IntKind} [hs : UT Tryz.prog src (.int k)] [hu : UT Tryz.prog d (.int k')] (hx : ev R x = .int k a) : Yields Tryz.prog w0 S L ⟨dst, .convert src d x, ty, pos, after, gd⟩ R (.int k' (wrapv k' a)) := y_cv hx rfl
end
theorem wrap_range (k : IntKind) (hk : k = .u8 ∨ k = .u16 ∨ k = .u32 ∨ k = .u64) (z : Int) : 0 ≤ k.wrap z ∧ k.wrap z < 2 ^ k.bits := by
  have h2 : (0 : Int) < 2 ^ k.bits := Int.pow_pos (by omega)
  have : k.wrap z = z % 2 ^ k.bits := by rcases hk with rfl | rfl | rfl | rfl <;> simp [IntKind.wrap, IntKind.signed]
  rw [this]; exact ⟨Int.emod_nonneg _ (by omega), Int.emod_lt_of_pos _ h2⟩
theorem wrapv_8 (z : Int) : 0 ≤ wrapv .u8 z ∧ wrapv .u8 z ≤ 255 := by have := wrap_range .u8 (.inl rfl) z; simp only [IntKind.bits] at this; unfold wrapv; omega
theorem wrapv_16 (z : Int) : 0 ≤ wrapv .u16 z ∧ wrapv .u16 z ≤ 65535 := by have := wrap_range .u16 (.inr (.inl rfl)) z; simp only [IntKind.bits] at this; unfold wrapv; omega
theorem wrapv_32 (z : Int) : 0 ≤ wrapv .u32 z ∧ wrapv .u32 z ≤ 4294967295 := by have := wrap_range .u32 (.inr (.inr (.inl rfl))) z; simp only [IntKind.bits] at this; unfold wrapv; omega
theorem shrv_range {k : IntKind} {a b : Int} (ha : 0 ≤ a) : 0 ≤ shrv k a b ∧ shrv k a b ≤ a := by
  unfold shrv
  have h2 : (0 : Int) < 2 ^ min b.toNat k.bits := Int.pow_pos (by omega)
  rw [Int.fdiv_eq_ediv_of_nonneg _ (by omega)]
  exact ⟨Int.ediv_nonneg ha (by omega), Int.ediv_le_self _ ha⟩
theorem bitv_range (op : BinOp) (k : IntKind) (hk : k = .u8 ∨ k = .u16 ∨ k = .u32 ∨ k = .u64) (a b : Int) : 0 ≤ bitv op k a b ∧ bitv op k a b < 2 ^ k.bits := by
  unfold bitv; split <;> exact wrap_range k hk _
theorem bitv_8 (op : BinOp) (a b : Int) : 0 ≤ bitv op .u8 a b ∧ bitv op .u8 a b ≤ 255 := by have := bitv_range op .u8 (.inl rfl) a b; simp only [IntKind.bits] at this; omega
theorem bitv_32 (op : BinOp) (a b : Int) : 0 ≤ bitv op .u32 a b ∧ bitv op .u32 a b ≤ 4294967295 := by have := bitv_range op .u32 (.inr (.inr (.inl rfl))) a b; simp only [IntKind.bits] at this; omega
theorem bitv_64 (op : BinOp) (a b : Int) : 0 ≤ bitv op .u64 a b ∧ bitv op .u64 a b ≤ 18446744073709551615 := by have := bitv_range op .u64 (.inr (.inr (.inr rfl))) a b; simp only [IntKind.bits] at this; omega
theorem and15 (a : Int) : 0 ≤ bitv .and .u32 a 15 ∧ bitv .and .u32 a 15 ≤ 15 := by
  have h := bitv_32 .and a 15
  refine ⟨h.1, ?_⟩
  have e : bitv .and .u32 a 15 = ((BitVec.ofInt 32 a &&& BitVec.ofInt 32 15).toNat : Int) := by
    have := (BitVec.ofInt 32 a &&& BitVec.ofInt 32 15).isLt
    show IntKind.u32.wrap ((BitVec.ofInt 32 a &&& BitVec.ofInt 32 15).toNat : Int) = _
    exact wi_u32 (by omega) (by omega)
  rw [e]
  have : (BitVec.ofInt 32 a &&& BitVec.ofInt 32 15).toNat ≤ 15 := by
    rw [BitVec.toNat_and]; exact Nat.and_le_right
  omega
inductive Evs (R : Regs) : List Operand → List Value → Prop
  | nil : Evs R [] []
  | cons {x : Operand} {v : Value} {l : List Operand} {vs : List Value} : ev R x = v → Evs R l vs → Evs R (x :: l) (v :: vs)
theorem Evs.map {R : Regs} : ∀ {l : List Operand} {vs : List Value}, Evs R l vs → l.map (ev R) = vs
  | _, _, .nil => rfl
  | _, _, .cons h k => by rw [List.map_cons, h, k.map]
theorem evs_ {R : Regs} {l : List Operand} {vs : List Value} (h : Evs R l vs := by (repeat (first | exact Evs.nil | (apply Evs.cons; (conv => lhs; whnf))))) : Evs R l vs := h
theorem y_mkL {w0 : World} {S : Nat → Prop} {R : Regs} {L : Hp} {dst : Option Tmp} {ty : TypeId} {pos : String} {after : Array Go.Edge} {gd : Option (Nat × Bool)} {f : Go.Fn} {a b : Array Operand} {p q : List Value} (ha : Evs R a.toList p) (hb : Evs R b.toList q) :
    Yields Tryz.prog w0 S L ⟨dst, .makeFunc f a b, ty, pos, after, gd⟩ R (.func f p.toArray q.toArray) :=
  y_mkf (Array.ext' (by rw [Array.toList_map]; exact ha.map)) (Array.ext' (by rw [Array.toList_map]; exact hb.map))
attribute [local irreducible] Yields cl blk pur rowc sv exC fo
theorem yl {w0 : World} {S : Nat → Prop} {R : Regs} {H : Hp} {o : Oper} {v : Value} (h : Yields Tryz.prog w0 S H o R v := by
    (first
      | exact y_move ev_ | exact y_assign ev_ | exact y_nilCheck (by rfl) | exact y_fa0 (by rfl) | exact y_faZ (by rfl) | exact y_faR (by rfl) | exact y_faF (by rfl) | exact y_fa (by rfl) (by rfl) | exact y_ld1 (by rfl) mem_ (by rfl) | exact y_ldW (by rfl) mem_ | exact y_ldN (by rfl) mem_ sg_ | exact y_extract (by rfl) (by rfl)
      | exact y_eql (by rfl) (by rfl) (by rfl) | exact y_neq (by rfl) (by rfl) (by rfl) | exact y_lss (by rfl) (by rfl) (by rfl) | exact y_leq (by rfl) (by rfl) (by rfl) | exact y_gtr (by rfl) (by rfl) (by rfl) | exact y_geq (by rfl) (by rfl) (by rfl)
      | exact y_not (by rfl) (by rfl) | exact y_eqN (by rfl) (by rfl) | exact y_neN (by rfl) (by rfl) | exact y_eB (by rfl) (by rfl) | exact y_nB (by rfl) (by rfl) | exact y_ln (by rfl) | exact y_pT (by rfl) ev_ | exact y_pF (by rfl) ev_
      | exact y_add (by rfl) (by rfl) wi_ | exact y_sub (by rfl) (by rfl) wi_ | exact y_mul (by rfl) (by rfl) wi_ | exact y_cv (by rfl) wi_ | exact y_f1 (by rfl) (by rfl) | exact y_bl0 | exact y_ldA (by rfl) mem_ (by rfl) (by rfl) (by omega) inferInstance | exact y_ldA1 (by rfl) mem_ (by rfl) (by omega) (by rfl) | exact y_ldAF (by rfl) mem_ (by rfl) (by omega) (by rfl) | exact y_ldAS (by rfl) mem_ (by rfl) (by omega) inferInstance sg_ | exact y_bld pts_ fill_ | exact y_ixN (by rfl) (by rfl) (by omega) | exact y_ixR (by rfl) (by rfl) (by omega) (by omega) | exact y_iA (by rfl) (by rfl) (by omega) (by omega) | (apply y_mkL; exact evs_; exact evs_) | exact y_bAnd (by rfl) (by rfl) | exact y_bOr (by rfl) (by rfl) | exact y_bXor (by rfl) (by rfl) | exact y_shl (by rfl) (by rfl) (by omega) | exact y_shr (by rfl) (by rfl) (by omega) | exact y_cvW (by rfl) | exact y_rm (by rfl) (by rfl) (by omega) (by omega) | exact y_qo (by rfl) (by rfl) (by omega) (by omega) (by omega) | exact y_mki (by rfl))) : Yields Tryz.prog w0 S H o R v := h

theorem qy_ {w0 : World} {S : Nat → Prop} {R : Regs} {L : Hp} {ops : Array Oper} {o : Oper} {v : Value} (h : qY Tryz.prog w0 S L ops o R v := by (first | exact qn (by rfl) yl | exact qt (by rfl) (by rfl) (by rfl) yl | exact qf (by rfl) (by rfl) (by rfl) (by rfl) | exact qu (by rfl) (by rfl) (by rfl))) : qY Tryz.prog w0 S L ops o R v := h
theorem allno {w0 : World} {S : Nat → Prop} {L : Hp} {ops : Array Oper} {l : List Oper} {o p : Oper} {R : Regs} {v : Value} {acc : List (Oper × Regs × Value)} (hk : keepK l o (p, (fun _ => undef), undef) = false) (h : allQ Tryz.prog w0 S ops L (acc.filter (keepK l o))) : allQ Tryz.prog w0 S ops L (((p, R, v) :: acc).filter (keepK l o)) := allQ_no (x := (p, R, v)) hk h
theorem allq_ {w0 : World} {S : Nat → Prop} {L : Hp} {ops : Array Oper} {l : List Oper} {o : Oper} {acc : List (Oper × Regs × Value)} (h : allQ Tryz.prog w0 S ops L (acc.filter (keepK l o)) := by (repeat (first | exact allQ_nil | refine allno (by decide +kernel) ?_ | refine allQ_yes qy_ ?_))) : allQ Tryz.prog w0 S ops L (acc.filter (keepK l o)) := h
theorem mem2_ {α : Type} {x : α} {L : List α} (h : x ∈ L := by (repeat (first | exact List.mem_cons_self | refine List.mem_cons_of_mem _ ?_))) : x ∈ L := h
theorem spl_ {L H E : Hp} (h : Spl L H E := by (repeat (first | exact Spl.nil | apply Spl.cons))) : Spl L H E := h
theorem alle_ {w0 : World} {S : Nat → Prop} {ops : Array Oper} {H : Hp} {acc : List (Nat × Oper × Regs × Value)} {kp : List Nat} (h : AllE Tryz.prog w0 S ops H acc kp := by (repeat (first | exact alle_nil | exact alle_end | refine alle_no (by decide) ?_ | refine alle_yes (fun E => qy_) ?_))) : AllE Tryz.prog w0 S ops H acc kp := h
theorem fr_ {n : Fp} {w0 : World} {S : Nat → Prop} {ops : Array Oper} {o : Oper} {R : Regs} {val : Nat → Value} {chk : Nat → Chunk} (h : FreshO Tryz.prog n w0 S ops o R val chk := by (first | exact fr_al (by rfl) | exact fr_bx (by rfl) ev_ vc_)) : FreshO Tryz.prog n w0 S ops o R val chk := h
theorem W {A : Prop} {B : Prop} (k : B) (h : Hold (B) → A := by
    (intro k
     (repeat (first
      | refine w_y (by rfl) (by rfl) (by rfl) yl ?_ | refine w_nil ?_ | refine w_seq ?_ | refine w_region ?_ | refine w_jump (by rfl) ?_ | refine w_block ?_ | refine w_true (by rfl) ?_ | refine w_false (by rfl) ?_ | refine w_skip ?_ | refine w_exit ?_ | refine w_ret ?_ | refine w_label ?_
      | refine w_st1 (by rfl) ev_ inferInstance upd_ sets_ ?_ | refine w_stW (by rfl) (by rfl) inferInstance inferInstance upd_ inferInstance ?_
      | refine w_gT (by rfl) (by rfl) (by rfl) (by rfl) ?_ | refine w_gF (by rfl) (by rfl) (by rfl) (by rfl) (by rfl) ?_ | refine w_gU (by rfl) (by rfl) (by rfl) (by rfl) (by rfl) ?_
      | refine w_qy (by rfl) (by rfl) yl ?_ | refine w_qnil ?_ | refine w_qgT (by rfl) (by rfl) (by rfl) ?_ | refine w_qgF (by rfl) (by rfl) (by rfl) (by rfl) ?_ | refine w_qgU (by rfl) (by rfl) (by rfl) (by rfl) ?_ | refine w_drawH (by decide +kernel) ?_ | refine w_drawA (by decide +kernel) ?_ | refine w_segA (by decide +kernel) ?_ | refine w_sgq ?_ | refine w_sgn ?_ | refine w_sgl (by rfl) ?_ | refine w_sqn ?_ | refine w_sqy (by rfl) (by rfl) yl ?_ | refine w_sqT (by rfl) (by rfl) (by rfl) ?_ | refine w_sqF (by rfl) (by rfl) (by rfl) (by rfl) ?_ | refine w_sqU (by rfl) (by rfl) (by rfl) (by rfl) ?_ | refine w_ke (by rfl) (by decide +kernel) (by rfl) qy_ ?_ | refine w_kl (by rfl) (by decide +kernel) (by rfl) qy_ ?_ | refine w_knil ?_ | refine w_tnil ?_ | refine w_tstep (by rfl) ?_ | (refine w_land (J := TailJ _ _ _ _ _ _ _ _ _ _) (by rfl) ?_; refine w_tjoin allq_ ?_) | (refine w_land (J := SegJ _ _ _ _ _ _ _ _ _) (by rfl) ?_; refine w_sjoin ?_) | refine w_dgq (by rfl) (by rfl) (fun E => qy_) ?_ | refine w_dgf (by rfl) (by rfl) fr_ ?_ | refine w_dgn ?_ | (refine w_dgm (by rfl) (fun E => ?_); (first | refine w_st1 (by rfl) ev_ inferInstance upd_ sets_ ?_ | refine w_stW (by rfl) (by rfl) inferInstance inferInstance upd_ inferInstance ?_); refine w_nil ?_; refine w_land (J := DagJ _ _ _ _ _ _ _ _ _ _ _ _) (by rfl) ?_; refine w_dgj spl_ alle_ ?_) | (refine w_land (J := DagJ _ _ _ _ _ _ _ _ _ _ _ _) (by rfl) ?_; refine w_dgj spl_ alle_ ?_)))
     exact k.h)) : A := h ⟨k⟩
theorem W1 {A : Prop} {B : Nat → Prop} (k : ∀ g1, B g1) (h : Hold (∀ g1, B g1) → A := by
    (intro k
     (repeat (first
      | refine w_y (by rfl) (by rfl) (by rfl) yl ?_ | refine w_nil ?_ | refine w_seq ?_ | refine w_region ?_ | refine w_jump (by rfl) ?_ | refine w_block ?_ | refine w_true (by rfl) ?_ | refine w_false (by rfl) ?_ | refine w_skip ?_ | refine w_exit ?_ | refine w_ret ?_ | refine w_label ?_
      | refine w_st1 (by rfl) ev_ inferInstance upd_ sets_ ?_ | refine w_stW (by rfl) (by rfl) inferInstance inferInstance upd_ inferInstance ?_
      | refine w_gT (by rfl) (by rfl) (by rfl) (by rfl) ?_ | refine w_gF (by rfl) (by rfl) (by rfl) (by rfl) (by rfl) ?_ | refine w_gU (by rfl) (by rfl) (by rfl) (by rfl) (by rfl) ?_
      | refine w_qy (by rfl) (by rfl) yl ?_ | refine w_qnil ?_ | refine w_qgT (by rfl) (by rfl) (by rfl) ?_ | refine w_qgF (by rfl) (by rfl) (by rfl) (by rfl) ?_ | refine w_qgU (by rfl) (by rfl) (by rfl) (by rfl) ?_ | refine w_drawH (by decide +kernel) ?_ | refine w_drawA (by decide +kernel) ?_ | refine w_segA (by decide +kernel) ?_ | refine w_sgq ?_ | refine w_sgn ?_ | refine w_sgl (by rfl) ?_ | refine w_sqn ?_ | refine w_sqy (by rfl) (by rfl) yl ?_ | refine w_sqT (by rfl) (by rfl) (by rfl) ?_ | refine w_sqF (by rfl) (by rfl) (by rfl) (by rfl) ?_ | refine w_sqU (by rfl) (by rfl) (by rfl) (by rfl) ?_ | refine w_ke (by rfl) (by decide +kernel) (by rfl) qy_ ?_ | refine w_kl (by rfl) (by decide +kernel) (by rfl) qy_ ?_ | refine w_knil ?_ | refine w_tnil ?_ | refine w_tstep (by rfl) ?_ | (refine w_land (J := TailJ _ _ _ _ _ _ _ _ _ _) (by rfl) ?_; refine w_tjoin allq_ ?_) | (refine w_land (J := SegJ _ _ _ _ _ _ _ _ _) (by rfl) ?_; refine w_sjoin ?_) | refine w_dgq (by rfl) (by rfl) (fun E => qy_) ?_ | refine w_dgf (by rfl) (by rfl) fr_ ?_ | refine w_dgn ?_ | (refine w_dgm (by rfl) (fun E => ?_); (first | refine w_st1 (by rfl) ev_ inferInstance upd_ sets_ ?_ | refine w_stW (by rfl) (by rfl) inferInstance inferInstance upd_ inferInstance ?_); refine w_nil ?_; refine w_land (J := DagJ _ _ _ _ _ _ _ _ _ _ _ _) (by rfl) ?_; refine w_dgj spl_ alle_ ?_) | (refine w_land (J := DagJ _ _ _ _ _ _ _ _ _ _ _ _) (by rfl) ?_; refine w_dgj spl_ alle_ ?_)))
     (first | refine w_al (by rfl) fun g1 => ?_ | refine w_bx (by rfl) ev_ vc_ fun g1 => ?_ | refine w_dga (by rfl) (by rfl) mem2_ fun g1 => ?_)
     (repeat (first
      | refine w_y (by rfl) (by rfl) (by rfl) yl ?_ | refine w_nil ?_ | refine w_seq ?_ | refine w_region ?_ | refine w_jump (by rfl) ?_ | refine w_block ?_ | refine w_true (by rfl) ?_ | refine w_false (by rfl) ?_ | refine w_skip ?_ | refine w_exit ?_ | refine w_ret ?_ | refine w_label ?_
      | refine w_st1 (by rfl) ev_ inferInstance upd_ sets_ ?_ | refine w_stW (by rfl) (by rfl) inferInstance inferInstance upd_ inferInstance ?_
      | refine w_gT (by rfl) (by rfl) (by rfl) (by rfl) ?_ | refine w_gF (by rfl) (by rfl) (by rfl) (by rfl) (by rfl) ?_ | refine w_gU (by rfl) (by rfl) (by rfl) (by rfl) (by rfl) ?_
      | refine w_qy (by rfl) (by rfl) yl ?_ | refine w_qnil ?_ | refine w_qgT (by rfl) (by rfl) (by rfl) ?_ | refine w_qgF (by rfl) (by rfl) (by rfl) (by rfl) ?_ | refine w_qgU (by rfl) (by rfl) (by rfl) (by rfl) ?_ | refine w_drawH (by decide +kernel) ?_ | refine w_drawA (by decide +kernel) ?_ | refine w_segA (by decide +kernel) ?_ | refine w_sgq ?_ | refine w_sgn ?_ | refine w_sgl (by rfl) ?_ | refine w_sqn ?_ | refine w_sqy (by rfl) (by rfl) yl ?_ | refine w_sqT (by rfl) (by rfl) (by rfl) ?_ | refine w_sqF (by rfl) (by rfl) (by rfl) (by rfl) ?_ | refine w_sqU (by rfl) (by rfl) (by rfl) (by rfl) ?_ | refine w_ke (by rfl) (by decide +kernel) (by rfl) qy_ ?_ | refine w_kl (by rfl) (by decide +kernel) (by rfl) qy_ ?_ | refine w_knil ?_ | refine w_tnil ?_ | refine w_tstep (by rfl) ?_ | (refine w_land (J := TailJ _ _ _ _ _ _ _ _ _ _) (by rfl) ?_; refine w_tjoin allq_ ?_) | (refine w_land (J := SegJ _ _ _ _ _ _ _ _ _) (by rfl) ?_; refine w_sjoin ?_) | refine w_dgq (by rfl) (by rfl) (fun E => qy_) ?_ | refine w_dgf (by rfl) (by rfl) fr_ ?_ | refine w_dgn ?_ | (refine w_dgm (by rfl) (fun E => ?_); (first | refine w_st1 (by rfl) ev_ inferInstance upd_ sets_ ?_ | refine w_stW (by rfl) (by rfl) inferInstance inferInstance upd_ inferInstance ?_); refine w_nil ?_; refine w_land (J := DagJ _ _ _ _ _ _ _ _ _ _ _ _) (by rfl) ?_; refine w_dgj spl_ alle_ ?_) | (refine w_land (J := DagJ _ _ _ _ _ _ _ _ _ _ _ _) (by rfl) ?_; refine w_dgj spl_ alle_ ?_)))
     exact k.h g1)) : A := h ⟨k⟩
theorem W2 {A : Prop} {B : Nat → Nat → Prop} (k : ∀ g1 g2, B g1 g2) (h : Hold (∀ g1 g2, B g1 g2) → A := by
    (intro k
     (repeat (first
      | refine w_y (by rfl) (by rfl) (by rfl) yl ?_ | refine w_nil ?_ | refine w_seq ?_ | refine w_region ?_ | refine w_jump (by rfl) ?_ | refine w_block ?_ | refine w_true (by rfl) ?_ | refine w_false (by rfl) ?_ | refine w_skip ?_ | refine w_exit ?_ | refine w_ret ?_ | refine w_label ?_
      | refine w_st1 (by rfl) ev_ inferInstance upd_ sets_ ?_ | refine w_stW (by rfl) (by rfl) inferInstance inferInstance upd_ inferInstance ?_
      | refine w_gT (by rfl) (by rfl) (by rfl) (by rfl) ?_ | refine w_gF (by rfl) (by rfl) (by rfl) (by rfl) (by rfl) ?_ | refine w_gU (by rfl) (by rfl) (by rfl) (by rfl) (by rfl) ?_
      | refine w_qy (by rfl) (by rfl) yl ?_ | refine w_qnil ?_ | refine w_qgT (by rfl) (by rfl) (by rfl) ?_ | refine w_qgF (by rfl) (by rfl) (by rfl) (by rfl) ?_ | refine w_qgU (by rfl) (by rfl) (by rfl) (by rfl) ?_ | refine w_drawH (by decide +kernel) ?_ | refine w_drawA (by decide +kernel) ?_ | refine w_segA (by decide +kernel) ?_ | refine w_sgq ?_ | refine w_sgn ?_ | refine w_sgl (by rfl) ?_ | refine w_sqn ?_ | refine w_sqy (by rfl) (by rfl) yl ?_ | refine w_sqT (by rfl) (by rfl) (by rfl) ?_ | refine w_sqF (by rfl) (by rfl) (by rfl) (by rfl) ?_ | refine w_sqU (by rfl) (by rfl) (by rfl) (by rfl) ?_ | refine w_ke (by rfl) (by decide +kernel) (by rfl) qy_ ?_ | refine w_kl (by rfl) (by decide +kernel) (by rfl) qy_ ?_ | refine w_knil ?_ | refine w_tnil ?_ | refine w_tstep (by rfl) ?_ | (refine w_land (J := TailJ _ _ _ _ _ _ _ _ _ _) (by rfl) ?_; refine w_tjoin allq_ ?_) | (refine w_land (J := SegJ _ _ _ _ _ _ _ _ _) (by rfl) ?_; refine w_sjoin ?_) | refine w_dgq (by rfl) (by rfl) (fun E => qy_) ?_ | refine w_dgf (by rfl) (by rfl) fr_ ?_ | refine w_dgn ?_ | (refine w_dgm (by rfl) (fun E => ?_); (first | refine w_st1 (by rfl) ev_ inferInstance upd_ sets_ ?_ | refine w_stW (by rfl) (by rfl) inferInstance inferInstance upd_ inferInstance ?_); refine w_nil ?_; refine w_land (J := DagJ _ _ _ _ _ _ _ _ _ _ _ _) (by rfl) ?_; refine w_dgj spl_ alle_ ?_) | (refine w_land (J := DagJ _ _ _ _ _ _ _ _ _ _ _ _) (by rfl) ?_; refine w_dgj spl_ alle_ ?_)))
     (first | refine w_al (by rfl) fun g1 => ?_ | refine w_bx (by rfl) ev_ vc_ fun g1 => ?_ | refine w_dga (by rfl) (by rfl) mem2_ fun g1 => ?_)
     (repeat (first
      | refine w_y (by rfl) (by rfl) (by rfl) yl ?_ | refine w_nil ?_ | refine w_seq ?_ | refine w_region ?_ | refine w_jump (by rfl) ?_ | refine w_block ?_ | refine w_true (by rfl) ?_ | refine w_false (by rfl) ?_ | refine w_skip ?_ | refine w_exit ?_ | refine w_ret ?_ | refine w_label ?_
      | refine w_st1 (by rfl) ev_ inferInstance upd_ sets_ ?_ | refine w_stW (by rfl) (by rfl) inferInstance inferInstance upd_ inferInstance ?_
      | refine w_gT (by rfl) (by rfl) (by rfl) (by rfl) ?_ | refine w_gF (by rfl) (by rfl) (by rfl) (by rfl) (by rfl) ?_ | refine w_gU (by rfl) (by rfl) (by rfl) (by rfl) (by rfl) ?_
      | refine w_qy (by rfl) (by rfl) yl ?_ | refine w_qnil ?_ | refine w_qgT (by rfl) (by rfl) (by rfl) ?_ | refine w_qgF (by rfl) (by rfl) (by rfl) (by rfl) ?_ | refine w_qgU (by rfl) (by rfl) (by rfl) (by rfl) ?_ | refine w_drawH (by decide +kernel) ?_ | refine w_drawA (by decide +kernel) ?_ | refine w_segA (by decide +kernel) ?_ | refine w_sgq ?_ | refine w_sgn ?_ | refine w_sgl (by rfl) ?_ | refine w_sqn ?_ | refine w_sqy (by rfl) (by rfl) yl ?_ | refine w_sqT (by rfl) (by rfl) (by rfl) ?_ | refine w_sqF (by rfl) (by rfl) (by rfl) (by rfl) ?_ | refine w_sqU (by rfl) (by rfl) (by rfl) (by rfl) ?_ | refine w_ke (by rfl) (by decide +kernel) (by rfl) qy_ ?_ | refine w_kl (by rfl) (by decide +kernel) (by rfl) qy_ ?_ | refine w_knil ?_ | refine w_tnil ?_ | refine w_tstep (by rfl) ?_ | (refine w_land (J := TailJ _ _ _ _ _ _ _ _ _ _) (by rfl) ?_; refine w_tjoin allq_ ?_) | (refine w_land (J := SegJ _ _ _ _ _ _ _ _ _) (by rfl) ?_; refine w_sjoin ?_) | refine w_dgq (by rfl) (by rfl) (fun E => qy_) ?_ | refine w_dgf (by rfl) (by rfl) fr_ ?_ | refine w_dgn ?_ | (refine w_dgm (by rfl) (fun E => ?_); (first | refine w_st1 (by rfl) ev_ inferInstance upd_ sets_ ?_ | refine w_stW (by rfl) (by rfl) inferInstance inferInstance upd_ inferInstance ?_); refine w_nil ?_; refine w_land (J := DagJ _ _ _ _ _ _ _ _ _ _ _ _) (by rfl) ?_; refine w_dgj spl_ alle_ ?_) | (refine w_land (J := DagJ _ _ _ _ _ _ _ _ _ _ _ _) (by rfl) ?_; refine w_dgj spl_ alle_ ?_)))
     (first | refine w_al (by rfl) fun g2 => ?_ | refine w_bx (by rfl) ev_ vc_ fun g2 => ?_ | refine w_dga (by rfl) (by rfl) mem2_ fun g2 => ?_)
     (repeat (first
      | refine w_y (by rfl) (by rfl) (by rfl) yl ?_ | refine w_nil ?_ | refine w_seq ?_ | refine w_region ?_ | refine w_jump (by rfl) ?_ | refine w_block ?_ | refine w_true (by rfl) ?_ | refine w_false (by rfl) ?_ | refine w_skip ?_ | refine w_exit ?_ | refine w_ret ?_ | refine w_label ?_
      | refine w_st1 (by rfl) ev_ inferInstance upd_ sets_ ?_ | refine w_stW (by rfl) (by rfl) inferInstance inferInstance upd_ inferInstance ?_
      | refine w_gT (by rfl) (by rfl) (by rfl) (by rfl) ?_ | refine w_gF (by rfl) (by rfl) (by rfl) (by rfl) (by rfl) ?_ | refine w_gU (by rfl) (by rfl) (by rfl) (by rfl) (by rfl) ?_
      | refine w_qy (by rfl) (by rfl) yl ?_ | refine w_qnil ?_ | refine w_qgT (by rfl) (by rfl) (by rfl) ?_ | refine w_qgF (by rfl) (by rfl) (by rfl) (by rfl) ?_ | refine w_qgU (by rfl) (by rfl) (by rfl) (by rfl) ?_ | refine w_drawH (by decide +kernel) ?_ | refine w_drawA (by decide +kernel) ?_ | refine w_segA (by decide +kernel) ?_ | refine w_sgq ?_ | refine w_sgn ?_ | refine w_sgl (by rfl) ?_ | refine w_sqn ?_ | refine w_sqy (by rfl) (by rfl) yl ?_ | refine w_sqT (by rfl) (by rfl) (by rfl) ?_ | refine w_sqF (by rfl) (by rfl) (by rfl) (by rfl) ?_ | refine w_sqU (by rfl) (by rfl) (by rfl) (by rfl) ?_ | refine w_ke (by rfl) (by decide +kernel) (by rfl) qy_ ?_ | refine w_kl (by rfl) (by decide +kernel) (by rfl) qy_ ?_ | refine w_knil ?_ | refine w_tnil ?_ | refine w_tstep (by rfl) ?_ | (refine w_land (J := TailJ _ _ _ _ _ _ _ _ _ _) (by rfl) ?_; refine w_tjoin allq_ ?_) | (refine w_land (J := SegJ _ _ _ _ _ _ _ _ _) (by rfl) ?_; refine w_sjoin ?_) | refine w_dgq (by rfl) (by rfl) (fun E => qy_) ?_ | refine w_dgf (by rfl) (by rfl) fr_ ?_ | refine w_dgn ?_ | (refine w_dgm (by rfl) (fun E => ?_); (first | refine w_st1 (by rfl) ev_ inferInstance upd_ sets_ ?_ | refine w_stW (by rfl) (by rfl) inferInstance inferInstance upd_ inferInstance ?_); refine w_nil ?_; refine w_land (J := DagJ _ _ _ _ _ _ _ _ _ _ _ _) (by rfl) ?_; refine w_dgj spl_ alle_ ?_) | (refine w_land (J := DagJ _ _ _ _ _ _ _ _ _ _ _ _) (by rfl) ?_; refine w_dgj spl_ alle_ ?_)))
     exact k.h g1 g2)) : A := h ⟨k⟩
theorem W3 {A : Prop} {B : Nat → Nat → Nat → Prop} (k : ∀ g1 g2 g3, B g1 g2 g3) (h : Hold (∀ g1 g2 g3, B g1 g2 g3) → A := by
    (intro k
     (repeat (first
      | refine w_y (by rfl) (by rfl) (by rfl) yl ?_ | refine w_nil ?_ | refine w_seq ?_ | refine w_region ?_ | refine w_jump (by rfl) ?_ | refine w_block ?_ | refine w_true (by rfl) ?_ | refine w_false (by rfl) ?_ | refine w_skip ?_ | refine w_exit ?_ | refine w_ret ?_ | refine w_label ?_
      | refine w_st1 (by rfl) ev_ inferInstance upd_ sets_ ?_ | refine w_stW (by rfl) (by rfl) inferInstance inferInstance upd_ inferInstance ?_
      | refine w_gT (by rfl) (by rfl) (by rfl) (by rfl) ?_ | refine w_gF (by rfl) (by rfl) (by rfl) (by rfl) (by rfl) ?_ | refine w_gU (by rfl) (by rfl) (by rfl) (by rfl) (by rfl) ?_
      | refine w_qy (by rfl) (by rfl) yl ?_ | refine w_qnil ?_ | refine w_qgT (by rfl) (by rfl) (by rfl) ?_ | refine w_qgF (by rfl) (by rfl) (by rfl) (by rfl) ?_ | refine w_qgU (by rfl) (by rfl) (by rfl) (by rfl) ?_ | refine w_drawH (by decide +kernel) ?_ | refine w_drawA (by decide +kernel) ?_ | refine w_segA (by decide +kernel) ?_ | refine w_sgq ?_ | refine w_sgn ?_ | refine w_sgl (by rfl) ?_ | refine w_sqn ?_ | refine w_sqy (by rfl) (by rfl) yl ?_ | refine w_sqT (by rfl) (by rfl) (by rfl) ?_ | refine w_sqF (by rfl) (by rfl) (by rfl) (by rfl) ?_ | refine w_sqU (by rfl) (by rfl) (by rfl) (by rfl) ?_ | refine w_ke (by rfl) (by decide +kernel) (by rfl) qy_ ?_ | refine w_kl (by rfl) (by decide +kernel) (by rfl) qy_ ?_ | refine w_knil ?_ | refine w_tnil ?_ | refine w_tstep (by rfl) ?_ | (refine w_land (J := TailJ _ _ _ _ _ _ _ _ _ _) (by rfl) ?_; refine w_tjoin allq_ ?_) | (refine w_land (J := SegJ _ _ _ _ _ _ _ _ _) (by rfl) ?_; refine w_sjoin ?_) | refine w_dgq (by rfl) (by rfl) (fun E => qy_) ?_ | refine w_dgf (by rfl) (by rfl) fr_ ?_ | refine w_dgn ?_ | (refine w_dgm (by rfl) (fun E => ?_); (first | refine w_st1 (by rfl) ev_ inferInstance upd_ sets_ ?_ | refine w_stW (by rfl) (by rfl) inferInstance inferInstance upd_ inferInstance ?_); refine w_nil ?_; refine w_land (J := DagJ _ _ _ _ _ _ _ _ _ _ _ _) (by rfl) ?_; refine w_dgj spl_ alle_ ?_) | (refine w_land (J := DagJ _ _ _ _ _ _ _ _ _ _ _ _) (by rfl) ?_; refine w_dgj spl_ alle_ ?_)))
     (first | refine w_al (by rfl) fun g1 => ?_ | refine w_bx (by rfl) ev_ vc_ fun g1 => ?_ | refine w_dga (by rfl) (by rfl) mem2_ fun g1 => ?_)
     (repeat (first
      | refine w_y (by rfl) (by rfl) (by rfl) yl ?_ | refine w_nil ?_ | refine w_seq ?_ | refine w_region ?_ | refine w_jump (by rfl) ?_ | refine w_block ?_ | refine w_true (by rfl) ?_ | refine w_false (by rfl) ?_ | refine w_skip ?_ | refine w_exit ?_ | refine w_ret ?_ | refine w_label ?_
      | refine w_st1 (by rfl) ev_ inferInstance upd_ sets_ ?_ | refine w_stW (by rfl) (by rfl) inferInstance inferInstance upd_ inferInstance ?_
      | refine w_gT (by rfl) (by rfl) (by rfl) (by rfl) ?_ | refine w_gF (by rfl) (by rfl) (by rfl) (by rfl) (by rfl) ?_ | refine w_gU (by rfl) (by rfl) (by rfl) (by rfl) (by rfl) ?_
      | refine w_qy (by rfl) (by rfl) yl ?_ | refine w_qnil ?_ | refine w_qgT (by rfl) (by rfl) (by rfl) ?_ | refine w_qgF (by rfl) (by rfl) (by rfl) (by rfl) ?_ | refine w_qgU (by rfl) (by rfl) (by rfl) (by rfl) ?_ | refine w_drawH (by decide +kernel) ?_ | refine w_drawA (by decide +kernel) ?_ | refine w_segA (by decide +kernel) ?_ | refine w_sgq ?_ | refine w_sgn ?_ | refine w_sgl (by rfl) ?_ | refine w_sqn ?_ | refine w_sqy (by rfl) (by rfl) yl ?_ | refine w_sqT (by rfl) (by rfl) (by rfl) ?_ | refine w_sqF (by rfl) (by rfl) (by rfl) (by rfl) ?_ | refine w_sqU (by rfl) (by rfl) (by rfl) (by rfl) ?_ | refine w_ke (by rfl) (by decide +kernel) (by rfl) qy_ ?_ | refine w_kl (by rfl) (by decide +kernel) (by rfl) qy_ ?_ | refine w_knil ?_ | refine w_tnil ?_ | refine w_tstep (by rfl) ?_ | (refine w_land (J := TailJ _ _ _ _ _ _ _ _ _ _) (by rfl) ?_; refine w_tjoin allq_ ?_) | (refine w_land (J := SegJ _ _ _ _ _ _ _ _ _) (by rfl) ?_; refine w_sjoin ?_) | refine w_dgq (by rfl) (by rfl) (fun E => qy_) ?_ | refine w_dgf (by rfl) (by rfl) fr_ ?_ | refine w_dgn ?_ | (refine w_dgm (by rfl) (fun E => ?_); (first | refine w_st1 (by rfl) ev_ inferInstance upd_ sets_ ?_ | refine w_stW (by rfl) (by rfl) inferInstance inferInstance upd_ inferInstance ?_); refine w_nil ?_; refine w_land (J := DagJ _ _ _ _ _ _ _ _ _ _ _ _) (by rfl) ?_; refine w_dgj spl_ alle_ ?_) | (refine w_land (J := DagJ _ _ _ _ _ _ _ _ _ _ _ _) (by rfl) ?_; refine w_dgj spl_ alle_ ?_)))
     (first | refine w_al (by rfl) fun g2 => ?_ | refine w_bx (by rfl) ev_ vc_ fun g2 => ?_ | refine w_dga (by rfl) (by rfl) mem2_ fun g2 => ?_)
     (repeat (first
      | refine w_y (by rfl) (by rfl) (by rfl) yl ?_ | refine w_nil ?_ | refine w_seq ?_ | refine w_region ?_ | refine w_jump (by rfl) ?_ | refine w_block ?_ | refine w_true (by rfl) ?_ | refine w_false (by rfl) ?_ | refine w_skip ?_ | refine w_exit ?_ | refine w_ret ?_ | refine w_label ?_
      | refine w_st1 (by rfl) ev_ inferInstance upd_ sets_ ?_ | refine w_stW (by rfl) (by rfl) inferInstance inferInstance upd_ inferInstance ?_
      | refine w_gT (by rfl) (by rfl) (by rfl) (by rfl) ?_ | refine w_gF (by rfl) (by rfl) (by rfl) (by rfl) (by rfl) ?_ | refine w_gU (by rfl) (by rfl) (by rfl) (by rfl) (by rfl) ?_
      | refine w_qy (by rfl) (by rfl) yl ?_ | refine w_qnil ?_ | refine w_qgT (by rfl) (by rfl) (by rfl) ?_ | refine w_qgF (by rfl) (by rfl) (by rfl) (by rfl) ?_ | refine w_qgU (by rfl) (by rfl) (by rfl) (by rfl) ?_ | refine w_drawH (by decide +kernel) ?_ | refine w_drawA (by decide +kernel) ?_ | refine w_segA (by decide +kernel) ?_ | refine w_sgq ?_ | refine w_sgn ?_ | refine w_sgl (by rfl) ?_ | refine w_sqn ?_ | refine w_sqy (by rfl) (by rfl) yl ?_ | refine w_sqT (by rfl) (by rfl) (by rfl) ?_ | refine w_sqF (by rfl) (by rfl) (by rfl) (by rfl) ?_ | refine w_sqU (by rfl) (by rfl) (by rfl) (by rfl) ?_ | refine w_ke (by rfl) (by decide +kernel) (by rfl) qy_ ?_ | refine w_kl (by rfl) (by decide +kernel) (by rfl) qy_ ?_ | refine w_knil ?_ | refine w_tnil ?_ | refine w_tstep (by rfl) ?_ | (refine w_land (J := TailJ _ _ _ _ _ _ _ _ _ _) (by rfl) ?_; refine w_tjoin allq_ ?_) | (refine w_land (J := SegJ _ _ _ _ _ _ _ _ _) (by rfl) ?_; refine w_sjoin ?_) | refine w_dgq (by rfl) (by rfl) (fun E => qy_) ?_ | refine w_dgf (by rfl) (by rfl) fr_ ?_ | refine w_dgn ?_ | (refine w_dgm (by rfl) (fun E => ?_); (first | refine w_st1 (by rfl) ev_ inferInstance upd_ sets_ ?_ | refine w_stW (by rfl) (by rfl) inferInstance inferInstance upd_ inferInstance ?_); refine w_nil ?_; refine w_land (J := DagJ _ _ _ _ _ _ _ _ _ _ _ _) (by rfl) ?_; refine w_dgj spl_ alle_ ?_) | (refine w_land (J := DagJ _ _ _ _ _ _ _ _ _ _ _ _) (by rfl) ?_; refine w_dgj spl_ alle_ ?_)))
     (first | refine w_al (by rfl) fun g3 => ?_ | refine w_bx (by rfl) ev_ vc_ fun g3 => ?_ | refine w_dga (by rfl) (by rfl) mem2_ fun g3 => ?_)
     (repeat (first
      | refine w_y (by rfl) (by rfl) (by rfl) yl ?_ | refine w_nil ?_ | refine w_seq ?_ | refine w_region ?_ | refine w_jump (by rfl) ?_ | refine w_block ?_ | refine w_true (by rfl) ?_ | refine w_false (by rfl) ?_ | refine w_skip ?_ | refine w_exit ?_ | refine w_ret ?_ | refine w_label ?_
      | refine w_st1 (by rfl) ev_ inferInstance upd_ sets_ ?_ | refine w_stW (by rfl) (by rfl) inferInstance inferInstance upd_ inferInstance ?_
      | refine w_gT (by rfl) (by rfl) (by rfl) (by rfl) ?_ | refine w_gF (by rfl) (by rfl) (by rfl) (by rfl) (by rfl) ?_ | refine w_gU (by rfl) (by rfl) (by rfl) (by rfl) (by rfl) ?_
      | refine w_qy (by rfl) (by rfl) yl ?_ | refine w_qnil ?_ | refine w_qgT (by rfl) (by rfl) (by rfl) ?_ | refine w_qgF (by rfl) (by rfl) (by rfl) (by rfl) ?_ | refine w_qgU (by rfl) (by rfl) (by rfl) (by rfl) ?_ | refine w_drawH (by decide +kernel) ?_ | refine w_drawA (by decide +kernel) ?_ | refine w_segA (by decide +kernel) ?_ | refine w_sgq ?_ | refine w_sgn ?_ | refine w_sgl (by rfl) ?_ | refine w_sqn ?_ | refine w_sqy (by rfl) (by rfl) yl ?_ | refine w_sqT (by rfl) (by rfl) (by rfl) ?_ | refine w_sqF (by rfl) (by rfl) (by rfl) (by rfl) ?_ | refine w_sqU (by rfl) (by rfl) (by rfl) (by rfl) ?_ | refine w_ke (by rfl) (by decide +kernel) (by rfl) qy_ ?_ | refine w_kl (by rfl) (by decide +kernel) (by rfl) qy_ ?_ | refine w_knil ?_ | refine w_tnil ?_ | refine w_tstep (by rfl) ?_ | (refine w_land (J := TailJ _ _ _ _ _ _ _ _ _ _) (by rfl) ?_; refine w_tjoin allq_ ?_) | (refine w_land (J := SegJ _ _ _ _ _ _ _ _ _) (by rfl) ?_; refine w_sjoin ?_) | refine w_dgq (by rfl) (by rfl) (fun E => qy_) ?_ | refine w_dgf (by rfl) (by rfl) fr_ ?_ | refine w_dgn ?_ | (refine w_dgm (by rfl) (fun E => ?_); (first | refine w_st1 (by rfl) ev_ inferInstance upd_ sets_ ?_ | refine w_stW (by rfl) (by rfl) inferInstance inferInstance upd_ inferInstance ?_); refine w_nil ?_; refine w_land (J := DagJ _ _ _ _ _ _ _ _ _ _ _ _) (by rfl) ?_; refine w_dgj spl_ alle_ ?_) | (refine w_land (J := DagJ _ _ _ _ _ _ _ _ _ _ _ _) (by rfl) ?_; refine w_dgj spl_ alle_ ?_)))
     exact k.h g1 g2 g3)) : A := h ⟨k⟩
theorem W4 {A : Prop} {B : Nat → Nat → Nat → Nat → Prop} (k : ∀ g1 g2 g3 g4, B g1 g2 g3 g4) (h : Hold (∀ g1 g2 g3 g4, B g1 g2 g3 g4) → A := by
    (intro k
     (repeat (first
      | refine w_y (by rfl) (by rfl) (by rfl) yl ?_ | refine w_nil ?_ | refine w_seq ?_ | refine w_region ?_ | refine w_jump (by rfl) ?_ | refine w_block ?_ | refine w_true (by rfl) ?_ | refine w_false (by rfl) ?_ | refine w_skip ?_ | refine w_exit ?_ | refine w_ret ?_ | refine w_label ?_
      | refine w_st1 (by rfl) ev_ inferInstance upd_ sets_ ?_ | refine w_stW (by rfl) (by rfl) inferInstance inferInstance upd_ inferInstance ?_
      | refine w_gT (by rfl) (by rfl) (by rfl) (by rfl) ?_ | refine w_gF (by rfl) (by rfl) (by rfl) (by rfl) (by rfl) ?_ | refine w_gU (by rfl) (by rfl) (by rfl) (by rfl) (by rfl) ?_
      | refine w_qy (by rfl) (by rfl) yl ?_ | refine w_qnil ?_ | refine w_qgT (by rfl) (by rfl) (by rfl) ?_ | refine w_qgF (by rfl) (by rfl) (by rfl) (by rfl) ?_ | refine w_qgU (by rfl) (by rfl) (by rfl) (by rfl) ?_ | refine w_drawH (by decide +kernel) ?_ | refine w_drawA (by decide +kernel) ?_ | refine w_segA (by decide +kernel) ?_ | refine w_sgq ?_ | refine w_sgn ?_ | refine w_sgl (by rfl) ?_ | refine w_sqn ?_ | refine w_sqy (by rfl) (by rfl) yl ?_ | refine w_sqT (by rfl) (by rfl) (by rfl) ?_ | refine w_sqF (by rfl) (by rfl) (by rfl) (by rfl) ?_ | refine w_sqU (by rfl) (by rfl) (by rfl) (by rfl) ?_ | refine w_ke (by rfl) (by decide +kernel) (by rfl) qy_ ?_ | refine w_kl (by rfl) (by decide +kernel) (by rfl) qy_ ?_ | refine w_knil ?_ | refine w_tnil ?_ | refine w_tstep (by rfl) ?_ | (refine w_land (J := TailJ _ _ _ _ _ _ _ _ _ _) (by rfl) ?_; refine w_tjoin allq_ ?_) | (refine w_land (J := SegJ _ _ _ _ _ _ _ _ _) (by rfl) ?_; refine w_sjoin ?_) | refine w_dgq (by rfl) (by rfl) (fun E => qy_) ?_ | refine w_dgf (by rfl) (by rfl) fr_ ?_ | refine w_dgn ?_ | (refine w_dgm (by rfl) (fun E => ?_); (first | refine w_st1 (by rfl) ev_ inferInstance upd_ sets_ ?_ | refine w_stW (by rfl) (by rfl) inferInstance inferInstance upd_ inferInstance ?_); refine w_nil ?_; refine w_land (J := DagJ _ _ _ _ _ _ _ _ _ _ _ _) (by rfl) ?_; refine w_dgj spl_ alle_ ?_) | (refine w_land (J := DagJ _ _ _ _ _ _ _ _ _ _ _ _) (by rfl) ?_; refine w_dgj spl_ alle_ ?_)))
     (first | refine w_al (by rfl) fun g1 => ?_ | refine w_bx (by rfl) ev_ vc_ fun g1 => ?_ | refine w_dga (by rfl) (by rfl) mem2_ fun g1 => ?_)
     (repeat (first
      | refine w_y (by rfl) (by rfl) (by rfl) yl ?_ | refine w_nil ?_ | refine w_seq ?_ | refine w_region ?_ | refine w_jump (by rfl) ?_ | refine w_block ?_ | refine w_true (by rfl) ?_ | refine w_false (by rfl) ?_ | refine w_skip ?_ | refine w_exit ?_ | refine w_ret ?_ | refine w_label ?_
      | refine w_st1 (by rfl) ev_ inferInstance upd_ sets_ ?_ | refine w_stW (by rfl) (by rfl) inferInstance inferInstance upd_ inferInstance ?_
      | refine w_gT (by rfl) (by rfl) (by rfl) (by rfl) ?_ | refine w_gF (by rfl) (by rfl) (by rfl) (by rfl) (by rfl) ?_ | refine w_gU (by rfl) (by rfl) (by rfl) (by rfl) (by rfl) ?_
      | refine w_qy (by rfl) (by rfl) yl ?_ | refine w_qnil ?_ | refine w_qgT (by rfl) (by rfl) (by rfl) ?_ | refine w_qgF (by rfl) (by rfl) (by rfl) (by rfl) ?_ | refine w_qgU (by rfl) (by rfl) (by rfl) (by rfl) ?_ | refine w_drawH (by decide +kernel) ?_ | refine w_drawA (by decide +kernel) ?_ | refine w_segA (by decide +kernel) ?_ | refine w_sgq ?_ | refine w_sgn ?_ | refine w_sgl (by rfl) ?_ | refine w_sqn ?_ | refine w_sqy (by rfl) (by rfl) yl ?_ | refine w_sqT (by rfl) (by rfl) (by rfl) ?_ | refine w_sqF (by rfl) (by rfl) (by rfl) (by rfl) ?_ | refine w_sqU (by rfl) (by rfl) (by rfl) (by rfl) ?_ | refine w_ke (by rfl) (by decide +kernel) (by rfl) qy_ ?_ | refine w_kl (by rfl) (by decide +kernel) (by rfl) qy_ ?_ | refine w_knil ?_ | refine w_tnil ?_ | refine w_tstep (by rfl) ?_ | (refine w_land (J := TailJ _ _ _ _ _ _ _ _ _ _) (by rfl) ?_; refine w_tjoin allq_ ?_) | (refine w_land (J := SegJ _ _ _ _ _ _ _ _ _) (by rfl) ?_; refine w_sjoin ?_) | refine w_dgq (by rfl) (by rfl) (fun E => qy_) ?_ | refine w_dgf (by rfl) (by rfl) fr_ ?_ | refine w_dgn ?_ | (refine w_dgm (by rfl) (fun E => ?_); (first | refine w_st1 (by rfl) ev_ inferInstance upd_ sets_ ?_ | refine w_stW (by rfl) (by rfl) inferInstance inferInstance upd_ inferInstance ?_); refine w_nil ?_; refine w_land (J := DagJ _ _ _ _ _ _ _ _ _ _ _ _) (by rfl) ?_; refine w_dgj spl_ alle_ ?_) | (refine w_land (J := DagJ _ _ _ _ _ _ _ _ _ _ _ _) (by rfl) ?_; refine w_dgj spl_ alle_ ?_)))
     (first | refine w_al (by rfl) fun g2 => ?_ | refine w_bx (by rfl) ev_ vc_ fun g2 => ?_ | refine w_dga (by rfl) (by rfl) mem2_ fun g2 => ?_)
     (repeat (first
      | refine w_y (by rfl) (by rfl) (by rfl) yl ?_ | refine w_nil ?_ | refine w_seq ?_ | refine w_region ?_ | refine w_jump (by rfl) ?_ | refine w_block ?_ | refine w_true (by rfl) ?_ | refine w_false (by rfl) ?_ | refine w_skip ?_ | refine w_exit ?_ | refine w_ret ?_ | refine w_label ?_
      | refine w_st1 (by rfl) ev_ inferInstance upd_ sets_ ?_ | refine w_stW (by rfl) (by rfl) inferInstance inferInstance upd_ inferInstance ?_
      | refine w_gT (by rfl) (by rfl) (by rfl) (by rfl) ?_ | refine w_gF (by rfl) (by rfl) (by rfl) (by rfl) (by rfl) ?_ | refine w_gU (by rfl) (by rfl) (by rfl) (by rfl) (by rfl) ?_
      | refine w_qy (by rfl) (by rfl) yl ?_ | refine w_qnil ?_ | refine w_qgT (by rfl) (by rfl) (by rfl) ?_ | refine w_qgF (by rfl) (by rfl) (by rfl) (by rfl) ?_ | refine w_qgU (by rfl) (by rfl) (by rfl) (by rfl) ?_ | refine w_drawH (by decide +kernel) ?_ | refine w_drawA (by decide +kernel) ?_ | refine w_segA (by decide +kernel) ?_ | refine w_sgq ?_ | refine w_sgn ?_ | refine w_sgl (by rfl) ?_ | refine w_sqn ?_ | refine w_sqy (by rfl) (by rfl) yl ?_ | refine w_sqT (by rfl) (by rfl) (by rfl) ?_ | refine w_sqF (by rfl) (by rfl) (by rfl) (by rfl) ?_ | refine w_sqU (by rfl) (by rfl) (by rfl) (by rfl) ?_ | refine w_ke (by rfl) (by decide +kernel) (by rfl) qy_ ?_ | refine w_kl (by rfl) (by decide +kernel) (by rfl) qy_ ?_ | refine w_knil ?_ | refine w_tnil ?_ | refine w_tstep (by rfl) ?_ | (refine w_land (J := TailJ _ _ _ _ _ _ _ _ _ _) (by rfl) ?_; refine w_tjoin allq_ ?_) | (refine w_land (J := SegJ _ _ _ _ _ _ _ _ _) (by rfl) ?_; refine w_sjoin ?_) | refine w_dgq (by rfl) (by rfl) (fun E => qy_) ?_ | refine w_dgf (by rfl) (by rfl) fr_ ?_ | refine w_dgn ?_ | (refine w_dgm (by rfl) (fun E => ?_); (first | refine w_st1 (by rfl) ev_ inferInstance upd_ sets_ ?_ | refine w_stW (by rfl) (by rfl) inferInstance inferInstance upd_ inferInstance ?_); refine w_nil ?_; refine w_land (J := DagJ _ _ _ _ _ _ _ _ _ _ _ _) (by rfl) ?_; refine w_dgj spl_ alle_ ?_) | (refine w_land (J := DagJ _ _ _ _ _ _ _ _ _ _ _ _) (by rfl) ?_; refine w_dgj spl_ alle_ ?_)))
     (first | refine w_al (by rfl) fun g3 => ?_ | refine w_bx (by rfl) ev_ vc_ fun g3 => ?_ | refine w_dga (by rfl) (by rfl) mem2_ fun g3 => ?_)
     (repeat (first
      | refine w_y (by rfl) (by rfl) (by rfl) yl ?_ | refine w_nil ?_ | refine w_seq ?_ | refine w_region ?_ | refine w_jump (by rfl) ?_ | refine w_block ?_ | refine w_true (by rfl) ?_ | refine w_false (by rfl) ?_ | refine w_skip ?_ | refine w_exit ?_ | refine w_ret ?_ | refine w_label ?_
      | refine w_st1 (by rfl) ev_ inferInstance upd_ sets_ ?_ | refine w_stW (by rfl) (by rfl) inferInstance inferInstance upd_ inferInstance ?_
      | refine w_gT (by rfl) (by rfl) (by rfl) (by rfl) ?_ | refine w_gF (by rfl) (by rfl) (by rfl) (by rfl) (by rfl) ?_ | refine w_gU (by rfl) (by rfl) (by rfl) (by rfl) (by rfl) ?_
      | refine w_qy (by rfl) (by rfl) yl ?_ | refine w_qnil ?_ | refine w_qgT (by rfl) (by rfl) (by rfl) ?_ | refine w_qgF (by rfl) (by rfl) (by rfl) (by rfl) ?_ | refine w_qgU (by rfl) (by rfl) (by rfl) (by rfl) ?_ | refine w_drawH (by decide +kernel) ?_ | refine w_drawA (by decide +kernel) ?_ | refine w_segA (by decide +kernel) ?_ | refine w_sgq ?_ | refine w_sgn ?_ | refine w_sgl (by rfl) ?_ | refine w_sqn ?_ | refine w_sqy (by rfl) (by rfl) yl ?_ | refine w_sqT (by rfl) (by rfl) (by rfl) ?_ | refine w_sqF (by rfl) (by rfl) (by rfl) (by rfl) ?_ | refine w_sqU (by rfl) (by rfl) (by rfl) (by rfl) ?_ | refine w_ke (by rfl) (by decide +kernel) (by rfl) qy_ ?_ | refine w_kl (by rfl) (by decide +kernel) (by rfl) qy_ ?_ | refine w_knil ?_ | refine w_tnil ?_ | refine w_tstep (by rfl) ?_ | (refine w_land (J := TailJ _ _ _ _ _ _ _ _ _ _) (by rfl) ?_; refine w_tjoin allq_ ?_) | (refine w_land (J := SegJ _ _ _ _ _ _ _ _ _) (by rfl) ?_; refine w_sjoin ?_) | refine w_dgq (by rfl) (by rfl) (fun E => qy_) ?_ | refine w_dgf (by rfl) (by rfl) fr_ ?_ | refine w_dgn ?_ | (refine w_dgm (by rfl) (fun E => ?_); (first | refine w_st1 (by rfl) ev_ inferInstance upd_ sets_ ?_ | refine w_stW (by rfl) (by rfl) inferInstance inferInstance upd_ inferInstance ?_); refine w_nil ?_; refine w_land (J := DagJ _ _ _ _ _ _ _ _ _ _ _ _) (by rfl) ?_; refine w_dgj spl_ alle_ ?_) | (refine w_land (J := DagJ _ _ _ _ _ _ _ _ _ _ _ _) (by rfl) ?_; refine w_dgj spl_ alle_ ?_)))
     (first | refine w_al (by rfl) fun g4 => ?_ | refine w_bx (by rfl) ev_ vc_ fun g4 => ?_ | refine w_dga (by rfl) (by rfl) mem2_ fun g4 => ?_)
     (repeat (first
      | refine w_y (by rfl) (by rfl) (by rfl) yl ?_ | refine w_nil ?_ | refine w_seq ?_ | refine w_region ?_ | refine w_jump (by rfl) ?_ | refine w_block ?_ | refine w_true (by rfl) ?_ | refine w_false (by rfl) ?_ | refine w_skip ?_ | refine w_exit ?_ | refine w_ret ?_ | refine w_label ?_
      | refine w_st1 (by rfl) ev_ inferInstance upd_ sets_ ?_ | refine w_stW (by rfl) (by rfl) inferInstance inferInstance upd_ inferInstance ?_
      | refine w_gT (by rfl) (by rfl) (by rfl) (by rfl) ?_ | refine w_gF (by rfl) (by rfl) (by rfl) (by rfl) (by rfl) ?_ | refine w_gU (by rfl) (by rfl) (by rfl) (by rfl) (by rfl) ?_
      | refine w_qy (by rfl) (by rfl) yl ?_ | refine w_qnil ?_ | refine w_qgT (by rfl) (by rfl) (by rfl) ?_ | refine w_qgF (by rfl) (by rfl) (by rfl) (by rfl) ?_ | refine w_qgU (by rfl) (by rfl) (by rfl) (by rfl) ?_ | refine w_drawH (by decide +kernel) ?_ | refine w_drawA (by decide +kernel) ?_ | refine w_segA (by decide +kernel) ?_ | refine w_sgq ?_ | refine w_sgn ?_ | refine w_sgl (by rfl) ?_ | refine w_sqn ?_ | refine w_sqy (by rfl) (by rfl) yl ?_ | refine w_sqT (by rfl) (by rfl) (by rfl) ?_ | refine w_sqF (by rfl) (by rfl) (by rfl) (by rfl) ?_ | refine w_sqU (by rfl) (by rfl) (by rfl) (by rfl) ?_ | refine w_ke (by rfl) (by decide +kernel) (by rfl) qy_ ?_ | refine w_kl (by rfl) (by decide +kernel) (by rfl) qy_ ?_ | refine w_knil ?_ | refine w_tnil ?_ | refine w_tstep (by rfl) ?_ | (refine w_land (J := TailJ _ _ _ _ _ _ _ _ _ _) (by rfl) ?_; refine w_tjoin allq_ ?_) | (refine w_land (J := SegJ _ _ _ _ _ _ _ _ _) (by rfl) ?_; refine w_sjoin ?_) | refine w_dgq (by rfl) (by rfl) (fun E => qy_) ?_ | refine w_dgf (by rfl) (by rfl) fr_ ?_ | refine w_dgn ?_ | (refine w_dgm (by rfl) (fun E => ?_); (first | refine w_st1 (by rfl) ev_ inferInstance upd_ sets_ ?_ | refine w_stW (by rfl) (by rfl) inferInstance inferInstance upd_ inferInstance ?_); refine w_nil ?_; refine w_land (J := DagJ _ _ _ _ _ _ _ _ _ _ _ _) (by rfl) ?_; refine w_dgj spl_ alle_ ?_) | (refine w_land (J := DagJ _ _ _ _ _ _ _ _ _ _ _ _) (by rfl) ?_; refine w_dgj spl_ alle_ ?_)))
     exact k.h g1 g2 g3 g4)) : A := h ⟨k⟩

section
variable {n : Fp} {w0 : World} {S : Nat → Prop} {X : Post} {R : Regs} {L L' H : Hp} {ks : List Fr} {ops : Array Oper} {rest tail : List Oper}
variable {dst : Option Tmp} {ty : TypeId} {pos : String} {after : Array Go.Edge} {f : FuncId} {args : Array Operand} {at_ : Array TypeId} {vs : List Value} {L0 K : Hp} {x : Operand} {first cap : Array Value}
theorem fin {fn : Func} {N : Nat} {B : Blks} {Q : Out → Hp → Prop} {rs : List ResultVar} {vs : List Value} {v : Value} (hQ : Q (.ret v) L') (hrs : fn.results.toList = rs := by (conv => lhs; whnf)) (hr : Res w0 (ids B) L R rs vs := by (repeat (first | exact Res.nil | (apply Res.tmp; (conv => lhs; whnf)) | (apply Res.c1; rfl; exact mem_; rfl) | (apply Res.cW; rfl; exact mem_; infer_instance; infer_instance; infer_instance)))) (ho : one vs = v := by rfl)
    (he : Ent L L' := by (first | exact Ent.refl _ | (repeat (first | exact Ent.nil | (apply Ent.sel; focus (repeat (first | exact Sel.hd | apply Sel.tl))))))) : Gl ⟨N, []⟩ w0 (ids B) (XF Tryz.prog fn w0 B Q) (.fin .ret) R L := finR hrs hr ho hQ he
/-- the end, where what is left is still to be brought to its form -/
theorem finE {fn : Func} {N : Nat} {B : Blks} {Q : Out → Hp → Prop} {rs : List ResultVar} {vs : List Value} {v : Value} (hQ : Q (.ret v) L') (he : Ent L L') (hrs : fn.results.toList = rs := by (conv => lhs; whnf)) (hr : Res w0 (ids B) L R rs vs := by (repeat (first | exact Res.nil | (apply Res.tmp; (conv => lhs; whnf)) | (apply Res.c1; rfl; exact mem_; rfl) | (apply Res.cW; rfl; exact mem_; infer_instance; infer_instance; infer_instance)))) (ho : one vs = v := by rfl) :
    Gl ⟨N, []⟩ w0 (ids B) (XF Tryz.prog fn w0 B Q) (.fin .ret) R L := finR hrs hr ho hQ he
theorem w_bs1 {α : Type} (E : Enc α) (a : α) {t bytes sz d e : Nat} {v : Value} {y : Operand} [T : SLT t e sz bytes] (hv : ev R y = v) (hc : v.cells.toList = E.enc a) (he : sz = E.sz) (hsm : E.sz ≤ 16777216)
    (h : ∀ g, Gl n w0 S X (.ops ops ks rest) (upd R d (.slice (some ⟨g, 0, none⟩) 1 1)) (rowc E e [a] g 1 :: L)) (hd : decide (d < n.n) = true := by rfl) :
    Gl n w0 S X (.ops ops ks (⟨some d, .buildSlice t 1 #[(0, y)], ty, pos, after, none⟩ :: rest)) R L :=
  w_bs (l := [a]) [v] he (by simp [hc]) rfl hd (by simp [hv]) (by simp) (by simpa using hsm) h
theorem w_ap {α : Type} (E : Enc α) {s x : Operand} {t bytes sz d e : Nat} {r : TypeId} {l l0 : List α} {a0 b : Option Addr} {n0 m cap0 capx : Nat} [T : SLT t e sz bytes] (hsel : Sel (sv E e l0 a0 cap0) L K) (hr : Rds K E l b capx) (hbytes : (l0.length + l.length) * bytes ≤ 140737488355328) (hmx : l0.length + l.length ≤ 140737488355328)
    (h : ∀ a cap', Gl n w0 S X (.ops ops ks rest) (upd R d (.slice a (l0 ++ l).length cap')) (sv E e (l0 ++ l) a cap' :: K)) (he : sz = E.sz := by rfl) (hd : decide (d < n.n) = true := by rfl) (hs : ev R s = .slice a0 n0 cap0 := by rfl) (hn0 : n0 = l0.length := by rfl) (hx : ev R x = .slice b m capx := by rfl) (hm : m = l.length := by rfl) :
    Gl n w0 S X (.ops ops ks (⟨some d, .call { callee := .builtin .append, args := #[s, x], argTypes := #[t, t] }, r, pos, after, none⟩ :: rest)) R L :=
  w_app he hd hs hn0 hx hm hsel hr hbytes (Nat.le_trans hmx (by simp only [maxLen]; omega)) h
theorem cv {v : Value} {e : Nat} [hb : BD Tryz.prog f] (hc : CtV Tryz.prog f vs L0 v) (h : Gl n w0 S X (.ops ops ks rest) (upd R e v) L) (hv : args.toList.map (ev R) = vs := by rfl) (hd : decide (e < n.n) = true := by rfl) (hp : Pick L0 L K := by (repeat (first | exact Pick.nil | (apply Pick.cons; focus (repeat (first | exact Sel.hd | apply Sel.tl)))))) :
    Gl n w0 S X (.ops ops ks (⟨some e, .call { callee := .value (.func f), args := args, argTypes := at_ }, ty, pos, after, none⟩ :: rest)) R L := w_cv hc hv hd hp h
theorem cv0 {v : Value} [hb : BD Tryz.prog f] (hc : CtV Tryz.prog f vs L0 v) (h : Gl n w0 S X (.ops ops ks rest) R L) (hv : args.toList.map (ev R) = vs := by rfl) (hp : Pick L0 L K := by (repeat (first | exact Pick.nil | (apply Pick.cons; focus (repeat (first | exact Sel.hd | apply Sel.tl)))))) :
    Gl n w0 S X (.ops ops ks (⟨none, .call { callee := .value (.func f), args := args, argTypes := at_ }, ty, pos, after, none⟩ :: rest)) R L := w_cv0 hc hv hp h
/-- a quiet call at a drawn region's begin -/
theorem cq {v : Value} {e : Nat} [hb : BD Tryz.prog f] (hc : CtV Tryz.prog f vs L0 v) (h : Gl n w0 S X (.qt ops ks rest tail) (upd R e v) L) (hv : args.toList.map (ev R) = vs := by rfl) (hp : Pick L0 L K := by (repeat (first | exact Pick.nil | (apply Pick.cons; focus (repeat (first | exact Sel.hd | apply Sel.tl)))))) :
    Gl n w0 S X (.qt ops ks (⟨some e, .call { callee := .value (.func f), args := args, argTypes := at_ }, ty, pos, after, none⟩ :: rest) tail) R L := w_qy rfl rfl (y_cl hc hv hp) h
/-- a quiet call in a part of a drawn region -/
theorem cqs {l : List Oper} {segs : List (Option Nat)} {m : Nat} {v : Value} {e : Nat} [hb : BD Tryz.prog f] (hc : CtV Tryz.prog f vs L0 v) (h : Gl n w0 S X (.sq ops ks l rest segs m) (upd R e v) L) (hv : args.toList.map (ev R) = vs := by rfl) (hp : Pick L0 L K := by (repeat (first | exact Pick.nil | (apply Pick.cons; focus (repeat (first | exact Sel.hd | apply Sel.tl)))))) :
    Gl n w0 S X (.sq ops ks l (⟨some e, .call { callee := .value (.func f), args := args, argTypes := at_ }, ty, pos, after, none⟩ :: rest) segs m) R L := w_sqy rfl rfl (y_cl hc hv hp) h
theorem cl' {d : Option Tmp} {Q : Value → Hp → Prop} [hb : BD Tryz.prog f] (hc : Ct Tryz.prog f vs L0 Q) (h : ∀ v M, Q v M → Gl n w0 S X (.ops ops ks rest) (put R d v) (M ++ K)) (hv : args.toList.map (ev R) = vs := by rfl) (hd : dok n d = true := by rfl)
    (hp : Pick L0 L K := by (repeat (first | exact Pick.nil | (apply Pick.cons; focus (repeat (first | exact Sel.hd | apply Sel.tl)))))) : Gl n w0 S X (.ops ops ks (⟨d, .call { callee := .value (.func f), args := args, argTypes := at_ }, ty, pos, after, none⟩ :: rest)) R L := w_cl hc hv hd hp h
theorem clP {d : Option Tmp} {Q : Out → Hp → Prop} [hb : BD Tryz.prog f] (hc : CtP Tryz.prog f vs L0 Q) (h : ∀ v M, Q (.ret v) M → Gl n w0 S X (.ops ops ks rest) (put R d v) (M ++ K)) (h' : ∀ v M, Q (.pan v) M → Gl n w0 S X (.ex (.panic [{ v := v, recovered := false }]) ks) R (M ++ K))
    (hv : args.toList.map (ev R) = vs := by rfl) (hd : dok n d = true := by rfl) (hp : Pick L0 L K := by (repeat (first | exact Pick.nil | (apply Pick.cons; focus (repeat (first | exact Sel.hd | apply Sel.tl)))))) :
    Gl n w0 S X (.ops ops ks (⟨d, .call { callee := .value (.func f), args := args, argTypes := at_ }, ty, pos, after, none⟩ :: rest)) R L := w_clP hc hv hd hp h h'
theorem cx {d : Option Tmp} {fs cs : List Value} {Q : Value → Hp → Prop} [hb : BD Tryz.prog f] (hc : Ct Tryz.prog f vs L0 Q) (h : ∀ v M, Q v M → Gl n w0 S X (.ops ops ks rest) (put R d v) (M ++ K)) (hx : ev R x = .func (.func f) fs.toArray cs.toArray := by rfl) (hv : fs ++ args.toList.map (ev R) ++ cs = vs := by rfl) (hd : dok n d = true := by rfl)
    (hp : Pick L0 L K := by (repeat (first | exact Pick.nil | (apply Pick.cons; focus (repeat (first | exact Sel.hd | apply Sel.tl)))))) : Gl n w0 S X (.ops ops ks (⟨d, .call { callee := .value x, args := args, argTypes := at_ }, ty, pos, after, none⟩ :: rest)) R L := w_cx hc hx (by rw [← hv]; simp) hd hp h
theorem cxP {d : Option Tmp} {fs cs : List Value} {Q : Out → Hp → Prop} [hb : BD Tryz.prog f] (hc : CtP Tryz.prog f vs L0 Q) (h : ∀ v M, Q (.ret v) M → Gl n w0 S X (.ops ops ks rest) (put R d v) (M ++ K)) (h' : ∀ v M, Q (.pan v) M → Gl n w0 S X (.ex (.panic [{ v := v, recovered := false }]) ks) R (M ++ K))
    (hx : ev R x = .func (.func f) fs.toArray cs.toArray := by rfl) (hv : fs ++ args.toList.map (ev R) ++ cs = vs := by rfl) (hd : dok n d = true := by rfl) (hp : Pick L0 L K := by (repeat (first | exact Pick.nil | (apply Pick.cons; focus (repeat (first | exact Sel.hd | apply Sel.tl)))))) :
    Gl n w0 S X (.ops ops ks (⟨d, .call { callee := .value x, args := args, argTypes := at_ }, ty, pos, after, none⟩ :: rest)) R L := w_cxP hc hx (by rw [← hv]; simp) hd hp h h'
/-- a quiet call in a region in any order -/
theorem dq {l : List Oper} {s : List Sp} {acc : List (Nat × Oper × Regs × Value)} {fa : List (Nat × (Nat → Value) × (Nat → Chunk))} {i : Nat} {v : Value} {e : Nat} {KE : Hp → Hp} [hb : BD Tryz.prog f] (hc : CtV Tryz.prog f vs L0 v)
    (h : Gl n w0 S X (.dg ops ks l s ((i, ⟨some e, .call { callee := .value (.func f), args := args, argTypes := at_ }, ty, pos, after, none⟩, R, v) :: acc) fa) (upd R e v) L) (ho : l[i]? = some ⟨some e, .call { callee := .value (.func f), args := args, argTypes := at_ }, ty, pos, after, none⟩ := by rfl)
    (hv : args.toList.map (ev R) = vs := by rfl) (hp : ∀ E, Pick L0 (L ++ E) (KE E) := by (intro E; repeat (first | exact Pick.nil | (apply Pick.cons; focus (repeat (first | exact Sel.hd | apply Sel.tl)))))) : Gl n w0 S X (.dg ops ks l (.q i :: s) acc fa) R L := w_dgq ho rfl (fun E => qn rfl (y_cl hc hv (hp E))) h
/-- what acts in a region in any order -/
theorem dm {l : List Oper} {s : List Sp} {acc : List (Nat × Oper × Regs × Value)} {fa : List (Nat × (Nat → Value) × (Nat → Chunk))} {kp : List Nat} {i : Nat} {o : Oper} (h : ∀ E : Hp, Gl n w0 S XNo (.ops ops [.join (DagJ n w0 S X ops ks l s acc fa kp E)] [o]) R (L ++ E)) (ho : l[i]? = some o := by rfl) : Gl n w0 S X (.dg ops ks l (.m i kp :: s) acc fa) R L := w_dgm ho h
end
theorem CtP.frame {P : Program} {f : FuncId} {vs : List Value} {L L0 K : Hp} {Q : Out → Hp → Prop} (hc : CtP P f vs L0 Q) (he : Ent L (L0 ++ K)) : CtP P f vs L (fun o M => ∃ M0, Q o M0 ∧ M = M0 ++ K) := by
  intro w B hs hat
  obtain ⟨B', hs', hw⟩ := (show St w (ids B) L w from ⟨B, hs, hat.st⟩).ent he
  obtain ⟨B0, BK, rfl, hs0, hsK⟩ := Sat.app.1 hs'
  exact (hc w B0 hs0 hw.at').mono fun e w' ⟨out, L, h1, hq, hw'⟩ => ⟨out, _, h1, ⟨L, hq, rfl⟩, St.call hw hsK hw'⟩
theorem Ct.frame {P : Program} {f : FuncId} {vs : List Value} {L L0 K : Hp} {Q : Value → Hp → Prop} (hc : Ct P f vs L0 Q) (he : Ent L (L0 ++ K)) : Ct P f vs L (fun v M => ∃ M0, Q v M0 ∧ M = M0 ++ K) :=
  (CtP.frame hc he).mono fun o M ⟨M0, ⟨v, h1, h2⟩, h3⟩ => ⟨v, h1, M0, h2, h3⟩
theorem Ct.mono {P : Program} {f : FuncId} {vs : List Value} {L : Hp} {Q Q' : Value → Hp → Prop} (hc : Ct P f vs L Q) (h : ∀ v M, Q v M → Q' v M) : Ct P f vs L Q' :=
  CtP.mono hc fun o M ⟨v, h1, h2⟩ => ⟨v, h1, h _ _ h2⟩
/-- what is left may be brought to another form -/
theorem Ct.ent {P : Program} {f : FuncId} {vs : List Value} {L : Hp} {Q Q' : Value → Hp → Prop} (hc : Ct P f vs L Q) (h : ∀ v M, Q v M → ∃ M', Q' v M' ∧ Ent M M') : Ct P f vs L Q' := by
  intro w B hs hat
  refine (hc w B hs hat).mono fun e w' ⟨o, M, h1, ⟨v, h2, h3⟩, h4⟩ => ?_
  obtain ⟨M', h5, h6⟩ := h v M h3
  exact ⟨o, M', h1, ⟨v, h2, h5⟩, h4.ent h6⟩
end Go.Proofs.YtnilejkfbcnkkaaGreatDoor.V
end
