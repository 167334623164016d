/- What is known of the types and functions of the program: facts off its tables. -/
import Derived.Test.YtggdljhmbckpmaaGreatA6
import Derived.Test.YtggdljhmbckpmaaGreatProg
import Derived.KernelRfl
set_option linter.unusedVariables false
set_option linter.unusedSimpArgs false
set_option maxRecDepth 100000
namespace Go.Proofs.YtggdljhmbckpmaaGreat
open Go Go.RowKit
instance ty3 : Ty Tryz.prog 3 false 1 8 (.int .i64 0) := ⟨by kernel_rfl, Tryz.isAgg3⟩
instance tu3 : TyU Tryz.prog 3 (.int .i64) := ⟨Tryz.underlying3⟩
instance ty4 : Ty Tryz.prog 4 false 1 1 (.bool false) := ⟨by kernel_rfl, Tryz.isAgg4⟩
instance tu4 : TyU Tryz.prog 4 .bool := ⟨Tryz.underlying4⟩
instance ty5 : Ty Tryz.prog 5 false 1 1 (.int .u8 0) := ⟨by kernel_rfl, Tryz.isAgg5⟩
instance tu5 : TyU Tryz.prog 5 (.int .u8) := ⟨Tryz.underlying5⟩
instance ty9 : Ty Tryz.prog 9 false 1 16 (.string .empty) := ⟨by kernel_rfl, Tryz.isAgg9⟩
instance tu9 : TyU Tryz.prog 9 .string := ⟨Tryz.underlying9⟩
instance ty20 : Ty Tryz.prog 20 false 1 16 .nilIface := ⟨by kernel_rfl, Tryz.isAgg20⟩
instance ty22 : Ty Tryz.prog 22 false 1 24 (.slice none 0 0) := ⟨by kernel_rfl, Tryz.isAgg22⟩
instance tu22 : TyU Tryz.prog 22 (.slice 3) := ⟨Tryz.underlying22⟩
instance tl22 : TyL Tryz.prog 22 3 1 8 [(.int .i64 0)] := ⟨Tryz.underlying22, ⟨_, (.int .i64 0), rfl, rfl, rfl, rfl, rfl, fun _ cs h => by cases h⟩, rfl⟩
instance ty23 : Ty Tryz.prog 23 false 1 24 (.slice none 0 0) := ⟨by kernel_rfl, Tryz.isAgg23⟩
instance tu23 : TyU Tryz.prog 23 (.slice 143) := ⟨Tryz.underlying23⟩
instance tl23 : TyL Tryz.prog 23 143 5 72 [(.slice none 0 0), (.slice none 0 0), (.int .i64 0), (.int .i64 0), (.int .i64 0)] := ⟨Tryz.underlying23, ⟨_, (.agg #[(.slice none 0 0), (.slice none 0 0), (.int .i64 0), (.int .i64 0), (.int .i64 0)]), rfl, rfl, rfl, rfl, rfl, fun h => by cases h⟩, rfl⟩
instance ty24 : Ty Tryz.prog 24 false 1 24 (.slice none 0 0) := ⟨by kernel_rfl, Tryz.isAgg24⟩
instance tu24 : TyU Tryz.prog 24 (.slice 147) := ⟨Tryz.underlying24⟩
instance tl24 : TyL Tryz.prog 24 147 7 88 [(.int .i64 0), (.int .i64 0), (.slice none 0 0), (.bool false), (.slice none 0 0), (.bool false), (.int .i64 0)] := ⟨Tryz.underlying24, ⟨_, (.agg #[(.int .i64 0), (.int .i64 0), (.slice none 0 0), (.bool false), (.slice none 0 0), (.bool false), (.int .i64 0)]), rfl, rfl, rfl, rfl, rfl, fun h => by cases h⟩, rfl⟩
instance ty25 : Ty Tryz.prog 25 false 1 24 (.slice none 0 0) := ⟨by kernel_rfl, Tryz.isAgg25⟩
instance tu25 : TyU Tryz.prog 25 (.slice 153) := ⟨Tryz.underlying25⟩
instance tl25 : TyL Tryz.prog 25 153 7 96 [(.int .i64 0), (.int .i64 0), (.int .i64 0), (.int .i64 0), (.slice none 0 0), (.string .empty), (.slice none 0 0)] := ⟨Tryz.underlying25, ⟨_, (.agg #[(.int .i64 0), (.int .i64 0), (.int .i64 0), (.int .i64 0), (.slice none 0 0), (.string .empty), (.slice none 0 0)]), rfl, rfl, rfl, rfl, rfl, fun h => by cases h⟩, rfl⟩
instance ty26 : Ty Tryz.prog 26 false 1 24 (.slice none 0 0) := ⟨by kernel_rfl, Tryz.isAgg26⟩
instance tu26 : TyU Tryz.prog 26 (.slice 162) := ⟨Tryz.underlying26⟩
instance tl26 : TyL Tryz.prog 26 162 8 112 [(.int .i64 0), (.string .empty), (.slice none 0 0), (.bool false), (.int .i64 0), (.int .i64 0), (.string .empty), (.slice none 0 0)] := ⟨Tryz.underlying26, ⟨_, (.agg #[(.int .i64 0), (.string .empty), (.slice none 0 0), (.bool false), (.int .i64 0), (.int .i64 0), (.string .empty), (.slice none 0 0)]), rfl, rfl, rfl, rfl, rfl, fun h => by cases h⟩, rfl⟩
instance ty27 : Ty Tryz.prog 27 true 1 24 (.agg #[(.slice none 0 0)]) := ⟨by kernel_rfl, Tryz.isAgg27⟩
instance tf27_0 : TyF Tryz.prog 27 0 0 26 := tyF_of (sz := 1) Tryz.underlying27 rfl (fun w => (ty26).size w) (by decide)
instance tb27 : TyB Tryz.prog 27 [(.slice none 0 0)] #[(0, 1)] := ⟨fun parts cells w h => by
  have hz := (ty27).zero w
  simp only [Instr.build, Sem.run_bind, hz, Result.andThen_ok, run_underlying Tryz.underlying27]
  simp only [List.getElem?_toArray] at h
  simp [(ty26).size, Value.cells]
  rw [h]; rfl⟩
instance ty28 : Ty Tryz.prog 28 true 1 24 (.agg #[(.slice none 0 0)]) := ⟨by kernel_rfl, Tryz.isAgg28⟩
instance tf28_0 : TyF Tryz.prog 28 0 0 26 := tyF_of (sz := 1) Tryz.underlying28 rfl (fun w => (ty26).size w) (by decide)
instance tb28 : TyB Tryz.prog 28 [(.slice none 0 0)] #[(0, 1)] := ⟨fun parts cells w h => by
  have hz := (ty28).zero w
  simp only [Instr.build, Sem.run_bind, hz, Result.andThen_ok, run_underlying Tryz.underlying28]
  simp only [List.getElem?_toArray] at h
  simp [(ty26).size, Value.cells]
  rw [h]; rfl⟩
instance ty29 : Ty Tryz.prog 29 false 1 24 (.slice none 0 0) := ⟨by kernel_rfl, Tryz.isAgg29⟩
instance tu29 : TyU Tryz.prog 29 (.slice 166) := ⟨Tryz.underlying29⟩
instance tl29 : TyL Tryz.prog 29 166 9 120 [(.int .i64 0), (.int .i64 0), (.string .empty), (.slice none 0 0), (.bool false), (.int .i64 0), (.int .i64 0), (.string .empty), (.slice none 0 0)] := ⟨Tryz.underlying29, ⟨_, (.agg #[(.int .i64 0), (.int .i64 0), (.string .empty), (.slice none 0 0), (.bool false), (.int .i64 0), (.int .i64 0), (.string .empty), (.slice none 0 0)]), rfl, rfl, rfl, rfl, rfl, fun h => by cases h⟩, rfl⟩
instance ty30 : Ty Tryz.prog 30 false 1 24 (.slice none 0 0) := ⟨by kernel_rfl, Tryz.isAgg30⟩
instance tu30 : TyU Tryz.prog 30 (.slice 115) := ⟨Tryz.underlying30⟩
instance tl30 : TyL Tryz.prog 30 115 18 208 [(.int .i64 0), (.slice none 0 0), (.slice none 0 0), (.int .i64 0), (.int .i64 0), (.int .i64 0), (.int .i64 0), (.int .i64 0), (.int .i64 0), (.int .i64 0), (.bool false), (.slice none 0 0), (.slice none 0 0), (.int .i64 0), (.int .i64 0), (.int .i64 0), (.int .i64 0), (.int .i64 0)] := ⟨Tryz.underlying30, ⟨_, (.agg #[(.int .i64 0), (.slice none 0 0), (.slice none 0 0), (.int .i64 0), (.int .i64 0), (.int .i64 0), (.int .i64 0), (.int .i64 0), (.int .i64 0), (.int .i64 0), (.bool false), (.slice none 0 0), (.slice none 0 0), (.int .i64 0), (.int .i64 0), (.int .i64 0), (.int .i64 0), (.int .i64 0)]), rfl, rfl, rfl, rfl, rfl, fun h => by cases h⟩, rfl⟩
instance ty31 : Ty Tryz.prog 31 true 16 256 (.agg #[(.int .i64 0), (.int .i64 0), (.int .i64 0), (.int .i64 0), (.int .i64 0), (.int .i64 0), (.bool false), (.slice none 0 0), (.slice none 0 0), (.slice none 0 0), (.slice none 0 0), (.slice none 0 0), (.slice none 0 0), (.slice none 0 0), (.slice none 0 0), (.int .i64 0)]) := ⟨by kernel_rfl, Tryz.isAgg31⟩
instance tf31_0 : TyF Tryz.prog 31 0 0 3 := tyF_of (sz := 1) Tryz.underlying31 rfl (fun w => (ty3).size w) (by decide)
instance tf31_1 : TyF Tryz.prog 31 1 1 3 := tyF_of (sz := 1) Tryz.underlying31 rfl (fun w => (ty3).size w) (by decide)
instance tf31_2 : TyF Tryz.prog 31 2 2 3 := tyF_of (sz := 1) Tryz.underlying31 rfl (fun w => (ty3).size w) (by decide)
instance tf31_3 : TyF Tryz.prog 31 3 3 3 := tyF_of (sz := 1) Tryz.underlying31 rfl (fun w => (ty3).size w) (by decide)
instance tf31_4 : TyF Tryz.prog 31 4 4 3 := tyF_of (sz := 1) Tryz.underlying31 rfl (fun w => (ty3).size w) (by decide)
instance tf31_5 : TyF Tryz.prog 31 5 5 3 := tyF_of (sz := 1) Tryz.underlying31 rfl (fun w => (ty3).size w) (by decide)
instance tf31_6 : TyF Tryz.prog 31 6 6 4 := tyF_of (sz := 1) Tryz.underlying31 rfl (fun w => (ty4).size w) (by decide)
instance tf31_7 : TyF Tryz.prog 31 7 7 22 := tyF_of (sz := 1) Tryz.underlying31 rfl (fun w => (ty22).size w) (by decide)
instance tf31_8 : TyF Tryz.prog 31 8 8 22 := tyF_of (sz := 1) Tryz.underlying31 rfl (fun w => (ty22).size w) (by decide)
instance tf31_9 : TyF Tryz.prog 31 9 9 23 := tyF_of (sz := 1) Tryz.underlying31 rfl (fun w => (ty23).size w) (by decide)
instance tf31_10 : TyF Tryz.prog 31 10 10 24 := tyF_of (sz := 1) Tryz.underlying31 rfl (fun w => (ty24).size w) (by decide)
instance tf31_11 : TyF Tryz.prog 31 11 11 25 := tyF_of (sz := 1) Tryz.underlying31 rfl (fun w => (ty25).size w) (by decide)
instance tf31_12 : TyF Tryz.prog 31 12 12 28 := tyF_of (sz := 1) Tryz.underlying31 rfl (fun w => (ty28).size w) (by decide)
instance tf31_13 : TyF Tryz.prog 31 13 13 29 := tyF_of (sz := 1) Tryz.underlying31 rfl (fun w => (ty29).size w) (by decide)
instance tf31_14 : TyF Tryz.prog 31 14 14 30 := tyF_of (sz := 1) Tryz.underlying31 rfl (fun w => (ty30).size w) (by decide)
instance tf31_15 : TyF Tryz.prog 31 15 15 3 := tyF_of (sz := 1) Tryz.underlying31 rfl (fun w => (ty3).size w) (by decide)
instance tb31 : TyB Tryz.prog 31 [(.int .i64 0), (.int .i64 0), (.int .i64 0), (.int .i64 0), (.int .i64 0), (.int .i64 0), (.bool false), (.slice none 0 0), (.slice none 0 0), (.slice none 0 0), (.slice none 0 0), (.slice none 0 0), (.slice none 0 0), (.slice none 0 0), (.slice none 0 0), (.int .i64 0)] #[(0, 1), (1, 1), (2, 1), (3, 1), (4, 1), (5, 1), (6, 1), (7, 1), (8, 1), (9, 1), (10, 1), (11, 1), (12, 1), (13, 1), (14, 1), (15, 1)] := ⟨fun parts cells w h => by
  have hz := (ty31).zero w
  simp only [Instr.build, Sem.run_bind, hz, Result.andThen_ok, run_underlying Tryz.underlying31]
  simp only [List.getElem?_toArray] at h
  simp [(ty3).size, (ty4).size, (ty22).size, (ty23).size, (ty24).size, (ty25).size, (ty28).size, (ty29).size, (ty30).size, Value.cells]
  rw [h]; rfl⟩
instance ty32 : Ty Tryz.prog 32 true 16 256 (.agg #[(.int .i64 0), (.int .i64 0), (.int .i64 0), (.int .i64 0), (.int .i64 0), (.int .i64 0), (.bool false), (.slice none 0 0), (.slice none 0 0), (.slice none 0 0), (.slice none 0 0), (.slice none 0 0), (.slice none 0 0), (.slice none 0 0), (.slice none 0 0), (.int .i64 0)]) := ⟨by kernel_rfl, Tryz.isAgg32⟩
instance tf32_0 : TyF Tryz.prog 32 0 0 3 := tyF_of (sz := 1) Tryz.underlying32 rfl (fun w => (ty3).size w) (by decide)
instance tf32_1 : TyF Tryz.prog 32 1 1 3 := tyF_of (sz := 1) Tryz.underlying32 rfl (fun w => (ty3).size w) (by decide)
instance tf32_2 : TyF Tryz.prog 32 2 2 3 := tyF_of (sz := 1) Tryz.underlying32 rfl (fun w => (ty3).size w) (by decide)
instance tf32_3 : TyF Tryz.prog 32 3 3 3 := tyF_of (sz := 1) Tryz.underlying32 rfl (fun w => (ty3).size w) (by decide)
instance tf32_4 : TyF Tryz.prog 32 4 4 3 := tyF_of (sz := 1) Tryz.underlying32 rfl (fun w => (ty3).size w) (by decide)
instance tf32_5 : TyF Tryz.prog 32 5 5 3 := tyF_of (sz := 1) Tryz.underlying32 rfl (fun w => (ty3).size w) (by decide)
instance tf32_6 : TyF Tryz.prog 32 6 6 4 := tyF_of (sz := 1) Tryz.underlying32 rfl (fun w => (ty4).size w) (by decide)
instance tf32_7 : TyF Tryz.prog 32 7 7 22 := tyF_of (sz := 1) Tryz.underlying32 rfl (fun w => (ty22).size w) (by decide)
instance tf32_8 : TyF Tryz.prog 32 8 8 22 := tyF_of (sz := 1) Tryz.underlying32 rfl (fun w => (ty22).size w) (by decide)
instance tf32_9 : TyF Tryz.prog 32 9 9 23 := tyF_of (sz := 1) Tryz.underlying32 rfl (fun w => (ty23).size w) (by decide)
instance tf32_10 : TyF Tryz.prog 32 10 10 24 := tyF_of (sz := 1) Tryz.underlying32 rfl (fun w => (ty24).size w) (by decide)
instance tf32_11 : TyF Tryz.prog 32 11 11 25 := tyF_of (sz := 1) Tryz.underlying32 rfl (fun w => (ty25).size w) (by decide)
instance tf32_12 : TyF Tryz.prog 32 12 12 28 := tyF_of (sz := 1) Tryz.underlying32 rfl (fun w => (ty28).size w) (by decide)
instance tf32_13 : TyF Tryz.prog 32 13 13 29 := tyF_of (sz := 1) Tryz.underlying32 rfl (fun w => (ty29).size w) (by decide)
instance tf32_14 : TyF Tryz.prog 32 14 14 30 := tyF_of (sz := 1) Tryz.underlying32 rfl (fun w => (ty30).size w) (by decide)
instance tf32_15 : TyF Tryz.prog 32 15 15 3 := tyF_of (sz := 1) Tryz.underlying32 rfl (fun w => (ty3).size w) (by decide)
instance tb32 : TyB Tryz.prog 32 [(.int .i64 0), (.int .i64 0), (.int .i64 0), (.int .i64 0), (.int .i64 0), (.int .i64 0), (.bool false), (.slice none 0 0), (.slice none 0 0), (.slice none 0 0), (.slice none 0 0), (.slice none 0 0), (.slice none 0 0), (.slice none 0 0), (.slice none 0 0), (.int .i64 0)] #[(0, 1), (1, 1), (2, 1), (3, 1), (4, 1), (5, 1), (6, 1), (7, 1), (8, 1), (9, 1), (10, 1), (11, 1), (12, 1), (13, 1), (14, 1), (15, 1)] := ⟨fun parts cells w h => by
  have hz := (ty32).zero w
  simp only [Instr.build, Sem.run_bind, hz, Result.andThen_ok, run_underlying Tryz.underlying32]
  simp only [List.getElem?_toArray] at h
  simp [(ty3).size, (ty4).size, (ty22).size, (ty23).size, (ty24).size, (ty25).size, (ty28).size, (ty29).size, (ty30).size, Value.cells]
  rw [h]; rfl⟩
instance ty33 : Ty Tryz.prog 33 false 1 24 (.slice none 0 0) := ⟨by kernel_rfl, Tryz.isAgg33⟩
instance tu33 : TyU Tryz.prog 33 (.slice 5) := ⟨Tryz.underlying33⟩
instance tl33 : TyL Tryz.prog 33 5 1 1 [(.int .u8 0)] := ⟨Tryz.underlying33, ⟨_, (.int .u8 0), rfl, rfl, rfl, rfl, rfl, fun _ cs h => by cases h⟩, rfl⟩
instance ty35 : Ty Tryz.prog 35 false 1 8 (.int .i64 0) := ⟨by kernel_rfl, Tryz.isAgg35⟩
instance tu35 : TyU Tryz.prog 35 (.int .i64) := ⟨Tryz.underlying35⟩
instance ty38 : Ty Tryz.prog 38 true 2 32 (.agg #[(.slice none 0 0), (.int .i64 0)]) := ⟨by kernel_rfl, Tryz.isAgg38⟩
instance tf38_0 : TyF Tryz.prog 38 0 0 33 := tyF_of (sz := 1) Tryz.underlying38 rfl (fun w => (ty33).size w) (by decide)
instance tf38_1 : TyF Tryz.prog 38 1 1 35 := tyF_of (sz := 1) Tryz.underlying38 rfl (fun w => (ty35).size w) (by decide)
instance tb38 : TyB Tryz.prog 38 [(.slice none 0 0), (.int .i64 0)] #[(0, 1), (1, 1)] := ⟨fun parts cells w h => by
  have hz := (ty38).zero w
  simp only [Instr.build, Sem.run_bind, hz, Result.andThen_ok, run_underlying Tryz.underlying38]
  simp only [List.getElem?_toArray] at h
  simp [(ty33).size, (ty35).size, Value.cells]
  rw [h]; rfl⟩
instance ty39 : Ty Tryz.prog 39 true 2 32 (.agg #[(.slice none 0 0), (.int .i64 0)]) := ⟨by kernel_rfl, Tryz.isAgg39⟩
instance tf39_0 : TyF Tryz.prog 39 0 0 33 := tyF_of (sz := 1) Tryz.underlying39 rfl (fun w => (ty33).size w) (by decide)
instance tf39_1 : TyF Tryz.prog 39 1 1 35 := tyF_of (sz := 1) Tryz.underlying39 rfl (fun w => (ty35).size w) (by decide)
instance tb39 : TyB Tryz.prog 39 [(.slice none 0 0), (.int .i64 0)] #[(0, 1), (1, 1)] := ⟨fun parts cells w h => by
  have hz := (ty39).zero w
  simp only [Instr.build, Sem.run_bind, hz, Result.andThen_ok, run_underlying Tryz.underlying39]
  simp only [List.getElem?_toArray] at h
  simp [(ty33).size, (ty35).size, Value.cells]
  rw [h]; rfl⟩
instance ty43 : Ty Tryz.prog 43 true 18 272 (.agg #[(.int .i64 0), (.int .i64 0), (.int .i64 0), (.int .i64 0), (.int .i64 0), (.int .i64 0), (.bool false), (.slice none 0 0), (.slice none 0 0), (.slice none 0 0), (.slice none 0 0), (.slice none 0 0), (.slice none 0 0), (.slice none 0 0), (.slice none 0 0), (.int .i64 0), (.int .i64 0), (.int .i64 0)]) := ⟨by kernel_rfl, Tryz.isAgg43⟩
instance tf43_0 : TyF Tryz.prog 43 0 0 32 := tyF_of (sz := 16) Tryz.underlying43 rfl (fun w => (ty32).size w) (by decide)
instance tf43_1 : TyF Tryz.prog 43 1 16 3 := tyF_of (sz := 1) Tryz.underlying43 rfl (fun w => (ty3).size w) (by decide)
instance tf43_2 : TyF Tryz.prog 43 2 17 35 := tyF_of (sz := 1) Tryz.underlying43 rfl (fun w => (ty35).size w) (by decide)
instance tb43 : TyB Tryz.prog 43 [(.int .i64 0), (.int .i64 0), (.int .i64 0), (.int .i64 0), (.int .i64 0), (.int .i64 0), (.bool false), (.slice none 0 0), (.slice none 0 0), (.slice none 0 0), (.slice none 0 0), (.slice none 0 0), (.slice none 0 0), (.slice none 0 0), (.slice none 0 0), (.int .i64 0), (.int .i64 0), (.int .i64 0)] #[(0, 16), (16, 1), (17, 1)] := ⟨fun parts cells w h => by
  have hz := (ty43).zero w
  simp only [Instr.build, Sem.run_bind, hz, Result.andThen_ok, run_underlying Tryz.underlying43]
  simp only [List.getElem?_toArray] at h
  simp [(ty32).size, (ty3).size, (ty35).size, Value.cells]
  rw [h]; rfl⟩
instance ty44 : Ty Tryz.prog 44 true 18 272 (.agg #[(.int .i64 0), (.int .i64 0), (.int .i64 0), (.int .i64 0), (.int .i64 0), (.int .i64 0), (.bool false), (.slice none 0 0), (.slice none 0 0), (.slice none 0 0), (.slice none 0 0), (.slice none 0 0), (.slice none 0 0), (.slice none 0 0), (.slice none 0 0), (.int .i64 0), (.int .i64 0), (.int .i64 0)]) := ⟨by kernel_rfl, Tryz.isAgg44⟩
instance tf44_0 : TyF Tryz.prog 44 0 0 32 := tyF_of (sz := 16) Tryz.underlying44 rfl (fun w => (ty32).size w) (by decide)
instance tf44_1 : TyF Tryz.prog 44 1 16 3 := tyF_of (sz := 1) Tryz.underlying44 rfl (fun w => (ty3).size w) (by decide)
instance tf44_2 : TyF Tryz.prog 44 2 17 35 := tyF_of (sz := 1) Tryz.underlying44 rfl (fun w => (ty35).size w) (by decide)
instance tb44 : TyB Tryz.prog 44 [(.int .i64 0), (.int .i64 0), (.int .i64 0), (.int .i64 0), (.int .i64 0), (.int .i64 0), (.bool false), (.slice none 0 0), (.slice none 0 0), (.slice none 0 0), (.slice none 0 0), (.slice none 0 0), (.slice none 0 0), (.slice none 0 0), (.slice none 0 0), (.int .i64 0), (.int .i64 0), (.int .i64 0)] #[(0, 16), (16, 1), (17, 1)] := ⟨fun parts cells w h => by
  have hz := (ty44).zero w
  simp only [Instr.build, Sem.run_bind, hz, Result.andThen_ok, run_underlying Tryz.underlying44]
  simp only [List.getElem?_toArray] at h
  simp [(ty32).size, (ty3).size, (ty35).size, Value.cells]
  rw [h]; rfl⟩
instance ty49 : Ty Tryz.prog 49 false 1 24 (.slice none 0 0) := ⟨by kernel_rfl, Tryz.isAgg49⟩
instance tu49 : TyU Tryz.prog 49 (.slice 139) := ⟨Tryz.underlying49⟩
instance tl49 : TyL Tryz.prog 49 139 2 32 [(.int .i64 0), (.slice none 0 0)] := ⟨Tryz.underlying49, ⟨_, (.agg #[(.int .i64 0), (.slice none 0 0)]), rfl, rfl, rfl, rfl, rfl, fun h => by cases h⟩, rfl⟩
instance ty50 : Ty Tryz.prog 50 true 2 48 (.agg #[(.slice none 0 0), (.slice none 0 0)]) := ⟨by kernel_rfl, Tryz.isAgg50⟩
instance tf50_0 : TyF Tryz.prog 50 0 0 33 := tyF_of (sz := 1) Tryz.underlying50 rfl (fun w => (ty33).size w) (by decide)
instance tf50_1 : TyF Tryz.prog 50 1 1 49 := tyF_of (sz := 1) Tryz.underlying50 rfl (fun w => (ty49).size w) (by decide)
instance tb50 : TyB Tryz.prog 50 [(.slice none 0 0), (.slice none 0 0)] #[(0, 1), (1, 1)] := ⟨fun parts cells w h => by
  have hz := (ty50).zero w
  simp only [Instr.build, Sem.run_bind, hz, Result.andThen_ok, run_underlying Tryz.underlying50]
  simp only [List.getElem?_toArray] at h
  simp [(ty33).size, (ty49).size, Value.cells]
  rw [h]; rfl⟩
instance ty51 : Ty Tryz.prog 51 true 2 48 (.agg #[(.slice none 0 0), (.slice none 0 0)]) := ⟨by kernel_rfl, Tryz.isAgg51⟩
instance tf51_0 : TyF Tryz.prog 51 0 0 33 := tyF_of (sz := 1) Tryz.underlying51 rfl (fun w => (ty33).size w) (by decide)
instance tf51_1 : TyF Tryz.prog 51 1 1 49 := tyF_of (sz := 1) Tryz.underlying51 rfl (fun w => (ty49).size w) (by decide)
instance tb51 : TyB Tryz.prog 51 [(.slice none 0 0), (.slice none 0 0)] #[(0, 1), (1, 1)] := ⟨fun parts cells w h => by
  have hz := (ty51).zero w
  simp only [Instr.build, Sem.run_bind, hz, Result.andThen_ok, run_underlying Tryz.underlying51]
  simp only [List.getElem?_toArray] at h
  simp [(ty33).size, (ty49).size, Value.cells]
  rw [h]; rfl⟩
instance ty52 : Ty Tryz.prog 52 false 1 24 (.slice none 0 0) := ⟨by kernel_rfl, Tryz.isAgg52⟩
instance tu52 : TyU Tryz.prog 52 (.slice 78) := ⟨Tryz.underlying52⟩
instance tl52 : TyL Tryz.prog 52 78 3 40 [(.int .i64 0), (.int .i64 0), (.slice none 0 0)] := ⟨Tryz.underlying52, ⟨_, (.agg #[(.int .i64 0), (.int .i64 0), (.slice none 0 0)]), rfl, rfl, rfl, rfl, rfl, fun h => by cases h⟩, rfl⟩
instance ty55 : Ty Tryz.prog 55 true 2 32 (.agg #[(.slice none 0 0), (.int .i64 0)]) := ⟨by kernel_rfl, Tryz.isAgg55⟩
instance tf55_0 : TyF Tryz.prog 55 0 0 52 := tyF_of (sz := 1) Tryz.underlying55 rfl (fun w => (ty52).size w) (by decide)
instance tf55_1 : TyF Tryz.prog 55 1 1 35 := tyF_of (sz := 1) Tryz.underlying55 rfl (fun w => (ty35).size w) (by decide)
instance tb55 : TyB Tryz.prog 55 [(.slice none 0 0), (.int .i64 0)] #[(0, 1), (1, 1)] := ⟨fun parts cells w h => by
  have hz := (ty55).zero w
  simp only [Instr.build, Sem.run_bind, hz, Result.andThen_ok, run_underlying Tryz.underlying55]
  simp only [List.getElem?_toArray] at h
  simp [(ty52).size, (ty35).size, Value.cells]
  rw [h]; rfl⟩
instance ty56 : Ty Tryz.prog 56 true 2 32 (.agg #[(.slice none 0 0), (.int .i64 0)]) := ⟨by kernel_rfl, Tryz.isAgg56⟩
instance tf56_0 : TyF Tryz.prog 56 0 0 52 := tyF_of (sz := 1) Tryz.underlying56 rfl (fun w => (ty52).size w) (by decide)
instance tf56_1 : TyF Tryz.prog 56 1 1 35 := tyF_of (sz := 1) Tryz.underlying56 rfl (fun w => (ty35).size w) (by decide)
instance tb56 : TyB Tryz.prog 56 [(.slice none 0 0), (.int .i64 0)] #[(0, 1), (1, 1)] := ⟨fun parts cells w h => by
  have hz := (ty56).zero w
  simp only [Instr.build, Sem.run_bind, hz, Result.andThen_ok, run_underlying Tryz.underlying56]
  simp only [List.getElem?_toArray] at h
  simp [(ty52).size, (ty35).size, Value.cells]
  rw [h]; rfl⟩
instance ty58 : Ty Tryz.prog 58 false 1 24 (.slice none 0 0) := ⟨by kernel_rfl, Tryz.isAgg58⟩
instance tu58 : TyU Tryz.prog 58 (.slice 135) := ⟨Tryz.underlying58⟩
instance tl58 : TyL Tryz.prog 58 135 4 32 [(.int .i64 0), (.int .i64 0), (.int .i64 0), (.int .i64 0)] := ⟨Tryz.underlying58, ⟨_, (.agg #[(.int .i64 0), (.int .i64 0), (.int .i64 0), (.int .i64 0)]), rfl, rfl, rfl, rfl, rfl, fun h => by cases h⟩, rfl⟩
instance ty61 : Ty Tryz.prog 61 true 2 32 (.agg #[(.slice none 0 0), (.int .i64 0)]) := ⟨by kernel_rfl, Tryz.isAgg61⟩
instance tf61_0 : TyF Tryz.prog 61 0 0 58 := tyF_of (sz := 1) Tryz.underlying61 rfl (fun w => (ty58).size w) (by decide)
instance tf61_1 : TyF Tryz.prog 61 1 1 35 := tyF_of (sz := 1) Tryz.underlying61 rfl (fun w => (ty35).size w) (by decide)
instance tb61 : TyB Tryz.prog 61 [(.slice none 0 0), (.int .i64 0)] #[(0, 1), (1, 1)] := ⟨fun parts cells w h => by
  have hz := (ty61).zero w
  simp only [Instr.build, Sem.run_bind, hz, Result.andThen_ok, run_underlying Tryz.underlying61]
  simp only [List.getElem?_toArray] at h
  simp [(ty58).size, (ty35).size, Value.cells]
  rw [h]; rfl⟩
instance ty62 : Ty Tryz.prog 62 true 2 32 (.agg #[(.slice none 0 0), (.int .i64 0)]) := ⟨by kernel_rfl, Tryz.isAgg62⟩
instance tf62_0 : TyF Tryz.prog 62 0 0 58 := tyF_of (sz := 1) Tryz.underlying62 rfl (fun w => (ty58).size w) (by decide)
instance tf62_1 : TyF Tryz.prog 62 1 1 35 := tyF_of (sz := 1) Tryz.underlying62 rfl (fun w => (ty35).size w) (by decide)
instance tb62 : TyB Tryz.prog 62 [(.slice none 0 0), (.int .i64 0)] #[(0, 1), (1, 1)] := ⟨fun parts cells w h => by
  have hz := (ty62).zero w
  simp only [Instr.build, Sem.run_bind, hz, Result.andThen_ok, run_underlying Tryz.underlying62]
  simp only [List.getElem?_toArray] at h
  simp [(ty58).size, (ty35).size, Value.cells]
  rw [h]; rfl⟩
instance ty77 : Ty Tryz.prog 77 true 3 40 (.agg #[(.int .i64 0), (.int .i64 0), (.slice none 0 0)]) := ⟨by kernel_rfl, Tryz.isAgg77⟩
instance tf77_0 : TyF Tryz.prog 77 0 0 3 := tyF_of (sz := 1) Tryz.underlying77 rfl (fun w => (ty3).size w) (by decide)
instance tf77_1 : TyF Tryz.prog 77 1 1 3 := tyF_of (sz := 1) Tryz.underlying77 rfl (fun w => (ty3).size w) (by decide)
instance tf77_2 : TyF Tryz.prog 77 2 2 33 := tyF_of (sz := 1) Tryz.underlying77 rfl (fun w => (ty33).size w) (by decide)
instance tb77 : TyB Tryz.prog 77 [(.int .i64 0), (.int .i64 0), (.slice none 0 0)] #[(0, 1), (1, 1), (2, 1)] := ⟨fun parts cells w h => by
  have hz := (ty77).zero w
  simp only [Instr.build, Sem.run_bind, hz, Result.andThen_ok, run_underlying Tryz.underlying77]
  simp only [List.getElem?_toArray] at h
  simp [(ty3).size, (ty33).size, Value.cells]
  rw [h]; rfl⟩
instance ty78 : Ty Tryz.prog 78 true 3 40 (.agg #[(.int .i64 0), (.int .i64 0), (.slice none 0 0)]) := ⟨by kernel_rfl, Tryz.isAgg78⟩
instance tf78_0 : TyF Tryz.prog 78 0 0 3 := tyF_of (sz := 1) Tryz.underlying78 rfl (fun w => (ty3).size w) (by decide)
instance tf78_1 : TyF Tryz.prog 78 1 1 3 := tyF_of (sz := 1) Tryz.underlying78 rfl (fun w => (ty3).size w) (by decide)
instance tf78_2 : TyF Tryz.prog 78 2 2 33 := tyF_of (sz := 1) Tryz.underlying78 rfl (fun w => (ty33).size w) (by decide)
instance tb78 : TyB Tryz.prog 78 [(.int .i64 0), (.int .i64 0), (.slice none 0 0)] #[(0, 1), (1, 1), (2, 1)] := ⟨fun parts cells w h => by
  have hz := (ty78).zero w
  simp only [Instr.build, Sem.run_bind, hz, Result.andThen_ok, run_underlying Tryz.underlying78]
  simp only [List.getElem?_toArray] at h
  simp [(ty3).size, (ty33).size, Value.cells]
  rw [h]; rfl⟩
instance ty81 : Ty Tryz.prog 81 true 0 0 (.agg #[]) := ⟨by kernel_rfl, Tryz.isAgg81⟩
instance tb81 : TyB Tryz.prog 81 [] #[] := ⟨fun parts cells w h => by
  have hz := (ty81).zero w
  simp only [Instr.build, Sem.run_bind, hz, Result.andThen_ok, run_underlying Tryz.underlying81]
  simp only [List.getElem?_toArray, List.getElem?_nil] at h
  simp [ Value.cells]
  rw [h]; rfl⟩
instance ty82 : Ty Tryz.prog 82 true 0 0 (.agg #[]) := ⟨by kernel_rfl, Tryz.isAgg82⟩
instance tb82 : TyB Tryz.prog 82 [] #[] := ⟨fun parts cells w h => by
  have hz := (ty82).zero w
  simp only [Instr.build, Sem.run_bind, hz, Result.andThen_ok, run_underlying Tryz.underlying82]
  simp only [List.getElem?_toArray, List.getElem?_nil] at h
  simp [ Value.cells]
  rw [h]; rfl⟩
instance ty83 : Ty Tryz.prog 83 false 1 8 (.pointer none) := ⟨by kernel_rfl, Tryz.isAgg83⟩
instance tu83 : TyU Tryz.prog 83 (.pointer 85) := ⟨Tryz.underlying83⟩
instance ty84 : Ty Tryz.prog 84 true 1 24 (.agg #[(.slice none 0 0)]) := ⟨by kernel_rfl, Tryz.isAgg84⟩
instance tf84_0 : TyF Tryz.prog 84 0 0 33 := tyF_of (sz := 1) Tryz.underlying84 rfl (fun w => (ty33).size w) (by decide)
instance tb84 : TyB Tryz.prog 84 [(.slice none 0 0)] #[(0, 1)] := ⟨fun parts cells w h => by
  have hz := (ty84).zero w
  simp only [Instr.build, Sem.run_bind, hz, Result.andThen_ok, run_underlying Tryz.underlying84]
  simp only [List.getElem?_toArray] at h
  simp [(ty33).size, Value.cells]
  rw [h]; rfl⟩
instance ty85 : Ty Tryz.prog 85 true 1 24 (.agg #[(.slice none 0 0)]) := ⟨by kernel_rfl, Tryz.isAgg85⟩
instance tf85_0 : TyF Tryz.prog 85 0 0 33 := tyF_of (sz := 1) Tryz.underlying85 rfl (fun w => (ty33).size w) (by decide)
instance tb85 : TyB Tryz.prog 85 [(.slice none 0 0)] #[(0, 1)] := ⟨fun parts cells w h => by
  have hz := (ty85).zero w
  simp only [Instr.build, Sem.run_bind, hz, Result.andThen_ok, run_underlying Tryz.underlying85]
  simp only [List.getElem?_toArray] at h
  simp [(ty33).size, Value.cells]
  rw [h]; rfl⟩
instance ty88 : Ty Tryz.prog 88 false 1 8 (.pointer none) := ⟨by kernel_rfl, Tryz.isAgg88⟩
instance tu88 : TyU Tryz.prog 88 (.pointer 90) := ⟨Tryz.underlying88⟩
instance ty89 : Ty Tryz.prog 89 true 1 24 (.agg #[(.slice none 0 0)]) := ⟨by kernel_rfl, Tryz.isAgg89⟩
instance tf89_0 : TyF Tryz.prog 89 0 0 33 := tyF_of (sz := 1) Tryz.underlying89 rfl (fun w => (ty33).size w) (by decide)
instance tb89 : TyB Tryz.prog 89 [(.slice none 0 0)] #[(0, 1)] := ⟨fun parts cells w h => by
  have hz := (ty89).zero w
  simp only [Instr.build, Sem.run_bind, hz, Result.andThen_ok, run_underlying Tryz.underlying89]
  simp only [List.getElem?_toArray] at h
  simp [(ty33).size, Value.cells]
  rw [h]; rfl⟩
instance ty90 : Ty Tryz.prog 90 true 1 24 (.agg #[(.slice none 0 0)]) := ⟨by kernel_rfl, Tryz.isAgg90⟩
instance tf90_0 : TyF Tryz.prog 90 0 0 33 := tyF_of (sz := 1) Tryz.underlying90 rfl (fun w => (ty33).size w) (by decide)
instance tb90 : TyB Tryz.prog 90 [(.slice none 0 0)] #[(0, 1)] := ⟨fun parts cells w h => by
  have hz := (ty90).zero w
  simp only [Instr.build, Sem.run_bind, hz, Result.andThen_ok, run_underlying Tryz.underlying90]
  simp only [List.getElem?_toArray] at h
  simp [(ty33).size, Value.cells]
  rw [h]; rfl⟩
instance ty94 : Ty Tryz.prog 94 true 1 8 (.agg #[(.int .i64 0)]) := ⟨by kernel_rfl, Tryz.isAgg94⟩
instance tf94_0 : TyF Tryz.prog 94 0 0 3 := tyF_of (sz := 1) Tryz.underlying94 rfl (fun w => (ty3).size w) (by decide)
instance tb94 : TyB Tryz.prog 94 [(.int .i64 0)] #[(0, 1)] := ⟨fun parts cells w h => by
  have hz := (ty94).zero w
  simp only [Instr.build, Sem.run_bind, hz, Result.andThen_ok, run_underlying Tryz.underlying94]
  simp only [List.getElem?_toArray] at h
  simp [(ty3).size, Value.cells]
  rw [h]; rfl⟩
instance ty95 : Ty Tryz.prog 95 true 1 8 (.agg #[(.int .i64 0)]) := ⟨by kernel_rfl, Tryz.isAgg95⟩
instance tf95_0 : TyF Tryz.prog 95 0 0 3 := tyF_of (sz := 1) Tryz.underlying95 rfl (fun w => (ty3).size w) (by decide)
instance tb95 : TyB Tryz.prog 95 [(.int .i64 0)] #[(0, 1)] := ⟨fun parts cells w h => by
  have hz := (ty95).zero w
  simp only [Instr.build, Sem.run_bind, hz, Result.andThen_ok, run_underlying Tryz.underlying95]
  simp only [List.getElem?_toArray] at h
  simp [(ty3).size, Value.cells]
  rw [h]; rfl⟩
instance ty96 : Ty Tryz.prog 96 false 1 8 (.pointer none) := ⟨by kernel_rfl, Tryz.isAgg96⟩
instance tu96 : TyU Tryz.prog 96 (.pointer 100) := ⟨Tryz.underlying96⟩
instance ty97 : Ty Tryz.prog 97 true 2 32 (.agg #[(.slice none 0 0), (.int .i64 0)]) := ⟨by kernel_rfl, Tryz.isAgg97⟩
instance tf97_0 : TyF Tryz.prog 97 0 0 33 := tyF_of (sz := 1) Tryz.underlying97 rfl (fun w => (ty33).size w) (by decide)
instance tf97_1 : TyF Tryz.prog 97 1 1 3 := tyF_of (sz := 1) Tryz.underlying97 rfl (fun w => (ty3).size w) (by decide)
instance tb97 : TyB Tryz.prog 97 [(.slice none 0 0), (.int .i64 0)] #[(0, 1), (1, 1)] := ⟨fun parts cells w h => by
  have hz := (ty97).zero w
  simp only [Instr.build, Sem.run_bind, hz, Result.andThen_ok, run_underlying Tryz.underlying97]
  simp only [List.getElem?_toArray] at h
  simp [(ty33).size, (ty3).size, Value.cells]
  rw [h]; rfl⟩
instance ty98 : Ty Tryz.prog 98 true 2 32 (.agg #[(.slice none 0 0), (.int .i64 0)]) := ⟨by kernel_rfl, Tryz.isAgg98⟩
instance tf98_0 : TyF Tryz.prog 98 0 0 33 := tyF_of (sz := 1) Tryz.underlying98 rfl (fun w => (ty33).size w) (by decide)
instance tf98_1 : TyF Tryz.prog 98 1 1 3 := tyF_of (sz := 1) Tryz.underlying98 rfl (fun w => (ty3).size w) (by decide)
instance tb98 : TyB Tryz.prog 98 [(.slice none 0 0), (.int .i64 0)] #[(0, 1), (1, 1)] := ⟨fun parts cells w h => by
  have hz := (ty98).zero w
  simp only [Instr.build, Sem.run_bind, hz, Result.andThen_ok, run_underlying Tryz.underlying98]
  simp only [List.getElem?_toArray] at h
  simp [(ty33).size, (ty3).size, Value.cells]
  rw [h]; rfl⟩
instance ty99 : Ty Tryz.prog 99 true 2 32 (.agg #[(.slice none 0 0), (.int .i64 0)]) := ⟨by kernel_rfl, Tryz.isAgg99⟩
instance tf99_0 : TyF Tryz.prog 99 0 0 98 := tyF_of (sz := 2) Tryz.underlying99 rfl (fun w => (ty98).size w) (by decide)
instance tb99 : TyB Tryz.prog 99 [(.slice none 0 0), (.int .i64 0)] #[(0, 2)] := ⟨fun parts cells w h => by
  have hz := (ty99).zero w
  simp only [Instr.build, Sem.run_bind, hz, Result.andThen_ok, run_underlying Tryz.underlying99]
  simp only [List.getElem?_toArray] at h
  simp [(ty98).size, Value.cells]
  rw [h]; rfl⟩
instance ty100 : Ty Tryz.prog 100 true 2 32 (.agg #[(.slice none 0 0), (.int .i64 0)]) := ⟨by kernel_rfl, Tryz.isAgg100⟩
instance tf100_0 : TyF Tryz.prog 100 0 0 98 := tyF_of (sz := 2) Tryz.underlying100 rfl (fun w => (ty98).size w) (by decide)
instance tb100 : TyB Tryz.prog 100 [(.slice none 0 0), (.int .i64 0)] #[(0, 2)] := ⟨fun parts cells w h => by
  have hz := (ty100).zero w
  simp only [Instr.build, Sem.run_bind, hz, Result.andThen_ok, run_underlying Tryz.underlying100]
  simp only [List.getElem?_toArray] at h
  simp [(ty98).size, Value.cells]
  rw [h]; rfl⟩
instance ty103 : Ty Tryz.prog 103 false 1 8 (.pointer none) := ⟨by kernel_rfl, Tryz.isAgg103⟩
instance tu103 : TyU Tryz.prog 103 (.pointer 105) := ⟨Tryz.underlying103⟩
instance ty104 : Ty Tryz.prog 104 true 4 48 (.agg #[(.slice none 0 0), (.int .i64 0), (.bool false), (.int .i64 0)]) := ⟨by kernel_rfl, Tryz.isAgg104⟩
instance tf104_0 : TyF Tryz.prog 104 0 0 33 := tyF_of (sz := 1) Tryz.underlying104 rfl (fun w => (ty33).size w) (by decide)
instance tf104_1 : TyF Tryz.prog 104 1 1 3 := tyF_of (sz := 1) Tryz.underlying104 rfl (fun w => (ty3).size w) (by decide)
instance tf104_2 : TyF Tryz.prog 104 2 2 4 := tyF_of (sz := 1) Tryz.underlying104 rfl (fun w => (ty4).size w) (by decide)
instance tf104_3 : TyF Tryz.prog 104 3 3 3 := tyF_of (sz := 1) Tryz.underlying104 rfl (fun w => (ty3).size w) (by decide)
instance tb104 : TyB Tryz.prog 104 [(.slice none 0 0), (.int .i64 0), (.bool false), (.int .i64 0)] #[(0, 1), (1, 1), (2, 1), (3, 1)] := ⟨fun parts cells w h => by
  have hz := (ty104).zero w
  simp only [Instr.build, Sem.run_bind, hz, Result.andThen_ok, run_underlying Tryz.underlying104]
  simp only [List.getElem?_toArray] at h
  simp [(ty33).size, (ty3).size, (ty4).size, Value.cells]
  rw [h]; rfl⟩
instance ty105 : Ty Tryz.prog 105 true 4 48 (.agg #[(.slice none 0 0), (.int .i64 0), (.bool false), (.int .i64 0)]) := ⟨by kernel_rfl, Tryz.isAgg105⟩
instance tf105_0 : TyF Tryz.prog 105 0 0 33 := tyF_of (sz := 1) Tryz.underlying105 rfl (fun w => (ty33).size w) (by decide)
instance tf105_1 : TyF Tryz.prog 105 1 1 3 := tyF_of (sz := 1) Tryz.underlying105 rfl (fun w => (ty3).size w) (by decide)
instance tf105_2 : TyF Tryz.prog 105 2 2 4 := tyF_of (sz := 1) Tryz.underlying105 rfl (fun w => (ty4).size w) (by decide)
instance tf105_3 : TyF Tryz.prog 105 3 3 3 := tyF_of (sz := 1) Tryz.underlying105 rfl (fun w => (ty3).size w) (by decide)
instance tb105 : TyB Tryz.prog 105 [(.slice none 0 0), (.int .i64 0), (.bool false), (.int .i64 0)] #[(0, 1), (1, 1), (2, 1), (3, 1)] := ⟨fun parts cells w h => by
  have hz := (ty105).zero w
  simp only [Instr.build, Sem.run_bind, hz, Result.andThen_ok, run_underlying Tryz.underlying105]
  simp only [List.getElem?_toArray] at h
  simp [(ty33).size, (ty3).size, (ty4).size, Value.cells]
  rw [h]; rfl⟩
instance ty112 : Ty Tryz.prog 112 false 1 24 (.slice none 0 0) := ⟨by kernel_rfl, Tryz.isAgg112⟩
instance tu112 : TyU Tryz.prog 112 (.slice 207) := ⟨Tryz.underlying112⟩
instance tl112 : TyL Tryz.prog 112 207 3 24 [(.int .i64 0), (.int .i64 0), (.int .i64 0)] := ⟨Tryz.underlying112, ⟨_, (.agg #[(.int .i64 0), (.int .i64 0), (.int .i64 0)]), rfl, rfl, rfl, rfl, rfl, fun h => by cases h⟩, rfl⟩
instance ty113 : Ty Tryz.prog 113 false 1 24 (.slice none 0 0) := ⟨by kernel_rfl, Tryz.isAgg113⟩
instance tu113 : TyU Tryz.prog 113 (.slice 160) := ⟨Tryz.underlying113⟩
instance tl113 : TyL Tryz.prog 113 160 4 56 [(.int .i64 0), (.int .i64 0), (.string .empty), (.slice none 0 0)] := ⟨Tryz.underlying113, ⟨_, (.agg #[(.int .i64 0), (.int .i64 0), (.string .empty), (.slice none 0 0)]), rfl, rfl, rfl, rfl, rfl, fun h => by cases h⟩, rfl⟩
instance ty114 : Ty Tryz.prog 114 true 18 208 (.agg #[(.int .i64 0), (.slice none 0 0), (.slice none 0 0), (.int .i64 0), (.int .i64 0), (.int .i64 0), (.int .i64 0), (.int .i64 0), (.int .i64 0), (.int .i64 0), (.bool false), (.slice none 0 0), (.slice none 0 0), (.int .i64 0), (.int .i64 0), (.int .i64 0), (.int .i64 0), (.int .i64 0)]) := ⟨by kernel_rfl, Tryz.isAgg114⟩
instance tf114_0 : TyF Tryz.prog 114 0 0 3 := tyF_of (sz := 1) Tryz.underlying114 rfl (fun w => (ty3).size w) (by decide)
instance tf114_1 : TyF Tryz.prog 114 1 1 112 := tyF_of (sz := 1) Tryz.underlying114 rfl (fun w => (ty112).size w) (by decide)
instance tf114_2 : TyF Tryz.prog 114 2 2 113 := tyF_of (sz := 1) Tryz.underlying114 rfl (fun w => (ty113).size w) (by decide)
instance tf114_3 : TyF Tryz.prog 114 3 3 3 := tyF_of (sz := 1) Tryz.underlying114 rfl (fun w => (ty3).size w) (by decide)
instance tf114_4 : TyF Tryz.prog 114 4 4 3 := tyF_of (sz := 1) Tryz.underlying114 rfl (fun w => (ty3).size w) (by decide)
instance tf114_5 : TyF Tryz.prog 114 5 5 3 := tyF_of (sz := 1) Tryz.underlying114 rfl (fun w => (ty3).size w) (by decide)
instance tf114_6 : TyF Tryz.prog 114 6 6 3 := tyF_of (sz := 1) Tryz.underlying114 rfl (fun w => (ty3).size w) (by decide)
instance tf114_7 : TyF Tryz.prog 114 7 7 3 := tyF_of (sz := 1) Tryz.underlying114 rfl (fun w => (ty3).size w) (by decide)
instance tf114_8 : TyF Tryz.prog 114 8 8 3 := tyF_of (sz := 1) Tryz.underlying114 rfl (fun w => (ty3).size w) (by decide)
instance tf114_9 : TyF Tryz.prog 114 9 9 3 := tyF_of (sz := 1) Tryz.underlying114 rfl (fun w => (ty3).size w) (by decide)
instance tf114_10 : TyF Tryz.prog 114 10 10 4 := tyF_of (sz := 1) Tryz.underlying114 rfl (fun w => (ty4).size w) (by decide)
instance tf114_11 : TyF Tryz.prog 114 11 11 22 := tyF_of (sz := 1) Tryz.underlying114 rfl (fun w => (ty22).size w) (by decide)
instance tf114_12 : TyF Tryz.prog 114 12 12 22 := tyF_of (sz := 1) Tryz.underlying114 rfl (fun w => (ty22).size w) (by decide)
instance tf114_13 : TyF Tryz.prog 114 13 13 3 := tyF_of (sz := 1) Tryz.underlying114 rfl (fun w => (ty3).size w) (by decide)
instance tf114_14 : TyF Tryz.prog 114 14 14 3 := tyF_of (sz := 1) Tryz.underlying114 rfl (fun w => (ty3).size w) (by decide)
instance tf114_15 : TyF Tryz.prog 114 15 15 3 := tyF_of (sz := 1) Tryz.underlying114 rfl (fun w => (ty3).size w) (by decide)
instance tf114_16 : TyF Tryz.prog 114 16 16 3 := tyF_of (sz := 1) Tryz.underlying114 rfl (fun w => (ty3).size w) (by decide)
instance tf114_17 : TyF Tryz.prog 114 17 17 3 := tyF_of (sz := 1) Tryz.underlying114 rfl (fun w => (ty3).size w) (by decide)
instance tb114 : TyB Tryz.prog 114 [(.int .i64 0), (.slice none 0 0), (.slice none 0 0), (.int .i64 0), (.int .i64 0), (.int .i64 0), (.int .i64 0), (.int .i64 0), (.int .i64 0), (.int .i64 0), (.bool false), (.slice none 0 0), (.slice none 0 0), (.int .i64 0), (.int .i64 0), (.int .i64 0), (.int .i64 0), (.int .i64 0)] #[(0, 1), (1, 1), (2, 1), (3, 1), (4, 1), (5, 1), (6, 1), (7, 1), (8, 1), (9, 1), (10, 1), (11, 1), (12, 1), (13, 1), (14, 1), (15, 1), (16, 1), (17, 1)] := ⟨fun parts cells w h => by
  have hz := (ty114).zero w
  simp only [Instr.build, Sem.run_bind, hz, Result.andThen_ok, run_underlying Tryz.underlying114]
  simp only [List.getElem?_toArray] at h
  simp [(ty3).size, (ty112).size, (ty113).size, (ty4).size, (ty22).size, Value.cells]
  rw [h]; rfl⟩
instance ty115 : Ty Tryz.prog 115 true 18 208 (.agg #[(.int .i64 0), (.slice none 0 0), (.slice none 0 0), (.int .i64 0), (.int .i64 0), (.int .i64 0), (.int .i64 0), (.int .i64 0), (.int .i64 0), (.int .i64 0), (.bool false), (.slice none 0 0), (.slice none 0 0), (.int .i64 0), (.int .i64 0), (.int .i64 0), (.int .i64 0), (.int .i64 0)]) := ⟨by kernel_rfl, Tryz.isAgg115⟩
instance tf115_0 : TyF Tryz.prog 115 0 0 3 := tyF_of (sz := 1) Tryz.underlying115 rfl (fun w => (ty3).size w) (by decide)
instance tf115_1 : TyF Tryz.prog 115 1 1 112 := tyF_of (sz := 1) Tryz.underlying115 rfl (fun w => (ty112).size w) (by decide)
instance tf115_2 : TyF Tryz.prog 115 2 2 113 := tyF_of (sz := 1) Tryz.underlying115 rfl (fun w => (ty113).size w) (by decide)
instance tf115_3 : TyF Tryz.prog 115 3 3 3 := tyF_of (sz := 1) Tryz.underlying115 rfl (fun w => (ty3).size w) (by decide)
instance tf115_4 : TyF Tryz.prog 115 4 4 3 := tyF_of (sz := 1) Tryz.underlying115 rfl (fun w => (ty3).size w) (by decide)
instance tf115_5 : TyF Tryz.prog 115 5 5 3 := tyF_of (sz := 1) Tryz.underlying115 rfl (fun w => (ty3).size w) (by decide)
instance tf115_6 : TyF Tryz.prog 115 6 6 3 := tyF_of (sz := 1) Tryz.underlying115 rfl (fun w => (ty3).size w) (by decide)
instance tf115_7 : TyF Tryz.prog 115 7 7 3 := tyF_of (sz := 1) Tryz.underlying115 rfl (fun w => (ty3).size w) (by decide)
instance tf115_8 : TyF Tryz.prog 115 8 8 3 := tyF_of (sz := 1) Tryz.underlying115 rfl (fun w => (ty3).size w) (by decide)
instance tf115_9 : TyF Tryz.prog 115 9 9 3 := tyF_of (sz := 1) Tryz.underlying115 rfl (fun w => (ty3).size w) (by decide)
instance tf115_10 : TyF Tryz.prog 115 10 10 4 := tyF_of (sz := 1) Tryz.underlying115 rfl (fun w => (ty4).size w) (by decide)
instance tf115_11 : TyF Tryz.prog 115 11 11 22 := tyF_of (sz := 1) Tryz.underlying115 rfl (fun w => (ty22).size w) (by decide)
instance tf115_12 : TyF Tryz.prog 115 12 12 22 := tyF_of (sz := 1) Tryz.underlying115 rfl (fun w => (ty22).size w) (by decide)
instance tf115_13 : TyF Tryz.prog 115 13 13 3 := tyF_of (sz := 1) Tryz.underlying115 rfl (fun w => (ty3).size w) (by decide)
instance tf115_14 : TyF Tryz.prog 115 14 14 3 := tyF_of (sz := 1) Tryz.underlying115 rfl (fun w => (ty3).size w) (by decide)
instance tf115_15 : TyF Tryz.prog 115 15 15 3 := tyF_of (sz := 1) Tryz.underlying115 rfl (fun w => (ty3).size w) (by decide)
instance tf115_16 : TyF Tryz.prog 115 16 16 3 := tyF_of (sz := 1) Tryz.underlying115 rfl (fun w => (ty3).size w) (by decide)
instance tf115_17 : TyF Tryz.prog 115 17 17 3 := tyF_of (sz := 1) Tryz.underlying115 rfl (fun w => (ty3).size w) (by decide)
instance tb115 : TyB Tryz.prog 115 [(.int .i64 0), (.slice none 0 0), (.slice none 0 0), (.int .i64 0), (.int .i64 0), (.int .i64 0), (.int .i64 0), (.int .i64 0), (.int .i64 0), (.int .i64 0), (.bool false), (.slice none 0 0), (.slice none 0 0), (.int .i64 0), (.int .i64 0), (.int .i64 0), (.int .i64 0), (.int .i64 0)] #[(0, 1), (1, 1), (2, 1), (3, 1), (4, 1), (5, 1), (6, 1), (7, 1), (8, 1), (9, 1), (10, 1), (11, 1), (12, 1), (13, 1), (14, 1), (15, 1), (16, 1), (17, 1)] := ⟨fun parts cells w h => by
  have hz := (ty115).zero w
  simp only [Instr.build, Sem.run_bind, hz, Result.andThen_ok, run_underlying Tryz.underlying115]
  simp only [List.getElem?_toArray] at h
  simp [(ty3).size, (ty112).size, (ty113).size, (ty4).size, (ty22).size, Value.cells]
  rw [h]; rfl⟩
instance ty120 : Ty Tryz.prog 120 false 1 24 (.slice none 0 0) := ⟨by kernel_rfl, Tryz.isAgg120⟩
instance tu120 : TyU Tryz.prog 120 (.slice 124) := ⟨Tryz.underlying120⟩
instance tl120 : TyL Tryz.prog 120 124 4 48 [(.int .i64 0), (.int .i64 0), (.int .i64 0), (.slice none 0 0)] := ⟨Tryz.underlying120, ⟨_, (.agg #[(.int .i64 0), (.int .i64 0), (.int .i64 0), (.slice none 0 0)]), rfl, rfl, rfl, rfl, rfl, fun h => by cases h⟩, rfl⟩
instance ty123 : Ty Tryz.prog 123 true 4 48 (.agg #[(.int .i64 0), (.int .i64 0), (.int .i64 0), (.slice none 0 0)]) := ⟨by kernel_rfl, Tryz.isAgg123⟩
instance tf123_0 : TyF Tryz.prog 123 0 0 3 := tyF_of (sz := 1) Tryz.underlying123 rfl (fun w => (ty3).size w) (by decide)
instance tf123_1 : TyF Tryz.prog 123 1 1 3 := tyF_of (sz := 1) Tryz.underlying123 rfl (fun w => (ty3).size w) (by decide)
instance tf123_2 : TyF Tryz.prog 123 2 2 3 := tyF_of (sz := 1) Tryz.underlying123 rfl (fun w => (ty3).size w) (by decide)
instance tf123_3 : TyF Tryz.prog 123 3 3 33 := tyF_of (sz := 1) Tryz.underlying123 rfl (fun w => (ty33).size w) (by decide)
instance tb123 : TyB Tryz.prog 123 [(.int .i64 0), (.int .i64 0), (.int .i64 0), (.slice none 0 0)] #[(0, 1), (1, 1), (2, 1), (3, 1)] := ⟨fun parts cells w h => by
  have hz := (ty123).zero w
  simp only [Instr.build, Sem.run_bind, hz, Result.andThen_ok, run_underlying Tryz.underlying123]
  simp only [List.getElem?_toArray] at h
  simp [(ty3).size, (ty33).size, Value.cells]
  rw [h]; rfl⟩
instance ty124 : Ty Tryz.prog 124 true 4 48 (.agg #[(.int .i64 0), (.int .i64 0), (.int .i64 0), (.slice none 0 0)]) := ⟨by kernel_rfl, Tryz.isAgg124⟩
instance tf124_0 : TyF Tryz.prog 124 0 0 3 := tyF_of (sz := 1) Tryz.underlying124 rfl (fun w => (ty3).size w) (by decide)
instance tf124_1 : TyF Tryz.prog 124 1 1 3 := tyF_of (sz := 1) Tryz.underlying124 rfl (fun w => (ty3).size w) (by decide)
instance tf124_2 : TyF Tryz.prog 124 2 2 3 := tyF_of (sz := 1) Tryz.underlying124 rfl (fun w => (ty3).size w) (by decide)
instance tf124_3 : TyF Tryz.prog 124 3 3 33 := tyF_of (sz := 1) Tryz.underlying124 rfl (fun w => (ty33).size w) (by decide)
instance tb124 : TyB Tryz.prog 124 [(.int .i64 0), (.int .i64 0), (.int .i64 0), (.slice none 0 0)] #[(0, 1), (1, 1), (2, 1), (3, 1)] := ⟨fun parts cells w h => by
  have hz := (ty124).zero w
  simp only [Instr.build, Sem.run_bind, hz, Result.andThen_ok, run_underlying Tryz.underlying124]
  simp only [List.getElem?_toArray] at h
  simp [(ty3).size, (ty33).size, Value.cells]
  rw [h]; rfl⟩
instance ty127 : Ty Tryz.prog 127 true 3 40 (.agg #[(.slice none 0 0), (.int .i64 0), (.int .i64 0)]) := ⟨by kernel_rfl, Tryz.isAgg127⟩
instance tf127_0 : TyF Tryz.prog 127 0 0 58 := tyF_of (sz := 1) Tryz.underlying127 rfl (fun w => (ty58).size w) (by decide)
instance tf127_1 : TyF Tryz.prog 127 1 1 3 := tyF_of (sz := 1) Tryz.underlying127 rfl (fun w => (ty3).size w) (by decide)
instance tf127_2 : TyF Tryz.prog 127 2 2 3 := tyF_of (sz := 1) Tryz.underlying127 rfl (fun w => (ty3).size w) (by decide)
instance tb127 : TyB Tryz.prog 127 [(.slice none 0 0), (.int .i64 0), (.int .i64 0)] #[(0, 1), (1, 1), (2, 1)] := ⟨fun parts cells w h => by
  have hz := (ty127).zero w
  simp only [Instr.build, Sem.run_bind, hz, Result.andThen_ok, run_underlying Tryz.underlying127]
  simp only [List.getElem?_toArray] at h
  simp [(ty58).size, (ty3).size, Value.cells]
  rw [h]; rfl⟩
instance ty128 : Ty Tryz.prog 128 true 3 40 (.agg #[(.slice none 0 0), (.int .i64 0), (.int .i64 0)]) := ⟨by kernel_rfl, Tryz.isAgg128⟩
instance tf128_0 : TyF Tryz.prog 128 0 0 58 := tyF_of (sz := 1) Tryz.underlying128 rfl (fun w => (ty58).size w) (by decide)
instance tf128_1 : TyF Tryz.prog 128 1 1 3 := tyF_of (sz := 1) Tryz.underlying128 rfl (fun w => (ty3).size w) (by decide)
instance tf128_2 : TyF Tryz.prog 128 2 2 3 := tyF_of (sz := 1) Tryz.underlying128 rfl (fun w => (ty3).size w) (by decide)
instance tb128 : TyB Tryz.prog 128 [(.slice none 0 0), (.int .i64 0), (.int .i64 0)] #[(0, 1), (1, 1), (2, 1)] := ⟨fun parts cells w h => by
  have hz := (ty128).zero w
  simp only [Instr.build, Sem.run_bind, hz, Result.andThen_ok, run_underlying Tryz.underlying128]
  simp only [List.getElem?_toArray] at h
  simp [(ty58).size, (ty3).size, Value.cells]
  rw [h]; rfl⟩
instance ty132 : Ty Tryz.prog 132 false 1 4 (.int .u32 0) := ⟨by kernel_rfl, Tryz.isAgg132⟩
instance tu132 : TyU Tryz.prog 132 (.int .u32) := ⟨Tryz.underlying132⟩
instance ty134 : Ty Tryz.prog 134 true 4 32 (.agg #[(.int .i64 0), (.int .i64 0), (.int .i64 0), (.int .i64 0)]) := ⟨by kernel_rfl, Tryz.isAgg134⟩
instance tf134_0 : TyF Tryz.prog 134 0 0 3 := tyF_of (sz := 1) Tryz.underlying134 rfl (fun w => (ty3).size w) (by decide)
instance tf134_1 : TyF Tryz.prog 134 1 1 3 := tyF_of (sz := 1) Tryz.underlying134 rfl (fun w => (ty3).size w) (by decide)
instance tf134_2 : TyF Tryz.prog 134 2 2 3 := tyF_of (sz := 1) Tryz.underlying134 rfl (fun w => (ty3).size w) (by decide)
instance tf134_3 : TyF Tryz.prog 134 3 3 3 := tyF_of (sz := 1) Tryz.underlying134 rfl (fun w => (ty3).size w) (by decide)
instance tb134 : TyB Tryz.prog 134 [(.int .i64 0), (.int .i64 0), (.int .i64 0), (.int .i64 0)] #[(0, 1), (1, 1), (2, 1), (3, 1)] := ⟨fun parts cells w h => by
  have hz := (ty134).zero w
  simp only [Instr.build, Sem.run_bind, hz, Result.andThen_ok, run_underlying Tryz.underlying134]
  simp only [List.getElem?_toArray] at h
  simp [(ty3).size, Value.cells]
  rw [h]; rfl⟩
instance ty135 : Ty Tryz.prog 135 true 4 32 (.agg #[(.int .i64 0), (.int .i64 0), (.int .i64 0), (.int .i64 0)]) := ⟨by kernel_rfl, Tryz.isAgg135⟩
instance tf135_0 : TyF Tryz.prog 135 0 0 3 := tyF_of (sz := 1) Tryz.underlying135 rfl (fun w => (ty3).size w) (by decide)
instance tf135_1 : TyF Tryz.prog 135 1 1 3 := tyF_of (sz := 1) Tryz.underlying135 rfl (fun w => (ty3).size w) (by decide)
instance tf135_2 : TyF Tryz.prog 135 2 2 3 := tyF_of (sz := 1) Tryz.underlying135 rfl (fun w => (ty3).size w) (by decide)
instance tf135_3 : TyF Tryz.prog 135 3 3 3 := tyF_of (sz := 1) Tryz.underlying135 rfl (fun w => (ty3).size w) (by decide)
instance tb135 : TyB Tryz.prog 135 [(.int .i64 0), (.int .i64 0), (.int .i64 0), (.int .i64 0)] #[(0, 1), (1, 1), (2, 1), (3, 1)] := ⟨fun parts cells w h => by
  have hz := (ty135).zero w
  simp only [Instr.build, Sem.run_bind, hz, Result.andThen_ok, run_underlying Tryz.underlying135]
  simp only [List.getElem?_toArray] at h
  simp [(ty3).size, Value.cells]
  rw [h]; rfl⟩
instance ty138 : Ty Tryz.prog 138 true 2 32 (.agg #[(.int .i64 0), (.slice none 0 0)]) := ⟨by kernel_rfl, Tryz.isAgg138⟩
instance tf138_0 : TyF Tryz.prog 138 0 0 3 := tyF_of (sz := 1) Tryz.underlying138 rfl (fun w => (ty3).size w) (by decide)
instance tf138_1 : TyF Tryz.prog 138 1 1 33 := tyF_of (sz := 1) Tryz.underlying138 rfl (fun w => (ty33).size w) (by decide)
instance tb138 : TyB Tryz.prog 138 [(.int .i64 0), (.slice none 0 0)] #[(0, 1), (1, 1)] := ⟨fun parts cells w h => by
  have hz := (ty138).zero w
  simp only [Instr.build, Sem.run_bind, hz, Result.andThen_ok, run_underlying Tryz.underlying138]
  simp only [List.getElem?_toArray] at h
  simp [(ty3).size, (ty33).size, Value.cells]
  rw [h]; rfl⟩
instance ty139 : Ty Tryz.prog 139 true 2 32 (.agg #[(.int .i64 0), (.slice none 0 0)]) := ⟨by kernel_rfl, Tryz.isAgg139⟩
instance tf139_0 : TyF Tryz.prog 139 0 0 3 := tyF_of (sz := 1) Tryz.underlying139 rfl (fun w => (ty3).size w) (by decide)
instance tf139_1 : TyF Tryz.prog 139 1 1 33 := tyF_of (sz := 1) Tryz.underlying139 rfl (fun w => (ty33).size w) (by decide)
instance tb139 : TyB Tryz.prog 139 [(.int .i64 0), (.slice none 0 0)] #[(0, 1), (1, 1)] := ⟨fun parts cells w h => by
  have hz := (ty139).zero w
  simp only [Instr.build, Sem.run_bind, hz, Result.andThen_ok, run_underlying Tryz.underlying139]
  simp only [List.getElem?_toArray] at h
  simp [(ty3).size, (ty33).size, Value.cells]
  rw [h]; rfl⟩
instance ty142 : Ty Tryz.prog 142 true 5 72 (.agg #[(.slice none 0 0), (.slice none 0 0), (.int .i64 0), (.int .i64 0), (.int .i64 0)]) := ⟨by kernel_rfl, Tryz.isAgg142⟩
instance tf142_0 : TyF Tryz.prog 142 0 0 113 := tyF_of (sz := 1) Tryz.underlying142 rfl (fun w => (ty113).size w) (by decide)
instance tf142_1 : TyF Tryz.prog 142 1 1 113 := tyF_of (sz := 1) Tryz.underlying142 rfl (fun w => (ty113).size w) (by decide)
instance tf142_2 : TyF Tryz.prog 142 2 2 3 := tyF_of (sz := 1) Tryz.underlying142 rfl (fun w => (ty3).size w) (by decide)
instance tf142_3 : TyF Tryz.prog 142 3 3 3 := tyF_of (sz := 1) Tryz.underlying142 rfl (fun w => (ty3).size w) (by decide)
instance tf142_4 : TyF Tryz.prog 142 4 4 3 := tyF_of (sz := 1) Tryz.underlying142 rfl (fun w => (ty3).size w) (by decide)
instance tb142 : TyB Tryz.prog 142 [(.slice none 0 0), (.slice none 0 0), (.int .i64 0), (.int .i64 0), (.int .i64 0)] #[(0, 1), (1, 1), (2, 1), (3, 1), (4, 1)] := ⟨fun parts cells w h => by
  have hz := (ty142).zero w
  simp only [Instr.build, Sem.run_bind, hz, Result.andThen_ok, run_underlying Tryz.underlying142]
  simp only [List.getElem?_toArray] at h
  simp [(ty113).size, (ty3).size, Value.cells]
  rw [h]; rfl⟩
instance ty143 : Ty Tryz.prog 143 true 5 72 (.agg #[(.slice none 0 0), (.slice none 0 0), (.int .i64 0), (.int .i64 0), (.int .i64 0)]) := ⟨by kernel_rfl, Tryz.isAgg143⟩
instance tf143_0 : TyF Tryz.prog 143 0 0 113 := tyF_of (sz := 1) Tryz.underlying143 rfl (fun w => (ty113).size w) (by decide)
instance tf143_1 : TyF Tryz.prog 143 1 1 113 := tyF_of (sz := 1) Tryz.underlying143 rfl (fun w => (ty113).size w) (by decide)
instance tf143_2 : TyF Tryz.prog 143 2 2 3 := tyF_of (sz := 1) Tryz.underlying143 rfl (fun w => (ty3).size w) (by decide)
instance tf143_3 : TyF Tryz.prog 143 3 3 3 := tyF_of (sz := 1) Tryz.underlying143 rfl (fun w => (ty3).size w) (by decide)
instance tf143_4 : TyF Tryz.prog 143 4 4 3 := tyF_of (sz := 1) Tryz.underlying143 rfl (fun w => (ty3).size w) (by decide)
instance tb143 : TyB Tryz.prog 143 [(.slice none 0 0), (.slice none 0 0), (.int .i64 0), (.int .i64 0), (.int .i64 0)] #[(0, 1), (1, 1), (2, 1), (3, 1), (4, 1)] := ⟨fun parts cells w h => by
  have hz := (ty143).zero w
  simp only [Instr.build, Sem.run_bind, hz, Result.andThen_ok, run_underlying Tryz.underlying143]
  simp only [List.getElem?_toArray] at h
  simp [(ty113).size, (ty3).size, Value.cells]
  rw [h]; rfl⟩
instance ty146 : Ty Tryz.prog 146 true 7 88 (.agg #[(.int .i64 0), (.int .i64 0), (.slice none 0 0), (.bool false), (.slice none 0 0), (.bool false), (.int .i64 0)]) := ⟨by kernel_rfl, Tryz.isAgg146⟩
instance tf146_0 : TyF Tryz.prog 146 0 0 3 := tyF_of (sz := 1) Tryz.underlying146 rfl (fun w => (ty3).size w) (by decide)
instance tf146_1 : TyF Tryz.prog 146 1 1 3 := tyF_of (sz := 1) Tryz.underlying146 rfl (fun w => (ty3).size w) (by decide)
instance tf146_2 : TyF Tryz.prog 146 2 2 22 := tyF_of (sz := 1) Tryz.underlying146 rfl (fun w => (ty22).size w) (by decide)
instance tf146_3 : TyF Tryz.prog 146 3 3 4 := tyF_of (sz := 1) Tryz.underlying146 rfl (fun w => (ty4).size w) (by decide)
instance tf146_4 : TyF Tryz.prog 146 4 4 22 := tyF_of (sz := 1) Tryz.underlying146 rfl (fun w => (ty22).size w) (by decide)
instance tf146_5 : TyF Tryz.prog 146 5 5 4 := tyF_of (sz := 1) Tryz.underlying146 rfl (fun w => (ty4).size w) (by decide)
instance tf146_6 : TyF Tryz.prog 146 6 6 3 := tyF_of (sz := 1) Tryz.underlying146 rfl (fun w => (ty3).size w) (by decide)
instance tb146 : TyB Tryz.prog 146 [(.int .i64 0), (.int .i64 0), (.slice none 0 0), (.bool false), (.slice none 0 0), (.bool false), (.int .i64 0)] #[(0, 1), (1, 1), (2, 1), (3, 1), (4, 1), (5, 1), (6, 1)] := ⟨fun parts cells w h => by
  have hz := (ty146).zero w
  simp only [Instr.build, Sem.run_bind, hz, Result.andThen_ok, run_underlying Tryz.underlying146]
  simp only [List.getElem?_toArray] at h
  simp [(ty3).size, (ty22).size, (ty4).size, Value.cells]
  rw [h]; rfl⟩
instance ty147 : Ty Tryz.prog 147 true 7 88 (.agg #[(.int .i64 0), (.int .i64 0), (.slice none 0 0), (.bool false), (.slice none 0 0), (.bool false), (.int .i64 0)]) := ⟨by kernel_rfl, Tryz.isAgg147⟩
instance tf147_0 : TyF Tryz.prog 147 0 0 3 := tyF_of (sz := 1) Tryz.underlying147 rfl (fun w => (ty3).size w) (by decide)
instance tf147_1 : TyF Tryz.prog 147 1 1 3 := tyF_of (sz := 1) Tryz.underlying147 rfl (fun w => (ty3).size w) (by decide)
instance tf147_2 : TyF Tryz.prog 147 2 2 22 := tyF_of (sz := 1) Tryz.underlying147 rfl (fun w => (ty22).size w) (by decide)
instance tf147_3 : TyF Tryz.prog 147 3 3 4 := tyF_of (sz := 1) Tryz.underlying147 rfl (fun w => (ty4).size w) (by decide)
instance tf147_4 : TyF Tryz.prog 147 4 4 22 := tyF_of (sz := 1) Tryz.underlying147 rfl (fun w => (ty22).size w) (by decide)
instance tf147_5 : TyF Tryz.prog 147 5 5 4 := tyF_of (sz := 1) Tryz.underlying147 rfl (fun w => (ty4).size w) (by decide)
instance tf147_6 : TyF Tryz.prog 147 6 6 3 := tyF_of (sz := 1) Tryz.underlying147 rfl (fun w => (ty3).size w) (by decide)
instance tb147 : TyB Tryz.prog 147 [(.int .i64 0), (.int .i64 0), (.slice none 0 0), (.bool false), (.slice none 0 0), (.bool false), (.int .i64 0)] #[(0, 1), (1, 1), (2, 1), (3, 1), (4, 1), (5, 1), (6, 1)] := ⟨fun parts cells w h => by
  have hz := (ty147).zero w
  simp only [Instr.build, Sem.run_bind, hz, Result.andThen_ok, run_underlying Tryz.underlying147]
  simp only [List.getElem?_toArray] at h
  simp [(ty3).size, (ty22).size, (ty4).size, Value.cells]
  rw [h]; rfl⟩
instance ty150 : Ty Tryz.prog 150 true 2 40 (.agg #[(.string .empty), (.slice none 0 0)]) := ⟨by kernel_rfl, Tryz.isAgg150⟩
instance tf150_0 : TyF Tryz.prog 150 0 0 9 := tyF_of (sz := 1) Tryz.underlying150 rfl (fun w => (ty9).size w) (by decide)
instance tf150_1 : TyF Tryz.prog 150 1 1 113 := tyF_of (sz := 1) Tryz.underlying150 rfl (fun w => (ty113).size w) (by decide)
instance tb150 : TyB Tryz.prog 150 [(.string .empty), (.slice none 0 0)] #[(0, 1), (1, 1)] := ⟨fun parts cells w h => by
  have hz := (ty150).zero w
  simp only [Instr.build, Sem.run_bind, hz, Result.andThen_ok, run_underlying Tryz.underlying150]
  simp only [List.getElem?_toArray] at h
  simp [(ty9).size, (ty113).size, Value.cells]
  rw [h]; rfl⟩
instance ty151 : Ty Tryz.prog 151 true 2 40 (.agg #[(.string .empty), (.slice none 0 0)]) := ⟨by kernel_rfl, Tryz.isAgg151⟩
instance tf151_0 : TyF Tryz.prog 151 0 0 9 := tyF_of (sz := 1) Tryz.underlying151 rfl (fun w => (ty9).size w) (by decide)
instance tf151_1 : TyF Tryz.prog 151 1 1 113 := tyF_of (sz := 1) Tryz.underlying151 rfl (fun w => (ty113).size w) (by decide)
instance tb151 : TyB Tryz.prog 151 [(.string .empty), (.slice none 0 0)] #[(0, 1), (1, 1)] := ⟨fun parts cells w h => by
  have hz := (ty151).zero w
  simp only [Instr.build, Sem.run_bind, hz, Result.andThen_ok, run_underlying Tryz.underlying151]
  simp only [List.getElem?_toArray] at h
  simp [(ty9).size, (ty113).size, Value.cells]
  rw [h]; rfl⟩
instance ty152 : Ty Tryz.prog 152 true 7 96 (.agg #[(.int .i64 0), (.int .i64 0), (.int .i64 0), (.int .i64 0), (.slice none 0 0), (.string .empty), (.slice none 0 0)]) := ⟨by kernel_rfl, Tryz.isAgg152⟩
instance tf152_0 : TyF Tryz.prog 152 0 0 3 := tyF_of (sz := 1) Tryz.underlying152 rfl (fun w => (ty3).size w) (by decide)
instance tf152_1 : TyF Tryz.prog 152 1 1 3 := tyF_of (sz := 1) Tryz.underlying152 rfl (fun w => (ty3).size w) (by decide)
instance tf152_2 : TyF Tryz.prog 152 2 2 3 := tyF_of (sz := 1) Tryz.underlying152 rfl (fun w => (ty3).size w) (by decide)
instance tf152_3 : TyF Tryz.prog 152 3 3 3 := tyF_of (sz := 1) Tryz.underlying152 rfl (fun w => (ty3).size w) (by decide)
instance tf152_4 : TyF Tryz.prog 152 4 4 113 := tyF_of (sz := 1) Tryz.underlying152 rfl (fun w => (ty113).size w) (by decide)
instance tf152_5 : TyF Tryz.prog 152 5 5 151 := tyF_of (sz := 2) Tryz.underlying152 rfl (fun w => (ty151).size w) (by decide)
instance tb152 : TyB Tryz.prog 152 [(.int .i64 0), (.int .i64 0), (.int .i64 0), (.int .i64 0), (.slice none 0 0), (.string .empty), (.slice none 0 0)] #[(0, 1), (1, 1), (2, 1), (3, 1), (4, 1), (5, 2)] := ⟨fun parts cells w h => by
  have hz := (ty152).zero w
  simp only [Instr.build, Sem.run_bind, hz, Result.andThen_ok, run_underlying Tryz.underlying152]
  simp only [List.getElem?_toArray] at h
  simp [(ty3).size, (ty113).size, (ty151).size, Value.cells]
  rw [h]; rfl⟩
instance ty153 : Ty Tryz.prog 153 true 7 96 (.agg #[(.int .i64 0), (.int .i64 0), (.int .i64 0), (.int .i64 0), (.slice none 0 0), (.string .empty), (.slice none 0 0)]) := ⟨by kernel_rfl, Tryz.isAgg153⟩
instance tf153_0 : TyF Tryz.prog 153 0 0 3 := tyF_of (sz := 1) Tryz.underlying153 rfl (fun w => (ty3).size w) (by decide)
instance tf153_1 : TyF Tryz.prog 153 1 1 3 := tyF_of (sz := 1) Tryz.underlying153 rfl (fun w => (ty3).size w) (by decide)
instance tf153_2 : TyF Tryz.prog 153 2 2 3 := tyF_of (sz := 1) Tryz.underlying153 rfl (fun w => (ty3).size w) (by decide)
instance tf153_3 : TyF Tryz.prog 153 3 3 3 := tyF_of (sz := 1) Tryz.underlying153 rfl (fun w => (ty3).size w) (by decide)
instance tf153_4 : TyF Tryz.prog 153 4 4 113 := tyF_of (sz := 1) Tryz.underlying153 rfl (fun w => (ty113).size w) (by decide)
instance tf153_5 : TyF Tryz.prog 153 5 5 151 := tyF_of (sz := 2) Tryz.underlying153 rfl (fun w => (ty151).size w) (by decide)
instance tb153 : TyB Tryz.prog 153 [(.int .i64 0), (.int .i64 0), (.int .i64 0), (.int .i64 0), (.slice none 0 0), (.string .empty), (.slice none 0 0)] #[(0, 1), (1, 1), (2, 1), (3, 1), (4, 1), (5, 2)] := ⟨fun parts cells w h => by
  have hz := (ty153).zero w
  simp only [Instr.build, Sem.run_bind, hz, Result.andThen_ok, run_underlying Tryz.underlying153]
  simp only [List.getElem?_toArray] at h
  simp [(ty3).size, (ty113).size, (ty151).size, Value.cells]
  rw [h]; rfl⟩
instance ty156 : Ty Tryz.prog 156 false 1 24 (.slice none 0 0) := ⟨by kernel_rfl, Tryz.isAgg156⟩
instance tu156 : TyU Tryz.prog 156 (.slice 158) := ⟨Tryz.underlying156⟩
instance tl156 : TyL Tryz.prog 156 158 2 40 [(.string .empty), (.slice none 0 0)] := ⟨Tryz.underlying156, ⟨_, (.agg #[(.string .empty), (.slice none 0 0)]), rfl, rfl, rfl, rfl, rfl, fun h => by cases h⟩, rfl⟩
instance ty157 : Ty Tryz.prog 157 true 2 40 (.agg #[(.string .empty), (.slice none 0 0)]) := ⟨by kernel_rfl, Tryz.isAgg157⟩
instance tf157_0 : TyF Tryz.prog 157 0 0 9 := tyF_of (sz := 1) Tryz.underlying157 rfl (fun w => (ty9).size w) (by decide)
instance tf157_1 : TyF Tryz.prog 157 1 1 156 := tyF_of (sz := 1) Tryz.underlying157 rfl (fun w => (ty156).size w) (by decide)
instance tb157 : TyB Tryz.prog 157 [(.string .empty), (.slice none 0 0)] #[(0, 1), (1, 1)] := ⟨fun parts cells w h => by
  have hz := (ty157).zero w
  simp only [Instr.build, Sem.run_bind, hz, Result.andThen_ok, run_underlying Tryz.underlying157]
  simp only [List.getElem?_toArray] at h
  simp [(ty9).size, (ty156).size, Value.cells]
  rw [h]; rfl⟩
instance ty158 : Ty Tryz.prog 158 true 2 40 (.agg #[(.string .empty), (.slice none 0 0)]) := ⟨by kernel_rfl, Tryz.isAgg158⟩
instance tf158_0 : TyF Tryz.prog 158 0 0 9 := tyF_of (sz := 1) Tryz.underlying158 rfl (fun w => (ty9).size w) (by decide)
instance tf158_1 : TyF Tryz.prog 158 1 1 156 := tyF_of (sz := 1) Tryz.underlying158 rfl (fun w => (ty156).size w) (by decide)
instance tb158 : TyB Tryz.prog 158 [(.string .empty), (.slice none 0 0)] #[(0, 1), (1, 1)] := ⟨fun parts cells w h => by
  have hz := (ty158).zero w
  simp only [Instr.build, Sem.run_bind, hz, Result.andThen_ok, run_underlying Tryz.underlying158]
  simp only [List.getElem?_toArray] at h
  simp [(ty9).size, (ty156).size, Value.cells]
  rw [h]; rfl⟩
instance ty159 : Ty Tryz.prog 159 true 4 56 (.agg #[(.int .i64 0), (.int .i64 0), (.string .empty), (.slice none 0 0)]) := ⟨by kernel_rfl, Tryz.isAgg159⟩
instance tf159_0 : TyF Tryz.prog 159 0 0 3 := tyF_of (sz := 1) Tryz.underlying159 rfl (fun w => (ty3).size w) (by decide)
instance tf159_1 : TyF Tryz.prog 159 1 1 3 := tyF_of (sz := 1) Tryz.underlying159 rfl (fun w => (ty3).size w) (by decide)
instance tf159_2 : TyF Tryz.prog 159 2 2 9 := tyF_of (sz := 1) Tryz.underlying159 rfl (fun w => (ty9).size w) (by decide)
instance tf159_3 : TyF Tryz.prog 159 3 3 113 := tyF_of (sz := 1) Tryz.underlying159 rfl (fun w => (ty113).size w) (by decide)
instance tb159 : TyB Tryz.prog 159 [(.int .i64 0), (.int .i64 0), (.string .empty), (.slice none 0 0)] #[(0, 1), (1, 1), (2, 1), (3, 1)] := ⟨fun parts cells w h => by
  have hz := (ty159).zero w
  simp only [Instr.build, Sem.run_bind, hz, Result.andThen_ok, run_underlying Tryz.underlying159]
  simp only [List.getElem?_toArray] at h
  simp [(ty3).size, (ty9).size, (ty113).size, Value.cells]
  rw [h]; rfl⟩
instance ty160 : Ty Tryz.prog 160 true 4 56 (.agg #[(.int .i64 0), (.int .i64 0), (.string .empty), (.slice none 0 0)]) := ⟨by kernel_rfl, Tryz.isAgg160⟩
instance tf160_0 : TyF Tryz.prog 160 0 0 3 := tyF_of (sz := 1) Tryz.underlying160 rfl (fun w => (ty3).size w) (by decide)
instance tf160_1 : TyF Tryz.prog 160 1 1 3 := tyF_of (sz := 1) Tryz.underlying160 rfl (fun w => (ty3).size w) (by decide)
instance tf160_2 : TyF Tryz.prog 160 2 2 9 := tyF_of (sz := 1) Tryz.underlying160 rfl (fun w => (ty9).size w) (by decide)
instance tf160_3 : TyF Tryz.prog 160 3 3 113 := tyF_of (sz := 1) Tryz.underlying160 rfl (fun w => (ty113).size w) (by decide)
instance tb160 : TyB Tryz.prog 160 [(.int .i64 0), (.int .i64 0), (.string .empty), (.slice none 0 0)] #[(0, 1), (1, 1), (2, 1), (3, 1)] := ⟨fun parts cells w h => by
  have hz := (ty160).zero w
  simp only [Instr.build, Sem.run_bind, hz, Result.andThen_ok, run_underlying Tryz.underlying160]
  simp only [List.getElem?_toArray] at h
  simp [(ty3).size, (ty9).size, (ty113).size, Value.cells]
  rw [h]; rfl⟩
instance ty161 : Ty Tryz.prog 161 true 8 112 (.agg #[(.int .i64 0), (.string .empty), (.slice none 0 0), (.bool false), (.int .i64 0), (.int .i64 0), (.string .empty), (.slice none 0 0)]) := ⟨by kernel_rfl, Tryz.isAgg161⟩
instance tf161_0 : TyF Tryz.prog 161 0 0 3 := tyF_of (sz := 1) Tryz.underlying161 rfl (fun w => (ty3).size w) (by decide)
instance tf161_1 : TyF Tryz.prog 161 1 1 158 := tyF_of (sz := 2) Tryz.underlying161 rfl (fun w => (ty158).size w) (by decide)
instance tf161_2 : TyF Tryz.prog 161 2 3 4 := tyF_of (sz := 1) Tryz.underlying161 rfl (fun w => (ty4).size w) (by decide)
instance tf161_3 : TyF Tryz.prog 161 3 4 160 := tyF_of (sz := 4) Tryz.underlying161 rfl (fun w => (ty160).size w) (by decide)
instance tb161 : TyB Tryz.prog 161 [(.int .i64 0), (.string .empty), (.slice none 0 0), (.bool false), (.int .i64 0), (.int .i64 0), (.string .empty), (.slice none 0 0)] #[(0, 1), (1, 2), (3, 1), (4, 4)] := ⟨fun parts cells w h => by
  have hz := (ty161).zero w
  simp only [Instr.build, Sem.run_bind, hz, Result.andThen_ok, run_underlying Tryz.underlying161]
  simp only [List.getElem?_toArray] at h
  simp [(ty3).size, (ty158).size, (ty4).size, (ty160).size, Value.cells]
  rw [h]; rfl⟩
instance ty162 : Ty Tryz.prog 162 true 8 112 (.agg #[(.int .i64 0), (.string .empty), (.slice none 0 0), (.bool false), (.int .i64 0), (.int .i64 0), (.string .empty), (.slice none 0 0)]) := ⟨by kernel_rfl, Tryz.isAgg162⟩
instance tf162_0 : TyF Tryz.prog 162 0 0 3 := tyF_of (sz := 1) Tryz.underlying162 rfl (fun w => (ty3).size w) (by decide)
instance tf162_1 : TyF Tryz.prog 162 1 1 158 := tyF_of (sz := 2) Tryz.underlying162 rfl (fun w => (ty158).size w) (by decide)
instance tf162_2 : TyF Tryz.prog 162 2 3 4 := tyF_of (sz := 1) Tryz.underlying162 rfl (fun w => (ty4).size w) (by decide)
instance tf162_3 : TyF Tryz.prog 162 3 4 160 := tyF_of (sz := 4) Tryz.underlying162 rfl (fun w => (ty160).size w) (by decide)
instance tb162 : TyB Tryz.prog 162 [(.int .i64 0), (.string .empty), (.slice none 0 0), (.bool false), (.int .i64 0), (.int .i64 0), (.string .empty), (.slice none 0 0)] #[(0, 1), (1, 2), (3, 1), (4, 4)] := ⟨fun parts cells w h => by
  have hz := (ty162).zero w
  simp only [Instr.build, Sem.run_bind, hz, Result.andThen_ok, run_underlying Tryz.underlying162]
  simp only [List.getElem?_toArray] at h
  simp [(ty3).size, (ty158).size, (ty4).size, (ty160).size, Value.cells]
  rw [h]; rfl⟩
instance ty165 : Ty Tryz.prog 165 true 9 120 (.agg #[(.int .i64 0), (.int .i64 0), (.string .empty), (.slice none 0 0), (.bool false), (.int .i64 0), (.int .i64 0), (.string .empty), (.slice none 0 0)]) := ⟨by kernel_rfl, Tryz.isAgg165⟩
instance tf165_0 : TyF Tryz.prog 165 0 0 3 := tyF_of (sz := 1) Tryz.underlying165 rfl (fun w => (ty3).size w) (by decide)
instance tf165_1 : TyF Tryz.prog 165 1 1 162 := tyF_of (sz := 8) Tryz.underlying165 rfl (fun w => (ty162).size w) (by decide)
instance tb165 : TyB Tryz.prog 165 [(.int .i64 0), (.int .i64 0), (.string .empty), (.slice none 0 0), (.bool false), (.int .i64 0), (.int .i64 0), (.string .empty), (.slice none 0 0)] #[(0, 1), (1, 8)] := ⟨fun parts cells w h => by
  have hz := (ty165).zero w
  simp only [Instr.build, Sem.run_bind, hz, Result.andThen_ok, run_underlying Tryz.underlying165]
  simp only [List.getElem?_toArray] at h
  simp [(ty3).size, (ty162).size, Value.cells]
  rw [h]; rfl⟩
instance ty166 : Ty Tryz.prog 166 true 9 120 (.agg #[(.int .i64 0), (.int .i64 0), (.string .empty), (.slice none 0 0), (.bool false), (.int .i64 0), (.int .i64 0), (.string .empty), (.slice none 0 0)]) := ⟨by kernel_rfl, Tryz.isAgg166⟩
instance tf166_0 : TyF Tryz.prog 166 0 0 3 := tyF_of (sz := 1) Tryz.underlying166 rfl (fun w => (ty3).size w) (by decide)
instance tf166_1 : TyF Tryz.prog 166 1 1 162 := tyF_of (sz := 8) Tryz.underlying166 rfl (fun w => (ty162).size w) (by decide)
instance tb166 : TyB Tryz.prog 166 [(.int .i64 0), (.int .i64 0), (.string .empty), (.slice none 0 0), (.bool false), (.int .i64 0), (.int .i64 0), (.string .empty), (.slice none 0 0)] #[(0, 1), (1, 8)] := ⟨fun parts cells w h => by
  have hz := (ty166).zero w
  simp only [Instr.build, Sem.run_bind, hz, Result.andThen_ok, run_underlying Tryz.underlying166]
  simp only [List.getElem?_toArray] at h
  simp [(ty3).size, (ty162).size, Value.cells]
  rw [h]; rfl⟩
instance ty170 : Ty Tryz.prog 170 false 1 8 (.int .u64 0) := ⟨by kernel_rfl, Tryz.isAgg170⟩
instance tu170 : TyU Tryz.prog 170 (.int .u64) := ⟨Tryz.underlying170⟩
instance ty174 : Ty Tryz.prog 174 false 1 8 (.pointer none) := ⟨by kernel_rfl, Tryz.isAgg174⟩
instance tu174 : TyU Tryz.prog 174 (.pointer 3) := ⟨Tryz.underlying174⟩
instance ty206 : Ty Tryz.prog 206 true 3 24 (.agg #[(.int .i64 0), (.int .i64 0), (.int .i64 0)]) := ⟨by kernel_rfl, Tryz.isAgg206⟩
instance tf206_0 : TyF Tryz.prog 206 0 0 3 := tyF_of (sz := 1) Tryz.underlying206 rfl (fun w => (ty3).size w) (by decide)
instance tf206_1 : TyF Tryz.prog 206 1 1 3 := tyF_of (sz := 1) Tryz.underlying206 rfl (fun w => (ty3).size w) (by decide)
instance tf206_2 : TyF Tryz.prog 206 2 2 3 := tyF_of (sz := 1) Tryz.underlying206 rfl (fun w => (ty3).size w) (by decide)
instance tb206 : TyB Tryz.prog 206 [(.int .i64 0), (.int .i64 0), (.int .i64 0)] #[(0, 1), (1, 1), (2, 1)] := ⟨fun parts cells w h => by
  have hz := (ty206).zero w
  simp only [Instr.build, Sem.run_bind, hz, Result.andThen_ok, run_underlying Tryz.underlying206]
  simp only [List.getElem?_toArray] at h
  simp [(ty3).size, Value.cells]
  rw [h]; rfl⟩
instance ty207 : Ty Tryz.prog 207 true 3 24 (.agg #[(.int .i64 0), (.int .i64 0), (.int .i64 0)]) := ⟨by kernel_rfl, Tryz.isAgg207⟩
instance tf207_0 : TyF Tryz.prog 207 0 0 3 := tyF_of (sz := 1) Tryz.underlying207 rfl (fun w => (ty3).size w) (by decide)
instance tf207_1 : TyF Tryz.prog 207 1 1 3 := tyF_of (sz := 1) Tryz.underlying207 rfl (fun w => (ty3).size w) (by decide)
instance tf207_2 : TyF Tryz.prog 207 2 2 3 := tyF_of (sz := 1) Tryz.underlying207 rfl (fun w => (ty3).size w) (by decide)
instance tb207 : TyB Tryz.prog 207 [(.int .i64 0), (.int .i64 0), (.int .i64 0)] #[(0, 1), (1, 1), (2, 1)] := ⟨fun parts cells w h => by
  have hz := (ty207).zero w
  simp only [Instr.build, Sem.run_bind, hz, Result.andThen_ok, run_underlying Tryz.underlying207]
  simp only [List.getElem?_toArray] at h
  simp [(ty3).size, Value.cells]
  rw [h]; rfl⟩
instance ty210 : Ty Tryz.prog 210 false 1 24 (.slice none 0 0) := ⟨by kernel_rfl, Tryz.isAgg210⟩
instance tu210 : TyU Tryz.prog 210 (.slice 174) := ⟨Tryz.underlying210⟩
instance tl210 : TyL Tryz.prog 210 174 1 8 [(.pointer none)] := ⟨Tryz.underlying210, ⟨_, (.pointer none), rfl, rfl, rfl, rfl, rfl, fun _ cs h => by cases h⟩, rfl⟩
theorem mixed : Tryz.prog.follows .mixedOrders = true := by kernel_rfl
end Go.Proofs.YtggdljhmbckpmaaGreat
