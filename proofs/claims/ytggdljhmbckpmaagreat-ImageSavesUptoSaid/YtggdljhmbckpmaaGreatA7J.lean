/- What is known of the types and functions of the program: facts off its tables. What is known of the functions of the program: that a call enters them. -/
import Derived.Test.YtggdljhmbckpmaaGreatA6
import Derived.Test.YtggdljhmbckpmaaGreatProg
import Derived.KernelRfl
set_option linter.unusedVariables false
set_option linter.unusedSimpArgs false
set_option maxRecDepth 100000
namespace Go.Proofs.YtggdljhmbckpmaaGreat
open Go Go.RowKit
instance jV : Ty Tryz.prog 3 false 1 8 (.int .i64 0) := ⟨by kernel_rfl, Tryz.isAgg3⟩
instance tu3 : TyU Tryz.prog 3 (.int .i64) := ⟨Tryz.underlying3⟩
instance ty4 : Ty Tryz.prog 4 false 1 1 (.bool false) := ⟨by kernel_rfl, Tryz.isAgg4⟩
instance tu4 : TyU Tryz.prog 4 .bool := ⟨Tryz.underlying4⟩
instance ty5 : Ty Tryz.prog 5 false 1 1 (.int .u8 0) := ⟨by kernel_rfl, Tryz.isAgg5⟩
instance tu5 : TyU Tryz.prog 5 (.int .u8) := ⟨Tryz.underlying5⟩
instance ty9 : Ty Tryz.prog 9 false 1 16 (.string .empty) := ⟨by kernel_rfl, Tryz.isAgg9⟩
instance tu9 : TyU Tryz.prog 9 .string := ⟨Tryz.underlying9⟩
instance zD : Ty Tryz.prog 22 false 1 24 (.slice none 0 0) := ⟨by kernel_rfl, Tryz.isAgg22⟩
instance tu22 : TyU Tryz.prog 22 (.slice 3) := ⟨Tryz.underlying22⟩
instance tl22 : TyL Tryz.prog 22 3 1 8 [(.int .i64 0)] := ⟨Tryz.underlying22, ⟨_, (.int .i64 0), rfl, rfl, rfl, rfl, rfl, fun _ cs h => by cases h⟩, rfl⟩
instance ty23 : Ty Tryz.prog 23 false 1 24 (.slice none 0 0) := ⟨by kernel_rfl, Tryz.isAgg23⟩
instance tu23 : TyU Tryz.prog 23 (.slice 143) := ⟨Tryz.underlying23⟩
instance tl23 : TyL Tryz.prog 23 143 5 72 [(.slice none 0 0), (.slice none 0 0), (.int .i64 0), (.int .i64 0), (.int .i64 0)] := ⟨Tryz.underlying23, ⟨_, (.agg #[(.slice none 0 0), (.slice none 0 0), (.int .i64 0), (.int .i64 0), (.int .i64 0)]), rfl, rfl, rfl, rfl, rfl, fun h => by cases h⟩, rfl⟩
instance ty24 : Ty Tryz.prog 24 false 1 24 (.slice none 0 0) := ⟨by kernel_rfl, Tryz.isAgg24⟩
instance tu24 : TyU Tryz.prog 24 (.slice 147) := ⟨Tryz.underlying24⟩
instance tl24 : TyL Tryz.prog 24 147 7 88 [(.int .i64 0), (.int .i64 0), (.slice none 0 0), (.bool false), (.slice none 0 0), (.bool false), (.int .i64 0)] := ⟨Tryz.underlying24, ⟨_, (.agg #[(.int .i64 0), (.int .i64 0), (.slice none 0 0), (.bool false), (.slice none 0 0), (.bool false), (.int .i64 0)]), rfl, rfl, rfl, rfl, rfl, fun h => by cases h⟩, rfl⟩
instance ty25 : Ty Tryz.prog 25 false 1 24 (.slice none 0 0) := ⟨by kernel_rfl, Tryz.isAgg25⟩
instance tu25 : TyU Tryz.prog 25 (.slice 153) := ⟨Tryz.underlying25⟩
instance tl25 : TyL Tryz.prog 25 153 7 96 [(.int .i64 0), (.int .i64 0), (.int .i64 0), (.int .i64 0), (.slice none 0 0), (.string .empty), (.slice none 0 0)] := ⟨Tryz.underlying25, ⟨_, (.agg #[(.int .i64 0), (.int .i64 0), (.int .i64 0), (.int .i64 0), (.slice none 0 0), (.string .empty), (.slice none 0 0)]), rfl, rfl, rfl, rfl, rfl, fun h => by cases h⟩, rfl⟩
instance ty26 : Ty Tryz.prog 26 false 1 24 (.slice none 0 0) := ⟨by kernel_rfl, Tryz.isAgg26⟩
instance tu26 : TyU Tryz.prog 26 (.slice 162) := ⟨Tryz.underlying26⟩
instance tl26 : TyL Tryz.prog 26 162 8 112 [(.int .i64 0), (.string .empty), (.slice none 0 0), (.bool false), (.int .i64 0), (.int .i64 0), (.string .empty), (.slice none 0 0)] := ⟨Tryz.underlying26, ⟨_, (.agg #[(.int .i64 0), (.string .empty), (.slice none 0 0), (.bool false), (.int .i64 0), (.int .i64 0), (.string .empty), (.slice none 0 0)]), rfl, rfl, rfl, rfl, rfl, fun h => by cases h⟩, rfl⟩
instance ty28 : Ty Tryz.prog 28 true 1 24 (.agg #[(.slice none 0 0)]) := ⟨by kernel_rfl, Tryz.isAgg28⟩
instance tf28_0 : TyF Tryz.prog 28 0 0 26 := cZ (sz := 1) Tryz.underlying28 rfl (fun w => (ty26).size w) cQ
instance ty29 : Ty Tryz.prog 29 false 1 24 (.slice none 0 0) := ⟨by kernel_rfl, Tryz.isAgg29⟩
instance tu29 : TyU Tryz.prog 29 (.slice 166) := ⟨Tryz.underlying29⟩
instance tl29 : TyL Tryz.prog 29 166 9 120 [(.int .i64 0), (.int .i64 0), (.string .empty), (.slice none 0 0), (.bool false), (.int .i64 0), (.int .i64 0), (.string .empty), (.slice none 0 0)] := ⟨Tryz.underlying29, ⟨_, (.agg #[(.int .i64 0), (.int .i64 0), (.string .empty), (.slice none 0 0), (.bool false), (.int .i64 0), (.int .i64 0), (.string .empty), (.slice none 0 0)]), rfl, rfl, rfl, rfl, rfl, fun h => by cases h⟩, rfl⟩
instance ty30 : Ty Tryz.prog 30 false 1 24 (.slice none 0 0) := ⟨by kernel_rfl, Tryz.isAgg30⟩
instance tu30 : TyU Tryz.prog 30 (.slice 115) := ⟨Tryz.underlying30⟩
instance tl30 : TyL Tryz.prog 30 115 18 208 [(.int .i64 0), (.slice none 0 0), (.slice none 0 0), (.int .i64 0), (.int .i64 0), (.int .i64 0), (.int .i64 0), (.int .i64 0), (.int .i64 0), (.int .i64 0), (.bool false), (.slice none 0 0), (.slice none 0 0), (.int .i64 0), (.int .i64 0), (.int .i64 0), (.int .i64 0), (.int .i64 0)] := ⟨Tryz.underlying30, ⟨_, (.agg #[(.int .i64 0), (.slice none 0 0), (.slice none 0 0), (.int .i64 0), (.int .i64 0), (.int .i64 0), (.int .i64 0), (.int .i64 0), (.int .i64 0), (.int .i64 0), (.bool false), (.slice none 0 0), (.slice none 0 0), (.int .i64 0), (.int .i64 0), (.int .i64 0), (.int .i64 0), (.int .i64 0)]), rfl, rfl, rfl, rfl, rfl, fun h => by cases h⟩, rfl⟩
instance ty32 : Ty Tryz.prog 32 true 16 256 (.agg #[(.int .i64 0), (.int .i64 0), (.int .i64 0), (.int .i64 0), (.int .i64 0), (.int .i64 0), (.bool false), (.slice none 0 0), (.slice none 0 0), (.slice none 0 0), (.slice none 0 0), (.slice none 0 0), (.slice none 0 0), (.slice none 0 0), (.slice none 0 0), (.int .i64 0)]) := ⟨by kernel_rfl, Tryz.isAgg32⟩
instance tf32_0 : TyF Tryz.prog 32 0 0 3 := cZ (sz := 1) Tryz.underlying32 rfl (fun w => (jV).size w) cQ
instance tf32_1 : TyF Tryz.prog 32 1 1 3 := cZ (sz := 1) Tryz.underlying32 rfl (fun w => (jV).size w) cQ
instance tf32_2 : TyF Tryz.prog 32 2 2 3 := cZ (sz := 1) Tryz.underlying32 rfl (fun w => (jV).size w) cQ
instance tf32_3 : TyF Tryz.prog 32 3 3 3 := cZ (sz := 1) Tryz.underlying32 rfl (fun w => (jV).size w) cQ
instance tf32_4 : TyF Tryz.prog 32 4 4 3 := cZ (sz := 1) Tryz.underlying32 rfl (fun w => (jV).size w) cQ
instance tf32_5 : TyF Tryz.prog 32 5 5 3 := cZ (sz := 1) Tryz.underlying32 rfl (fun w => (jV).size w) cQ
instance tf32_6 : TyF Tryz.prog 32 6 6 4 := cZ (sz := 1) Tryz.underlying32 rfl (fun w => (ty4).size w) cQ
instance tf32_7 : TyF Tryz.prog 32 7 7 22 := cZ (sz := 1) Tryz.underlying32 rfl (fun w => (zD).size w) cQ
instance tf32_8 : TyF Tryz.prog 32 8 8 22 := cZ (sz := 1) Tryz.underlying32 rfl (fun w => (zD).size w) cQ
instance tf32_9 : TyF Tryz.prog 32 9 9 23 := cZ (sz := 1) Tryz.underlying32 rfl (fun w => (ty23).size w) cQ
instance tf32_10 : TyF Tryz.prog 32 10 10 24 := cZ (sz := 1) Tryz.underlying32 rfl (fun w => (ty24).size w) cQ
instance tf32_11 : TyF Tryz.prog 32 11 11 25 := cZ (sz := 1) Tryz.underlying32 rfl (fun w => (ty25).size w) cQ
instance tf32_12 : TyF Tryz.prog 32 12 12 28 := cZ (sz := 1) Tryz.underlying32 rfl (fun w => (ty28).size w) cQ
instance tf32_13 : TyF Tryz.prog 32 13 13 29 := cZ (sz := 1) Tryz.underlying32 rfl (fun w => (ty29).size w) cQ
instance tf32_14 : TyF Tryz.prog 32 14 14 30 := cZ (sz := 1) Tryz.underlying32 rfl (fun w => (ty30).size w) cQ
instance tf32_15 : TyF Tryz.prog 32 15 15 3 := cZ (sz := 1) Tryz.underlying32 rfl (fun w => (jV).size w) cQ
instance tb32 : TyB Tryz.prog 32 [(.int .i64 0), (.int .i64 0), (.int .i64 0), (.int .i64 0), (.int .i64 0), (.int .i64 0), (.bool false), (.slice none 0 0), (.slice none 0 0), (.slice none 0 0), (.slice none 0 0), (.slice none 0 0), (.slice none 0 0), (.slice none 0 0), (.slice none 0 0), (.int .i64 0)] #[(0, 1), (1, 1), (2, 1), (3, 1), (4, 1), (5, 1), (6, 1), (7, 1), (8, 1), (9, 1), (10, 1), (11, 1), (12, 1), (13, 1), (14, 1), (15, 1)] := ⟨fun parts cells w h => by
  have hz := (ty32).zero w
  simp only [Instr.build, Sem.run_bind, hz, Result.andThen_ok, run_underlying Tryz.underlying32]
  simp only [List.getElem?_toArray] at h
  simp [(jV).size, (ty4).size, (zD).size, (ty23).size, (ty24).size, (ty25).size, (ty28).size, (ty29).size, (ty30).size, Value.cells]
  rw [h]; rfl⟩
instance nM : Ty Tryz.prog 33 false 1 24 (.slice none 0 0) := ⟨by kernel_rfl, Tryz.isAgg33⟩
instance tu33 : TyU Tryz.prog 33 (.slice 5) := ⟨Tryz.underlying33⟩
instance tl33 : TyL Tryz.prog 33 5 1 1 [(.int .u8 0)] := ⟨Tryz.underlying33, ⟨_, (.int .u8 0), rfl, rfl, rfl, rfl, rfl, fun _ cs h => by cases h⟩, rfl⟩
instance z8 : Ty Tryz.prog 35 false 1 8 (.int .i64 0) := ⟨by kernel_rfl, Tryz.isAgg35⟩
instance ty39 : Ty Tryz.prog 39 true 2 32 (.agg #[(.slice none 0 0), (.int .i64 0)]) := ⟨by kernel_rfl, Tryz.isAgg39⟩
instance tf39_0 : TyF Tryz.prog 39 0 0 33 := cZ (sz := 1) Tryz.underlying39 rfl (fun w => (nM).size w) cQ
instance tf39_1 : TyF Tryz.prog 39 1 1 35 := cZ (sz := 1) Tryz.underlying39 rfl (fun w => (z8).size w) cQ
instance tb39 : TyB Tryz.prog 39 [(.slice none 0 0), (.int .i64 0)] #[(0, 1), (1, 1)] := ⟨fun parts cells w h => by
  have hz := (ty39).zero w
  simp only [Instr.build, Sem.run_bind, hz, Result.andThen_ok, run_underlying Tryz.underlying39]
  simp only [List.getElem?_toArray] at h
  simp [(nM).size, (z8).size, Value.cells]
  rw [h]; rfl⟩
instance ty44 : Ty Tryz.prog 44 true 18 272 (.agg #[(.int .i64 0), (.int .i64 0), (.int .i64 0), (.int .i64 0), (.int .i64 0), (.int .i64 0), (.bool false), (.slice none 0 0), (.slice none 0 0), (.slice none 0 0), (.slice none 0 0), (.slice none 0 0), (.slice none 0 0), (.slice none 0 0), (.slice none 0 0), (.int .i64 0), (.int .i64 0), (.int .i64 0)]) := ⟨by kernel_rfl, Tryz.isAgg44⟩
instance tf44_0 : TyF Tryz.prog 44 0 0 32 := cZ (sz := 16) Tryz.underlying44 rfl (fun w => (ty32).size w) cQ
instance tf44_2 : TyF Tryz.prog 44 2 17 35 := cZ (sz := 1) Tryz.underlying44 rfl (fun w => (z8).size w) cQ
instance tb44 : TyB Tryz.prog 44 [(.int .i64 0), (.int .i64 0), (.int .i64 0), (.int .i64 0), (.int .i64 0), (.int .i64 0), (.bool false), (.slice none 0 0), (.slice none 0 0), (.slice none 0 0), (.slice none 0 0), (.slice none 0 0), (.slice none 0 0), (.slice none 0 0), (.slice none 0 0), (.int .i64 0), (.int .i64 0), (.int .i64 0)] #[(0, 16), (16, 1), (17, 1)] := ⟨fun parts cells w h => by
  have hz := (ty44).zero w
  simp only [Instr.build, Sem.run_bind, hz, Result.andThen_ok, run_underlying Tryz.underlying44]
  simp only [List.getElem?_toArray] at h
  simp [(ty32).size, (jV).size, (z8).size, Value.cells]
  rw [h]; rfl⟩
instance ty49 : Ty Tryz.prog 49 false 1 24 (.slice none 0 0) := ⟨by kernel_rfl, Tryz.isAgg49⟩
instance tu49 : TyU Tryz.prog 49 (.slice 139) := ⟨Tryz.underlying49⟩
instance tl49 : TyL Tryz.prog 49 139 2 32 [(.int .i64 0), (.slice none 0 0)] := ⟨Tryz.underlying49, ⟨_, (.agg #[(.int .i64 0), (.slice none 0 0)]), rfl, rfl, rfl, rfl, rfl, fun h => by cases h⟩, rfl⟩
instance ty51 : Ty Tryz.prog 51 true 2 48 (.agg #[(.slice none 0 0), (.slice none 0 0)]) := ⟨by kernel_rfl, Tryz.isAgg51⟩
instance tf51_0 : TyF Tryz.prog 51 0 0 33 := cZ (sz := 1) Tryz.underlying51 rfl (fun w => (nM).size w) cQ
instance tf51_1 : TyF Tryz.prog 51 1 1 49 := cZ (sz := 1) Tryz.underlying51 rfl (fun w => (ty49).size w) cQ
instance tb51 : TyB Tryz.prog 51 [(.slice none 0 0), (.slice none 0 0)] #[(0, 1), (1, 1)] := ⟨fun parts cells w h => by
  have hz := (ty51).zero w
  simp only [Instr.build, Sem.run_bind, hz, Result.andThen_ok, run_underlying Tryz.underlying51]
  simp only [List.getElem?_toArray] at h
  simp [(nM).size, (ty49).size, Value.cells]
  rw [h]; rfl⟩
instance ty52 : Ty Tryz.prog 52 false 1 24 (.slice none 0 0) := ⟨by kernel_rfl, Tryz.isAgg52⟩
instance tu52 : TyU Tryz.prog 52 (.slice 78) := ⟨Tryz.underlying52⟩
instance tl52 : TyL Tryz.prog 52 78 3 40 [(.int .i64 0), (.int .i64 0), (.slice none 0 0)] := ⟨Tryz.underlying52, ⟨_, (.agg #[(.int .i64 0), (.int .i64 0), (.slice none 0 0)]), rfl, rfl, rfl, rfl, rfl, fun h => by cases h⟩, rfl⟩
instance ty56 : Ty Tryz.prog 56 true 2 32 (.agg #[(.slice none 0 0), (.int .i64 0)]) := ⟨by kernel_rfl, Tryz.isAgg56⟩
instance tf56_0 : TyF Tryz.prog 56 0 0 52 := cZ (sz := 1) Tryz.underlying56 rfl (fun w => (ty52).size w) cQ
instance tf56_1 : TyF Tryz.prog 56 1 1 35 := cZ (sz := 1) Tryz.underlying56 rfl (fun w => (z8).size w) cQ
instance tb56 : TyB Tryz.prog 56 [(.slice none 0 0), (.int .i64 0)] #[(0, 1), (1, 1)] := ⟨fun parts cells w h => by
  have hz := (ty56).zero w
  simp only [Instr.build, Sem.run_bind, hz, Result.andThen_ok, run_underlying Tryz.underlying56]
  simp only [List.getElem?_toArray] at h
  simp [(ty52).size, (z8).size, Value.cells]
  rw [h]; rfl⟩
instance ty58 : Ty Tryz.prog 58 false 1 24 (.slice none 0 0) := ⟨by kernel_rfl, Tryz.isAgg58⟩
instance tu58 : TyU Tryz.prog 58 (.slice 135) := ⟨Tryz.underlying58⟩
instance tl58 : TyL Tryz.prog 58 135 4 32 [(.int .i64 0), (.int .i64 0), (.int .i64 0), (.int .i64 0)] := ⟨Tryz.underlying58, ⟨_, (.agg #[(.int .i64 0), (.int .i64 0), (.int .i64 0), (.int .i64 0)]), rfl, rfl, rfl, rfl, rfl, fun h => by cases h⟩, rfl⟩
instance ty78 : Ty Tryz.prog 78 true 3 40 (.agg #[(.int .i64 0), (.int .i64 0), (.slice none 0 0)]) := ⟨by kernel_rfl, Tryz.isAgg78⟩
instance tf78_0 : TyF Tryz.prog 78 0 0 3 := cZ (sz := 1) Tryz.underlying78 rfl (fun w => (jV).size w) cQ
instance tf78_1 : TyF Tryz.prog 78 1 1 3 := cZ (sz := 1) Tryz.underlying78 rfl (fun w => (jV).size w) cQ
instance tf78_2 : TyF Tryz.prog 78 2 2 33 := cZ (sz := 1) Tryz.underlying78 rfl (fun w => (nM).size w) cQ
instance tb78 : TyB Tryz.prog 78 [(.int .i64 0), (.int .i64 0), (.slice none 0 0)] #[(0, 1), (1, 1), (2, 1)] := ⟨fun parts cells w h => by
  have hz := (ty78).zero w
  simp only [Instr.build, Sem.run_bind, hz, Result.andThen_ok, run_underlying Tryz.underlying78]
  simp only [List.getElem?_toArray] at h
  simp [(jV).size, (nM).size, Value.cells]
  rw [h]; rfl⟩
instance ty82 : Ty Tryz.prog 82 true 0 0 (.agg #[]) := ⟨by kernel_rfl, Tryz.isAgg82⟩
instance tb82 : TyB Tryz.prog 82 [] #[] := ⟨fun parts cells w h => by
  have hz := (ty82).zero w
  simp only [Instr.build, Sem.run_bind, hz, Result.andThen_ok, run_underlying Tryz.underlying82]
  simp only [List.getElem?_toArray, List.getElem?_nil] at h
  simp [ Value.cells]
  rw [h]; rfl⟩
instance ty83 : Ty Tryz.prog 83 false 1 8 (.pointer none) := ⟨by kernel_rfl, Tryz.isAgg83⟩
instance ty85 : Ty Tryz.prog 85 true 1 24 (.agg #[(.slice none 0 0)]) := ⟨by kernel_rfl, Tryz.isAgg85⟩
instance tf85_0 : TyF Tryz.prog 85 0 0 33 := cZ (sz := 1) Tryz.underlying85 rfl (fun w => (nM).size w) cQ
instance tb85 : TyB Tryz.prog 85 [(.slice none 0 0)] #[(0, 1)] := ⟨fun parts cells w h => by
  have hz := (ty85).zero w
  simp only [Instr.build, Sem.run_bind, hz, Result.andThen_ok, run_underlying Tryz.underlying85]
  simp only [List.getElem?_toArray] at h
  simp [(nM).size, Value.cells]
  rw [h]; rfl⟩
instance ty90 : Ty Tryz.prog 90 true 1 24 (.agg #[(.slice none 0 0)]) := ⟨by kernel_rfl, Tryz.isAgg90⟩
instance tf90_0 : TyF Tryz.prog 90 0 0 33 := cZ (sz := 1) Tryz.underlying90 rfl (fun w => (nM).size w) cQ
instance tb90 : TyB Tryz.prog 90 [(.slice none 0 0)] #[(0, 1)] := ⟨fun parts cells w h => by
  have hz := (ty90).zero w
  simp only [Instr.build, Sem.run_bind, hz, Result.andThen_ok, run_underlying Tryz.underlying90]
  simp only [List.getElem?_toArray] at h
  simp [(nM).size, Value.cells]
  rw [h]; rfl⟩
instance ty95 : Ty Tryz.prog 95 true 1 8 (.agg #[(.int .i64 0)]) := ⟨by kernel_rfl, Tryz.isAgg95⟩
instance tf95_0 : TyF Tryz.prog 95 0 0 3 := cZ (sz := 1) Tryz.underlying95 rfl (fun w => (jV).size w) cQ
instance tb95 : TyB Tryz.prog 95 [(.int .i64 0)] #[(0, 1)] := ⟨fun parts cells w h => by
  have hz := (ty95).zero w
  simp only [Instr.build, Sem.run_bind, hz, Result.andThen_ok, run_underlying Tryz.underlying95]
  simp only [List.getElem?_toArray] at h
  simp [(jV).size, Value.cells]
  rw [h]; rfl⟩
instance ty98 : Ty Tryz.prog 98 true 2 32 (.agg #[(.slice none 0 0), (.int .i64 0)]) := ⟨by kernel_rfl, Tryz.isAgg98⟩
instance tf98_0 : TyF Tryz.prog 98 0 0 33 := cZ (sz := 1) Tryz.underlying98 rfl (fun w => (nM).size w) cQ
instance tf98_1 : TyF Tryz.prog 98 1 1 3 := cZ (sz := 1) Tryz.underlying98 rfl (fun w => (jV).size w) cQ
instance tb98 : TyB Tryz.prog 98 [(.slice none 0 0), (.int .i64 0)] #[(0, 1), (1, 1)] := ⟨fun parts cells w h => by
  have hz := (ty98).zero w
  simp only [Instr.build, Sem.run_bind, hz, Result.andThen_ok, run_underlying Tryz.underlying98]
  simp only [List.getElem?_toArray] at h
  simp [(nM).size, (jV).size, Value.cells]
  rw [h]; rfl⟩
instance ty100 : Ty Tryz.prog 100 true 2 32 (.agg #[(.slice none 0 0), (.int .i64 0)]) := ⟨by kernel_rfl, Tryz.isAgg100⟩
instance tf100_0 : TyF Tryz.prog 100 0 0 98 := cZ (sz := 2) Tryz.underlying100 rfl (fun w => (ty98).size w) cQ
instance tb100 : TyB Tryz.prog 100 [(.slice none 0 0), (.int .i64 0)] #[(0, 2)] := ⟨fun parts cells w h => by
  have hz := (ty100).zero w
  simp only [Instr.build, Sem.run_bind, hz, Result.andThen_ok, run_underlying Tryz.underlying100]
  simp only [List.getElem?_toArray] at h
  simp [(ty98).size, Value.cells]
  rw [h]; rfl⟩
instance ty105 : Ty Tryz.prog 105 true 4 48 (.agg #[(.slice none 0 0), (.int .i64 0), (.bool false), (.int .i64 0)]) := ⟨by kernel_rfl, Tryz.isAgg105⟩
instance tf105_0 : TyF Tryz.prog 105 0 0 33 := cZ (sz := 1) Tryz.underlying105 rfl (fun w => (nM).size w) cQ
instance tf105_1 : TyF Tryz.prog 105 1 1 3 := cZ (sz := 1) Tryz.underlying105 rfl (fun w => (jV).size w) cQ
instance tf105_2 : TyF Tryz.prog 105 2 2 4 := cZ (sz := 1) Tryz.underlying105 rfl (fun w => (ty4).size w) cQ
instance tf105_3 : TyF Tryz.prog 105 3 3 3 := cZ (sz := 1) Tryz.underlying105 rfl (fun w => (jV).size w) cQ
instance tb105 : TyB Tryz.prog 105 [(.slice none 0 0), (.int .i64 0), (.bool false), (.int .i64 0)] #[(0, 1), (1, 1), (2, 1), (3, 1)] := ⟨fun parts cells w h => by
  have hz := (ty105).zero w
  simp only [Instr.build, Sem.run_bind, hz, Result.andThen_ok, run_underlying Tryz.underlying105]
  simp only [List.getElem?_toArray] at h
  simp [(nM).size, (jV).size, (ty4).size, Value.cells]
  rw [h]; rfl⟩
instance ty112 : Ty Tryz.prog 112 false 1 24 (.slice none 0 0) := ⟨by kernel_rfl, Tryz.isAgg112⟩
instance tu112 : TyU Tryz.prog 112 (.slice 207) := ⟨Tryz.underlying112⟩
instance tl112 : TyL Tryz.prog 112 207 3 24 [(.int .i64 0), (.int .i64 0), (.int .i64 0)] := ⟨Tryz.underlying112, ⟨_, (.agg #[(.int .i64 0), (.int .i64 0), (.int .i64 0)]), rfl, rfl, rfl, rfl, rfl, fun h => by cases h⟩, rfl⟩
instance vB : Ty Tryz.prog 113 false 1 24 (.slice none 0 0) := ⟨by kernel_rfl, Tryz.isAgg113⟩
instance tu113 : TyU Tryz.prog 113 (.slice 160) := ⟨Tryz.underlying113⟩
instance tl113 : TyL Tryz.prog 113 160 4 56 [(.int .i64 0), (.int .i64 0), (.string .empty), (.slice none 0 0)] := ⟨Tryz.underlying113, ⟨_, (.agg #[(.int .i64 0), (.int .i64 0), (.string .empty), (.slice none 0 0)]), rfl, rfl, rfl, rfl, rfl, fun h => by cases h⟩, rfl⟩
instance ty115 : Ty Tryz.prog 115 true 18 208 (.agg #[(.int .i64 0), (.slice none 0 0), (.slice none 0 0), (.int .i64 0), (.int .i64 0), (.int .i64 0), (.int .i64 0), (.int .i64 0), (.int .i64 0), (.int .i64 0), (.bool false), (.slice none 0 0), (.slice none 0 0), (.int .i64 0), (.int .i64 0), (.int .i64 0), (.int .i64 0), (.int .i64 0)]) := ⟨by kernel_rfl, Tryz.isAgg115⟩
instance tf115_0 : TyF Tryz.prog 115 0 0 3 := cZ (sz := 1) Tryz.underlying115 rfl (fun w => (jV).size w) cQ
instance tf115_1 : TyF Tryz.prog 115 1 1 112 := cZ (sz := 1) Tryz.underlying115 rfl (fun w => (ty112).size w) cQ
instance tf115_2 : TyF Tryz.prog 115 2 2 113 := cZ (sz := 1) Tryz.underlying115 rfl (fun w => (vB).size w) cQ
instance tf115_3 : TyF Tryz.prog 115 3 3 3 := cZ (sz := 1) Tryz.underlying115 rfl (fun w => (jV).size w) cQ
instance tf115_4 : TyF Tryz.prog 115 4 4 3 := cZ (sz := 1) Tryz.underlying115 rfl (fun w => (jV).size w) cQ
instance tf115_5 : TyF Tryz.prog 115 5 5 3 := cZ (sz := 1) Tryz.underlying115 rfl (fun w => (jV).size w) cQ
instance tf115_6 : TyF Tryz.prog 115 6 6 3 := cZ (sz := 1) Tryz.underlying115 rfl (fun w => (jV).size w) cQ
instance tf115_7 : TyF Tryz.prog 115 7 7 3 := cZ (sz := 1) Tryz.underlying115 rfl (fun w => (jV).size w) cQ
instance tf115_8 : TyF Tryz.prog 115 8 8 3 := cZ (sz := 1) Tryz.underlying115 rfl (fun w => (jV).size w) cQ
instance tf115_9 : TyF Tryz.prog 115 9 9 3 := cZ (sz := 1) Tryz.underlying115 rfl (fun w => (jV).size w) cQ
instance tf115_10 : TyF Tryz.prog 115 10 10 4 := cZ (sz := 1) Tryz.underlying115 rfl (fun w => (ty4).size w) cQ
instance tf115_11 : TyF Tryz.prog 115 11 11 22 := cZ (sz := 1) Tryz.underlying115 rfl (fun w => (zD).size w) cQ
instance tf115_12 : TyF Tryz.prog 115 12 12 22 := cZ (sz := 1) Tryz.underlying115 rfl (fun w => (zD).size w) cQ
instance tf115_13 : TyF Tryz.prog 115 13 13 3 := cZ (sz := 1) Tryz.underlying115 rfl (fun w => (jV).size w) cQ
instance tf115_14 : TyF Tryz.prog 115 14 14 3 := cZ (sz := 1) Tryz.underlying115 rfl (fun w => (jV).size w) cQ
instance tf115_15 : TyF Tryz.prog 115 15 15 3 := cZ (sz := 1) Tryz.underlying115 rfl (fun w => (jV).size w) cQ
instance tf115_16 : TyF Tryz.prog 115 16 16 3 := cZ (sz := 1) Tryz.underlying115 rfl (fun w => (jV).size w) cQ
instance tf115_17 : TyF Tryz.prog 115 17 17 3 := cZ (sz := 1) Tryz.underlying115 rfl (fun w => (jV).size w) cQ
instance ty120 : Ty Tryz.prog 120 false 1 24 (.slice none 0 0) := ⟨by kernel_rfl, Tryz.isAgg120⟩
instance tu120 : TyU Tryz.prog 120 (.slice 124) := ⟨Tryz.underlying120⟩
instance tl120 : TyL Tryz.prog 120 124 4 48 [(.int .i64 0), (.int .i64 0), (.int .i64 0), (.slice none 0 0)] := ⟨Tryz.underlying120, ⟨_, (.agg #[(.int .i64 0), (.int .i64 0), (.int .i64 0), (.slice none 0 0)]), rfl, rfl, rfl, rfl, rfl, fun h => by cases h⟩, rfl⟩
instance ty124 : Ty Tryz.prog 124 true 4 48 (.agg #[(.int .i64 0), (.int .i64 0), (.int .i64 0), (.slice none 0 0)]) := ⟨by kernel_rfl, Tryz.isAgg124⟩
instance tf124_0 : TyF Tryz.prog 124 0 0 3 := cZ (sz := 1) Tryz.underlying124 rfl (fun w => (jV).size w) cQ
instance tf124_1 : TyF Tryz.prog 124 1 1 3 := cZ (sz := 1) Tryz.underlying124 rfl (fun w => (jV).size w) cQ
instance tf124_2 : TyF Tryz.prog 124 2 2 3 := cZ (sz := 1) Tryz.underlying124 rfl (fun w => (jV).size w) cQ
instance tf124_3 : TyF Tryz.prog 124 3 3 33 := cZ (sz := 1) Tryz.underlying124 rfl (fun w => (nM).size w) cQ
instance tb124 : TyB Tryz.prog 124 [(.int .i64 0), (.int .i64 0), (.int .i64 0), (.slice none 0 0)] #[(0, 1), (1, 1), (2, 1), (3, 1)] := ⟨fun parts cells w h => by
  have hz := (ty124).zero w
  simp only [Instr.build, Sem.run_bind, hz, Result.andThen_ok, run_underlying Tryz.underlying124]
  simp only [List.getElem?_toArray] at h
  simp [(jV).size, (nM).size, Value.cells]
  rw [h]; rfl⟩
instance ty128 : Ty Tryz.prog 128 true 3 40 (.agg #[(.slice none 0 0), (.int .i64 0), (.int .i64 0)]) := ⟨by kernel_rfl, Tryz.isAgg128⟩
instance tf128_0 : TyF Tryz.prog 128 0 0 58 := cZ (sz := 1) Tryz.underlying128 rfl (fun w => (ty58).size w) cQ
instance tf128_1 : TyF Tryz.prog 128 1 1 3 := cZ (sz := 1) Tryz.underlying128 rfl (fun w => (jV).size w) cQ
instance tf128_2 : TyF Tryz.prog 128 2 2 3 := cZ (sz := 1) Tryz.underlying128 rfl (fun w => (jV).size w) cQ
instance tb128 : TyB Tryz.prog 128 [(.slice none 0 0), (.int .i64 0), (.int .i64 0)] #[(0, 1), (1, 1), (2, 1)] := ⟨fun parts cells w h => by
  have hz := (ty128).zero w
  simp only [Instr.build, Sem.run_bind, hz, Result.andThen_ok, run_underlying Tryz.underlying128]
  simp only [List.getElem?_toArray] at h
  simp [(ty58).size, (jV).size, Value.cells]
  rw [h]; rfl⟩
instance tu132 : TyU Tryz.prog 132 (.int .u32) := ⟨Tryz.underlying132⟩
instance ty135 : Ty Tryz.prog 135 true 4 32 (.agg #[(.int .i64 0), (.int .i64 0), (.int .i64 0), (.int .i64 0)]) := ⟨by kernel_rfl, Tryz.isAgg135⟩
instance tf135_0 : TyF Tryz.prog 135 0 0 3 := cZ (sz := 1) Tryz.underlying135 rfl (fun w => (jV).size w) cQ
instance tf135_1 : TyF Tryz.prog 135 1 1 3 := cZ (sz := 1) Tryz.underlying135 rfl (fun w => (jV).size w) cQ
instance tf135_2 : TyF Tryz.prog 135 2 2 3 := cZ (sz := 1) Tryz.underlying135 rfl (fun w => (jV).size w) cQ
instance tf135_3 : TyF Tryz.prog 135 3 3 3 := cZ (sz := 1) Tryz.underlying135 rfl (fun w => (jV).size w) cQ
instance tb135 : TyB Tryz.prog 135 [(.int .i64 0), (.int .i64 0), (.int .i64 0), (.int .i64 0)] #[(0, 1), (1, 1), (2, 1), (3, 1)] := ⟨fun parts cells w h => by
  have hz := (ty135).zero w
  simp only [Instr.build, Sem.run_bind, hz, Result.andThen_ok, run_underlying Tryz.underlying135]
  simp only [List.getElem?_toArray] at h
  simp [(jV).size, Value.cells]
  rw [h]; rfl⟩
instance ty139 : Ty Tryz.prog 139 true 2 32 (.agg #[(.int .i64 0), (.slice none 0 0)]) := ⟨by kernel_rfl, Tryz.isAgg139⟩
instance tf139_0 : TyF Tryz.prog 139 0 0 3 := cZ (sz := 1) Tryz.underlying139 rfl (fun w => (jV).size w) cQ
instance tf139_1 : TyF Tryz.prog 139 1 1 33 := cZ (sz := 1) Tryz.underlying139 rfl (fun w => (nM).size w) cQ
instance tb139 : TyB Tryz.prog 139 [(.int .i64 0), (.slice none 0 0)] #[(0, 1), (1, 1)] := ⟨fun parts cells w h => by
  have hz := (ty139).zero w
  simp only [Instr.build, Sem.run_bind, hz, Result.andThen_ok, run_underlying Tryz.underlying139]
  simp only [List.getElem?_toArray] at h
  simp [(jV).size, (nM).size, Value.cells]
  rw [h]; rfl⟩
instance ty143 : Ty Tryz.prog 143 true 5 72 (.agg #[(.slice none 0 0), (.slice none 0 0), (.int .i64 0), (.int .i64 0), (.int .i64 0)]) := ⟨by kernel_rfl, Tryz.isAgg143⟩
instance tf143_0 : TyF Tryz.prog 143 0 0 113 := cZ (sz := 1) Tryz.underlying143 rfl (fun w => (vB).size w) cQ
instance tf143_1 : TyF Tryz.prog 143 1 1 113 := cZ (sz := 1) Tryz.underlying143 rfl (fun w => (vB).size w) cQ
instance tf143_2 : TyF Tryz.prog 143 2 2 3 := cZ (sz := 1) Tryz.underlying143 rfl (fun w => (jV).size w) cQ
instance tf143_3 : TyF Tryz.prog 143 3 3 3 := cZ (sz := 1) Tryz.underlying143 rfl (fun w => (jV).size w) cQ
instance tf143_4 : TyF Tryz.prog 143 4 4 3 := cZ (sz := 1) Tryz.underlying143 rfl (fun w => (jV).size w) cQ
instance ty147 : Ty Tryz.prog 147 true 7 88 (.agg #[(.int .i64 0), (.int .i64 0), (.slice none 0 0), (.bool false), (.slice none 0 0), (.bool false), (.int .i64 0)]) := ⟨by kernel_rfl, Tryz.isAgg147⟩
instance tf147_0 : TyF Tryz.prog 147 0 0 3 := cZ (sz := 1) Tryz.underlying147 rfl (fun w => (jV).size w) cQ
instance tf147_1 : TyF Tryz.prog 147 1 1 3 := cZ (sz := 1) Tryz.underlying147 rfl (fun w => (jV).size w) cQ
instance tf147_2 : TyF Tryz.prog 147 2 2 22 := cZ (sz := 1) Tryz.underlying147 rfl (fun w => (zD).size w) cQ
instance tf147_3 : TyF Tryz.prog 147 3 3 4 := cZ (sz := 1) Tryz.underlying147 rfl (fun w => (ty4).size w) cQ
instance tf147_4 : TyF Tryz.prog 147 4 4 22 := cZ (sz := 1) Tryz.underlying147 rfl (fun w => (zD).size w) cQ
instance tf147_5 : TyF Tryz.prog 147 5 5 4 := cZ (sz := 1) Tryz.underlying147 rfl (fun w => (ty4).size w) cQ
instance tf147_6 : TyF Tryz.prog 147 6 6 3 := cZ (sz := 1) Tryz.underlying147 rfl (fun w => (jV).size w) cQ
instance ty151 : Ty Tryz.prog 151 true 2 40 (.agg #[(.string .empty), (.slice none 0 0)]) := ⟨by kernel_rfl, Tryz.isAgg151⟩
instance tf151_0 : TyF Tryz.prog 151 0 0 9 := cZ (sz := 1) Tryz.underlying151 rfl (fun w => (ty9).size w) cQ
instance tf151_1 : TyF Tryz.prog 151 1 1 113 := cZ (sz := 1) Tryz.underlying151 rfl (fun w => (vB).size w) cQ
instance ty153 : Ty Tryz.prog 153 true 7 96 (.agg #[(.int .i64 0), (.int .i64 0), (.int .i64 0), (.int .i64 0), (.slice none 0 0), (.string .empty), (.slice none 0 0)]) := ⟨by kernel_rfl, Tryz.isAgg153⟩
instance tf153_0 : TyF Tryz.prog 153 0 0 3 := cZ (sz := 1) Tryz.underlying153 rfl (fun w => (jV).size w) cQ
instance tf153_1 : TyF Tryz.prog 153 1 1 3 := cZ (sz := 1) Tryz.underlying153 rfl (fun w => (jV).size w) cQ
instance tf153_2 : TyF Tryz.prog 153 2 2 3 := cZ (sz := 1) Tryz.underlying153 rfl (fun w => (jV).size w) cQ
instance tf153_3 : TyF Tryz.prog 153 3 3 3 := cZ (sz := 1) Tryz.underlying153 rfl (fun w => (jV).size w) cQ
instance tf153_4 : TyF Tryz.prog 153 4 4 113 := cZ (sz := 1) Tryz.underlying153 rfl (fun w => (vB).size w) cQ
instance tf153_5 : TyF Tryz.prog 153 5 5 151 := cZ (sz := 2) Tryz.underlying153 rfl (fun w => (ty151).size w) cQ
instance ty156 : Ty Tryz.prog 156 false 1 24 (.slice none 0 0) := ⟨by kernel_rfl, Tryz.isAgg156⟩
instance tu156 : TyU Tryz.prog 156 (.slice 158) := ⟨Tryz.underlying156⟩
instance tl156 : TyL Tryz.prog 156 158 2 40 [(.string .empty), (.slice none 0 0)] := ⟨Tryz.underlying156, ⟨_, (.agg #[(.string .empty), (.slice none 0 0)]), rfl, rfl, rfl, rfl, rfl, fun h => by cases h⟩, rfl⟩
instance ty158 : Ty Tryz.prog 158 true 2 40 (.agg #[(.string .empty), (.slice none 0 0)]) := ⟨by kernel_rfl, Tryz.isAgg158⟩
instance tf158_0 : TyF Tryz.prog 158 0 0 9 := cZ (sz := 1) Tryz.underlying158 rfl (fun w => (ty9).size w) cQ
instance tf158_1 : TyF Tryz.prog 158 1 1 156 := cZ (sz := 1) Tryz.underlying158 rfl (fun w => (ty156).size w) cQ
instance ty160 : Ty Tryz.prog 160 true 4 56 (.agg #[(.int .i64 0), (.int .i64 0), (.string .empty), (.slice none 0 0)]) := ⟨by kernel_rfl, Tryz.isAgg160⟩
instance tf160_0 : TyF Tryz.prog 160 0 0 3 := cZ (sz := 1) Tryz.underlying160 rfl (fun w => (jV).size w) cQ
instance tf160_1 : TyF Tryz.prog 160 1 1 3 := cZ (sz := 1) Tryz.underlying160 rfl (fun w => (jV).size w) cQ
instance tf160_2 : TyF Tryz.prog 160 2 2 9 := cZ (sz := 1) Tryz.underlying160 rfl (fun w => (ty9).size w) cQ
instance tf160_3 : TyF Tryz.prog 160 3 3 113 := cZ (sz := 1) Tryz.underlying160 rfl (fun w => (vB).size w) cQ
instance ty162 : Ty Tryz.prog 162 true 8 112 (.agg #[(.int .i64 0), (.string .empty), (.slice none 0 0), (.bool false), (.int .i64 0), (.int .i64 0), (.string .empty), (.slice none 0 0)]) := ⟨by kernel_rfl, Tryz.isAgg162⟩
instance tf162_0 : TyF Tryz.prog 162 0 0 3 := cZ (sz := 1) Tryz.underlying162 rfl (fun w => (jV).size w) cQ
instance tf162_1 : TyF Tryz.prog 162 1 1 158 := cZ (sz := 2) Tryz.underlying162 rfl (fun w => (ty158).size w) cQ
instance tf162_2 : TyF Tryz.prog 162 2 3 4 := cZ (sz := 1) Tryz.underlying162 rfl (fun w => (ty4).size w) cQ
instance tf162_3 : TyF Tryz.prog 162 3 4 160 := cZ (sz := 4) Tryz.underlying162 rfl (fun w => (ty160).size w) cQ
instance ty166 : Ty Tryz.prog 166 true 9 120 (.agg #[(.int .i64 0), (.int .i64 0), (.string .empty), (.slice none 0 0), (.bool false), (.int .i64 0), (.int .i64 0), (.string .empty), (.slice none 0 0)]) := ⟨by kernel_rfl, Tryz.isAgg166⟩
instance tf166_0 : TyF Tryz.prog 166 0 0 3 := cZ (sz := 1) Tryz.underlying166 rfl (fun w => (jV).size w) cQ
instance tf166_1 : TyF Tryz.prog 166 1 1 162 := cZ (sz := 8) Tryz.underlying166 rfl (fun w => (ty162).size w) cQ
instance tu170 : TyU Tryz.prog 170 (.int .u64) := ⟨Tryz.underlying170⟩
instance ty174 : Ty Tryz.prog 174 false 1 8 (.pointer none) := ⟨by kernel_rfl, Tryz.isAgg174⟩
instance ty207 : Ty Tryz.prog 207 true 3 24 (.agg #[(.int .i64 0), (.int .i64 0), (.int .i64 0)]) := ⟨by kernel_rfl, Tryz.isAgg207⟩
instance tf207_0 : TyF Tryz.prog 207 0 0 3 := cZ (sz := 1) Tryz.underlying207 rfl (fun w => (jV).size w) cQ
instance tf207_1 : TyF Tryz.prog 207 1 1 3 := cZ (sz := 1) Tryz.underlying207 rfl (fun w => (jV).size w) cQ
instance tf207_2 : TyF Tryz.prog 207 2 2 3 := cZ (sz := 1) Tryz.underlying207 rfl (fun w => (jV).size w) cQ
instance tu210 : TyU Tryz.prog 210 (.slice 174) := ⟨Tryz.underlying210⟩
instance tl210 : TyL Tryz.prog 210 174 1 8 [(.pointer none)] := ⟨Tryz.underlying210, ⟨_, (.pointer none), rfl, rfl, rfl, rfl, rfl, fun _ cs h => by cases h⟩, rfl⟩
theorem fK : Tryz.prog.follows .mixedOrders = true := by kernel_rfl
end Go.Proofs.YtggdljhmbckpmaaGreat
set_option maxRecDepth 100000
namespace Go.Proofs.YtggdljhmbckpmaaGreat
open Go Go.RowKit
instance fo6 : FnOk Tryz.prog 6 := bO Tryz.func6 (by kernel_rfl) rfl
instance fo8 : FnOk Tryz.prog 8 := bO Tryz.func8 (by kernel_rfl) rfl
instance fo10 : FnOk Tryz.prog 10 := bO Tryz.func10 (by kernel_rfl) rfl
instance fo12 : FnOk Tryz.prog 12 := bO Tryz.func12 (by kernel_rfl) rfl
instance fo14 : FnOk Tryz.prog 14 := bO Tryz.func14 (by kernel_rfl) rfl
instance fo18 : FnOk Tryz.prog 18 := bO Tryz.func18 (by kernel_rfl) rfl
instance fo22 : FnOk Tryz.prog 22 := bO Tryz.func22 (by kernel_rfl) rfl
instance fo24 : FnOk Tryz.prog 24 := bO Tryz.func24 (by kernel_rfl) rfl
instance fo26 : FnOk Tryz.prog 26 := bO Tryz.func26 (by kernel_rfl) rfl
instance fo28 : FnOk Tryz.prog 28 := bO Tryz.func28 (by kernel_rfl) rfl
instance fo30 : FnOk Tryz.prog 30 := bO Tryz.func30 (by kernel_rfl) rfl
instance fo32 : FnOk Tryz.prog 32 := bO Tryz.func32 (by kernel_rfl) rfl
instance fo34 : FnOk Tryz.prog 34 := bO Tryz.func34 (by kernel_rfl) rfl
instance fo36 : FnOk Tryz.prog 36 := bO Tryz.func36 (by kernel_rfl) rfl
instance fo38 : FnOk Tryz.prog 38 := bO Tryz.func38 (by kernel_rfl) rfl
instance fo40 : FnOk Tryz.prog 40 := bO Tryz.func40 (by kernel_rfl) rfl
instance fo42 : FnOk Tryz.prog 42 := bO Tryz.func42 (by kernel_rfl) rfl
instance fo44 : FnOk Tryz.prog 44 := bO Tryz.func44 (by kernel_rfl) rfl
instance fo46 : FnOk Tryz.prog 46 := bO Tryz.func46 (by kernel_rfl) rfl
instance fo48 : FnOk Tryz.prog 48 := bO Tryz.func48 (by kernel_rfl) rfl
instance fo50 : FnOk Tryz.prog 50 := bO Tryz.func50 (by kernel_rfl) rfl
instance fo52 : FnOk Tryz.prog 52 := bO Tryz.func52 (by kernel_rfl) rfl
instance fo54 : FnOk Tryz.prog 54 := bO Tryz.func54 (by kernel_rfl) rfl
instance fo56 : FnOk Tryz.prog 56 := bO Tryz.func56 (by kernel_rfl) rfl
instance fo58 : FnOk Tryz.prog 58 := bO Tryz.func58 (by kernel_rfl) rfl
instance fo60 : FnOk Tryz.prog 60 := bO Tryz.func60 (by kernel_rfl) rfl
instance fo62 : FnOk Tryz.prog 62 := bO Tryz.func62 (by kernel_rfl) rfl
instance fo64 : FnOk Tryz.prog 64 := bO Tryz.func64 (by kernel_rfl) rfl
instance fo66 : FnOk Tryz.prog 66 := bO Tryz.func66 (by kernel_rfl) rfl
instance fo68 : FnOk Tryz.prog 68 := bO Tryz.func68 (by kernel_rfl) rfl
instance fo70 : FnOk Tryz.prog 70 := bO Tryz.func70 (by kernel_rfl) rfl
instance fo72 : FnOk Tryz.prog 72 := bO Tryz.func72 (by kernel_rfl) rfl
instance fo74 : FnOk Tryz.prog 74 := bO Tryz.func74 (by kernel_rfl) rfl
instance fo76 : FnOk Tryz.prog 76 := bO Tryz.func76 (by kernel_rfl) rfl
instance fo78 : FnOk Tryz.prog 78 := bO Tryz.func78 (by kernel_rfl) rfl
instance fo80 : FnOk Tryz.prog 80 := bO Tryz.func80 (by kernel_rfl) rfl
instance fo82 : FnOk Tryz.prog 82 := bO Tryz.func82 (by kernel_rfl) rfl
instance fo84 : FnOk Tryz.prog 84 := bO Tryz.func84 (by kernel_rfl) rfl
instance fo86 : FnOk Tryz.prog 86 := bO Tryz.func86 (by kernel_rfl) rfl
instance fo88 : FnOk Tryz.prog 88 := bO Tryz.func88 (by kernel_rfl) rfl
instance fo90 : FnOk Tryz.prog 90 := bO Tryz.func90 (by kernel_rfl) rfl
instance fo92 : FnOk Tryz.prog 92 := bO Tryz.func92 (by kernel_rfl) rfl
instance fo94 : FnOk Tryz.prog 94 := bO Tryz.func94 (by kernel_rfl) rfl
instance fo96 : FnOk Tryz.prog 96 := bO Tryz.func96 (by kernel_rfl) rfl
instance fo98 : FnOk Tryz.prog 98 := bO Tryz.func98 (by kernel_rfl) rfl
instance fo100 : FnOk Tryz.prog 100 := bO Tryz.func100 (by kernel_rfl) rfl
instance fo102 : FnOk Tryz.prog 102 := bO Tryz.func102 (by kernel_rfl) rfl
instance fo104 : FnOk Tryz.prog 104 := bO Tryz.func104 (by kernel_rfl) rfl
instance fo106 : FnOk Tryz.prog 106 := bO Tryz.func106 (by kernel_rfl) rfl
instance fo108 : FnOk Tryz.prog 108 := bO Tryz.func108 (by kernel_rfl) rfl
instance fo110 : FnOk Tryz.prog 110 := bO Tryz.func110 (by kernel_rfl) rfl
instance fo112 : FnOk Tryz.prog 112 := bO Tryz.func112 (by kernel_rfl) rfl
instance fo114 : FnOk Tryz.prog 114 := bO Tryz.func114 (by kernel_rfl) rfl
instance fo116 : FnOk Tryz.prog 116 := bO Tryz.func116 (by kernel_rfl) rfl
instance fo118 : FnOk Tryz.prog 118 := bO Tryz.func118 (by kernel_rfl) rfl
instance fo120 : FnOk Tryz.prog 120 := bO Tryz.func120 (by kernel_rfl) rfl
instance fo122 : FnOk Tryz.prog 122 := bO Tryz.func122 (by kernel_rfl) rfl
instance fo124 : FnOk Tryz.prog 124 := bO Tryz.func124 (by kernel_rfl) rfl
instance fo126 : FnOk Tryz.prog 126 := bO Tryz.func126 (by kernel_rfl) rfl
instance fo128 : FnOk Tryz.prog 128 := bO Tryz.func128 (by kernel_rfl) rfl
instance fo130 : FnOk Tryz.prog 130 := bO Tryz.func130 (by kernel_rfl) rfl
instance fo132 : FnOk Tryz.prog 132 := bO Tryz.func132 (by kernel_rfl) rfl
instance fo134 : FnOk Tryz.prog 134 := bO Tryz.func134 (by kernel_rfl) rfl
instance fo136 : FnOk Tryz.prog 136 := bO Tryz.func136 (by kernel_rfl) rfl
instance fo138 : FnOk Tryz.prog 138 := bO Tryz.func138 (by kernel_rfl) rfl
instance fo140 : FnOk Tryz.prog 140 := bO Tryz.func140 (by kernel_rfl) rfl
instance fo142 : FnOk Tryz.prog 142 := bO Tryz.func142 (by kernel_rfl) rfl
instance fo144 : FnOk Tryz.prog 144 := bO Tryz.func144 (by kernel_rfl) rfl
instance fo146 : FnOk Tryz.prog 146 := bO Tryz.func146 (by kernel_rfl) rfl
instance fo148 : FnOk Tryz.prog 148 := bO Tryz.func148 (by kernel_rfl) rfl
instance fo150 : FnOk Tryz.prog 150 := bO Tryz.func150 (by kernel_rfl) rfl
instance fo152 : FnOk Tryz.prog 152 := bO Tryz.func152 (by kernel_rfl) rfl
instance fo154 : FnOk Tryz.prog 154 := bO Tryz.func154 (by kernel_rfl) rfl
instance fo156 : FnOk Tryz.prog 156 := bO Tryz.func156 (by kernel_rfl) rfl
end Go.Proofs.YtggdljhmbckpmaaGreat
