/- What is known of the types and functions of the program: facts off its tables. -/
import Derived.Test.YtggdljhmbckpmaaA5J
import Derived.Test.YtggdljhmbckpmaaProg
import Derived.KernelRfl
set_option linter.unusedVariables false
set_option linter.unusedSimpArgs false
set_option maxRecDepth 100000
namespace Go.Proofs.Ytggdljhmbckpmaa
open Go Go.RowKit
instance ty3 : Ty Try.prog 3 false 1 8 (.int .i64 0) := ⟨by kernel_rfl, Try.isAgg3⟩
instance tu3 : TyU Try.prog 3 (.int .i64) := ⟨Try.underlying3⟩
instance ty4 : Ty Try.prog 4 false 1 1 (.bool false) := ⟨by kernel_rfl, Try.isAgg4⟩
instance tu4 : TyU Try.prog 4 .bool := ⟨Try.underlying4⟩
instance ty5 : Ty Try.prog 5 false 1 1 (.int .u8 0) := ⟨by kernel_rfl, Try.isAgg5⟩
instance tu5 : TyU Try.prog 5 (.int .u8) := ⟨Try.underlying5⟩
instance ty9 : Ty Try.prog 9 false 1 16 (.string .empty) := ⟨by kernel_rfl, Try.isAgg9⟩
instance tu9 : TyU Try.prog 9 .string := ⟨Try.underlying9⟩
instance ty20 : Ty Try.prog 20 false 1 16 .nilIface := ⟨by kernel_rfl, Try.isAgg20⟩
instance ty22 : Ty Try.prog 22 false 1 24 (.slice none 0 0) := ⟨by kernel_rfl, Try.isAgg22⟩
instance tu22 : TyU Try.prog 22 (.slice 3) := ⟨Try.underlying22⟩
instance tl22 : TyL Try.prog 22 3 1 8 [(.int .i64 0)] := ⟨Try.underlying22, ⟨_, (.int .i64 0), rfl, rfl, rfl, rfl, rfl, fun _ cs h => by cases h⟩, rfl⟩
instance ty23 : Ty Try.prog 23 false 1 24 (.slice none 0 0) := ⟨by kernel_rfl, Try.isAgg23⟩
instance tu23 : TyU Try.prog 23 (.slice 140) := ⟨Try.underlying23⟩
instance tl23 : TyL Try.prog 23 140 5 72 [(.slice none 0 0), (.slice none 0 0), (.int .i64 0), (.int .i64 0), (.int .i64 0)] := ⟨Try.underlying23, ⟨_, (.agg #[(.slice none 0 0), (.slice none 0 0), (.int .i64 0), (.int .i64 0), (.int .i64 0)]), rfl, rfl, rfl, rfl, rfl, fun h => by cases h⟩, rfl⟩
instance ty24 : Ty Try.prog 24 false 1 24 (.slice none 0 0) := ⟨by kernel_rfl, Try.isAgg24⟩
instance tu24 : TyU Try.prog 24 (.slice 144) := ⟨Try.underlying24⟩
instance tl24 : TyL Try.prog 24 144 7 88 [(.int .i64 0), (.int .i64 0), (.slice none 0 0), (.bool false), (.slice none 0 0), (.bool false), (.int .i64 0)] := ⟨Try.underlying24, ⟨_, (.agg #[(.int .i64 0), (.int .i64 0), (.slice none 0 0), (.bool false), (.slice none 0 0), (.bool false), (.int .i64 0)]), rfl, rfl, rfl, rfl, rfl, fun h => by cases h⟩, rfl⟩
instance ty25 : Ty Try.prog 25 false 1 24 (.slice none 0 0) := ⟨by kernel_rfl, Try.isAgg25⟩
instance tu25 : TyU Try.prog 25 (.slice 150) := ⟨Try.underlying25⟩
instance tl25 : TyL Try.prog 25 150 7 96 [(.int .i64 0), (.int .i64 0), (.int .i64 0), (.int .i64 0), (.slice none 0 0), (.string .empty), (.slice none 0 0)] := ⟨Try.underlying25, ⟨_, (.agg #[(.int .i64 0), (.int .i64 0), (.int .i64 0), (.int .i64 0), (.slice none 0 0), (.string .empty), (.slice none 0 0)]), rfl, rfl, rfl, rfl, rfl, fun h => by cases h⟩, rfl⟩
instance ty26 : Ty Try.prog 26 false 1 24 (.slice none 0 0) := ⟨by kernel_rfl, Try.isAgg26⟩
instance tu26 : TyU Try.prog 26 (.slice 159) := ⟨Try.underlying26⟩
instance tl26 : TyL Try.prog 26 159 8 112 [(.int .i64 0), (.string .empty), (.slice none 0 0), (.bool false), (.int .i64 0), (.int .i64 0), (.string .empty), (.slice none 0 0)] := ⟨Try.underlying26, ⟨_, (.agg #[(.int .i64 0), (.string .empty), (.slice none 0 0), (.bool false), (.int .i64 0), (.int .i64 0), (.string .empty), (.slice none 0 0)]), rfl, rfl, rfl, rfl, rfl, fun h => by cases h⟩, rfl⟩
instance ty27 : Ty Try.prog 27 true 1 24 (.agg #[(.slice none 0 0)]) := ⟨by kernel_rfl, Try.isAgg27⟩
instance tf27_0 : TyF Try.prog 27 0 0 26 := tyF_of (sz := 1) Try.underlying27 rfl (fun w => (ty26).size w) (by decide)
instance tb27 : TyB Try.prog 27 [(.slice none 0 0)] #[(0, 1)] := ⟨fun parts cells w h => by
  have hz := (ty27).zero w
  simp only [Instr.build, Sem.run_bind, hz, Result.andThen_ok, run_underlying Try.underlying27]
  simp only [List.getElem?_toArray] at h
  simp [(ty26).size, Value.cells]
  rw [h]; rfl⟩
instance ty28 : Ty Try.prog 28 true 1 24 (.agg #[(.slice none 0 0)]) := ⟨by kernel_rfl, Try.isAgg28⟩
instance tf28_0 : TyF Try.prog 28 0 0 26 := tyF_of (sz := 1) Try.underlying28 rfl (fun w => (ty26).size w) (by decide)
instance tb28 : TyB Try.prog 28 [(.slice none 0 0)] #[(0, 1)] := ⟨fun parts cells w h => by
  have hz := (ty28).zero w
  simp only [Instr.build, Sem.run_bind, hz, Result.andThen_ok, run_underlying Try.underlying28]
  simp only [List.getElem?_toArray] at h
  simp [(ty26).size, Value.cells]
  rw [h]; rfl⟩
instance ty29 : Ty Try.prog 29 false 1 24 (.slice none 0 0) := ⟨by kernel_rfl, Try.isAgg29⟩
instance tu29 : TyU Try.prog 29 (.slice 163) := ⟨Try.underlying29⟩
instance tl29 : TyL Try.prog 29 163 9 120 [(.int .i64 0), (.int .i64 0), (.string .empty), (.slice none 0 0), (.bool false), (.int .i64 0), (.int .i64 0), (.string .empty), (.slice none 0 0)] := ⟨Try.underlying29, ⟨_, (.agg #[(.int .i64 0), (.int .i64 0), (.string .empty), (.slice none 0 0), (.bool false), (.int .i64 0), (.int .i64 0), (.string .empty), (.slice none 0 0)]), rfl, rfl, rfl, rfl, rfl, fun h => by cases h⟩, rfl⟩
instance ty30 : Ty Try.prog 30 false 1 24 (.slice none 0 0) := ⟨by kernel_rfl, Try.isAgg30⟩
instance tu30 : TyU Try.prog 30 (.slice 113) := ⟨Try.underlying30⟩
instance tl30 : TyL Try.prog 30 113 18 208 [(.int .i64 0), (.slice none 0 0), (.slice none 0 0), (.int .i64 0), (.int .i64 0), (.int .i64 0), (.int .i64 0), (.int .i64 0), (.int .i64 0), (.int .i64 0), (.bool false), (.slice none 0 0), (.slice none 0 0), (.int .i64 0), (.int .i64 0), (.int .i64 0), (.int .i64 0), (.int .i64 0)] := ⟨Try.underlying30, ⟨_, (.agg #[(.int .i64 0), (.slice none 0 0), (.slice none 0 0), (.int .i64 0), (.int .i64 0), (.int .i64 0), (.int .i64 0), (.int .i64 0), (.int .i64 0), (.int .i64 0), (.bool false), (.slice none 0 0), (.slice none 0 0), (.int .i64 0), (.int .i64 0), (.int .i64 0), (.int .i64 0), (.int .i64 0)]), rfl, rfl, rfl, rfl, rfl, fun h => by cases h⟩, rfl⟩
instance ty31 : Ty Try.prog 31 true 16 256 (.agg #[(.int .i64 0), (.int .i64 0), (.int .i64 0), (.int .i64 0), (.int .i64 0), (.int .i64 0), (.bool false), (.slice none 0 0), (.slice none 0 0), (.slice none 0 0), (.slice none 0 0), (.slice none 0 0), (.slice none 0 0), (.slice none 0 0), (.slice none 0 0), (.int .i64 0)]) := ⟨by kernel_rfl, Try.isAgg31⟩
instance tf31_0 : TyF Try.prog 31 0 0 3 := tyF_of (sz := 1) Try.underlying31 rfl (fun w => (ty3).size w) (by decide)
instance tf31_1 : TyF Try.prog 31 1 1 3 := tyF_of (sz := 1) Try.underlying31 rfl (fun w => (ty3).size w) (by decide)
instance tf31_2 : TyF Try.prog 31 2 2 3 := tyF_of (sz := 1) Try.underlying31 rfl (fun w => (ty3).size w) (by decide)
instance tf31_3 : TyF Try.prog 31 3 3 3 := tyF_of (sz := 1) Try.underlying31 rfl (fun w => (ty3).size w) (by decide)
instance tf31_4 : TyF Try.prog 31 4 4 3 := tyF_of (sz := 1) Try.underlying31 rfl (fun w => (ty3).size w) (by decide)
instance tf31_5 : TyF Try.prog 31 5 5 3 := tyF_of (sz := 1) Try.underlying31 rfl (fun w => (ty3).size w) (by decide)
instance tf31_6 : TyF Try.prog 31 6 6 4 := tyF_of (sz := 1) Try.underlying31 rfl (fun w => (ty4).size w) (by decide)
instance tf31_7 : TyF Try.prog 31 7 7 22 := tyF_of (sz := 1) Try.underlying31 rfl (fun w => (ty22).size w) (by decide)
instance tf31_8 : TyF Try.prog 31 8 8 22 := tyF_of (sz := 1) Try.underlying31 rfl (fun w => (ty22).size w) (by decide)
instance tf31_9 : TyF Try.prog 31 9 9 23 := tyF_of (sz := 1) Try.underlying31 rfl (fun w => (ty23).size w) (by decide)
instance tf31_10 : TyF Try.prog 31 10 10 24 := tyF_of (sz := 1) Try.underlying31 rfl (fun w => (ty24).size w) (by decide)
instance tf31_11 : TyF Try.prog 31 11 11 25 := tyF_of (sz := 1) Try.underlying31 rfl (fun w => (ty25).size w) (by decide)
instance tf31_12 : TyF Try.prog 31 12 12 28 := tyF_of (sz := 1) Try.underlying31 rfl (fun w => (ty28).size w) (by decide)
instance tf31_13 : TyF Try.prog 31 13 13 29 := tyF_of (sz := 1) Try.underlying31 rfl (fun w => (ty29).size w) (by decide)
instance tf31_14 : TyF Try.prog 31 14 14 30 := tyF_of (sz := 1) Try.underlying31 rfl (fun w => (ty30).size w) (by decide)
instance tf31_15 : TyF Try.prog 31 15 15 3 := tyF_of (sz := 1) Try.underlying31 rfl (fun w => (ty3).size w) (by decide)
instance tb31 : TyB Try.prog 31 [(.int .i64 0), (.int .i64 0), (.int .i64 0), (.int .i64 0), (.int .i64 0), (.int .i64 0), (.bool false), (.slice none 0 0), (.slice none 0 0), (.slice none 0 0), (.slice none 0 0), (.slice none 0 0), (.slice none 0 0), (.slice none 0 0), (.slice none 0 0), (.int .i64 0)] #[(0, 1), (1, 1), (2, 1), (3, 1), (4, 1), (5, 1), (6, 1), (7, 1), (8, 1), (9, 1), (10, 1), (11, 1), (12, 1), (13, 1), (14, 1), (15, 1)] := ⟨fun parts cells w h => by
  have hz := (ty31).zero w
  simp only [Instr.build, Sem.run_bind, hz, Result.andThen_ok, run_underlying Try.underlying31]
  simp only [List.getElem?_toArray] at h
  simp [(ty3).size, (ty4).size, (ty22).size, (ty23).size, (ty24).size, (ty25).size, (ty28).size, (ty29).size, (ty30).size, Value.cells]
  rw [h]; rfl⟩
instance ty32 : Ty Try.prog 32 true 16 256 (.agg #[(.int .i64 0), (.int .i64 0), (.int .i64 0), (.int .i64 0), (.int .i64 0), (.int .i64 0), (.bool false), (.slice none 0 0), (.slice none 0 0), (.slice none 0 0), (.slice none 0 0), (.slice none 0 0), (.slice none 0 0), (.slice none 0 0), (.slice none 0 0), (.int .i64 0)]) := ⟨by kernel_rfl, Try.isAgg32⟩
instance tf32_0 : TyF Try.prog 32 0 0 3 := tyF_of (sz := 1) Try.underlying32 rfl (fun w => (ty3).size w) (by decide)
instance tf32_1 : TyF Try.prog 32 1 1 3 := tyF_of (sz := 1) Try.underlying32 rfl (fun w => (ty3).size w) (by decide)
instance tf32_2 : TyF Try.prog 32 2 2 3 := tyF_of (sz := 1) Try.underlying32 rfl (fun w => (ty3).size w) (by decide)
instance tf32_3 : TyF Try.prog 32 3 3 3 := tyF_of (sz := 1) Try.underlying32 rfl (fun w => (ty3).size w) (by decide)
instance tf32_4 : TyF Try.prog 32 4 4 3 := tyF_of (sz := 1) Try.underlying32 rfl (fun w => (ty3).size w) (by decide)
instance tf32_5 : TyF Try.prog 32 5 5 3 := tyF_of (sz := 1) Try.underlying32 rfl (fun w => (ty3).size w) (by decide)
instance tf32_6 : TyF Try.prog 32 6 6 4 := tyF_of (sz := 1) Try.underlying32 rfl (fun w => (ty4).size w) (by decide)
instance tf32_7 : TyF Try.prog 32 7 7 22 := tyF_of (sz := 1) Try.underlying32 rfl (fun w => (ty22).size w) (by decide)
instance tf32_8 : TyF Try.prog 32 8 8 22 := tyF_of (sz := 1) Try.underlying32 rfl (fun w => (ty22).size w) (by decide)
instance tf32_9 : TyF Try.prog 32 9 9 23 := tyF_of (sz := 1) Try.underlying32 rfl (fun w => (ty23).size w) (by decide)
instance tf32_10 : TyF Try.prog 32 10 10 24 := tyF_of (sz := 1) Try.underlying32 rfl (fun w => (ty24).size w) (by decide)
instance tf32_11 : TyF Try.prog 32 11 11 25 := tyF_of (sz := 1) Try.underlying32 rfl (fun w => (ty25).size w) (by decide)
instance tf32_12 : TyF Try.prog 32 12 12 28 := tyF_of (sz := 1) Try.underlying32 rfl (fun w => (ty28).size w) (by decide)
instance tf32_13 : TyF Try.prog 32 13 13 29 := tyF_of (sz := 1) Try.underlying32 rfl (fun w => (ty29).size w) (by decide)
instance tf32_14 : TyF Try.prog 32 14 14 30 := tyF_of (sz := 1) Try.underlying32 rfl (fun w => (ty30).size w) (by decide)
instance tf32_15 : TyF Try.prog 32 15 15 3 := tyF_of (sz := 1) Try.underlying32 rfl (fun w => (ty3).size w) (by decide)
instance tb32 : TyB Try.prog 32 [(.int .i64 0), (.int .i64 0), (.int .i64 0), (.int .i64 0), (.int .i64 0), (.int .i64 0), (.bool false), (.slice none 0 0), (.slice none 0 0), (.slice none 0 0), (.slice none 0 0), (.slice none 0 0), (.slice none 0 0), (.slice none 0 0), (.slice none 0 0), (.int .i64 0)] #[(0, 1), (1, 1), (2, 1), (3, 1), (4, 1), (5, 1), (6, 1), (7, 1), (8, 1), (9, 1), (10, 1), (11, 1), (12, 1), (13, 1), (14, 1), (15, 1)] := ⟨fun parts cells w h => by
  have hz := (ty32).zero w
  simp only [Instr.build, Sem.run_bind, hz, Result.andThen_ok, run_underlying Try.underlying32]
  simp only [List.getElem?_toArray] at h
  simp [(ty3).size, (ty4).size, (ty22).size, (ty23).size, (ty24).size, (ty25).size, (ty28).size, (ty29).size, (ty30).size, Value.cells]
  rw [h]; rfl⟩
instance ty33 : Ty Try.prog 33 false 1 24 (.slice none 0 0) := ⟨by kernel_rfl, Try.isAgg33⟩
instance tu33 : TyU Try.prog 33 (.slice 5) := ⟨Try.underlying33⟩
instance tl33 : TyL Try.prog 33 5 1 1 [(.int .u8 0)] := ⟨Try.underlying33, ⟨_, (.int .u8 0), rfl, rfl, rfl, rfl, rfl, fun _ cs h => by cases h⟩, rfl⟩
instance ty35 : Ty Try.prog 35 false 1 8 (.int .i64 0) := ⟨by kernel_rfl, Try.isAgg35⟩
instance tu35 : TyU Try.prog 35 (.int .i64) := ⟨Try.underlying35⟩
instance ty43 : Ty Try.prog 43 false 1 24 (.slice none 0 0) := ⟨by kernel_rfl, Try.isAgg43⟩
instance tu43 : TyU Try.prog 43 (.slice 130) := ⟨Try.underlying43⟩
instance tl43 : TyL Try.prog 43 130 2 32 [(.int .i64 0), (.slice none 0 0)] := ⟨Try.underlying43, ⟨_, (.agg #[(.int .i64 0), (.slice none 0 0)]), rfl, rfl, rfl, rfl, rfl, fun h => by cases h⟩, rfl⟩
instance ty44 : Ty Try.prog 44 true 2 48 (.agg #[(.slice none 0 0), (.slice none 0 0)]) := ⟨by kernel_rfl, Try.isAgg44⟩
instance tf44_0 : TyF Try.prog 44 0 0 33 := tyF_of (sz := 1) Try.underlying44 rfl (fun w => (ty33).size w) (by decide)
instance tf44_1 : TyF Try.prog 44 1 1 43 := tyF_of (sz := 1) Try.underlying44 rfl (fun w => (ty43).size w) (by decide)
instance tb44 : TyB Try.prog 44 [(.slice none 0 0), (.slice none 0 0)] #[(0, 1), (1, 1)] := ⟨fun parts cells w h => by
  have hz := (ty44).zero w
  simp only [Instr.build, Sem.run_bind, hz, Result.andThen_ok, run_underlying Try.underlying44]
  simp only [List.getElem?_toArray] at h
  simp [(ty33).size, (ty43).size, Value.cells]
  rw [h]; rfl⟩
instance ty45 : Ty Try.prog 45 true 2 48 (.agg #[(.slice none 0 0), (.slice none 0 0)]) := ⟨by kernel_rfl, Try.isAgg45⟩
instance tf45_0 : TyF Try.prog 45 0 0 33 := tyF_of (sz := 1) Try.underlying45 rfl (fun w => (ty33).size w) (by decide)
instance tf45_1 : TyF Try.prog 45 1 1 43 := tyF_of (sz := 1) Try.underlying45 rfl (fun w => (ty43).size w) (by decide)
instance tb45 : TyB Try.prog 45 [(.slice none 0 0), (.slice none 0 0)] #[(0, 1), (1, 1)] := ⟨fun parts cells w h => by
  have hz := (ty45).zero w
  simp only [Instr.build, Sem.run_bind, hz, Result.andThen_ok, run_underlying Try.underlying45]
  simp only [List.getElem?_toArray] at h
  simp [(ty33).size, (ty43).size, Value.cells]
  rw [h]; rfl⟩
instance ty46 : Ty Try.prog 46 false 1 24 (.slice none 0 0) := ⟨by kernel_rfl, Try.isAgg46⟩
instance tu46 : TyU Try.prog 46 (.slice 50) := ⟨Try.underlying46⟩
instance tl46 : TyL Try.prog 46 50 4 32 [(.int .i64 0), (.int .i64 0), (.int .i64 0), (.int .i64 0)] := ⟨Try.underlying46, ⟨_, (.agg #[(.int .i64 0), (.int .i64 0), (.int .i64 0), (.int .i64 0)]), rfl, rfl, rfl, rfl, rfl, fun h => by cases h⟩, rfl⟩
instance ty49 : Ty Try.prog 49 true 4 32 (.agg #[(.int .i64 0), (.int .i64 0), (.int .i64 0), (.int .i64 0)]) := ⟨by kernel_rfl, Try.isAgg49⟩
instance tf49_0 : TyF Try.prog 49 0 0 3 := tyF_of (sz := 1) Try.underlying49 rfl (fun w => (ty3).size w) (by decide)
instance tf49_1 : TyF Try.prog 49 1 1 3 := tyF_of (sz := 1) Try.underlying49 rfl (fun w => (ty3).size w) (by decide)
instance tf49_2 : TyF Try.prog 49 2 2 3 := tyF_of (sz := 1) Try.underlying49 rfl (fun w => (ty3).size w) (by decide)
instance tf49_3 : TyF Try.prog 49 3 3 3 := tyF_of (sz := 1) Try.underlying49 rfl (fun w => (ty3).size w) (by decide)
instance tb49 : TyB Try.prog 49 [(.int .i64 0), (.int .i64 0), (.int .i64 0), (.int .i64 0)] #[(0, 1), (1, 1), (2, 1), (3, 1)] := ⟨fun parts cells w h => by
  have hz := (ty49).zero w
  simp only [Instr.build, Sem.run_bind, hz, Result.andThen_ok, run_underlying Try.underlying49]
  simp only [List.getElem?_toArray] at h
  simp [(ty3).size, Value.cells]
  rw [h]; rfl⟩
instance ty50 : Ty Try.prog 50 true 4 32 (.agg #[(.int .i64 0), (.int .i64 0), (.int .i64 0), (.int .i64 0)]) := ⟨by kernel_rfl, Try.isAgg50⟩
instance tf50_0 : TyF Try.prog 50 0 0 3 := tyF_of (sz := 1) Try.underlying50 rfl (fun w => (ty3).size w) (by decide)
instance tf50_1 : TyF Try.prog 50 1 1 3 := tyF_of (sz := 1) Try.underlying50 rfl (fun w => (ty3).size w) (by decide)
instance tf50_2 : TyF Try.prog 50 2 2 3 := tyF_of (sz := 1) Try.underlying50 rfl (fun w => (ty3).size w) (by decide)
instance tf50_3 : TyF Try.prog 50 3 3 3 := tyF_of (sz := 1) Try.underlying50 rfl (fun w => (ty3).size w) (by decide)
instance tb50 : TyB Try.prog 50 [(.int .i64 0), (.int .i64 0), (.int .i64 0), (.int .i64 0)] #[(0, 1), (1, 1), (2, 1), (3, 1)] := ⟨fun parts cells w h => by
  have hz := (ty50).zero w
  simp only [Instr.build, Sem.run_bind, hz, Result.andThen_ok, run_underlying Try.underlying50]
  simp only [List.getElem?_toArray] at h
  simp [(ty3).size, Value.cells]
  rw [h]; rfl⟩
instance ty51 : Ty Try.prog 51 false 1 24 (.slice none 0 0) := ⟨by kernel_rfl, Try.isAgg51⟩
instance tu51 : TyU Try.prog 51 (.slice 84) := ⟨Try.underlying51⟩
instance tl51 : TyL Try.prog 51 84 3 40 [(.int .i64 0), (.int .i64 0), (.slice none 0 0)] := ⟨Try.underlying51, ⟨_, (.agg #[(.int .i64 0), (.int .i64 0), (.slice none 0 0)]), rfl, rfl, rfl, rfl, rfl, fun h => by cases h⟩, rfl⟩
instance ty59 : Ty Try.prog 59 true 3 56 (.agg #[(.slice none 0 0), (.slice none 0 0), (.int .i64 0)]) := ⟨by kernel_rfl, Try.isAgg59⟩
instance tf59_0 : TyF Try.prog 59 0 0 45 := tyF_of (sz := 2) Try.underlying59 rfl (fun w => (ty45).size w) (by decide)
instance tf59_1 : TyF Try.prog 59 1 2 35 := tyF_of (sz := 1) Try.underlying59 rfl (fun w => (ty35).size w) (by decide)
instance tb59 : TyB Try.prog 59 [(.slice none 0 0), (.slice none 0 0), (.int .i64 0)] #[(0, 2), (2, 1)] := ⟨fun parts cells w h => by
  have hz := (ty59).zero w
  simp only [Instr.build, Sem.run_bind, hz, Result.andThen_ok, run_underlying Try.underlying59]
  simp only [List.getElem?_toArray] at h
  simp [(ty45).size, (ty35).size, Value.cells]
  rw [h]; rfl⟩
instance ty60 : Ty Try.prog 60 true 3 56 (.agg #[(.slice none 0 0), (.slice none 0 0), (.int .i64 0)]) := ⟨by kernel_rfl, Try.isAgg60⟩
instance tf60_0 : TyF Try.prog 60 0 0 45 := tyF_of (sz := 2) Try.underlying60 rfl (fun w => (ty45).size w) (by decide)
instance tf60_1 : TyF Try.prog 60 1 2 35 := tyF_of (sz := 1) Try.underlying60 rfl (fun w => (ty35).size w) (by decide)
instance tb60 : TyB Try.prog 60 [(.slice none 0 0), (.slice none 0 0), (.int .i64 0)] #[(0, 2), (2, 1)] := ⟨fun parts cells w h => by
  have hz := (ty60).zero w
  simp only [Instr.build, Sem.run_bind, hz, Result.andThen_ok, run_underlying Try.underlying60]
  simp only [List.getElem?_toArray] at h
  simp [(ty45).size, (ty35).size, Value.cells]
  rw [h]; rfl⟩
instance ty67 : Ty Try.prog 67 true 2 32 (.agg #[(.slice none 0 0), (.int .i64 0)]) := ⟨by kernel_rfl, Try.isAgg67⟩
instance tf67_0 : TyF Try.prog 67 0 0 33 := tyF_of (sz := 1) Try.underlying67 rfl (fun w => (ty33).size w) (by decide)
instance tf67_1 : TyF Try.prog 67 1 1 35 := tyF_of (sz := 1) Try.underlying67 rfl (fun w => (ty35).size w) (by decide)
instance tb67 : TyB Try.prog 67 [(.slice none 0 0), (.int .i64 0)] #[(0, 1), (1, 1)] := ⟨fun parts cells w h => by
  have hz := (ty67).zero w
  simp only [Instr.build, Sem.run_bind, hz, Result.andThen_ok, run_underlying Try.underlying67]
  simp only [List.getElem?_toArray] at h
  simp [(ty33).size, (ty35).size, Value.cells]
  rw [h]; rfl⟩
instance ty68 : Ty Try.prog 68 true 2 32 (.agg #[(.slice none 0 0), (.int .i64 0)]) := ⟨by kernel_rfl, Try.isAgg68⟩
instance tf68_0 : TyF Try.prog 68 0 0 33 := tyF_of (sz := 1) Try.underlying68 rfl (fun w => (ty33).size w) (by decide)
instance tf68_1 : TyF Try.prog 68 1 1 35 := tyF_of (sz := 1) Try.underlying68 rfl (fun w => (ty35).size w) (by decide)
instance tb68 : TyB Try.prog 68 [(.slice none 0 0), (.int .i64 0)] #[(0, 1), (1, 1)] := ⟨fun parts cells w h => by
  have hz := (ty68).zero w
  simp only [Instr.build, Sem.run_bind, hz, Result.andThen_ok, run_underlying Try.underlying68]
  simp only [List.getElem?_toArray] at h
  simp [(ty33).size, (ty35).size, Value.cells]
  rw [h]; rfl⟩
instance ty73 : Ty Try.prog 73 true 2 32 (.agg #[(.int .u8 0), (.slice none 0 0)]) := ⟨by kernel_rfl, Try.isAgg73⟩
instance tf73_0 : TyF Try.prog 73 0 0 5 := tyF_of (sz := 1) Try.underlying73 rfl (fun w => (ty5).size w) (by decide)
instance tf73_1 : TyF Try.prog 73 1 1 22 := tyF_of (sz := 1) Try.underlying73 rfl (fun w => (ty22).size w) (by decide)
instance tb73 : TyB Try.prog 73 [(.int .u8 0), (.slice none 0 0)] #[(0, 1), (1, 1)] := ⟨fun parts cells w h => by
  have hz := (ty73).zero w
  simp only [Instr.build, Sem.run_bind, hz, Result.andThen_ok, run_underlying Try.underlying73]
  simp only [List.getElem?_toArray] at h
  simp [(ty5).size, (ty22).size, Value.cells]
  rw [h]; rfl⟩
instance ty74 : Ty Try.prog 74 true 2 32 (.agg #[(.int .u8 0), (.slice none 0 0)]) := ⟨by kernel_rfl, Try.isAgg74⟩
instance tf74_0 : TyF Try.prog 74 0 0 5 := tyF_of (sz := 1) Try.underlying74 rfl (fun w => (ty5).size w) (by decide)
instance tf74_1 : TyF Try.prog 74 1 1 22 := tyF_of (sz := 1) Try.underlying74 rfl (fun w => (ty22).size w) (by decide)
instance tb74 : TyB Try.prog 74 [(.int .u8 0), (.slice none 0 0)] #[(0, 1), (1, 1)] := ⟨fun parts cells w h => by
  have hz := (ty74).zero w
  simp only [Instr.build, Sem.run_bind, hz, Result.andThen_ok, run_underlying Try.underlying74]
  simp only [List.getElem?_toArray] at h
  simp [(ty5).size, (ty22).size, Value.cells]
  rw [h]; rfl⟩
instance ty75 : Ty Try.prog 75 false 1 24 (.slice none 0 0) := ⟨by kernel_rfl, Try.isAgg75⟩
instance tu75 : TyU Try.prog 75 (.slice 9) := ⟨Try.underlying75⟩
instance tl75 : TyL Try.prog 75 9 1 16 [(.string .empty)] := ⟨Try.underlying75, ⟨_, (.string .empty), rfl, rfl, rfl, rfl, rfl, fun _ cs h => by cases h⟩, rfl⟩
instance ty80 : Ty Try.prog 80 false 1 2 (.int .u16 0) := ⟨by kernel_rfl, Try.isAgg80⟩
instance tu80 : TyU Try.prog 80 (.int .u16) := ⟨Try.underlying80⟩
instance ty81 : Ty Try.prog 81 true 3 6 (.agg #[(.int .u16 0), (.int .u16 0), (.int .u16 0)]) := ⟨by kernel_rfl, Try.isAgg81⟩
instance ty83 : Ty Try.prog 83 true 3 40 (.agg #[(.int .i64 0), (.int .i64 0), (.slice none 0 0)]) := ⟨by kernel_rfl, Try.isAgg83⟩
instance tf83_0 : TyF Try.prog 83 0 0 3 := tyF_of (sz := 1) Try.underlying83 rfl (fun w => (ty3).size w) (by decide)
instance tf83_1 : TyF Try.prog 83 1 1 3 := tyF_of (sz := 1) Try.underlying83 rfl (fun w => (ty3).size w) (by decide)
instance tf83_2 : TyF Try.prog 83 2 2 33 := tyF_of (sz := 1) Try.underlying83 rfl (fun w => (ty33).size w) (by decide)
instance tb83 : TyB Try.prog 83 [(.int .i64 0), (.int .i64 0), (.slice none 0 0)] #[(0, 1), (1, 1), (2, 1)] := ⟨fun parts cells w h => by
  have hz := (ty83).zero w
  simp only [Instr.build, Sem.run_bind, hz, Result.andThen_ok, run_underlying Try.underlying83]
  simp only [List.getElem?_toArray] at h
  simp [(ty3).size, (ty33).size, Value.cells]
  rw [h]; rfl⟩
instance ty84 : Ty Try.prog 84 true 3 40 (.agg #[(.int .i64 0), (.int .i64 0), (.slice none 0 0)]) := ⟨by kernel_rfl, Try.isAgg84⟩
instance tf84_0 : TyF Try.prog 84 0 0 3 := tyF_of (sz := 1) Try.underlying84 rfl (fun w => (ty3).size w) (by decide)
instance tf84_1 : TyF Try.prog 84 1 1 3 := tyF_of (sz := 1) Try.underlying84 rfl (fun w => (ty3).size w) (by decide)
instance tf84_2 : TyF Try.prog 84 2 2 33 := tyF_of (sz := 1) Try.underlying84 rfl (fun w => (ty33).size w) (by decide)
instance tb84 : TyB Try.prog 84 [(.int .i64 0), (.int .i64 0), (.slice none 0 0)] #[(0, 1), (1, 1), (2, 1)] := ⟨fun parts cells w h => by
  have hz := (ty84).zero w
  simp only [Instr.build, Sem.run_bind, hz, Result.andThen_ok, run_underlying Try.underlying84]
  simp only [List.getElem?_toArray] at h
  simp [(ty3).size, (ty33).size, Value.cells]
  rw [h]; rfl⟩
instance ty85 : Ty Try.prog 85 false 1 24 (.slice none 0 0) := ⟨by kernel_rfl, Try.isAgg85⟩
instance tu85 : TyU Try.prog 85 (.slice 32) := ⟨Try.underlying85⟩
instance tl85 : TyL Try.prog 85 32 16 256 [(.int .i64 0), (.int .i64 0), (.int .i64 0), (.int .i64 0), (.int .i64 0), (.int .i64 0), (.bool false), (.slice none 0 0), (.slice none 0 0), (.slice none 0 0), (.slice none 0 0), (.slice none 0 0), (.slice none 0 0), (.slice none 0 0), (.slice none 0 0), (.int .i64 0)] := ⟨Try.underlying85, ⟨_, (.agg #[(.int .i64 0), (.int .i64 0), (.int .i64 0), (.int .i64 0), (.int .i64 0), (.int .i64 0), (.bool false), (.slice none 0 0), (.slice none 0 0), (.slice none 0 0), (.slice none 0 0), (.slice none 0 0), (.slice none 0 0), (.slice none 0 0), (.slice none 0 0), (.int .i64 0)]), rfl, rfl, rfl, rfl, rfl, fun h => by cases h⟩, rfl⟩
instance ty86 : Ty Try.prog 86 false 1 24 (.slice none 0 0) := ⟨by kernel_rfl, Try.isAgg86⟩
instance tu86 : TyU Try.prog 86 (.slice 74) := ⟨Try.underlying86⟩
instance tl86 : TyL Try.prog 86 74 2 32 [(.int .u8 0), (.slice none 0 0)] := ⟨Try.underlying86, ⟨_, (.agg #[(.int .u8 0), (.slice none 0 0)]), rfl, rfl, rfl, rfl, rfl, fun h => by cases h⟩, rfl⟩
instance ty91 : Ty Try.prog 91 true 0 0 (.agg #[]) := ⟨by kernel_rfl, Try.isAgg91⟩
instance tb91 : TyB Try.prog 91 [] #[] := ⟨fun parts cells w h => by
  have hz := (ty91).zero w
  simp only [Instr.build, Sem.run_bind, hz, Result.andThen_ok, run_underlying Try.underlying91]
  simp only [List.getElem?_toArray, List.getElem?_nil] at h
  simp [ Value.cells]
  rw [h]; rfl⟩
instance ty92 : Ty Try.prog 92 true 0 0 (.agg #[]) := ⟨by kernel_rfl, Try.isAgg92⟩
instance tb92 : TyB Try.prog 92 [] #[] := ⟨fun parts cells w h => by
  have hz := (ty92).zero w
  simp only [Instr.build, Sem.run_bind, hz, Result.andThen_ok, run_underlying Try.underlying92]
  simp only [List.getElem?_toArray, List.getElem?_nil] at h
  simp [ Value.cells]
  rw [h]; rfl⟩
instance ty93 : Ty Try.prog 93 false 1 8 (.pointer none) := ⟨by kernel_rfl, Try.isAgg93⟩
instance tu93 : TyU Try.prog 93 (.pointer 95) := ⟨Try.underlying93⟩
instance ty94 : Ty Try.prog 94 true 1 24 (.agg #[(.slice none 0 0)]) := ⟨by kernel_rfl, Try.isAgg94⟩
instance tf94_0 : TyF Try.prog 94 0 0 33 := tyF_of (sz := 1) Try.underlying94 rfl (fun w => (ty33).size w) (by decide)
instance tb94 : TyB Try.prog 94 [(.slice none 0 0)] #[(0, 1)] := ⟨fun parts cells w h => by
  have hz := (ty94).zero w
  simp only [Instr.build, Sem.run_bind, hz, Result.andThen_ok, run_underlying Try.underlying94]
  simp only [List.getElem?_toArray] at h
  simp [(ty33).size, Value.cells]
  rw [h]; rfl⟩
instance ty95 : Ty Try.prog 95 true 1 24 (.agg #[(.slice none 0 0)]) := ⟨by kernel_rfl, Try.isAgg95⟩
instance tf95_0 : TyF Try.prog 95 0 0 33 := tyF_of (sz := 1) Try.underlying95 rfl (fun w => (ty33).size w) (by decide)
instance tb95 : TyB Try.prog 95 [(.slice none 0 0)] #[(0, 1)] := ⟨fun parts cells w h => by
  have hz := (ty95).zero w
  simp only [Instr.build, Sem.run_bind, hz, Result.andThen_ok, run_underlying Try.underlying95]
  simp only [List.getElem?_toArray] at h
  simp [(ty33).size, Value.cells]
  rw [h]; rfl⟩
instance ty98 : Ty Try.prog 98 true 1 8 (.agg #[(.int .i64 0)]) := ⟨by kernel_rfl, Try.isAgg98⟩
instance tf98_0 : TyF Try.prog 98 0 0 3 := tyF_of (sz := 1) Try.underlying98 rfl (fun w => (ty3).size w) (by decide)
instance tb98 : TyB Try.prog 98 [(.int .i64 0)] #[(0, 1)] := ⟨fun parts cells w h => by
  have hz := (ty98).zero w
  simp only [Instr.build, Sem.run_bind, hz, Result.andThen_ok, run_underlying Try.underlying98]
  simp only [List.getElem?_toArray] at h
  simp [(ty3).size, Value.cells]
  rw [h]; rfl⟩
instance ty99 : Ty Try.prog 99 true 1 8 (.agg #[(.int .i64 0)]) := ⟨by kernel_rfl, Try.isAgg99⟩
instance tf99_0 : TyF Try.prog 99 0 0 3 := tyF_of (sz := 1) Try.underlying99 rfl (fun w => (ty3).size w) (by decide)
instance tb99 : TyB Try.prog 99 [(.int .i64 0)] #[(0, 1)] := ⟨fun parts cells w h => by
  have hz := (ty99).zero w
  simp only [Instr.build, Sem.run_bind, hz, Result.andThen_ok, run_underlying Try.underlying99]
  simp only [List.getElem?_toArray] at h
  simp [(ty3).size, Value.cells]
  rw [h]; rfl⟩
instance ty100 : Ty Try.prog 100 false 1 8 (.pointer none) := ⟨by kernel_rfl, Try.isAgg100⟩
instance tu100 : TyU Try.prog 100 (.pointer 104) := ⟨Try.underlying100⟩
instance ty101 : Ty Try.prog 101 true 2 32 (.agg #[(.slice none 0 0), (.int .i64 0)]) := ⟨by kernel_rfl, Try.isAgg101⟩
instance tf101_0 : TyF Try.prog 101 0 0 33 := tyF_of (sz := 1) Try.underlying101 rfl (fun w => (ty33).size w) (by decide)
instance tf101_1 : TyF Try.prog 101 1 1 3 := tyF_of (sz := 1) Try.underlying101 rfl (fun w => (ty3).size w) (by decide)
instance tb101 : TyB Try.prog 101 [(.slice none 0 0), (.int .i64 0)] #[(0, 1), (1, 1)] := ⟨fun parts cells w h => by
  have hz := (ty101).zero w
  simp only [Instr.build, Sem.run_bind, hz, Result.andThen_ok, run_underlying Try.underlying101]
  simp only [List.getElem?_toArray] at h
  simp [(ty33).size, (ty3).size, Value.cells]
  rw [h]; rfl⟩
instance ty102 : Ty Try.prog 102 true 2 32 (.agg #[(.slice none 0 0), (.int .i64 0)]) := ⟨by kernel_rfl, Try.isAgg102⟩
instance tf102_0 : TyF Try.prog 102 0 0 33 := tyF_of (sz := 1) Try.underlying102 rfl (fun w => (ty33).size w) (by decide)
instance tf102_1 : TyF Try.prog 102 1 1 3 := tyF_of (sz := 1) Try.underlying102 rfl (fun w => (ty3).size w) (by decide)
instance tb102 : TyB Try.prog 102 [(.slice none 0 0), (.int .i64 0)] #[(0, 1), (1, 1)] := ⟨fun parts cells w h => by
  have hz := (ty102).zero w
  simp only [Instr.build, Sem.run_bind, hz, Result.andThen_ok, run_underlying Try.underlying102]
  simp only [List.getElem?_toArray] at h
  simp [(ty33).size, (ty3).size, Value.cells]
  rw [h]; rfl⟩
instance ty103 : Ty Try.prog 103 true 2 32 (.agg #[(.slice none 0 0), (.int .i64 0)]) := ⟨by kernel_rfl, Try.isAgg103⟩
instance tf103_0 : TyF Try.prog 103 0 0 102 := tyF_of (sz := 2) Try.underlying103 rfl (fun w => (ty102).size w) (by decide)
instance tb103 : TyB Try.prog 103 [(.slice none 0 0), (.int .i64 0)] #[(0, 2)] := ⟨fun parts cells w h => by
  have hz := (ty103).zero w
  simp only [Instr.build, Sem.run_bind, hz, Result.andThen_ok, run_underlying Try.underlying103]
  simp only [List.getElem?_toArray] at h
  simp [(ty102).size, Value.cells]
  rw [h]; rfl⟩
instance ty104 : Ty Try.prog 104 true 2 32 (.agg #[(.slice none 0 0), (.int .i64 0)]) := ⟨by kernel_rfl, Try.isAgg104⟩
instance tf104_0 : TyF Try.prog 104 0 0 102 := tyF_of (sz := 2) Try.underlying104 rfl (fun w => (ty102).size w) (by decide)
instance tb104 : TyB Try.prog 104 [(.slice none 0 0), (.int .i64 0)] #[(0, 2)] := ⟨fun parts cells w h => by
  have hz := (ty104).zero w
  simp only [Instr.build, Sem.run_bind, hz, Result.andThen_ok, run_underlying Try.underlying104]
  simp only [List.getElem?_toArray] at h
  simp [(ty102).size, Value.cells]
  rw [h]; rfl⟩
instance ty110 : Ty Try.prog 110 false 1 24 (.slice none 0 0) := ⟨by kernel_rfl, Try.isAgg110⟩
instance tu110 : TyU Try.prog 110 (.slice 203) := ⟨Try.underlying110⟩
instance tl110 : TyL Try.prog 110 203 3 24 [(.int .i64 0), (.int .i64 0), (.int .i64 0)] := ⟨Try.underlying110, ⟨_, (.agg #[(.int .i64 0), (.int .i64 0), (.int .i64 0)]), rfl, rfl, rfl, rfl, rfl, fun h => by cases h⟩, rfl⟩
instance ty111 : Ty Try.prog 111 false 1 24 (.slice none 0 0) := ⟨by kernel_rfl, Try.isAgg111⟩
instance tu111 : TyU Try.prog 111 (.slice 157) := ⟨Try.underlying111⟩
instance tl111 : TyL Try.prog 111 157 4 56 [(.int .i64 0), (.int .i64 0), (.string .empty), (.slice none 0 0)] := ⟨Try.underlying111, ⟨_, (.agg #[(.int .i64 0), (.int .i64 0), (.string .empty), (.slice none 0 0)]), rfl, rfl, rfl, rfl, rfl, fun h => by cases h⟩, rfl⟩
instance ty112 : Ty Try.prog 112 true 18 208 (.agg #[(.int .i64 0), (.slice none 0 0), (.slice none 0 0), (.int .i64 0), (.int .i64 0), (.int .i64 0), (.int .i64 0), (.int .i64 0), (.int .i64 0), (.int .i64 0), (.bool false), (.slice none 0 0), (.slice none 0 0), (.int .i64 0), (.int .i64 0), (.int .i64 0), (.int .i64 0), (.int .i64 0)]) := ⟨by kernel_rfl, Try.isAgg112⟩
instance tf112_0 : TyF Try.prog 112 0 0 3 := tyF_of (sz := 1) Try.underlying112 rfl (fun w => (ty3).size w) (by decide)
instance tf112_1 : TyF Try.prog 112 1 1 110 := tyF_of (sz := 1) Try.underlying112 rfl (fun w => (ty110).size w) (by decide)
instance tf112_2 : TyF Try.prog 112 2 2 111 := tyF_of (sz := 1) Try.underlying112 rfl (fun w => (ty111).size w) (by decide)
instance tf112_3 : TyF Try.prog 112 3 3 3 := tyF_of (sz := 1) Try.underlying112 rfl (fun w => (ty3).size w) (by decide)
instance tf112_4 : TyF Try.prog 112 4 4 3 := tyF_of (sz := 1) Try.underlying112 rfl (fun w => (ty3).size w) (by decide)
instance tf112_5 : TyF Try.prog 112 5 5 3 := tyF_of (sz := 1) Try.underlying112 rfl (fun w => (ty3).size w) (by decide)
instance tf112_6 : TyF Try.prog 112 6 6 3 := tyF_of (sz := 1) Try.underlying112 rfl (fun w => (ty3).size w) (by decide)
instance tf112_7 : TyF Try.prog 112 7 7 3 := tyF_of (sz := 1) Try.underlying112 rfl (fun w => (ty3).size w) (by decide)
instance tf112_8 : TyF Try.prog 112 8 8 3 := tyF_of (sz := 1) Try.underlying112 rfl (fun w => (ty3).size w) (by decide)
instance tf112_9 : TyF Try.prog 112 9 9 3 := tyF_of (sz := 1) Try.underlying112 rfl (fun w => (ty3).size w) (by decide)
instance tf112_10 : TyF Try.prog 112 10 10 4 := tyF_of (sz := 1) Try.underlying112 rfl (fun w => (ty4).size w) (by decide)
instance tf112_11 : TyF Try.prog 112 11 11 22 := tyF_of (sz := 1) Try.underlying112 rfl (fun w => (ty22).size w) (by decide)
instance tf112_12 : TyF Try.prog 112 12 12 22 := tyF_of (sz := 1) Try.underlying112 rfl (fun w => (ty22).size w) (by decide)
instance tf112_13 : TyF Try.prog 112 13 13 3 := tyF_of (sz := 1) Try.underlying112 rfl (fun w => (ty3).size w) (by decide)
instance tf112_14 : TyF Try.prog 112 14 14 3 := tyF_of (sz := 1) Try.underlying112 rfl (fun w => (ty3).size w) (by decide)
instance tf112_15 : TyF Try.prog 112 15 15 3 := tyF_of (sz := 1) Try.underlying112 rfl (fun w => (ty3).size w) (by decide)
instance tf112_16 : TyF Try.prog 112 16 16 3 := tyF_of (sz := 1) Try.underlying112 rfl (fun w => (ty3).size w) (by decide)
instance tf112_17 : TyF Try.prog 112 17 17 3 := tyF_of (sz := 1) Try.underlying112 rfl (fun w => (ty3).size w) (by decide)
instance tb112 : TyB Try.prog 112 [(.int .i64 0), (.slice none 0 0), (.slice none 0 0), (.int .i64 0), (.int .i64 0), (.int .i64 0), (.int .i64 0), (.int .i64 0), (.int .i64 0), (.int .i64 0), (.bool false), (.slice none 0 0), (.slice none 0 0), (.int .i64 0), (.int .i64 0), (.int .i64 0), (.int .i64 0), (.int .i64 0)] #[(0, 1), (1, 1), (2, 1), (3, 1), (4, 1), (5, 1), (6, 1), (7, 1), (8, 1), (9, 1), (10, 1), (11, 1), (12, 1), (13, 1), (14, 1), (15, 1), (16, 1), (17, 1)] := ⟨fun parts cells w h => by
  have hz := (ty112).zero w
  simp only [Instr.build, Sem.run_bind, hz, Result.andThen_ok, run_underlying Try.underlying112]
  simp only [List.getElem?_toArray] at h
  simp [(ty3).size, (ty110).size, (ty111).size, (ty4).size, (ty22).size, Value.cells]
  rw [h]; rfl⟩
instance ty113 : Ty Try.prog 113 true 18 208 (.agg #[(.int .i64 0), (.slice none 0 0), (.slice none 0 0), (.int .i64 0), (.int .i64 0), (.int .i64 0), (.int .i64 0), (.int .i64 0), (.int .i64 0), (.int .i64 0), (.bool false), (.slice none 0 0), (.slice none 0 0), (.int .i64 0), (.int .i64 0), (.int .i64 0), (.int .i64 0), (.int .i64 0)]) := ⟨by kernel_rfl, Try.isAgg113⟩
instance tf113_0 : TyF Try.prog 113 0 0 3 := tyF_of (sz := 1) Try.underlying113 rfl (fun w => (ty3).size w) (by decide)
instance tf113_1 : TyF Try.prog 113 1 1 110 := tyF_of (sz := 1) Try.underlying113 rfl (fun w => (ty110).size w) (by decide)
instance tf113_2 : TyF Try.prog 113 2 2 111 := tyF_of (sz := 1) Try.underlying113 rfl (fun w => (ty111).size w) (by decide)
instance tf113_3 : TyF Try.prog 113 3 3 3 := tyF_of (sz := 1) Try.underlying113 rfl (fun w => (ty3).size w) (by decide)
instance tf113_4 : TyF Try.prog 113 4 4 3 := tyF_of (sz := 1) Try.underlying113 rfl (fun w => (ty3).size w) (by decide)
instance tf113_5 : TyF Try.prog 113 5 5 3 := tyF_of (sz := 1) Try.underlying113 rfl (fun w => (ty3).size w) (by decide)
instance tf113_6 : TyF Try.prog 113 6 6 3 := tyF_of (sz := 1) Try.underlying113 rfl (fun w => (ty3).size w) (by decide)
instance tf113_7 : TyF Try.prog 113 7 7 3 := tyF_of (sz := 1) Try.underlying113 rfl (fun w => (ty3).size w) (by decide)
instance tf113_8 : TyF Try.prog 113 8 8 3 := tyF_of (sz := 1) Try.underlying113 rfl (fun w => (ty3).size w) (by decide)
instance tf113_9 : TyF Try.prog 113 9 9 3 := tyF_of (sz := 1) Try.underlying113 rfl (fun w => (ty3).size w) (by decide)
instance tf113_10 : TyF Try.prog 113 10 10 4 := tyF_of (sz := 1) Try.underlying113 rfl (fun w => (ty4).size w) (by decide)
instance tf113_11 : TyF Try.prog 113 11 11 22 := tyF_of (sz := 1) Try.underlying113 rfl (fun w => (ty22).size w) (by decide)
instance tf113_12 : TyF Try.prog 113 12 12 22 := tyF_of (sz := 1) Try.underlying113 rfl (fun w => (ty22).size w) (by decide)
instance tf113_13 : TyF Try.prog 113 13 13 3 := tyF_of (sz := 1) Try.underlying113 rfl (fun w => (ty3).size w) (by decide)
instance tf113_14 : TyF Try.prog 113 14 14 3 := tyF_of (sz := 1) Try.underlying113 rfl (fun w => (ty3).size w) (by decide)
instance tf113_15 : TyF Try.prog 113 15 15 3 := tyF_of (sz := 1) Try.underlying113 rfl (fun w => (ty3).size w) (by decide)
instance tf113_16 : TyF Try.prog 113 16 16 3 := tyF_of (sz := 1) Try.underlying113 rfl (fun w => (ty3).size w) (by decide)
instance tf113_17 : TyF Try.prog 113 17 17 3 := tyF_of (sz := 1) Try.underlying113 rfl (fun w => (ty3).size w) (by decide)
instance tb113 : TyB Try.prog 113 [(.int .i64 0), (.slice none 0 0), (.slice none 0 0), (.int .i64 0), (.int .i64 0), (.int .i64 0), (.int .i64 0), (.int .i64 0), (.int .i64 0), (.int .i64 0), (.bool false), (.slice none 0 0), (.slice none 0 0), (.int .i64 0), (.int .i64 0), (.int .i64 0), (.int .i64 0), (.int .i64 0)] #[(0, 1), (1, 1), (2, 1), (3, 1), (4, 1), (5, 1), (6, 1), (7, 1), (8, 1), (9, 1), (10, 1), (11, 1), (12, 1), (13, 1), (14, 1), (15, 1), (16, 1), (17, 1)] := ⟨fun parts cells w h => by
  have hz := (ty113).zero w
  simp only [Instr.build, Sem.run_bind, hz, Result.andThen_ok, run_underlying Try.underlying113]
  simp only [List.getElem?_toArray] at h
  simp [(ty3).size, (ty110).size, (ty111).size, (ty4).size, (ty22).size, Value.cells]
  rw [h]; rfl⟩
instance ty116 : Ty Try.prog 116 false 1 24 (.slice none 0 0) := ⟨by kernel_rfl, Try.isAgg116⟩
instance tu116 : TyU Try.prog 116 (.slice 121) := ⟨Try.underlying116⟩
instance tl116 : TyL Try.prog 116 121 4 48 [(.int .i64 0), (.int .i64 0), (.int .i64 0), (.slice none 0 0)] := ⟨Try.underlying116, ⟨_, (.agg #[(.int .i64 0), (.int .i64 0), (.int .i64 0), (.slice none 0 0)]), rfl, rfl, rfl, rfl, rfl, fun h => by cases h⟩, rfl⟩
instance ty120 : Ty Try.prog 120 true 4 48 (.agg #[(.int .i64 0), (.int .i64 0), (.int .i64 0), (.slice none 0 0)]) := ⟨by kernel_rfl, Try.isAgg120⟩
instance tf120_0 : TyF Try.prog 120 0 0 3 := tyF_of (sz := 1) Try.underlying120 rfl (fun w => (ty3).size w) (by decide)
instance tf120_1 : TyF Try.prog 120 1 1 3 := tyF_of (sz := 1) Try.underlying120 rfl (fun w => (ty3).size w) (by decide)
instance tf120_2 : TyF Try.prog 120 2 2 3 := tyF_of (sz := 1) Try.underlying120 rfl (fun w => (ty3).size w) (by decide)
instance tf120_3 : TyF Try.prog 120 3 3 33 := tyF_of (sz := 1) Try.underlying120 rfl (fun w => (ty33).size w) (by decide)
instance tb120 : TyB Try.prog 120 [(.int .i64 0), (.int .i64 0), (.int .i64 0), (.slice none 0 0)] #[(0, 1), (1, 1), (2, 1), (3, 1)] := ⟨fun parts cells w h => by
  have hz := (ty120).zero w
  simp only [Instr.build, Sem.run_bind, hz, Result.andThen_ok, run_underlying Try.underlying120]
  simp only [List.getElem?_toArray] at h
  simp [(ty3).size, (ty33).size, Value.cells]
  rw [h]; rfl⟩
instance ty121 : Ty Try.prog 121 true 4 48 (.agg #[(.int .i64 0), (.int .i64 0), (.int .i64 0), (.slice none 0 0)]) := ⟨by kernel_rfl, Try.isAgg121⟩
instance tf121_0 : TyF Try.prog 121 0 0 3 := tyF_of (sz := 1) Try.underlying121 rfl (fun w => (ty3).size w) (by decide)
instance tf121_1 : TyF Try.prog 121 1 1 3 := tyF_of (sz := 1) Try.underlying121 rfl (fun w => (ty3).size w) (by decide)
instance tf121_2 : TyF Try.prog 121 2 2 3 := tyF_of (sz := 1) Try.underlying121 rfl (fun w => (ty3).size w) (by decide)
instance tf121_3 : TyF Try.prog 121 3 3 33 := tyF_of (sz := 1) Try.underlying121 rfl (fun w => (ty33).size w) (by decide)
instance tb121 : TyB Try.prog 121 [(.int .i64 0), (.int .i64 0), (.int .i64 0), (.slice none 0 0)] #[(0, 1), (1, 1), (2, 1), (3, 1)] := ⟨fun parts cells w h => by
  have hz := (ty121).zero w
  simp only [Instr.build, Sem.run_bind, hz, Result.andThen_ok, run_underlying Try.underlying121]
  simp only [List.getElem?_toArray] at h
  simp [(ty3).size, (ty33).size, Value.cells]
  rw [h]; rfl⟩
instance ty129 : Ty Try.prog 129 true 2 32 (.agg #[(.int .i64 0), (.slice none 0 0)]) := ⟨by kernel_rfl, Try.isAgg129⟩
instance tf129_0 : TyF Try.prog 129 0 0 3 := tyF_of (sz := 1) Try.underlying129 rfl (fun w => (ty3).size w) (by decide)
instance tf129_1 : TyF Try.prog 129 1 1 33 := tyF_of (sz := 1) Try.underlying129 rfl (fun w => (ty33).size w) (by decide)
instance tb129 : TyB Try.prog 129 [(.int .i64 0), (.slice none 0 0)] #[(0, 1), (1, 1)] := ⟨fun parts cells w h => by
  have hz := (ty129).zero w
  simp only [Instr.build, Sem.run_bind, hz, Result.andThen_ok, run_underlying Try.underlying129]
  simp only [List.getElem?_toArray] at h
  simp [(ty3).size, (ty33).size, Value.cells]
  rw [h]; rfl⟩
instance ty130 : Ty Try.prog 130 true 2 32 (.agg #[(.int .i64 0), (.slice none 0 0)]) := ⟨by kernel_rfl, Try.isAgg130⟩
instance tf130_0 : TyF Try.prog 130 0 0 3 := tyF_of (sz := 1) Try.underlying130 rfl (fun w => (ty3).size w) (by decide)
instance tf130_1 : TyF Try.prog 130 1 1 33 := tyF_of (sz := 1) Try.underlying130 rfl (fun w => (ty33).size w) (by decide)
instance tb130 : TyB Try.prog 130 [(.int .i64 0), (.slice none 0 0)] #[(0, 1), (1, 1)] := ⟨fun parts cells w h => by
  have hz := (ty130).zero w
  simp only [Instr.build, Sem.run_bind, hz, Result.andThen_ok, run_underlying Try.underlying130]
  simp only [List.getElem?_toArray] at h
  simp [(ty3).size, (ty33).size, Value.cells]
  rw [h]; rfl⟩
instance ty139 : Ty Try.prog 139 true 5 72 (.agg #[(.slice none 0 0), (.slice none 0 0), (.int .i64 0), (.int .i64 0), (.int .i64 0)]) := ⟨by kernel_rfl, Try.isAgg139⟩
instance tf139_0 : TyF Try.prog 139 0 0 111 := tyF_of (sz := 1) Try.underlying139 rfl (fun w => (ty111).size w) (by decide)
instance tf139_1 : TyF Try.prog 139 1 1 111 := tyF_of (sz := 1) Try.underlying139 rfl (fun w => (ty111).size w) (by decide)
instance tf139_2 : TyF Try.prog 139 2 2 3 := tyF_of (sz := 1) Try.underlying139 rfl (fun w => (ty3).size w) (by decide)
instance tf139_3 : TyF Try.prog 139 3 3 3 := tyF_of (sz := 1) Try.underlying139 rfl (fun w => (ty3).size w) (by decide)
instance tf139_4 : TyF Try.prog 139 4 4 3 := tyF_of (sz := 1) Try.underlying139 rfl (fun w => (ty3).size w) (by decide)
instance tb139 : TyB Try.prog 139 [(.slice none 0 0), (.slice none 0 0), (.int .i64 0), (.int .i64 0), (.int .i64 0)] #[(0, 1), (1, 1), (2, 1), (3, 1), (4, 1)] := ⟨fun parts cells w h => by
  have hz := (ty139).zero w
  simp only [Instr.build, Sem.run_bind, hz, Result.andThen_ok, run_underlying Try.underlying139]
  simp only [List.getElem?_toArray] at h
  simp [(ty111).size, (ty3).size, Value.cells]
  rw [h]; rfl⟩
instance ty140 : Ty Try.prog 140 true 5 72 (.agg #[(.slice none 0 0), (.slice none 0 0), (.int .i64 0), (.int .i64 0), (.int .i64 0)]) := ⟨by kernel_rfl, Try.isAgg140⟩
instance tf140_0 : TyF Try.prog 140 0 0 111 := tyF_of (sz := 1) Try.underlying140 rfl (fun w => (ty111).size w) (by decide)
instance tf140_1 : TyF Try.prog 140 1 1 111 := tyF_of (sz := 1) Try.underlying140 rfl (fun w => (ty111).size w) (by decide)
instance tf140_2 : TyF Try.prog 140 2 2 3 := tyF_of (sz := 1) Try.underlying140 rfl (fun w => (ty3).size w) (by decide)
instance tf140_3 : TyF Try.prog 140 3 3 3 := tyF_of (sz := 1) Try.underlying140 rfl (fun w => (ty3).size w) (by decide)
instance tf140_4 : TyF Try.prog 140 4 4 3 := tyF_of (sz := 1) Try.underlying140 rfl (fun w => (ty3).size w) (by decide)
instance tb140 : TyB Try.prog 140 [(.slice none 0 0), (.slice none 0 0), (.int .i64 0), (.int .i64 0), (.int .i64 0)] #[(0, 1), (1, 1), (2, 1), (3, 1), (4, 1)] := ⟨fun parts cells w h => by
  have hz := (ty140).zero w
  simp only [Instr.build, Sem.run_bind, hz, Result.andThen_ok, run_underlying Try.underlying140]
  simp only [List.getElem?_toArray] at h
  simp [(ty111).size, (ty3).size, Value.cells]
  rw [h]; rfl⟩
instance ty143 : Ty Try.prog 143 true 7 88 (.agg #[(.int .i64 0), (.int .i64 0), (.slice none 0 0), (.bool false), (.slice none 0 0), (.bool false), (.int .i64 0)]) := ⟨by kernel_rfl, Try.isAgg143⟩
instance tf143_0 : TyF Try.prog 143 0 0 3 := tyF_of (sz := 1) Try.underlying143 rfl (fun w => (ty3).size w) (by decide)
instance tf143_1 : TyF Try.prog 143 1 1 3 := tyF_of (sz := 1) Try.underlying143 rfl (fun w => (ty3).size w) (by decide)
instance tf143_2 : TyF Try.prog 143 2 2 22 := tyF_of (sz := 1) Try.underlying143 rfl (fun w => (ty22).size w) (by decide)
instance tf143_3 : TyF Try.prog 143 3 3 4 := tyF_of (sz := 1) Try.underlying143 rfl (fun w => (ty4).size w) (by decide)
instance tf143_4 : TyF Try.prog 143 4 4 22 := tyF_of (sz := 1) Try.underlying143 rfl (fun w => (ty22).size w) (by decide)
instance tf143_5 : TyF Try.prog 143 5 5 4 := tyF_of (sz := 1) Try.underlying143 rfl (fun w => (ty4).size w) (by decide)
instance tf143_6 : TyF Try.prog 143 6 6 3 := tyF_of (sz := 1) Try.underlying143 rfl (fun w => (ty3).size w) (by decide)
instance tb143 : TyB Try.prog 143 [(.int .i64 0), (.int .i64 0), (.slice none 0 0), (.bool false), (.slice none 0 0), (.bool false), (.int .i64 0)] #[(0, 1), (1, 1), (2, 1), (3, 1), (4, 1), (5, 1), (6, 1)] := ⟨fun parts cells w h => by
  have hz := (ty143).zero w
  simp only [Instr.build, Sem.run_bind, hz, Result.andThen_ok, run_underlying Try.underlying143]
  simp only [List.getElem?_toArray] at h
  simp [(ty3).size, (ty22).size, (ty4).size, Value.cells]
  rw [h]; rfl⟩
instance ty144 : Ty Try.prog 144 true 7 88 (.agg #[(.int .i64 0), (.int .i64 0), (.slice none 0 0), (.bool false), (.slice none 0 0), (.bool false), (.int .i64 0)]) := ⟨by kernel_rfl, Try.isAgg144⟩
instance tf144_0 : TyF Try.prog 144 0 0 3 := tyF_of (sz := 1) Try.underlying144 rfl (fun w => (ty3).size w) (by decide)
instance tf144_1 : TyF Try.prog 144 1 1 3 := tyF_of (sz := 1) Try.underlying144 rfl (fun w => (ty3).size w) (by decide)
instance tf144_2 : TyF Try.prog 144 2 2 22 := tyF_of (sz := 1) Try.underlying144 rfl (fun w => (ty22).size w) (by decide)
instance tf144_3 : TyF Try.prog 144 3 3 4 := tyF_of (sz := 1) Try.underlying144 rfl (fun w => (ty4).size w) (by decide)
instance tf144_4 : TyF Try.prog 144 4 4 22 := tyF_of (sz := 1) Try.underlying144 rfl (fun w => (ty22).size w) (by decide)
instance tf144_5 : TyF Try.prog 144 5 5 4 := tyF_of (sz := 1) Try.underlying144 rfl (fun w => (ty4).size w) (by decide)
instance tf144_6 : TyF Try.prog 144 6 6 3 := tyF_of (sz := 1) Try.underlying144 rfl (fun w => (ty3).size w) (by decide)
instance tb144 : TyB Try.prog 144 [(.int .i64 0), (.int .i64 0), (.slice none 0 0), (.bool false), (.slice none 0 0), (.bool false), (.int .i64 0)] #[(0, 1), (1, 1), (2, 1), (3, 1), (4, 1), (5, 1), (6, 1)] := ⟨fun parts cells w h => by
  have hz := (ty144).zero w
  simp only [Instr.build, Sem.run_bind, hz, Result.andThen_ok, run_underlying Try.underlying144]
  simp only [List.getElem?_toArray] at h
  simp [(ty3).size, (ty22).size, (ty4).size, Value.cells]
  rw [h]; rfl⟩
instance ty147 : Ty Try.prog 147 true 2 40 (.agg #[(.string .empty), (.slice none 0 0)]) := ⟨by kernel_rfl, Try.isAgg147⟩
instance tf147_0 : TyF Try.prog 147 0 0 9 := tyF_of (sz := 1) Try.underlying147 rfl (fun w => (ty9).size w) (by decide)
instance tf147_1 : TyF Try.prog 147 1 1 111 := tyF_of (sz := 1) Try.underlying147 rfl (fun w => (ty111).size w) (by decide)
instance tb147 : TyB Try.prog 147 [(.string .empty), (.slice none 0 0)] #[(0, 1), (1, 1)] := ⟨fun parts cells w h => by
  have hz := (ty147).zero w
  simp only [Instr.build, Sem.run_bind, hz, Result.andThen_ok, run_underlying Try.underlying147]
  simp only [List.getElem?_toArray] at h
  simp [(ty9).size, (ty111).size, Value.cells]
  rw [h]; rfl⟩
instance ty148 : Ty Try.prog 148 true 2 40 (.agg #[(.string .empty), (.slice none 0 0)]) := ⟨by kernel_rfl, Try.isAgg148⟩
instance tf148_0 : TyF Try.prog 148 0 0 9 := tyF_of (sz := 1) Try.underlying148 rfl (fun w => (ty9).size w) (by decide)
instance tf148_1 : TyF Try.prog 148 1 1 111 := tyF_of (sz := 1) Try.underlying148 rfl (fun w => (ty111).size w) (by decide)
instance tb148 : TyB Try.prog 148 [(.string .empty), (.slice none 0 0)] #[(0, 1), (1, 1)] := ⟨fun parts cells w h => by
  have hz := (ty148).zero w
  simp only [Instr.build, Sem.run_bind, hz, Result.andThen_ok, run_underlying Try.underlying148]
  simp only [List.getElem?_toArray] at h
  simp [(ty9).size, (ty111).size, Value.cells]
  rw [h]; rfl⟩
instance ty149 : Ty Try.prog 149 true 7 96 (.agg #[(.int .i64 0), (.int .i64 0), (.int .i64 0), (.int .i64 0), (.slice none 0 0), (.string .empty), (.slice none 0 0)]) := ⟨by kernel_rfl, Try.isAgg149⟩
instance tf149_0 : TyF Try.prog 149 0 0 3 := tyF_of (sz := 1) Try.underlying149 rfl (fun w => (ty3).size w) (by decide)
instance tf149_1 : TyF Try.prog 149 1 1 3 := tyF_of (sz := 1) Try.underlying149 rfl (fun w => (ty3).size w) (by decide)
instance tf149_2 : TyF Try.prog 149 2 2 3 := tyF_of (sz := 1) Try.underlying149 rfl (fun w => (ty3).size w) (by decide)
instance tf149_3 : TyF Try.prog 149 3 3 3 := tyF_of (sz := 1) Try.underlying149 rfl (fun w => (ty3).size w) (by decide)
instance tf149_4 : TyF Try.prog 149 4 4 111 := tyF_of (sz := 1) Try.underlying149 rfl (fun w => (ty111).size w) (by decide)
instance tf149_5 : TyF Try.prog 149 5 5 148 := tyF_of (sz := 2) Try.underlying149 rfl (fun w => (ty148).size w) (by decide)
instance tb149 : TyB Try.prog 149 [(.int .i64 0), (.int .i64 0), (.int .i64 0), (.int .i64 0), (.slice none 0 0), (.string .empty), (.slice none 0 0)] #[(0, 1), (1, 1), (2, 1), (3, 1), (4, 1), (5, 2)] := ⟨fun parts cells w h => by
  have hz := (ty149).zero w
  simp only [Instr.build, Sem.run_bind, hz, Result.andThen_ok, run_underlying Try.underlying149]
  simp only [List.getElem?_toArray] at h
  simp [(ty3).size, (ty111).size, (ty148).size, Value.cells]
  rw [h]; rfl⟩
instance ty150 : Ty Try.prog 150 true 7 96 (.agg #[(.int .i64 0), (.int .i64 0), (.int .i64 0), (.int .i64 0), (.slice none 0 0), (.string .empty), (.slice none 0 0)]) := ⟨by kernel_rfl, Try.isAgg150⟩
instance tf150_0 : TyF Try.prog 150 0 0 3 := tyF_of (sz := 1) Try.underlying150 rfl (fun w => (ty3).size w) (by decide)
instance tf150_1 : TyF Try.prog 150 1 1 3 := tyF_of (sz := 1) Try.underlying150 rfl (fun w => (ty3).size w) (by decide)
instance tf150_2 : TyF Try.prog 150 2 2 3 := tyF_of (sz := 1) Try.underlying150 rfl (fun w => (ty3).size w) (by decide)
instance tf150_3 : TyF Try.prog 150 3 3 3 := tyF_of (sz := 1) Try.underlying150 rfl (fun w => (ty3).size w) (by decide)
instance tf150_4 : TyF Try.prog 150 4 4 111 := tyF_of (sz := 1) Try.underlying150 rfl (fun w => (ty111).size w) (by decide)
instance tf150_5 : TyF Try.prog 150 5 5 148 := tyF_of (sz := 2) Try.underlying150 rfl (fun w => (ty148).size w) (by decide)
instance tb150 : TyB Try.prog 150 [(.int .i64 0), (.int .i64 0), (.int .i64 0), (.int .i64 0), (.slice none 0 0), (.string .empty), (.slice none 0 0)] #[(0, 1), (1, 1), (2, 1), (3, 1), (4, 1), (5, 2)] := ⟨fun parts cells w h => by
  have hz := (ty150).zero w
  simp only [Instr.build, Sem.run_bind, hz, Result.andThen_ok, run_underlying Try.underlying150]
  simp only [List.getElem?_toArray] at h
  simp [(ty3).size, (ty111).size, (ty148).size, Value.cells]
  rw [h]; rfl⟩
instance ty153 : Ty Try.prog 153 false 1 24 (.slice none 0 0) := ⟨by kernel_rfl, Try.isAgg153⟩
instance tu153 : TyU Try.prog 153 (.slice 155) := ⟨Try.underlying153⟩
instance tl153 : TyL Try.prog 153 155 2 40 [(.string .empty), (.slice none 0 0)] := ⟨Try.underlying153, ⟨_, (.agg #[(.string .empty), (.slice none 0 0)]), rfl, rfl, rfl, rfl, rfl, fun h => by cases h⟩, rfl⟩
instance ty154 : Ty Try.prog 154 true 2 40 (.agg #[(.string .empty), (.slice none 0 0)]) := ⟨by kernel_rfl, Try.isAgg154⟩
instance tf154_0 : TyF Try.prog 154 0 0 9 := tyF_of (sz := 1) Try.underlying154 rfl (fun w => (ty9).size w) (by decide)
instance tf154_1 : TyF Try.prog 154 1 1 153 := tyF_of (sz := 1) Try.underlying154 rfl (fun w => (ty153).size w) (by decide)
instance tb154 : TyB Try.prog 154 [(.string .empty), (.slice none 0 0)] #[(0, 1), (1, 1)] := ⟨fun parts cells w h => by
  have hz := (ty154).zero w
  simp only [Instr.build, Sem.run_bind, hz, Result.andThen_ok, run_underlying Try.underlying154]
  simp only [List.getElem?_toArray] at h
  simp [(ty9).size, (ty153).size, Value.cells]
  rw [h]; rfl⟩
instance ty155 : Ty Try.prog 155 true 2 40 (.agg #[(.string .empty), (.slice none 0 0)]) := ⟨by kernel_rfl, Try.isAgg155⟩
instance tf155_0 : TyF Try.prog 155 0 0 9 := tyF_of (sz := 1) Try.underlying155 rfl (fun w => (ty9).size w) (by decide)
instance tf155_1 : TyF Try.prog 155 1 1 153 := tyF_of (sz := 1) Try.underlying155 rfl (fun w => (ty153).size w) (by decide)
instance tb155 : TyB Try.prog 155 [(.string .empty), (.slice none 0 0)] #[(0, 1), (1, 1)] := ⟨fun parts cells w h => by
  have hz := (ty155).zero w
  simp only [Instr.build, Sem.run_bind, hz, Result.andThen_ok, run_underlying Try.underlying155]
  simp only [List.getElem?_toArray] at h
  simp [(ty9).size, (ty153).size, Value.cells]
  rw [h]; rfl⟩
instance ty156 : Ty Try.prog 156 true 4 56 (.agg #[(.int .i64 0), (.int .i64 0), (.string .empty), (.slice none 0 0)]) := ⟨by kernel_rfl, Try.isAgg156⟩
instance tf156_0 : TyF Try.prog 156 0 0 3 := tyF_of (sz := 1) Try.underlying156 rfl (fun w => (ty3).size w) (by decide)
instance tf156_1 : TyF Try.prog 156 1 1 3 := tyF_of (sz := 1) Try.underlying156 rfl (fun w => (ty3).size w) (by decide)
instance tf156_2 : TyF Try.prog 156 2 2 9 := tyF_of (sz := 1) Try.underlying156 rfl (fun w => (ty9).size w) (by decide)
instance tf156_3 : TyF Try.prog 156 3 3 111 := tyF_of (sz := 1) Try.underlying156 rfl (fun w => (ty111).size w) (by decide)
instance tb156 : TyB Try.prog 156 [(.int .i64 0), (.int .i64 0), (.string .empty), (.slice none 0 0)] #[(0, 1), (1, 1), (2, 1), (3, 1)] := ⟨fun parts cells w h => by
  have hz := (ty156).zero w
  simp only [Instr.build, Sem.run_bind, hz, Result.andThen_ok, run_underlying Try.underlying156]
  simp only [List.getElem?_toArray] at h
  simp [(ty3).size, (ty9).size, (ty111).size, Value.cells]
  rw [h]; rfl⟩
instance ty157 : Ty Try.prog 157 true 4 56 (.agg #[(.int .i64 0), (.int .i64 0), (.string .empty), (.slice none 0 0)]) := ⟨by kernel_rfl, Try.isAgg157⟩
instance tf157_0 : TyF Try.prog 157 0 0 3 := tyF_of (sz := 1) Try.underlying157 rfl (fun w => (ty3).size w) (by decide)
instance tf157_1 : TyF Try.prog 157 1 1 3 := tyF_of (sz := 1) Try.underlying157 rfl (fun w => (ty3).size w) (by decide)
instance tf157_2 : TyF Try.prog 157 2 2 9 := tyF_of (sz := 1) Try.underlying157 rfl (fun w => (ty9).size w) (by decide)
instance tf157_3 : TyF Try.prog 157 3 3 111 := tyF_of (sz := 1) Try.underlying157 rfl (fun w => (ty111).size w) (by decide)
instance tb157 : TyB Try.prog 157 [(.int .i64 0), (.int .i64 0), (.string .empty), (.slice none 0 0)] #[(0, 1), (1, 1), (2, 1), (3, 1)] := ⟨fun parts cells w h => by
  have hz := (ty157).zero w
  simp only [Instr.build, Sem.run_bind, hz, Result.andThen_ok, run_underlying Try.underlying157]
  simp only [List.getElem?_toArray] at h
  simp [(ty3).size, (ty9).size, (ty111).size, Value.cells]
  rw [h]; rfl⟩
instance ty158 : Ty Try.prog 158 true 8 112 (.agg #[(.int .i64 0), (.string .empty), (.slice none 0 0), (.bool false), (.int .i64 0), (.int .i64 0), (.string .empty), (.slice none 0 0)]) := ⟨by kernel_rfl, Try.isAgg158⟩
instance tf158_0 : TyF Try.prog 158 0 0 3 := tyF_of (sz := 1) Try.underlying158 rfl (fun w => (ty3).size w) (by decide)
instance tf158_1 : TyF Try.prog 158 1 1 155 := tyF_of (sz := 2) Try.underlying158 rfl (fun w => (ty155).size w) (by decide)
instance tf158_2 : TyF Try.prog 158 2 3 4 := tyF_of (sz := 1) Try.underlying158 rfl (fun w => (ty4).size w) (by decide)
instance tf158_3 : TyF Try.prog 158 3 4 157 := tyF_of (sz := 4) Try.underlying158 rfl (fun w => (ty157).size w) (by decide)
instance tb158 : TyB Try.prog 158 [(.int .i64 0), (.string .empty), (.slice none 0 0), (.bool false), (.int .i64 0), (.int .i64 0), (.string .empty), (.slice none 0 0)] #[(0, 1), (1, 2), (3, 1), (4, 4)] := ⟨fun parts cells w h => by
  have hz := (ty158).zero w
  simp only [Instr.build, Sem.run_bind, hz, Result.andThen_ok, run_underlying Try.underlying158]
  simp only [List.getElem?_toArray] at h
  simp [(ty3).size, (ty155).size, (ty4).size, (ty157).size, Value.cells]
  rw [h]; rfl⟩
instance ty159 : Ty Try.prog 159 true 8 112 (.agg #[(.int .i64 0), (.string .empty), (.slice none 0 0), (.bool false), (.int .i64 0), (.int .i64 0), (.string .empty), (.slice none 0 0)]) := ⟨by kernel_rfl, Try.isAgg159⟩
instance tf159_0 : TyF Try.prog 159 0 0 3 := tyF_of (sz := 1) Try.underlying159 rfl (fun w => (ty3).size w) (by decide)
instance tf159_1 : TyF Try.prog 159 1 1 155 := tyF_of (sz := 2) Try.underlying159 rfl (fun w => (ty155).size w) (by decide)
instance tf159_2 : TyF Try.prog 159 2 3 4 := tyF_of (sz := 1) Try.underlying159 rfl (fun w => (ty4).size w) (by decide)
instance tf159_3 : TyF Try.prog 159 3 4 157 := tyF_of (sz := 4) Try.underlying159 rfl (fun w => (ty157).size w) (by decide)
instance tb159 : TyB Try.prog 159 [(.int .i64 0), (.string .empty), (.slice none 0 0), (.bool false), (.int .i64 0), (.int .i64 0), (.string .empty), (.slice none 0 0)] #[(0, 1), (1, 2), (3, 1), (4, 4)] := ⟨fun parts cells w h => by
  have hz := (ty159).zero w
  simp only [Instr.build, Sem.run_bind, hz, Result.andThen_ok, run_underlying Try.underlying159]
  simp only [List.getElem?_toArray] at h
  simp [(ty3).size, (ty155).size, (ty4).size, (ty157).size, Value.cells]
  rw [h]; rfl⟩
instance ty162 : Ty Try.prog 162 true 9 120 (.agg #[(.int .i64 0), (.int .i64 0), (.string .empty), (.slice none 0 0), (.bool false), (.int .i64 0), (.int .i64 0), (.string .empty), (.slice none 0 0)]) := ⟨by kernel_rfl, Try.isAgg162⟩
instance tf162_0 : TyF Try.prog 162 0 0 3 := tyF_of (sz := 1) Try.underlying162 rfl (fun w => (ty3).size w) (by decide)
instance tf162_1 : TyF Try.prog 162 1 1 159 := tyF_of (sz := 8) Try.underlying162 rfl (fun w => (ty159).size w) (by decide)
instance tb162 : TyB Try.prog 162 [(.int .i64 0), (.int .i64 0), (.string .empty), (.slice none 0 0), (.bool false), (.int .i64 0), (.int .i64 0), (.string .empty), (.slice none 0 0)] #[(0, 1), (1, 8)] := ⟨fun parts cells w h => by
  have hz := (ty162).zero w
  simp only [Instr.build, Sem.run_bind, hz, Result.andThen_ok, run_underlying Try.underlying162]
  simp only [List.getElem?_toArray] at h
  simp [(ty3).size, (ty159).size, Value.cells]
  rw [h]; rfl⟩
instance ty163 : Ty Try.prog 163 true 9 120 (.agg #[(.int .i64 0), (.int .i64 0), (.string .empty), (.slice none 0 0), (.bool false), (.int .i64 0), (.int .i64 0), (.string .empty), (.slice none 0 0)]) := ⟨by kernel_rfl, Try.isAgg163⟩
instance tf163_0 : TyF Try.prog 163 0 0 3 := tyF_of (sz := 1) Try.underlying163 rfl (fun w => (ty3).size w) (by decide)
instance tf163_1 : TyF Try.prog 163 1 1 159 := tyF_of (sz := 8) Try.underlying163 rfl (fun w => (ty159).size w) (by decide)
instance tb163 : TyB Try.prog 163 [(.int .i64 0), (.int .i64 0), (.string .empty), (.slice none 0 0), (.bool false), (.int .i64 0), (.int .i64 0), (.string .empty), (.slice none 0 0)] #[(0, 1), (1, 8)] := ⟨fun parts cells w h => by
  have hz := (ty163).zero w
  simp only [Instr.build, Sem.run_bind, hz, Result.andThen_ok, run_underlying Try.underlying163]
  simp only [List.getElem?_toArray] at h
  simp [(ty3).size, (ty159).size, Value.cells]
  rw [h]; rfl⟩
instance ty170 : Ty Try.prog 170 false 1 8 (.pointer none) := ⟨by kernel_rfl, Try.isAgg170⟩
instance tu170 : TyU Try.prog 170 (.pointer 3) := ⟨Try.underlying170⟩
instance ty191 : Ty Try.prog 191 false 1 4 (.int .u32 0) := ⟨by kernel_rfl, Try.isAgg191⟩
instance tu191 : TyU Try.prog 191 (.int .u32) := ⟨Try.underlying191⟩
instance ty199 : Ty Try.prog 199 false 1 8 (.int .u64 0) := ⟨by kernel_rfl, Try.isAgg199⟩
instance tu199 : TyU Try.prog 199 (.int .u64) := ⟨Try.underlying199⟩
instance ty202 : Ty Try.prog 202 true 3 24 (.agg #[(.int .i64 0), (.int .i64 0), (.int .i64 0)]) := ⟨by kernel_rfl, Try.isAgg202⟩
instance tf202_0 : TyF Try.prog 202 0 0 3 := tyF_of (sz := 1) Try.underlying202 rfl (fun w => (ty3).size w) (by decide)
instance tf202_1 : TyF Try.prog 202 1 1 3 := tyF_of (sz := 1) Try.underlying202 rfl (fun w => (ty3).size w) (by decide)
instance tf202_2 : TyF Try.prog 202 2 2 3 := tyF_of (sz := 1) Try.underlying202 rfl (fun w => (ty3).size w) (by decide)
instance tb202 : TyB Try.prog 202 [(.int .i64 0), (.int .i64 0), (.int .i64 0)] #[(0, 1), (1, 1), (2, 1)] := ⟨fun parts cells w h => by
  have hz := (ty202).zero w
  simp only [Instr.build, Sem.run_bind, hz, Result.andThen_ok, run_underlying Try.underlying202]
  simp only [List.getElem?_toArray] at h
  simp [(ty3).size, Value.cells]
  rw [h]; rfl⟩
instance ty203 : Ty Try.prog 203 true 3 24 (.agg #[(.int .i64 0), (.int .i64 0), (.int .i64 0)]) := ⟨by kernel_rfl, Try.isAgg203⟩
instance tf203_0 : TyF Try.prog 203 0 0 3 := tyF_of (sz := 1) Try.underlying203 rfl (fun w => (ty3).size w) (by decide)
instance tf203_1 : TyF Try.prog 203 1 1 3 := tyF_of (sz := 1) Try.underlying203 rfl (fun w => (ty3).size w) (by decide)
instance tf203_2 : TyF Try.prog 203 2 2 3 := tyF_of (sz := 1) Try.underlying203 rfl (fun w => (ty3).size w) (by decide)
instance tb203 : TyB Try.prog 203 [(.int .i64 0), (.int .i64 0), (.int .i64 0)] #[(0, 1), (1, 1), (2, 1)] := ⟨fun parts cells w h => by
  have hz := (ty203).zero w
  simp only [Instr.build, Sem.run_bind, hz, Result.andThen_ok, run_underlying Try.underlying203]
  simp only [List.getElem?_toArray] at h
  simp [(ty3).size, Value.cells]
  rw [h]; rfl⟩
instance ty205 : Ty Try.prog 205 false 1 24 (.slice none 0 0) := ⟨by kernel_rfl, Try.isAgg205⟩
instance tu205 : TyU Try.prog 205 (.slice 170) := ⟨Try.underlying205⟩
instance tl205 : TyL Try.prog 205 170 1 8 [(.pointer none)] := ⟨Try.underlying205, ⟨_, (.pointer none), rfl, rfl, rfl, rfl, rfl, fun _ cs h => by cases h⟩, rfl⟩
theorem mixed : Try.prog.follows .mixedOrders = true := by kernel_rfl
end Go.Proofs.Ytggdljhmbckpmaa
