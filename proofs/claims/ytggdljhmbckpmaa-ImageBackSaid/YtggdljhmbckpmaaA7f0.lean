/- What is known of the functions of the program: that a call enters them. -/
import Derived.Test.YtggdljhmbckpmaaA6
import Derived.Test.YtggdljhmbckpmaaProg
import Derived.KernelRfl
set_option linter.unusedVariables false
set_option linter.unusedSimpArgs false
set_option maxRecDepth 100000
namespace Go.Proofs.Ytggdljhmbckpmaa
open Go Go.RowKit
instance fo4 : FnOk Try.prog 4 := fnOk_of Try.func4 (by kernel_rfl) rfl
instance fo6 : FnOk Try.prog 6 := fnOk_of Try.func6 (by kernel_rfl) rfl
instance fo8 : FnOk Try.prog 8 := fnOk_of Try.func8 (by kernel_rfl) rfl
instance fo10 : FnOk Try.prog 10 := fnOk_of Try.func10 (by kernel_rfl) rfl
instance fo12 : FnOk Try.prog 12 := fnOk_of Try.func12 (by kernel_rfl) rfl
instance fo14 : FnOk Try.prog 14 := fnOk_of Try.func14 (by kernel_rfl) rfl
instance fo16 : FnOk Try.prog 16 := fnOk_of Try.func16 (by kernel_rfl) rfl
instance fo18 : FnOk Try.prog 18 := fnOk_of Try.func18 (by kernel_rfl) rfl
instance fo20 : FnOk Try.prog 20 := fnOk_of Try.func20 (by kernel_rfl) rfl
instance fo22 : FnOk Try.prog 22 := fnOk_of Try.func22 (by kernel_rfl) rfl
instance fo24 : FnOk Try.prog 24 := fnOk_of Try.func24 (by kernel_rfl) rfl
instance fo26 : FnOk Try.prog 26 := fnOk_of Try.func26 (by kernel_rfl) rfl
instance fo28 : FnOk Try.prog 28 := fnOk_of Try.func28 (by kernel_rfl) rfl
instance fo30 : FnOk Try.prog 30 := fnOk_of Try.func30 (by kernel_rfl) rfl
instance fo32 : FnOk Try.prog 32 := fnOk_of Try.func32 (by kernel_rfl) rfl
instance fo34 : FnOk Try.prog 34 := fnOk_of Try.func34 (by kernel_rfl) rfl
instance fo36 : FnOk Try.prog 36 := fnOk_of Try.func36 (by kernel_rfl) rfl
instance fo38 : FnOk Try.prog 38 := fnOk_of Try.func38 (by kernel_rfl) rfl
instance fo40 : FnOk Try.prog 40 := fnOk_of Try.func40 (by kernel_rfl) rfl
instance fo42 : FnOk Try.prog 42 := fnOk_of Try.func42 (by kernel_rfl) rfl
instance fo44 : FnOk Try.prog 44 := fnOk_of Try.func44 (by kernel_rfl) rfl
instance fo46 : FnOk Try.prog 46 := fnOk_of Try.func46 (by kernel_rfl) rfl
instance fo48 : FnOk Try.prog 48 := fnOk_of Try.func48 (by kernel_rfl) rfl
instance fo50 : FnOk Try.prog 50 := fnOk_of Try.func50 (by kernel_rfl) rfl
instance fo52 : FnOk Try.prog 52 := fnOk_of Try.func52 (by kernel_rfl) rfl
instance fo54 : FnOk Try.prog 54 := fnOk_of Try.func54 (by kernel_rfl) rfl
instance fo56 : FnOk Try.prog 56 := fnOk_of Try.func56 (by kernel_rfl) rfl
instance fo58 : FnOk Try.prog 58 := fnOk_of Try.func58 (by kernel_rfl) rfl
instance fo60 : FnOk Try.prog 60 := fnOk_of Try.func60 (by kernel_rfl) rfl
instance fo62 : FnOk Try.prog 62 := fnOk_of Try.func62 (by kernel_rfl) rfl
instance fo64 : FnOk Try.prog 64 := fnOk_of Try.func64 (by kernel_rfl) rfl
instance fo66 : FnOk Try.prog 66 := fnOk_of Try.func66 (by kernel_rfl) rfl
instance fo68 : FnOk Try.prog 68 := fnOk_of Try.func68 (by kernel_rfl) rfl
instance fo70 : FnOk Try.prog 70 := fnOk_of Try.func70 (by kernel_rfl) rfl
instance fo72 : FnOk Try.prog 72 := fnOk_of Try.func72 (by kernel_rfl) rfl
instance fo74 : FnOk Try.prog 74 := fnOk_of Try.func74 (by kernel_rfl) rfl
instance fo76 : FnOk Try.prog 76 := fnOk_of Try.func76 (by kernel_rfl) rfl
instance fo78 : FnOk Try.prog 78 := fnOk_of Try.func78 (by kernel_rfl) rfl
instance fo80 : FnOk Try.prog 80 := fnOk_of Try.func80 (by kernel_rfl) rfl
instance fo82 : FnOk Try.prog 82 := fnOk_of Try.func82 (by kernel_rfl) rfl
instance fo84 : FnOk Try.prog 84 := fnOk_of Try.func84 (by kernel_rfl) rfl
instance fo86 : FnOk Try.prog 86 := fnOk_of Try.func86 (by kernel_rfl) rfl
instance fo88 : FnOk Try.prog 88 := fnOk_of Try.func88 (by kernel_rfl) rfl
instance fo90 : FnOk Try.prog 90 := fnOk_of Try.func90 (by kernel_rfl) rfl
instance fo92 : FnOk Try.prog 92 := fnOk_of Try.func92 (by kernel_rfl) rfl
instance fo94 : FnOk Try.prog 94 := fnOk_of Try.func94 (by kernel_rfl) rfl
instance fo96 : FnOk Try.prog 96 := fnOk_of Try.func96 (by kernel_rfl) rfl
instance fo98 : FnOk Try.prog 98 := fnOk_of Try.func98 (by kernel_rfl) rfl
instance fo100 : FnOk Try.prog 100 := fnOk_of Try.func100 (by kernel_rfl) rfl
instance fo102 : FnOk Try.prog 102 := fnOk_of Try.func102 (by kernel_rfl) rfl
instance fo104 : FnOk Try.prog 104 := fnOk_of Try.func104 (by kernel_rfl) rfl
instance fo106 : FnOk Try.prog 106 := fnOk_of Try.func106 (by kernel_rfl) rfl
instance fo108 : FnOk Try.prog 108 := fnOk_of Try.func108 (by kernel_rfl) rfl
instance fo110 : FnOk Try.prog 110 := fnOk_of Try.func110 (by kernel_rfl) rfl
instance fo112 : FnOk Try.prog 112 := fnOk_of Try.func112 (by kernel_rfl) rfl
instance fo114 : FnOk Try.prog 114 := fnOk_of Try.func114 (by kernel_rfl) rfl
instance fo116 : FnOk Try.prog 116 := fnOk_of Try.func116 (by kernel_rfl) rfl
instance fo118 : FnOk Try.prog 118 := fnOk_of Try.func118 (by kernel_rfl) rfl
instance fo120 : FnOk Try.prog 120 := fnOk_of Try.func120 (by kernel_rfl) rfl
instance fo122 : FnOk Try.prog 122 := fnOk_of Try.func122 (by kernel_rfl) rfl
instance fo124 : FnOk Try.prog 124 := fnOk_of Try.func124 (by kernel_rfl) rfl
end Go.Proofs.Ytggdljhmbckpmaa
