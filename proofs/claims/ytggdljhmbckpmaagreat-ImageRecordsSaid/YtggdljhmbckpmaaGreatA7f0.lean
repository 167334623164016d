/- What is known of the functions of the program: that a call enters them. -/
import Derived.Test.YtggdljhmbckpmaaGreatA6
import Derived.Test.YtggdljhmbckpmaaGreatProg
import Derived.KernelRfl
set_option linter.unusedVariables false
set_option linter.unusedSimpArgs false
set_option maxRecDepth 100000
namespace Go.Proofs.YtggdljhmbckpmaaGreat
open Go Go.RowKit
instance fo4 : FnOk Tryz.prog 4 := fnOk_of Tryz.func4 (by kernel_rfl) rfl
instance fo6 : FnOk Tryz.prog 6 := fnOk_of Tryz.func6 (by kernel_rfl) rfl
instance fo8 : FnOk Tryz.prog 8 := fnOk_of Tryz.func8 (by kernel_rfl) rfl
instance fo10 : FnOk Tryz.prog 10 := fnOk_of Tryz.func10 (by kernel_rfl) rfl
instance fo12 : FnOk Tryz.prog 12 := fnOk_of Tryz.func12 (by kernel_rfl) rfl
instance fo14 : FnOk Tryz.prog 14 := fnOk_of Tryz.func14 (by kernel_rfl) rfl
instance fo16 : FnOk Tryz.prog 16 := fnOk_of Tryz.func16 (by kernel_rfl) rfl
instance fo18 : FnOk Tryz.prog 18 := fnOk_of Tryz.func18 (by kernel_rfl) rfl
instance fo20 : FnOk Tryz.prog 20 := fnOk_of Tryz.func20 (by kernel_rfl) rfl
instance fo22 : FnOk Tryz.prog 22 := fnOk_of Tryz.func22 (by kernel_rfl) rfl
instance fo24 : FnOk Tryz.prog 24 := fnOk_of Tryz.func24 (by kernel_rfl) rfl
instance fo26 : FnOk Tryz.prog 26 := fnOk_of Tryz.func26 (by kernel_rfl) rfl
instance fo28 : FnOk Tryz.prog 28 := fnOk_of Tryz.func28 (by kernel_rfl) rfl
instance fo30 : FnOk Tryz.prog 30 := fnOk_of Tryz.func30 (by kernel_rfl) rfl
instance fo32 : FnOk Tryz.prog 32 := fnOk_of Tryz.func32 (by kernel_rfl) rfl
instance fo34 : FnOk Tryz.prog 34 := fnOk_of Tryz.func34 (by kernel_rfl) rfl
instance fo36 : FnOk Tryz.prog 36 := fnOk_of Tryz.func36 (by kernel_rfl) rfl
instance fo38 : FnOk Tryz.prog 38 := fnOk_of Tryz.func38 (by kernel_rfl) rfl
instance fo40 : FnOk Tryz.prog 40 := fnOk_of Tryz.func40 (by kernel_rfl) rfl
instance fo42 : FnOk Tryz.prog 42 := fnOk_of Tryz.func42 (by kernel_rfl) rfl
instance fo44 : FnOk Tryz.prog 44 := fnOk_of Tryz.func44 (by kernel_rfl) rfl
instance fo46 : FnOk Tryz.prog 46 := fnOk_of Tryz.func46 (by kernel_rfl) rfl
instance fo48 : FnOk Tryz.prog 48 := fnOk_of Tryz.func48 (by kernel_rfl) rfl
instance fo50 : FnOk Tryz.prog 50 := fnOk_of Tryz.func50 (by kernel_rfl) rfl
instance fo52 : FnOk Tryz.prog 52 := fnOk_of Tryz.func52 (by kernel_rfl) rfl
instance fo54 : FnOk Tryz.prog 54 := fnOk_of Tryz.func54 (by kernel_rfl) rfl
instance fo56 : FnOk Tryz.prog 56 := fnOk_of Tryz.func56 (by kernel_rfl) rfl
instance fo58 : FnOk Tryz.prog 58 := fnOk_of Tryz.func58 (by kernel_rfl) rfl
instance fo60 : FnOk Tryz.prog 60 := fnOk_of Tryz.func60 (by kernel_rfl) rfl
instance fo62 : FnOk Tryz.prog 62 := fnOk_of Tryz.func62 (by kernel_rfl) rfl
instance fo64 : FnOk Tryz.prog 64 := fnOk_of Tryz.func64 (by kernel_rfl) rfl
instance fo66 : FnOk Tryz.prog 66 := fnOk_of Tryz.func66 (by kernel_rfl) rfl
instance fo68 : FnOk Tryz.prog 68 := fnOk_of Tryz.func68 (by kernel_rfl) rfl
instance fo70 : FnOk Tryz.prog 70 := fnOk_of Tryz.func70 (by kernel_rfl) rfl
instance fo72 : FnOk Tryz.prog 72 := fnOk_of Tryz.func72 (by kernel_rfl) rfl
instance fo74 : FnOk Tryz.prog 74 := fnOk_of Tryz.func74 (by kernel_rfl) rfl
instance fo76 : FnOk Tryz.prog 76 := fnOk_of Tryz.func76 (by kernel_rfl) rfl
instance fo78 : FnOk Tryz.prog 78 := fnOk_of Tryz.func78 (by kernel_rfl) rfl
instance fo80 : FnOk Tryz.prog 80 := fnOk_of Tryz.func80 (by kernel_rfl) rfl
instance fo82 : FnOk Tryz.prog 82 := fnOk_of Tryz.func82 (by kernel_rfl) rfl
instance fo84 : FnOk Tryz.prog 84 := fnOk_of Tryz.func84 (by kernel_rfl) rfl
instance fo86 : FnOk Tryz.prog 86 := fnOk_of Tryz.func86 (by kernel_rfl) rfl
instance fo88 : FnOk Tryz.prog 88 := fnOk_of Tryz.func88 (by kernel_rfl) rfl
instance fo90 : FnOk Tryz.prog 90 := fnOk_of Tryz.func90 (by kernel_rfl) rfl
instance fo92 : FnOk Tryz.prog 92 := fnOk_of Tryz.func92 (by kernel_rfl) rfl
instance fo94 : FnOk Tryz.prog 94 := fnOk_of Tryz.func94 (by kernel_rfl) rfl
instance fo96 : FnOk Tryz.prog 96 := fnOk_of Tryz.func96 (by kernel_rfl) rfl
instance fo98 : FnOk Tryz.prog 98 := fnOk_of Tryz.func98 (by kernel_rfl) rfl
instance fo100 : FnOk Tryz.prog 100 := fnOk_of Tryz.func100 (by kernel_rfl) rfl
instance fo102 : FnOk Tryz.prog 102 := fnOk_of Tryz.func102 (by kernel_rfl) rfl
instance fo104 : FnOk Tryz.prog 104 := fnOk_of Tryz.func104 (by kernel_rfl) rfl
instance fo106 : FnOk Tryz.prog 106 := fnOk_of Tryz.func106 (by kernel_rfl) rfl
instance fo108 : FnOk Tryz.prog 108 := fnOk_of Tryz.func108 (by kernel_rfl) rfl
instance fo110 : FnOk Tryz.prog 110 := fnOk_of Tryz.func110 (by kernel_rfl) rfl
instance fo112 : FnOk Tryz.prog 112 := fnOk_of Tryz.func112 (by kernel_rfl) rfl
instance fo114 : FnOk Tryz.prog 114 := fnOk_of Tryz.func114 (by kernel_rfl) rfl
instance fo116 : FnOk Tryz.prog 116 := fnOk_of Tryz.func116 (by kernel_rfl) rfl
instance fo118 : FnOk Tryz.prog 118 := fnOk_of Tryz.func118 (by kernel_rfl) rfl
instance fo120 : FnOk Tryz.prog 120 := fnOk_of Tryz.func120 (by kernel_rfl) rfl
instance fo122 : FnOk Tryz.prog 122 := fnOk_of Tryz.func122 (by kernel_rfl) rfl
instance fo124 : FnOk Tryz.prog 124 := fnOk_of Tryz.func124 (by kernel_rfl) rfl
instance fo126 : FnOk Tryz.prog 126 := fnOk_of Tryz.func126 (by kernel_rfl) rfl
instance fo128 : FnOk Tryz.prog 128 := fnOk_of Tryz.func128 (by kernel_rfl) rfl
instance fo130 : FnOk Tryz.prog 130 := fnOk_of Tryz.func130 (by kernel_rfl) rfl
instance fo132 : FnOk Tryz.prog 132 := fnOk_of Tryz.func132 (by kernel_rfl) rfl
instance fo134 : FnOk Tryz.prog 134 := fnOk_of Tryz.func134 (by kernel_rfl) rfl
instance fo136 : FnOk Tryz.prog 136 := fnOk_of Tryz.func136 (by kernel_rfl) rfl
instance fo138 : FnOk Tryz.prog 138 := fnOk_of Tryz.func138 (by kernel_rfl) rfl
instance fo140 : FnOk Tryz.prog 140 := fnOk_of Tryz.func140 (by kernel_rfl) rfl
instance fo142 : FnOk Tryz.prog 142 := fnOk_of Tryz.func142 (by kernel_rfl) rfl
instance fo144 : FnOk Tryz.prog 144 := fnOk_of Tryz.func144 (by kernel_rfl) rfl
instance fo146 : FnOk Tryz.prog 146 := fnOk_of Tryz.func146 (by kernel_rfl) rfl
instance fo148 : FnOk Tryz.prog 148 := fnOk_of Tryz.func148 (by kernel_rfl) rfl
instance fo150 : FnOk Tryz.prog 150 := fnOk_of Tryz.func150 (by kernel_rfl) rfl
instance fo152 : FnOk Tryz.prog 152 := fnOk_of Tryz.func152 (by kernel_rfl) rfl
instance fo154 : FnOk Tryz.prog 154 := fnOk_of Tryz.func154 (by kernel_rfl) rfl
instance fo156 : FnOk Tryz.prog 156 := fnOk_of Tryz.func156 (by kernel_rfl) rfl
end Go.Proofs.YtggdljhmbckpmaaGreat
