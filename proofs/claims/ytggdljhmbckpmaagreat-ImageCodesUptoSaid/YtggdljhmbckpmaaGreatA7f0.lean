/- What is known of the functions of the program: that a call enters them. -/
import Derived.Test.YtggdljhmbckpmaaGreatA6
import Derived.Test.YtggdljhmbckpmaaGreatProg
import Derived.KernelRfl
set_option linter.unusedVariables false
set_option linter.unusedSimpArgs false
set_option maxRecDepth 100000
namespace Go.Proofs.YtggdljhmbckpmaaGreat
open Go Go.RowKit
instance fo6 : FnOk Tryz.prog 6 := bJ Tryz.func6 (by kernel_rfl) rfl
instance fo8 : FnOk Tryz.prog 8 := bJ Tryz.func8 (by kernel_rfl) rfl
instance fo10 : FnOk Tryz.prog 10 := bJ Tryz.func10 (by kernel_rfl) rfl
instance fo12 : FnOk Tryz.prog 12 := bJ Tryz.func12 (by kernel_rfl) rfl
instance fo26 : FnOk Tryz.prog 26 := bJ Tryz.func26 (by kernel_rfl) rfl
instance fo28 : FnOk Tryz.prog 28 := bJ Tryz.func28 (by kernel_rfl) rfl
instance fo30 : FnOk Tryz.prog 30 := bJ Tryz.func30 (by kernel_rfl) rfl
instance fo32 : FnOk Tryz.prog 32 := bJ Tryz.func32 (by kernel_rfl) rfl
instance fo34 : FnOk Tryz.prog 34 := bJ Tryz.func34 (by kernel_rfl) rfl
instance fo36 : FnOk Tryz.prog 36 := bJ Tryz.func36 (by kernel_rfl) rfl
instance fo38 : FnOk Tryz.prog 38 := bJ Tryz.func38 (by kernel_rfl) rfl
instance fo40 : FnOk Tryz.prog 40 := bJ Tryz.func40 (by kernel_rfl) rfl
instance fo42 : FnOk Tryz.prog 42 := bJ Tryz.func42 (by kernel_rfl) rfl
instance fo44 : FnOk Tryz.prog 44 := bJ Tryz.func44 (by kernel_rfl) rfl
instance fo46 : FnOk Tryz.prog 46 := bJ Tryz.func46 (by kernel_rfl) rfl
instance fo48 : FnOk Tryz.prog 48 := bJ Tryz.func48 (by kernel_rfl) rfl
instance fo50 : FnOk Tryz.prog 50 := bJ Tryz.func50 (by kernel_rfl) rfl
instance fo52 : FnOk Tryz.prog 52 := bJ Tryz.func52 (by kernel_rfl) rfl
instance fo54 : FnOk Tryz.prog 54 := bJ Tryz.func54 (by kernel_rfl) rfl
instance fo56 : FnOk Tryz.prog 56 := bJ Tryz.func56 (by kernel_rfl) rfl
instance fo58 : FnOk Tryz.prog 58 := bJ Tryz.func58 (by kernel_rfl) rfl
instance fo64 : FnOk Tryz.prog 64 := bJ Tryz.func64 (by kernel_rfl) rfl
instance fo66 : FnOk Tryz.prog 66 := bJ Tryz.func66 (by kernel_rfl) rfl
instance fo68 : FnOk Tryz.prog 68 := bJ Tryz.func68 (by kernel_rfl) rfl
instance fo70 : FnOk Tryz.prog 70 := bJ Tryz.func70 (by kernel_rfl) rfl
instance fo72 : FnOk Tryz.prog 72 := bJ Tryz.func72 (by kernel_rfl) rfl
instance fo74 : FnOk Tryz.prog 74 := bJ Tryz.func74 (by kernel_rfl) rfl
instance fo76 : FnOk Tryz.prog 76 := bJ Tryz.func76 (by kernel_rfl) rfl
instance fo78 : FnOk Tryz.prog 78 := bJ Tryz.func78 (by kernel_rfl) rfl
instance fo80 : FnOk Tryz.prog 80 := bJ Tryz.func80 (by kernel_rfl) rfl
instance fo82 : FnOk Tryz.prog 82 := bJ Tryz.func82 (by kernel_rfl) rfl
instance fo84 : FnOk Tryz.prog 84 := bJ Tryz.func84 (by kernel_rfl) rfl
instance fo86 : FnOk Tryz.prog 86 := bJ Tryz.func86 (by kernel_rfl) rfl
instance fo88 : FnOk Tryz.prog 88 := bJ Tryz.func88 (by kernel_rfl) rfl
instance fo90 : FnOk Tryz.prog 90 := bJ Tryz.func90 (by kernel_rfl) rfl
instance fo92 : FnOk Tryz.prog 92 := bJ Tryz.func92 (by kernel_rfl) rfl
instance fo94 : FnOk Tryz.prog 94 := bJ Tryz.func94 (by kernel_rfl) rfl
instance fo96 : FnOk Tryz.prog 96 := bJ Tryz.func96 (by kernel_rfl) rfl
instance fo98 : FnOk Tryz.prog 98 := bJ Tryz.func98 (by kernel_rfl) rfl
instance fo100 : FnOk Tryz.prog 100 := bJ Tryz.func100 (by kernel_rfl) rfl
instance fo102 : FnOk Tryz.prog 102 := bJ Tryz.func102 (by kernel_rfl) rfl
instance fo104 : FnOk Tryz.prog 104 := bJ Tryz.func104 (by kernel_rfl) rfl
instance fo106 : FnOk Tryz.prog 106 := bJ Tryz.func106 (by kernel_rfl) rfl
instance fo108 : FnOk Tryz.prog 108 := bJ Tryz.func108 (by kernel_rfl) rfl
instance fo110 : FnOk Tryz.prog 110 := bJ Tryz.func110 (by kernel_rfl) rfl
instance fo112 : FnOk Tryz.prog 112 := bJ Tryz.func112 (by kernel_rfl) rfl
instance fo114 : FnOk Tryz.prog 114 := bJ Tryz.func114 (by kernel_rfl) rfl
instance fo120 : FnOk Tryz.prog 120 := bJ Tryz.func120 (by kernel_rfl) rfl
instance fo122 : FnOk Tryz.prog 122 := bJ Tryz.func122 (by kernel_rfl) rfl
instance fo124 : FnOk Tryz.prog 124 := bJ Tryz.func124 (by kernel_rfl) rfl
instance fo126 : FnOk Tryz.prog 126 := bJ Tryz.func126 (by kernel_rfl) rfl
instance fo128 : FnOk Tryz.prog 128 := bJ Tryz.func128 (by kernel_rfl) rfl
instance fo130 : FnOk Tryz.prog 130 := bJ Tryz.func130 (by kernel_rfl) rfl
instance fo132 : FnOk Tryz.prog 132 := bJ Tryz.func132 (by kernel_rfl) rfl
instance fo134 : FnOk Tryz.prog 134 := bJ Tryz.func134 (by kernel_rfl) rfl
instance fo136 : FnOk Tryz.prog 136 := bJ Tryz.func136 (by kernel_rfl) rfl
instance fo138 : FnOk Tryz.prog 138 := bJ Tryz.func138 (by kernel_rfl) rfl
instance fo140 : FnOk Tryz.prog 140 := bJ Tryz.func140 (by kernel_rfl) rfl
instance fo142 : FnOk Tryz.prog 142 := bJ Tryz.func142 (by kernel_rfl) rfl
instance fo144 : FnOk Tryz.prog 144 := bJ Tryz.func144 (by kernel_rfl) rfl
instance fo146 : FnOk Tryz.prog 146 := bJ Tryz.func146 (by kernel_rfl) rfl
instance fo148 : FnOk Tryz.prog 148 := bJ Tryz.func148 (by kernel_rfl) rfl
instance fo152 : FnOk Tryz.prog 152 := bJ Tryz.func152 (by kernel_rfl) rfl
instance fo154 : FnOk Tryz.prog 154 := bJ Tryz.func154 (by kernel_rfl) rfl
end Go.Proofs.YtggdljhmbckpmaaGreat
