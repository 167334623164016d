/- What is known of the functions of the program: that a call enters them. -/
import Derived.Test.YtggdljhmbckpmaaGreatA6
import Derived.Test.YtggdljhmbckpmaaGreatProg
import Derived.KernelRfl
set_option linter.unusedVariables false
set_option linter.unusedSimpArgs false
set_option maxRecDepth 100000
namespace Go.Proofs.YtggdljhmbckpmaaGreat
open Go Go.RowKit
instance fo7 : FnOk Tryz.prog 7 := bJ Tryz.func7 (by kernel_rfl) rfl
instance fo9 : FnOk Tryz.prog 9 := bJ Tryz.func9 (by kernel_rfl) rfl
instance fo11 : FnOk Tryz.prog 11 := bJ Tryz.func11 (by kernel_rfl) rfl
instance fo13 : FnOk Tryz.prog 13 := bJ Tryz.func13 (by kernel_rfl) rfl
instance fo15 : FnOk Tryz.prog 15 := bJ Tryz.func15 (by kernel_rfl) rfl
instance fo17 : FnOk Tryz.prog 17 := bJ Tryz.func17 (by kernel_rfl) rfl
instance fo25 : FnOk Tryz.prog 25 := bJ Tryz.func25 (by kernel_rfl) rfl
instance fo27 : FnOk Tryz.prog 27 := bJ Tryz.func27 (by kernel_rfl) rfl
instance fo29 : FnOk Tryz.prog 29 := bJ Tryz.func29 (by kernel_rfl) rfl
instance fo31 : FnOk Tryz.prog 31 := bJ Tryz.func31 (by kernel_rfl) rfl
instance fo33 : FnOk Tryz.prog 33 := bJ Tryz.func33 (by kernel_rfl) rfl
instance fo35 : FnOk Tryz.prog 35 := bJ Tryz.func35 (by kernel_rfl) rfl
instance fo37 : FnOk Tryz.prog 37 := bJ Tryz.func37 (by kernel_rfl) rfl
instance fo39 : FnOk Tryz.prog 39 := bJ Tryz.func39 (by kernel_rfl) rfl
instance fo41 : FnOk Tryz.prog 41 := bJ Tryz.func41 (by kernel_rfl) rfl
instance fo43 : FnOk Tryz.prog 43 := bJ Tryz.func43 (by kernel_rfl) rfl
instance fo45 : FnOk Tryz.prog 45 := bJ Tryz.func45 (by kernel_rfl) rfl
instance fo47 : FnOk Tryz.prog 47 := bJ Tryz.func47 (by kernel_rfl) rfl
instance fo49 : FnOk Tryz.prog 49 := bJ Tryz.func49 (by kernel_rfl) rfl
instance fo51 : FnOk Tryz.prog 51 := bJ Tryz.func51 (by kernel_rfl) rfl
instance fo53 : FnOk Tryz.prog 53 := bJ Tryz.func53 (by kernel_rfl) rfl
instance fo55 : FnOk Tryz.prog 55 := bJ Tryz.func55 (by kernel_rfl) rfl
instance fo57 : FnOk Tryz.prog 57 := bJ Tryz.func57 (by kernel_rfl) rfl
instance fo65 : FnOk Tryz.prog 65 := bJ Tryz.func65 (by kernel_rfl) rfl
instance fo67 : FnOk Tryz.prog 67 := bJ Tryz.func67 (by kernel_rfl) rfl
instance fo69 : FnOk Tryz.prog 69 := bJ Tryz.func69 (by kernel_rfl) rfl
instance fo71 : FnOk Tryz.prog 71 := bJ Tryz.func71 (by kernel_rfl) rfl
instance fo73 : FnOk Tryz.prog 73 := bJ Tryz.func73 (by kernel_rfl) rfl
instance fo75 : FnOk Tryz.prog 75 := bJ Tryz.func75 (by kernel_rfl) rfl
instance fo77 : FnOk Tryz.prog 77 := bJ Tryz.func77 (by kernel_rfl) rfl
instance fo79 : FnOk Tryz.prog 79 := bJ Tryz.func79 (by kernel_rfl) rfl
instance fo81 : FnOk Tryz.prog 81 := bJ Tryz.func81 (by kernel_rfl) rfl
instance fo83 : FnOk Tryz.prog 83 := bJ Tryz.func83 (by kernel_rfl) rfl
instance fo85 : FnOk Tryz.prog 85 := bJ Tryz.func85 (by kernel_rfl) rfl
instance fo87 : FnOk Tryz.prog 87 := bJ Tryz.func87 (by kernel_rfl) rfl
instance fo89 : FnOk Tryz.prog 89 := bJ Tryz.func89 (by kernel_rfl) rfl
instance fo91 : FnOk Tryz.prog 91 := bJ Tryz.func91 (by kernel_rfl) rfl
instance fo93 : FnOk Tryz.prog 93 := bJ Tryz.func93 (by kernel_rfl) rfl
instance fo95 : FnOk Tryz.prog 95 := bJ Tryz.func95 (by kernel_rfl) rfl
instance fo97 : FnOk Tryz.prog 97 := bJ Tryz.func97 (by kernel_rfl) rfl
instance fo99 : FnOk Tryz.prog 99 := bJ Tryz.func99 (by kernel_rfl) rfl
instance fo101 : FnOk Tryz.prog 101 := bJ Tryz.func101 (by kernel_rfl) rfl
instance fo103 : FnOk Tryz.prog 103 := bJ Tryz.func103 (by kernel_rfl) rfl
instance fo105 : FnOk Tryz.prog 105 := bJ Tryz.func105 (by kernel_rfl) rfl
instance fo107 : FnOk Tryz.prog 107 := bJ Tryz.func107 (by kernel_rfl) rfl
instance fo109 : FnOk Tryz.prog 109 := bJ Tryz.func109 (by kernel_rfl) rfl
instance fo111 : FnOk Tryz.prog 111 := bJ Tryz.func111 (by kernel_rfl) rfl
instance fo113 : FnOk Tryz.prog 113 := bJ Tryz.func113 (by kernel_rfl) rfl
instance fo115 : FnOk Tryz.prog 115 := bJ Tryz.func115 (by kernel_rfl) rfl
instance fo119 : FnOk Tryz.prog 119 := bJ Tryz.func119 (by kernel_rfl) rfl
instance fo121 : FnOk Tryz.prog 121 := bJ Tryz.func121 (by kernel_rfl) rfl
instance fo123 : FnOk Tryz.prog 123 := bJ Tryz.func123 (by kernel_rfl) rfl
instance fo125 : FnOk Tryz.prog 125 := bJ Tryz.func125 (by kernel_rfl) rfl
instance fo127 : FnOk Tryz.prog 127 := bJ Tryz.func127 (by kernel_rfl) rfl
instance fo129 : FnOk Tryz.prog 129 := bJ Tryz.func129 (by kernel_rfl) rfl
instance fo131 : FnOk Tryz.prog 131 := bJ Tryz.func131 (by kernel_rfl) rfl
instance fo133 : FnOk Tryz.prog 133 := bJ Tryz.func133 (by kernel_rfl) rfl
instance fo135 : FnOk Tryz.prog 135 := bJ Tryz.func135 (by kernel_rfl) rfl
instance fo137 : FnOk Tryz.prog 137 := bJ Tryz.func137 (by kernel_rfl) rfl
instance fo139 : FnOk Tryz.prog 139 := bJ Tryz.func139 (by kernel_rfl) rfl
instance fo141 : FnOk Tryz.prog 141 := bJ Tryz.func141 (by kernel_rfl) rfl
instance fo143 : FnOk Tryz.prog 143 := bJ Tryz.func143 (by kernel_rfl) rfl
instance fo145 : FnOk Tryz.prog 145 := bJ Tryz.func145 (by kernel_rfl) rfl
instance fo147 : FnOk Tryz.prog 147 := bJ Tryz.func147 (by kernel_rfl) rfl
instance fo149 : FnOk Tryz.prog 149 := bJ Tryz.func149 (by kernel_rfl) rfl
instance fo151 : FnOk Tryz.prog 151 := bJ Tryz.func151 (by kernel_rfl) rfl
instance fo153 : FnOk Tryz.prog 153 := bJ Tryz.func153 (by kernel_rfl) rfl
instance fo155 : FnOk Tryz.prog 155 := bJ Tryz.func155 (by kernel_rfl) rfl
end Go.Proofs.YtggdljhmbckpmaaGreat
