/- What is known of the functions of the program: that a call enters them. -/
import Derived.Test.YtggdljhmbckpmaaGreatA6
import Derived.Test.YtggdljhmbckpmaaGreatProg
import Derived.KernelRfl
set_option linter.unusedVariables false
set_option linter.unusedSimpArgs false
set_option maxRecDepth 100000
namespace Go.Proofs.YtggdljhmbckpmaaGreat
open Go Go.RowKit
instance fo3 : FnOk Tryz.prog 3 := fnOk_of Tryz.func3 (by kernel_rfl) rfl
instance fo5 : FnOk Tryz.prog 5 := fnOk_of Tryz.func5 (by kernel_rfl) rfl
instance fo7 : FnOk Tryz.prog 7 := fnOk_of Tryz.func7 (by kernel_rfl) rfl
instance fo9 : FnOk Tryz.prog 9 := fnOk_of Tryz.func9 (by kernel_rfl) rfl
instance fo11 : FnOk Tryz.prog 11 := fnOk_of Tryz.func11 (by kernel_rfl) rfl
instance fo13 : FnOk Tryz.prog 13 := fnOk_of Tryz.func13 (by kernel_rfl) rfl
instance fo15 : FnOk Tryz.prog 15 := fnOk_of Tryz.func15 (by kernel_rfl) rfl
instance fo17 : FnOk Tryz.prog 17 := fnOk_of Tryz.func17 (by kernel_rfl) rfl
instance fo19 : FnOk Tryz.prog 19 := fnOk_of Tryz.func19 (by kernel_rfl) rfl
instance fo21 : FnOk Tryz.prog 21 := fnOk_of Tryz.func21 (by kernel_rfl) rfl
instance fo23 : FnOk Tryz.prog 23 := fnOk_of Tryz.func23 (by kernel_rfl) rfl
instance fo25 : FnOk Tryz.prog 25 := fnOk_of Tryz.func25 (by kernel_rfl) rfl
instance fo27 : FnOk Tryz.prog 27 := fnOk_of Tryz.func27 (by kernel_rfl) rfl
instance fo29 : FnOk Tryz.prog 29 := fnOk_of Tryz.func29 (by kernel_rfl) rfl
instance fo31 : FnOk Tryz.prog 31 := fnOk_of Tryz.func31 (by kernel_rfl) rfl
instance fo33 : FnOk Tryz.prog 33 := fnOk_of Tryz.func33 (by kernel_rfl) rfl
instance fo35 : FnOk Tryz.prog 35 := fnOk_of Tryz.func35 (by kernel_rfl) rfl
instance fo37 : FnOk Tryz.prog 37 := fnOk_of Tryz.func37 (by kernel_rfl) rfl
instance fo39 : FnOk Tryz.prog 39 := fnOk_of Tryz.func39 (by kernel_rfl) rfl
instance fo41 : FnOk Tryz.prog 41 := fnOk_of Tryz.func41 (by kernel_rfl) rfl
instance fo43 : FnOk Tryz.prog 43 := fnOk_of Tryz.func43 (by kernel_rfl) rfl
instance fo45 : FnOk Tryz.prog 45 := fnOk_of Tryz.func45 (by kernel_rfl) rfl
instance fo47 : FnOk Tryz.prog 47 := fnOk_of Tryz.func47 (by kernel_rfl) rfl
instance fo49 : FnOk Tryz.prog 49 := fnOk_of Tryz.func49 (by kernel_rfl) rfl
instance fo51 : FnOk Tryz.prog 51 := fnOk_of Tryz.func51 (by kernel_rfl) rfl
instance fo53 : FnOk Tryz.prog 53 := fnOk_of Tryz.func53 (by kernel_rfl) rfl
instance fo55 : FnOk Tryz.prog 55 := fnOk_of Tryz.func55 (by kernel_rfl) rfl
instance fo57 : FnOk Tryz.prog 57 := fnOk_of Tryz.func57 (by kernel_rfl) rfl
instance fo59 : FnOk Tryz.prog 59 := fnOk_of Tryz.func59 (by kernel_rfl) rfl
instance fo61 : FnOk Tryz.prog 61 := fnOk_of Tryz.func61 (by kernel_rfl) rfl
instance fo63 : FnOk Tryz.prog 63 := fnOk_of Tryz.func63 (by kernel_rfl) rfl
instance fo65 : FnOk Tryz.prog 65 := fnOk_of Tryz.func65 (by kernel_rfl) rfl
instance fo67 : FnOk Tryz.prog 67 := fnOk_of Tryz.func67 (by kernel_rfl) rfl
instance fo69 : FnOk Tryz.prog 69 := fnOk_of Tryz.func69 (by kernel_rfl) rfl
instance fo71 : FnOk Tryz.prog 71 := fnOk_of Tryz.func71 (by kernel_rfl) rfl
instance fo73 : FnOk Tryz.prog 73 := fnOk_of Tryz.func73 (by kernel_rfl) rfl
instance fo75 : FnOk Tryz.prog 75 := fnOk_of Tryz.func75 (by kernel_rfl) rfl
instance fo77 : FnOk Tryz.prog 77 := fnOk_of Tryz.func77 (by kernel_rfl) rfl
instance fo79 : FnOk Tryz.prog 79 := fnOk_of Tryz.func79 (by kernel_rfl) rfl
instance fo81 : FnOk Tryz.prog 81 := fnOk_of Tryz.func81 (by kernel_rfl) rfl
instance fo83 : FnOk Tryz.prog 83 := fnOk_of Tryz.func83 (by kernel_rfl) rfl
instance fo85 : FnOk Tryz.prog 85 := fnOk_of Tryz.func85 (by kernel_rfl) rfl
instance fo87 : FnOk Tryz.prog 87 := fnOk_of Tryz.func87 (by kernel_rfl) rfl
instance fo89 : FnOk Tryz.prog 89 := fnOk_of Tryz.func89 (by kernel_rfl) rfl
instance fo91 : FnOk Tryz.prog 91 := fnOk_of Tryz.func91 (by kernel_rfl) rfl
instance fo93 : FnOk Tryz.prog 93 := fnOk_of Tryz.func93 (by kernel_rfl) rfl
instance fo95 : FnOk Tryz.prog 95 := fnOk_of Tryz.func95 (by kernel_rfl) rfl
instance fo97 : FnOk Tryz.prog 97 := fnOk_of Tryz.func97 (by kernel_rfl) rfl
instance fo99 : FnOk Tryz.prog 99 := fnOk_of Tryz.func99 (by kernel_rfl) rfl
instance fo101 : FnOk Tryz.prog 101 := fnOk_of Tryz.func101 (by kernel_rfl) rfl
instance fo103 : FnOk Tryz.prog 103 := fnOk_of Tryz.func103 (by kernel_rfl) rfl
instance fo105 : FnOk Tryz.prog 105 := fnOk_of Tryz.func105 (by kernel_rfl) rfl
instance fo107 : FnOk Tryz.prog 107 := fnOk_of Tryz.func107 (by kernel_rfl) rfl
instance fo109 : FnOk Tryz.prog 109 := fnOk_of Tryz.func109 (by kernel_rfl) rfl
instance fo111 : FnOk Tryz.prog 111 := fnOk_of Tryz.func111 (by kernel_rfl) rfl
instance fo113 : FnOk Tryz.prog 113 := fnOk_of Tryz.func113 (by kernel_rfl) rfl
instance fo115 : FnOk Tryz.prog 115 := fnOk_of Tryz.func115 (by kernel_rfl) rfl
instance fo117 : FnOk Tryz.prog 117 := fnOk_of Tryz.func117 (by kernel_rfl) rfl
instance fo119 : FnOk Tryz.prog 119 := fnOk_of Tryz.func119 (by kernel_rfl) rfl
instance fo121 : FnOk Tryz.prog 121 := fnOk_of Tryz.func121 (by kernel_rfl) rfl
instance fo123 : FnOk Tryz.prog 123 := fnOk_of Tryz.func123 (by kernel_rfl) rfl
instance fo125 : FnOk Tryz.prog 125 := fnOk_of Tryz.func125 (by kernel_rfl) rfl
instance fo127 : FnOk Tryz.prog 127 := fnOk_of Tryz.func127 (by kernel_rfl) rfl
instance fo129 : FnOk Tryz.prog 129 := fnOk_of Tryz.func129 (by kernel_rfl) rfl
instance fo131 : FnOk Tryz.prog 131 := fnOk_of Tryz.func131 (by kernel_rfl) rfl
instance fo133 : FnOk Tryz.prog 133 := fnOk_of Tryz.func133 (by kernel_rfl) rfl
instance fo135 : FnOk Tryz.prog 135 := fnOk_of Tryz.func135 (by kernel_rfl) rfl
instance fo137 : FnOk Tryz.prog 137 := fnOk_of Tryz.func137 (by kernel_rfl) rfl
instance fo139 : FnOk Tryz.prog 139 := fnOk_of Tryz.func139 (by kernel_rfl) rfl
instance fo141 : FnOk Tryz.prog 141 := fnOk_of Tryz.func141 (by kernel_rfl) rfl
instance fo143 : FnOk Tryz.prog 143 := fnOk_of Tryz.func143 (by kernel_rfl) rfl
instance fo145 : FnOk Tryz.prog 145 := fnOk_of Tryz.func145 (by kernel_rfl) rfl
instance fo147 : FnOk Tryz.prog 147 := fnOk_of Tryz.func147 (by kernel_rfl) rfl
instance fo149 : FnOk Tryz.prog 149 := fnOk_of Tryz.func149 (by kernel_rfl) rfl
instance fo151 : FnOk Tryz.prog 151 := fnOk_of Tryz.func151 (by kernel_rfl) rfl
instance fo153 : FnOk Tryz.prog 153 := fnOk_of Tryz.func153 (by kernel_rfl) rfl
instance fo155 : FnOk Tryz.prog 155 := fnOk_of Tryz.func155 (by kernel_rfl) rfl
end Go.Proofs.YtggdljhmbckpmaaGreat
