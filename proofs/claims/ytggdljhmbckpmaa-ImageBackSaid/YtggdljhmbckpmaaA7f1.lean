/- What is known of the functions of the program: that a call enters them. -/
import Derived.Test.YtggdljhmbckpmaaA6
import Derived.Test.YtggdljhmbckpmaaProg
import Derived.KernelRfl
set_option linter.unusedVariables false
set_option linter.unusedSimpArgs false
set_option maxRecDepth 100000
namespace Go.Proofs.Ytggdljhmbckpmaa
open Go Go.RowKit
instance fo3 : FnOk Try.prog 3 := fnOk_of Try.func3 (by kernel_rfl) rfl
instance fo5 : FnOk Try.prog 5 := fnOk_of Try.func5 (by kernel_rfl) rfl
instance fo7 : FnOk Try.prog 7 := fnOk_of Try.func7 (by kernel_rfl) rfl
instance fo9 : FnOk Try.prog 9 := fnOk_of Try.func9 (by kernel_rfl) rfl
instance fo11 : FnOk Try.prog 11 := fnOk_of Try.func11 (by kernel_rfl) rfl
instance fo13 : FnOk Try.prog 13 := fnOk_of Try.func13 (by kernel_rfl) rfl
instance fo15 : FnOk Try.prog 15 := fnOk_of Try.func15 (by kernel_rfl) rfl
instance fo17 : FnOk Try.prog 17 := fnOk_of Try.func17 (by kernel_rfl) rfl
instance fo19 : FnOk Try.prog 19 := fnOk_of Try.func19 (by kernel_rfl) rfl
instance fo21 : FnOk Try.prog 21 := fnOk_of Try.func21 (by kernel_rfl) rfl
instance fo23 : FnOk Try.prog 23 := fnOk_of Try.func23 (by kernel_rfl) rfl
instance fo25 : FnOk Try.prog 25 := fnOk_of Try.func25 (by kernel_rfl) rfl
instance fo27 : FnOk Try.prog 27 := fnOk_of Try.func27 (by kernel_rfl) rfl
instance fo29 : FnOk Try.prog 29 := fnOk_of Try.func29 (by kernel_rfl) rfl
instance fo31 : FnOk Try.prog 31 := fnOk_of Try.func31 (by kernel_rfl) rfl
instance fo33 : FnOk Try.prog 33 := fnOk_of Try.func33 (by kernel_rfl) rfl
instance fo35 : FnOk Try.prog 35 := fnOk_of Try.func35 (by kernel_rfl) rfl
instance fo37 : FnOk Try.prog 37 := fnOk_of Try.func37 (by kernel_rfl) rfl
instance fo39 : FnOk Try.prog 39 := fnOk_of Try.func39 (by kernel_rfl) rfl
instance fo41 : FnOk Try.prog 41 := fnOk_of Try.func41 (by kernel_rfl) rfl
instance fo43 : FnOk Try.prog 43 := fnOk_of Try.func43 (by kernel_rfl) rfl
instance fo45 : FnOk Try.prog 45 := fnOk_of Try.func45 (by kernel_rfl) rfl
instance fo47 : FnOk Try.prog 47 := fnOk_of Try.func47 (by kernel_rfl) rfl
instance fo49 : FnOk Try.prog 49 := fnOk_of Try.func49 (by kernel_rfl) rfl
instance fo51 : FnOk Try.prog 51 := fnOk_of Try.func51 (by kernel_rfl) rfl
instance fo53 : FnOk Try.prog 53 := fnOk_of Try.func53 (by kernel_rfl) rfl
instance fo55 : FnOk Try.prog 55 := fnOk_of Try.func55 (by kernel_rfl) rfl
instance fo57 : FnOk Try.prog 57 := fnOk_of Try.func57 (by kernel_rfl) rfl
instance fo59 : FnOk Try.prog 59 := fnOk_of Try.func59 (by kernel_rfl) rfl
instance fo61 : FnOk Try.prog 61 := fnOk_of Try.func61 (by kernel_rfl) rfl
instance fo63 : FnOk Try.prog 63 := fnOk_of Try.func63 (by kernel_rfl) rfl
instance fo65 : FnOk Try.prog 65 := fnOk_of Try.func65 (by kernel_rfl) rfl
instance fo67 : FnOk Try.prog 67 := fnOk_of Try.func67 (by kernel_rfl) rfl
instance fo69 : FnOk Try.prog 69 := fnOk_of Try.func69 (by kernel_rfl) rfl
instance fo71 : FnOk Try.prog 71 := fnOk_of Try.func71 (by kernel_rfl) rfl
instance fo73 : FnOk Try.prog 73 := fnOk_of Try.func73 (by kernel_rfl) rfl
instance fo75 : FnOk Try.prog 75 := fnOk_of Try.func75 (by kernel_rfl) rfl
instance fo77 : FnOk Try.prog 77 := fnOk_of Try.func77 (by kernel_rfl) rfl
instance fo79 : FnOk Try.prog 79 := fnOk_of Try.func79 (by kernel_rfl) rfl
instance fo81 : FnOk Try.prog 81 := fnOk_of Try.func81 (by kernel_rfl) rfl
instance fo83 : FnOk Try.prog 83 := fnOk_of Try.func83 (by kernel_rfl) rfl
instance fo85 : FnOk Try.prog 85 := fnOk_of Try.func85 (by kernel_rfl) rfl
instance fo87 : FnOk Try.prog 87 := fnOk_of Try.func87 (by kernel_rfl) rfl
instance fo89 : FnOk Try.prog 89 := fnOk_of Try.func89 (by kernel_rfl) rfl
instance fo91 : FnOk Try.prog 91 := fnOk_of Try.func91 (by kernel_rfl) rfl
instance fo93 : FnOk Try.prog 93 := fnOk_of Try.func93 (by kernel_rfl) rfl
instance fo95 : FnOk Try.prog 95 := fnOk_of Try.func95 (by kernel_rfl) rfl
instance fo97 : FnOk Try.prog 97 := fnOk_of Try.func97 (by kernel_rfl) rfl
instance fo99 : FnOk Try.prog 99 := fnOk_of Try.func99 (by kernel_rfl) rfl
instance fo101 : FnOk Try.prog 101 := fnOk_of Try.func101 (by kernel_rfl) rfl
instance fo103 : FnOk Try.prog 103 := fnOk_of Try.func103 (by kernel_rfl) rfl
instance fo105 : FnOk Try.prog 105 := fnOk_of Try.func105 (by kernel_rfl) rfl
instance fo107 : FnOk Try.prog 107 := fnOk_of Try.func107 (by kernel_rfl) rfl
instance fo109 : FnOk Try.prog 109 := fnOk_of Try.func109 (by kernel_rfl) rfl
instance fo111 : FnOk Try.prog 111 := fnOk_of Try.func111 (by kernel_rfl) rfl
instance fo113 : FnOk Try.prog 113 := fnOk_of Try.func113 (by kernel_rfl) rfl
instance fo115 : FnOk Try.prog 115 := fnOk_of Try.func115 (by kernel_rfl) rfl
instance fo117 : FnOk Try.prog 117 := fnOk_of Try.func117 (by kernel_rfl) rfl
instance fo119 : FnOk Try.prog 119 := fnOk_of Try.func119 (by kernel_rfl) rfl
instance fo121 : FnOk Try.prog 121 := fnOk_of Try.func121 (by kernel_rfl) rfl
instance fo123 : FnOk Try.prog 123 := fnOk_of Try.func123 (by kernel_rfl) rfl
instance fo125 : FnOk Try.prog 125 := fnOk_of Try.func125 (by kernel_rfl) rfl
end Go.Proofs.Ytggdljhmbckpmaa
