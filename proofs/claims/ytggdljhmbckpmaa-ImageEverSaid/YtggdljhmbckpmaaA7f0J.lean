/- What is known of the functions of the program: that a call enters them. What is known of the functions of the program: that a call enters them. Unsigned numbers as naturals. -/
import Derived.Test.YtggdljhmbckpmaaA5J
import Derived.Test.YtggdljhmbckpmaaProg
import Derived.KernelRfl
import Derived.Lib.SliceRun
set_option linter.unusedVariables false
set_option linter.unusedSimpArgs false
set_option maxRecDepth 100000
namespace Go.Proofs.Ytggdljhmbckpmaa
open Go Go.RowKit
instance fo4 : FnOk Try.prog 4 := fnOk_of Try.func4 (by kernel_rfl) rfl
instance fo6 : FnOk Try.prog 6 := fnOk_of Try.func6 (by kernel_rfl) rfl
instance fo8 : FnOk Try.prog 8 := fnOk_of Try.func8 (by kernel_rfl) rfl
instance fo10 : FnOk Try.prog 10 := fnOk_of Try.func10 (by kernel_rfl) rfl
instance fo12 : FnOk Try.prog 12 := fnOk_of Try.func12 (by kernel_rfl) rfl
instance fo14 : FnOk Try.prog 14 := fnOk_of Try.func14 (by kernel_rfl) rfl
instance fo16 : FnOk Try.prog 16 := fnOk_of Try.func16 (by kernel_rfl) rfl
instance fo18 : FnOk Try.prog 18 := fnOk_of Try.func18 (by kernel_rfl) rfl
instance fo20 : FnOk Try.prog 20 := fnOk_of Try.func20 (by kernel_rfl) rfl
instance fo22 : FnOk Try.prog 22 := fnOk_of Try.func22 (by kernel_rfl) rfl
instance fo24 : FnOk Try.prog 24 := fnOk_of Try.func24 (by kernel_rfl) rfl
instance fo26 : FnOk Try.prog 26 := fnOk_of Try.func26 (by kernel_rfl) rfl
instance fo28 : FnOk Try.prog 28 := fnOk_of Try.func28 (by kernel_rfl) rfl
instance fo30 : FnOk Try.prog 30 := fnOk_of Try.func30 (by kernel_rfl) rfl
instance fo32 : FnOk Try.prog 32 := fnOk_of Try.func32 (by kernel_rfl) rfl
instance fo34 : FnOk Try.prog 34 := fnOk_of Try.func34 (by kernel_rfl) rfl
instance fo36 : FnOk Try.prog 36 := fnOk_of Try.func36 (by kernel_rfl) rfl
instance fo38 : FnOk Try.prog 38 := fnOk_of Try.func38 (by kernel_rfl) rfl
instance fo40 : FnOk Try.prog 40 := fnOk_of Try.func40 (by kernel_rfl) rfl
instance fo42 : FnOk Try.prog 42 := fnOk_of Try.func42 (by kernel_rfl) rfl
instance fo44 : FnOk Try.prog 44 := fnOk_of Try.func44 (by kernel_rfl) rfl
instance fo46 : FnOk Try.prog 46 := fnOk_of Try.func46 (by kernel_rfl) rfl
instance fo48 : FnOk Try.prog 48 := fnOk_of Try.func48 (by kernel_rfl) rfl
instance fo50 : FnOk Try.prog 50 := fnOk_of Try.func50 (by kernel_rfl) rfl
instance fo52 : FnOk Try.prog 52 := fnOk_of Try.func52 (by kernel_rfl) rfl
instance fo54 : FnOk Try.prog 54 := fnOk_of Try.func54 (by kernel_rfl) rfl
instance fo56 : FnOk Try.prog 56 := fnOk_of Try.func56 (by kernel_rfl) rfl
instance fo58 : FnOk Try.prog 58 := fnOk_of Try.func58 (by kernel_rfl) rfl
instance fo60 : FnOk Try.prog 60 := fnOk_of Try.func60 (by kernel_rfl) rfl
instance fo62 : FnOk Try.prog 62 := fnOk_of Try.func62 (by kernel_rfl) rfl
instance fo64 : FnOk Try.prog 64 := fnOk_of Try.func64 (by kernel_rfl) rfl
instance fo66 : FnOk Try.prog 66 := fnOk_of Try.func66 (by kernel_rfl) rfl
instance fo68 : FnOk Try.prog 68 := fnOk_of Try.func68 (by kernel_rfl) rfl
instance fo70 : FnOk Try.prog 70 := fnOk_of Try.func70 (by kernel_rfl) rfl
instance fo72 : FnOk Try.prog 72 := fnOk_of Try.func72 (by kernel_rfl) rfl
instance fo74 : FnOk Try.prog 74 := fnOk_of Try.func74 (by kernel_rfl) rfl
instance fo76 : FnOk Try.prog 76 := fnOk_of Try.func76 (by kernel_rfl) rfl
instance fo78 : FnOk Try.prog 78 := fnOk_of Try.func78 (by kernel_rfl) rfl
instance fo80 : FnOk Try.prog 80 := fnOk_of Try.func80 (by kernel_rfl) rfl
instance fo82 : FnOk Try.prog 82 := fnOk_of Try.func82 (by kernel_rfl) rfl
instance fo84 : FnOk Try.prog 84 := fnOk_of Try.func84 (by kernel_rfl) rfl
instance fo86 : FnOk Try.prog 86 := fnOk_of Try.func86 (by kernel_rfl) rfl
instance fo88 : FnOk Try.prog 88 := fnOk_of Try.func88 (by kernel_rfl) rfl
instance fo90 : FnOk Try.prog 90 := fnOk_of Try.func90 (by kernel_rfl) rfl
instance fo92 : FnOk Try.prog 92 := fnOk_of Try.func92 (by kernel_rfl) rfl
instance fo94 : FnOk Try.prog 94 := fnOk_of Try.func94 (by kernel_rfl) rfl
instance fo96 : FnOk Try.prog 96 := fnOk_of Try.func96 (by kernel_rfl) rfl
instance fo98 : FnOk Try.prog 98 := fnOk_of Try.func98 (by kernel_rfl) rfl
instance fo100 : FnOk Try.prog 100 := fnOk_of Try.func100 (by kernel_rfl) rfl
instance fo102 : FnOk Try.prog 102 := fnOk_of Try.func102 (by kernel_rfl) rfl
instance fo104 : FnOk Try.prog 104 := fnOk_of Try.func104 (by kernel_rfl) rfl
instance fo106 : FnOk Try.prog 106 := fnOk_of Try.func106 (by kernel_rfl) rfl
instance fo108 : FnOk Try.prog 108 := fnOk_of Try.func108 (by kernel_rfl) rfl
instance fo110 : FnOk Try.prog 110 := fnOk_of Try.func110 (by kernel_rfl) rfl
instance fo112 : FnOk Try.prog 112 := fnOk_of Try.func112 (by kernel_rfl) rfl
instance fo114 : FnOk Try.prog 114 := fnOk_of Try.func114 (by kernel_rfl) rfl
instance fo116 : FnOk Try.prog 116 := fnOk_of Try.func116 (by kernel_rfl) rfl
instance fo118 : FnOk Try.prog 118 := fnOk_of Try.func118 (by kernel_rfl) rfl
instance fo120 : FnOk Try.prog 120 := fnOk_of Try.func120 (by kernel_rfl) rfl
instance fo122 : FnOk Try.prog 122 := fnOk_of Try.func122 (by kernel_rfl) rfl
instance fo124 : FnOk Try.prog 124 := fnOk_of Try.func124 (by kernel_rfl) rfl
end Go.Proofs.Ytggdljhmbckpmaa
set_option maxRecDepth 100000
namespace Go.Proofs.Ytggdljhmbckpmaa
open Go Go.RowKit
instance fo3 : FnOk Try.prog 3 := fnOk_of Try.func3 (by kernel_rfl) rfl
instance fo5 : FnOk Try.prog 5 := fnOk_of Try.func5 (by kernel_rfl) rfl
instance fo7 : FnOk Try.prog 7 := fnOk_of Try.func7 (by kernel_rfl) rfl
instance fo9 : FnOk Try.prog 9 := fnOk_of Try.func9 (by kernel_rfl) rfl
instance fo11 : FnOk Try.prog 11 := fnOk_of Try.func11 (by kernel_rfl) rfl
instance fo13 : FnOk Try.prog 13 := fnOk_of Try.func13 (by kernel_rfl) rfl
instance fo15 : FnOk Try.prog 15 := fnOk_of Try.func15 (by kernel_rfl) rfl
instance fo17 : FnOk Try.prog 17 := fnOk_of Try.func17 (by kernel_rfl) rfl
instance fo19 : FnOk Try.prog 19 := fnOk_of Try.func19 (by kernel_rfl) rfl
instance fo21 : FnOk Try.prog 21 := fnOk_of Try.func21 (by kernel_rfl) rfl
instance fo23 : FnOk Try.prog 23 := fnOk_of Try.func23 (by kernel_rfl) rfl
instance fo25 : FnOk Try.prog 25 := fnOk_of Try.func25 (by kernel_rfl) rfl
instance fo27 : FnOk Try.prog 27 := fnOk_of Try.func27 (by kernel_rfl) rfl
instance fo29 : FnOk Try.prog 29 := fnOk_of Try.func29 (by kernel_rfl) rfl
instance fo31 : FnOk Try.prog 31 := fnOk_of Try.func31 (by kernel_rfl) rfl
instance fo33 : FnOk Try.prog 33 := fnOk_of Try.func33 (by kernel_rfl) rfl
instance fo35 : FnOk Try.prog 35 := fnOk_of Try.func35 (by kernel_rfl) rfl
instance fo37 : FnOk Try.prog 37 := fnOk_of Try.func37 (by kernel_rfl) rfl
instance fo39 : FnOk Try.prog 39 := fnOk_of Try.func39 (by kernel_rfl) rfl
instance fo41 : FnOk Try.prog 41 := fnOk_of Try.func41 (by kernel_rfl) rfl
instance fo43 : FnOk Try.prog 43 := fnOk_of Try.func43 (by kernel_rfl) rfl
instance fo45 : FnOk Try.prog 45 := fnOk_of Try.func45 (by kernel_rfl) rfl
instance fo47 : FnOk Try.prog 47 := fnOk_of Try.func47 (by kernel_rfl) rfl
instance fo49 : FnOk Try.prog 49 := fnOk_of Try.func49 (by kernel_rfl) rfl
instance fo51 : FnOk Try.prog 51 := fnOk_of Try.func51 (by kernel_rfl) rfl
instance fo53 : FnOk Try.prog 53 := fnOk_of Try.func53 (by kernel_rfl) rfl
instance fo55 : FnOk Try.prog 55 := fnOk_of Try.func55 (by kernel_rfl) rfl
instance fo57 : FnOk Try.prog 57 := fnOk_of Try.func57 (by kernel_rfl) rfl
instance fo59 : FnOk Try.prog 59 := fnOk_of Try.func59 (by kernel_rfl) rfl
instance fo61 : FnOk Try.prog 61 := fnOk_of Try.func61 (by kernel_rfl) rfl
instance fo63 : FnOk Try.prog 63 := fnOk_of Try.func63 (by kernel_rfl) rfl
instance fo65 : FnOk Try.prog 65 := fnOk_of Try.func65 (by kernel_rfl) rfl
instance fo67 : FnOk Try.prog 67 := fnOk_of Try.func67 (by kernel_rfl) rfl
instance fo69 : FnOk Try.prog 69 := fnOk_of Try.func69 (by kernel_rfl) rfl
instance fo71 : FnOk Try.prog 71 := fnOk_of Try.func71 (by kernel_rfl) rfl
instance fo73 : FnOk Try.prog 73 := fnOk_of Try.func73 (by kernel_rfl) rfl
instance fo75 : FnOk Try.prog 75 := fnOk_of Try.func75 (by kernel_rfl) rfl
instance fo77 : FnOk Try.prog 77 := fnOk_of Try.func77 (by kernel_rfl) rfl
instance fo79 : FnOk Try.prog 79 := fnOk_of Try.func79 (by kernel_rfl) rfl
instance fo81 : FnOk Try.prog 81 := fnOk_of Try.func81 (by kernel_rfl) rfl
instance fo83 : FnOk Try.prog 83 := fnOk_of Try.func83 (by kernel_rfl) rfl
instance fo85 : FnOk Try.prog 85 := fnOk_of Try.func85 (by kernel_rfl) rfl
instance fo87 : FnOk Try.prog 87 := fnOk_of Try.func87 (by kernel_rfl) rfl
instance fo89 : FnOk Try.prog 89 := fnOk_of Try.func89 (by kernel_rfl) rfl
instance fo91 : FnOk Try.prog 91 := fnOk_of Try.func91 (by kernel_rfl) rfl
instance fo93 : FnOk Try.prog 93 := fnOk_of Try.func93 (by kernel_rfl) rfl
instance fo95 : FnOk Try.prog 95 := fnOk_of Try.func95 (by kernel_rfl) rfl
instance fo97 : FnOk Try.prog 97 := fnOk_of Try.func97 (by kernel_rfl) rfl
instance fo99 : FnOk Try.prog 99 := fnOk_of Try.func99 (by kernel_rfl) rfl
instance fo101 : FnOk Try.prog 101 := fnOk_of Try.func101 (by kernel_rfl) rfl
instance fo103 : FnOk Try.prog 103 := fnOk_of Try.func103 (by kernel_rfl) rfl
instance fo105 : FnOk Try.prog 105 := fnOk_of Try.func105 (by kernel_rfl) rfl
instance fo107 : FnOk Try.prog 107 := fnOk_of Try.func107 (by kernel_rfl) rfl
instance fo109 : FnOk Try.prog 109 := fnOk_of Try.func109 (by kernel_rfl) rfl
instance fo111 : FnOk Try.prog 111 := fnOk_of Try.func111 (by kernel_rfl) rfl
instance fo113 : FnOk Try.prog 113 := fnOk_of Try.func113 (by kernel_rfl) rfl
instance fo115 : FnOk Try.prog 115 := fnOk_of Try.func115 (by kernel_rfl) rfl
instance fo117 : FnOk Try.prog 117 := fnOk_of Try.func117 (by kernel_rfl) rfl
instance fo119 : FnOk Try.prog 119 := fnOk_of Try.func119 (by kernel_rfl) rfl
instance fo121 : FnOk Try.prog 121 := fnOk_of Try.func121 (by kernel_rfl) rfl
instance fo123 : FnOk Try.prog 123 := fnOk_of Try.func123 (by kernel_rfl) rfl
instance fo125 : FnOk Try.prog 125 := fnOk_of Try.func125 (by kernel_rfl) rfl
end Go.Proofs.Ytggdljhmbckpmaa
namespace Go.Proofs.Ytggdljhmbckpmaa
open Go Go.RowKit
attribute [local semireducible] T TC En PW GW CallsK CallsP Sl Rd Ls At S

section
variable {P : Program} {w0 : World} {E : List Value} {H : List Hp} {R : List MP} {ty : TypeId} {K : Value → List MP → Prop}

theorem wrap_nat {k : IntKind} (hk : k.signed = false) {n : Nat} (h : n < 2 ^ k.bits) : k.wrap (n : Int) = (n : Int) := by
  cases k <;> simp [IntKind.signed] at hk <;> simp [IntKind.wrap, IntKind.bits, IntKind.signed] at * <;> omega
theorem wrap_nat_mod {k : IntKind} (hk : k.signed = false) (n : Nat) : k.wrap (n : Int) = ((n % 2 ^ k.bits : Nat) : Int) := by
  cases k <;> simp [IntKind.signed] at hk <;> simp [IntKind.wrap, IntKind.bits, IntKind.signed]
theorem ofInt_nat (b n : Nat) : BitVec.ofInt b (n : Int) = BitVec.ofNat b n := by simp
theorem pw_nat {bop : BinOp} {t t' : TypeId} {x y : Operand} {k : IntKind} {a b : Nat} (hx : ev E x = .int k (a : Int)) (hy : ev E y = .int k (b : Int)) (hk : k.signed = false) (r : Nat) (hr : ∀ w : World, (binOp bop t (.int k (a : Int)) (.int k (b : Int))).run P w = .ok (.int k (r : Int)) w) (kk : K (.int k (r : Int)) R) : PW P w0 E (.binOp bop t x y t') ty H R K :=
  pw_bin hx hy hr kk
theorem pw_xor {t t' : TypeId} {x y : Operand} {k : IntKind} {a b : Nat} (hx : ev E x = .int k (a : Int)) (hy : ev E y = .int k (b : Int)) (hk : k.signed = false) (ha : a < 2 ^ k.bits) (hb : b < 2 ^ k.bits) (kk : K (.int k ((a ^^^ b : Nat) : Int)) R) : PW P w0 E (.binOp .xor t x y t') ty H R K :=
  pw_bin hx hy (fun w => by
    simp only [binOp, Op.intBits, ofInt_nat, ne_eq, not_true_eq_false, if_false, Sem.run_pure, BitVec.toNat_xor, BitVec.toNat_ofNat, Nat.mod_eq_of_lt ha, Nat.mod_eq_of_lt hb]
    rw [wrap_nat hk (Nat.xor_lt_two_pow ha hb)]) kk
theorem pw_or {t t' : TypeId} {x y : Operand} {k : IntKind} {a b : Nat} (hx : ev E x = .int k (a : Int)) (hy : ev E y = .int k (b : Int)) (hk : k.signed = false) (ha : a < 2 ^ k.bits) (hb : b < 2 ^ k.bits) (kk : K (.int k ((a ||| b : Nat) : Int)) R) : PW P w0 E (.binOp .or t x y t') ty H R K :=
  pw_bin hx hy (fun w => by
    simp only [binOp, Op.intBits, ofInt_nat, ne_eq, not_true_eq_false, if_false, Sem.run_pure, BitVec.toNat_or, BitVec.toNat_ofNat, Nat.mod_eq_of_lt ha, Nat.mod_eq_of_lt hb]
    rw [wrap_nat hk (Nat.or_lt_two_pow ha hb)]) kk
theorem pw_and {t t' : TypeId} {x y : Operand} {k : IntKind} {a b : Nat} (hx : ev E x = .int k (a : Int)) (hy : ev E y = .int k (b : Int)) (hk : k.signed = false) (ha : a < 2 ^ k.bits) (hb : b < 2 ^ k.bits) (kk : K (.int k ((a &&& b : Nat) : Int)) R) : PW P w0 E (.binOp .and t x y t') ty H R K :=
  pw_bin hx hy (fun w => by
    simp only [binOp, Op.intBits, ofInt_nat, ne_eq, not_true_eq_false, if_false, Sem.run_pure, BitVec.toNat_and, BitVec.toNat_ofNat, Nat.mod_eq_of_lt ha, Nat.mod_eq_of_lt hb]
    rw [wrap_nat hk (Nat.and_lt_two_pow _ hb)]) kk
theorem pw_muln {t t' : TypeId} {x y : Operand} {k : IntKind} {a b : Nat} (hx : ev E x = .int k (a : Int)) (hy : ev E y = .int k (b : Int)) (hk : k.signed = false) (kk : K (.int k ((a * b % 2 ^ k.bits : Nat) : Int)) R) : PW P w0 E (.binOp .mul t x y t') ty H R K :=
  pw_bin hx hy (fun w => by
    have : (a : Int) * (b : Int) = ((a * b : Nat) : Int) := by simp
    simp only [binOp, Op.intArith, ne_eq, not_true_eq_false, if_false, Sem.run_pure, this, wrap_nat_mod hk]) kk
theorem pw_shl {t t' : TypeId} {x y : Operand} {k k' : IntKind} {a n : Nat} (hx : ev E x = .int k (a : Int)) (hy : ev E y = .int k' (n : Int)) (hk : k.signed = false) (hn : n ≤ k.bits) (kk : K (.int k ((a * 2 ^ n % 2 ^ k.bits : Nat) : Int)) R) : PW P w0 E (.binOp .shl t x y t') ty H R K :=
  pw_val rfl (fun w _ => by
    have h1 : (eqGuard .shl t x y (.int k (a : Int)) (.int k' (n : Int))).run P w = .ok () w := rfl
    have h2 : (a : Int) * 2 ^ n = ((a * 2 ^ n : Nat) : Int) := by simp
    have h3 : ¬ ((n : Int) < 0) := by omega
    rw [hx, hy]
    simp only [Sem.run_bind, h1, Result.andThen_ok, binOp, Op.shift, if_neg h3, Int.toNat_natCast, Nat.min_eq_left hn, Sem.run_pure, h2, wrap_nat_mod hk]) kk
theorem pw_shr {t t' : TypeId} {x y : Operand} {k k' : IntKind} {a n : Nat} (hx : ev E x = .int k (a : Int)) (hy : ev E y = .int k' (n : Int)) (hn : n ≤ k.bits) (kk : K (.int k ((a / 2 ^ n : Nat) : Int)) R) : PW P w0 E (.binOp .shr t x y t') ty H R K :=
  pw_val rfl (fun w _ => by
    have h1 : (eqGuard .shr t x y (.int k (a : Int)) (.int k' (n : Int))).run P w = .ok () w := rfl
    have h3 : ¬ ((n : Int) < 0) := by omega
    have h4 : (a : Int).fdiv (2 ^ n) = ((a / 2 ^ n : Nat) : Int) := by
      rw [Int.fdiv_eq_ediv_of_nonneg _ (Int.le_of_lt (Int.pow_pos (by omega)))]; simp
    rw [hx, hy]
    simp only [Sem.run_bind, h1, Result.andThen_ok, binOp, Op.shift, if_neg h3, Int.toNat_natCast, Nat.min_eq_left hn, Sem.run_pure, h4]) kk
theorem pw_convn {s d : TypeId} {x : Operand} {k k' : IntKind} {ds : TypeDesc} {a : Nat} [hs : TyU P s ds] [hd : TyU P d (.int k')] (hx : ev E x = .int k (a : Int)) (hk : k'.signed = false) (kk : K (.int k' ((a % 2 ^ k'.bits : Nat) : Int)) R) : PW P w0 E (.convert s d x) ty H R K :=
  pw_conv (hs := hs) (hd := hd) hx (by rw [wrap_nat_mod hk]; exact kk)
theorem pw_convi {s d : TypeId} {x : Operand} {k : IntKind} {ds : TypeDesc} {a : Nat} [hs : TyU P s ds] [hd : TyU P d (.int .i64)] (hx : ev E x = .int k (a : Int)) (ha : a ≤ 9223372036854775807) (kk : K (.int .i64 (a : Int)) R) : PW P w0 E (.convert s d x) ty H R K :=
  pw_conv (hs := hs) (hd := hd) hx (by rw [wrap_id (by simp [IntKind.min, IntKind.signed, IntKind.bits]) (by simp [IntKind.max, IntKind.signed, IntKind.bits]; omega)]; exact kk)
end

/-! ### calls, their arguments as lists -/
section
variable {F : Fence} {n : Nat} {P : Program} {w0 : World} {D : List Deferred} {ops : Array Oper} {Q : Exit → Act → World → Prop} {rest : List Oper} {E : List Value} {H : List Hp} {R : List MP}
theorem ow_callf [Wd F] {dst : Option Tmp} {f : FuncId} {l : List Operand} {at_ : Array TypeId} {ty : TypeId} {pos : String} {aft : Array Edge} {g : Option (Nat × Bool)} {K : Value → List Hp → List MP → Prop} {A : List Value} (hA : l.map (ev E) = A) [FnOk P f]
    (h : CallsK P w0 f A.toArray H R K) : OW F n P w0 D Q ⟨dst, .call ⟨.value (.func f), l.toArray, at_⟩, ty, pos, aft, g⟩ E H R K :=
  ow_call (f := f) (first := #[]) (cap := #[]) rfl (vs := A.toArray) (by subst hA; simp) h
theorem ow_callfP [Wd F] {dst : Option Tmp} {f : FuncId} {l : List Operand} {at_ : Array TypeId} {ty : TypeId} {pos : String} {aft : Array Edge} {g : Option (Nat × Bool)} {K : Value → List Hp → List MP → Prop} {KP : List PanicEntry → List Hp → List MP → Prop} {A : List Value} (hA : l.map (ev E) = A) [FnOk P f]
    (h : CallsP P w0 f A.toArray H R K KP) (hp : ∀ ch H' R', KP ch H' R' → En w0 D Q (.panic ch) E H' R') : OW F n P w0 D Q ⟨dst, .call ⟨.value (.func f), l.toArray, at_⟩, ty, pos, aft, g⟩ E H R K :=
  ow_callP (f := f) (first := #[]) (cap := #[]) rfl (vs := A.toArray) (by subst hA; simp) h hp
theorem ow_callv [Wd F] {dst : Option Tmp} {fo : Operand} {f : FuncId} {l : List Operand} {at_ : Array TypeId} {ty : TypeId} {pos : String} {aft : Array Edge} {g : Option (Nat × Bool)} {K : Value → List Hp → List MP → Prop} {A L1 L2 : List Value} (hf : ev E fo = .func (.func f) L1.toArray L2.toArray) (hA : L1 ++ l.map (ev E) ++ L2 = A) [FnOk P f]
    (h : CallsK P w0 f A.toArray H R K) : OW F n P w0 D Q ⟨dst, .call ⟨.value fo, l.toArray, at_⟩, ty, pos, aft, g⟩ E H R K :=
  ow_call (f := f) hf (vs := A.toArray) (by subst hA; simp) h
theorem ow_callvP [Wd F] {dst : Option Tmp} {fo : Operand} {f : FuncId} {l : List Operand} {at_ : Array TypeId} {ty : TypeId} {pos : String} {aft : Array Edge} {g : Option (Nat × Bool)} {K : Value → List Hp → List MP → Prop} {KP : List PanicEntry → List Hp → List MP → Prop} {A L1 L2 : List Value} (hf : ev E fo = .func (.func f) L1.toArray L2.toArray) (hA : L1 ++ l.map (ev E) ++ L2 = A) [FnOk P f]
    (h : CallsP P w0 f A.toArray H R K KP) (hp : ∀ ch H' R', KP ch H' R' → En w0 D Q (.panic ch) E H' R') : OW F n P w0 D Q ⟨dst, .call ⟨.value fo, l.toArray, at_⟩, ty, pos, aft, g⟩ E H R K :=
  ow_callP (f := f) hf (vs := A.toArray) (by subst hA; simp) h hp
end
/-! ### append from a block, from what stays; nil -/
section
variable {P : Program} {w0 : World} {E : List Value} {H : List Hp} {R : List MP} {ty : TypeId} {K : Value → List Hp → List MP → Prop}
theorem gw_append_blk {t e : TypeId} {s x : Operand} (i j : Nat) {n m c sz by_ b : Nat} {zs cs news : List Value} {v : Value} [h : TyL P t e sz by_ zs] (hs : ev E s = v) (hx : ev E x = .slice (some ⟨b, 0, none⟩) m c) (hi : H[i]? = some (.row v e sz n cs)) (hj : H[j]? = some (.blk b news e))
    (hsz : 0 < sz) (hl : news.length = m * sz) (h1 : ∀ u ∈ news, u.oneCell' = true) (hby : (n + m) * by_ ≤ 140737488355328) (hnm : n + m ≤ 140737488355328)
    (kk : ∀ v', K v' (H.set i (.row v' e sz (n + m) (cs ++ news))) R) : GW P w0 E (.call ⟨.builtin .append, #[s, x], #[t, t]⟩) ty H R K :=
  gw_append_core hs hx hi hsz hl (fun w hw _ => ⟨_, rfl, fun k u hk => by
    rw [Addr.add_mk]; exact hw.blk_cells hj k u hk⟩) h1 hby hnm kk
theorem gw_append_sl {t e : TypeId} {s x : Operand} (i : Nat) {n c m by_ : Nat} {zs cs : List Value} {v : Value} {A : Option Addr} {xs : List UInt8} [h : TyL P t e 1 by_ zs] (hs : ev E s = v) (hx : ev E x = .slice A m c) (hm : Sl (.slice A m c) xs ∈ R) (hml : m = xs.length) (hi : H[i]? = some (.row v e 1 n cs))
    (hby : (n + m) * by_ ≤ 140737488355328) (hnm : n + m ≤ 140737488355328)
    (kk : ∀ v', K v' (H.set i (.row v' e 1 (n + m) (cs ++ bytesV xs))) R) : GW P w0 E (.call ⟨.builtin .append, #[s, x], #[t, t]⟩) ty H R K :=
  gw_append_core hs hx hi (by omega) (by simp [hml]) (fun w hw h0 => by
    obtain ⟨_, hc⟩ := hw.sl_bytes hm
    obtain ⟨b, o, rfl, hcell⟩ := hc h0
    exact ⟨_, rfl, fun k u hk => by rw [Addr.add_mk]; exact hcell k u hk⟩) (bytesV_one _) hby hnm kk
end
section
variable {P : Program} {w0 : World} {E : List Value} {H : List Hp} {R : List MP} {ty : TypeId} {K : Value → List MP → Prop}
theorem pw_eqnil {t t' e : TypeId} {x y : Operand} {A : Option Addr} {n c : Nat} [h : TyU P t (.slice e)] (hx : ev E x = .slice A n c) (hy : ev E y = .slice none 0 0) (kt : A = none → K (.bool true) R) (kf : ∀ a, A = some a → K (.bool false) R) : PW P w0 E (.binOp .eql t x y t') ty H R K := by
  have key : ∀ w : World, (binOp .eql t (.slice A n c) (.slice none 0 0)).run P w = .ok (.bool A.isNone) w := fun w => Lib.run_eql_slice_nil w t e A n c 0 0 h.und
  have hg : ∀ w : World, (eqGuard .eql t x y (.slice A n c) (.slice none 0 0)).run P w = .ok () w := fun w => rfl
  cases A with
  | none => exact pw_val rfl (fun w _ => by rw [hx, hy]; simp only [Sem.run_bind, hg, Result.andThen_ok, key]; rfl) (kt rfl)
  | some a => exact pw_val rfl (fun w _ => by rw [hx, hy]; simp only [Sem.run_bind, hg, Result.andThen_ok, key]; rfl) (kf a rfl)
end
/-! ### slicing an owned block; opening a row -/
section
variable {F : Fence} {n : Nat} {P : Program} {w0 : World} {D : List Deferred} {ops : Array Oper} {Q : Exit → Act → World → Prop} {rest : List Oper} {E : List Value} {H : List Hp} {R : List MP} {ty : TypeId} {K : Value → List MP → Prop}
theorem pw_slice_o {t e : TypeId} {x : Operand} {lo hi : Option Operand} {sz by_ : Nat} {zs : List Value} [ht : TyL P t e sz by_ zs] {b o n c : Nat} {l h : Int} (hx : ev E x = .slice (some ⟨b, o, none⟩) n c) (hl : bnd E 0 lo = some l) (hh : bnd E n hi = some h)
    (h0 : 0 ≤ l) (h1 : l ≤ h) (h2 : h ≤ c) (kk : ∀ o', (h.toNat - l.toNat = 0 ∨ o' = o + l.toNat * sz) → K (.slice (some ⟨b, o', none⟩) (h.toNat - l.toNat) (c - l.toNat)) R) : PW P w0 E (.slice t x lo hi none) ty H R K := by
  refine pw_slice hx hl hh h0 h1 h2 ?_
  by_cases e : c = l.toNat
  · rw [if_pos e]; exact kk o (.inl (by omega))
  · rw [if_neg e]
    simp only [Option.map_some, Addr.add_mk]
    exact kk _ (.inr rfl)
theorem TC_unrow {c : Code} (i : Nat) {v : Value} {T : TypeId} {size m : Nat} {cs : List Value} (hi : H[i]? = some (.row v T size m cs)) (hm : 0 < m)
    (k : ∀ b cap sp, v = .slice (some ⟨b, 0, none⟩) m cap → (cs ++ sp).length = cap * size → cs.length = m * size → m ≤ cap → cap ≤ maxLen → TC F n P w0 D c Q E (H.set i (.blk b (cs ++ sp) T)) R) : TC F n P w0 D c Q E H R := fun w hs => by
  rcases hs.unrow hi with ⟨_, h0, _⟩ | ⟨b, cap, sp, h1, h2, h3, h4, h5, h6⟩
  · omega
  · exact k b cap sp h1 h2 h3 h4 h5 w h6
theorem T_unrow (i : Nat) {v : Value} {T' : TypeId} {size m : Nat} {cs : List Value} (hi : H[i]? = some (.row v T' size m cs)) (hm : 0 < m)
    (k : ∀ b cap sp, v = .slice (some ⟨b, 0, none⟩) m cap → (cs ++ sp).length = cap * size → cs.length = m * size → m ≤ cap → cap ≤ maxLen → T F n P w0 D ops Q rest E (H.set i (.blk b (cs ++ sp) T')) R) : T F n P w0 D ops Q rest E H R := fun w hs => by
  rcases hs.unrow hi with ⟨_, h0, _⟩ | ⟨b, cap, sp, h1, h2, h3, h4, h5, h6⟩
  · omega
  · exact k b cap sp h1 h2 h3 h4 h5 w h6
/-- An owned row of bytes is made to stay: it reads as a slice. -/
theorem S.row_stays {w : World} {i : Nat} {v : Value} {m : Nat} {xs : List UInt8} (h : S w0 w H R) (hi : H[i]? = some (.row v 5 1 m (bytesV xs))) : ∃ A c, v = .slice A xs.length c ∧ S w0 w (H.eraseIdx i) (Sl (.slice A xs.length c) xs :: R) := by
  have hml : xs.length = m := by
    obtain ⟨s, hs⟩ := h
    have := (hs.hp _ (List.mem_of_getElem? hi)).1.1
    simpa using this
  rcases h.unrow hi with ⟨rfl, h0, hnil⟩ | ⟨b, cap, sp, rfl, h2, h3, h4, h5, h6⟩
  · have : xs = [] := List.eq_nil_of_length_eq_zero (by omega)
    subst this
    refine ⟨none, 0, rfl, (h.drop i).add _ fun s hR => ⟨none, 0, rfl, ⟨by simp, by simp [maxL]⟩, fun h => by simp at h⟩⟩
  · subst hml
    refine ⟨some ⟨b, 0, none⟩, cap, rfl, ?_⟩
    have hlt : i < H.length := (List.getElem?_eq_some_iff.1 hi).1
    have h7 := h6.freeze (i := i) (b := b) (cs := bytesV xs ++ sp) (T := 5) (by rw [List.getElem?_set_self hlt])
    have e : (H.set i (.blk b (bytesV xs ++ sp) 5)).eraseIdx i = H.eraseIdx i := by rw [List.eraseIdx_set_eq]
    rw [e] at h7
    have h8 := h7.add (Sl (.slice (some ⟨b, 0, none⟩) xs.length cap) xs) (fun s hR => by
      have hat := hR (At b 0 (bytesV xs ++ sp)) (by simp)
      refine ⟨_, _, rfl, ⟨h4, by simp only [maxLen] at h5; simp only [maxL]; omega⟩, fun _ => ⟨b, 0, rfl, fun k x hk => ⟨[byteV x], rfl, fun j v hj => ?_⟩⟩⟩
      have hj0 : j = 0 ∧ v = byteV x := by
        cases j with
        | zero => simp at hj; exact ⟨rfl, hj.symm⟩
        | succ j => simp at hj
      obtain ⟨rfl, rfl⟩ := hj0
      have := hat k (byteV x) (by
        rw [List.getElem?_append_left (by simp; exact (List.getElem?_eq_some_iff.1 hk).1)]
        simp [bytesV, hk])
      simpa [Rep.size] using this)
    exact h8.weaken (List.Sublist.refl _) (fun p hp => by
      rcases List.mem_cons.1 hp with rfl | hp
      · simp
      · simp [hp])
end
/-! ### loops by the slots that they turn -/
section
variable {F : Fence} {n : Nat} {P : Program} {w0 : World} {D : List Deferred} {ops : Array Oper} {Q : Exit → Act → World → Prop} {rest : List Oper} {E : List Value} {H : List Hp} {R : List MP}
def setJ (E : List Value) (js : List Nat) (j : Nat → Value) : List Value := js.foldl (fun E i => E.set i (j i)) E
def BackS (w0 : World) (D : List Deferred) (E0 : List Value) (js : List Nat) (I : Nat → (Nat → Value) → List Hp → List MP → Prop) (m : Nat) : Act → World → Prop :=
  fun a w => ∃ k, k < m ∧ ∃ j H R, a = act (setJ E0 js j) D ∧ S w0 w H R ∧ I k j H R
theorem TC_loopS {c : Code} (js : List Nat) (I : Nat → (Nat → Value) → List Hp → List MP → Prop) (m : Nat) (he : setJ E js (fun i => E.getD i undef) = E) (h0 : I m (fun i => E.getD i undef) H R)
    (round : ∀ m j H R, I m j H R → TC F n P w0 D c (Exit.then (BackS w0 D E js I m) Q) (setJ E js j) H R) : TC F n P w0 D (.loop c) Q E H R := by
  refine TC_loop (fun m E' H' R' => ∃ j, E' = setJ E js j ∧ I m j H' R') m ⟨_, he.symm, h0⟩ ?_
  rintro m E' H' R' ⟨j, rfl, hI⟩
  refine TC_mono (round m j H' R' hI) ?_
  intro e a w hq
  cases e with
  | normal =>
    obtain ⟨k, hk, j', H2, R2, e1, e2, e3⟩ := hq
    exact ⟨k, hk, setJ E js j', H2, R2, e1, e2, j', rfl, e3⟩
  | _ => exact hq
theorem En_backS {E0 : List Value} {js : List Nat} {I : Nat → (Nat → Value) → List Hp → List MP → Prop} {m : Nat} (k : Nat) (H' : List Hp) (R' : List MP) (hk : k < m) (hE : setJ E0 js (fun i => E.getD i undef) = E) (hI : I k (fun i => E.getD i undef) H' R') (hw : ∀ w, S w0 w H R → S w0 w H' R') :
    En w0 D (Exit.then (BackS w0 D E0 js I m) Q) .normal E H R := fun w hs => ⟨k, hk, _, H', R', by rw [hE], hw w hs, hI⟩
theorem TC_env {c : Code} {E' : List Value} (h : E = E') (k : TC F n P w0 D c Q E' H R) : TC F n P w0 D c Q E H R := h ▸ k
theorem TC_ex {c : Code} {β : Sort _} {p : β → Prop} {H' : β → List Hp} {R' : β → List MP} (h : ∀ w, S w0 w H R → ∃ y, p y ∧ S w0 w (H' y) (R' y)) (k : ∀ y, p y → TC F n P w0 D c Q E (H' y) (R' y)) : TC F n P w0 D c Q E H R := fun w hs => by
  obtain ⟨y, hp, hs'⟩ := h w hs
  exact k y hp w hs'
theorem T_ex {β : Sort _} {p : β → Prop} {H' : β → List Hp} {R' : β → List MP} (h : ∀ w, S w0 w H R → ∃ y, p y ∧ S w0 w (H' y) (R' y)) (k : ∀ y, p y → T F n P w0 D ops Q rest E (H' y) (R' y)) : T F n P w0 D ops Q rest E H R := fun w hs => by
  obtain ⟨y, hp, hs'⟩ := h w hs
  exact k y hp w hs'
theorem CallsK_ex {f : FuncId} {args : Array Value} {K : Value → List Hp → List MP → Prop} {β : Sort _} {p : β → Prop} {H' : β → List Hp} {R' : β → List MP} (h : ∀ w, S w0 w H R → ∃ y, p y ∧ S w0 w (H' y) (R' y)) (k : ∀ y, p y → CallsK P w0 f args (H' y) (R' y) K) : CallsK P w0 f args H R K := fun w hs => by
  obtain ⟨y, hp, hs'⟩ := h w hs
  exact k y hp w hs'
theorem T_hp {H' : List Hp} (h : H = H') (k : T F n P w0 D ops Q rest E H' R) : T F n P w0 D ops Q rest E H R := h ▸ k
theorem TA_hp {Hc : List Hp} {Rc : List MP} {k : Nat} {listed : Array Bool} {H' : List Hp} (h : H = H') (kk : TA F n P w0 D ops Q Hc Rc k listed E H' R) : TA F n P w0 D ops Q Hc Rc k listed E H R := h ▸ kk
theorem TC_hp {c : Code} {H' : List Hp} (h : H = H') (k : TC F n P w0 D c Q E H' R) : TC F n P w0 D c Q E H R := h ▸ k
/-- A fact on what is read may be used at once. -/
theorem T_fact {p : Prop} (h : ∀ w, S w0 w H R → p) (k : p → T F n P w0 D ops Q rest E H R) : T F n P w0 D ops Q rest E H R := fun w hs => k (h w hs) w hs
theorem TC_fact {c : Code} {p : Prop} (h : ∀ w, S w0 w H R → p) (k : p → TC F n P w0 D c Q E H R) : TC F n P w0 D c Q E H R := fun w hs => k (h w hs) w hs
theorem CallsK_fact {f : FuncId} {args : Array Value} {K : Value → List Hp → List MP → Prop} {p : Prop} (h : ∀ w, S w0 w H R → p) (k : p → CallsK P w0 f args H R K) : CallsK P w0 f args H R K := fun w hs => k (h w hs) w hs
theorem CallsK_weaken {f : FuncId} {args : Array Value} {K : Value → List Hp → List MP → Prop} (H' : List Hp) (R' : List MP) (hw : ∀ w, S w0 w H R → S w0 w H' R') (k : CallsK P w0 f args H' R' K) : CallsK P w0 f args H R K := fun w hs => k w (hw w hs)
end
end Go.Proofs.Ytggdljhmbckpmaa
