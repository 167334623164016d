/- What is known of the functions of the program: that a call enters them. Unsigned numbers as naturals. Elements of slices, opened; the data of drives. -/
import Derived.Test.YtggdljhmbckpmaaGreatA6
import Derived.Test.YtggdljhmbckpmaaGreatProg
import Derived.KernelRfl
import Derived.Lib.SliceRun
set_option linter.unusedVariables false
set_option linter.unusedSimpArgs false
set_option maxRecDepth 100000
namespace Go.Proofs.YtggdljhmbckpmaaGreat
open Go Go.RowKit
instance fo7 : FnOk Tryz.prog 7 := bO Tryz.func7 (by kernel_rfl) rfl
instance fo9 : FnOk Tryz.prog 9 := bO Tryz.func9 (by kernel_rfl) rfl
instance fo11 : FnOk Tryz.prog 11 := bO Tryz.func11 (by kernel_rfl) rfl
instance fo13 : FnOk Tryz.prog 13 := bO Tryz.func13 (by kernel_rfl) rfl
instance fo15 : FnOk Tryz.prog 15 := bO Tryz.func15 (by kernel_rfl) rfl
instance fo17 : FnOk Tryz.prog 17 := bO Tryz.func17 (by kernel_rfl) rfl
instance fo19 : FnOk Tryz.prog 19 := bO Tryz.func19 (by kernel_rfl) rfl
instance fo21 : FnOk Tryz.prog 21 := bO Tryz.func21 (by kernel_rfl) rfl
instance fo23 : FnOk Tryz.prog 23 := bO Tryz.func23 (by kernel_rfl) rfl
instance fo25 : FnOk Tryz.prog 25 := bO Tryz.func25 (by kernel_rfl) rfl
instance fo27 : FnOk Tryz.prog 27 := bO Tryz.func27 (by kernel_rfl) rfl
instance fo29 : FnOk Tryz.prog 29 := bO Tryz.func29 (by kernel_rfl) rfl
instance fo31 : FnOk Tryz.prog 31 := bO Tryz.func31 (by kernel_rfl) rfl
instance fo33 : FnOk Tryz.prog 33 := bO Tryz.func33 (by kernel_rfl) rfl
instance fo35 : FnOk Tryz.prog 35 := bO Tryz.func35 (by kernel_rfl) rfl
instance fo37 : FnOk Tryz.prog 37 := bO Tryz.func37 (by kernel_rfl) rfl
instance fo39 : FnOk Tryz.prog 39 := bO Tryz.func39 (by kernel_rfl) rfl
instance fo41 : FnOk Tryz.prog 41 := bO Tryz.func41 (by kernel_rfl) rfl
instance fo43 : FnOk Tryz.prog 43 := bO Tryz.func43 (by kernel_rfl) rfl
instance fo45 : FnOk Tryz.prog 45 := bO Tryz.func45 (by kernel_rfl) rfl
instance fo47 : FnOk Tryz.prog 47 := bO Tryz.func47 (by kernel_rfl) rfl
instance fo49 : FnOk Tryz.prog 49 := bO Tryz.func49 (by kernel_rfl) rfl
instance fo51 : FnOk Tryz.prog 51 := bO Tryz.func51 (by kernel_rfl) rfl
instance fo53 : FnOk Tryz.prog 53 := bO Tryz.func53 (by kernel_rfl) rfl
instance fo55 : FnOk Tryz.prog 55 := bO Tryz.func55 (by kernel_rfl) rfl
instance fo57 : FnOk Tryz.prog 57 := bO Tryz.func57 (by kernel_rfl) rfl
instance fo59 : FnOk Tryz.prog 59 := bO Tryz.func59 (by kernel_rfl) rfl
instance fo61 : FnOk Tryz.prog 61 := bO Tryz.func61 (by kernel_rfl) rfl
instance fo63 : FnOk Tryz.prog 63 := bO Tryz.func63 (by kernel_rfl) rfl
instance fo65 : FnOk Tryz.prog 65 := bO Tryz.func65 (by kernel_rfl) rfl
instance fo67 : FnOk Tryz.prog 67 := bO Tryz.func67 (by kernel_rfl) rfl
instance fo69 : FnOk Tryz.prog 69 := bO Tryz.func69 (by kernel_rfl) rfl
instance fo71 : FnOk Tryz.prog 71 := bO Tryz.func71 (by kernel_rfl) rfl
instance fo73 : FnOk Tryz.prog 73 := bO Tryz.func73 (by kernel_rfl) rfl
instance fo75 : FnOk Tryz.prog 75 := bO Tryz.func75 (by kernel_rfl) rfl
instance fo77 : FnOk Tryz.prog 77 := bO Tryz.func77 (by kernel_rfl) rfl
instance fo79 : FnOk Tryz.prog 79 := bO Tryz.func79 (by kernel_rfl) rfl
instance fo81 : FnOk Tryz.prog 81 := bO Tryz.func81 (by kernel_rfl) rfl
instance fo83 : FnOk Tryz.prog 83 := bO Tryz.func83 (by kernel_rfl) rfl
instance fo85 : FnOk Tryz.prog 85 := bO Tryz.func85 (by kernel_rfl) rfl
instance fo87 : FnOk Tryz.prog 87 := bO Tryz.func87 (by kernel_rfl) rfl
instance fo89 : FnOk Tryz.prog 89 := bO Tryz.func89 (by kernel_rfl) rfl
instance fo91 : FnOk Tryz.prog 91 := bO Tryz.func91 (by kernel_rfl) rfl
instance fo93 : FnOk Tryz.prog 93 := bO Tryz.func93 (by kernel_rfl) rfl
instance fo95 : FnOk Tryz.prog 95 := bO Tryz.func95 (by kernel_rfl) rfl
instance fo97 : FnOk Tryz.prog 97 := bO Tryz.func97 (by kernel_rfl) rfl
instance fo99 : FnOk Tryz.prog 99 := bO Tryz.func99 (by kernel_rfl) rfl
instance fo101 : FnOk Tryz.prog 101 := bO Tryz.func101 (by kernel_rfl) rfl
instance fo103 : FnOk Tryz.prog 103 := bO Tryz.func103 (by kernel_rfl) rfl
instance fo105 : FnOk Tryz.prog 105 := bO Tryz.func105 (by kernel_rfl) rfl
instance fo107 : FnOk Tryz.prog 107 := bO Tryz.func107 (by kernel_rfl) rfl
instance fo109 : FnOk Tryz.prog 109 := bO Tryz.func109 (by kernel_rfl) rfl
instance fo111 : FnOk Tryz.prog 111 := bO Tryz.func111 (by kernel_rfl) rfl
instance fo113 : FnOk Tryz.prog 113 := bO Tryz.func113 (by kernel_rfl) rfl
instance fo115 : FnOk Tryz.prog 115 := bO Tryz.func115 (by kernel_rfl) rfl
instance fo117 : FnOk Tryz.prog 117 := bO Tryz.func117 (by kernel_rfl) rfl
instance fo119 : FnOk Tryz.prog 119 := bO Tryz.func119 (by kernel_rfl) rfl
instance fo121 : FnOk Tryz.prog 121 := bO Tryz.func121 (by kernel_rfl) rfl
instance fo123 : FnOk Tryz.prog 123 := bO Tryz.func123 (by kernel_rfl) rfl
instance fo125 : FnOk Tryz.prog 125 := bO Tryz.func125 (by kernel_rfl) rfl
instance fo127 : FnOk Tryz.prog 127 := bO Tryz.func127 (by kernel_rfl) rfl
instance fo129 : FnOk Tryz.prog 129 := bO Tryz.func129 (by kernel_rfl) rfl
instance fo131 : FnOk Tryz.prog 131 := bO Tryz.func131 (by kernel_rfl) rfl
instance fo133 : FnOk Tryz.prog 133 := bO Tryz.func133 (by kernel_rfl) rfl
instance fo135 : FnOk Tryz.prog 135 := bO Tryz.func135 (by kernel_rfl) rfl
instance fo137 : FnOk Tryz.prog 137 := bO Tryz.func137 (by kernel_rfl) rfl
instance fo139 : FnOk Tryz.prog 139 := bO Tryz.func139 (by kernel_rfl) rfl
instance fo141 : FnOk Tryz.prog 141 := bO Tryz.func141 (by kernel_rfl) rfl
instance fo143 : FnOk Tryz.prog 143 := bO Tryz.func143 (by kernel_rfl) rfl
instance fo145 : FnOk Tryz.prog 145 := bO Tryz.func145 (by kernel_rfl) rfl
instance fo147 : FnOk Tryz.prog 147 := bO Tryz.func147 (by kernel_rfl) rfl
instance fo149 : FnOk Tryz.prog 149 := bO Tryz.func149 (by kernel_rfl) rfl
instance fo151 : FnOk Tryz.prog 151 := bO Tryz.func151 (by kernel_rfl) rfl
instance fo153 : FnOk Tryz.prog 153 := bO Tryz.func153 (by kernel_rfl) rfl
instance fo155 : FnOk Tryz.prog 155 := bO Tryz.func155 (by kernel_rfl) rfl
end Go.Proofs.YtggdljhmbckpmaaGreat
namespace Go.Proofs.YtggdljhmbckpmaaGreat
open Go Go.RowKit
attribute [local semireducible] T TC En PW GW CallsK CallsP Sl Rd Ls At S

section
variable {P : Program} {w0 : World} {E : List Value} {H : List Hp} {R : List MP} {ty : TypeId} {K : Value → List MP → Prop}

theorem qH {k : IntKind} (hk : k.signed = false) {n : Nat} (h : n < 2 ^ k.bits) : k.wrap (n : Int) = (n : Int) := by
  cases k <;> simp [IntKind.signed] at hk <;> simp [IntKind.wrap, IntKind.bits, IntKind.signed] at * <;> omega
theorem mW {k : IntKind} (hk : k.signed = false) (n : Nat) : k.wrap (n : Int) = ((n % 2 ^ k.bits : Nat) : Int) := by
  cases k <;> simp [IntKind.signed] at hk <;> simp [IntKind.wrap, IntKind.bits, IntKind.signed]
theorem oU (b n : Nat) : BitVec.ofInt b (n : Int) = BitVec.ofNat b n := by simp
theorem pw_xor {t t' : TypeId} {x y : Operand} {k : IntKind} {a b : Nat} (hx : ev E x = .int k (a : Int)) (hy : ev E y = .int k (b : Int)) (hk : k.signed = false) (ha : a < 2 ^ k.bits) (hb : b < 2 ^ k.bits) (kk : K (.int k ((a ^^^ b : Nat) : Int)) R) : PW P w0 E (.binOp .xor t x y t') ty H R K :=
  iD hx hy (fun w => by
    simp only [binOp, Op.intBits, oU, ne_eq, not_true_eq_false, if_false, Sem.run_pure, BitVec.toNat_xor, BitVec.toNat_ofNat, Nat.mod_eq_of_lt ha, Nat.mod_eq_of_lt hb]
    rw [qH hk (Nat.xor_lt_two_pow ha hb)]) kk
theorem qJ {t t' : TypeId} {x y : Operand} {k : IntKind} {a b : Nat} (hx : ev E x = .int k (a : Int)) (hy : ev E y = .int k (b : Int)) (hk : k.signed = false) (ha : a < 2 ^ k.bits) (hb : b < 2 ^ k.bits) (kk : K (.int k ((a ||| b : Nat) : Int)) R) : PW P w0 E (.binOp .or t x y t') ty H R K :=
  iD hx hy (fun w => by
    simp only [binOp, Op.intBits, oU, ne_eq, not_true_eq_false, if_false, Sem.run_pure, BitVec.toNat_or, BitVec.toNat_ofNat, Nat.mod_eq_of_lt ha, Nat.mod_eq_of_lt hb]
    rw [qH hk (Nat.or_lt_two_pow ha hb)]) kk
theorem tC {t t' : TypeId} {x y : Operand} {k : IntKind} {a b : Nat} (hx : ev E x = .int k (a : Int)) (hy : ev E y = .int k (b : Int)) (hk : k.signed = false) (ha : a < 2 ^ k.bits) (hb : b < 2 ^ k.bits) (kk : K (.int k ((a &&& b : Nat) : Int)) R) : PW P w0 E (.binOp .and t x y t') ty H R K :=
  iD hx hy (fun w => by
    simp only [binOp, Op.intBits, oU, ne_eq, not_true_eq_false, if_false, Sem.run_pure, BitVec.toNat_and, BitVec.toNat_ofNat, Nat.mod_eq_of_lt ha, Nat.mod_eq_of_lt hb]
    rw [qH hk (Nat.and_lt_two_pow _ hb)]) kk
theorem j8 {t t' : TypeId} {x y : Operand} {k : IntKind} {a b : Nat} (hx : ev E x = .int k (a : Int)) (hy : ev E y = .int k (b : Int)) (hk : k.signed = false) (kk : K (.int k ((a * b % 2 ^ k.bits : Nat) : Int)) R) : PW P w0 E (.binOp .mul t x y t') ty H R K :=
  iD hx hy (fun w => by
    have : (a : Int) * (b : Int) = ((a * b : Nat) : Int) := by simp
    simp only [binOp, Op.intArith, ne_eq, not_true_eq_false, if_false, Sem.run_pure, this, mW hk]) kk
theorem mK {t t' : TypeId} {x y : Operand} {k k' : IntKind} {a n : Nat} (hx : ev E x = .int k (a : Int)) (hy : ev E y = .int k' (n : Int)) (hk : k.signed = false) (hn : n ≤ k.bits) (kk : K (.int k ((a * 2 ^ n % 2 ^ k.bits : Nat) : Int)) R) : PW P w0 E (.binOp .shl t x y t') ty H R K :=
  fS rfl (fun w _ => by
    have h1 : (eqGuard .shl t x y (.int k (a : Int)) (.int k' (n : Int))).run P w = .ok () w := rfl
    have h2 : (a : Int) * 2 ^ n = ((a * 2 ^ n : Nat) : Int) := by simp
    have h3 : ¬ ((n : Int) < 0) := by omega
    rw [hx, hy]
    simp only [Sem.run_bind, h1, Result.andThen_ok, binOp, Op.shift, if_neg h3, Int.toNat_natCast, Nat.min_eq_left hn, Sem.run_pure, h2, mW hk]) kk
theorem lX {t t' : TypeId} {x y : Operand} {k k' : IntKind} {a n : Nat} (hx : ev E x = .int k (a : Int)) (hy : ev E y = .int k' (n : Int)) (hn : n ≤ k.bits) (kk : K (.int k ((a / 2 ^ n : Nat) : Int)) R) : PW P w0 E (.binOp .shr t x y t') ty H R K :=
  fS rfl (fun w _ => by
    have h1 : (eqGuard .shr t x y (.int k (a : Int)) (.int k' (n : Int))).run P w = .ok () w := rfl
    have h3 : ¬ ((n : Int) < 0) := by omega
    have h4 : (a : Int).fdiv (2 ^ n) = ((a / 2 ^ n : Nat) : Int) := by
      rw [Int.fdiv_eq_ediv_of_nonneg _ (Int.le_of_lt (Int.pow_pos aO))]; simp
    rw [hx, hy]
    simp only [Sem.run_bind, h1, Result.andThen_ok, binOp, Op.shift, if_neg h3, Int.toNat_natCast, Nat.min_eq_left hn, Sem.run_pure, h4]) kk
theorem lN {s d : TypeId} {x : Operand} {k k' : IntKind} {ds : TypeDesc} {a : Nat} [hs : TyU P s ds] [hd : TyU P d (.int k')] (hx : ev E x = .int k (a : Int)) (hk : k'.signed = false) (kk : K (.int k' ((a % 2 ^ k'.bits : Nat) : Int)) R) : PW P w0 E (.convert s d x) ty H R K :=
  sW (hs := hs) (hd := hd) hx (by rw [mW hk]; exact kk)
theorem jG {s d : TypeId} {x : Operand} {k : IntKind} {ds : TypeDesc} {a : Nat} [hs : TyU P s ds] [hd : TyU P d (.int .i64)] (hx : ev E x = .int k (a : Int)) (ha : a ≤ 9223372036854775807) (kk : K (.int .i64 (a : Int)) R) : PW P w0 E (.convert s d x) ty H R K :=
  sW (hs := hs) (hd := hd) hx (by rw [oY (by simp [IntKind.min, IntKind.signed, IntKind.bits]) (by simp [IntKind.max, IntKind.signed, IntKind.bits]; omega)]; exact kk)
end

/-! ### calls, their arguments as lists -/
section
variable {F : Fence} {n : Nat} {P : Program} {w0 : World} {D : List Deferred} {ops : Array Oper} {Q : Exit → Act → World → Prop} {rest : List Oper} {E : List Value} {H : List Hp} {R : List MP}
theorem aT [Wd F] {dst : Option Tmp} {f : FuncId} {l : List Operand} {at_ : Array TypeId} {ty : TypeId} {pos : String} {aft : Array Edge} {g : Option (Nat × Bool)} {K : Value → List Hp → List MP → Prop} {A : List Value} (hA : l.map (ev E) = A) [FnOk P f]
    (h : CallsK P w0 f A.toArray H R K) : OW F n P w0 D Q ⟨dst, .call ⟨.value (.func f), l.toArray, at_⟩, ty, pos, aft, g⟩ E H R K :=
  e8 (f := f) (first := #[]) (cap := #[]) rfl (vs := A.toArray) (by subst hA; simp) h
theorem jL [Wd F] {dst : Option Tmp} {f : FuncId} {l : List Operand} {at_ : Array TypeId} {ty : TypeId} {pos : String} {aft : Array Edge} {g : Option (Nat × Bool)} {K : Value → List Hp → List MP → Prop} {KP : List PanicEntry → List Hp → List MP → Prop} {A : List Value} (hA : l.map (ev E) = A) [FnOk P f]
    (h : CallsP P w0 f A.toArray H R K KP) (hp : ∀ ch H' R', KP ch H' R' → En w0 D Q (.panic ch) E H' R') : OW F n P w0 D Q ⟨dst, .call ⟨.value (.func f), l.toArray, at_⟩, ty, pos, aft, g⟩ E H R K :=
  tZ (f := f) (first := #[]) (cap := #[]) rfl (vs := A.toArray) (by subst hA; simp) h hp
theorem gO [Wd F] {dst : Option Tmp} {fo : Operand} {f : FuncId} {l : List Operand} {at_ : Array TypeId} {ty : TypeId} {pos : String} {aft : Array Edge} {g : Option (Nat × Bool)} {K : Value → List Hp → List MP → Prop} {A L1 L2 : List Value} (hf : ev E fo = .func (.func f) L1.toArray L2.toArray) (hA : L1 ++ l.map (ev E) ++ L2 = A) [FnOk P f]
    (h : CallsK P w0 f A.toArray H R K) : OW F n P w0 D Q ⟨dst, .call ⟨.value fo, l.toArray, at_⟩, ty, pos, aft, g⟩ E H R K :=
  e8 (f := f) hf (vs := A.toArray) (by subst hA; simp) h
theorem uW [Wd F] {dst : Option Tmp} {fo : Operand} {f : FuncId} {l : List Operand} {at_ : Array TypeId} {ty : TypeId} {pos : String} {aft : Array Edge} {g : Option (Nat × Bool)} {K : Value → List Hp → List MP → Prop} {KP : List PanicEntry → List Hp → List MP → Prop} {A L1 L2 : List Value} (hf : ev E fo = .func (.func f) L1.toArray L2.toArray) (hA : L1 ++ l.map (ev E) ++ L2 = A) [FnOk P f]
    (h : CallsP P w0 f A.toArray H R K KP) (hp : ∀ ch H' R', KP ch H' R' → En w0 D Q (.panic ch) E H' R') : OW F n P w0 D Q ⟨dst, .call ⟨.value fo, l.toArray, at_⟩, ty, pos, aft, g⟩ E H R K :=
  tZ (f := f) hf (vs := A.toArray) (by subst hA; simp) h hp
end
/-! ### append from a block, from what stays; nil -/
section
variable {P : Program} {w0 : World} {E : List Value} {H : List Hp} {R : List MP} {ty : TypeId} {K : Value → List Hp → List MP → Prop}
theorem dF {t e : TypeId} {s x : Operand} (i j : Nat) {n m c sz by_ b : Nat} {zs cs news : List Value} {v : Value} [h : TyL P t e sz by_ zs] (hs : ev E s = v) (hx : ev E x = .slice (some ⟨b, 0, none⟩) m c) (hi : H[i]? = some (.row v e sz n cs)) (hj : H[j]? = some (.blk b news e))
    (hsz : 0 < sz) (hl : news.length = m * sz) (h1 : ∀ u ∈ news, u.oneCell' = true) (hby : (n + m) * by_ ≤ 140737488355328) (hnm : n + m ≤ 140737488355328)
    (kk : ∀ v', K v' (H.set i (.row v' e sz (n + m) (cs ++ news))) R) : GW P w0 E (.call ⟨.builtin .append, #[s, x], #[t, t]⟩) ty H R K :=
  oG hs hx hi hsz hl (fun w hw _ => ⟨_, rfl, fun k u hk => by
    rw [Addr.add_mk]; exact hw.blk_cells hj k u hk⟩) h1 hby hnm kk
theorem gK {t e : TypeId} {s x : Operand} (i : Nat) {n c m by_ : Nat} {zs cs : List Value} {v : Value} {A : Option Addr} {xs : List UInt8} [h : TyL P t e 1 by_ zs] (hs : ev E s = v) (hx : ev E x = .slice A m c) (hm : Sl (.slice A m c) xs ∈ R) (hml : m = xs.length) (hi : H[i]? = some (.row v e 1 n cs))
    (hby : (n + m) * by_ ≤ 140737488355328) (hnm : n + m ≤ 140737488355328)
    (kk : ∀ v', K v' (H.set i (.row v' e 1 (n + m) (cs ++ bC xs))) R) : GW P w0 E (.call ⟨.builtin .append, #[s, x], #[t, t]⟩) ty H R K :=
  oG hs hx hi aO (by simp [hml]) (fun w hw h0 => by
    obtain ⟨_, hc⟩ := hw.sl_bytes hm
    obtain ⟨b, o, rfl, hcell⟩ := hc h0
    exact ⟨_, rfl, fun k u hk => by rw [Addr.add_mk]; exact hcell k u hk⟩) (mX _) hby hnm kk
end
section
variable {P : Program} {w0 : World} {E : List Value} {H : List Hp} {R : List MP} {ty : TypeId} {K : Value → List MP → Prop}
theorem pw_eqnil {t t' e : TypeId} {x y : Operand} {A : Option Addr} {n c : Nat} [h : TyU P t (.slice e)] (hx : ev E x = .slice A n c) (hy : ev E y = .slice none 0 0) (kt : A = none → K (.bool true) R) (kf : ∀ a, A = some a → K (.bool false) R) : PW P w0 E (.binOp .eql t x y t') ty H R K := by
  have key : ∀ w : World, (binOp .eql t (.slice A n c) (.slice none 0 0)).run P w = .ok (.bool A.isNone) w := fun w => Lib.run_eql_slice_nil w t e A n c 0 0 h.und
  have hg : ∀ w : World, (eqGuard .eql t x y (.slice A n c) (.slice none 0 0)).run P w = .ok () w := fun w => rfl
  cases A with
  | none => exact fS rfl (fun w _ => by rw [hx, hy]; simp only [Sem.run_bind, hg, Result.andThen_ok, key]; rfl) (kt rfl)
  | some a => exact fS rfl (fun w _ => by rw [hx, hy]; simp only [Sem.run_bind, hg, Result.andThen_ok, key]; rfl) (kf a rfl)
end
/-! ### slicing an owned block; opening a row -/
section
variable {F : Fence} {n : Nat} {P : Program} {w0 : World} {D : List Deferred} {ops : Array Oper} {Q : Exit → Act → World → Prop} {rest : List Oper} {E : List Value} {H : List Hp} {R : List MP} {ty : TypeId} {K : Value → List MP → Prop}
theorem jY {t e : TypeId} {x : Operand} {lo hi : Option Operand} {sz by_ : Nat} {zs : List Value} [ht : TyL P t e sz by_ zs] {b o n c : Nat} {l h : Int} (hx : ev E x = .slice (some ⟨b, o, none⟩) n c) (hl : t4 E 0 lo = some l) (hh : t4 E n hi = some h)
    (h0 : 0 ≤ l) (h1 : l ≤ h) (h2 : h ≤ c) (kk : ∀ o', (h.toNat - l.toNat = 0 ∨ o' = o + l.toNat * sz) → K (.slice (some ⟨b, o', none⟩) (h.toNat - l.toNat) (c - l.toNat)) R) : PW P w0 E (.slice t x lo hi none) ty H R K := by
  refine xH hx hl hh h0 h1 h2 ?_
  by_cases e : c = l.toNat
  · rw [if_pos e]; exact kk o (.inl aO)
  · rw [if_neg e]
    simp only [Option.map_some, Addr.add_mk]
    exact kk _ (.inr rfl)
theorem tQ {c : Code} (i : Nat) {v : Value} {T : TypeId} {size m : Nat} {cs : List Value} (hi : H[i]? = some (.row v T size m cs)) (hm : 0 < m)
    (k : ∀ b cap sp, v = .slice (some ⟨b, 0, none⟩) m cap → (cs ++ sp).length = cap * size → cs.length = m * size → m ≤ cap → cap ≤ maxLen → TC F n P w0 D c Q E (H.set i (.blk b (cs ++ sp) T)) R) : TC F n P w0 D c Q E H R := fun w hs => by
  rcases hs.unrow hi with ⟨_, h0, _⟩ | ⟨b, cap, sp, h1, h2, h3, h4, h5, h6⟩
  · omega
  · exact k b cap sp h1 h2 h3 h4 h5 w h6
theorem T_unrow (i : Nat) {v : Value} {T' : TypeId} {size m : Nat} {cs : List Value} (hi : H[i]? = some (.row v T' size m cs)) (hm : 0 < m)
    (k : ∀ b cap sp, v = .slice (some ⟨b, 0, none⟩) m cap → (cs ++ sp).length = cap * size → cs.length = m * size → m ≤ cap → cap ≤ maxLen → T F n P w0 D ops Q rest E (H.set i (.blk b (cs ++ sp) T')) R) : T F n P w0 D ops Q rest E H R := fun w hs => by
  rcases hs.unrow hi with ⟨_, h0, _⟩ | ⟨b, cap, sp, h1, h2, h3, h4, h5, h6⟩
  · omega
  · exact k b cap sp h1 h2 h3 h4 h5 w h6
/-- An owned row of bytes is made to stay: it reads as a slice. -/
theorem S.row_stays {w : World} {i : Nat} {v : Value} {m : Nat} {xs : List UInt8} (h : S w0 w H R) (hi : H[i]? = some (.row v 5 1 m (bC xs))) : ∃ A c, v = .slice A xs.length c ∧ S w0 w (H.eraseIdx i) (Sl (.slice A xs.length c) xs :: R) := by
  have hml : xs.length = m := by
    obtain ⟨s, hs⟩ := h
    have := (hs.hp _ (List.mem_of_getElem? hi)).1.1
    simpa using this
  rcases h.unrow hi with ⟨rfl, h0, hnil⟩ | ⟨b, cap, sp, rfl, h2, h3, h4, h5, h6⟩
  · have : xs = [] := List.eq_nil_of_length_eq_zero aO
    subst this
    refine ⟨none, 0, rfl, (h.drop i).add _ fun s hR => ⟨none, 0, rfl, ⟨by simp, by simp [eO]⟩, fun h => by simp at h⟩⟩
  · subst hml
    refine ⟨some ⟨b, 0, none⟩, cap, rfl, ?_⟩
    have hlt : i < H.length := (List.getElem?_eq_some_iff.1 hi).1
    have h7 := h6.freeze (i := i) (b := b) (cs := bC xs ++ sp) (T := 5) (by rw [List.getElem?_set_self hlt])
    have e : (H.set i (.blk b (bC xs ++ sp) 5)).eraseIdx i = H.eraseIdx i := by rw [List.eraseIdx_set_eq]
    rw [e] at h7
    have h8 := h7.add (Sl (.slice (some ⟨b, 0, none⟩) xs.length cap) xs) (fun s hR => by
      have hat := hR (At b 0 (bC xs ++ sp)) dB
      refine ⟨_, _, rfl, ⟨h4, by simp only [maxLen] at h5; simp only [eO]; omega⟩, fun _ => ⟨b, 0, rfl, fun k x hk => ⟨[fH x], rfl, fun j v hj => ?_⟩⟩⟩
      have hj0 : j = 0 ∧ v = fH x := by
        cases j with
        | zero => simp at hj; exact ⟨rfl, hj.symm⟩
        | succ j => simp at hj
      obtain ⟨rfl, rfl⟩ := hj0
      have := hat k (fH x) (by
        rw [List.getElem?_append_left (by simp; exact (List.getElem?_eq_some_iff.1 hk).1)]
        simp [bC, hk])
      simpa [Rep.size] using this)
    exact h8.weaken (List.Sublist.refl _) (fun p hp => by
      rcases List.mem_cons.1 hp with rfl | hp
      · simp
      · simp [hp])
end
/-! ### loops by the slots that they turn -/
section
variable {F : Fence} {n : Nat} {P : Program} {w0 : World} {D : List Deferred} {ops : Array Oper} {Q : Exit → Act → World → Prop} {rest : List Oper} {E : List Value} {H : List Hp} {R : List MP}
def eF (E : List Value) (js : List Nat) (j : Nat → Value) : List Value := js.foldl (fun E i => E.set i (j i)) E
def BackS (w0 : World) (D : List Deferred) (E0 : List Value) (js : List Nat) (I : Nat → (Nat → Value) → List Hp → List MP → Prop) (m : Nat) : Act → World → Prop :=
  fun a w => ∃ k, k < m ∧ ∃ j H R, a = jR (eF E0 js j) D ∧ S w0 w H R ∧ I k j H R
theorem cM {c : Code} (js : List Nat) (I : Nat → (Nat → Value) → List Hp → List MP → Prop) (m : Nat) (he : eF E js (fun i => E.getD i undef) = E) (h0 : I m (fun i => E.getD i undef) H R)
    (round : ∀ m j H R, I m j H R → TC F n P w0 D c (Exit.then (BackS w0 D E js I m) Q) (eF E js j) H R) : TC F n P w0 D (.loop c) Q E H R := by
  refine TC_loop (fun m E' H' R' => ∃ j, E' = eF E js j ∧ I m j H' R') m ⟨_, he.symm, h0⟩ ?_
  rintro m E' H' R' ⟨j, rfl, hI⟩
  refine j9 (round m j H' R' hI) ?_
  intro e a w hq
  cases e with
  | normal =>
    obtain ⟨k, hk, j', H2, R2, e1, e2, e3⟩ := hq
    exact ⟨k, hk, eF E js j', H2, R2, e1, e2, j', rfl, e3⟩
  | _ => exact hq
theorem cJ {E0 : List Value} {js : List Nat} {I : Nat → (Nat → Value) → List Hp → List MP → Prop} {m : Nat} (k : Nat) (H' : List Hp) (R' : List MP) (hk : k < m) (hE : eF E0 js (fun i => E.getD i undef) = E) (hI : I k (fun i => E.getD i undef) H' R') (hw : ∀ w, S w0 w H R → S w0 w H' R') :
    En w0 D (Exit.then (BackS w0 D E0 js I m) Q) .normal E H R := fun w hs => ⟨k, hk, _, H', R', by rw [hE], hw w hs, hI⟩
theorem dD {c : Code} {E' : List Value} (h : E = E') (k : TC F n P w0 D c Q E' H R) : TC F n P w0 D c Q E H R := h ▸ k
theorem T_hp {H' : List Hp} (h : H = H') (k : T F n P w0 D ops Q rest E H' R) : T F n P w0 D ops Q rest E H R := h ▸ k
theorem TA_hp {Hc : List Hp} {Rc : List MP} {k : Nat} {listed : Array Bool} {H' : List Hp} (h : H = H') (kk : TA F n P w0 D ops Q Hc Rc k listed E H' R) : TA F n P w0 D ops Q Hc Rc k listed E H R := h ▸ kk
theorem jB {c : Code} {H' : List Hp} (h : H = H') (k : TC F n P w0 D c Q E H' R) : TC F n P w0 D c Q E H R := h ▸ k
theorem eQ {f : FuncId} {args : Array Value} {K : Value → List Hp → List MP → Prop} {p : Prop} (h : ∀ w, S w0 w H R → p) (k : p → CallsK P w0 f args H R K) : CallsK P w0 f args H R K := fun w hs => k (h w hs) w hs
end
end Go.Proofs.YtggdljhmbckpmaaGreat
namespace Go.Proofs.YtggdljhmbckpmaaGreat
open Go Go.RowKit
attribute [local semireducible] T TC En PW GW OW CallsK CallsP Sl Rd Ls At S

/-- How a datum lies in cells: its cells, what is known of them. -/
class Unp (α : Type) [Rep α] where
  Y : Type
  cs : α → Y → List Value
  ok : α → Y → Prop
  fs : α → Y → List MP
  un : ∀ {s : Sto} {cs' : List Value} {x : α}, Rep.rd s cs' x → ∃ y, cs' = cs x y ∧ ok x y ∧ ∀ p ∈ fs x y, p.p s
  re : ∀ {s : Sto} {x : α} {y : Y}, ok x y → (∀ p ∈ fs x y, p.p s) → Rep.rd s (cs x y) x

instance : Unp UInt8 := ⟨Unit, fun c _ => [fH c], fun _ _ => True, fun _ _ => [], fun h => ⟨(), h, trivial, fun _ h => by cases h⟩, fun _ _ => rfl⟩
def dO (n : Int) : Prop := -9223372036854775808 ≤ n ∧ n ≤ 9223372036854775807
instance : Unp Int := ⟨Unit, fun n _ => [.int .i64 n], fun n _ => dO n, fun _ _ => [], fun h => ⟨(), h.1, h.2, fun _ h => by cases h⟩, fun h _ => ⟨rfl, h⟩⟩
instance {α : Type} [Rep α] : Unp (List α) := ⟨Option Addr × Nat, fun xs y => [.slice y.1 xs.length y.2], fun xs y => xs.length ≤ y.2 ∧ y.2 ≤ eO, fun xs y => [Sl (.slice y.1 xs.length y.2) xs],
  fun {s cs' x} h => by
    obtain ⟨v, rfl, A, c, rfl, h2, h3⟩ := h
    refine ⟨(A, c), rfl, h2, fun p hp => ?_⟩
    simp at hp; subst hp
    exact ⟨A, c, rfl, h2, h3⟩,
  fun {s x y} h h' => ⟨_, rfl, h' _ dB⟩⟩

section
variable {F : Fence} {n : Nat} {P : Program} {w0 : World} {D : List Deferred} {ops : Array Oper} {Q : Exit → Act → World → Prop} {rest : List Oper} {E : List Value} {H : List Hp} {R : List MP} {ty : TypeId} {K : Value → List MP → Prop}

/-- 'xs[i]': its place, and what lies there. -/
theorem dZ {α : Type} [Rep α] [Unp α] {t e : TypeId} {x ix : Operand} {agg : Bool} {sz by_ : Nat} {z : Value} [h : TyU P t (.slice e)] [he : Ty P e agg sz by_ z] {v : Value} {xs : List α} {k : IntKind} {i : Int} {d : α} (hx : ev E x = v) (hix : ev E ix = .int k i) (hm : Sl v xs ∈ R) (hsz : Rep.size α = sz) (hd : xs[i.toNat]? = some d) (h0 : 0 ≤ i)
    (kk : ∀ b o (y : Unp.Y α), Unp.ok d y → K (.pointer (some ⟨b, o, none⟩)) (At b o (Unp.cs d y) :: (Unp.fs d y ++ R))) : PW P w0 E (.indexAddr t x ix) ty H R K := fun w s hs => by
  obtain ⟨i, rfl⟩ := Int.eq_ofNat_of_zero_le h0
  have hl : i < xs.length := (List.getElem?_eq_some_iff.1 hd).1
  obtain ⟨b, o, c, cs, e1, hcl, hs'⟩ := sl_at hs.rd hm i d hd
  have hr : Rep.rd s cs d := hs' (Rd cs d) dB
  obtain ⟨y, rfl, hok, hf⟩ := Unp.un hr
  refine ⟨.pointer (some ⟨b, o + i * sz, none⟩), _, fun w' _ => ?_, ?_, ?_, by rw [← hsz]; exact kk b (o + i * Rep.size α) y hok⟩
  · simp only [nG, execOp, hx, hix, e1, Sem.run_bind]
    rw [pG (P := P) (t := t) b o xs.length c k i hl w']
    rfl
  · intro p hp; simp [hp]
  · intro p hp
    rcases List.mem_cons.1 hp with rfl | hp
    · exact hs' _ dB
    · rcases List.mem_append.1 hp with hp | hp
      · exact hf p hp
      · exact hs.rd p hp
theorem fT {t e : TypeId} {x ix : Operand} {agg : Bool} {by_ : Nat} {z : Value} [h : TyU P t (.slice e)] [he : Ty P e agg 1 by_ z] {v : Value} {xs : List UInt8} {k : IntKind} {i : Int} {d : UInt8} (hx : ev E x = v) (hix : ev E ix = .int k i) (hm : Sl v xs ∈ R) (hd : xs[i.toNat]? = some d) (h0 : 0 ≤ i)
    (kk : ∀ b o, K (.pointer (some ⟨b, o, none⟩)) (At b o [fH d] :: R)) : PW P w0 E (.indexAddr t x ix) ty H R K := dZ hx hix hm rfl hd h0 (fun b o y _ => kk b o)
theorem uC {t e : TypeId} {x ix : Operand} {agg : Bool} {by_ : Nat} {z : Value} [h : TyU P t (.slice e)] [he : Ty P e agg 1 by_ z] {v : Value} {xs : List Int} {k : IntKind} {i : Int} {d : Int} (hx : ev E x = v) (hix : ev E ix = .int k i) (hm : Sl v xs ∈ R) (hd : xs[i.toNat]? = some d) (h0 : 0 ≤ i)
    (kk : ∀ b o, dO d → K (.pointer (some ⟨b, o, none⟩)) (At b o [.int .i64 d] :: R)) : PW P w0 E (.indexAddr t x ix) ty H R K := dZ hx hix hm rfl hd h0 (fun b o y hy => kk b o hy)

/-- Into an owned block: 'xs[i]'s place. -/
theorem tX {t e : TypeId} {x ix : Operand} {agg : Bool} {sz by_ : Nat} {z : Value} [h : TyU P t (.slice e)] [he : Ty P e agg sz by_ z] {b o n c : Nat} {k : IntKind} {i : Int} (hx : ev E x = .slice (some ⟨b, o, none⟩) n c) (hix : ev E ix = .int k i) (h0 : 0 ≤ i) (h1 : i < n)
    (kk : K (.pointer (some ⟨b, o + i.toNat * sz, none⟩)) R) : PW P w0 E (.indexAddr t x ix) ty H R K := wO hx hix h0 h1 kk

theorem hJ {s d : TypeId} {x : Operand} {ds : TypeDesc} {c : UInt8} [hs : TyU P s ds] [hd : TyU P d (.int .u32)] (hx : ev E x = fH c) (kk : K (.int .u32 ((c.toNat : Nat) : Int)) R) : PW P w0 E (.convert s d x) ty H R K :=
  lN (hs := hs) (hd := hd) hx rfl (by
    have := c.toNat_lt
    rw [Nat.mod_eq_of_lt (by simp [IntKind.bits]; omega)]; exact kk)
end

/-! ### drives -/
structure DW where
  at_ : Int
  data : List UInt8
structure DO where
  kind : Int
  at_ : Int
  data : List UInt8
structure RecD where
  at_ : Int
  epoch : Int
  seq : Int
  len : Int
structure Drive where
  bytes : List UInt8
  pending : List DW
instance : Rep DW where
  size := 2
  rd s cs x := ∃ A c, cs = [.int .i64 x.at_, .slice A x.data.length c] ∧ dO x.at_ ∧ (Sl (.slice A x.data.length c) x.data).p s
  mono h hp := by obtain ⟨A, c, e, k, l⟩ := hp; exact ⟨A, c, e, k, (Sl _ _).mono _ _ h l⟩
  len hp := by obtain ⟨A, c, rfl, k⟩ := hp; rfl
  one hp := by obtain ⟨A, c, rfl, k⟩ := hp; simp [Value.oneCell']
theorem wA {α : Type} [Rep α] {s : Sto} {A : Option Addr} {n c : Nat} {xs : List α} (h : (Sl (.slice A n c) xs).p s) : n ≤ 9223372036854775807 := by
  obtain ⟨A', c', e, ⟨h1, h2⟩, _⟩ := h
  injection e with _ e2 e3
  simp only [eO] at h2; omega
instance : Unp DW := ⟨Option Addr × Nat, fun x y => [.int .i64 x.at_, .slice y.1 x.data.length y.2], fun x _ => dO x.at_ ∧ x.data.length ≤ 9223372036854775807, fun x y => [Sl (.slice y.1 x.data.length y.2) x.data],
  fun {s cs' x} h => by
    obtain ⟨A, c, rfl, h2, h3⟩ := h
    exact ⟨(A, c), rfl, ⟨h2, wA h3⟩, fun p hp => by simp at hp; subst hp; exact h3⟩,
  fun {s x y} h h' => ⟨y.1, y.2, rfl, h.1, h' _ dB⟩⟩
instance : Rep DO where
  size := 3
  rd s cs x := ∃ A c, cs = [.int .i64 x.kind, .int .i64 x.at_, .slice A x.data.length c] ∧ (dO x.kind ∧ dO x.at_) ∧ (Sl (.slice A x.data.length c) x.data).p s
  mono h hp := by obtain ⟨A, c, e, k, l⟩ := hp; exact ⟨A, c, e, k, (Sl _ _).mono _ _ h l⟩
  len hp := by obtain ⟨A, c, rfl, k⟩ := hp; rfl
  one hp := by obtain ⟨A, c, rfl, k⟩ := hp; simp [Value.oneCell']
instance : Unp DO := ⟨Option Addr × Nat, fun x y => [.int .i64 x.kind, .int .i64 x.at_, .slice y.1 x.data.length y.2], fun x _ => dO x.kind ∧ dO x.at_ ∧ x.data.length ≤ 9223372036854775807, fun x y => [Sl (.slice y.1 x.data.length y.2) x.data],
  fun {s cs' x} h => by
    obtain ⟨A, c, rfl, h2, h3⟩ := h
    exact ⟨(A, c), rfl, ⟨h2.1, h2.2, wA h3⟩, fun p hp => by simp at hp; subst hp; exact h3⟩,
  fun {s x y} h h' => ⟨y.1, y.2, rfl, ⟨h.1, h.2.1⟩, h' _ dB⟩⟩
instance : Rep RecD where
  size := 4
  rd s cs x := cs = [.int .i64 x.at_, .int .i64 x.epoch, .int .i64 x.seq, .int .i64 x.len] ∧ dO x.at_ ∧ dO x.epoch ∧ dO x.seq ∧ dO x.len
  mono h hp := hp
  len hp := by obtain ⟨rfl, k⟩ := hp; rfl
  one hp := by obtain ⟨rfl, k⟩ := hp; simp [Value.oneCell']
instance : Unp RecD := ⟨Unit, fun x _ => [.int .i64 x.at_, .int .i64 x.epoch, .int .i64 x.seq, .int .i64 x.len], fun x _ => dO x.at_ ∧ dO x.epoch ∧ dO x.seq ∧ dO x.len, fun _ _ => [],
  fun h => ⟨(), h.1, h.2, fun _ h => by cases h⟩, fun h _ => ⟨rfl, h⟩⟩

section
variable {P : Program} {w0 : World} {E : List Value} {H : List Hp} {R : List MP} {ty : TypeId} {K : Value → List MP → Prop}
theorem tS {t e : TypeId} {x ix : Operand} {agg : Bool} {by_ : Nat} {z : Value} [h : TyU P t (.slice e)] [he : Ty P e agg 2 by_ z] {v : Value} {xs : List DW} {k : IntKind} {i : Int} {d : DW} (hx : ev E x = v) (hix : ev E ix = .int k i) (hm : Sl v xs ∈ R) (hd : xs[i.toNat]? = some d) (h0 : 0 ≤ i)
    (kk : ∀ b o A c, dO d.at_ → d.data.length ≤ 9223372036854775807 → K (.pointer (some ⟨b, o, none⟩)) (At b o [.int .i64 d.at_, .slice A d.data.length c] :: Sl (.slice A d.data.length c) d.data :: R)) : PW P w0 E (.indexAddr t x ix) ty H R K := dZ hx hix hm rfl hd h0 (fun b o (y : Option Addr × Nat) (hy : dO d.at_ ∧ d.data.length ≤ 9223372036854775807) => kk b o y.1 y.2 hy.1 hy.2)
theorem mG {t e : TypeId} {x ix : Operand} {agg : Bool} {by_ : Nat} {z : Value} [h : TyU P t (.slice e)] [he : Ty P e agg 3 by_ z] {v : Value} {xs : List DO} {k : IntKind} {i : Int} {d : DO} (hx : ev E x = v) (hix : ev E ix = .int k i) (hm : Sl v xs ∈ R) (hd : xs[i.toNat]? = some d) (h0 : 0 ≤ i)
    (kk : ∀ b o A c, dO d.kind → dO d.at_ → d.data.length ≤ 9223372036854775807 → K (.pointer (some ⟨b, o, none⟩)) (At b o [.int .i64 d.kind, .int .i64 d.at_, .slice A d.data.length c] :: Sl (.slice A d.data.length c) d.data :: R)) : PW P w0 E (.indexAddr t x ix) ty H R K := dZ hx hix hm rfl hd h0 (fun b o (y : Option Addr × Nat) (hy : dO d.kind ∧ dO d.at_ ∧ d.data.length ≤ 9223372036854775807) => kk b o y.1 y.2 hy.1 hy.2.1 hy.2.2)
theorem tN {t e : TypeId} {x ix : Operand} {agg : Bool} {by_ : Nat} {z : Value} [h : TyU P t (.slice e)] [he : Ty P e agg 4 by_ z] {v : Value} {xs : List RecD} {k : IntKind} {i : Int} {d : RecD} (hx : ev E x = v) (hix : ev E ix = .int k i) (hm : Sl v xs ∈ R) (hd : xs[i.toNat]? = some d) (h0 : 0 ≤ i)
    (kk : ∀ b o, dO d.at_ ∧ dO d.epoch ∧ dO d.seq ∧ dO d.len → K (.pointer (some ⟨b, o, none⟩)) (At b o [.int .i64 d.at_, .int .i64 d.epoch, .int .i64 d.seq, .int .i64 d.len] :: R)) : PW P w0 E (.indexAddr t x ix) ty H R K := dZ hx hix hm rfl hd h0 (fun b o y hy => kk b o hy)
theorem iQ {t e : TypeId} {x ix : Operand} {agg : Bool} {by_ : Nat} {z : Value} [h : TyU P t (.slice e)] [he : Ty P e agg 1 by_ z] {v : Value} {xs : List UInt8} {k : IntKind} {i : Nat} {d : UInt8} (hx : ev E x = v) (hix : ev E ix = .int k (i : Int)) (hm : Sl v xs ∈ R) (hd : xs[i]? = some d)
    (kk : ∀ b o, K (.pointer (some ⟨b, o, none⟩)) (At b o [fH d] :: R)) : PW P w0 E (.indexAddr t x ix) ty H R K := fT hx hix hm (by simpa using hd) aO kk
theorem iP {t e : TypeId} {x ix : Operand} {agg : Bool} {by_ : Nat} {z : Value} [h : TyU P t (.slice e)] [he : Ty P e agg 1 by_ z] {v : Value} {xs : List Int} {k : IntKind} {i : Nat} {d : Int} (hx : ev E x = v) (hix : ev E ix = .int k (i : Int)) (hm : Sl v xs ∈ R) (hd : xs[i]? = some d)
    (kk : ∀ b o, dO d → K (.pointer (some ⟨b, o, none⟩)) (At b o [.int .i64 d] :: R)) : PW P w0 E (.indexAddr t x ix) ty H R K := uC hx hix hm (by simpa using hd) aO kk
theorem iB {t e : TypeId} {x ix : Operand} {agg : Bool} {by_ : Nat} {z : Value} [h : TyU P t (.slice e)] [he : Ty P e agg 2 by_ z] {v : Value} {xs : List DW} {k : IntKind} {i : Nat} {d : DW} (hx : ev E x = v) (hix : ev E ix = .int k (i : Int)) (hm : Sl v xs ∈ R) (hd : xs[i]? = some d)
    (kk : ∀ b o A c, dO d.at_ → d.data.length ≤ 9223372036854775807 → K (.pointer (some ⟨b, o, none⟩)) (At b o [.int .i64 d.at_, .slice A d.data.length c] :: Sl (.slice A d.data.length c) d.data :: R)) : PW P w0 E (.indexAddr t x ix) ty H R K := tS hx hix hm (by simpa using hd) aO kk
theorem gX {t e : TypeId} {x ix : Operand} {agg : Bool} {by_ : Nat} {z : Value} [h : TyU P t (.slice e)] [he : Ty P e agg 3 by_ z] {v : Value} {xs : List DO} {k : IntKind} {i : Nat} {d : DO} (hx : ev E x = v) (hix : ev E ix = .int k (i : Int)) (hm : Sl v xs ∈ R) (hd : xs[i]? = some d)
    (kk : ∀ b o A c, dO d.kind → dO d.at_ → d.data.length ≤ 9223372036854775807 → K (.pointer (some ⟨b, o, none⟩)) (At b o [.int .i64 d.kind, .int .i64 d.at_, .slice A d.data.length c] :: Sl (.slice A d.data.length c) d.data :: R)) : PW P w0 E (.indexAddr t x ix) ty H R K := mG hx hix hm (by simpa using hd) aO kk
theorem rZ {t e : TypeId} {x ix : Operand} {agg : Bool} {by_ : Nat} {z : Value} [h : TyU P t (.slice e)] [he : Ty P e agg 4 by_ z] {v : Value} {xs : List RecD} {k : IntKind} {i : Nat} {d : RecD} (hx : ev E x = v) (hix : ev E ix = .int k (i : Int)) (hm : Sl v xs ∈ R) (hd : xs[i]? = some d)
    (kk : ∀ b o, dO d.at_ ∧ dO d.epoch ∧ dO d.seq ∧ dO d.len → K (.pointer (some ⟨b, o, none⟩)) (At b o [.int .i64 d.at_, .int .i64 d.epoch, .int .i64 d.seq, .int .i64 d.len] :: R)) : PW P w0 E (.indexAddr t x ix) ty H R K := tN hx hix hm (by simpa using hd) aO kk
end
end Go.Proofs.YtggdljhmbckpmaaGreat
