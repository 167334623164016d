/- Joins that other exits pass by. Decode: numbers, lengths, truths, texts read: walks. Decode: truths, texts, some numbers read: walks. Decode: numbers read into places: walk. -/
import Derived.Test.YtggdljhmbckpmaaGreatAN
import Derived.Test.YtggdljhmbckpmaaGreatDA
import Derived.Test.YtggdljhmbckpmaaGreatEB
set_option linter.unusedVariables false
set_option linter.unusedSimpArgs false
namespace Go.Proofs.YtggdljhmbckpmaaGreat
open Go Go.RowKit
attribute [local semireducible] T TC En PW GW OW CallsK CallsP Sl Rd Ls At S TA
section
variable {F : Fence} {n : Nat} {P : Program} {w0 : World} {D : List Deferred} {ops : Array Oper} {Q : Exit → Act → World → Prop} {rest : List Oper} {E : List Value} {H : List Hp} {R : List MP}
def s8 (Q : Exit → Act → World → Prop) (w0 : World) (D : List Deferred) (E0 : List Value) (js : List Nat) (M : (Nat → Value) → List Hp → List MP → Prop) : Exit → Act → World → Prop :=
  fun e a w => match e with
  | .normal => ∃ j H R, a = iK (dX E0 js j) D ∧ S w0 w H R ∧ M j H R
  | e => Q e a w
theorem iZ {x y : Code} (js : List Nat) (M : (Nat → Value) → List Hp → List MP → Prop) (h1 : TC F n P w0 D x (s8 Q w0 D E js M) E H R) (h2 : ∀ j H R, M j H R → TC F n P w0 D y Q (dX E js j) H R) : TC F n P w0 D (.seq x y) Q E H R := fun w hs =>
  wpIn_seq (wpIn_mono (h1 w hs) (fun e a w' he => by
    cases e with
    | normal =>
      obtain ⟨j, H', R', e1, e2, e3⟩ := he
      subst e1
      exact h2 j H' R' e3 w' e2
    | _ => exact he))
theorem fM {E0 : List Value} {js : List Nat} {M : (Nat → Value) → List Hp → List MP → Prop} (H' : List Hp) (R' : List MP) (hE : dX E0 js (fun i => E.getD i undef) = E) (hM : M (fun i => E.getD i undef) H' R') (hw : ∀ w, S w0 w H R → S w0 w H' R') : En w0 D (s8 Q w0 D E0 js M) .normal E H R := fun w hs =>
  ⟨_, H', R', by rw [hE], hw w hs, hM⟩
theorem sB {E0 : List Value} {js : List Nat} {M : (Nat → Value) → List Hp → List MP → Prop} {ch : List PanicEntry} (h : En w0 D Q (.panic ch) E H R) : En w0 D (s8 Q w0 D E0 js M) (.panic ch) E H R := h
theorem uS {E0 : List Value} {js : List Nat} {M : (Nat → Value) → List Hp → List MP → Prop} (h : En w0 D Q .ret E H R) : En w0 D (s8 Q w0 D E0 js M) .ret E H R := h
theorem eO {e : Exit} {p : Prop} (h : ∀ w, S w0 w H R → p) (k : p → En w0 D Q e E H R) : En w0 D Q e E H R := fun w hs => k (h w hs) w hs
end
section
variable {P : Program} {w0 : World} {E : List Value} {H : List Hp} {R : List MP} {ty : TypeId} {K : Value → List Hp → List MP → Prop}
theorem eW {t e : TypeId} {x : Operand} {sz by_ : Nat} {zs cs : List Value} [h : TyL P t e sz by_ zs] (hsz : sz ≤ 1000) (hx : (ev E x).cells = cs.toArray) (hl : cs.length = sz) (kk : ∀ b, K (.slice (some ⟨b, 0, none⟩) 1 1) (.blk b cs e :: H) R) : GW P w0 E (.buildSlice t 1 #[(0, x)]) ty H R K :=
  bH (by omega) (by simp [jA, hx, hl]) rfl kk
end
end Go.Proofs.YtggdljhmbckpmaaGreat
namespace Go.Proofs.YtggdljhmbckpmaaGreat
open Go Go.RowKit
set_option maxRecDepth 100000
set_option maxHeartbeats 1600000

/-- A call that reads as 'd' does, from m on; 'val': how it hands back what it read. -/
def Rr (P : Program) (w0 : World) (f : FuncId) (args : List Value) (br : Nat) (A : Option Addr) (c : Nat) (xs : List UInt8) (m : Nat) {α : Type} [Rep α] [Unp α] (d : Dc α) (val : α → Unp.Y α → Value) : Prop :=
  ∀ (H : List Hp) (R : List MP) (K : Value → List Hp → List MP → Prop) (KP : List PanicEntry → List Hp → List MP → Prop) (a : Nat), m ≤ a → a ≤ xs.length → Sl (.slice A xs.length c) xs ∈ R →
    (∀ x a' (y : Unp.Y α), d a = .ok (x, a') → a ≤ a' → a' ≤ xs.length → Unp.ok x y → K (val x y) (.blk br [.slice A xs.length c, .int .i64 (a' : Int)] 100 :: H) (Unp.fs x y ++ R)) →
    (∀ e : Nat, d a = .error e → KP (rf e) H R) →
    CallsP P w0 f args.toArray (.blk br [.slice A xs.length c, .int .i64 (a : Int)] 100 :: H) R K KP
section
variable {F : Fence} {n : Nat} {P : Program} {w0 : World} {D : List Deferred} {ops : Array Oper} {Q : Exit → Act → World → Prop} {rest : List Oper} {E : List Value} {H : List Hp} {R : List MP}
theorem sF [Wd F] {dst : Option Tmp} {f : FuncId} {l : List Operand} {at_ : Array TypeId} {ty : TypeId} {pos : String} {aft : Array Edge} {g : Option (Nat × Bool)} {args : List Value} {br : Nat} {A : Option Addr} {c : Nat} {xs : List UInt8} {m a : Nat} {α : Type} [Rep α] [Unp α] {d : Dc α} {val : α → Unp.Y α → Value}
    (hw : Region.wanted ⟨dst, .call ⟨.value (.func f), l.toArray, at_⟩, ty, pos, aft, g⟩ (yielded ops E.toArray) = true) (hA : l.map (ev E) = args) [FnOk P f] (h : Rr P w0 f args br A c xs m d val) (hma : m ≤ a) (hax : a ≤ xs.length) (hm : Sl (.slice A xs.length c) xs ∈ R)
    (hk : ∀ x a' (y : Unp.Y α), d a = .ok (x, a') → a ≤ a' → a' ≤ xs.length → Unp.ok x y → T F n P w0 D ops Q rest (dP E dst (val x y)) (.blk br [.slice A xs.length c, .int .i64 (a' : Int)] 100 :: H) (Unp.fs x y ++ R))
    (hp : ∀ e : Nat, d a = .error e → En w0 D Q (.panic (rf e)) E H R) : T F n P w0 D ops Q (⟨dst, .call ⟨.value (.func f), l.toArray, at_⟩, ty, pos, aft, g⟩ :: rest) E (.blk br [.slice A xs.length c, .int .i64 (a : Int)] 100 :: H) R :=
  dS hw (iD (KP := fun ch H' R' => ∃ e : Nat, ch = rf e ∧ H' = H ∧ R' = R ∧ d a = .error e) hA (h H R _ _ a hma hax hm hk (fun e he => ⟨e, rfl, rfl, rfl, he⟩)) (by rintro ch H' R' ⟨e, rfl, rfl, rfl, he⟩; exact hp e he))
theorem nQ [Wd F] {dst : Option Tmp} {fo : Operand} {f : FuncId} {l : List Operand} {at_ : Array TypeId} {ty : TypeId} {pos : String} {aft : Array Edge} {g : Option (Nat × Bool)} {args L1 L2 : List Value} {br : Nat} {A : Option Addr} {c : Nat} {xs : List UInt8} {m a : Nat} {α : Type} [Rep α] [Unp α] {d : Dc α} {val : α → Unp.Y α → Value}
    (hw : Region.wanted ⟨dst, .call ⟨.value fo, l.toArray, at_⟩, ty, pos, aft, g⟩ (yielded ops E.toArray) = true) (hf : ev E fo = .func (.func f) L1.toArray L2.toArray) (hA : L1 ++ l.map (ev E) ++ L2 = args) [FnOk P f] (h : Rr P w0 f args br A c xs m d val) (hma : m ≤ a) (hax : a ≤ xs.length) (hm : Sl (.slice A xs.length c) xs ∈ R)
    (hk : ∀ x a' (y : Unp.Y α), d a = .ok (x, a') → a ≤ a' → a' ≤ xs.length → Unp.ok x y → T F n P w0 D ops Q rest (dP E dst (val x y)) (.blk br [.slice A xs.length c, .int .i64 (a' : Int)] 100 :: H) (Unp.fs x y ++ R))
    (hp : ∀ e : Nat, d a = .error e → En w0 D Q (.panic (rf e)) E H R) : T F n P w0 D ops Q (⟨dst, .call ⟨.value fo, l.toArray, at_⟩, ty, pos, aft, g⟩ :: rest) E (.blk br [.slice A xs.length c, .int .i64 (a : Int)] 100 :: H) R :=
  dS hw (sS (KP := fun ch H' R' => ∃ e : Nat, ch = rf e ∧ H' = H ∧ R' = R ∧ d a = .error e) hf hA (h H R _ _ a hma hax hm hk (fun e he => ⟨e, rfl, rfl, rfl, he⟩)) (by rintro ch H' R' ⟨e, rfl, rfl, rfl, he⟩; exact hp e he))
end
section
variable {F : Fence} {n : Nat} {w0 : World} {D : List Deferred} {ops : Array Oper} {Q : Exit → Act → World → Prop} {rest : List Oper} {E : List Value} {H : List Hp} {R : List MP}
theorem q5 [Wd F] {dst : Option Tmp} {l : List Operand} {at_ : Array TypeId} {ty : TypeId} {pos : String} {aft : Array Edge} {g : Option (Nat × Bool)} {br : Nat} {A : Option Addr} {c : Nat} {xs : List UInt8} {a : Nat}
    (hw : Region.wanted ⟨dst, .call ⟨.value (.func 37), l.toArray, at_⟩, ty, pos, aft, g⟩ (yielded ops E.toArray) = true) (hA : l.map (ev E) = [.pointer (some ⟨br, 0, none⟩)]) (hx : xs.length ≤ 250000) (hax : a ≤ xs.length) (hm : Sl (.slice A xs.length c) xs ∈ R)
    (hk : ∀ ch, xs[a]? = some ch → a + 1 ≤ xs.length → T F n Tryz.prog w0 D ops Q rest (dP E dst (eP ch)) (.blk br [.slice A xs.length c, .int .i64 ((a + 1 : Nat) : Int)] 100 :: H) R)
    (hp : xs[a]? = none → En w0 D Q (.panic (rf xs.length)) E H R) : T F n Tryz.prog w0 D ops Q (⟨dst, .call ⟨.value (.func 37), l.toArray, at_⟩, ty, pos, aft, g⟩ :: rest) E (.blk br [.slice A xs.length c, .int .i64 (a : Int)] 100 :: H) R :=
  dS hw (iD (KP := fun ch H' R' => ch = rf xs.length ∧ H' = H ∧ R' = R ∧ xs[a]? = none) hA (rH br A c xs a (by omega) hax hm (fun h => hk _ (List.getElem?_eq_getElem h) h) (fun h => ⟨rfl, rfl, rfl, List.getElem?_eq_none h⟩)) (by rintro ch H' R' ⟨rfl, rfl, rfl, he⟩; exact hp he))
theorem oE [Wd F] {dst : Option Tmp} {l : List Operand} {at_ : Array TypeId} {ty : TypeId} {pos : String} {aft : Array Edge} {g : Option (Nat × Bool)} {br : Nat} {v : Value} {a : Nat}
    (hw : Region.wanted ⟨dst, .call ⟨.value (.func 38), l.toArray, at_⟩, ty, pos, aft, g⟩ (yielded ops E.toArray) = true) (hA : l.map (ev E) = [.pointer (some ⟨br, 0, none⟩)]) (ha : 1 ≤ a) (hb : a ≤ 250000)
    (hp : En w0 D Q (.panic (rf ((a - 1 : Nat) : Int))) E H R) : T F n Tryz.prog w0 D ops Q (⟨dst, .call ⟨.value (.func 38), l.toArray, at_⟩, ty, pos, aft, g⟩ :: rest) E (.blk br [v, .int .i64 (a : Int)] 100 :: H) R :=
  dS hw (iD (KP := fun ch H' R' => ch = rf ((a - 1 : Nat) : Int) ∧ H' = H ∧ R' = R) hA (p4 br v a (by omega) (by omega) ⟨by rw [show ((a - 1 : Nat) : Int) = (a : Int) - 1 by omega], rfl, rfl⟩) (by rintro ch H' R' ⟨rfl, rfl, rfl⟩; exact hp))
end
section
variable {P : Program} {w0 : World} {E : List Value} {H : List Hp} {R : List MP} {ty : TypeId} {K : Value → List MP → Prop}
theorem not_nat (x : Nat) (hx : x < 9223372036854775808) : (BitVec.ofInt 64 (-1) ^^^ BitVec.ofInt 64 (x : Int)).toNat = 18446744073709551615 - x := by
  have h1 : BitVec.ofInt 64 (-1) = BitVec.allOnes 64 := by decide
  have h2 : BitVec.ofInt 64 (x : Int) = BitVec.ofNat 64 x := by simp
  rw [h1, h2, ← BitVec.not_def, BitVec.toNat_not, BitVec.toNat_ofNat, Nat.mod_eq_of_lt (by omega)]
theorem pw_noti {t : TypeId} {x : Operand} {a : Nat} (hx : ev E x = .int .i64 (a : Int)) (ha : a < 9223372036854775808) (kk : K (.int .i64 (-(a : Int) - 1)) R) : PW P w0 E (.unOp .xor t x) ty H R K :=
  eV rfl (fun w _ => by
    rw [hx]
    have e : IntKind.i64.wrap ((18446744073709551615 - a : Nat) : Int) = -(a : Int) - 1 := by simp [IntKind.wrap, IntKind.bits, IntKind.signed]; omega
    have e2 := not_nat a ha
    simp only [Op.unary, IntKind.signed, if_true, Op.intBits, ne_eq, not_true_eq_false, if_false, Sem.run_pure, BitVec.toNat_xor]
    show Result.ok (Value.int .i64 (IntKind.i64.wrap ((BitVec.ofInt 64 (-1) ^^^ BitVec.ofInt 64 (a : Int)).toNat : Int))) w = _
    rw [e2, e]) kk
end
theorem xM (u c i : Nat) (hi : i ≤ 9) (hu : u < 128 ^ i) (hc : c < 256) (hl : i = 9 → c ≤ 1) : (u ||| (c &&& 127) % 2 ^ IntKind.bits .u64 * 2 ^ (7 * i) % 2 ^ IntKind.bits .u64) = u + c % 128 * 128 ^ i := by
  have e1 : c &&& 127 = c % 128 := Nat.and_two_pow_sub_one_eq_mod c 7
  have e2 : 2 ^ (7 * i) = 128 ^ i := by rw [Nat.pow_mul]
  have hpos : 0 < 128 ^ i := Nat.pow_pos (by decide)
  have hb : c % 128 * 128 ^ i < 2 ^ 64 := by
    rcases Nat.lt_or_ge i 9 with h | h
    · have h1 : 128 ^ i ≤ 128 ^ 8 := Nat.pow_le_pow_right (by decide) (by omega)
      have h2 : c % 128 * 128 ^ i ≤ 127 * 128 ^ 8 := Nat.mul_le_mul (by omega) h1
      omega
    · obtain rfl : i = 9 := by omega
      have := hl rfl
      have h2 : c % 128 * 128 ^ 9 ≤ 1 * 128 ^ 9 := Nat.mul_le_mul_right _ (by omega)
      omega
  rw [e1, e2, Nat.mod_eq_of_lt (a := c % 128) (by simp only [IntKind.bits]; omega), Nat.mod_eq_of_lt (by simpa only [IntKind.bits] using hb)]
  have := Nat.two_pow_add_eq_or_of_lt (i := 7 * i) (b := u) (by rw [e2]; exact hu) (c % 128)
  rw [e2] at this
  rw [Nat.or_comm, Nat.mul_comm (c % 128), ← this, Nat.add_comm]

theorem nY {u : Nat} (h : ¬ u % 2 = 1) : kM u = ((u / 2 ^ 1 : Nat) : Int) := by unfold kM; rw [if_neg h]
theorem pQ {u : Nat} (h : u % 2 = 1) : kM u = -((u / 2 ^ 1 : Nat) : Int) - 1 := by unfold kM; rw [if_pos h]
theorem m7 {xs : List UInt8} {m i u a : Nat} {ch : UInt8} (hch : xs[a]? = some ch) (h : (m = 0 ∧ 1 < ch.toNat) ∨ (0 < i ∧ ch.toNat = 0)) : gU xs m i u a = .error (a + 1 - 1) := by
  cases m with
  | zero => unfold gU; rw [hch]; simp only; rw [if_pos (by omega)]; rfl
  | succ m => unfold gU; rw [hch]; simp only; rw [if_pos (by omega)]; rfl
theorem rP {w0 : World} (br : Nat) (A : Option Addr) (c : Nat) (xs : List UInt8) (hx : xs.length ≤ 250000) : Rr Tryz.prog w0 133 [.pointer (some ⟨br, 0, none⟩)] br A c xs 0 (eH xs) (fun n _ => .int .i64 n) := by
  intro H R K KP a _ hax hm hk hp
  refine cP Tryz.func133 rfl Tryz.ntmps133 eZ ?_
  repeat' (first | (apply aF) | (apply aA) | (apply aT) | (apply aG) | (apply aD) | (refine aE rfl rfl ?_; ((refine aX ?_)); refine aB ?_))
  refine cK [3, 4, 5, 7, 8, 9, 10, 11, 12, 13, 14, 15, 16, 17, 18, 19, 20, 21, 22, 23, 24, 25, 26, 27, 28, 29, 30, 31, 32, 33, 34, 35, 36, 37] (fun m j H2 R2 => ∃ (i u a' : Nat), i + m = 9 ∧ j 3 = .int .u64 (u : Int) ∧ j 4 = .int .i64 ((7 * i : Nat) : Int) ∧ R2 = R ∧ H2 = .blk br [.slice A xs.length c, .int .i64 (a' : Int)] 100 :: H ∧ a ≤ a' ∧ a' ≤ xs.length ∧ u < 128 ^ i ∧ gU xs m i u a' = gU xs 9 0 0 a) 9 eE ⟨0, 0, a, rfl, rfl, rfl, rfl, rfl, Nat.le_refl _, hax, by decide, rfl⟩ ?_
  rintro m j' H2 R2 ⟨i, u, a', him, h3, h4, hR2, hH2, haa, ha', hu, hg⟩
  subst hR2 hH2
  refine cQ (by simp only [dX, List.foldl_cons, List.foldl_nil, List.set_cons_succ, List.set_cons_zero, h3, h4]; rfl) ?_
  have HU := Go.Lib.hid hu
  have HG := Go.Lib.hid hg
  clear hu hg
  repeat' (first | (apply aF) | (apply aA) | (apply aT) | (refine aE rfl rfl ?_; ((first | refine aH ?_ | refine aW rfl ?_ | refine aC rfl ?_)); refine aB ?_))
  refine q5 rfl rfl hx ha' hm (fun ch hch hlt => ?_) (fun hno => ?_)
  rotate_left
  · skip
    repeat' (first | (apply aL) | (apply bY))
    refine aN (cH H R2 (fun w hs => hs.weaken bU cZ) (hp _ ?_))
    have hg := HG.out
    have : gU xs m i u a' = .error xs.length := by cases m <;> (unfold gU; rw [hno])
    unfold eH
    rw [← hg, this]
  refine aB ?_
  have hc := ch.toNat_lt
  have HC := Go.Lib.hid hch
  clear hch
  repeat' ((refine aE rfl rfl ?_; ((refine aX ?_)); refine aB ?_))
  apply aG; apply aD
  refine iZ [13, 14, 15, 16, 17, 18, 19, 20, 21, 22, 23, 24, 25, 26, 27, 28] (fun j H' R' => H' = .blk br [.slice A xs.length c, .int .i64 ((a' + 1 : Nat) : Int)] 100 :: H ∧ R' = R2 ∧ (i = 9 → ch.toNat ≤ 1) ∧ (0 < i → ch.toNat ≠ 0)) ?_ ?_
  · skip
    repeat' (first | (refine aU rfl ?_; ((first | refine fS (k := .u8) (a := (ch.toNat : Int)) (b := 0) rfl rfl (fun h => ?_) (fun h => ?_) | refine fF (k := .u8) (a := (ch.toNat : Int)) (b := 1) rfl rfl (fun h => ?_) (fun h => ?_))) <;> refine aB ?_) | (apply aF) | (apply aA) | (apply bE) | (apply aK; exact rfl) | (apply aI; exact rfl) | (apply aG) | (apply aD) | (apply aU; exact rfl; ((first | refine fF rfl rfl (fun h => ?_) (fun h => ?_) | refine fS rfl rfl (fun h => ?_) (fun h => ?_))) <;> (first | (exfalso; omega) | refine aB ?_)) | (refine aE rfl rfl ?_; ((first | refine aH ?_ | refine bT rfl eJ ?_ | refine cI rfl eJ ?_)); refine aB ?_) | (refine cR rfl ?_; refine aB ?_))
    all_goals try exact fM _ _ eE ⟨rfl, rfl, by omega, by omega⟩ (fun w hs => hs)
    all_goals refine oE rfl rfl (by omega) (by omega) ?_
    all_goals repeat' (first | apply aL | apply sB | apply bY)
    all_goals refine aN (cH H R2 (fun w hs => hs.weaken bU cZ) (hp _ ?_))
    all_goals have hg := HG.out
    all_goals have hch := HC.out
    all_goals unfold eH; rw [← hg, m7 hch (by omega)]
  rintro j2 H2 R3 ⟨hH, hR, hc9, hc0⟩
  subst hH hR
  refine cQ (by simp only [dX, List.foldl_cons, List.foldl_nil, List.set_cons_succ, List.set_cons_zero]; rfl) ?_
  have hu := HU.out
  have eor := xM u ch.toNat i (by omega) hu hc hc9
  have hp1 : 128 ^ (i + 1) = 128 ^ i * 128 := Nat.pow_succ ..
  have hadd : u + ch.toNat % 128 * 128 ^ i < 18446744073709551616 := by
    rw [← eor]
    exact Nat.or_lt_two_pow (n := 64) (Nat.lt_of_lt_of_le hu (by
      have : 128 ^ i ≤ 128 ^ 9 := Nat.pow_le_pow_right (by decide) (by omega)
      omega)) (Nat.mod_lt _ (by decide))
  have hu64 : u < 2 ^ IntKind.bits .u64 := Nat.lt_of_le_of_lt (Nat.le_add_right _ _) hadd
  have hsh : 7 * i ≤ IntKind.bits .u64 := by simp only [IntKind.bits]; omega
  have HE := Go.Lib.hid eor
  have HA := Go.Lib.hid hadd
  have HP := Go.Lib.hid hp1
  clear hu eor hadd hp1
  apply aF; apply aA
  repeat' (first | (refine aE rfl rfl ?_; ((first | refine rX (k := .u8) (a := ch.toNat) (b := 127) rfl rfl rfl hc (by decide) ?_ | refine kT rfl rfl ?_ | refine oA (k := .u64) (n := 7 * i) rfl rfl rfl hsh ?_ | refine sM (k := .u64) rfl rfl rfl hu64 (Nat.mod_lt _ (by decide)) ?_; rw [HE.out])); refine aB ?_) | (refine aE rfl rfl ?_; ((first | refine aH ?_ | refine aX ?_)); refine aB ?_))
  apply aG; apply aD
  have hadd := HA.out
  obtain ⟨u2, hu2⟩ : ∃ u2, u + ch.toNat % 128 * 128 ^ i = u2 := ⟨_, rfl⟩
  rw [hu2] at hadd ⊢
  have HU2 := Go.Lib.hid hu2
  clear hu2
  repeat' (first | (refine aU rfl ?_; refine bM (k := .u8) (a := (ch.toNat : Int)) (b := 128) rfl rfl (fun h => ?_) (fun h => ?_) <;> refine aB ?_) | (apply aF) | (apply aA) | (apply bE) | (apply bV) | (apply aK; exact rfl) | (apply aI; exact rfl) | (apply aG) | (apply aD) | (apply aS) | (apply bP) | (apply aR) | (apply eY; exact rfl) | (apply aU; exact rfl; ((refine bI rfl rfl (by omega) (by omega) ?_)); refine aB ?_) | (refine aE rfl rfl ?_; ((first | refine aH ?_ | refine aX ?_)); refine aB ?_))
  all_goals have hu2 := HU2.out
  all_goals have hch := HC.out
  all_goals have hg := HG.out
  · have hfin : gU xs m i u a' = .ok (u2, a' + 1) := by
      have e1 : ch.toNat % 128 = ch.toNat := by omega
      rw [e1] at hu2
      cases m with
      | zero => unfold gU; rw [hch]; simp only; rw [if_neg (by omega), hu2]
      | succ m => unfold gU; rw [hch]; simp only; rw [if_neg (by omega), if_pos (by omega), hu2]
    have hD : eH xs a = .ok (kM u2, a' + 1) := by unfold eH; rw [← hg, hfin]
    have eand : u2 &&& 1 = u2 % 2 := Nat.and_one_is_mod u2
    have h64 : u2 < 2 ^ IntKind.bits .u64 := hadd
    have HK := hk _ _ () hD (by omega) hlt (oR hadd)
    repeat' (first | (refine aE rfl rfl ?_; ((first | refine mJ (n := 1) rfl rfl (by decide) ?_ | refine jB rfl (by omega) ?_ | refine rX (k := .u64) (a := u2) (b := 1) rfl rfl rfl h64 (by decide) ?_ | refine pw_noti rfl (by omega) ?_)); refine aB ?_) | (apply aF) | (apply aA) | (apply bN) | (apply bE) | (apply aK; exact rfl) | (apply aI; exact rfl) | (apply aG) | (apply aD) | (apply bO) | (apply aU; exact rfl; ((refine fS rfl rfl (fun h => ?_) (fun h => ?_))) <;> (refine aB ?_)) | (refine aE rfl rfl ?_; ((first | refine aH ?_ | refine aX ?_)); refine aB ?_))
    all_goals refine bC (.inl rfl) (dM rfl (bS rfl)) (eI _ R3 (fun w hs => hs) ?_)
    all_goals (first | (rw [nY (by omega)] at HK; exact HK) | (rw [pQ (by omega)] at HK; exact HK))
  · obtain ⟨k, rfl⟩ : ∃ k, m = k + 1 := by
      cases m with
      | zero => omega
      | succ k => exact ⟨k, rfl⟩
    have e1 : ch.toNat % 128 = ch.toNat - 128 := by omega
    have hu := HU.out
    refine cE k _ R3 (by omega) eE ⟨i + 1, u2, a' + 1, by omega, rfl, ?_, rfl, rfl, by omega, hlt, ?_, ?_⟩ (fun w hs => hs)
    · show Value.int .i64 _ = _
      congr 1
    · rw [← hu2, HP.out]
      have : ch.toNat % 128 * 128 ^ i ≤ 127 * 128 ^ i := Nat.mul_le_mul_right _ (by omega)
      omega
    · rw [← hg, gU, hch]
      simp only
      rw [if_neg (by omega), if_neg (by omega), ← e1, hu2]

section
variable {F : Fence} {n : Nat} {P : Program} {w0 : World} {D : List Deferred} {ops : Array Oper} {Q : Exit → Act → World → Prop} {rest : List Oper} {E : List Value} {H : List Hp} {R : List MP}
theorem t4 {R' : List MP} (h : R = R') (k : T F n P w0 D ops Q rest E H R') : T F n P w0 D ops Q rest E H R := h ▸ k
end
theorem xE {α β : Type} {f : α → β} {d : Dc α} {a a' : Nat} {y : β} (h : iV f d a = .ok (y, a')) : ∃ x, d a = .ok (x, a') ∧ y = f x := by
  unfold iV at h
  cases hg : d a with
  | error e => rw [hg] at h; cases h
  | ok q =>
    obtain ⟨x, a1⟩ := q
    rw [hg] at h
    injection h with h
    injection h with e1 e2
    subst e2
    exact ⟨x, rfl, e1.symm⟩
theorem xP {α β : Type} {f : α → β} {d : Dc α} {a e : Nat} (h : iV f d a = .error e) : d a = .error e := by
  unfold iV at h
  cases hg : d a with
  | error e' => rw [hg] at h; injection h with h; rw [h]
  | ok q => rw [hg] at h; cases h
abbrev k9 (xs : List UInt8) : Dc Int := iV (fun n : Nat => (n : Int)) (jU xs)
theorem f6 {w0 : World} (br : Nat) (A : Option Addr) (c : Nat) (xs : List UInt8) (hx : xs.length ≤ 250000) : Rr Tryz.prog w0 135 [.pointer (some ⟨br, 0, none⟩)] br A c xs 0 (k9 xs) (fun n _ => .int .i64 n) := by
  intro H R K KP a _ hax hm hk hp
  refine cP Tryz.func135 rfl Tryz.ntmps135 eZ ?_
  repeat' (first | (apply aF) | (apply aA) | (apply aG) | (apply aD) | (refine aE rfl rfl ?_; ((first | refine aH ?_ | refine aX ?_)); refine aB ?_))
  refine sF rfl rfl (rP br A c xs hx) (Nat.zero_le _) hax hm (fun n a1 y hn h1 h2 hI => ?_) (fun e he => ?_)
  rotate_left
  · skip
    repeat' ((apply aL))
    exact aN (cH H R (fun w hs => hs) (hp e (by unfold k9 iV jU; rw [he])))
  refine aB ?_
  refine t4 (R' := R) rfl ?_
  have hI' : -9223372036854775808 ≤ n ∧ n ≤ 9223372036854775807 := hI
  have hpos := (eD hn).2
  repeat' (first | (apply aF) | (apply aG) | (apply aD) | (refine aE rfl rfl ?_; ((refine aX ?_)); refine aB ?_))
  refine dQ eT (by decide +kernel) (fun _ _ _ _ _ _ h => h) (List.Sublist.refl _) ?_
  all_goals ((refine bF 0 ?_; ((refine aH ?_)); refine aJ ?_))
  all_goals ((refine bF 1 ?_; ((refine bM rfl rfl (fun h => ?_) (fun h => ?_))) <;> (refine aJ ?_)))
  all_goals ((refine bF 2 ?_; ((refine aH ?_)); refine aJ ?_))
  all_goals (first | (refine bF 3 ?_; ((refine aH ?_)); refine aJ ?_) | (refine dH 3 (List.Sublist.refl _) ?_))
  all_goals (first | (refine bF 4 ?_; ((refine aH ?_)); refine aJ ?_) | (refine dH 4 (List.Sublist.refl _) ?_))
  all_goals (first | (refine bF 5 ?_; ((refine aW rfl ?_)); refine aJ ?_) | (refine dH 5 (List.Sublist.refl _) ?_))
  all_goals (first | (refine bF 6 ?_; ((refine aC rfl ?_)); refine aJ ?_) | (refine dH 6 (List.Sublist.refl _) ?_))
  all_goals (first | (refine bF 7 ?_; ((refine aC rfl ?_)); refine aJ ?_) | (refine dH 7 (List.Sublist.refl _) ?_))
  all_goals (first | (refine bF 8 ?_; ((refine aM (i := 0) rfl rfl rfl ?_)); refine aJ ?_) | (refine dH 8 (List.Sublist.refl _) ?_))
  all_goals (first | (refine bF 9 ?_; ((refine bQ rfl ?_)); refine aJ ?_) | (refine dH 9 (List.Sublist.refl _) ?_))
  all_goals (first | (refine bF 10 ?_; ((refine aH ?_)); refine aJ ?_) | (refine dH 10 (List.Sublist.refl _) ?_))
  all_goals (first | (refine bF 11 ?_; ((refine aW rfl ?_)); refine aJ ?_) | (refine dH 11 (List.Sublist.refl _) ?_))
  all_goals (first | (refine bF 12 ?_; ((refine aC rfl ?_)); refine aJ ?_) | (refine dH 12 (List.Sublist.refl _) ?_))
  all_goals (first | (refine bF 13 ?_; ((refine aC rfl ?_)); refine aJ ?_) | (refine dH 13 (List.Sublist.refl _) ?_))
  all_goals (first | (refine bF 14 ?_; ((refine aM (i := 0) rfl rfl rfl ?_)); refine aJ ?_) | (refine dH 14 (List.Sublist.refl _) ?_))
  all_goals (first | (refine bF 15 ?_; ((refine eR rfl rfl (by omega) (by omega) ?_)); refine aJ ?_) | (refine dH 15 (List.Sublist.refl _) ?_))
  all_goals (first | (refine bF 16 ?_; ((refine fF rfl rfl (fun h => ?_) (fun h => ?_))) <;> (refine aJ ?_)) | (refine dH 16 (List.Sublist.refl _) ?_))
  all_goals ((refine bF 17 ?_; ((first | refine bT rfl eJ ?_ | refine cI rfl eJ ?_)); refine aJ ?_))
  all_goals refine gX ?_
  · skip
    repeat' (first | (apply aA) | (apply aK; exact rfl) | (apply aD) | (refine aE rfl rfl ?_; ((refine aH ?_)); refine aB ?_))
    refine oE rfl rfl (by omega) (by omega) ?_
    repeat' (apply aL)
    refine aN (cH H R (fun w hs => hs) (hp _ (by unfold k9 iV jU; rw [hn]; simp only; rw [if_pos (by omega)])))
  · skip
    repeat' (first | (apply aA) | (apply aK; exact rfl) | (apply aD) | (refine aE rfl rfl ?_; ((refine aH ?_)); refine aB ?_))
    refine oE rfl rfl (by omega) (by omega) ?_
    repeat' (apply aL)
    refine aN (cH H R (fun w hs => hs) (hp _ (by unfold k9 iV jU; rw [hn]; simp only; rw [if_pos (by omega)])))
  · skip
    repeat' (first | (apply aF) | (apply aA) | (apply bN) | (apply bE) | (apply aI; exact rfl) | (apply aG) | (apply aD) | (refine aE rfl rfl ?_; ((first | refine aH ?_ | refine aX ?_)); refine aB ?_))
    refine bC (.inl rfl) (dM rfl (bS rfl)) (eI _ R (fun w hs => hs) ?_)
    have e : ((n.toNat : Nat) : Int) = n := by omega
    exact hk n a1 () (by unfold k9 iV jU; rw [hn]; simp only; rw [if_neg (by omega)]; simp only; rw [e]) h1 h2 hI
end Go.Proofs.YtggdljhmbckpmaaGreat
namespace Go.Proofs.YtggdljhmbckpmaaGreat
open Go Go.RowKit
set_option maxRecDepth 100000
set_option maxHeartbeats 1600000

theorem pA {w0 : World} (br : Nat) (A : Option Addr) (c : Nat) (xs : List UInt8) (hx : xs.length ≤ 250000) : Rr Tryz.prog w0 88 [.pointer (some ⟨br, 0, none⟩)] br A c xs 0 (gM xs) (fun n _ => .bool n) := by
  intro H R K KP a _ hax hm hk hp
  refine cP Tryz.func88 rfl Tryz.ntmps88 eZ ?_
  repeat' (first | (apply aF) | (apply aA) | (apply aG) | (apply aD) | (refine aE rfl rfl ?_; ((first | refine aH ?_ | refine aX ?_ | refine aW rfl ?_ | refine aC rfl ?_)); refine aB ?_))
  refine q5 rfl rfl hx hax hm (fun ch hch hlt => ?_) (fun hno => ?_)
  rotate_left
  · skip
    repeat' ((apply aL))
    exact aN (cH H R (fun w hs => hs) (hp _ (by unfold gM; rw [hno])))
  refine aB ?_
  repeat' (first | (refine aU rfl ?_; ((first | refine fF (k := .u8) (a := (ch.toNat : Int)) (b := 1) rfl rfl (fun h => ?_) (fun h => ?_) | refine fS (k := .u8) (a := (ch.toNat : Int)) (b := 1) rfl rfl (fun h => ?_) (fun h => ?_))) <;> refine aB ?_) | (apply aF) | (apply aA) | (apply bN) | (apply bE) | (apply aK; exact rfl) | (apply aI; exact rfl) | (apply aG) | (apply aD) | (refine aE rfl rfl ?_; ((first | refine aH ?_ | refine aX ?_)); refine aB ?_))
  · refine oE rfl rfl (by omega) (by omega) ?_
    repeat' (apply aL)
    refine aN (cH H R (fun w hs => hs) (hp _ (by unfold gM; rw [hch]; simp only; rw [if_pos (by omega)]; rfl)))
  · refine bC (.inl rfl) (dM rfl (bS rfl)) (eI _ R (fun w hs => hs) ?_)
    have e : decide (ch.toNat = 1) = true := by simpa using (by omega : ch.toNat = 1)
    have := hk true (a + 1) () (by unfold gM; rw [hch]; simp only; rw [if_neg (by omega), e]) (by omega) hlt trivial
    exact this
  · refine bC (.inl rfl) (dM rfl (bS rfl)) (eI _ R (fun w hs => hs) ?_)
    have e : decide (ch.toNat = 1) = false := by simpa using (by omega : ¬ ch.toNat = 1)
    have := hk false (a + 1) () (by unfold gM; rw [hch]; simp only; rw [if_neg (by omega), e]) (by omega) hlt trivial
    exact this
section
variable {F : Fence} {n : Nat} {w0 : World} {D : List Deferred} {ops : Array Oper} {Q : Exit → Act → World → Prop} {rest : List Oper} {E : List Value} {H : List Hp} {R : List MP}
theorem kB [Wd F] {dst : Option Tmp} {l : List Operand} {at_ : Array TypeId} {ty : TypeId} {pos : String} {aft : Array Edge} {g : Option (Nat × Bool)} {br : Nat} {A : Option Addr} {c : Nat} {xs : List UInt8} {a : Nat}
    (hw : Region.wanted ⟨dst, .call ⟨.value (.func 135), l.toArray, at_⟩, ty, pos, aft, g⟩ (yielded ops E.toArray) = true) (hA : l.map (ev E) = [.pointer (some ⟨br, 0, none⟩)]) (hx : xs.length ≤ 250000) (hax : a ≤ xs.length) (hm : Sl (.slice A xs.length c) xs ∈ R)
    (hk : ∀ m a', jU xs a = .ok (m, a') → a + 1 ≤ a' → m + a' ≤ xs.length → T F n Tryz.prog w0 D ops Q rest (dP E dst (.int .i64 (m : Int))) (.blk br [.slice A xs.length c, .int .i64 (a' : Int)] 100 :: H) R)
    (hp : ∀ e : Nat, jU xs a = .error e → En w0 D Q (.panic (rf e)) E H R) : T F n Tryz.prog w0 D ops Q (⟨dst, .call ⟨.value (.func 135), l.toArray, at_⟩, ty, pos, aft, g⟩ :: rest) E (.blk br [.slice A xs.length c, .int .i64 (a : Int)] 100 :: H) R :=
  sF hw hA (f6 br A c xs hx) (Nat.zero_le _) hax hm (fun x a' y hd h1 h2 _ => by
    obtain ⟨m, hm', rfl⟩ := xE hd
    obtain ⟨q1, q2, q3, q4⟩ := rW hax hm'
    exact hk m a' hm' q1 q4) (fun e he => hp e (xP he))
end
theorem wL {w0 : World} (br : Nat) (A : Option Addr) (c : Nat) (xs : List UInt8) (hx : xs.length ≤ 250000) : Rr Tryz.prog w0 138 [.pointer (some ⟨br, 0, none⟩)] br A c xs 0 (jI xs) (fun s _ => .string s) := by
  intro H R K KP a _ hax hm hk hp
  refine cP Tryz.func138 rfl Tryz.ntmps138 eZ ?_
  repeat' (first | (apply aF) | (apply aA) | (apply aG) | (apply aD) | (refine aE rfl rfl ?_; ((first | refine aH ?_ | refine aX ?_)); refine aB ?_))
  refine kB rfl rfl hx hax hm (fun m a1 hn h1 h2 => ?_) (fun e he => ?_)
  rotate_left
  · skip
    repeat' ((apply aL))
    exact aN (cH H R (fun w hs => hs) (hp e (by unfold jI; rw [he])))
  refine aB ?_
  repeat' (first | (apply aF) | (apply aA) | (apply aG) | (apply aD) | (apply aP; exact rfl; ((refine aM (i := 0) rfl rfl rfl ?_)); refine aB ?_) | (apply aU; exact rfl; ((refine bI rfl rfl (by omega) (by omega) ?_)); refine aB ?_) | (apply bD; exact rfl; ((refine aO (i := 0) rfl cW rfl (by rfl) (by simp) (by simp [Value.oneCell']) ?_)); refine aB ?_; refine cA ?_) | (refine aE rfl rfl ?_; ((first | refine aH ?_ | refine aX ?_ | refine aW rfl ?_ | refine aC rfl ?_)); refine aB ?_))
  have e2 : ((a1 : Int) + (m : Int)) = ((a1 + m : Nat) : Int) := by omega
  rw [e2]
  refine dQ eT (by decide +kernel) (fun _ _ _ _ _ _ h => h) (List.Sublist.refl _) ?_
  all_goals ((refine bF 0 ?_; ((refine aH ?_)); refine aJ ?_))
  all_goals ((refine bF 1 ?_; ((refine aW rfl ?_)); refine aJ ?_))
  all_goals ((refine bF 2 ?_; ((refine aC rfl ?_)); refine aJ ?_))
  all_goals ((refine bF 3 ?_; ((refine aC rfl ?_)); refine aJ ?_))
  all_goals ((refine bF 4 ?_; ((refine aM (i := 0) rfl rfl rfl ?_)); refine aJ ?_))
  all_goals ((refine bF 5 ?_; ((refine aH ?_)); refine aJ ?_))
  all_goals ((refine bF 6 ?_; ((refine aW rfl ?_)); refine aJ ?_))
  all_goals ((refine bF 7 ?_; ((refine aC rfl ?_)); refine aJ ?_))
  all_goals ((refine bF 8 ?_; ((refine aC rfl ?_)); refine aJ ?_))
  all_goals ((refine bF 9 ?_; ((refine aM (i := 0) rfl rfl rfl ?_)); refine aJ ?_))
  all_goals ((refine bF 10 ?_; ((refine aH ?_)); refine aJ ?_))
  all_goals ((refine bF 11 ?_; ((refine eR rfl rfl (by omega) (by omega) ?_)); refine aJ ?_))
  all_goals ((refine bF 12 ?_; ((refine aH ?_)); refine aJ ?_))
  all_goals ((refine bF 13 ?_; ((refine aW rfl ?_)); refine aJ ?_))
  all_goals ((refine bF 14 ?_; ((refine aC rfl ?_)); refine aJ ?_))
  all_goals ((refine bF 15 ?_; ((refine aC rfl ?_)); refine aJ ?_))
  all_goals ((refine bF 16 ?_; ((refine aM (i := 0) rfl rfl rfl ?_)); refine aJ ?_))
  all_goals ((refine bF 17 ?_; ((refine fP rfl hm rfl rfl rfl rfl (by omega) (by omega) (by omega) (fun A8 c8 => ?_))); refine aJ ?_))
  all_goals ((refine bF 18 ?_; ((refine tH rfl aV ?_)); refine aJ ?_))
  all_goals ((refine bF 19 ?_; ((refine aX ?_)); refine aJ ?_))
  all_goals refine gX ?_
  repeat' (first | (apply bN) | (apply aD))
  have e3 : List.drop (((a1 + m : Nat) : Int) - (m : Int)).toNat (List.take ((a1 + m : Nat) : Int).toNat xs) = (xs.drop a1).take m := by
    rw [show (((a1 + m : Nat) : Int) - (m : Int)).toNat = a1 by omega, Int.toNat_natCast, List.drop_take, show a1 + m - a1 = m by omega]
  have hl : (oN ((xs.drop a1).take m)).size ≤ 9223372036854775807 := by
    rw [pS]
    simp
    omega
  refine bC (.inl rfl) (dM rfl (bS (v := .string (oN ((xs.drop a1).take m))) (by rw [← e3]; rfl))) (eI _ R (fun w hs => hs.weaken bU cZ) ?_)
  exact hk _ (a1 + m) () (by unfold jI; rw [hn]) (by omega) (by omega) hl
end Go.Proofs.YtggdljhmbckpmaaGreat
namespace Go.Proofs.YtggdljhmbckpmaaGreat
open Go Go.RowKit
set_option maxRecDepth 100000
set_option maxHeartbeats 1600000

structure Pt where
  b : Nat
  o : Nat
instance : Rep Pt where
  size := 1
  rd _ cs p := cs = [.pointer (some ⟨p.b, p.o, none⟩)]
  mono _ h := h
  len h := by subst h; rfl
  one h := by subst h; simp [Value.oneCell']
instance : Unp Pt := ⟨Unit, fun p _ => [.pointer (some ⟨p.b, p.o, none⟩)], fun _ _ => True, fun _ _ => [], fun h => ⟨(), h, trivial, fun _ h => by cases h⟩, fun _ _ => rfl⟩
def uG (b : Nat) (os : List Nat) : List Value := os.map (fun o => .pointer (some ⟨b, o, none⟩))
def s0 (b : Nat) (os : List Nat) : List Pt := os.map (Pt.mk b)
theorem Cx_pts (b : Nat) (os : List Nat) (s : Sto) : (Cx (uG b os) (s0 b os)).p s := by
  refine ⟨by simp [Rep.size, uG, s0], fun j x hj => ?_⟩
  obtain ⟨o, ho, rfl⟩ : ∃ o, os[j]? = some o ∧ x = ⟨b, o⟩ := by
    simp only [s0, List.getElem?_map, Option.map_eq_some_iff] at hj
    obtain ⟨o, h1, h2⟩ := hj
    exact ⟨o, h1, h2.symm⟩
  have hj' : (uG b os)[j]? = some (.pointer (some ⟨b, o, none⟩)) := by simp [uG, ho]
  obtain ⟨h1, h2⟩ := List.getElem?_eq_some_iff.1 hj'
  show ((uG b os).drop (j * 1)).take 1 = [.pointer (some ⟨b, o, none⟩)]
  rw [Nat.mul_one, List.drop_eq_getElem_cons h1, h2]
  rfl
def jS (xs : List UInt8) : List Value → List Nat → Nat → Except Nat (List Value × Nat)
  | zs, [], a => .ok (zs, a)
  | zs, o :: os, a => match eH xs a with
    | .error e => .error e
    | .ok (n, a1) => jS xs (zs.set o (.int .i64 n)) os a1
theorem dV {xs : List UInt8} {zs r : List Value} {o a a' : Nat} {os : List Nat} (h : jS xs zs (o :: os) a = .ok (r, a')) : ∃ n a1, eH xs a = .ok (n, a1) ∧ jS xs (zs.set o (.int .i64 n)) os a1 = .ok (r, a') := by
  unfold jS at h
  cases hg : eH xs a with
  | error e => rw [hg] at h; cases h
  | ok p => rw [hg] at h; exact ⟨p.1, p.2, rfl, h⟩
theorem fX {xs : List UInt8} {zs r : List Value} {a a' : Nat} (h : jS xs zs [] a = .ok (r, a')) : r = zs ∧ a' = a := by
  injection h with h
  injection h with h1 h2
  exact ⟨h1.symm, h2.symm⟩
theorem dU {xs : List UInt8} {zs : List Value} {o a e : Nat} {os : List Nat} (h : jS xs zs (o :: os) a = .error e) : eH xs a = .error e ∨ ∃ n a1, eH xs a = .ok (n, a1) ∧ jS xs (zs.set o (.int .i64 n)) os a1 = .error e := by
  unfold jS at h
  cases hg : eH xs a with
  | error e' => rw [hg] at h; injection h with h; subst h; exact .inl rfl
  | ok p => rw [hg] at h; exact .inr ⟨p.1, p.2, rfl, h⟩
theorem vL {zs : List Value} {o : Nat} {v : Value} (h : o < zs.length) : fR zs o [v] = zs.set o v := by
  simp only [fR, List.length_singleton]
  rw [List.set_eq_take_append_cons_drop, if_pos h]
  simp
theorem into_r {w0 : World} (br : Nat) (A : Option Addr) (c : Nat) (xs : List UInt8) (hx : xs.length ≤ 250000) (bp bt cp : Nat) (T' : TypeId) (os : List Nat) (hos : os.length ≤ 100) (H : List Hp) (R : List MP) (K : Value → List Hp → List MP → Prop) (KP : List PanicEntry → List Hp → List MP → Prop) (a : Nat) (zs : List Value)
    (hax : a ≤ xs.length) (hm : Sl (.slice A xs.length c) xs ∈ R) (hm2 : Sl (.slice (some ⟨bp, 0, none⟩) os.length cp) (s0 bt os) ∈ R) (hz : ∀ o ∈ os, o < zs.length)
    (hk : ∀ zs' a', jS xs zs os a = .ok (zs', a') → a ≤ a' → a' ≤ xs.length → K (.tuple #[]) (.blk br [.slice A xs.length c, .int .i64 (a' : Int)] 100 :: .blk bt zs' T' :: H) R)
    (hp : ∀ e : Nat, jS xs zs os a = .error e → KP (rf e) H R) :
    CallsP Tryz.prog w0 87 #[.pointer (some ⟨br, 0, none⟩), .slice (some ⟨bp, 0, none⟩) os.length cp] (.blk br [.slice A xs.length c, .int .i64 (a : Int)] 100 :: .blk bt zs T' :: H) R K KP := by
  refine cP Tryz.func87 rfl Tryz.ntmps87 eZ ?_
  repeat' (first | (apply aF) | (apply aA) | (apply aT) | (apply aG) | (apply aD) | (refine aE rfl rfl ?_; ((first | refine aH ?_ | refine bQ rfl ?_)); refine aB ?_))
  refine cK [5, 8, 9, 10, 11, 12, 13, 14, 15, 16] (fun m j H2 R2 => ∃ (i a' : Nat) (zs' : List Value), i + m = os.length ∧ j 8 = .int .i64 (i : Int) ∧ (∀ p ∈ R, p ∈ R2) ∧ H2 = .blk br [.slice A xs.length c, .int .i64 (a' : Int)] 100 :: .blk bt zs' T' :: H ∧ a ≤ a' ∧ a' ≤ xs.length ∧ zs'.length = zs.length ∧ jS xs zs' (os.drop i) a' = jS xs zs os a) os.length eE ⟨0, a, zs, by omega, rfl, fun _ h => h, rfl, Nat.le_refl _, hax, rfl, rfl⟩ ?_
  rintro m j' H2 R2 ⟨i, a', zs', him, h8, hR2, hH2, haa, ha', hzl, hle⟩
  subst hH2
  have hmx := hR2 _ hm
  have hmp := hR2 _ hm2
  refine cQ (by simp only [dX, List.foldl_cons, List.foldl_nil, List.set_cons_succ, List.set_cons_zero, h8]; rfl) ?_
  rcases Nat.lt_or_ge i os.length with hlt | hge
  · obtain ⟨oi, hoi⟩ : ∃ oi, os[i]? = some oi := ⟨_, List.getElem?_eq_getElem hlt⟩
    have hpi : (s0 bt os)[((i : Nat) : Int).toNat]? = some ⟨bt, oi⟩ := by simp [s0, hoi]
    have hd : os.drop i = oi :: os.drop (i + 1) := by
      obtain ⟨h1, h2⟩ := List.getElem?_eq_some_iff.1 hoi
      rw [List.drop_eq_getElem_cons h1, h2]
    have hoz : oi < zs'.length := by rw [hzl]; exact hz _ (List.mem_of_getElem? hoi)
    rw [hd] at hle
    clear hd hoi
    have HL := Go.Lib.hid hle
    clear hle
    repeat' (first | (refine aE rfl rfl ?_; refine dL rfl rfl hmp rfl hpi (by omega) (fun b_ o y hy => ?_); refine aB ?_) | (refine aE rfl rfl ?_; refine aZ (v := .pointer (some ⟨bt, oi, none⟩)) rfl List.mem_cons_self rfl ?_; refine aB ?_) | (apply aF) | (apply aA) | (apply aT) | (apply bE) | (apply aK; exact rfl) | (apply aG) | (apply aD) | (apply aU; exact rfl; ((refine bM rfl rfl (fun h => ?_) (fun h => ?_))) <;> (first | (exfalso; omega) | refine aB ?_)) | (refine aE rfl rfl ?_; ((first | refine aH ?_ | refine aX ?_)); refine aB ?_))
    refine eF (.blk br [.slice A xs.length c, .int .i64 (a' : Int)] 100 :: .blk bt zs' T' :: H) R2 (fun w hs => hs.weaken (List.Sublist.refl _) (fun p hp => List.Mem.tail _ hp)) ?_
    refine sF rfl rfl (rP br A c xs hx) (Nat.zero_le _) ha' hmx (fun n a2 y2 hn h1 h2 hI => ?_) (fun e he => ?_)
    rotate_left
    · skip
      repeat' (first | (apply aL) | (apply bY))
      refine aN (cH H R (fun w hs => hs.weaken bU hR2) (hp e ?_))
      rw [← HL.out, jS, he]
    refine aB ?_
    refine t4 (R' := R2) rfl ?_
    repeat' ((refine aE rfl rfl ?_; ((refine aW rfl ?_)); refine aB ?_))
    refine bG rfl rfl ?_
    refine aO (i := 1) (sz := 1) rfl rfl rfl (vs := [.int .i64 n]) rfl (by omega) (by simp [Value.oneCell']) ?_
    rw [vL hoz]
    refine aB ?_
    refine cA ?_
    repeat' (first | (apply aA) | (apply aG) | (apply aD) | (apply bP) | (apply aU; exact rfl; ((refine bI rfl rfl (by omega) (by omega) ?_)); refine aB ?_) | (refine aE rfl rfl ?_; ((refine aH ?_)); refine aB ?_))
    refine cE (m - 1) _ R2 (by omega) eE ⟨i + 1, a2, zs'.set oi (.int .i64 n), by omega, rfl, hR2, rfl, by omega, h2, by simpa using hzl, ?_⟩ (fun w hs => hs)
    rw [← HL.out]
    conv => rhs; rw [jS, hn]
  · have e : os.drop i = [] := List.drop_of_length_le (by omega)
    rw [e] at hle
    repeat' (first | (apply aF) | (apply aA) | (apply bV) | (apply aI; exact rfl) | (apply aG) | (apply aD) | (apply aS) | (apply aR) | (apply aU; exact rfl; ((refine bM rfl rfl (fun h => ?_) (fun h => ?_))) <;> (first | (exfalso; omega) | refine aB ?_)))
    refine bC (.inr rfl) (fV rfl) (eI _ R (fun w hs => hs.weaken bU hR2) (hk zs' a' hle.symm haa ha'))
section
variable {F : Fence} {n : Nat} {w0 : World} {D : List Deferred} {ops : Array Oper} {Q : Exit → Act → World → Prop} {rest : List Oper} {E : List Value} {H : List Hp} {R : List MP}
/-- A block of places on top, and numbers read into them. -/
theorem jN [Wd F] (os : List Nat) {dst : Option Tmp} {l : List Operand} {at_ : Array TypeId} {ty : TypeId} {pos : String} {aft : Array Edge} {g : Option (Nat × Bool)} {br bp bt : Nat} {A : Option Addr} {c : Nat} {xs : List UInt8} {a m : Nat} {zs ps : List Value} {Te T' : TypeId}
    (hw : Region.wanted ⟨dst, .call ⟨.value (.func 87), l.toArray, at_⟩, ty, pos, aft, g⟩ (yielded ops E.toArray) = true) (hA : l.map (ev E) = [.pointer (some ⟨br, 0, none⟩), .slice (some ⟨bp, 0, none⟩) m m]) (hmo : m = os.length) (hps : ps = uG bt os) (hos : os.length ≤ 100) (hx : xs.length ≤ 250000) (hax : a ≤ xs.length) (hm : Sl (.slice A xs.length c) xs ∈ R) (hz : ∀ o ∈ os, o < zs.length)
    (hk : ∀ zs' a', jS xs zs os a = .ok (zs', a') → a ≤ a' → a' ≤ xs.length → T F n Tryz.prog w0 D ops Q rest (dP E dst (.tuple #[])) (.blk br [.slice A xs.length c, .int .i64 (a' : Int)] 100 :: .blk bt zs' T' :: H) R)
    (hp : ∀ e : Nat, jS xs zs os a = .error e → En w0 D Q (.panic (rf e)) E H R) : T F n Tryz.prog w0 D ops Q (⟨dst, .call ⟨.value (.func 87), l.toArray, at_⟩, ty, pos, aft, g⟩ :: rest) E (.blk bp ps Te :: .blk br [.slice A xs.length c, .int .i64 (a : Int)] 100 :: .blk bt zs T' :: H) R := by
  subst hmo hps
  refine eF (.blk br [.slice A xs.length c, .int .i64 (a : Int)] 100 :: .blk bt zs T' :: H) (Sl (.slice (some ⟨bp, 0, none⟩) os.length os.length) (s0 bt os) :: R) (fun w hs => ?_) ?_
  · exact ((hs.learn (Cx (uG bt os) (s0 bt os)) (fun s _ => Cx_pts bt os s)).blk_stays (i := 0) (b := bp) (T := Te) (cs := uG bt os) (n := os.length) (c := os.length) (sp := []) (by simp) List.mem_cons_self (by simp [s0]) (Nat.le_refl _) (by simp only [dY]; omega)).weaken (List.Sublist.refl _) (bL List.mem_cons_self (fun p hp => List.mem_cons_of_mem _ (List.mem_cons_of_mem _ hp)))
  · refine dS hw (iD (KP := fun ch H' R' => ∃ e : Nat, ch = rf e ∧ H' = H ∧ R' = Sl (.slice (some ⟨bp, 0, none⟩) os.length os.length) (s0 bt os) :: R ∧ jS xs zs os a = .error e) hA (into_r br A c xs hx bp bt os.length T' os hos H _ _ _ a zs hax (List.mem_cons_of_mem _ hm) List.mem_cons_self hz (fun zs' a' h1 h2 h3 => ?_) (fun e he => ⟨e, rfl, rfl, rfl, he⟩)) ?_)
    · exact eF _ R (fun w hs => hs.weaken (List.Sublist.refl _) (fun p hp => List.mem_cons_of_mem _ hp)) (hk zs' a' h1 h2 h3)
    · rintro ch H' R' ⟨e, rfl, rfl, rfl, he⟩
      exact kS H' R (fun w hs => hs.weaken (List.Sublist.refl _) (fun p hp => List.mem_cons_of_mem _ hp)) (hp e he)
end
end Go.Proofs.YtggdljhmbckpmaaGreat
