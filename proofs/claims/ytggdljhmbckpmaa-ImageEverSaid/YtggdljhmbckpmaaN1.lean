/- Decode: numbers, lengths, truths, texts read: walks. -/
import Derived.Test.YtggdljhmbckpmaaD2
import Derived.Test.YtggdljhmbckpmaaE7J
set_option linter.unusedVariables false
set_option linter.unusedSimpArgs false
namespace Go.Proofs.Ytggdljhmbckpmaa
open Go Go.RowKit
set_option maxRecDepth 100000
set_option maxHeartbeats 1600000

/-- A call that reads as 'd' does, from m on; 'val': how it hands back what it read. -/
def Rr (P : Program) (w0 : World) (f : FuncId) (args : List Value) (br : Nat) (A : Option Addr) (c : Nat) (xs : List UInt8) (m : Nat) {α : Type} [Rep α] [Unp α] (d : Dc α) (val : α → Unp.Y α → Value) : Prop :=
  ∀ (H : List Hp) (R : List MP) (K : Value → List Hp → List MP → Prop) (KP : List PanicEntry → List Hp → List MP → Prop) (a : Nat), m ≤ a → a ≤ xs.length → Sl (.slice A xs.length c) xs ∈ R →
    (∀ x a' (y : Unp.Y α), d a = .ok (x, a') → a ≤ a' → a' ≤ xs.length → Unp.ok x y → K (val x y) (.blk br [.slice A xs.length c, .int .i64 (a' : Int)] 104 :: H) (Unp.fs x y ++ R)) →
    (∀ e : Nat, d a = .error e → KP (rf e) H R) →
    CallsP P w0 f args.toArray (.blk br [.slice A xs.length c, .int .i64 (a : Int)] 104 :: H) R K KP
section
variable {F : Fence} {n : Nat} {P : Program} {w0 : World} {D : List Deferred} {ops : Array Oper} {Q : Exit → Act → World → Prop} {rest : List Oper} {E : List Value} {H : List Hp} {R : List MP}
theorem T_rd [Wd F] {dst : Option Tmp} {f : FuncId} {l : List Operand} {at_ : Array TypeId} {ty : TypeId} {pos : String} {aft : Array Edge} {g : Option (Nat × Bool)} {args : List Value} {br : Nat} {A : Option Addr} {c : Nat} {xs : List UInt8} {m a : Nat} {α : Type} [Rep α] [Unp α] {d : Dc α} {val : α → Unp.Y α → Value}
    (hw : Region.wanted ⟨dst, .call ⟨.value (.func f), l.toArray, at_⟩, ty, pos, aft, g⟩ (yielded ops E.toArray) = true) (hA : l.map (ev E) = args) [FnOk P f] (h : Rr P w0 f args br A c xs m d val) (hma : m ≤ a) (hax : a ≤ xs.length) (hm : Sl (.slice A xs.length c) xs ∈ R)
    (hk : ∀ x a' (y : Unp.Y α), d a = .ok (x, a') → a ≤ a' → a' ≤ xs.length → Unp.ok x y → T F n P w0 D ops Q rest (setD E dst (val x y)) (.blk br [.slice A xs.length c, .int .i64 (a' : Int)] 104 :: H) (Unp.fs x y ++ R))
    (hp : ∀ e : Nat, d a = .error e → En w0 D Q (.panic (rf e)) E H R) : T F n P w0 D ops Q (⟨dst, .call ⟨.value (.func f), l.toArray, at_⟩, ty, pos, aft, g⟩ :: rest) E (.blk br [.slice A xs.length c, .int .i64 (a : Int)] 104 :: H) R :=
  T_ow hw (ow_callfP (KP := fun ch H' R' => ∃ e : Nat, ch = rf e ∧ H' = H ∧ R' = R ∧ d a = .error e) hA (h H R _ _ a hma hax hm hk (fun e he => ⟨e, rfl, rfl, rfl, he⟩)) (by rintro ch H' R' ⟨e, rfl, rfl, rfl, he⟩; exact hp e he))
theorem T_rdv [Wd F] {dst : Option Tmp} {fo : Operand} {f : FuncId} {l : List Operand} {at_ : Array TypeId} {ty : TypeId} {pos : String} {aft : Array Edge} {g : Option (Nat × Bool)} {args L1 L2 : List Value} {br : Nat} {A : Option Addr} {c : Nat} {xs : List UInt8} {m a : Nat} {α : Type} [Rep α] [Unp α] {d : Dc α} {val : α → Unp.Y α → Value}
    (hw : Region.wanted ⟨dst, .call ⟨.value fo, l.toArray, at_⟩, ty, pos, aft, g⟩ (yielded ops E.toArray) = true) (hf : ev E fo = .func (.func f) L1.toArray L2.toArray) (hA : L1 ++ l.map (ev E) ++ L2 = args) [FnOk P f] (h : Rr P w0 f args br A c xs m d val) (hma : m ≤ a) (hax : a ≤ xs.length) (hm : Sl (.slice A xs.length c) xs ∈ R)
    (hk : ∀ x a' (y : Unp.Y α), d a = .ok (x, a') → a ≤ a' → a' ≤ xs.length → Unp.ok x y → T F n P w0 D ops Q rest (setD E dst (val x y)) (.blk br [.slice A xs.length c, .int .i64 (a' : Int)] 104 :: H) (Unp.fs x y ++ R))
    (hp : ∀ e : Nat, d a = .error e → En w0 D Q (.panic (rf e)) E H R) : T F n P w0 D ops Q (⟨dst, .call ⟨.value fo, l.toArray, at_⟩, ty, pos, aft, g⟩ :: rest) E (.blk br [.slice A xs.length c, .int .i64 (a : Int)] 104 :: H) R :=
  T_ow hw (ow_callvP (KP := fun ch H' R' => ∃ e : Nat, ch = rf e ∧ H' = H ∧ R' = R ∧ d a = .error e) hf hA (h H R _ _ a hma hax hm hk (fun e he => ⟨e, rfl, rfl, rfl, he⟩)) (by rintro ch H' R' ⟨e, rfl, rfl, rfl, he⟩; exact hp e he))
end
section
variable {F : Fence} {n : Nat} {w0 : World} {D : List Deferred} {ops : Array Oper} {Q : Exit → Act → World → Prop} {rest : List Oper} {E : List Value} {H : List Hp} {R : List MP}
theorem T_next [Wd F] {dst : Option Tmp} {l : List Operand} {at_ : Array TypeId} {ty : TypeId} {pos : String} {aft : Array Edge} {g : Option (Nat × Bool)} {br : Nat} {A : Option Addr} {c : Nat} {xs : List UInt8} {a : Nat}
    (hw : Region.wanted ⟨dst, .call ⟨.value (.func 39), l.toArray, at_⟩, ty, pos, aft, g⟩ (yielded ops E.toArray) = true) (hA : l.map (ev E) = [.pointer (some ⟨br, 0, none⟩)]) (hx : xs.length ≤ 250000) (hax : a ≤ xs.length) (hm : Sl (.slice A xs.length c) xs ∈ R)
    (hk : ∀ ch, xs[a]? = some ch → a + 1 ≤ xs.length → T F n Try.prog w0 D ops Q rest (setD E dst (byteV ch)) (.blk br [.slice A xs.length c, .int .i64 ((a + 1 : Nat) : Int)] 104 :: H) R)
    (hp : xs[a]? = none → En w0 D Q (.panic (rf xs.length)) E H R) : T F n Try.prog w0 D ops Q (⟨dst, .call ⟨.value (.func 39), l.toArray, at_⟩, ty, pos, aft, g⟩ :: rest) E (.blk br [.slice A xs.length c, .int .i64 (a : Int)] 104 :: H) R :=
  T_ow hw (ow_callfP (KP := fun ch H' R' => ch = rf xs.length ∧ H' = H ∧ R' = R ∧ xs[a]? = none) hA (next_r br A c xs a (by omega) hax hm (fun h => hk _ (List.getElem?_eq_getElem h) h) (fun h => ⟨rfl, rfl, rfl, List.getElem?_eq_none h⟩)) (by rintro ch H' R' ⟨rfl, rfl, rfl, he⟩; exact hp he))
theorem T_back [Wd F] {dst : Option Tmp} {l : List Operand} {at_ : Array TypeId} {ty : TypeId} {pos : String} {aft : Array Edge} {g : Option (Nat × Bool)} {br : Nat} {v : Value} {a : Nat}
    (hw : Region.wanted ⟨dst, .call ⟨.value (.func 40), l.toArray, at_⟩, ty, pos, aft, g⟩ (yielded ops E.toArray) = true) (hA : l.map (ev E) = [.pointer (some ⟨br, 0, none⟩)]) (ha : 1 ≤ a) (hb : a ≤ 250000)
    (hp : En w0 D Q (.panic (rf ((a - 1 : Nat) : Int))) E H R) : T F n Try.prog w0 D ops Q (⟨dst, .call ⟨.value (.func 40), l.toArray, at_⟩, ty, pos, aft, g⟩ :: rest) E (.blk br [v, .int .i64 (a : Int)] 104 :: H) R :=
  T_ow hw (ow_callfP (KP := fun ch H' R' => ch = rf ((a - 1 : Nat) : Int) ∧ H' = H ∧ R' = R) hA (back_r br v a (by omega) (by omega) ⟨by rw [show ((a - 1 : Nat) : Int) = (a : Int) - 1 by omega], rfl, rfl⟩) (by rintro ch H' R' ⟨rfl, rfl, rfl⟩; exact hp))
end
section
variable {P : Program} {w0 : World} {E : List Value} {H : List Hp} {R : List MP} {ty : TypeId} {K : Value → List MP → Prop}
theorem not_nat (x : Nat) (hx : x < 9223372036854775808) : (BitVec.ofInt 64 (-1) ^^^ BitVec.ofInt 64 (x : Int)).toNat = 18446744073709551615 - x := by
  have h1 : BitVec.ofInt 64 (-1) = BitVec.allOnes 64 := by decide
  have h2 : BitVec.ofInt 64 (x : Int) = BitVec.ofNat 64 x := by simp
  rw [h1, h2, ← BitVec.not_def, BitVec.toNat_not, BitVec.toNat_ofNat, Nat.mod_eq_of_lt (by omega)]
theorem pw_noti {t : TypeId} {x : Operand} {a : Nat} (hx : ev E x = .int .i64 (a : Int)) (ha : a < 9223372036854775808) (kk : K (.int .i64 (-(a : Int) - 1)) R) : PW P w0 E (.unOp .xor t x) ty H R K :=
  pw_val rfl (fun w _ => by
    rw [hx]
    have e : IntKind.i64.wrap ((18446744073709551615 - a : Nat) : Int) = -(a : Int) - 1 := by simp [IntKind.wrap, IntKind.bits, IntKind.signed]; omega
    have e2 := not_nat a ha
    simp only [Op.unary, IntKind.signed, if_true, Op.intBits, ne_eq, not_true_eq_false, if_false, Sem.run_pure, BitVec.toNat_xor]
    show Result.ok (Value.int .i64 (IntKind.i64.wrap ((BitVec.ofInt 64 (-1) ^^^ BitVec.ofInt 64 (a : Int)).toNat : Int))) w = _
    rw [e2, e]) kk
end
theorem or_part (u c i : Nat) (hi : i ≤ 9) (hu : u < 128 ^ i) (hc : c < 256) (hl : i = 9 → c ≤ 1) : (u ||| (c &&& 127) % 2 ^ IntKind.bits .u64 * 2 ^ (7 * i) % 2 ^ IntKind.bits .u64) = u + c % 128 * 128 ^ i := by
  have e1 : c &&& 127 = c % 128 := Nat.and_two_pow_sub_one_eq_mod c 7
  have e2 : 2 ^ (7 * i) = 128 ^ i := by rw [Nat.pow_mul]
  have hpos : 0 < 128 ^ i := Nat.pow_pos (by decide)
  have hb : c % 128 * 128 ^ i < 2 ^ 64 := by
    rcases Nat.lt_or_ge i 9 with h | h
    · have h1 : 128 ^ i ≤ 128 ^ 8 := Nat.pow_le_pow_right (by decide) (by omega)
      have h2 : c % 128 * 128 ^ i ≤ 127 * 128 ^ 8 := Nat.mul_le_mul (by omega) h1
      omega
    · obtain rfl : i = 9 := by omega
      have := hl rfl
      have h2 : c % 128 * 128 ^ 9 ≤ 1 * 128 ^ 9 := Nat.mul_le_mul_right _ (by omega)
      omega
  rw [e1, e2, Nat.mod_eq_of_lt (a := c % 128) (by simp only [IntKind.bits]; omega), Nat.mod_eq_of_lt (by simpa only [IntKind.bits] using hb)]
  have := Nat.two_pow_add_eq_or_of_lt (i := 7 * i) (b := u) (by rw [e2]; exact hu) (c % 128)
  rw [e2] at this
  rw [Nat.or_comm, Nat.mul_comm (c % 128), ← this, Nat.add_comm]

theorem unzig_even {u : Nat} (h : ¬ u % 2 = 1) : unzig u = ((u / 2 ^ 1 : Nat) : Int) := by unfold unzig; rw [if_neg h]
theorem unzig_odd {u : Nat} (h : u % 2 = 1) : unzig u = -((u / 2 ^ 1 : Nat) : Int) - 1 := by unfold unzig; rw [if_pos h]
theorem numG_bad {xs : List UInt8} {m i u a : Nat} {ch : UInt8} (hch : xs[a]? = some ch) (h : (m = 0 ∧ 1 < ch.toNat) ∨ (0 < i ∧ ch.toNat = 0)) : numG xs m i u a = .error (a + 1 - 1) := by
  cases m with
  | zero => unfold numG; rw [hch]; simp only; rw [if_pos (by omega)]; rfl
  | succ m => unfold numG; rw [hch]; simp only; rw [if_pos (by omega)]; rfl
theorem number_r {w0 : World} (br : Nat) (A : Option Addr) (c : Nat) (xs : List UInt8) (hx : xs.length ≤ 250000) : Rr Try.prog w0 110 [.pointer (some ⟨br, 0, none⟩)] br A c xs 0 (numD xs) (fun n _ => .int .i64 n) := by
  intro H R K KP a _ hax hm hk hp
  refine callsP_of Try.func110 rfl Try.ntmps110 nep ?_
  repeat' first
    | (apply TC_seq)
    | (apply TC_region)
    | (apply TC_block)
    | (apply TC_ret)
    | (apply TC_skip)
    | (apply TC_exit)
    | (apply TC_cond_true; exact rfl)
    | (apply TC_cond_false; exact rfl)
    | (apply T_nil)
    | (apply En_then)
    | (apply En_then_ret)
    | (apply En_then_exit)
    | (apply En_then_panic)
    | (apply En_block)
    | (apply En_block_ret)
    | (apply En_block_panic)
    | (apply En_block_exit)
    | (apply En_block_exit_ne; exact rfl)
    | (apply T_load; exact rfl; (first | refine pw_load (i := 0) rfl rfl rfl ?_ | refine pw_load (i := 1) rfl rfl rfl ?_ | refine pw_load (i := 2) rfl rfl rfl ?_ | refine pw_load (i := 3) rfl rfl rfl ?_ | refine pw_load (i := 4) rfl rfl rfl ?_ | refine pw_load (i := 5) rfl rfl rfl ?_ | refine pw_load_at rfl memr rfl ?_ | refine pw_load_at0 rfl memr rfl ?_ | refine pw_load_at rfl memt rfl ?_ | refine pw_load_at0 rfl memt rfl ?_); refine T_nv ?_)
    | (apply T_bin; exact rfl; (first | refine pw_add64 rfl rfl (by omega) (by omega) ?_ | refine pw_sub64 rfl rfl (by omega) (by omega) ?_ | refine pw_mul64 rfl rfl (by omega) (by omega) ?_ | refine pw_quo rfl rfl (by omega) (by omega) (by omega) ?_ | refine pw_rem rfl rfl (by omega) (by omega) ?_); refine T_nv ?_)
    | (apply T_bin; exact rfl; (first | refine pw_lss rfl rfl (fun h => ?_) (fun h => ?_) | refine pw_leq rfl rfl (fun h => ?_) (fun h => ?_) | refine pw_gtr rfl rfl (fun h => ?_) (fun h => ?_) | refine pw_geq rfl rfl (fun h => ?_) (fun h => ?_) | refine pw_eql rfl rfl (fun h => ?_) (fun h => ?_) | refine pw_neq rfl rfl (fun h => ?_) (fun h => ?_)) <;> first | (exfalso; omega) | refine T_nv ?_)
    | (refine T_pure rfl rfl ?_; (first | refine pw_mv ?_ | refine pw_as ?_ | refine pw_pick_t rfl evp ?_ | refine pw_pick_f rfl evp ?_ | refine pw_nilCheck rfl ?_ | refine pw_fieldAddr rfl ?_ | refine pw_len rfl ?_ | refine pw_lens rfl ?_ | refine pw_extract rfl rfl ?_ | refine pw_not rfl ?_ | refine pw_makeFuncL agp agp ?_ | refine pw_build bldp ?_ | refine pw_makeInterface rfl ?_); refine T_nv ?_)
    | (refine T_skipped rfl ?_; refine T_nv ?_)
    | (refine T_gen rfl rfl ?_; (first | refine gw_box clp (fun b => ?_) | refine gw_alloc clp (fun b => ?_) | refine gw_buildSlice (by decide) prtp rfl (fun b => ?_)); refine T_nv ?_)
  refine TC_loopS [3, 4, 5, 7, 8, 9, 10, 11, 12, 13, 14, 15, 16, 17, 18, 19, 20, 21, 22, 23, 24, 25, 26, 27, 28, 29, 30, 31, 32, 33, 34, 35, 36, 37] (fun m j H2 R2 => ∃ (i u a' : Nat), i + m = 9 ∧ j 3 = .int .u64 (u : Int) ∧ j 4 = .int .i64 ((7 * i : Nat) : Int) ∧ R2 = R ∧ H2 = .blk br [.slice A xs.length c, .int .i64 (a' : Int)] 104 :: H ∧ a ≤ a' ∧ a' ≤ xs.length ∧ u < 128 ^ i ∧ numG xs m i u a' = numG xs 9 0 0 a) 9 sjp ⟨0, 0, a, rfl, rfl, rfl, rfl, rfl, Nat.le_refl _, hax, by decide, rfl⟩ ?_
  rintro m j' H2 R2 ⟨i, u, a', him, h3, h4, hR2, hH2, haa, ha', hu, hg⟩
  subst hR2 hH2
  refine TC_env (by simp only [setJ, List.foldl_cons, List.foldl_nil, List.set_cons_succ, List.set_cons_zero, h3, h4]; rfl) ?_
  have HU := Go.Lib.hid hu
  have HG := Go.Lib.hid hg
  clear hu hg
  repeat' first
    | (apply TC_seq)
    | (apply TC_region)
    | (apply TC_block)
    | (apply TC_ret)
    | (apply TC_skip)
    | (apply TC_exit)
    | (apply TC_cond_true; exact rfl)
    | (apply TC_cond_false; exact rfl)
    | (apply T_nil)
    | (apply En_then)
    | (apply En_then_ret)
    | (apply En_then_exit)
    | (apply En_then_panic)
    | (apply En_block)
    | (apply En_block_ret)
    | (apply En_block_panic)
    | (apply En_block_exit)
    | (apply En_block_exit_ne; exact rfl)
    | (apply T_load; exact rfl; (first | refine pw_load (i := 0) rfl rfl rfl ?_ | refine pw_load (i := 1) rfl rfl rfl ?_ | refine pw_load (i := 2) rfl rfl rfl ?_ | refine pw_load (i := 3) rfl rfl rfl ?_ | refine pw_load (i := 4) rfl rfl rfl ?_ | refine pw_load (i := 5) rfl rfl rfl ?_ | refine pw_load_at rfl memr rfl ?_ | refine pw_load_at0 rfl memr rfl ?_ | refine pw_load_at rfl memt rfl ?_ | refine pw_load_at0 rfl memt rfl ?_); refine T_nv ?_)
    | (apply T_bin; exact rfl; (first | refine pw_add64 rfl rfl (by omega) (by omega) ?_ | refine pw_sub64 rfl rfl (by omega) (by omega) ?_ | refine pw_mul64 rfl rfl (by omega) (by omega) ?_ | refine pw_quo rfl rfl (by omega) (by omega) (by omega) ?_ | refine pw_rem rfl rfl (by omega) (by omega) ?_); refine T_nv ?_)
    | (apply T_bin; exact rfl; (first | refine pw_lss rfl rfl (fun h => ?_) (fun h => ?_) | refine pw_leq rfl rfl (fun h => ?_) (fun h => ?_) | refine pw_gtr rfl rfl (fun h => ?_) (fun h => ?_) | refine pw_geq rfl rfl (fun h => ?_) (fun h => ?_) | refine pw_eql rfl rfl (fun h => ?_) (fun h => ?_) | refine pw_neq rfl rfl (fun h => ?_) (fun h => ?_)) <;> first | (exfalso; omega) | refine T_nv ?_)
    | (refine T_pure rfl rfl ?_; (first | refine pw_mv ?_ | refine pw_as ?_ | refine pw_pick_t rfl evp ?_ | refine pw_pick_f rfl evp ?_ | refine pw_nilCheck rfl ?_ | refine pw_fieldAddr rfl ?_ | refine pw_len rfl ?_ | refine pw_lens rfl ?_ | refine pw_extract rfl rfl ?_ | refine pw_not rfl ?_ | refine pw_makeFuncL agp agp ?_ | refine pw_build bldp ?_ | refine pw_makeInterface rfl ?_); refine T_nv ?_)
    | (refine T_skipped rfl ?_; refine T_nv ?_)
    | (refine T_gen rfl rfl ?_; (first | refine gw_box clp (fun b => ?_) | refine gw_alloc clp (fun b => ?_) | refine gw_buildSlice (by decide) prtp rfl (fun b => ?_)); refine T_nv ?_)
  refine T_next rfl rfl hx ha' hm (fun ch hch hlt => ?_) (fun hno => ?_)
  rotate_left
  · skip
    repeat' first
      | (apply TC_seq)
      | (apply TC_region)
      | (apply TC_block)
      | (apply TC_ret)
      | (apply TC_skip)
      | (apply TC_exit)
      | (apply TC_cond_true; exact rfl)
      | (apply TC_cond_false; exact rfl)
      | (apply T_nil)
      | (apply En_then)
      | (apply En_then_ret)
      | (apply En_then_exit)
      | (apply En_then_panic)
      | (apply En_block)
      | (apply En_block_ret)
      | (apply En_block_panic)
      | (apply En_block_exit)
      | (apply En_block_exit_ne; exact rfl)
      | (apply T_load; exact rfl; (first | refine pw_load (i := 0) rfl rfl rfl ?_ | refine pw_load (i := 1) rfl rfl rfl ?_ | refine pw_load (i := 2) rfl rfl rfl ?_ | refine pw_load (i := 3) rfl rfl rfl ?_ | refine pw_load (i := 4) rfl rfl rfl ?_ | refine pw_load (i := 5) rfl rfl rfl ?_ | refine pw_load_at rfl memr rfl ?_ | refine pw_load_at0 rfl memr rfl ?_ | refine pw_load_at rfl memt rfl ?_ | refine pw_load_at0 rfl memt rfl ?_); refine T_nv ?_)
      | (apply T_bin; exact rfl; (first | refine pw_add64 rfl rfl (by omega) (by omega) ?_ | refine pw_sub64 rfl rfl (by omega) (by omega) ?_ | refine pw_mul64 rfl rfl (by omega) (by omega) ?_ | refine pw_quo rfl rfl (by omega) (by omega) (by omega) ?_ | refine pw_rem rfl rfl (by omega) (by omega) ?_); refine T_nv ?_)
      | (apply T_bin; exact rfl; (first | refine pw_lss rfl rfl (fun h => ?_) (fun h => ?_) | refine pw_leq rfl rfl (fun h => ?_) (fun h => ?_) | refine pw_gtr rfl rfl (fun h => ?_) (fun h => ?_) | refine pw_geq rfl rfl (fun h => ?_) (fun h => ?_) | refine pw_eql rfl rfl (fun h => ?_) (fun h => ?_) | refine pw_neq rfl rfl (fun h => ?_) (fun h => ?_)) <;> first | (exfalso; omega) | refine T_nv ?_)
      | (refine T_pure rfl rfl ?_; (first | refine pw_mv ?_ | refine pw_as ?_ | refine pw_pick_t rfl evp ?_ | refine pw_pick_f rfl evp ?_ | refine pw_nilCheck rfl ?_ | refine pw_fieldAddr rfl ?_ | refine pw_len rfl ?_ | refine pw_lens rfl ?_ | refine pw_extract rfl rfl ?_ | refine pw_not rfl ?_ | refine pw_makeFuncL agp agp ?_ | refine pw_build bldp ?_ | refine pw_makeInterface rfl ?_); refine T_nv ?_)
      | (refine T_skipped rfl ?_; refine T_nv ?_)
      | (refine T_gen rfl rfl ?_; (first | refine gw_box clp (fun b => ?_) | refine gw_alloc clp (fun b => ?_) | refine gw_buildSlice (by decide) prtp rfl (fun b => ?_)); refine T_nv ?_)
    refine En_panicked (fin_P H R2 (fun w hs => hs.weaken sbp kpp) (hp _ ?_))
    have hg := HG.out
    have : numG xs m i u a' = .error xs.length := by cases m <;> (unfold numG; rw [hno])
    unfold numD
    rw [← hg, this]
  refine T_nv ?_
  have hc := ch.toNat_lt
  have HC := Go.Lib.hid hch
  clear hch
  repeat' first
    | (apply T_load; exact rfl; (first | refine pw_load (i := 0) rfl rfl rfl ?_ | refine pw_load (i := 1) rfl rfl rfl ?_ | refine pw_load (i := 2) rfl rfl rfl ?_ | refine pw_load (i := 3) rfl rfl rfl ?_ | refine pw_load (i := 4) rfl rfl rfl ?_ | refine pw_load (i := 5) rfl rfl rfl ?_ | refine pw_load_at rfl memr rfl ?_ | refine pw_load_at0 rfl memr rfl ?_ | refine pw_load_at rfl memt rfl ?_ | refine pw_load_at0 rfl memt rfl ?_); refine T_nv ?_)
    | (apply T_bin; exact rfl; (first | refine pw_add64 rfl rfl (by omega) (by omega) ?_ | refine pw_sub64 rfl rfl (by omega) (by omega) ?_ | refine pw_mul64 rfl rfl (by omega) (by omega) ?_ | refine pw_quo rfl rfl (by omega) (by omega) (by omega) ?_ | refine pw_rem rfl rfl (by omega) (by omega) ?_); refine T_nv ?_)
    | (apply T_bin; exact rfl; (first | refine pw_lss rfl rfl (fun h => ?_) (fun h => ?_) | refine pw_leq rfl rfl (fun h => ?_) (fun h => ?_) | refine pw_gtr rfl rfl (fun h => ?_) (fun h => ?_) | refine pw_geq rfl rfl (fun h => ?_) (fun h => ?_) | refine pw_eql rfl rfl (fun h => ?_) (fun h => ?_) | refine pw_neq rfl rfl (fun h => ?_) (fun h => ?_)) <;> first | (exfalso; omega) | refine T_nv ?_)
    | (refine T_pure rfl rfl ?_; (first | refine pw_mv ?_ | refine pw_as ?_ | refine pw_pick_t rfl evp ?_ | refine pw_pick_f rfl evp ?_ | refine pw_nilCheck rfl ?_ | refine pw_fieldAddr rfl ?_ | refine pw_len rfl ?_ | refine pw_lens rfl ?_ | refine pw_extract rfl rfl ?_ | refine pw_not rfl ?_ | refine pw_makeFuncL agp agp ?_ | refine pw_build bldp ?_ | refine pw_makeInterface rfl ?_); refine T_nv ?_)
    | (refine T_skipped rfl ?_; refine T_nv ?_)
    | (refine T_gen rfl rfl ?_; (first | refine gw_box clp (fun b => ?_) | refine gw_alloc clp (fun b => ?_) | refine gw_buildSlice (by decide) prtp rfl (fun b => ?_)); refine T_nv ?_)
  apply T_nil; apply En_then
  refine TC_cutP [13, 14, 15, 16, 17, 18, 19, 20, 21, 22, 23, 24, 25, 26, 27, 28] (fun j H' R' => H' = .blk br [.slice A xs.length c, .int .i64 ((a' + 1 : Nat) : Int)] 104 :: H ∧ R' = R2 ∧ (i = 9 → ch.toNat ≤ 1) ∧ (0 < i → ch.toNat ≠ 0)) ?_ ?_
  · skip
    repeat' first
      | (refine T_bin rfl ?_; (first | refine pw_eql (k := .u8) (a := (ch.toNat : Int)) (b := 0) rfl rfl (fun h => ?_) (fun h => ?_) | refine pw_gtr (k := .u8) (a := (ch.toNat : Int)) (b := 1) rfl rfl (fun h => ?_) (fun h => ?_)) <;> refine T_nv ?_)
      | (apply TC_seq)
      | (apply TC_region)
      | (apply TC_block)
      | (apply TC_ret)
      | (apply TC_skip)
      | (apply TC_exit)
      | (apply TC_cond_true; exact rfl)
      | (apply TC_cond_false; exact rfl)
      | (apply T_nil)
      | (apply En_then)
      | (apply En_then_ret)
      | (apply En_then_exit)
      | (apply En_then_panic)
      | (apply En_block)
      | (apply En_block_ret)
      | (apply En_block_panic)
      | (apply En_block_exit)
      | (apply En_block_exit_ne; exact rfl)
      | (apply T_load; exact rfl; (first | refine pw_load (i := 0) rfl rfl rfl ?_ | refine pw_load (i := 1) rfl rfl rfl ?_ | refine pw_load (i := 2) rfl rfl rfl ?_ | refine pw_load (i := 3) rfl rfl rfl ?_ | refine pw_load (i := 4) rfl rfl rfl ?_ | refine pw_load (i := 5) rfl rfl rfl ?_ | refine pw_load_at rfl memr rfl ?_ | refine pw_load_at0 rfl memr rfl ?_ | refine pw_load_at rfl memt rfl ?_ | refine pw_load_at0 rfl memt rfl ?_); refine T_nv ?_)
      | (apply T_bin; exact rfl; (first | refine pw_add64 rfl rfl (by omega) (by omega) ?_ | refine pw_sub64 rfl rfl (by omega) (by omega) ?_ | refine pw_mul64 rfl rfl (by omega) (by omega) ?_ | refine pw_quo rfl rfl (by omega) (by omega) (by omega) ?_ | refine pw_rem rfl rfl (by omega) (by omega) ?_); refine T_nv ?_)
      | (apply T_bin; exact rfl; (first | refine pw_lss rfl rfl (fun h => ?_) (fun h => ?_) | refine pw_leq rfl rfl (fun h => ?_) (fun h => ?_) | refine pw_gtr rfl rfl (fun h => ?_) (fun h => ?_) | refine pw_geq rfl rfl (fun h => ?_) (fun h => ?_) | refine pw_eql rfl rfl (fun h => ?_) (fun h => ?_) | refine pw_neq rfl rfl (fun h => ?_) (fun h => ?_)) <;> first | (exfalso; omega) | refine T_nv ?_)
      | (refine T_pure rfl rfl ?_; (first | refine pw_mv ?_ | refine pw_as ?_ | refine pw_pick_t rfl evp ?_ | refine pw_pick_f rfl evp ?_ | refine pw_nilCheck rfl ?_ | refine pw_fieldAddr rfl ?_ | refine pw_len rfl ?_ | refine pw_lens rfl ?_ | refine pw_extract rfl rfl ?_ | refine pw_not rfl ?_ | refine pw_makeFuncL agp agp ?_ | refine pw_build bldp ?_ | refine pw_makeInterface rfl ?_); refine T_nv ?_)
      | (refine T_skipped rfl ?_; refine T_nv ?_)
      | (refine T_gen rfl rfl ?_; (first | refine gw_box clp (fun b => ?_) | refine gw_alloc clp (fun b => ?_) | refine gw_buildSlice (by decide) prtp rfl (fun b => ?_)); refine T_nv ?_)
    all_goals try exact En_midP _ _ sjp ⟨rfl, rfl, by omega, by omega⟩ (fun w hs => hs)
    all_goals refine T_back rfl rfl (by omega) (by omega) ?_
    all_goals repeat' first | apply En_then_panic | apply En_midP_panic | apply En_block_panic
    all_goals refine En_panicked (fin_P H R2 (fun w hs => hs.weaken sbp kpp) (hp _ ?_))
    all_goals have hg := HG.out
    all_goals have hch := HC.out
    all_goals unfold numD; rw [← hg, numG_bad hch (by omega)]
  rintro j2 H2 R3 ⟨hH, hR, hc9, hc0⟩
  subst hH hR
  refine TC_env (by simp only [setJ, List.foldl_cons, List.foldl_nil, List.set_cons_succ, List.set_cons_zero]; rfl) ?_
  have hu := HU.out
  have eor := or_part u ch.toNat i (by omega) hu hc hc9
  have hp1 : 128 ^ (i + 1) = 128 ^ i * 128 := Nat.pow_succ ..
  have hadd : u + ch.toNat % 128 * 128 ^ i < 18446744073709551616 := by
    rw [← eor]
    exact Nat.or_lt_two_pow (n := 64) (Nat.lt_of_lt_of_le hu (by
      have : 128 ^ i ≤ 128 ^ 9 := Nat.pow_le_pow_right (by decide) (by omega)
      omega)) (Nat.mod_lt _ (by decide))
  have hu64 : u < 2 ^ IntKind.bits .u64 := Nat.lt_of_le_of_lt (Nat.le_add_right _ _) hadd
  have hsh : 7 * i ≤ IntKind.bits .u64 := by simp only [IntKind.bits]; omega
  have HE := Go.Lib.hid eor
  have HA := Go.Lib.hid hadd
  have HP := Go.Lib.hid hp1
  clear hu eor hadd hp1
  apply TC_seq; apply TC_region
  repeat' first
    | (refine T_pure rfl rfl ?_; (first | refine pw_and (k := .u8) (a := ch.toNat) (b := 127) rfl rfl rfl hc (by decide) ?_ | refine pw_convn rfl rfl ?_ | refine pw_shl (k := .u64) (n := 7 * i) rfl rfl rfl hsh ?_ | refine pw_or (k := .u64) rfl rfl rfl hu64 (Nat.mod_lt _ (by decide)) ?_; rw [HE.out]); refine T_nv ?_)
    | (apply T_load; exact rfl; (first | refine pw_load (i := 0) rfl rfl rfl ?_ | refine pw_load (i := 1) rfl rfl rfl ?_ | refine pw_load (i := 2) rfl rfl rfl ?_ | refine pw_load (i := 3) rfl rfl rfl ?_ | refine pw_load (i := 4) rfl rfl rfl ?_ | refine pw_load (i := 5) rfl rfl rfl ?_ | refine pw_load_at rfl memr rfl ?_ | refine pw_load_at0 rfl memr rfl ?_ | refine pw_load_at rfl memt rfl ?_ | refine pw_load_at0 rfl memt rfl ?_); refine T_nv ?_)
    | (apply T_bin; exact rfl; (first | refine pw_add64 rfl rfl (by omega) (by omega) ?_ | refine pw_sub64 rfl rfl (by omega) (by omega) ?_ | refine pw_mul64 rfl rfl (by omega) (by omega) ?_ | refine pw_quo rfl rfl (by omega) (by omega) (by omega) ?_ | refine pw_rem rfl rfl (by omega) (by omega) ?_); refine T_nv ?_)
    | (apply T_bin; exact rfl; (first | refine pw_lss rfl rfl (fun h => ?_) (fun h => ?_) | refine pw_leq rfl rfl (fun h => ?_) (fun h => ?_) | refine pw_gtr rfl rfl (fun h => ?_) (fun h => ?_) | refine pw_geq rfl rfl (fun h => ?_) (fun h => ?_) | refine pw_eql rfl rfl (fun h => ?_) (fun h => ?_) | refine pw_neq rfl rfl (fun h => ?_) (fun h => ?_)) <;> first | (exfalso; omega) | refine T_nv ?_)
    | (refine T_pure rfl rfl ?_; (first | refine pw_mv ?_ | refine pw_as ?_ | refine pw_pick_t rfl evp ?_ | refine pw_pick_f rfl evp ?_ | refine pw_nilCheck rfl ?_ | refine pw_fieldAddr rfl ?_ | refine pw_len rfl ?_ | refine pw_lens rfl ?_ | refine pw_extract rfl rfl ?_ | refine pw_not rfl ?_ | refine pw_makeFuncL agp agp ?_ | refine pw_build bldp ?_ | refine pw_makeInterface rfl ?_); refine T_nv ?_)
    | (refine T_skipped rfl ?_; refine T_nv ?_)
    | (refine T_gen rfl rfl ?_; (first | refine gw_box clp (fun b => ?_) | refine gw_alloc clp (fun b => ?_) | refine gw_buildSlice (by decide) prtp rfl (fun b => ?_)); refine T_nv ?_)
  apply T_nil; apply En_then
  have hadd := HA.out
  obtain ⟨u2, hu2⟩ : ∃ u2, u + ch.toNat % 128 * 128 ^ i = u2 := ⟨_, rfl⟩
  rw [hu2] at hadd ⊢
  have HU2 := Go.Lib.hid hu2
  clear hu2
  repeat' first
    | (refine T_bin rfl ?_; refine pw_lss (k := .u8) (a := (ch.toNat : Int)) (b := 128) rfl rfl (fun h => ?_) (fun h => ?_) <;> refine T_nv ?_)
    | (apply TC_seq)
    | (apply TC_region)
    | (apply TC_block)
    | (apply TC_ret)
    | (apply TC_skip)
    | (apply TC_exit)
    | (apply TC_cond_true; exact rfl)
    | (apply TC_cond_false; exact rfl)
    | (apply T_nil)
    | (apply En_then)
    | (apply En_then_ret)
    | (apply En_then_exit)
    | (apply En_then_panic)
    | (apply En_block)
    | (apply En_block_ret)
    | (apply En_block_panic)
    | (apply En_block_exit)
    | (apply En_block_exit_ne; exact rfl)
    | (apply T_load; exact rfl; (first | refine pw_load (i := 0) rfl rfl rfl ?_ | refine pw_load (i := 1) rfl rfl rfl ?_ | refine pw_load (i := 2) rfl rfl rfl ?_ | refine pw_load (i := 3) rfl rfl rfl ?_ | refine pw_load (i := 4) rfl rfl rfl ?_ | refine pw_load (i := 5) rfl rfl rfl ?_ | refine pw_load_at rfl memr rfl ?_ | refine pw_load_at0 rfl memr rfl ?_ | refine pw_load_at rfl memt rfl ?_ | refine pw_load_at0 rfl memt rfl ?_); refine T_nv ?_)
    | (apply T_bin; exact rfl; (first | refine pw_add64 rfl rfl (by omega) (by omega) ?_ | refine pw_sub64 rfl rfl (by omega) (by omega) ?_ | refine pw_mul64 rfl rfl (by omega) (by omega) ?_ | refine pw_quo rfl rfl (by omega) (by omega) (by omega) ?_ | refine pw_rem rfl rfl (by omega) (by omega) ?_); refine T_nv ?_)
    | (apply T_bin; exact rfl; (first | refine pw_lss rfl rfl (fun h => ?_) (fun h => ?_) | refine pw_leq rfl rfl (fun h => ?_) (fun h => ?_) | refine pw_gtr rfl rfl (fun h => ?_) (fun h => ?_) | refine pw_geq rfl rfl (fun h => ?_) (fun h => ?_) | refine pw_eql rfl rfl (fun h => ?_) (fun h => ?_) | refine pw_neq rfl rfl (fun h => ?_) (fun h => ?_)) <;> first | (exfalso; omega) | refine T_nv ?_)
    | (refine T_pure rfl rfl ?_; (first | refine pw_mv ?_ | refine pw_as ?_ | refine pw_pick_t rfl evp ?_ | refine pw_pick_f rfl evp ?_ | refine pw_nilCheck rfl ?_ | refine pw_fieldAddr rfl ?_ | refine pw_len rfl ?_ | refine pw_lens rfl ?_ | refine pw_extract rfl rfl ?_ | refine pw_not rfl ?_ | refine pw_makeFuncL agp agp ?_ | refine pw_build bldp ?_ | refine pw_makeInterface rfl ?_); refine T_nv ?_)
    | (refine T_skipped rfl ?_; refine T_nv ?_)
    | (refine T_gen rfl rfl ?_; (first | refine gw_box clp (fun b => ?_) | refine gw_alloc clp (fun b => ?_) | refine gw_buildSlice (by decide) prtp rfl (fun b => ?_)); refine T_nv ?_)
  all_goals have hu2 := HU2.out
  all_goals have hch := HC.out
  all_goals have hg := HG.out
  · have hfin : numG xs m i u a' = .ok (u2, a' + 1) := by
      have e1 : ch.toNat % 128 = ch.toNat := by omega
      rw [e1] at hu2
      cases m with
      | zero => unfold numG; rw [hch]; simp only; rw [if_neg (by omega), hu2]
      | succ m => unfold numG; rw [hch]; simp only; rw [if_neg (by omega), if_pos (by omega), hu2]
    have hD : numD xs a = .ok (unzig u2, a' + 1) := by unfold numD; rw [← hg, hfin]
    have eand : u2 &&& 1 = u2 % 2 := Nat.and_one_is_mod u2
    have h64 : u2 < 2 ^ IntKind.bits .u64 := hadd
    have HK := hk _ _ () hD (by omega) hlt (unzig_in hadd)
    repeat' first
      | (refine T_pure rfl rfl ?_; (first | refine pw_shr (n := 1) rfl rfl (by decide) ?_ | refine pw_convi rfl (by omega) ?_ | refine pw_and (k := .u64) (a := u2) (b := 1) rfl rfl rfl h64 (by decide) ?_ | refine pw_noti rfl (by omega) ?_); refine T_nv ?_)
      | (apply TC_seq)
      | (apply TC_region)
      | (apply TC_block)
      | (apply TC_ret)
      | (apply TC_skip)
      | (apply TC_exit)
      | (apply TC_cond_true; exact rfl)
      | (apply TC_cond_false; exact rfl)
      | (apply T_nil)
      | (apply En_then)
      | (apply En_then_ret)
      | (apply En_then_exit)
      | (apply En_then_panic)
      | (apply En_block)
      | (apply En_block_ret)
      | (apply En_block_panic)
      | (apply En_block_exit)
      | (apply En_block_exit_ne; exact rfl)
      | (apply T_load; exact rfl; (first | refine pw_load (i := 0) rfl rfl rfl ?_ | refine pw_load (i := 1) rfl rfl rfl ?_ | refine pw_load (i := 2) rfl rfl rfl ?_ | refine pw_load (i := 3) rfl rfl rfl ?_ | refine pw_load (i := 4) rfl rfl rfl ?_ | refine pw_load (i := 5) rfl rfl rfl ?_ | refine pw_load_at rfl memr rfl ?_ | refine pw_load_at0 rfl memr rfl ?_ | refine pw_load_at rfl memt rfl ?_ | refine pw_load_at0 rfl memt rfl ?_); refine T_nv ?_)
      | (apply T_bin; exact rfl; (first | refine pw_add64 rfl rfl (by omega) (by omega) ?_ | refine pw_sub64 rfl rfl (by omega) (by omega) ?_ | refine pw_mul64 rfl rfl (by omega) (by omega) ?_ | refine pw_quo rfl rfl (by omega) (by omega) (by omega) ?_ | refine pw_rem rfl rfl (by omega) (by omega) ?_); refine T_nv ?_)
      | (apply T_bin; exact rfl; (first | refine pw_lss rfl rfl (fun h => ?_) (fun h => ?_) | refine pw_leq rfl rfl (fun h => ?_) (fun h => ?_) | refine pw_gtr rfl rfl (fun h => ?_) (fun h => ?_) | refine pw_geq rfl rfl (fun h => ?_) (fun h => ?_) | refine pw_eql rfl rfl (fun h => ?_) (fun h => ?_) | refine pw_neq rfl rfl (fun h => ?_) (fun h => ?_)) <;> first | (exfalso; omega) | refine T_nv ?_)
      | (refine T_pure rfl rfl ?_; (first | refine pw_mv ?_ | refine pw_as ?_ | refine pw_pick_t rfl evp ?_ | refine pw_pick_f rfl evp ?_ | refine pw_nilCheck rfl ?_ | refine pw_fieldAddr rfl ?_ | refine pw_len rfl ?_ | refine pw_lens rfl ?_ | refine pw_extract rfl rfl ?_ | refine pw_not rfl ?_ | refine pw_makeFuncL agp agp ?_ | refine pw_build bldp ?_ | refine pw_makeInterface rfl ?_); refine T_nv ?_)
      | (refine T_skipped rfl ?_; refine T_nv ?_)
      | (refine T_gen rfl rfl ?_; (first | refine gw_box clp (fun b => ?_) | refine gw_alloc clp (fun b => ?_) | refine gw_buildSlice (by decide) prtp rfl (fun b => ?_)); refine T_nv ?_)
    all_goals refine En_fin (.inl rfl) (res1 rfl (rv_tmp rfl)) (fin_R _ R3 (fun w hs => hs) ?_)
    all_goals first | (rw [unzig_even (by omega)] at HK; exact HK) | (rw [unzig_odd (by omega)] at HK; exact HK)
  · obtain ⟨k, rfl⟩ : ∃ k, m = k + 1 := by
      cases m with
      | zero => omega
      | succ k => exact ⟨k, rfl⟩
    have e1 : ch.toNat % 128 = ch.toNat - 128 := by omega
    have hu := HU.out
    refine En_backS k _ R3 (by omega) sjp ⟨i + 1, u2, a' + 1, by omega, rfl, ?_, rfl, rfl, by omega, hlt, ?_, ?_⟩ (fun w hs => hs)
    · show Value.int .i64 _ = _
      congr 1
    · rw [← hu2, HP.out]
      have : ch.toNat % 128 * 128 ^ i ≤ 127 * 128 ^ i := Nat.mul_le_mul_right _ (by omega)
      omega
    · rw [← hg, numG, hch]
      simp only
      rw [if_neg (by omega), if_neg (by omega), ← e1, hu2]

section
variable {F : Fence} {n : Nat} {P : Program} {w0 : World} {D : List Deferred} {ops : Array Oper} {Q : Exit → Act → World → Prop} {rest : List Oper} {E : List Value} {H : List Hp} {R : List MP}
theorem T_rp {R' : List MP} (h : R = R') (k : T F n P w0 D ops Q rest E H R') : T F n P w0 D ops Q rest E H R := h ▸ k
end
theorem mapD_ok {α β : Type} {f : α → β} {d : Dc α} {a a' : Nat} {y : β} (h : mapD f d a = .ok (y, a')) : ∃ x, d a = .ok (x, a') ∧ y = f x := by
  unfold mapD at h
  cases hg : d a with
  | error e => rw [hg] at h; cases h
  | ok q =>
    obtain ⟨x, a1⟩ := q
    rw [hg] at h
    injection h with h
    injection h with e1 e2
    subst e2
    exact ⟨x, rfl, e1.symm⟩
theorem mapD_er {α β : Type} {f : α → β} {d : Dc α} {a e : Nat} (h : mapD f d a = .error e) : d a = .error e := by
  unfold mapD at h
  cases hg : d a with
  | error e' => rw [hg] at h; injection h with h; rw [h]
  | ok q => rw [hg] at h; cases h
abbrev lenI (xs : List UInt8) : Dc Int := mapD (fun n : Nat => (n : Int)) (lenD xs)
theorem length_r {w0 : World} (br : Nat) (A : Option Addr) (c : Nat) (xs : List UInt8) (hx : xs.length ≤ 250000) : Rr Try.prog w0 112 [.pointer (some ⟨br, 0, none⟩)] br A c xs 0 (lenI xs) (fun n _ => .int .i64 n) := by
  intro H R K KP a _ hax hm hk hp
  refine callsP_of Try.func112 rfl Try.ntmps112 nep ?_
  repeat' first
    | (apply TC_seq)
    | (apply TC_region)
    | (apply TC_block)
    | (apply TC_ret)
    | (apply TC_skip)
    | (apply TC_exit)
    | (apply TC_cond_true; exact rfl)
    | (apply TC_cond_false; exact rfl)
    | (apply T_nil)
    | (apply En_then)
    | (apply En_then_ret)
    | (apply En_then_exit)
    | (apply En_then_panic)
    | (apply En_block)
    | (apply En_block_ret)
    | (apply En_block_panic)
    | (apply En_block_exit)
    | (apply En_block_exit_ne; exact rfl)
    | (apply T_load; exact rfl; (first | refine pw_load (i := 0) rfl rfl rfl ?_ | refine pw_load (i := 1) rfl rfl rfl ?_ | refine pw_load (i := 2) rfl rfl rfl ?_ | refine pw_load (i := 3) rfl rfl rfl ?_ | refine pw_load (i := 4) rfl rfl rfl ?_ | refine pw_load (i := 5) rfl rfl rfl ?_ | refine pw_load_at rfl memr rfl ?_ | refine pw_load_at0 rfl memr rfl ?_ | refine pw_load_at rfl memt rfl ?_ | refine pw_load_at0 rfl memt rfl ?_); refine T_nv ?_)
    | (apply T_bin; exact rfl; (first | refine pw_add64 rfl rfl (by omega) (by omega) ?_ | refine pw_sub64 rfl rfl (by omega) (by omega) ?_ | refine pw_mul64 rfl rfl (by omega) (by omega) ?_ | refine pw_quo rfl rfl (by omega) (by omega) (by omega) ?_ | refine pw_rem rfl rfl (by omega) (by omega) ?_); refine T_nv ?_)
    | (apply T_bin; exact rfl; (first | refine pw_lss rfl rfl (fun h => ?_) (fun h => ?_) | refine pw_leq rfl rfl (fun h => ?_) (fun h => ?_) | refine pw_gtr rfl rfl (fun h => ?_) (fun h => ?_) | refine pw_geq rfl rfl (fun h => ?_) (fun h => ?_) | refine pw_eql rfl rfl (fun h => ?_) (fun h => ?_) | refine pw_neq rfl rfl (fun h => ?_) (fun h => ?_)) <;> first | (exfalso; omega) | refine T_nv ?_)
    | (refine T_pure rfl rfl ?_; (first | refine pw_mv ?_ | refine pw_as ?_ | refine pw_pick_t rfl evp ?_ | refine pw_pick_f rfl evp ?_ | refine pw_nilCheck rfl ?_ | refine pw_fieldAddr rfl ?_ | refine pw_len rfl ?_ | refine pw_lens rfl ?_ | refine pw_extract rfl rfl ?_ | refine pw_not rfl ?_ | refine pw_makeFuncL agp agp ?_ | refine pw_build bldp ?_ | refine pw_makeInterface rfl ?_); refine T_nv ?_)
    | (refine T_skipped rfl ?_; refine T_nv ?_)
    | (refine T_gen rfl rfl ?_; (first | refine gw_box clp (fun b => ?_) | refine gw_alloc clp (fun b => ?_) | refine gw_buildSlice (by decide) prtp rfl (fun b => ?_)); refine T_nv ?_)
  refine T_rd rfl rfl (number_r br A c xs hx) (Nat.zero_le _) hax hm (fun n a1 y hn h1 h2 hI => ?_) (fun e he => ?_)
  rotate_left
  · skip
    repeat' first
      | (apply TC_seq)
      | (apply TC_region)
      | (apply TC_block)
      | (apply TC_ret)
      | (apply TC_skip)
      | (apply TC_exit)
      | (apply TC_cond_true; exact rfl)
      | (apply TC_cond_false; exact rfl)
      | (apply T_nil)
      | (apply En_then)
      | (apply En_then_ret)
      | (apply En_then_exit)
      | (apply En_then_panic)
      | (apply En_block)
      | (apply En_block_ret)
      | (apply En_block_panic)
      | (apply En_block_exit)
      | (apply En_block_exit_ne; exact rfl)
      | (apply T_load; exact rfl; (first | refine pw_load (i := 0) rfl rfl rfl ?_ | refine pw_load (i := 1) rfl rfl rfl ?_ | refine pw_load (i := 2) rfl rfl rfl ?_ | refine pw_load (i := 3) rfl rfl rfl ?_ | refine pw_load (i := 4) rfl rfl rfl ?_ | refine pw_load (i := 5) rfl rfl rfl ?_ | refine pw_load_at rfl memr rfl ?_ | refine pw_load_at0 rfl memr rfl ?_ | refine pw_load_at rfl memt rfl ?_ | refine pw_load_at0 rfl memt rfl ?_); refine T_nv ?_)
      | (apply T_bin; exact rfl; (first | refine pw_add64 rfl rfl (by omega) (by omega) ?_ | refine pw_sub64 rfl rfl (by omega) (by omega) ?_ | refine pw_mul64 rfl rfl (by omega) (by omega) ?_ | refine pw_quo rfl rfl (by omega) (by omega) (by omega) ?_ | refine pw_rem rfl rfl (by omega) (by omega) ?_); refine T_nv ?_)
      | (apply T_bin; exact rfl; (first | refine pw_lss rfl rfl (fun h => ?_) (fun h => ?_) | refine pw_leq rfl rfl (fun h => ?_) (fun h => ?_) | refine pw_gtr rfl rfl (fun h => ?_) (fun h => ?_) | refine pw_geq rfl rfl (fun h => ?_) (fun h => ?_) | refine pw_eql rfl rfl (fun h => ?_) (fun h => ?_) | refine pw_neq rfl rfl (fun h => ?_) (fun h => ?_)) <;> first | (exfalso; omega) | refine T_nv ?_)
      | (refine T_pure rfl rfl ?_; (first | refine pw_mv ?_ | refine pw_as ?_ | refine pw_pick_t rfl evp ?_ | refine pw_pick_f rfl evp ?_ | refine pw_nilCheck rfl ?_ | refine pw_fieldAddr rfl ?_ | refine pw_len rfl ?_ | refine pw_lens rfl ?_ | refine pw_extract rfl rfl ?_ | refine pw_not rfl ?_ | refine pw_makeFuncL agp agp ?_ | refine pw_build bldp ?_ | refine pw_makeInterface rfl ?_); refine T_nv ?_)
      | (refine T_skipped rfl ?_; refine T_nv ?_)
      | (refine T_gen rfl rfl ?_; (first | refine gw_box clp (fun b => ?_) | refine gw_alloc clp (fun b => ?_) | refine gw_buildSlice (by decide) prtp rfl (fun b => ?_)); refine T_nv ?_)
    exact En_panicked (fin_P H R (fun w hs => hs) (hp e (by unfold lenI mapD lenD; rw [he])))
  refine T_nv ?_
  refine T_rp (R' := R) rfl ?_
  have hI' : -9223372036854775808 ≤ n ∧ n ≤ 9223372036854775807 := hI
  have hpos := (numD_in hn).2
  repeat' first
    | (apply TC_seq)
    | (apply TC_region)
    | (apply TC_block)
    | (apply TC_ret)
    | (apply TC_skip)
    | (apply TC_exit)
    | (apply TC_cond_true; exact rfl)
    | (apply TC_cond_false; exact rfl)
    | (apply T_nil)
    | (apply En_then)
    | (apply En_then_ret)
    | (apply En_then_exit)
    | (apply En_then_panic)
    | (apply En_block)
    | (apply En_block_ret)
    | (apply En_block_panic)
    | (apply En_block_exit)
    | (apply En_block_exit_ne; exact rfl)
    | (apply T_load; exact rfl; (first | refine pw_load (i := 0) rfl rfl rfl ?_ | refine pw_load (i := 1) rfl rfl rfl ?_ | refine pw_load (i := 2) rfl rfl rfl ?_ | refine pw_load (i := 3) rfl rfl rfl ?_ | refine pw_load (i := 4) rfl rfl rfl ?_ | refine pw_load (i := 5) rfl rfl rfl ?_ | refine pw_load_at rfl memr rfl ?_ | refine pw_load_at0 rfl memr rfl ?_ | refine pw_load_at rfl memt rfl ?_ | refine pw_load_at0 rfl memt rfl ?_); refine T_nv ?_)
    | (apply T_bin; exact rfl; (first | refine pw_add64 rfl rfl (by omega) (by omega) ?_ | refine pw_sub64 rfl rfl (by omega) (by omega) ?_ | refine pw_mul64 rfl rfl (by omega) (by omega) ?_ | refine pw_quo rfl rfl (by omega) (by omega) (by omega) ?_ | refine pw_rem rfl rfl (by omega) (by omega) ?_); refine T_nv ?_)
    | (apply T_bin; exact rfl; (first | refine pw_lss rfl rfl (fun h => ?_) (fun h => ?_) | refine pw_leq rfl rfl (fun h => ?_) (fun h => ?_) | refine pw_gtr rfl rfl (fun h => ?_) (fun h => ?_) | refine pw_geq rfl rfl (fun h => ?_) (fun h => ?_) | refine pw_eql rfl rfl (fun h => ?_) (fun h => ?_) | refine pw_neq rfl rfl (fun h => ?_) (fun h => ?_)) <;> first | (exfalso; omega) | refine T_nv ?_)
    | (refine T_pure rfl rfl ?_; (first | refine pw_mv ?_ | refine pw_as ?_ | refine pw_pick_t rfl evp ?_ | refine pw_pick_f rfl evp ?_ | refine pw_nilCheck rfl ?_ | refine pw_fieldAddr rfl ?_ | refine pw_len rfl ?_ | refine pw_lens rfl ?_ | refine pw_extract rfl rfl ?_ | refine pw_not rfl ?_ | refine pw_makeFuncL agp agp ?_ | refine pw_build bldp ?_ | refine pw_makeInterface rfl ?_); refine T_nv ?_)
    | (refine T_skipped rfl ?_; refine T_nv ?_)
    | (refine T_gen rfl rfl ?_; (first | refine gw_box clp (fun b => ?_) | refine gw_alloc clp (fun b => ?_) | refine gw_buildSlice (by decide) prtp rfl (fun b => ?_)); refine T_nv ?_)
  refine TC_draw mixed (by decide +kernel) (fun _ _ _ _ _ _ h => h) (List.Sublist.refl _) ?_
  all_goals first | (refine TA_p 0 ?_; (first | refine pw_mv ?_ | refine pw_as ?_ | refine pw_pick_t rfl evp ?_ | refine pw_pick_f rfl evp ?_ | refine pw_nilCheck rfl ?_ | refine pw_fieldAddr rfl ?_ | refine pw_len rfl ?_ | refine pw_lens rfl ?_ | refine pw_extract rfl rfl ?_ | refine pw_not rfl ?_ | refine pw_makeFuncL agp agp ?_ | refine pw_load (i := 0) rfl rfl rfl ?_ | refine pw_load (i := 1) rfl rfl rfl ?_ | refine pw_load (i := 2) rfl rfl rfl ?_ | refine pw_load (i := 3) rfl rfl rfl ?_ | refine pw_load (i := 4) rfl rfl rfl ?_ | refine pw_load (i := 5) rfl rfl rfl ?_ | refine pw_load_at rfl memr rfl ?_ | refine pw_load_at0 rfl memr rfl ?_ | refine pw_add64 rfl rfl (by omega) (by omega) ?_ | refine pw_sub64 rfl rfl (by omega) (by omega) ?_ | refine pw_mul64 rfl rfl (by omega) (by omega) ?_ | refine pw_quo rfl rfl (by omega) (by omega) (by omega) ?_ | refine pw_rem rfl rfl (by omega) (by omega) ?_ | refine pw_build bldp ?_ | refine pw_makeInterface rfl ?_ | refine pw_load_at rfl memt rfl ?_ | refine pw_load_at0 rfl memt rfl ?_); refine TA_nv ?_)
  all_goals first | (refine TA_p 1 ?_; (first | refine pw_lss rfl rfl (fun h => ?_) (fun h => ?_) | refine pw_leq rfl rfl (fun h => ?_) (fun h => ?_) | refine pw_gtr rfl rfl (fun h => ?_) (fun h => ?_) | refine pw_geq rfl rfl (fun h => ?_) (fun h => ?_) | refine pw_eql rfl rfl (fun h => ?_) (fun h => ?_) | refine pw_neq rfl rfl (fun h => ?_) (fun h => ?_)) <;> first | (exfalso; omega) | refine TA_nv ?_) | (refine TA_p 1 ?_; (first | refine pw_mv ?_ | refine pw_as ?_ | refine pw_pick_t rfl evp ?_ | refine pw_pick_f rfl evp ?_ | refine pw_nilCheck rfl ?_ | refine pw_fieldAddr rfl ?_ | refine pw_len rfl ?_ | refine pw_lens rfl ?_ | refine pw_extract rfl rfl ?_ | refine pw_not rfl ?_ | refine pw_makeFuncL agp agp ?_ | refine pw_load (i := 0) rfl rfl rfl ?_ | refine pw_load (i := 1) rfl rfl rfl ?_ | refine pw_load (i := 2) rfl rfl rfl ?_ | refine pw_load (i := 3) rfl rfl rfl ?_ | refine pw_load (i := 4) rfl rfl rfl ?_ | refine pw_load (i := 5) rfl rfl rfl ?_ | refine pw_load_at rfl memr rfl ?_ | refine pw_load_at0 rfl memr rfl ?_ | refine pw_add64 rfl rfl (by omega) (by omega) ?_ | refine pw_sub64 rfl rfl (by omega) (by omega) ?_ | refine pw_mul64 rfl rfl (by omega) (by omega) ?_ | refine pw_quo rfl rfl (by omega) (by omega) (by omega) ?_ | refine pw_rem rfl rfl (by omega) (by omega) ?_ | refine pw_build bldp ?_ | refine pw_makeInterface rfl ?_ | refine pw_load_at rfl memt rfl ?_ | refine pw_load_at0 rfl memt rfl ?_); refine TA_nv ?_)
  all_goals first | (refine TA_p 2 ?_; (first | refine pw_mv ?_ | refine pw_as ?_ | refine pw_pick_t rfl evp ?_ | refine pw_pick_f rfl evp ?_ | refine pw_nilCheck rfl ?_ | refine pw_fieldAddr rfl ?_ | refine pw_len rfl ?_ | refine pw_lens rfl ?_ | refine pw_extract rfl rfl ?_ | refine pw_not rfl ?_ | refine pw_makeFuncL agp agp ?_ | refine pw_load (i := 0) rfl rfl rfl ?_ | refine pw_load (i := 1) rfl rfl rfl ?_ | refine pw_load (i := 2) rfl rfl rfl ?_ | refine pw_load (i := 3) rfl rfl rfl ?_ | refine pw_load (i := 4) rfl rfl rfl ?_ | refine pw_load (i := 5) rfl rfl rfl ?_ | refine pw_load_at rfl memr rfl ?_ | refine pw_load_at0 rfl memr rfl ?_ | refine pw_add64 rfl rfl (by omega) (by omega) ?_ | refine pw_sub64 rfl rfl (by omega) (by omega) ?_ | refine pw_mul64 rfl rfl (by omega) (by omega) ?_ | refine pw_quo rfl rfl (by omega) (by omega) (by omega) ?_ | refine pw_rem rfl rfl (by omega) (by omega) ?_ | refine pw_build bldp ?_ | refine pw_makeInterface rfl ?_ | refine pw_load_at rfl memt rfl ?_ | refine pw_load_at0 rfl memt rfl ?_); refine TA_nv ?_)
  all_goals first | (refine TA_p 3 ?_; (first | refine pw_mv ?_ | refine pw_as ?_ | refine pw_pick_t rfl evp ?_ | refine pw_pick_f rfl evp ?_ | refine pw_nilCheck rfl ?_ | refine pw_fieldAddr rfl ?_ | refine pw_len rfl ?_ | refine pw_lens rfl ?_ | refine pw_extract rfl rfl ?_ | refine pw_not rfl ?_ | refine pw_makeFuncL agp agp ?_ | refine pw_load (i := 0) rfl rfl rfl ?_ | refine pw_load (i := 1) rfl rfl rfl ?_ | refine pw_load (i := 2) rfl rfl rfl ?_ | refine pw_load (i := 3) rfl rfl rfl ?_ | refine pw_load (i := 4) rfl rfl rfl ?_ | refine pw_load (i := 5) rfl rfl rfl ?_ | refine pw_load_at rfl memr rfl ?_ | refine pw_load_at0 rfl memr rfl ?_ | refine pw_add64 rfl rfl (by omega) (by omega) ?_ | refine pw_sub64 rfl rfl (by omega) (by omega) ?_ | refine pw_mul64 rfl rfl (by omega) (by omega) ?_ | refine pw_quo rfl rfl (by omega) (by omega) (by omega) ?_ | refine pw_rem rfl rfl (by omega) (by omega) ?_ | refine pw_build bldp ?_ | refine pw_makeInterface rfl ?_ | refine pw_load_at rfl memt rfl ?_ | refine pw_load_at0 rfl memt rfl ?_); refine TA_nv ?_) | (refine TA_ks 3 (List.Sublist.refl _) ?_)
  all_goals first | (refine TA_p 4 ?_; (first | refine pw_mv ?_ | refine pw_as ?_ | refine pw_pick_t rfl evp ?_ | refine pw_pick_f rfl evp ?_ | refine pw_nilCheck rfl ?_ | refine pw_fieldAddr rfl ?_ | refine pw_len rfl ?_ | refine pw_lens rfl ?_ | refine pw_extract rfl rfl ?_ | refine pw_not rfl ?_ | refine pw_makeFuncL agp agp ?_ | refine pw_load (i := 0) rfl rfl rfl ?_ | refine pw_load (i := 1) rfl rfl rfl ?_ | refine pw_load (i := 2) rfl rfl rfl ?_ | refine pw_load (i := 3) rfl rfl rfl ?_ | refine pw_load (i := 4) rfl rfl rfl ?_ | refine pw_load (i := 5) rfl rfl rfl ?_ | refine pw_load_at rfl memr rfl ?_ | refine pw_load_at0 rfl memr rfl ?_ | refine pw_add64 rfl rfl (by omega) (by omega) ?_ | refine pw_sub64 rfl rfl (by omega) (by omega) ?_ | refine pw_mul64 rfl rfl (by omega) (by omega) ?_ | refine pw_quo rfl rfl (by omega) (by omega) (by omega) ?_ | refine pw_rem rfl rfl (by omega) (by omega) ?_ | refine pw_build bldp ?_ | refine pw_makeInterface rfl ?_ | refine pw_load_at rfl memt rfl ?_ | refine pw_load_at0 rfl memt rfl ?_); refine TA_nv ?_) | (refine TA_ks 4 (List.Sublist.refl _) ?_)
  all_goals first | (refine TA_p 5 ?_; (first | refine pw_mv ?_ | refine pw_as ?_ | refine pw_pick_t rfl evp ?_ | refine pw_pick_f rfl evp ?_ | refine pw_nilCheck rfl ?_ | refine pw_fieldAddr rfl ?_ | refine pw_len rfl ?_ | refine pw_lens rfl ?_ | refine pw_extract rfl rfl ?_ | refine pw_not rfl ?_ | refine pw_makeFuncL agp agp ?_ | refine pw_load (i := 0) rfl rfl rfl ?_ | refine pw_load (i := 1) rfl rfl rfl ?_ | refine pw_load (i := 2) rfl rfl rfl ?_ | refine pw_load (i := 3) rfl rfl rfl ?_ | refine pw_load (i := 4) rfl rfl rfl ?_ | refine pw_load (i := 5) rfl rfl rfl ?_ | refine pw_load_at rfl memr rfl ?_ | refine pw_load_at0 rfl memr rfl ?_ | refine pw_add64 rfl rfl (by omega) (by omega) ?_ | refine pw_sub64 rfl rfl (by omega) (by omega) ?_ | refine pw_mul64 rfl rfl (by omega) (by omega) ?_ | refine pw_quo rfl rfl (by omega) (by omega) (by omega) ?_ | refine pw_rem rfl rfl (by omega) (by omega) ?_ | refine pw_build bldp ?_ | refine pw_makeInterface rfl ?_ | refine pw_load_at rfl memt rfl ?_ | refine pw_load_at0 rfl memt rfl ?_); refine TA_nv ?_) | (refine TA_ks 5 (List.Sublist.refl _) ?_)
  all_goals first | (refine TA_p 6 ?_; (first | refine pw_mv ?_ | refine pw_as ?_ | refine pw_pick_t rfl evp ?_ | refine pw_pick_f rfl evp ?_ | refine pw_nilCheck rfl ?_ | refine pw_fieldAddr rfl ?_ | refine pw_len rfl ?_ | refine pw_lens rfl ?_ | refine pw_extract rfl rfl ?_ | refine pw_not rfl ?_ | refine pw_makeFuncL agp agp ?_ | refine pw_load (i := 0) rfl rfl rfl ?_ | refine pw_load (i := 1) rfl rfl rfl ?_ | refine pw_load (i := 2) rfl rfl rfl ?_ | refine pw_load (i := 3) rfl rfl rfl ?_ | refine pw_load (i := 4) rfl rfl rfl ?_ | refine pw_load (i := 5) rfl rfl rfl ?_ | refine pw_load_at rfl memr rfl ?_ | refine pw_load_at0 rfl memr rfl ?_ | refine pw_add64 rfl rfl (by omega) (by omega) ?_ | refine pw_sub64 rfl rfl (by omega) (by omega) ?_ | refine pw_mul64 rfl rfl (by omega) (by omega) ?_ | refine pw_quo rfl rfl (by omega) (by omega) (by omega) ?_ | refine pw_rem rfl rfl (by omega) (by omega) ?_ | refine pw_build bldp ?_ | refine pw_makeInterface rfl ?_ | refine pw_load_at rfl memt rfl ?_ | refine pw_load_at0 rfl memt rfl ?_); refine TA_nv ?_) | (refine TA_ks 6 (List.Sublist.refl _) ?_)
  all_goals first | (refine TA_p 7 ?_; (first | refine pw_mv ?_ | refine pw_as ?_ | refine pw_pick_t rfl evp ?_ | refine pw_pick_f rfl evp ?_ | refine pw_nilCheck rfl ?_ | refine pw_fieldAddr rfl ?_ | refine pw_len rfl ?_ | refine pw_lens rfl ?_ | refine pw_extract rfl rfl ?_ | refine pw_not rfl ?_ | refine pw_makeFuncL agp agp ?_ | refine pw_load (i := 0) rfl rfl rfl ?_ | refine pw_load (i := 1) rfl rfl rfl ?_ | refine pw_load (i := 2) rfl rfl rfl ?_ | refine pw_load (i := 3) rfl rfl rfl ?_ | refine pw_load (i := 4) rfl rfl rfl ?_ | refine pw_load (i := 5) rfl rfl rfl ?_ | refine pw_load_at rfl memr rfl ?_ | refine pw_load_at0 rfl memr rfl ?_ | refine pw_add64 rfl rfl (by omega) (by omega) ?_ | refine pw_sub64 rfl rfl (by omega) (by omega) ?_ | refine pw_mul64 rfl rfl (by omega) (by omega) ?_ | refine pw_quo rfl rfl (by omega) (by omega) (by omega) ?_ | refine pw_rem rfl rfl (by omega) (by omega) ?_ | refine pw_build bldp ?_ | refine pw_makeInterface rfl ?_ | refine pw_load_at rfl memt rfl ?_ | refine pw_load_at0 rfl memt rfl ?_); refine TA_nv ?_) | (refine TA_ks 7 (List.Sublist.refl _) ?_)
  all_goals first | (refine TA_p 8 ?_; (first | refine pw_mv ?_ | refine pw_as ?_ | refine pw_pick_t rfl evp ?_ | refine pw_pick_f rfl evp ?_ | refine pw_nilCheck rfl ?_ | refine pw_fieldAddr rfl ?_ | refine pw_len rfl ?_ | refine pw_lens rfl ?_ | refine pw_extract rfl rfl ?_ | refine pw_not rfl ?_ | refine pw_makeFuncL agp agp ?_ | refine pw_load (i := 0) rfl rfl rfl ?_ | refine pw_load (i := 1) rfl rfl rfl ?_ | refine pw_load (i := 2) rfl rfl rfl ?_ | refine pw_load (i := 3) rfl rfl rfl ?_ | refine pw_load (i := 4) rfl rfl rfl ?_ | refine pw_load (i := 5) rfl rfl rfl ?_ | refine pw_load_at rfl memr rfl ?_ | refine pw_load_at0 rfl memr rfl ?_ | refine pw_add64 rfl rfl (by omega) (by omega) ?_ | refine pw_sub64 rfl rfl (by omega) (by omega) ?_ | refine pw_mul64 rfl rfl (by omega) (by omega) ?_ | refine pw_quo rfl rfl (by omega) (by omega) (by omega) ?_ | refine pw_rem rfl rfl (by omega) (by omega) ?_ | refine pw_build bldp ?_ | refine pw_makeInterface rfl ?_ | refine pw_load_at rfl memt rfl ?_ | refine pw_load_at0 rfl memt rfl ?_); refine TA_nv ?_) | (refine TA_ks 8 (List.Sublist.refl _) ?_)
  all_goals first | (refine TA_p 9 ?_; (first | refine pw_mv ?_ | refine pw_as ?_ | refine pw_pick_t rfl evp ?_ | refine pw_pick_f rfl evp ?_ | refine pw_nilCheck rfl ?_ | refine pw_fieldAddr rfl ?_ | refine pw_len rfl ?_ | refine pw_lens rfl ?_ | refine pw_extract rfl rfl ?_ | refine pw_not rfl ?_ | refine pw_makeFuncL agp agp ?_ | refine pw_load (i := 0) rfl rfl rfl ?_ | refine pw_load (i := 1) rfl rfl rfl ?_ | refine pw_load (i := 2) rfl rfl rfl ?_ | refine pw_load (i := 3) rfl rfl rfl ?_ | refine pw_load (i := 4) rfl rfl rfl ?_ | refine pw_load (i := 5) rfl rfl rfl ?_ | refine pw_load_at rfl memr rfl ?_ | refine pw_load_at0 rfl memr rfl ?_ | refine pw_add64 rfl rfl (by omega) (by omega) ?_ | refine pw_sub64 rfl rfl (by omega) (by omega) ?_ | refine pw_mul64 rfl rfl (by omega) (by omega) ?_ | refine pw_quo rfl rfl (by omega) (by omega) (by omega) ?_ | refine pw_rem rfl rfl (by omega) (by omega) ?_ | refine pw_build bldp ?_ | refine pw_makeInterface rfl ?_ | refine pw_load_at rfl memt rfl ?_ | refine pw_load_at0 rfl memt rfl ?_); refine TA_nv ?_) | (refine TA_ks 9 (List.Sublist.refl _) ?_)
  all_goals first | (refine TA_p 10 ?_; (first | refine pw_mv ?_ | refine pw_as ?_ | refine pw_pick_t rfl evp ?_ | refine pw_pick_f rfl evp ?_ | refine pw_nilCheck rfl ?_ | refine pw_fieldAddr rfl ?_ | refine pw_len rfl ?_ | refine pw_lens rfl ?_ | refine pw_extract rfl rfl ?_ | refine pw_not rfl ?_ | refine pw_makeFuncL agp agp ?_ | refine pw_load (i := 0) rfl rfl rfl ?_ | refine pw_load (i := 1) rfl rfl rfl ?_ | refine pw_load (i := 2) rfl rfl rfl ?_ | refine pw_load (i := 3) rfl rfl rfl ?_ | refine pw_load (i := 4) rfl rfl rfl ?_ | refine pw_load (i := 5) rfl rfl rfl ?_ | refine pw_load_at rfl memr rfl ?_ | refine pw_load_at0 rfl memr rfl ?_ | refine pw_add64 rfl rfl (by omega) (by omega) ?_ | refine pw_sub64 rfl rfl (by omega) (by omega) ?_ | refine pw_mul64 rfl rfl (by omega) (by omega) ?_ | refine pw_quo rfl rfl (by omega) (by omega) (by omega) ?_ | refine pw_rem rfl rfl (by omega) (by omega) ?_ | refine pw_build bldp ?_ | refine pw_makeInterface rfl ?_ | refine pw_load_at rfl memt rfl ?_ | refine pw_load_at0 rfl memt rfl ?_); refine TA_nv ?_) | (refine TA_ks 10 (List.Sublist.refl _) ?_)
  all_goals first | (refine TA_p 11 ?_; (first | refine pw_mv ?_ | refine pw_as ?_ | refine pw_pick_t rfl evp ?_ | refine pw_pick_f rfl evp ?_ | refine pw_nilCheck rfl ?_ | refine pw_fieldAddr rfl ?_ | refine pw_len rfl ?_ | refine pw_lens rfl ?_ | refine pw_extract rfl rfl ?_ | refine pw_not rfl ?_ | refine pw_makeFuncL agp agp ?_ | refine pw_load (i := 0) rfl rfl rfl ?_ | refine pw_load (i := 1) rfl rfl rfl ?_ | refine pw_load (i := 2) rfl rfl rfl ?_ | refine pw_load (i := 3) rfl rfl rfl ?_ | refine pw_load (i := 4) rfl rfl rfl ?_ | refine pw_load (i := 5) rfl rfl rfl ?_ | refine pw_load_at rfl memr rfl ?_ | refine pw_load_at0 rfl memr rfl ?_ | refine pw_add64 rfl rfl (by omega) (by omega) ?_ | refine pw_sub64 rfl rfl (by omega) (by omega) ?_ | refine pw_mul64 rfl rfl (by omega) (by omega) ?_ | refine pw_quo rfl rfl (by omega) (by omega) (by omega) ?_ | refine pw_rem rfl rfl (by omega) (by omega) ?_ | refine pw_build bldp ?_ | refine pw_makeInterface rfl ?_ | refine pw_load_at rfl memt rfl ?_ | refine pw_load_at0 rfl memt rfl ?_); refine TA_nv ?_) | (refine TA_ks 11 (List.Sublist.refl _) ?_)
  all_goals first | (refine TA_p 12 ?_; (first | refine pw_mv ?_ | refine pw_as ?_ | refine pw_pick_t rfl evp ?_ | refine pw_pick_f rfl evp ?_ | refine pw_nilCheck rfl ?_ | refine pw_fieldAddr rfl ?_ | refine pw_len rfl ?_ | refine pw_lens rfl ?_ | refine pw_extract rfl rfl ?_ | refine pw_not rfl ?_ | refine pw_makeFuncL agp agp ?_ | refine pw_load (i := 0) rfl rfl rfl ?_ | refine pw_load (i := 1) rfl rfl rfl ?_ | refine pw_load (i := 2) rfl rfl rfl ?_ | refine pw_load (i := 3) rfl rfl rfl ?_ | refine pw_load (i := 4) rfl rfl rfl ?_ | refine pw_load (i := 5) rfl rfl rfl ?_ | refine pw_load_at rfl memr rfl ?_ | refine pw_load_at0 rfl memr rfl ?_ | refine pw_add64 rfl rfl (by omega) (by omega) ?_ | refine pw_sub64 rfl rfl (by omega) (by omega) ?_ | refine pw_mul64 rfl rfl (by omega) (by omega) ?_ | refine pw_quo rfl rfl (by omega) (by omega) (by omega) ?_ | refine pw_rem rfl rfl (by omega) (by omega) ?_ | refine pw_build bldp ?_ | refine pw_makeInterface rfl ?_ | refine pw_load_at rfl memt rfl ?_ | refine pw_load_at0 rfl memt rfl ?_); refine TA_nv ?_) | (refine TA_ks 12 (List.Sublist.refl _) ?_)
  all_goals first | (refine TA_p 13 ?_; (first | refine pw_mv ?_ | refine pw_as ?_ | refine pw_pick_t rfl evp ?_ | refine pw_pick_f rfl evp ?_ | refine pw_nilCheck rfl ?_ | refine pw_fieldAddr rfl ?_ | refine pw_len rfl ?_ | refine pw_lens rfl ?_ | refine pw_extract rfl rfl ?_ | refine pw_not rfl ?_ | refine pw_makeFuncL agp agp ?_ | refine pw_load (i := 0) rfl rfl rfl ?_ | refine pw_load (i := 1) rfl rfl rfl ?_ | refine pw_load (i := 2) rfl rfl rfl ?_ | refine pw_load (i := 3) rfl rfl rfl ?_ | refine pw_load (i := 4) rfl rfl rfl ?_ | refine pw_load (i := 5) rfl rfl rfl ?_ | refine pw_load_at rfl memr rfl ?_ | refine pw_load_at0 rfl memr rfl ?_ | refine pw_add64 rfl rfl (by omega) (by omega) ?_ | refine pw_sub64 rfl rfl (by omega) (by omega) ?_ | refine pw_mul64 rfl rfl (by omega) (by omega) ?_ | refine pw_quo rfl rfl (by omega) (by omega) (by omega) ?_ | refine pw_rem rfl rfl (by omega) (by omega) ?_ | refine pw_build bldp ?_ | refine pw_makeInterface rfl ?_ | refine pw_load_at rfl memt rfl ?_ | refine pw_load_at0 rfl memt rfl ?_); refine TA_nv ?_) | (refine TA_ks 13 (List.Sublist.refl _) ?_)
  all_goals first | (refine TA_p 14 ?_; (first | refine pw_mv ?_ | refine pw_as ?_ | refine pw_pick_t rfl evp ?_ | refine pw_pick_f rfl evp ?_ | refine pw_nilCheck rfl ?_ | refine pw_fieldAddr rfl ?_ | refine pw_len rfl ?_ | refine pw_lens rfl ?_ | refine pw_extract rfl rfl ?_ | refine pw_not rfl ?_ | refine pw_makeFuncL agp agp ?_ | refine pw_load (i := 0) rfl rfl rfl ?_ | refine pw_load (i := 1) rfl rfl rfl ?_ | refine pw_load (i := 2) rfl rfl rfl ?_ | refine pw_load (i := 3) rfl rfl rfl ?_ | refine pw_load (i := 4) rfl rfl rfl ?_ | refine pw_load (i := 5) rfl rfl rfl ?_ | refine pw_load_at rfl memr rfl ?_ | refine pw_load_at0 rfl memr rfl ?_ | refine pw_add64 rfl rfl (by omega) (by omega) ?_ | refine pw_sub64 rfl rfl (by omega) (by omega) ?_ | refine pw_mul64 rfl rfl (by omega) (by omega) ?_ | refine pw_quo rfl rfl (by omega) (by omega) (by omega) ?_ | refine pw_rem rfl rfl (by omega) (by omega) ?_ | refine pw_build bldp ?_ | refine pw_makeInterface rfl ?_ | refine pw_load_at rfl memt rfl ?_ | refine pw_load_at0 rfl memt rfl ?_); refine TA_nv ?_) | (refine TA_ks 14 (List.Sublist.refl _) ?_)
  all_goals first | (refine TA_p 15 ?_; (first | refine pw_lss rfl rfl (fun h => ?_) (fun h => ?_) | refine pw_leq rfl rfl (fun h => ?_) (fun h => ?_) | refine pw_gtr rfl rfl (fun h => ?_) (fun h => ?_) | refine pw_geq rfl rfl (fun h => ?_) (fun h => ?_) | refine pw_eql rfl rfl (fun h => ?_) (fun h => ?_) | refine pw_neq rfl rfl (fun h => ?_) (fun h => ?_)) <;> first | (exfalso; omega) | refine TA_nv ?_) | (refine TA_p 15 ?_; (first | refine pw_mv ?_ | refine pw_as ?_ | refine pw_pick_t rfl evp ?_ | refine pw_pick_f rfl evp ?_ | refine pw_nilCheck rfl ?_ | refine pw_fieldAddr rfl ?_ | refine pw_len rfl ?_ | refine pw_lens rfl ?_ | refine pw_extract rfl rfl ?_ | refine pw_not rfl ?_ | refine pw_makeFuncL agp agp ?_ | refine pw_load (i := 0) rfl rfl rfl ?_ | refine pw_load (i := 1) rfl rfl rfl ?_ | refine pw_load (i := 2) rfl rfl rfl ?_ | refine pw_load (i := 3) rfl rfl rfl ?_ | refine pw_load (i := 4) rfl rfl rfl ?_ | refine pw_load (i := 5) rfl rfl rfl ?_ | refine pw_load_at rfl memr rfl ?_ | refine pw_load_at0 rfl memr rfl ?_ | refine pw_add64 rfl rfl (by omega) (by omega) ?_ | refine pw_sub64 rfl rfl (by omega) (by omega) ?_ | refine pw_mul64 rfl rfl (by omega) (by omega) ?_ | refine pw_quo rfl rfl (by omega) (by omega) (by omega) ?_ | refine pw_rem rfl rfl (by omega) (by omega) ?_ | refine pw_build bldp ?_ | refine pw_makeInterface rfl ?_ | refine pw_load_at rfl memt rfl ?_ | refine pw_load_at0 rfl memt rfl ?_); refine TA_nv ?_) | (refine TA_ks 15 (List.Sublist.refl _) ?_)
  all_goals first | (refine TA_p 16 ?_; (first | refine pw_lss rfl rfl (fun h => ?_) (fun h => ?_) | refine pw_leq rfl rfl (fun h => ?_) (fun h => ?_) | refine pw_gtr rfl rfl (fun h => ?_) (fun h => ?_) | refine pw_geq rfl rfl (fun h => ?_) (fun h => ?_) | refine pw_eql rfl rfl (fun h => ?_) (fun h => ?_) | refine pw_neq rfl rfl (fun h => ?_) (fun h => ?_)) <;> first | (exfalso; omega) | refine TA_nv ?_) | (refine TA_p 16 ?_; (first | refine pw_mv ?_ | refine pw_as ?_ | refine pw_pick_t rfl evp ?_ | refine pw_pick_f rfl evp ?_ | refine pw_nilCheck rfl ?_ | refine pw_fieldAddr rfl ?_ | refine pw_len rfl ?_ | refine pw_lens rfl ?_ | refine pw_extract rfl rfl ?_ | refine pw_not rfl ?_ | refine pw_makeFuncL agp agp ?_ | refine pw_load (i := 0) rfl rfl rfl ?_ | refine pw_load (i := 1) rfl rfl rfl ?_ | refine pw_load (i := 2) rfl rfl rfl ?_ | refine pw_load (i := 3) rfl rfl rfl ?_ | refine pw_load (i := 4) rfl rfl rfl ?_ | refine pw_load (i := 5) rfl rfl rfl ?_ | refine pw_load_at rfl memr rfl ?_ | refine pw_load_at0 rfl memr rfl ?_ | refine pw_add64 rfl rfl (by omega) (by omega) ?_ | refine pw_sub64 rfl rfl (by omega) (by omega) ?_ | refine pw_mul64 rfl rfl (by omega) (by omega) ?_ | refine pw_quo rfl rfl (by omega) (by omega) (by omega) ?_ | refine pw_rem rfl rfl (by omega) (by omega) ?_ | refine pw_build bldp ?_ | refine pw_makeInterface rfl ?_ | refine pw_load_at rfl memt rfl ?_ | refine pw_load_at0 rfl memt rfl ?_); refine TA_nv ?_) | (refine TA_ks 16 (List.Sublist.refl _) ?_)
  all_goals first | (refine TA_p 17 ?_; (first | refine pw_mv ?_ | refine pw_as ?_ | refine pw_pick_t rfl evp ?_ | refine pw_pick_f rfl evp ?_ | refine pw_nilCheck rfl ?_ | refine pw_fieldAddr rfl ?_ | refine pw_len rfl ?_ | refine pw_lens rfl ?_ | refine pw_extract rfl rfl ?_ | refine pw_not rfl ?_ | refine pw_makeFuncL agp agp ?_ | refine pw_load (i := 0) rfl rfl rfl ?_ | refine pw_load (i := 1) rfl rfl rfl ?_ | refine pw_load (i := 2) rfl rfl rfl ?_ | refine pw_load (i := 3) rfl rfl rfl ?_ | refine pw_load (i := 4) rfl rfl rfl ?_ | refine pw_load (i := 5) rfl rfl rfl ?_ | refine pw_load_at rfl memr rfl ?_ | refine pw_load_at0 rfl memr rfl ?_ | refine pw_add64 rfl rfl (by omega) (by omega) ?_ | refine pw_sub64 rfl rfl (by omega) (by omega) ?_ | refine pw_mul64 rfl rfl (by omega) (by omega) ?_ | refine pw_quo rfl rfl (by omega) (by omega) (by omega) ?_ | refine pw_rem rfl rfl (by omega) (by omega) ?_ | refine pw_build bldp ?_ | refine pw_makeInterface rfl ?_ | refine pw_load_at rfl memt rfl ?_ | refine pw_load_at0 rfl memt rfl ?_); refine TA_nv ?_)
  all_goals refine TA_d ?_
  · skip
    repeat' first
      | (apply TC_seq)
      | (apply TC_region)
      | (apply TC_block)
      | (apply TC_ret)
      | (apply TC_skip)
      | (apply TC_exit)
      | (apply TC_cond_true; exact rfl)
      | (apply TC_cond_false; exact rfl)
      | (apply T_nil)
      | (apply En_then)
      | (apply En_then_ret)
      | (apply En_then_exit)
      | (apply En_then_panic)
      | (apply En_block)
      | (apply En_block_ret)
      | (apply En_block_panic)
      | (apply En_block_exit)
      | (apply En_block_exit_ne; exact rfl)
      | (apply T_load; exact rfl; (first | refine pw_load (i := 0) rfl rfl rfl ?_ | refine pw_load (i := 1) rfl rfl rfl ?_ | refine pw_load (i := 2) rfl rfl rfl ?_ | refine pw_load (i := 3) rfl rfl rfl ?_ | refine pw_load (i := 4) rfl rfl rfl ?_ | refine pw_load (i := 5) rfl rfl rfl ?_ | refine pw_load_at rfl memr rfl ?_ | refine pw_load_at0 rfl memr rfl ?_ | refine pw_load_at rfl memt rfl ?_ | refine pw_load_at0 rfl memt rfl ?_); refine T_nv ?_)
      | (apply T_bin; exact rfl; (first | refine pw_add64 rfl rfl (by omega) (by omega) ?_ | refine pw_sub64 rfl rfl (by omega) (by omega) ?_ | refine pw_mul64 rfl rfl (by omega) (by omega) ?_ | refine pw_quo rfl rfl (by omega) (by omega) (by omega) ?_ | refine pw_rem rfl rfl (by omega) (by omega) ?_); refine T_nv ?_)
      | (apply T_bin; exact rfl; (first | refine pw_lss rfl rfl (fun h => ?_) (fun h => ?_) | refine pw_leq rfl rfl (fun h => ?_) (fun h => ?_) | refine pw_gtr rfl rfl (fun h => ?_) (fun h => ?_) | refine pw_geq rfl rfl (fun h => ?_) (fun h => ?_) | refine pw_eql rfl rfl (fun h => ?_) (fun h => ?_) | refine pw_neq rfl rfl (fun h => ?_) (fun h => ?_)) <;> first | (exfalso; omega) | refine T_nv ?_)
      | (refine T_pure rfl rfl ?_; (first | refine pw_mv ?_ | refine pw_as ?_ | refine pw_pick_t rfl evp ?_ | refine pw_pick_f rfl evp ?_ | refine pw_nilCheck rfl ?_ | refine pw_fieldAddr rfl ?_ | refine pw_len rfl ?_ | refine pw_lens rfl ?_ | refine pw_extract rfl rfl ?_ | refine pw_not rfl ?_ | refine pw_makeFuncL agp agp ?_ | refine pw_build bldp ?_ | refine pw_makeInterface rfl ?_); refine T_nv ?_)
      | (refine T_skipped rfl ?_; refine T_nv ?_)
      | (refine T_gen rfl rfl ?_; (first | refine gw_box clp (fun b => ?_) | refine gw_alloc clp (fun b => ?_) | refine gw_buildSlice (by decide) prtp rfl (fun b => ?_)); refine T_nv ?_)
    refine T_back rfl rfl (by omega) (by omega) ?_
    repeat' first | apply En_then_panic | apply En_midP_panic | apply En_block_panic
    refine En_panicked (fin_P H R (fun w hs => hs) (hp _ (by unfold lenI mapD lenD; rw [hn]; simp only; rw [if_pos (by omega)])))
  · skip
    repeat' first
      | (apply TC_seq)
      | (apply TC_region)
      | (apply TC_block)
      | (apply TC_ret)
      | (apply TC_skip)
      | (apply TC_exit)
      | (apply TC_cond_true; exact rfl)
      | (apply TC_cond_false; exact rfl)
      | (apply T_nil)
      | (apply En_then)
      | (apply En_then_ret)
      | (apply En_then_exit)
      | (apply En_then_panic)
      | (apply En_block)
      | (apply En_block_ret)
      | (apply En_block_panic)
      | (apply En_block_exit)
      | (apply En_block_exit_ne; exact rfl)
      | (apply T_load; exact rfl; (first | refine pw_load (i := 0) rfl rfl rfl ?_ | refine pw_load (i := 1) rfl rfl rfl ?_ | refine pw_load (i := 2) rfl rfl rfl ?_ | refine pw_load (i := 3) rfl rfl rfl ?_ | refine pw_load (i := 4) rfl rfl rfl ?_ | refine pw_load (i := 5) rfl rfl rfl ?_ | refine pw_load_at rfl memr rfl ?_ | refine pw_load_at0 rfl memr rfl ?_ | refine pw_load_at rfl memt rfl ?_ | refine pw_load_at0 rfl memt rfl ?_); refine T_nv ?_)
      | (apply T_bin; exact rfl; (first | refine pw_add64 rfl rfl (by omega) (by omega) ?_ | refine pw_sub64 rfl rfl (by omega) (by omega) ?_ | refine pw_mul64 rfl rfl (by omega) (by omega) ?_ | refine pw_quo rfl rfl (by omega) (by omega) (by omega) ?_ | refine pw_rem rfl rfl (by omega) (by omega) ?_); refine T_nv ?_)
      | (apply T_bin; exact rfl; (first | refine pw_lss rfl rfl (fun h => ?_) (fun h => ?_) | refine pw_leq rfl rfl (fun h => ?_) (fun h => ?_) | refine pw_gtr rfl rfl (fun h => ?_) (fun h => ?_) | refine pw_geq rfl rfl (fun h => ?_) (fun h => ?_) | refine pw_eql rfl rfl (fun h => ?_) (fun h => ?_) | refine pw_neq rfl rfl (fun h => ?_) (fun h => ?_)) <;> first | (exfalso; omega) | refine T_nv ?_)
      | (refine T_pure rfl rfl ?_; (first | refine pw_mv ?_ | refine pw_as ?_ | refine pw_pick_t rfl evp ?_ | refine pw_pick_f rfl evp ?_ | refine pw_nilCheck rfl ?_ | refine pw_fieldAddr rfl ?_ | refine pw_len rfl ?_ | refine pw_lens rfl ?_ | refine pw_extract rfl rfl ?_ | refine pw_not rfl ?_ | refine pw_makeFuncL agp agp ?_ | refine pw_build bldp ?_ | refine pw_makeInterface rfl ?_); refine T_nv ?_)
      | (refine T_skipped rfl ?_; refine T_nv ?_)
      | (refine T_gen rfl rfl ?_; (first | refine gw_box clp (fun b => ?_) | refine gw_alloc clp (fun b => ?_) | refine gw_buildSlice (by decide) prtp rfl (fun b => ?_)); refine T_nv ?_)
    refine T_back rfl rfl (by omega) (by omega) ?_
    repeat' first | apply En_then_panic | apply En_midP_panic | apply En_block_panic
    refine En_panicked (fin_P H R (fun w hs => hs) (hp _ (by unfold lenI mapD lenD; rw [hn]; simp only; rw [if_pos (by omega)])))
  · skip
    repeat' first
      | (apply TC_seq)
      | (apply TC_region)
      | (apply TC_block)
      | (apply TC_ret)
      | (apply TC_skip)
      | (apply TC_exit)
      | (apply TC_cond_true; exact rfl)
      | (apply TC_cond_false; exact rfl)
      | (apply T_nil)
      | (apply En_then)
      | (apply En_then_ret)
      | (apply En_then_exit)
      | (apply En_then_panic)
      | (apply En_block)
      | (apply En_block_ret)
      | (apply En_block_panic)
      | (apply En_block_exit)
      | (apply En_block_exit_ne; exact rfl)
      | (apply T_load; exact rfl; (first | refine pw_load (i := 0) rfl rfl rfl ?_ | refine pw_load (i := 1) rfl rfl rfl ?_ | refine pw_load (i := 2) rfl rfl rfl ?_ | refine pw_load (i := 3) rfl rfl rfl ?_ | refine pw_load (i := 4) rfl rfl rfl ?_ | refine pw_load (i := 5) rfl rfl rfl ?_ | refine pw_load_at rfl memr rfl ?_ | refine pw_load_at0 rfl memr rfl ?_ | refine pw_load_at rfl memt rfl ?_ | refine pw_load_at0 rfl memt rfl ?_); refine T_nv ?_)
      | (apply T_bin; exact rfl; (first | refine pw_add64 rfl rfl (by omega) (by omega) ?_ | refine pw_sub64 rfl rfl (by omega) (by omega) ?_ | refine pw_mul64 rfl rfl (by omega) (by omega) ?_ | refine pw_quo rfl rfl (by omega) (by omega) (by omega) ?_ | refine pw_rem rfl rfl (by omega) (by omega) ?_); refine T_nv ?_)
      | (apply T_bin; exact rfl; (first | refine pw_lss rfl rfl (fun h => ?_) (fun h => ?_) | refine pw_leq rfl rfl (fun h => ?_) (fun h => ?_) | refine pw_gtr rfl rfl (fun h => ?_) (fun h => ?_) | refine pw_geq rfl rfl (fun h => ?_) (fun h => ?_) | refine pw_eql rfl rfl (fun h => ?_) (fun h => ?_) | refine pw_neq rfl rfl (fun h => ?_) (fun h => ?_)) <;> first | (exfalso; omega) | refine T_nv ?_)
      | (refine T_pure rfl rfl ?_; (first | refine pw_mv ?_ | refine pw_as ?_ | refine pw_pick_t rfl evp ?_ | refine pw_pick_f rfl evp ?_ | refine pw_nilCheck rfl ?_ | refine pw_fieldAddr rfl ?_ | refine pw_len rfl ?_ | refine pw_lens rfl ?_ | refine pw_extract rfl rfl ?_ | refine pw_not rfl ?_ | refine pw_makeFuncL agp agp ?_ | refine pw_build bldp ?_ | refine pw_makeInterface rfl ?_); refine T_nv ?_)
      | (refine T_skipped rfl ?_; refine T_nv ?_)
      | (refine T_gen rfl rfl ?_; (first | refine gw_box clp (fun b => ?_) | refine gw_alloc clp (fun b => ?_) | refine gw_buildSlice (by decide) prtp rfl (fun b => ?_)); refine T_nv ?_)
    refine En_fin (.inl rfl) (res1 rfl (rv_tmp rfl)) (fin_R _ R (fun w hs => hs) ?_)
    have e : ((n.toNat : Nat) : Int) = n := by omega
    exact hk n a1 () (by unfold lenI mapD lenD; rw [hn]; simp only; rw [if_neg (by omega)]; simp only; rw [e]) h1 h2 hI
end Go.Proofs.Ytggdljhmbckpmaa
