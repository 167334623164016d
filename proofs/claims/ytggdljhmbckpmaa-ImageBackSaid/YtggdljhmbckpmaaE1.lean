/- Bytes, numbers, truths written: walks. -/
import Derived.Test.YtggdljhmbckpmaaA7
import Derived.Test.YtggdljhmbckpmaaA7f0
import Derived.Test.YtggdljhmbckpmaaA7f1
import Derived.Test.YtggdljhmbckpmaaF2
import Derived.Test.YtggdljhmbckpmaaA16
set_option linter.unusedVariables false
set_option linter.unusedSimpArgs false
namespace Go.Proofs.Ytggdljhmbckpmaa
open Go Go.RowKit
set_option maxRecDepth 100000
set_option maxHeartbeats 800000

instance : TyU Try.prog 92 (.struct #[]) := ⟨Try.underlying92⟩
def tl : List PanicEntry := [{ v := .iface 92 (.agg #[]), recovered := false }]
/-- A call that writes 'out', or panics where it is too much. -/
def Wr (P : Program) (w0 : World) (R0 : List MP) (f : FuncId) (args : List Value) (bw : Nat) (out : List UInt8) : Prop :=
  ∀ (H : List Hp) (R : List MP) (K : Value → List Hp → List MP → Prop) (KP : List PanicEntry → List Hp → List MP → Prop) (bs : List UInt8) (v : Value), (∀ p ∈ R0, p ∈ R) → bs.length ≤ 250000 →
    (bs.length + out.length ≤ 250000 → ∀ v', K (.tuple #[]) (.row v' 5 1 (bs ++ out).length (bytesV (bs ++ out)) :: .blk bw [v'] 95 :: H) R) →
    (250000 < bs.length + out.length → KP tl H R) → CallsP P w0 f args.toArray (.row v 5 1 bs.length (bytesV bs) :: .blk bw [v] 95 :: H) R K KP
section
variable {F : Fence} {n : Nat} {P : Program} {w0 : World} {D : List Deferred} {ops : Array Oper} {Q : Exit → Act → World → Prop} {rest : List Oper} {E : List Value} {H : List Hp} {R R0 : List MP}
theorem T_wr [Wd F] {dst : Option Tmp} {f : FuncId} {l : List Operand} {at_ : Array TypeId} {ty : TypeId} {pos : String} {aft : Array Edge} {g : Option (Nat × Bool)} {A : List Value} {bw : Nat} {out bs : List UInt8} {v : Value} {m : Nat} {cs : List Value}
    (hw : Region.wanted ⟨dst, .call ⟨.value (.func f), l.toArray, at_⟩, ty, pos, aft, g⟩ (yielded ops E.toArray) = true) (hA : l.map (ev E) = A) [FnOk P f] (h : Wr P w0 R0 f A bw out) (hsub : ∀ p ∈ R0, p ∈ R) (hm : m = bs.length) (hcs : cs = bytesV bs) (hb : bs.length ≤ 250000)
    (hk : bs.length + out.length ≤ 250000 → ∀ v', T F n P w0 D ops Q rest (setD E dst (.tuple #[])) (.row v' 5 1 (bs ++ out).length (bytesV (bs ++ out)) :: .blk bw [v'] 95 :: H) R)
    (hp : 250000 < bs.length + out.length → En w0 D Q (.panic tl) E H R) : T F n P w0 D ops Q (⟨dst, .call ⟨.value (.func f), l.toArray, at_⟩, ty, pos, aft, g⟩ :: rest) E (.row v 5 1 m cs :: .blk bw [v] 95 :: H) R := by
  subst hm; subst hcs
  exact T_ow hw (ow_callfP (KP := fun ch H' R' => ch = tl ∧ H' = H ∧ R' = R ∧ 250000 < bs.length + out.length) hA (h H R _ _ bs v hsub hb hk (fun hgt => ⟨rfl, rfl, rfl, hgt⟩)) (by rintro ch H' R' ⟨rfl, rfl, rfl, hgt⟩; exact hp hgt))
end

theorem byte_w {w0 : World} (bw : Nat) (c : UInt8) : Wr Try.prog w0 [] 36 [.pointer (some ⟨bw, 0, none⟩), byteV c] bw [c] := by
  intro H R K KP bs v _ hb hk hp
  refine callsP_of Try.func36 rfl Try.ntmps36 nep ?_
  refine TC_shape 0 rfl (fun A c1 hv => ?_)
  subst hv
  repeat' (first | (refine T_panic rfl rfl ?_) | (apply TC_seq) | (apply TC_region) | (apply TC_skip) | (apply TC_cond_true; exact rfl) | (apply TC_cond_false; exact rfl) | (apply T_nil) | (apply En_then) | (apply En_then_panic) | (apply T_load; exact rfl; ((refine pw_load (i := 1) rfl rfl rfl ?_)); refine T_nv ?_) | (apply T_bin; exact rfl; ((refine pw_eql rfl rfl (fun h => ?_) (fun h => ?_))) <;> (refine T_nv ?_)) | (refine T_pure rfl rfl ?_; ((first | refine pw_mv ?_ | refine pw_nilCheck rfl ?_ | refine pw_fieldAddr rfl ?_ | refine pw_len rfl ?_ | refine pw_build bldp ?_ | refine pw_makeInterface rfl ?_)); refine T_nv ?_) | (refine T_gen rfl rfl ?_; ((refine gw_buildSlice (by decide) prtp rfl (fun b => ?_))); refine T_nv ?_))
  · refine En_panicked (fin_P H R (fun w hs => hs.weaken sbp kpp) (hp (by simp; omega)))
  · refine T_gen rfl rfl ?_
    refine gw_append_blk 1 0 (news := [byteV c]) rfl rfl rfl rfl (by decide) rfl (by simp [byteV, Value.oneCell']) (by omega) (by omega) (fun v' => ?_)
    refine T_nv ?_; refine T_hq ?_
    refine T_shape 1 rfl (fun A' c' hv => ?_)
    subst hv
    repeat' (first | (apply T_nil) | (apply T_store; exact rfl; ((refine gw_store (i := 2) rfl clp rfl (by rfl) (by simp) (by simp [Value.oneCell']) ?_)); refine T_nv ?_; refine T_hq ?_) | (refine T_pure rfl rfl ?_; ((first | refine pw_nilCheck rfl ?_ | refine pw_fieldAddr rfl ?_)); refine T_nv ?_))
    refine En_fin (.inr rfl) (res0 rfl) (fin_R (.row (.slice A' (bs.length + 1) c') 5 1 (bs ++ [c]).length (bytesV (bs ++ [c])) :: .blk bw [.slice A' (bs.length + 1) c'] 95 :: H) R (fun w hs => ?_) (hk (by simp; omega) _))
    rw [bytesV_append, List.length_append]
    exact hs.weaken sbp kpp
/-! ### numbers -/
def zig (n : Int) : Nat := if 0 ≤ n then (2 * n).toNat else (-2 * n - 1).toNat
def leb : Nat → Nat → List UInt8
  | 0, u => [UInt8.ofNat u]
  | m + 1, u => if 128 ≤ u then UInt8.ofNat (u % 256 ||| 128) :: leb m (u / 128) else [UInt8.ofNat u]
def numB (n : Int) : List UInt8 := leb 9 (zig n)
theorem byteV_mod (n : Nat) : Value.int .u8 ((n % 256 : Nat) : Int) = byteV (UInt8.ofNat n) := by simp [byteV]
theorem byteV_lt {n : Nat} (h : n < 256) : Value.int .u8 (n : Int) = byteV (UInt8.ofNat n) := by
  rw [← byteV_mod, Nat.mod_eq_of_lt h]
theorem zig_lt {n : Int} (h : InI n) : zig n < 18446744073709551616 := by
  unfold InI at h; unfold zig; split <;> omega
section
variable {P : Program} {w0 : World} {E : List Value} {H : List Hp} {R : List MP} {ty : TypeId} {K : Value → List MP → Prop}
theorem pw_conv64 {s d : TypeId} {x : Operand} {ds : TypeDesc} {a : Int} [hs : TyU P s ds] [hd : TyU P d (.int .u64)] (hx : ev E x = .int .i64 a) (kk : K (.int .u64 ((a % 18446744073709551616).toNat : Int)) R) : PW P w0 E (.convert s d x) ty H R K :=
  pw_conv (hs := hs) (hd := hd) hx (by
    have e : IntKind.u64.wrap a = ((a % 18446744073709551616).toNat : Int) := by simp [IntKind.wrap, IntKind.bits, IntKind.signed]; omega
    rw [e]; exact kk)
theorem xor_ones {a : Nat} (ha : a < 18446744073709551616) : 18446744073709551615 ^^^ a = 18446744073709551615 - a := by
  have h1 : (BitVec.allOnes 64 ^^^ BitVec.ofNat 64 a).toNat = 18446744073709551615 ^^^ a := by
    rw [BitVec.toNat_xor, BitVec.toNat_ofNat, Nat.mod_eq_of_lt ha]; rfl
  rw [← h1, ← BitVec.not_def, BitVec.toNat_not, BitVec.toNat_ofNat, Nat.mod_eq_of_lt ha]
theorem pw_not64 {t : TypeId} {x : Operand} {a : Nat} (hx : ev E x = .int .u64 (a : Int)) (ha : a < 18446744073709551616) (kk : K (.int .u64 ((18446744073709551615 - a : Nat) : Int)) R) : PW P w0 E (.unOp .xor t x) ty H R K :=
  pw_val rfl (fun w _ => by
    rw [hx]
    have e1 : (IntKind.u64.max : Int) = ((18446744073709551615 : Nat) : Int) := rfl
    have e2 : 18446744073709551615 - a < 2 ^ IntKind.bits .u64 := by simp [IntKind.bits]; omega
    simp only [Op.unary, IntKind.signed, Bool.false_eq_true, if_false, e1, Op.intBits, ofInt_nat, ne_eq, not_true_eq_false, Sem.run_pure, BitVec.toNat_xor, BitVec.toNat_ofNat, Nat.mod_eq_of_lt (show a < 2 ^ IntKind.bits .u64 from ha), Nat.mod_eq_of_lt (show 18446744073709551615 < 2 ^ IntKind.bits .u64 from by decide), xor_ones ha, wrap_nat (k := .u64) rfl e2]) kk
theorem pw_conv8 {s d : TypeId} {x : Operand} {k : IntKind} {ds : TypeDesc} {a : Nat} [hs : TyU P s ds] [hd : TyU P d (.int .u8)] (hx : ev E x = .int k (a : Int)) (kk : K (byteV (UInt8.ofNat a)) R) : PW P w0 E (.convert s d x) ty H R K :=
  pw_convn (hs := hs) (hd := hd) hx rfl (by
    have := byteV_mod a
    rw [← this] at kk; exact kk)
theorem pw_orb {t t' : TypeId} {x : Operand} {a : Nat} (hx : ev E x = byteV (UInt8.ofNat a)) (kk : K (byteV (UInt8.ofNat (a % 256 ||| 128))) R) : PW P w0 E (.binOp .or t x (.const (.int .u8 128)) t') ty H R K :=
  pw_or (a := a % 256) (b := 128) (k := .u8) (by rw [hx, byteV_mod]) rfl rfl (Nat.mod_lt _ (by decide)) (by decide) (by
    have h : (a % 256 ||| 128) < 256 := Nat.or_lt_two_pow (n := 8) (Nat.mod_lt _ (by decide)) (by decide)
    rw [byteV_lt h]; exact kk)
end
theorem leb_len : ∀ m u, 0 < (leb m u).length
  | 0, u => by simp [leb]
  | m + 1, u => by unfold leb; split <;> simp
theorem number_w {w0 : World} (bw : Nat) (n : Int) (hn : InI n) : Wr Try.prog w0 [] 77 [.pointer (some ⟨bw, 0, none⟩), .int .i64 n] bw (numB n) := by
  intro H R K KP bs v _ hb hk hp
  have hn' : -9223372036854775808 ≤ n ∧ n ≤ 9223372036854775807 := hn
  refine callsP_of Try.func77 rfl Try.ntmps77 nep ?_
  repeat' (fail)
  apply TC_seq; apply TC_region
  repeat' (first | (refine T_pure rfl rfl ?_; ((first | refine pw_conv64 rfl ?_ | refine pw_shl (n := 1) rfl rfl rfl (by decide) ?_)); refine T_nv ?_) | (refine T_pure rfl rfl ?_; ((first | refine pw_mv ?_ | refine pw_as ?_)); refine T_nv ?_))
  apply T_nil; apply En_then
  have e1 : (n % 18446744073709551616).toNat * 2 ^ 1 % 2 ^ IntKind.bits .u64 = if 0 ≤ n then zig n else 18446744073709551615 - zig n := by
    simp only [IntKind.bits, zig]
    split <;> omega
  rw [e1]
  have hz := zig_lt hn
  refine TC_cutS [4, 8, 9, 10, 11] (fun j H' R' => j 4 = .int .u64 (zig n : Int) ∧ H' = .row v 5 1 bs.length (bytesV bs) :: .blk bw [v] 95 :: H ∧ R' = R) ?_ ?_
  · skip
    repeat' (first | (refine T_pure rfl rfl ?_; refine pw_not64 rfl (by split <;> omega) ?_; refine T_nv ?_) | (apply TC_seq) | (apply TC_region) | (apply TC_skip) | (apply TC_cond_true; exact rfl) | (apply TC_cond_false; exact rfl) | (apply T_nil) | (apply En_then) | (apply T_bin; exact rfl; ((refine pw_lss rfl rfl (fun h => ?_) (fun h => ?_))) <;> (refine T_nv ?_)) | (refine T_pure rfl rfl ?_; ((first | refine pw_mv ?_ | refine pw_as ?_)); refine T_nv ?_))
    · refine En_midS _ R sjp ⟨?_, rfl, rfl⟩ (fun w hs => hs)
      show Value.int .u64 _ = _
      rw [if_neg (by omega), show 18446744073709551615 - (18446744073709551615 - zig n) = zig n by omega]
    · refine En_midS _ R sjp ⟨?_, rfl, rfl⟩ (fun w hs => hs)
      show Value.int .u64 _ = _
      rw [if_pos (by omega)]
  rintro j H' R' ⟨h4, hH, hR⟩
  subst hH hR
  refine TC_env (by simp only [setJ, List.foldl_cons, List.foldl_nil, List.set_cons_succ, List.set_cons_zero, h4]; rfl) ?_
  repeat' (first | (apply TC_seq) | (apply TC_block))
  refine TC_loopS [4, 12, 13, 14, 15, 16, 17, 18, 19, 20] (fun m j H2 R2 => ∃ (u : Nat) (bs' : List UInt8) (v' : Value), j 4 = .int .u64 (u : Int) ∧ R2 = R' ∧ H2 = .row v' 5 1 bs'.length (bytesV bs') :: .blk bw [v'] 95 :: H ∧ bs'.length ≤ 250000 ∧ bs' ++ leb m u = bs ++ numB n ∧ u < 2 * 128 ^ m) 9 sjp ⟨zig n, bs, v, rfl, rfl, rfl, hb, rfl, by omega⟩ ?_
  rintro m j' H2 R2 ⟨u, bs', v', h4', hR2, hH2, hb', hle, hlt⟩
  subst hR2 hH2
  refine TC_env (by simp only [setJ, List.foldl_cons, List.foldl_nil, List.set_cons_succ, List.set_cons_zero, h4']; rfl) ?_
  have hlen : bs'.length + (leb m u).length = bs.length + (numB n).length := by
    have := congrArg List.length hle
    simpa using this
  have HL := Go.Lib.hid hle
  have HM := Go.Lib.hid hlt
  clear hle hlt
  repeat' (first | (refine T_pure rfl rfl ?_; ((first | refine pw_conv8 rfl ?_ | refine pw_orb rfl ?_)); refine T_nv ?_) | (apply TC_seq) | (apply TC_region) | (apply TC_block) | (apply TC_skip) | (apply TC_exit) | (apply TC_cond_true; exact rfl) | (apply TC_cond_false; exact rfl) | (apply T_nil) | (apply En_then) | (apply En_then_exit) | (apply En_block_exit) | (apply T_bin; exact rfl; ((refine pw_geq rfl rfl (fun h => ?_) (fun h => ?_))) <;> (refine T_nv ?_)) | (refine T_pure rfl rfl ?_; ((refine pw_mv ?_)); refine T_nv ?_))
  · obtain ⟨k, rfl⟩ : ∃ k, m = k + 1 := by
      cases m with
      | zero => have := HM.out; simp at this; omega
      | succ k => exact ⟨k, rfl⟩
    have hl1 : leb (k + 1) u = UInt8.ofNat (u % 256 ||| 128) :: leb k (u / 128) := by rw [leb, if_pos (by omega)]
    have hl2 := leb_len k (u / 128)
    have hl3 : (leb (k + 1) u).length = 1 + (leb k (u / 128)).length := by rw [hl1, List.length_cons]; omega
    refine T_wr rfl rfl (byte_w bw (UInt8.ofNat (u % 256 ||| 128))) (fun _ h => (by cases h)) rfl rfl hb' (fun hle v2 => ?_) (fun hgt => ?_)
    · refine T_nv ?_
      repeat' (first | (refine T_pure rfl rfl ?_; ((refine pw_shr (n := 7) rfl rfl (by decide) ?_)); refine T_nv ?_) | (apply TC_region) | (apply T_nil) | (apply En_then) | (apply En_block) | (refine T_pure rfl rfl ?_; ((first | refine pw_mv ?_ | refine pw_as ?_)); refine T_nv ?_))
      refine En_backS k _ R2 (by omega) sjp ⟨u / 128, bs' ++ [UInt8.ofNat (u % 256 ||| 128)], v2, rfl, rfl, rfl, by ((simp at hle ⊢; omega)), ?_, ?_⟩ (fun w hs => hs)
      · rw [← HL.out, hl1]; simp
      · have := HM.out; rw [Nat.pow_succ] at this; omega
    · skip
      repeat' (first | (apply En_then_panic) | (apply En_block_panic))
      refine En_panicked (fin_P H R2 (fun w hs => hs) (hp ?_))
      simp at hgt; omega
  · have hl1 : leb m u = [UInt8.ofNat u] := by
      cases m with
      | zero => rfl
      | succ k => rw [leb, if_neg (by omega)]
    rw [hl1] at hlen
    refine T_wr rfl rfl (byte_w bw (UInt8.ofNat u)) (fun _ h => (by cases h)) rfl rfl hb' (fun hle v2 => ?_) (fun hgt => ?_)
    · refine T_nv ?_
      repeat' ((apply T_nil))
      have e := HL.out
      rw [hl1] at e
      rw [e]
      refine En_fin (.inr rfl) (res0 rfl) (fin_R _ R2 (fun w hs => hs) (hk (by simp at hlen hle ⊢; omega) v2))
    · skip
      repeat' (fail)
      refine En_panicked (fin_P H R2 (fun w hs => hs) (hp ?_))
      simp at hgt hlen; omega
end Go.Proofs.Ytggdljhmbckpmaa
