/- Bytes, numbers, truths written: walks. Truths, numbers, lists written: walks. -/
import Derived.Test.YtggdljhmbckpmaaGreatA7
import Derived.Test.YtggdljhmbckpmaaGreatA7f0
import Derived.Test.YtggdljhmbckpmaaGreatA7f1
import Derived.Test.YtggdljhmbckpmaaGreatFA
import Derived.Test.YtggdljhmbckpmaaGreatAN
set_option linter.unusedVariables false
set_option linter.unusedSimpArgs false
namespace Go.Proofs.YtggdljhmbckpmaaGreat
open Go Go.RowKit
set_option maxRecDepth 100000
set_option maxHeartbeats 800000

instance : TyU Tryz.prog 82 (.struct #[]) := ⟨Tryz.underlying82⟩
def tl : List PanicEntry := [{ v := .iface 82 (.agg #[]), recovered := false }]
/-- A call that writes 'out', or panics where it is too much. -/
def Wr (P : Program) (w0 : World) (R0 : List MP) (f : FuncId) (args : List Value) (bw : Nat) (out : List UInt8) : Prop :=
  ∀ (H : List Hp) (R : List MP) (K : Value → List Hp → List MP → Prop) (KP : List PanicEntry → List Hp → List MP → Prop) (bs : List UInt8) (v : Value), (∀ p ∈ R0, p ∈ R) → bs.length ≤ 250000 →
    (bs.length + out.length ≤ 250000 → ∀ v', K (.tuple #[]) (.row v' 5 1 (bs ++ out).length (bA (bs ++ out)) :: .blk bw [v'] 85 :: H) R) →
    (250000 < bs.length + out.length → KP tl H R) → CallsP P w0 f args.toArray (.row v 5 1 bs.length (bA bs) :: .blk bw [v] 85 :: H) R K KP
section
variable {F : Fence} {n : Nat} {P : Program} {w0 : World} {D : List Deferred} {ops : Array Oper} {Q : Exit → Act → World → Prop} {rest : List Oper} {E : List Value} {H : List Hp} {R R0 : List MP}
theorem fB [Wd F] {dst : Option Tmp} {f : FuncId} {l : List Operand} {at_ : Array TypeId} {ty : TypeId} {pos : String} {aft : Array Edge} {g : Option (Nat × Bool)} {A : List Value} {bw : Nat} {out bs : List UInt8} {v : Value} {m : Nat} {cs : List Value}
    (hw : Region.wanted ⟨dst, .call ⟨.value (.func f), l.toArray, at_⟩, ty, pos, aft, g⟩ (yielded ops E.toArray) = true) (hA : l.map (ev E) = A) [FnOk P f] (h : Wr P w0 R0 f A bw out) (hsub : ∀ p ∈ R0, p ∈ R) (hm : m = bs.length) (hcs : cs = bA bs) (hb : bs.length ≤ 250000)
    (hk : bs.length + out.length ≤ 250000 → ∀ v', T F n P w0 D ops Q rest (dP E dst (.tuple #[])) (.row v' 5 1 (bs ++ out).length (bA (bs ++ out)) :: .blk bw [v'] 85 :: H) R)
    (hp : 250000 < bs.length + out.length → En w0 D Q (.panic tl) E H R) : T F n P w0 D ops Q (⟨dst, .call ⟨.value (.func f), l.toArray, at_⟩, ty, pos, aft, g⟩ :: rest) E (.row v 5 1 m cs :: .blk bw [v] 85 :: H) R := by
  subst hm; subst hcs
  exact dS hw (iD (KP := fun ch H' R' => ch = tl ∧ H' = H ∧ R' = R ∧ 250000 < bs.length + out.length) hA (h H R _ _ bs v hsub hb hk (fun hgt => ⟨rfl, rfl, rfl, hgt⟩)) (by rintro ch H' R' ⟨rfl, rfl, rfl, hgt⟩; exact hp hgt))
end

theorem mU {w0 : World} (bw : Nat) (c : UInt8) : Wr Tryz.prog w0 [] 29 [.pointer (some ⟨bw, 0, none⟩), eP c] bw [c] := by
  intro H R K KP bs v _ hb hk hp
  refine cP Tryz.func29 rfl Tryz.ntmps29 eZ ?_
  refine oL 0 rfl (fun A c1 hv => ?_)
  subst hv
  repeat' (first | (refine rB rfl rfl ?_) | (apply aF) | (apply aA) | (apply bE) | (apply aK; exact rfl) | (apply aI; exact rfl) | (apply aG) | (apply aD) | (apply aL) | (apply aP; exact rfl; ((refine aM (i := 1) rfl rfl rfl ?_)); refine aB ?_) | (apply aU; exact rfl; ((refine fS rfl rfl (fun h => ?_) (fun h => ?_))) <;> (refine aB ?_)) | (refine aE rfl rfl ?_; ((first | refine aH ?_ | refine aW rfl ?_ | refine aC rfl ?_ | refine bQ rfl ?_ | refine dN gI ?_ | refine eX rfl ?_)); refine aB ?_) | (refine bG rfl rfl ?_; ((refine bH (by decide) fD rfl (fun b => ?_))); refine aB ?_))
  · refine aN (cH H R (fun w hs => hs.weaken bU cZ) (hp (by simp; omega)))
  · refine bG rfl rfl ?_
    refine cY 1 0 (news := [eP c]) rfl rfl rfl rfl (by decide) rfl (by simp [eP, Value.oneCell']) (by omega) (by omega) (fun v' => ?_)
    refine aB ?_; refine cA ?_
    refine gA 1 rfl (fun A' c' hv => ?_)
    subst hv
    repeat' (first | (apply aG) | (apply bD; exact rfl; ((refine aO (i := 2) rfl cW rfl (by rfl) (by simp) (by simp [Value.oneCell']) ?_)); refine aB ?_; refine cA ?_) | (refine aE rfl rfl ?_; ((first | refine aW rfl ?_ | refine aC rfl ?_)); refine aB ?_))
    refine bC (.inr rfl) (fV rfl) (eI (.row (.slice A' (bs.length + 1) c') 5 1 (bs ++ [c]).length (bA (bs ++ [c])) :: .blk bw [.slice A' (bs.length + 1) c'] 85 :: H) R (fun w hs => ?_) (hk (by simp; omega) _))
    rw [fE, List.length_append]
    exact hs.weaken bU cZ
/-! ### numbers -/
def rY (n : Int) : Nat := if 0 ≤ n then (2 * n).toNat else (-2 * n - 1).toNat
def mB : Nat → Nat → List UInt8
  | 0, u => [UInt8.ofNat u]
  | m + 1, u => if 128 ≤ u then UInt8.ofNat (u % 256 ||| 128) :: mB m (u / 128) else [UInt8.ofNat u]
def cL (n : Int) : List UInt8 := mB 9 (rY n)
theorem pW (n : Nat) : Value.int .u8 ((n % 256 : Nat) : Int) = eP (UInt8.ofNat n) := by simp [eP]
theorem g9 {n : Nat} (h : n < 256) : Value.int .u8 (n : Int) = eP (UInt8.ofNat n) := by
  rw [← pW, Nat.mod_eq_of_lt h]
theorem wC {n : Int} (h : dD n) : rY n < 18446744073709551616 := by
  unfold dD at h; unfold rY; split <;> omega
section
variable {P : Program} {w0 : World} {E : List Value} {H : List Hp} {R : List MP} {ty : TypeId} {K : Value → List MP → Prop}
theorem sI {s d : TypeId} {x : Operand} {ds : TypeDesc} {a : Int} [hs : TyU P s ds] [hd : TyU P d (.int .u64)] (hx : ev E x = .int .i64 a) (kk : K (.int .u64 ((a % 18446744073709551616).toNat : Int)) R) : PW P w0 E (.convert s d x) ty H R K :=
  qZ (hs := hs) (hd := hd) hx (by
    have e : IntKind.u64.wrap a = ((a % 18446744073709551616).toNat : Int) := by simp [IntKind.wrap, IntKind.bits, IntKind.signed]; omega
    rw [e]; exact kk)
theorem f5 {a : Nat} (ha : a < 18446744073709551616) : 18446744073709551615 ^^^ a = 18446744073709551615 - a := by
  have h1 : (BitVec.allOnes 64 ^^^ BitVec.ofNat 64 a).toNat = 18446744073709551615 ^^^ a := by
    rw [BitVec.toNat_xor, BitVec.toNat_ofNat, Nat.mod_eq_of_lt ha]; rfl
  rw [← h1, ← BitVec.not_def, BitVec.toNat_not, BitVec.toNat_ofNat, Nat.mod_eq_of_lt ha]
theorem uW {t : TypeId} {x : Operand} {a : Nat} (hx : ev E x = .int .u64 (a : Int)) (ha : a < 18446744073709551616) (kk : K (.int .u64 ((18446744073709551615 - a : Nat) : Int)) R) : PW P w0 E (.unOp .xor t x) ty H R K :=
  eV rfl (fun w _ => by
    rw [hx]
    have e1 : (IntKind.u64.max : Int) = ((18446744073709551615 : Nat) : Int) := rfl
    have e2 : 18446744073709551615 - a < 2 ^ IntKind.bits .u64 := by simp [IntKind.bits]; omega
    simp only [Op.unary, IntKind.signed, Bool.false_eq_true, if_false, e1, Op.intBits, nE, ne_eq, not_true_eq_false, Sem.run_pure, BitVec.toNat_xor, BitVec.toNat_ofNat, Nat.mod_eq_of_lt (show a < 2 ^ IntKind.bits .u64 from ha), Nat.mod_eq_of_lt (show 18446744073709551615 < 2 ^ IntKind.bits .u64 from by decide), f5 ha, pM (k := .u64) rfl e2]) kk
theorem rC {s d : TypeId} {x : Operand} {k : IntKind} {ds : TypeDesc} {a : Nat} [hs : TyU P s ds] [hd : TyU P d (.int .u8)] (hx : ev E x = .int k (a : Int)) (kk : K (eP (UInt8.ofNat a)) R) : PW P w0 E (.convert s d x) ty H R K :=
  kT (hs := hs) (hd := hd) hx rfl (by
    have := pW a
    rw [← this] at kk; exact kk)
theorem i5 {t t' : TypeId} {x : Operand} {a : Nat} (hx : ev E x = eP (UInt8.ofNat a)) (kk : K (eP (UInt8.ofNat (a % 256 ||| 128))) R) : PW P w0 E (.binOp .or t x (.const (.int .u8 128)) t') ty H R K :=
  sM (a := a % 256) (b := 128) (k := .u8) (by rw [hx, pW]) rfl rfl (Nat.mod_lt _ (by decide)) (by decide) (by
    have h : (a % 256 ||| 128) < 256 := Nat.or_lt_two_pow (n := 8) (Nat.mod_lt _ (by decide)) (by decide)
    rw [g9 h]; exact kk)
end
theorem qX : ∀ m u, 0 < (mB m u).length
  | 0, u => by simp [mB]
  | m + 1, u => by unfold mB; split <;> simp
theorem fJ {w0 : World} (bw : Nat) (n : Int) (hn : dD n) : Wr Tryz.prog w0 [] 79 [.pointer (some ⟨bw, 0, none⟩), .int .i64 n] bw (cL n) := by
  intro H R K KP bs v _ hb hk hp
  have hn' : -9223372036854775808 ≤ n ∧ n ≤ 9223372036854775807 := hn
  refine cP Tryz.func79 rfl Tryz.ntmps79 eZ ?_
  repeat' (fail)
  apply aF; apply aA
  repeat' (first | (refine aE rfl rfl ?_; ((first | refine sI rfl ?_ | refine oA (n := 1) rfl rfl rfl (by decide) ?_)); refine aB ?_) | (refine aE rfl rfl ?_; ((first | refine aH ?_ | refine aX ?_)); refine aB ?_))
  apply aG; apply aD
  have e1 : (n % 18446744073709551616).toNat * 2 ^ 1 % 2 ^ IntKind.bits .u64 = if 0 ≤ n then rY n else 18446744073709551615 - rY n := by
    simp only [IntKind.bits, rY]
    split <;> omega
  rw [e1]
  have hz := wC hn
  refine iY [4, 8, 9, 10, 11] (fun j H' R' => j 4 = .int .u64 (rY n : Int) ∧ H' = .row v 5 1 bs.length (bA bs) :: .blk bw [v] 85 :: H ∧ R' = R) ?_ ?_
  · skip
    repeat' (first | (refine aE rfl rfl ?_; refine uW rfl (by split <;> omega) ?_; refine aB ?_) | (apply aF) | (apply aA) | (apply bE) | (apply aK; exact rfl) | (apply aI; exact rfl) | (apply aG) | (apply aD) | (apply aU; exact rfl; ((refine bM rfl rfl (fun h => ?_) (fun h => ?_))) <;> (refine aB ?_)) | (refine aE rfl rfl ?_; ((first | refine aH ?_ | refine aX ?_)); refine aB ?_))
    · refine fI _ R eE ⟨?_, rfl, rfl⟩ (fun w hs => hs)
      show Value.int .u64 _ = _
      rw [if_neg (by omega), show 18446744073709551615 - (18446744073709551615 - rY n) = rY n by omega]
    · refine fI _ R eE ⟨?_, rfl, rfl⟩ (fun w hs => hs)
      show Value.int .u64 _ = _
      rw [if_pos (by omega)]
  rintro j H' R' ⟨h4, hH, hR⟩
  subst hH hR
  refine cQ (by simp only [dX, List.foldl_cons, List.foldl_nil, List.set_cons_succ, List.set_cons_zero, h4]; rfl) ?_
  repeat' (first | (apply aF) | (apply aT))
  refine cK [4, 12, 13, 14, 15, 16, 17, 18, 19, 20] (fun m j H2 R2 => ∃ (u : Nat) (bs' : List UInt8) (v' : Value), j 4 = .int .u64 (u : Int) ∧ R2 = R' ∧ H2 = .row v' 5 1 bs'.length (bA bs') :: .blk bw [v'] 85 :: H ∧ bs'.length ≤ 250000 ∧ bs' ++ mB m u = bs ++ cL n ∧ u < 2 * 128 ^ m) 9 eE ⟨rY n, bs, v, rfl, rfl, rfl, hb, rfl, by omega⟩ ?_
  rintro m j' H2 R2 ⟨u, bs', v', h4', hR2, hH2, hb', hle, hlt⟩
  subst hR2 hH2
  refine cQ (by simp only [dX, List.foldl_cons, List.foldl_nil, List.set_cons_succ, List.set_cons_zero, h4']; rfl) ?_
  have hlen : bs'.length + (mB m u).length = bs.length + (cL n).length := by
    have := congrArg List.length hle
    simpa using this
  have HL := Go.Lib.hid hle
  have HM := Go.Lib.hid hlt
  clear hle hlt
  repeat' (first | (refine aE rfl rfl ?_; ((first | refine rC rfl ?_ | refine i5 rfl ?_)); refine aB ?_) | (apply aF) | (apply aA) | (apply aT) | (apply bE) | (apply bV) | (apply aK; exact rfl) | (apply aI; exact rfl) | (apply aG) | (apply aD) | (apply aS) | (apply aR) | (apply aU; exact rfl; ((refine jJ rfl rfl (fun h => ?_) (fun h => ?_))) <;> (refine aB ?_)) | (refine aE rfl rfl ?_; ((refine aH ?_)); refine aB ?_))
  · obtain ⟨k, rfl⟩ : ∃ k, m = k + 1 := by
      cases m with
      | zero => have := HM.out; simp at this; omega
      | succ k => exact ⟨k, rfl⟩
    have hl1 : mB (k + 1) u = UInt8.ofNat (u % 256 ||| 128) :: mB k (u / 128) := by rw [mB, if_pos (by omega)]
    have hl2 := qX k (u / 128)
    have hl3 : (mB (k + 1) u).length = 1 + (mB k (u / 128)).length := by rw [hl1, List.length_cons]; omega
    refine fB rfl rfl (mU bw (UInt8.ofNat (u % 256 ||| 128))) (fun _ h => (by cases h)) rfl rfl hb' (fun hle v2 => ?_) (fun hgt => ?_)
    · refine aB ?_
      repeat' (first | (refine aE rfl rfl ?_; ((refine mJ (n := 7) rfl rfl (by decide) ?_)); refine aB ?_) | (apply aA) | (apply aG) | (apply aD) | (apply bP) | (refine aE rfl rfl ?_; ((first | refine aH ?_ | refine aX ?_)); refine aB ?_))
      refine cE k _ R2 (by omega) eE ⟨u / 128, bs' ++ [UInt8.ofNat (u % 256 ||| 128)], v2, rfl, rfl, rfl, by ((simp at hle ⊢; omega)), ?_, ?_⟩ (fun w hs => hs)
      · rw [← HL.out, hl1]; simp
      · have := HM.out; rw [Nat.pow_succ] at this; omega
    · skip
      repeat' (first | (apply aL) | (apply bY))
      refine aN (cH H R2 (fun w hs => hs) (hp ?_))
      simp at hgt; omega
  · have hl1 : mB m u = [UInt8.ofNat u] := by
      cases m with
      | zero => rfl
      | succ k => rw [mB, if_neg (by omega)]
    rw [hl1] at hlen
    refine fB rfl rfl (mU bw (UInt8.ofNat u)) (fun _ h => (by cases h)) rfl rfl hb' (fun hle v2 => ?_) (fun hgt => ?_)
    · refine aB ?_
      repeat' ((apply aG))
      have e := HL.out
      rw [hl1] at e
      rw [e]
      refine bC (.inr rfl) (fV rfl) (eI _ R2 (fun w hs => hs) (hk (by simp at hlen hle ⊢; omega) v2))
    · skip
      repeat' (fail)
      refine aN (cH H R2 (fun w hs => hs) (hp ?_))
      simp at hgt hlen; omega
end Go.Proofs.YtggdljhmbckpmaaGreat
namespace Go.Proofs.YtggdljhmbckpmaaGreat
open Go Go.RowKit
set_option maxRecDepth 100000
set_option maxHeartbeats 800000

section
variable {F : Fence} {n : Nat} {P : Program} {w0 : World} {D : List Deferred} {ops : Array Oper} {Q : Exit → Act → World → Prop} {rest : List Oper} {E : List Value} {H : List Hp} {R R0 : List MP}
theorem nO [Wd F] {dst : Option Tmp} {fo : Operand} {f : FuncId} {l : List Operand} {at_ : Array TypeId} {ty : TypeId} {pos : String} {aft : Array Edge} {g : Option (Nat × Bool)} {A L1 L2 : List Value} {bw : Nat} {out bs : List UInt8} {v : Value} {m : Nat} {cs : List Value}
    (hw : Region.wanted ⟨dst, .call ⟨.value fo, l.toArray, at_⟩, ty, pos, aft, g⟩ (yielded ops E.toArray) = true) (hf : ev E fo = .func (.func f) L1.toArray L2.toArray) (hA : L1 ++ l.map (ev E) ++ L2 = A) [FnOk P f] (h : Wr P w0 R0 f A bw out) (hsub : ∀ p ∈ R0, p ∈ R) (hm : m = bs.length) (hcs : cs = bA bs) (hb : bs.length ≤ 250000)
    (hk : bs.length + out.length ≤ 250000 → ∀ v', T F n P w0 D ops Q rest (dP E dst (.tuple #[])) (.row v' 5 1 (bs ++ out).length (bA (bs ++ out)) :: .blk bw [v'] 85 :: H) R)
    (hp : 250000 < bs.length + out.length → En w0 D Q (.panic tl) E H R) : T F n P w0 D ops Q (⟨dst, .call ⟨.value fo, l.toArray, at_⟩, ty, pos, aft, g⟩ :: rest) E (.row v 5 1 m cs :: .blk bw [v] 85 :: H) R := by
  subst hm; subst hcs
  exact dS hw (sS (KP := fun ch H' R' => ch = tl ∧ H' = H ∧ R' = R ∧ 250000 < bs.length + out.length) hf hA (h H R _ _ bs v hsub hb hk (fun hgt => ⟨rfl, rfl, rfl, hgt⟩)) (by rintro ch H' R' ⟨rfl, rfl, rfl, hgt⟩; exact hp hgt))
theorem cN {cs : List Value} {sz : Nat} (h : cs.length = sz) : gJ true sz cs 0 = some (.agg cs.toArray) := by
  subst h; simp [gJ]
theorem eC {zs cs : List Value} (h : zs.length = cs.length) : fR zs 0 cs = cs := by
  simp [fR, h]
end
def gN (b : Bool) : List UInt8 := [if b then 1 else 0]
theorem oU {w0 : World} (bw : Nat) (b : Bool) : Wr Tryz.prog w0 [] 67 [.pointer (some ⟨bw, 0, none⟩), .bool b] bw (gN b) := by
  intro H R K KP bs v _ hb hk hp
  refine cP Tryz.func67 rfl Tryz.ntmps67 eZ ?_
  cases b
  · skip
    repeat' (first | (apply aF) | (apply aA) | (apply aI; exact rfl) | (apply aG) | (apply aD) | (refine aE rfl rfl ?_; ((refine aH ?_)); refine aB ?_))
    refine fB rfl rfl (mU bw 0) (fun _ h => (by cases h)) rfl rfl hb (fun hle v2 => ?_) (fun hgt => ?_)
    · refine aB ?_
      repeat' ((apply aG))
      refine bC (.inr rfl) (fV rfl) (eI _ R (fun w hs => hs) (hk hle v2))
    · skip
      repeat' (fail)
      exact aN (cH H R (fun w hs => hs) (hp hgt))
  · skip
    repeat' (first | (apply aF) | (apply aA) | (apply aK; exact rfl) | (apply aG) | (apply aD) | (refine aE rfl rfl ?_; ((refine aH ?_)); refine aB ?_))
    refine fB rfl rfl (mU bw 1) (fun _ h => (by cases h)) rfl rfl hb (fun hle v2 => ?_) (fun hgt => ?_)
    · refine aB ?_
      repeat' ((apply aG))
      refine bC (.inr rfl) (fV rfl) (eI _ R (fun w hs => hs) (hk hle v2))
    · skip
      repeat' (fail)
      exact aN (cH H R (fun w hs => hs) (hp hgt))

theorem iT {w0 : World} (bw : Nat) (A : Option Addr) (c : Nat) (xs : List Int) (hx : xs.length ≤ 9223372036854775807) : Wr Tryz.prog w0 [Sl (.slice A xs.length c) xs] 66 [.pointer (some ⟨bw, 0, none⟩), .slice A xs.length c] bw (xs.flatMap cL) := by
  intro H R K KP bs v hsub hb hk hp
  have hm : Sl (.slice A xs.length c) xs ∈ R := hsub _ (by simp)
  refine cP Tryz.func66 rfl Tryz.ntmps66 eZ ?_
  repeat' (first | (apply aF) | (apply aA) | (apply aT) | (apply aG) | (apply aD) | (refine aE rfl rfl ?_; ((first | refine aH ?_ | refine bQ rfl ?_)); refine aB ?_))
  refine cK [5, 8, 9, 10, 11, 12, 13, 14, 15] (fun m j H2 R2 => ∃ (i : Nat) (bs' : List UInt8) (v' : Value), i + m = xs.length ∧ j 8 = .int .i64 (i : Int) ∧ (∀ p ∈ R, p ∈ R2) ∧ H2 = .row v' 5 1 bs'.length (bA bs') :: .blk bw [v'] 85 :: H ∧ bs'.length ≤ 250000 ∧ bs' ++ (xs.drop i).flatMap cL = bs ++ xs.flatMap cL) xs.length eE ⟨0, bs, v, by omega, rfl, fun _ h => h, rfl, hb, rfl⟩ ?_
  rintro m j' H2 R2 ⟨i, bs', v', him, h8, hR2, hH2, hb', hle⟩
  subst hH2
  have hm2 := hR2 _ hm
  refine cQ (by simp only [dX, List.foldl_cons, List.foldl_nil, List.set_cons_succ, List.set_cons_zero, h8]; rfl) ?_
  have hlen : bs'.length + ((xs.drop i).flatMap cL).length = bs.length + (xs.flatMap cL).length := by
    have := congrArg List.length hle
    simpa only [List.length_append] using this
  have HL := Go.Lib.hid hle
  clear hle
  repeat' (first | (apply aF) | (apply aA) | (apply aT) | (apply bE) | (apply bV) | (apply aK; exact rfl) | (apply aI; exact rfl) | (apply aG) | (apply aD) | (apply aS) | (apply aR) | (apply aP; exact rfl; ((refine aZ rfl cJ rfl ?_)); refine aB ?_) | (apply aU; exact rfl; ((refine bM rfl rfl (fun h => ?_) (fun h => ?_))) <;> (refine aB ?_)) | (apply gL; exact rfl; ((refine hX eJ rfl aV (List.getElem?_eq_getElem (by omega)) (fun b o hI => ?_))); refine aB ?_) | (refine aE rfl rfl ?_; ((first | refine aH ?_ | refine aX ?_)); refine aB ?_))
  · have hd : (xs.drop i).flatMap cL = cL xs[i] ++ (xs.drop (i + 1)).flatMap cL := by rw [List.drop_eq_getElem_cons (show i < xs.length by omega), List.flatMap_cons]
    rw [hd, List.length_append] at hlen
    refine fB rfl rfl (fJ bw xs[i] hI) (fun _ h => (by cases h)) rfl rfl hb' (fun hle v2 => ?_) (fun hgt => ?_)
    · refine aB ?_
      repeat' (first | (apply aA) | (apply aG) | (apply aD) | (apply bP) | (apply aU; exact rfl; ((refine bI rfl rfl (by omega) (by omega) ?_)); refine aB ?_) | (refine aE rfl rfl ?_; ((refine aH ?_)); refine aB ?_))
      refine cE (m - 1) _ R2 (by omega) eE ⟨i + 1, bs' ++ cL xs[i], v2, by omega, rfl, hR2, rfl, by rw [List.length_append]; exact hle, ?_⟩ (fun w hs => hs.weaken bU cZ)
      rw [← HL.out, hd, List.append_assoc]
    · skip
      repeat' (first | (apply aL) | (apply bY))
      refine aN (cH H R (fun w hs => hs.weaken bU (fun p hp => List.mem_cons_of_mem _ (hR2 p hp))) (hp (by omega)))
  · have e := HL.out
    rw [List.drop_of_length_le (by omega), List.flatMap_nil, List.append_nil] at e
    rw [e] at hb' ⊢
    refine bC (.inr rfl) (fV rfl) (eI _ R (fun w hs => hs.weaken bU hR2) (hk (by rw [List.length_append] at hb'; exact hb') v'))

end Go.Proofs.YtggdljhmbckpmaaGreat
