/- Encode: walk. Decode: its small functions, and the run at a wrong head: walks. -/
import Derived.Test.YtggdljhmbckpmaaGreatEA
import Derived.Test.YtggdljhmbckpmaaGreatFB
set_option linter.unusedVariables false
set_option linter.unusedSimpArgs false
namespace Go.Proofs.YtggdljhmbckpmaaGreat
open Go Go.RowKit
set_option maxRecDepth 100000
set_option maxHeartbeats 1600000

section
variable {P : Program} {w0 : World} {E : List Value} {H : List Hp} {R : List MP} {ty : TypeId} {K : Value → List MP → Prop}
theorem fL {t : TypeId} {x ix : Operand} {s : ByteArray} {k : IntKind} {i : Int} {c : UInt8} [h : TyU P t .string] (hx : ev E x = .string s) (hix : ev E ix = .int k i) (h0 : 0 ≤ i) (hc : s[i.toNat]? = some c) (kk : K (eP c) R) : PW P w0 E (.index t x ix) ty H R K :=
  eV rfl (fun w _ => by
    rw [hx, hix]
    simp only [Instr.index, asIntOf, Sem.run_bind, Sem.run_pure, Result.andThen_ok, run_underlying h.und, if_pos h0, hc]
    rfl) kk
end
instance : TyI Tryz.prog 20 := ⟨by kernel_rfl⟩
def headMa : List UInt8 := [109, 97, 1]
def tL (out : List UInt8) : List UInt8 × Int := if 3 + out.length ≤ 250000 then (headMa ++ out, 0) else ([], 2)
theorem tX {w0 : World} {H : List Hp} {R R0 : List MP} {K : Value → List Hp → List MP → Prop} (cells : List Value) (out : List UInt8) (hst : ∀ bw, Wr Tryz.prog w0 R0 30 [.pointer (some ⟨bw, 0, none⟩), .agg cells.toArray] bw out) (hlen : cells.length = 16) (hsub : ∀ p ∈ R0, p ∈ R)
    (k : KB K (tL out) H R) : CallsK Tryz.prog w0 7 #[.agg cells.toArray] H R K := by
  refine nF Tryz.func7 rfl Tryz.ntmps7 eZ ?_
  apply aF; apply aA
  repeat' ((refine bG rfl rfl ?_; ((first | refine eB cW (fun b => ?_) | refine bK cW (fun b => ?_))); refine aB ?_))
  apply aG; apply aD; apply aF; apply aA
  repeat' (first | (refine tD (cap := [_, _]) rfl ?_) | (refine aE rfl rfl ?_; ((refine cM gP gP ?_)); refine aB ?_))
  apply aG; apply aD; apply aF; apply aA
  rename_i b1 b2
  revert b
  intro b3
  repeat' (first | (refine aE rfl rfl ?_; ((first | refine aX ?_ | refine dN gI ?_)); refine aB ?_) | (refine bG rfl rfl ?_; ((refine eB cW (fun b => ?_))); refine aB ?_))
  apply aG; apply aD
  refine mZ 5 1 ?_
  -- the deferred function, when it is too much
  have hpan : ∀ (E' : List Value) (R' : List MP), (∀ p ∈ R, p ∈ R') → E'.getD 2 undef = .pointer (some ⟨b2, 0, none⟩) → E'.getD 3 undef = .pointer (some ⟨b3, 0, none⟩) → ¬ (3 + out.length ≤ 250000) → s6 Tryz.prog w0 Tryz.f7 K (.panicking tl) [⟨.fn (.func 28) [.pointer (some ⟨b2, 0, none⟩), .pointer (some ⟨b3, 0, none⟩)].toArray, #[]⟩] E' (.blk b3 [.int .i64 0] 35 :: .blk b2 [.slice none 0 0] 33 :: .blk b1 cells 32 :: H) R' := by
    intro E' R' hR' hE2 hE3 hbig
    refine pC Tryz.func28 rfl rfl Tryz.ntmps28 rfl (by simp only [dP, List.length_cons, List.length_nil, Nat.reduceAdd, Nat.reduceSub, List.replicate_succ, List.replicate_zero, List.cons_append, List.nil_append, List.set_cons_succ, List.set_cons_zero]; rfl) ?_
    repeat' (first | (refine aE rfl rfl ?_; refine kQ rfl rfl ?_; refine aB ?_) | (refine aE rfl rfl ?_; refine kO rfl rfl ?_; refine aB ?_) | (apply aF) | (apply aA) | (apply aT) | (apply aK; exact rfl) | (apply aI; exact rfl) | (apply aG) | (apply aD) | (apply bP) | (apply bD; exact rfl; ((first | refine aO (i := 0) rfl cW rfl (by rfl) (by simp) (by simp [Value.oneCell']) ?_ | refine aO (i := 1) rfl cW rfl (by rfl) (by simp) (by simp [Value.oneCell']) ?_ | refine aO (i := 2) rfl cW rfl (by rfl) (by simp) (by simp [Value.oneCell']) ?_)); refine aB ?_; refine cA ?_) | (refine aE rfl rfl ?_; ((refine cD rfl rfl ?_)); refine aB ?_) | (refine bG rfl rfl ?_; ((refine bK cW (fun b => ?_))); refine aB ?_))
    exact mW (.inl rfl) (nI (jM rfl (dG (i := 2) hE2 rfl rfl) (dG (i := 1) hE3 rfl rfl)) H (Sl (.slice none 0 0) ([] : List UInt8) :: R) (fun w hs => (hs.weaken bU hR').sl_nil UInt8) (uV (r' := ([], 2)) (by unfold tL; rw [if_neg hbig]) k none 0))
  have hret : ∀ (E' : List Value) (H' : List Hp) (R' : List MP) (A : Option Addr) (c : Nat), (∀ p ∈ R, p ∈ R') → H.Sublist H' → E'.getD 2 undef = .pointer (some ⟨b2, 0, none⟩) → E'.getD 3 undef = .pointer (some ⟨b3, 0, none⟩) → 3 + out.length ≤ 250000 → s6 Tryz.prog w0 Tryz.f7 K .returning [⟨.fn (.func 28) [.pointer (some ⟨b2, 0, none⟩), .pointer (some ⟨b3, 0, none⟩)].toArray, #[]⟩] E' (.blk b3 [.int .i64 0] 35 :: .blk b2 [.slice A (headMa ++ out).length c] 33 :: H') (Sl (.slice A (headMa ++ out).length c) (headMa ++ out) :: R') := by
    intro E' H' R' A c hR' hH' hE2 hE3 hbig
    refine pC Tryz.func28 rfl rfl Tryz.ntmps28 rfl (by simp only [dP, List.length_cons, List.length_nil, Nat.reduceAdd, Nat.reduceSub, List.replicate_succ, List.replicate_zero, List.cons_append, List.nil_append, List.set_cons_succ, List.set_cons_zero]; rfl) ?_
    repeat' (first | (refine aE rfl rfl ?_; refine pF rfl ?_; refine aB ?_) | (apply aF) | (apply aA) | (apply aT) | (apply aK; exact rfl) | (apply aG) | (apply aD) | (apply bP) | (refine aE rfl rfl ?_; ((refine aX ?_)); refine aB ?_))
    exact mW (.inl rfl) (nI (jM rfl (dG (i := 1) hE2 rfl rfl) (dG (i := 0) hE3 rfl rfl)) H (Sl (.slice A (headMa ++ out).length c) (headMa ++ out) :: R) (fun w hs => hs.weaken (List.Sublist.cons _ (List.Sublist.cons _ hH')) (bL List.mem_cons_self (fun p hp => List.mem_cons_of_mem _ (hR' p hp)))) (uV (r' := (headMa ++ out, 0)) (by unfold tL; rw [if_pos hbig]) k A c))
  repeat' (first | (apply aF) | (apply aA) | (apply aT) | (apply aG) | (apply aD) | (refine aE rfl rfl ?_; ((refine aH ?_)); refine aB ?_))
  refine mY 4 ?_
  apply gK
  repeat' (first | (refine aE rfl rfl ?_; refine fL (c := 109) rfl rfl (by omega) rfl ?_; refine aB ?_) | (apply aF) | (apply aA) | (apply aT) | (apply bE) | (apply aK; exact rfl) | (apply aG) | (apply aD) | (apply aU; exact rfl; ((refine bM rfl rfl (fun h => ?_) (fun h => ?_))) <;> (first | (exfalso; omega) | refine aB ?_)) | (refine aE rfl rfl ?_; ((first | refine aH ?_ | refine aX ?_)); refine aB ?_))
  refine fB rfl rfl (mU b 109) (fun _ h => (by cases h)) (bs := []) rfl rfl (by decide) (fun _ v0 => ?_) (fun hgt => absurd hgt (by decide))
  refine aB ?_
  repeat' (first | (apply aA) | (apply aG) | (apply aD) | (apply bP) | (apply aU; exact rfl; ((refine bI rfl rfl (by omega) (by omega) ?_)); refine aB ?_) | (refine aE rfl rfl ?_; ((refine aH ?_)); refine aB ?_))
  apply jE
  apply gK
  repeat' (first | (refine aE rfl rfl ?_; refine fL (c := 97) rfl rfl (by omega) rfl ?_; refine aB ?_) | (apply aF) | (apply aA) | (apply aT) | (apply bE) | (apply aK; exact rfl) | (apply aG) | (apply aD) | (apply aU; exact rfl; ((refine bM rfl rfl (fun h => ?_) (fun h => ?_))) <;> (first | (exfalso; omega) | refine aB ?_)) | (refine aE rfl rfl ?_; ((first | refine aH ?_ | refine aX ?_)); refine aB ?_))
  refine fB rfl rfl (mU b 97) (fun _ h => (by cases h)) (bs := [109]) rfl rfl (by decide) (fun _ v1 => ?_) (fun hgt => absurd hgt (by decide))
  refine aB ?_
  repeat' (first | (apply aA) | (apply aG) | (apply aD) | (apply bP) | (apply aU; exact rfl; ((refine bI rfl rfl (by omega) (by omega) ?_)); refine aB ?_) | (refine aE rfl rfl ?_; ((refine aH ?_)); refine aB ?_))
  apply jE
  apply gK
  repeat' (first | (refine aE rfl rfl ?_; refine fL (c := 1) rfl rfl (by omega) rfl ?_; refine aB ?_) | (apply aF) | (apply aA) | (apply aT) | (apply bE) | (apply aK; exact rfl) | (apply aG) | (apply aD) | (apply aU; exact rfl; ((refine bM rfl rfl (fun h => ?_) (fun h => ?_))) <;> (first | (exfalso; omega) | refine aB ?_)) | (refine aE rfl rfl ?_; ((first | refine aH ?_ | refine aX ?_)); refine aB ?_))
  refine fB rfl rfl (mU b 1) (fun _ h => (by cases h)) (bs := [109, 97]) rfl rfl (by decide) (fun _ v2 => ?_) (fun hgt => absurd hgt (by decide))
  refine aB ?_
  repeat' (first | (apply aA) | (apply aG) | (apply aD) | (apply bP) | (apply aU; exact rfl; ((refine bI rfl rfl (by omega) (by omega) ?_)); refine aB ?_) | (refine aE rfl rfl ?_; ((refine aH ?_)); refine aB ?_))
  apply jE
  apply gK
  repeat' (first | (refine aP rfl ?_; refine aM (i := 4) rfl rfl (cN hlen) ?_; refine aB ?_) | (apply aF) | (apply aA) | (apply bV) | (apply aI; exact rfl) | (apply aG) | (apply aD) | (apply aS) | (apply aR) | (apply aU; exact rfl; ((refine bM rfl rfl (fun h => ?_) (fun h => ?_))) <;> (first | (exfalso; omega) | refine aB ?_)) | (refine aE rfl rfl ?_; ((refine aH ?_)); refine aB ?_))
  refine fB rfl rfl (hst b) hsub (bs := headMa) rfl rfl (by decide) (fun hle v4 => ?_) (fun hgt => ?_)
  rotate_left
  · skip
    repeat' ((apply aL))
    exact fC (hpan _ R (fun _ h => h) rfl rfl (by simp only [headMa, List.length_cons, List.length_nil] at hgt; omega))
  refine aB ?_
  refine jX 0 rfl (fun A c hv => ?_)
  subst hv
  refine cA ?_
  repeat' (first | (apply aF) | (apply aA) | (apply bN) | (apply aG) | (apply aD) | (apply aP; exact rfl; ((refine aM (i := 0) rfl rfl rfl ?_)); refine aB ?_) | (apply bD; exact rfl; ((first | refine aO (i := 1) rfl cW rfl (by rfl) (by simp) (by simp [Value.oneCell']) ?_ | refine aO (i := 2) rfl cW rfl (by rfl) (by simp) (by simp [Value.oneCell']) ?_)); refine aB ?_; refine cA ?_) | (refine aE rfl rfl ?_; ((first | refine aH ?_ | refine aW rfl ?_ | refine aC rfl ?_)); refine aB ?_))
  refine kS (.blk b3 [.int .i64 0] 35 :: .blk b2 [.slice A (headMa ++ out).length c] 33 :: .blk b1 cells 32 :: H) _ (fun w hs => hs.weaken (List.Sublist.cons _ (List.Sublist.refl _)) (fun _ h => h)) ?_
  exact lI (.inl rfl) (hret _ (.blk b1 cells 32 :: H) R A c (fun _ h => h) (List.sublist_cons_self _ _) rfl rfl (by simp only [headMa, List.length_cons, List.length_nil] at hle; omega))
end Go.Proofs.YtggdljhmbckpmaaGreat
namespace Go.Proofs.YtggdljhmbckpmaaGreat
open Go Go.RowKit
set_option maxRecDepth 100000
set_option maxHeartbeats 1600000

instance : TyU Tryz.prog 95 (.struct #[{ name := "at", type := 3, offset := 0, embedded := false, tag := "", pkgPath := "peculium/image", byteOffset := 0 }]) := ⟨Tryz.underlying95⟩
def rf (n : Int) : List PanicEntry := [{ v := .iface 95 (.agg #[.int .i64 n]), recovered := false }]
theorem rH {w0 : World} {H : List Hp} {R : List MP} {K : Value → List Hp → List MP → Prop} {KP : List PanicEntry → List Hp → List MP → Prop} (br : Nat) (A : Option Addr) (c : Nat) (xs : List UInt8) (at_ : Nat) (hx : xs.length ≤ 9223372036854775806) (hat : at_ ≤ xs.length) (hm : Sl (.slice A xs.length c) xs ∈ R)
    (k : ∀ (h : at_ < xs.length), K (eP xs[at_]) (.blk br [.slice A xs.length c, .int .i64 ((at_ + 1 : Nat) : Int)] 100 :: H) R) (kp : xs.length ≤ at_ → KP (rf xs.length) H R) :
    CallsP Tryz.prog w0 37 #[.pointer (some ⟨br, 0, none⟩)] (.blk br [.slice A xs.length c, .int .i64 (at_ : Int)] 100 :: H) R K KP := by
  refine cP Tryz.func37 rfl Tryz.ntmps37 eZ ?_
  repeat' (first | (apply aF) | (apply aA) | (apply aG) | (apply aD) | (refine aE rfl rfl ?_; ((refine aX ?_)); refine aB ?_))
  refine dQ eT (by decide +kernel) (fun _ _ _ _ _ _ h => h) (List.Sublist.refl _) ?_
  all_goals ((refine bF 0 ?_; ((refine aH ?_)); refine aJ ?_))
  all_goals ((refine bF 1 ?_; ((refine aW rfl ?_)); refine aJ ?_))
  all_goals ((refine bF 2 ?_; ((refine aC rfl ?_)); refine aJ ?_))
  all_goals ((refine bF 3 ?_; ((refine aM (i := 0) rfl rfl rfl ?_)); refine aJ ?_))
  all_goals ((refine bF 4 ?_; ((refine aH ?_)); refine aJ ?_))
  all_goals ((refine bF 5 ?_; ((refine aW rfl ?_)); refine aJ ?_))
  all_goals ((refine bF 6 ?_; ((refine aC rfl ?_)); refine aJ ?_))
  all_goals ((refine bF 7 ?_; ((refine aM (i := 0) rfl rfl rfl ?_)); refine aJ ?_))
  all_goals ((refine bF 8 ?_; ((refine bQ rfl ?_)); refine aJ ?_))
  all_goals ((refine bF 9 ?_; ((refine jJ rfl rfl (fun h => ?_) (fun h => ?_))) <;> (refine aJ ?_)))
  all_goals refine gX ?_
  · skip
    repeat' (first | (refine rB rfl rfl ?_) | (apply aA) | (apply aK; exact rfl) | (apply aD) | (apply aL) | (apply aP; exact rfl; ((refine aM (i := 0) rfl rfl rfl ?_)); refine aB ?_) | (refine aE rfl rfl ?_; ((first | refine aH ?_ | refine aW rfl ?_ | refine aC rfl ?_ | refine bQ rfl ?_ | refine dN gI ?_ | refine eX rfl ?_)); refine aB ?_))
    exact aN (cH H R (fun w hs => hs.weaken bU cZ) (kp (by omega)))
  · have hlt : at_ < xs.length := by omega
    have e1 : (((at_ : Int) + 1) - 1) = (at_ : Int) := by omega
    repeat' (first | (apply aF) | (apply aA) | (apply bE) | (apply aI; exact rfl) | (apply aG) | (apply aD) | (apply aP; exact rfl; ((refine aM (i := 0) rfl rfl rfl ?_)); refine aB ?_) | (apply aU; exact rfl; ((refine bI rfl rfl (by omega) (by omega) ?_)); refine aB ?_) | (apply bD; exact rfl; ((refine aO (i := 0) rfl cW rfl (by rfl) (by simp) (by simp [Value.oneCell']) ?_)); refine aB ?_; refine cA ?_) | (refine aE rfl rfl ?_; ((first | refine aH ?_ | refine aW rfl ?_ | refine aC rfl ?_)); refine aB ?_))
    refine dQ eT (by decide +kernel) (fun _ _ _ _ _ _ h => h) (List.Sublist.refl _) ?_
    all_goals ((refine bF 0 ?_; ((refine aH ?_)); refine aJ ?_))
    all_goals ((refine bF 1 ?_; ((refine aW rfl ?_)); refine aJ ?_))
    all_goals ((refine bF 2 ?_; ((refine aC rfl ?_)); refine aJ ?_))
    all_goals ((refine bF 3 ?_; ((refine aM (i := 0) rfl rfl rfl ?_)); refine aJ ?_))
    all_goals ((refine bF 4 ?_; ((refine aH ?_)); refine aJ ?_))
    all_goals ((refine bF 5 ?_; ((refine aW rfl ?_)); refine aJ ?_))
    all_goals ((refine bF 6 ?_; ((refine aC rfl ?_)); refine aJ ?_))
    all_goals ((refine bF 7 ?_; ((refine aM (i := 0) rfl rfl rfl ?_)); refine aJ ?_))
    all_goals ((refine bF 8 ?_; ((refine eR rfl rfl (by omega) (by omega) ?_)); refine aJ ?_))
    all_goals ((refine bF 9 ?_; ((refine fU eJ rfl aV (List.getElem?_eq_getElem (by omega)) (by omega) (fun b o => ?_))); refine aJ ?_))
    all_goals ((refine bF 10 ?_; ((refine aZ rfl cJ rfl ?_)); refine aJ ?_))
    all_goals ((refine bF 11 ?_; ((refine aX ?_)); refine aJ ?_))
    all_goals refine gX ?_
    repeat' (first | (apply bN) | (apply aD))
    have e2 : (((at_ : Int) + 1) - 1).toNat = at_ := by omega
    have k' := k hlt
    simp only [e2]
    refine bC (.inl rfl) (dM rfl (bS rfl)) (eI _ R (fun w hs => hs.weaken bU cZ) k')
theorem p4 {w0 : World} {H : List Hp} {R : List MP} {K : Value → List Hp → List MP → Prop} {KP : List PanicEntry → List Hp → List MP → Prop} (br : Nat) (v : Value) (at_ : Int) (ha : 1 ≤ at_) (hb : at_ ≤ 9223372036854775807)
    (kp : KP (rf (at_ - 1)) H R) : CallsP Tryz.prog w0 38 #[.pointer (some ⟨br, 0, none⟩)] (.blk br [v, .int .i64 at_] 100 :: H) R K KP := by
  refine cP Tryz.func38 rfl Tryz.ntmps38 eZ ?_
  repeat' (first | (refine aP rfl ?_; refine aM (i := 0) (o := 1) rfl rfl rfl ?_; refine aB ?_) | (refine rB rfl rfl ?_) | (apply aA) | (apply aU; exact rfl; ((refine eR rfl rfl (by omega) (by omega) ?_)); refine aB ?_) | (refine aE rfl rfl ?_; ((first | refine aH ?_ | refine aW rfl ?_ | refine aC rfl ?_ | refine dN gI ?_ | refine eX rfl ?_)); refine aB ?_))
  exact aN (cH H R (fun w hs => hs.weaken bU cZ) kp)
theorem rQ {w0 : World} {H : List Hp} {R : List MP} {K : Value → List Hp → List MP → Prop} (br : Nat) (A : Option Addr) (c : Nat) (xs : List UInt8) (at_ : Nat) (hx : xs.length ≤ 9223372036854775806) (hlt : at_ < xs.length) (hm : Sl (.slice A xs.length c) xs ∈ R)
    (k : K (eP xs[at_]) (.blk br [.slice A xs.length c, .int .i64 ((at_ + 1 : Nat) : Int)] 100 :: H) R) :
    CallsK Tryz.prog w0 37 #[.pointer (some ⟨br, 0, none⟩)] (.blk br [.slice A xs.length c, .int .i64 (at_ : Int)] 100 :: H) R K :=
  (rH br A c xs at_ hx (by omega) hm (fun _ => k) (fun h => absurd h (by omega))).k

def machZ : List Value := [.int .i64 0, .int .i64 0, .int .i64 0, .int .i64 0, .int .i64 0, .int .i64 0, .bool false, .slice none 0 0, .slice none 0 0, .slice none 0 0, .slice none 0 0, .slice none 0 0, .slice none 0 0, .slice none 0 0, .slice none 0 0, .int .i64 0]
/-- A wrong third byte of the head. -/
theorem wH {w0 : World} {H : List Hp} {R : List MP} {K : Value → List Hp → List MP → Prop} (A : Option Addr) (c : Nat) (hm : Sl (.slice A 3 c) ([109, 97, 2] : List UInt8) ∈ R)
    (k : K (.tuple #[.agg machZ.toArray, .int .i64 2, .int .i64 300]) H R) : CallsK Tryz.prog w0 9 #[.slice A 3 c] H R K := by
  refine nF Tryz.func9 rfl Tryz.ntmps9 eZ ?_
  apply aF; apply aA
  repeat' ((refine bG rfl rfl ?_; ((refine bK cW (fun b => ?_))); refine aB ?_))
  rename_i b2 b3
  revert b
  intro b4
  apply aG; apply aD
  repeat' (first | (refine tD (cap := [_, _, _]) rfl ?_) | (apply aF) | (apply aA) | (apply aT) | (apply bE) | (apply aI; exact rfl) | (apply aG) | (apply aD) | (apply aU; exact rfl; ((refine fF rfl rfl (fun h => ?_) (fun h => ?_))) <;> (first | (exfalso; omega) | refine aB ?_)) | (refine aE rfl rfl ?_; ((first | refine aH ?_ | refine aX ?_ | refine bQ rfl ?_ | refine cM gP gP ?_ | refine dN gI ?_)); refine aB ?_) | (refine bG rfl rfl ?_; ((refine eB cW (fun b => ?_))); refine aB ?_))
  refine mY 3 ?_
  apply gK
  repeat' (first | (apply aF) | (apply aA) | (apply aT) | (apply bE) | (apply aK; exact rfl) | (apply aG) | (apply aD) | (apply aU; exact rfl; ((refine bM rfl rfl (fun h => ?_) (fun h => ?_))) <;> (first | (exfalso; omega) | refine aB ?_)) | (refine aE rfl rfl ?_; ((first | refine aH ?_ | refine aX ?_)); refine aB ?_))
  refine dQ eT (by decide +kernel) (qB (by decide +kernel)) (List.Sublist.cons _ (List.Sublist.refl _)) ?_
  all_goals ((refine bR 0 (List.Sublist.cons _ (List.Sublist.refl _)) ?_; ((refine aH ?_)); refine aJ ?_))
  all_goals ((refine bR 1 (List.Sublist.cons _ (List.Sublist.refl _)) ?_; ((refine aW rfl ?_)); refine aJ ?_))
  all_goals ((refine bR 2 (List.Sublist.cons _ (List.Sublist.refl _)) ?_; ((refine aC rfl ?_)); refine aJ ?_))
  all_goals ((refine bR 4 (List.Sublist.cons _ (List.Sublist.refl _)) ?_; ((refine aH ?_)); refine aJ ?_))
  all_goals ((refine bR 5 (List.Sublist.cons _ (List.Sublist.refl _)) ?_; ((refine fL (c := 109) rfl rfl (by omega) rfl ?_)); refine aJ ?_))
  -- left: [3, 6]; ready: [3]: ['call']
  refine fN 3 ?_
  refine aY fA ?_; refine rQ b A c [109, 97, 2] 0 (by decide) (by decide) hm ?_
  refine ⟨.inl (fun w hs => hs.weaken (List.Sublist.cons _ (List.Sublist.refl _)) (fun _ h => h)), ?_⟩; refine aJ ?_
  all_goals ((refine bR 6 (List.Sublist.cons _ (List.Sublist.refl _)) ?_; ((refine eL rfl rfl (fun h => ?_) (fun h => ?_))) <;> (refine aJ ?_)))
  all_goals refine gX ?_
  · exact absurd rfl (by assumption)
  repeat' (first | (apply aA) | (apply bE) | (apply aI; exact rfl) | (apply aG) | (apply aD) | (apply bP) | (apply aU; exact rfl; ((refine bI rfl rfl (by omega) (by omega) ?_)); refine aB ?_) | (refine aE rfl rfl ?_; ((refine aH ?_)); refine aB ?_))
  apply jE
  apply gK
  repeat' (first | (apply aF) | (apply aA) | (apply aT) | (apply bE) | (apply aK; exact rfl) | (apply aG) | (apply aD) | (apply aU; exact rfl; ((refine bM rfl rfl (fun h => ?_) (fun h => ?_))) <;> (first | (exfalso; omega) | refine aB ?_)) | (refine aE rfl rfl ?_; ((first | refine aH ?_ | refine aX ?_)); refine aB ?_))
  refine dQ eT (by decide +kernel) (qB (by decide +kernel)) (List.Sublist.cons _ (List.Sublist.refl _)) ?_
  all_goals ((refine bR 0 (List.Sublist.cons _ (List.Sublist.refl _)) ?_; ((refine aH ?_)); refine aJ ?_))
  all_goals ((refine bR 1 (List.Sublist.cons _ (List.Sublist.refl _)) ?_; ((refine aW rfl ?_)); refine aJ ?_))
  all_goals ((refine bR 2 (List.Sublist.cons _ (List.Sublist.refl _)) ?_; ((refine aC rfl ?_)); refine aJ ?_))
  all_goals ((refine bR 4 (List.Sublist.cons _ (List.Sublist.refl _)) ?_; ((refine aH ?_)); refine aJ ?_))
  all_goals ((refine bR 5 (List.Sublist.cons _ (List.Sublist.refl _)) ?_; ((refine fL (c := 97) rfl rfl (by omega) rfl ?_)); refine aJ ?_))
  -- left: [3, 6]; ready: [3]: ['call']
  refine fN 3 ?_
  refine aY fA ?_; refine rQ b A c [109, 97, 2] 1 (by decide) (by decide) hm ?_
  refine ⟨.inl (fun w hs => hs.weaken (List.Sublist.cons _ (List.Sublist.refl _)) (fun _ h => h)), ?_⟩; refine aJ ?_
  all_goals ((refine bR 6 (List.Sublist.cons _ (List.Sublist.refl _)) ?_; ((refine eL rfl rfl (fun h => ?_) (fun h => ?_))) <;> (refine aJ ?_)))
  all_goals refine gX ?_
  · exact absurd rfl (by assumption)
  repeat' (first | (apply aA) | (apply bE) | (apply aI; exact rfl) | (apply aG) | (apply aD) | (apply bP) | (apply aU; exact rfl; ((refine bI rfl rfl (by omega) (by omega) ?_)); refine aB ?_) | (refine aE rfl rfl ?_; ((refine aH ?_)); refine aB ?_))
  apply jE
  apply gK
  repeat' (first | (apply aF) | (apply aA) | (apply aT) | (apply bE) | (apply aK; exact rfl) | (apply aG) | (apply aD) | (apply aU; exact rfl; ((refine bM rfl rfl (fun h => ?_) (fun h => ?_))) <;> (first | (exfalso; omega) | refine aB ?_)) | (refine aE rfl rfl ?_; ((first | refine aH ?_ | refine aX ?_)); refine aB ?_))
  refine dQ eT (by decide +kernel) (qB (by decide +kernel)) (List.Sublist.cons _ (List.Sublist.refl _)) ?_
  all_goals ((refine bR 0 (List.Sublist.cons _ (List.Sublist.refl _)) ?_; ((refine aH ?_)); refine aJ ?_))
  all_goals ((refine bR 1 (List.Sublist.cons _ (List.Sublist.refl _)) ?_; ((refine aW rfl ?_)); refine aJ ?_))
  all_goals ((refine bR 2 (List.Sublist.cons _ (List.Sublist.refl _)) ?_; ((refine aC rfl ?_)); refine aJ ?_))
  all_goals ((refine bR 4 (List.Sublist.cons _ (List.Sublist.refl _)) ?_; ((refine aH ?_)); refine aJ ?_))
  all_goals ((refine bR 5 (List.Sublist.cons _ (List.Sublist.refl _)) ?_; ((refine fL (c := 1) rfl rfl (by omega) rfl ?_)); refine aJ ?_))
  -- left: [3, 6]; ready: [3]: ['call']
  refine fN 3 ?_
  refine aY fA ?_; refine rQ b A c [109, 97, 2] 2 (by decide) (by decide) hm ?_
  refine ⟨.inl (fun w hs => hs.weaken (List.Sublist.cons _ (List.Sublist.refl _)) (fun _ h => h)), ?_⟩; refine aJ ?_
  all_goals ((refine bR 6 (List.Sublist.cons _ (List.Sublist.refl _)) ?_; ((refine eL rfl rfl (fun h => ?_) (fun h => ?_))) <;> (refine aJ ?_)))
  all_goals refine gX ?_
  rotate_left
  · rename_i h
    exact absurd h (by decide)
  repeat' (first | (apply aA) | (apply aK; exact rfl) | (apply aD) | (refine aE rfl rfl ?_; ((refine aH ?_)); refine aB ?_))
  refine dS rfl ?_
  refine iD (KP := fun ch H' R' => ch = rf 2 ∧ H' = .blk b4 [.int .i64 0] 35 :: .blk b3 [.int .i64 0] 3 :: .blk b2 machZ 32 :: H ∧ R' = R) rfl (p4 b _ _ (by decide) (by decide) ⟨rfl, rfl, rfl⟩) ?_
  rintro ch H' R' ⟨rfl, rfl, rfl⟩
  repeat' (first | (apply aL) | (apply bY))
  refine fC (pC Tryz.func36 rfl rfl Tryz.ntmps36 rfl (by simp only [dP, List.length_cons, List.length_nil, Nat.reduceAdd, Nat.reduceSub, List.replicate_succ, List.replicate_zero, List.cons_append, List.nil_append, List.set_cons_succ, List.set_cons_zero]; rfl) ?_)
  repeat' (first | (refine aE rfl rfl ?_; refine kQ rfl rfl ?_; refine aB ?_) | (refine aE rfl rfl ?_; refine kO rfl rfl ?_; refine aB ?_) | (apply aF) | (apply aA) | (apply aT) | (apply aK; exact rfl) | (apply aI; exact rfl) | (apply aG) | (apply aD) | (apply bD; exact rfl; ((refine aO (i := 0) rfl cW rfl (by rfl) (by simp) (by simp [Value.oneCell']) ?_)); refine aB ?_; refine cA ?_) | (refine aE rfl rfl ?_; ((refine cD rfl rfl ?_)); refine aB ?_) | (refine bG rfl rfl ?_; ((refine bK cW (fun b => ?_))); refine aB ?_))
  refine dQ eT (by decide +kernel) (uC (p := fun e => mN _ e = true)) (List.Sublist.cons_cons _ (List.Sublist.cons _ (List.Sublist.cons _ (List.Sublist.cons _ (List.Sublist.refl _))))) ?_
  all_goals ((refine bR 0 (List.Sublist.cons_cons _ (List.Sublist.cons _ (List.Sublist.cons _ (List.Sublist.cons _ (List.Sublist.refl _))))) ?_; ((refine dN gI ?_)); refine aJ ?_))
  all_goals ((refine bR 1 (List.Sublist.cons_cons _ (List.Sublist.cons _ (List.Sublist.cons _ (List.Sublist.cons _ (List.Sublist.refl _))))) ?_; ((refine aC rfl ?_)); refine aJ ?_))
  all_goals ((refine bR 2 (List.Sublist.cons_cons _ (List.Sublist.cons _ (List.Sublist.cons _ (List.Sublist.cons _ (List.Sublist.refl _))))) ?_; ((refine aM (i := 0) rfl rfl rfl ?_)); refine aJ ?_))
  -- left: [3, 4, 5]; ready: [3]: ['store']
  refine lL 3 ?_
  refine aO (i := 3) rfl cW rfl (by rfl) (by simp [machZ]) (by simp [Value.oneCell']) ?_
  refine ⟨.inl (fun w hs => hs.weaken (List.Sublist.cons_cons _ (List.Sublist.cons _ (List.Sublist.cons _ (List.Sublist.cons _ (List.Sublist.refl _))))) (fun _ h => h)), ?_⟩
  refine aJ ?_
  refine jC ?_
  refine lL 4 ?_
  refine aO (i := 2) rfl cW rfl (by rfl) (by simp [machZ]) (by simp [Value.oneCell']) ?_
  refine ⟨.inl (fun w hs => hs.weaken (List.Sublist.cons_cons _ (List.Sublist.cons _ (List.Sublist.cons _ (List.Sublist.cons _ (List.Sublist.refl _))))) (fun _ h => h)), ?_⟩
  refine aJ ?_
  refine jC ?_
  refine lL 5 ?_
  refine aO (i := 1) rfl cW rfl (by rfl) (by simp [machZ]) (by simp [Value.oneCell']) ?_
  refine ⟨.inl (fun w hs => hs.weaken (List.Sublist.cons_cons _ (List.Sublist.cons _ (List.Sublist.cons _ (List.Sublist.cons _ (List.Sublist.refl _))))) (fun _ h => h)), ?_⟩
  refine aJ ?_
  refine jC ?_
  refine jO (by decide +kernel) ?_
  repeat' ((apply bP))
  exact mW (.inl rfl) (nI (z0 rfl (dG (i := 3) rfl rfl rfl) (dG (i := 2) rfl rfl rfl) (dG (i := 1) rfl rfl rfl)) H R' (fun w hs => hs.weaken bU (fun _ h => h)) k)
end Go.Proofs.YtggdljhmbckpmaaGreat
