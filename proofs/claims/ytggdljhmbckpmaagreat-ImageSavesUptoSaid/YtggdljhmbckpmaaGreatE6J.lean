/- Encode: walk. Decode: its small functions, and the run at a wrong head: walks. -/
import Derived.Test.YtggdljhmbckpmaaGreatA16J
import Derived.Test.YtggdljhmbckpmaaGreatF3J
set_option linter.unusedVariables false
set_option linter.unusedSimpArgs false
namespace Go.Proofs.YtggdljhmbckpmaaGreat
open Go Go.RowKit
set_option maxRecDepth 100000
set_option maxHeartbeats 1600000

section
variable {P : Program} {w0 : World} {E : List Value} {H : List Hp} {R : List MP} {ty : TypeId} {K : Value → List MP → Prop}
theorem gM {t : TypeId} {x ix : Operand} {s : ByteArray} {k : IntKind} {i : Int} {c : UInt8} [h : TyU P t .string] (hx : ev E x = .string s) (hix : ev E ix = .int k i) (h0 : 0 ≤ i) (hc : s[i.toNat]? = some c) (kk : K (fH c) R) : PW P w0 E (.index t x ix) ty H R K :=
  fS rfl (fun w _ => by
    rw [hx, hix]
    simp only [Instr.index, asIntOf, Sem.run_bind, Sem.run_pure, Result.andThen_ok, run_underlying h.und, if_pos h0, hc]
    rfl) kk
end
instance : TyI Tryz.prog 20 := ⟨by kernel_rfl⟩
def headMa : List UInt8 := [109, 97, 1]
def uO (out : List UInt8) : List UInt8 × Int := if 3 + out.length ≤ 250000 then (headMa ++ out, 0) else ([], 2)
theorem xE {w0 : World} {H : List Hp} {R R0 : List MP} {K : Value → List Hp → List MP → Prop} (cells : List Value) (out : List UInt8) (hst : ∀ bw, Wr Tryz.prog w0 R0 30 [.pointer (some ⟨bw, 0, none⟩), .agg cells.toArray] bw out) (hlen : cells.length = 16) (hsub : ∀ p ∈ R0, p ∈ R)
    (k : KB K (uO out) H R) : CallsK Tryz.prog w0 7 #[.agg cells.toArray] H R K := by
  refine oZ Tryz.func7 rfl Tryz.ntmps7 fI ?_
  apply aF; apply aA
  repeat' ((refine bJ rfl rfl ?_; ((first | refine dX cW (fun b => ?_) | refine bL cW (fun b => ?_))); refine aB ?_))
  apply aH; apply aD; apply aF; apply aA
  repeat' (first | (refine vV (cap := [_, _]) rfl ?_) | (refine aE rfl rfl ?_; ((refine cR iE iE ?_)); refine aB ?_))
  apply aH; apply aD; apply aF; apply aA
  rename_i b1 b2
  revert b
  intro b3
  repeat' (first | (refine aE rfl rfl ?_; ((first | refine aY ?_ | refine dI gG ?_)); refine aB ?_) | (refine bJ rfl rfl ?_; ((refine dX cW (fun b => ?_))); refine aB ?_))
  apply aH; apply aD
  refine mN 5 1 ?_
  -- the deferred function, when it is too much
  have hpan : ∀ (E' : List Value) (R' : List MP), (∀ p ∈ R, p ∈ R') → E'.getD 2 undef = .pointer (some ⟨b2, 0, none⟩) → E'.getD 3 undef = .pointer (some ⟨b3, 0, none⟩) → ¬ (3 + out.length ≤ 250000) → LVm Tryz.prog w0 Tryz.f7 K (.panicking tl) [⟨.fn (.func 28) [.pointer (some ⟨b2, 0, none⟩), .pointer (some ⟨b3, 0, none⟩)].toArray, #[]⟩] E' (.blk b3 [.int .i64 0] 35 :: .blk b2 [.slice none 0 0] 33 :: .blk b1 cells 32 :: H) R' := by
    intro E' R' hR' hE2 hE3 hbig
    refine rB Tryz.func28 rfl rfl Tryz.ntmps28 rfl (by simp only [eE, List.length_cons, List.length_nil, Nat.reduceAdd, Nat.reduceSub, List.replicate_succ, List.replicate_zero, List.cons_append, List.nil_append, List.set_cons_succ, List.set_cons_zero]; rfl) ?_
    repeat' (first | (refine aE rfl rfl ?_; refine mI rfl rfl ?_; refine aB ?_) | (refine aE rfl rfl ?_; refine mJ rfl rfl ?_; refine aB ?_) | (apply aF) | (apply aA) | (apply aV) | (apply aK; exact rfl) | (apply aJ; exact rfl) | (apply aH) | (apply aD) | (apply bU) | (apply bE; exact rfl; ((first | refine aN (i := 0) rfl cW rfl dT dB eK ?_ | refine aN (i := 1) rfl cW rfl dT dB eK ?_ | refine aN (i := 2) rfl cW rfl dT dB eK ?_)); refine aB ?_; refine cE ?_) | (refine aE rfl rfl ?_; ((refine cD rfl rfl ?_)); refine aB ?_) | (refine bJ rfl rfl ?_; ((refine bL cW (fun b => ?_))); refine aB ?_))
    exact nQ (.inl rfl) (pA (iN rfl (dC (i := 2) hE2 rfl rfl) (dC (i := 1) hE3 rfl rfl)) H (Sl (.slice none 0 0) ([] : List UInt8) :: R) (fun w hs => (hs.weaken eB hR').sl_nil UInt8) (uQ (r' := ([], 2)) (by unfold uO; rw [if_neg hbig]) k none 0))
  have hret : ∀ (E' : List Value) (H' : List Hp) (R' : List MP) (A : Option Addr) (c : Nat), (∀ p ∈ R, p ∈ R') → H.Sublist H' → E'.getD 2 undef = .pointer (some ⟨b2, 0, none⟩) → E'.getD 3 undef = .pointer (some ⟨b3, 0, none⟩) → 3 + out.length ≤ 250000 → LVm Tryz.prog w0 Tryz.f7 K .returning [⟨.fn (.func 28) [.pointer (some ⟨b2, 0, none⟩), .pointer (some ⟨b3, 0, none⟩)].toArray, #[]⟩] E' (.blk b3 [.int .i64 0] 35 :: .blk b2 [.slice A (headMa ++ out).length c] 33 :: H') (Sl (.slice A (headMa ++ out).length c) (headMa ++ out) :: R') := by
    intro E' H' R' A c hR' hH' hE2 hE3 hbig
    refine rB Tryz.func28 rfl rfl Tryz.ntmps28 rfl (by simp only [eE, List.length_cons, List.length_nil, Nat.reduceAdd, Nat.reduceSub, List.replicate_succ, List.replicate_zero, List.cons_append, List.nil_append, List.set_cons_succ, List.set_cons_zero]; rfl) ?_
    repeat' (first | (refine aE rfl rfl ?_; refine qK rfl ?_; refine aB ?_) | (apply aF) | (apply aA) | (apply aV) | (apply aK; exact rfl) | (apply aH) | (apply aD) | (apply bU) | (refine aE rfl rfl ?_; ((refine aY ?_)); refine aB ?_))
    exact nQ (.inl rfl) (pA (iN rfl (dC (i := 1) hE2 rfl rfl) (dC (i := 0) hE3 rfl rfl)) H (Sl (.slice A (headMa ++ out).length c) (headMa ++ out) :: R) (fun w hs => hs.weaken (List.Sublist.cons _ (List.Sublist.cons _ hH')) (bT List.mem_cons_self (fun p hp => List.mem_cons_of_mem _ (hR' p hp)))) (uQ (r' := (headMa ++ out, 0)) (by unfold uO; rw [if_pos hbig]) k A c))
  repeat' (first | (apply aF) | (apply aA) | (apply aV) | (apply aH) | (apply aD) | (refine aE rfl rfl ?_; ((refine aG ?_)); refine aB ?_))
  refine pC 4 ?_
  apply iK
  repeat' (first | (refine aE rfl rfl ?_; refine gM (c := 109) rfl rfl aO rfl ?_; refine aB ?_) | (apply aF) | (apply aA) | (apply aV) | (apply bF) | (apply aK; exact rfl) | (apply aH) | (apply aD) | (apply aU; exact rfl; ((refine bQ rfl rfl (fun h => ?_) (fun h => ?_))) <;> (first | (exfalso; omega) | refine aB ?_)) | (refine aE rfl rfl ?_; ((first | refine aG ?_ | refine aY ?_)); refine aB ?_))
  refine fV rfl rfl (nT b 109) (fun _ h => (by cases h)) (bs := []) rfl rfl cQ (fun _ v0 => ?_) (fun hgt => absurd hgt cQ)
  refine aB ?_
  repeat' (first | (apply aA) | (apply aH) | (apply aD) | (apply bU) | (apply aU; exact rfl; ((refine bM rfl rfl aO aO ?_)); refine aB ?_) | (refine aE rfl rfl ?_; ((refine aG ?_)); refine aB ?_))
  apply kH
  apply iK
  repeat' (first | (refine aE rfl rfl ?_; refine gM (c := 97) rfl rfl aO rfl ?_; refine aB ?_) | (apply aF) | (apply aA) | (apply aV) | (apply bF) | (apply aK; exact rfl) | (apply aH) | (apply aD) | (apply aU; exact rfl; ((refine bQ rfl rfl (fun h => ?_) (fun h => ?_))) <;> (first | (exfalso; omega) | refine aB ?_)) | (refine aE rfl rfl ?_; ((first | refine aG ?_ | refine aY ?_)); refine aB ?_))
  refine fV rfl rfl (nT b 97) (fun _ h => (by cases h)) (bs := [109]) rfl rfl cQ (fun _ v1 => ?_) (fun hgt => absurd hgt cQ)
  refine aB ?_
  repeat' (first | (apply aA) | (apply aH) | (apply aD) | (apply bU) | (apply aU; exact rfl; ((refine bM rfl rfl aO aO ?_)); refine aB ?_) | (refine aE rfl rfl ?_; ((refine aG ?_)); refine aB ?_))
  apply kH
  apply iK
  repeat' (first | (refine aE rfl rfl ?_; refine gM (c := 1) rfl rfl aO rfl ?_; refine aB ?_) | (apply aF) | (apply aA) | (apply aV) | (apply bF) | (apply aK; exact rfl) | (apply aH) | (apply aD) | (apply aU; exact rfl; ((refine bQ rfl rfl (fun h => ?_) (fun h => ?_))) <;> (first | (exfalso; omega) | refine aB ?_)) | (refine aE rfl rfl ?_; ((first | refine aG ?_ | refine aY ?_)); refine aB ?_))
  refine fV rfl rfl (nT b 1) (fun _ h => (by cases h)) (bs := [109, 97]) rfl rfl cQ (fun _ v2 => ?_) (fun hgt => absurd hgt cQ)
  refine aB ?_
  repeat' (first | (apply aA) | (apply aH) | (apply aD) | (apply bU) | (apply aU; exact rfl; ((refine bM rfl rfl aO aO ?_)); refine aB ?_) | (refine aE rfl rfl ?_; ((refine aG ?_)); refine aB ?_))
  apply kH
  apply iK
  repeat' (first | (refine aP rfl ?_; refine aL (i := 4) rfl rfl (cU hlen) ?_; refine aB ?_) | (apply aF) | (apply aA) | (apply cG) | (apply aJ; exact rfl) | (apply aH) | (apply aD) | (apply aW) | (apply aS) | (apply aU; exact rfl; ((refine bQ rfl rfl (fun h => ?_) (fun h => ?_))) <;> (first | (exfalso; omega) | refine aB ?_)) | (refine aE rfl rfl ?_; ((refine aG ?_)); refine aB ?_))
  refine fV rfl rfl (hst b) hsub (bs := headMa) rfl rfl cQ (fun hle v4 => ?_) (fun hgt => ?_)
  rotate_left
  · skip
    repeat' ((apply aM))
    exact fW (hpan _ R (fun _ h => h) rfl rfl (by simp only [headMa, List.length_cons, List.length_nil] at hgt; omega))
  refine aB ?_
  refine hZ 0 rfl (fun A c hv => ?_)
  subst hv
  refine cE ?_
  repeat' (first | (apply aF) | (apply aA) | (apply bP) | (apply aH) | (apply aD) | (apply aP; exact rfl; ((refine aL (i := 0) rfl rfl rfl ?_)); refine aB ?_) | (apply bE; exact rfl; ((first | refine aN (i := 1) rfl cW rfl dT dB eK ?_ | refine aN (i := 2) rfl cW rfl dT dB eK ?_)); refine aB ?_; refine cE ?_) | (refine aE rfl rfl ?_; ((first | refine aG ?_ | refine bA rfl ?_ | refine aC rfl ?_)); refine aB ?_))
  refine mM (.blk b3 [.int .i64 0] 35 :: .blk b2 [.slice A (headMa ++ out).length c] 33 :: .blk b1 cells 32 :: H) _ (fun w hs => hs.weaken fE (fun _ h => h)) ?_
  exact nC (.inl rfl) (hret _ (.blk b1 cells 32 :: H) R A c (fun _ h => h) (List.sublist_cons_self _ _) rfl rfl (by simp only [headMa, List.length_cons, List.length_nil] at hle; omega))
end Go.Proofs.YtggdljhmbckpmaaGreat
namespace Go.Proofs.YtggdljhmbckpmaaGreat
open Go Go.RowKit
set_option maxRecDepth 100000
set_option maxHeartbeats 1600000

instance : TyU Tryz.prog 95 (.struct #[{ name := "at", type := 3, offset := 0, embedded := false, tag := "", pkgPath := "peculium/image", byteOffset := 0 }]) := ⟨Tryz.underlying95⟩
def rf (n : Int) : List PanicEntry := [{ v := .iface 95 (.agg #[.int .i64 n]), recovered := false }]
theorem uA {w0 : World} {H : List Hp} {R : List MP} {K : Value → List Hp → List MP → Prop} {KP : List PanicEntry → List Hp → List MP → Prop} (br : Nat) (A : Option Addr) (c : Nat) (xs : List UInt8) (at_ : Nat) (hx : xs.length ≤ 9223372036854775806) (hat : at_ ≤ xs.length) (hm : Sl (.slice A xs.length c) xs ∈ R)
    (k : ∀ (h : at_ < xs.length), K (fH xs[at_]) (.blk br [.slice A xs.length c, .int .i64 ((at_ + 1 : Nat) : Int)] 100 :: H) R) (kp : xs.length ≤ at_ → KP (rf xs.length) H R) :
    CallsP Tryz.prog w0 37 #[.pointer (some ⟨br, 0, none⟩)] (.blk br [.slice A xs.length c, .int .i64 (at_ : Int)] 100 :: H) R K KP := by
  refine dE Tryz.func37 rfl Tryz.ntmps37 fI ?_
  repeat' (first | (apply aF) | (apply aA) | (apply aH) | (apply aD) | (refine aE rfl rfl ?_; ((refine aY ?_)); refine aB ?_))
  refine eC fK jN (fun _ _ _ _ _ _ h => h) (List.Sublist.refl _) ?_
  all_goals ((refine bG 0 ?_; ((refine aG ?_)); refine aI ?_))
  all_goals ((refine bG 1 ?_; ((refine bA rfl ?_)); refine aI ?_))
  all_goals ((refine bG 2 ?_; ((refine aC rfl ?_)); refine aI ?_))
  all_goals ((refine bG 3 ?_; ((refine aL (i := 0) rfl rfl rfl ?_)); refine aI ?_))
  all_goals ((refine bG 4 ?_; ((refine aG ?_)); refine aI ?_))
  all_goals ((refine bG 5 ?_; ((refine bA rfl ?_)); refine aI ?_))
  all_goals ((refine bG 6 ?_; ((refine aC rfl ?_)); refine aI ?_))
  all_goals ((refine bG 7 ?_; ((refine aL (i := 0) rfl rfl rfl ?_)); refine aI ?_))
  all_goals ((refine bG 8 ?_; ((refine bS rfl ?_)); refine aI ?_))
  all_goals ((refine bG 9 ?_; ((refine jS rfl rfl (fun h => ?_) (fun h => ?_))) <;> (refine aI ?_)))
  all_goals refine iC ?_
  · skip
    repeat' (first | (refine sV rfl rfl ?_) | (apply aA) | (apply aK; exact rfl) | (apply aD) | (apply aM) | (apply aP; exact rfl; ((refine aL (i := 0) rfl rfl rfl ?_)); refine aB ?_) | (refine aE rfl rfl ?_; ((first | refine aG ?_ | refine bA rfl ?_ | refine aC rfl ?_ | refine bS rfl ?_ | refine dI gG ?_ | refine fC rfl ?_)); refine aB ?_))
    exact aR (cN H R dV (kp aO))
  · have hlt : at_ < xs.length := by omega
    have e1 : (((at_ : Int) + 1) - 1) = (at_ : Int) := by omega
    repeat' (first | (apply aF) | (apply aA) | (apply bF) | (apply aJ; exact rfl) | (apply aH) | (apply aD) | (apply aP; exact rfl; ((refine aL (i := 0) rfl rfl rfl ?_)); refine aB ?_) | (apply aU; exact rfl; ((refine bM rfl rfl aO aO ?_)); refine aB ?_) | (apply bE; exact rfl; ((refine aN (i := 0) rfl cW rfl dT dB eK ?_)); refine aB ?_; refine cE ?_) | (refine aE rfl rfl ?_; ((first | refine aG ?_ | refine bA rfl ?_ | refine aC rfl ?_)); refine aB ?_))
    refine eC fK jN (fun _ _ _ _ _ _ h => h) (List.Sublist.refl _) ?_
    all_goals ((refine bG 0 ?_; ((refine aG ?_)); refine aI ?_))
    all_goals ((refine bG 1 ?_; ((refine bA rfl ?_)); refine aI ?_))
    all_goals ((refine bG 2 ?_; ((refine aC rfl ?_)); refine aI ?_))
    all_goals ((refine bG 3 ?_; ((refine aL (i := 0) rfl rfl rfl ?_)); refine aI ?_))
    all_goals ((refine bG 4 ?_; ((refine aG ?_)); refine aI ?_))
    all_goals ((refine bG 5 ?_; ((refine bA rfl ?_)); refine aI ?_))
    all_goals ((refine bG 6 ?_; ((refine aC rfl ?_)); refine aI ?_))
    all_goals ((refine bG 7 ?_; ((refine aL (i := 0) rfl rfl rfl ?_)); refine aI ?_))
    all_goals ((refine bG 8 ?_; ((refine eY rfl rfl aO aO ?_)); refine aI ?_))
    all_goals ((refine bG 9 ?_; ((refine fT eR rfl aX (List.getElem?_eq_getElem aO) aO (fun b o => ?_))); refine aI ?_))
    all_goals ((refine bG 10 ?_; ((refine bD rfl cL rfl ?_)); refine aI ?_))
    all_goals ((refine bG 11 ?_; ((refine aY ?_)); refine aI ?_))
    all_goals refine iC ?_
    repeat' (first | (apply bP) | (apply aD))
    have e2 : (((at_ : Int) + 1) - 1).toNat = at_ := by omega
    have k' := k hlt
    simp only [e2]
    refine aZ (.inl rfl) (dP rfl (bR rfl)) (fG _ R dV k')
theorem back_r {w0 : World} {H : List Hp} {R : List MP} {K : Value → List Hp → List MP → Prop} {KP : List PanicEntry → List Hp → List MP → Prop} (br : Nat) (v : Value) (at_ : Int) (ha : 1 ≤ at_) (hb : at_ ≤ 9223372036854775807)
    (kp : KP (rf (at_ - 1)) H R) : CallsP Tryz.prog w0 38 #[.pointer (some ⟨br, 0, none⟩)] (.blk br [v, .int .i64 at_] 100 :: H) R K KP := by
  refine dE Tryz.func38 rfl Tryz.ntmps38 fI ?_
  repeat' (first | (refine aP rfl ?_; refine aL (i := 0) (o := 1) rfl rfl rfl ?_; refine aB ?_) | (refine sV rfl rfl ?_) | (apply aA) | (apply aU; exact rfl; ((refine eY rfl rfl aO aO ?_)); refine aB ?_) | (refine aE rfl rfl ?_; ((first | refine aG ?_ | refine bA rfl ?_ | refine aC rfl ?_ | refine dI gG ?_ | refine fC rfl ?_)); refine aB ?_))
  exact aR (cN H R dV kp)
theorem tU {w0 : World} {H : List Hp} {R : List MP} {K : Value → List Hp → List MP → Prop} (br : Nat) (A : Option Addr) (c : Nat) (xs : List UInt8) (at_ : Nat) (hx : xs.length ≤ 9223372036854775806) (hlt : at_ < xs.length) (hm : Sl (.slice A xs.length c) xs ∈ R)
    (k : K (fH xs[at_]) (.blk br [.slice A xs.length c, .int .i64 ((at_ + 1 : Nat) : Int)] 100 :: H) R) :
    CallsK Tryz.prog w0 37 #[.pointer (some ⟨br, 0, none⟩)] (.blk br [.slice A xs.length c, .int .i64 (at_ : Int)] 100 :: H) R K :=
  (uA br A c xs at_ hx aO hm (fun _ => k) (fun h => absurd h aO)).k

def machZ : List Value := [.int .i64 0, .int .i64 0, .int .i64 0, .int .i64 0, .int .i64 0, .int .i64 0, .bool false, .slice none 0 0, .slice none 0 0, .slice none 0 0, .slice none 0 0, .slice none 0 0, .slice none 0 0, .slice none 0 0, .slice none 0 0, .int .i64 0]
/-- A wrong third byte of the head. -/
theorem yS {w0 : World} {H : List Hp} {R : List MP} {K : Value → List Hp → List MP → Prop} (A : Option Addr) (c : Nat) (hm : Sl (.slice A 3 c) ([109, 97, 2] : List UInt8) ∈ R)
    (k : K (.tuple #[.agg machZ.toArray, .int .i64 2, .int .i64 300]) H R) : CallsK Tryz.prog w0 9 #[.slice A 3 c] H R K := by
  refine oZ Tryz.func9 rfl Tryz.ntmps9 fI ?_
  apply aF; apply aA
  repeat' ((refine bJ rfl rfl ?_; ((refine bL cW (fun b => ?_))); refine aB ?_))
  rename_i b2 b3
  revert b
  intro b4
  apply aH; apply aD
  repeat' (first | (refine vV (cap := [_, _, _]) rfl ?_) | (apply aF) | (apply aA) | (apply aV) | (apply bF) | (apply aJ; exact rfl) | (apply aH) | (apply aD) | (apply aU; exact rfl; ((refine fD rfl rfl (fun h => ?_) (fun h => ?_))) <;> (first | (exfalso; omega) | refine aB ?_)) | (refine aE rfl rfl ?_; ((first | refine aG ?_ | refine aY ?_ | refine bS rfl ?_ | refine cR iE iE ?_ | refine dI gG ?_)); refine aB ?_) | (refine bJ rfl rfl ?_; ((refine dX cW (fun b => ?_))); refine aB ?_))
  refine pC 3 ?_
  apply iK
  repeat' (first | (apply aF) | (apply aA) | (apply aV) | (apply bF) | (apply aK; exact rfl) | (apply aH) | (apply aD) | (apply aU; exact rfl; ((refine bQ rfl rfl (fun h => ?_) (fun h => ?_))) <;> (first | (exfalso; omega) | refine aB ?_)) | (refine aE rfl rfl ?_; ((first | refine aG ?_ | refine aY ?_)); refine aB ?_))
  refine eC fK jN (rM jN) fE ?_
  all_goals ((refine bY 0 fE ?_; ((refine aG ?_)); refine aI ?_))
  all_goals ((refine bY 1 fE ?_; ((refine bA rfl ?_)); refine aI ?_))
  all_goals ((refine bY 2 fE ?_; ((refine aC rfl ?_)); refine aI ?_))
  all_goals ((refine bY 4 fE ?_; ((refine aG ?_)); refine aI ?_))
  all_goals ((refine bY 5 fE ?_; ((refine gM (c := 109) rfl rfl aO rfl ?_)); refine aI ?_))
  -- left: [3, 6]; ready: [3]: ['call']
  refine gE 3 ?_
  refine aT fA ?_; refine tU b A c [109, 97, 2] 0 cQ cQ hm ?_
  refine ⟨.inl (fun w hs => hs.weaken fE (fun _ h => h)), ?_⟩; refine aI ?_
  all_goals ((refine bY 6 fE ?_; ((refine eD rfl rfl (fun h => ?_) (fun h => ?_))) <;> (refine aI ?_)))
  all_goals refine iC ?_
  · exact absurd rfl (by assumption)
  repeat' (first | (apply aA) | (apply bF) | (apply aJ; exact rfl) | (apply aH) | (apply aD) | (apply bU) | (apply aU; exact rfl; ((refine bM rfl rfl aO aO ?_)); refine aB ?_) | (refine aE rfl rfl ?_; ((refine aG ?_)); refine aB ?_))
  apply kH
  apply iK
  repeat' (first | (apply aF) | (apply aA) | (apply aV) | (apply bF) | (apply aK; exact rfl) | (apply aH) | (apply aD) | (apply aU; exact rfl; ((refine bQ rfl rfl (fun h => ?_) (fun h => ?_))) <;> (first | (exfalso; omega) | refine aB ?_)) | (refine aE rfl rfl ?_; ((first | refine aG ?_ | refine aY ?_)); refine aB ?_))
  refine eC fK jN (rM jN) fE ?_
  all_goals ((refine bY 0 fE ?_; ((refine aG ?_)); refine aI ?_))
  all_goals ((refine bY 1 fE ?_; ((refine bA rfl ?_)); refine aI ?_))
  all_goals ((refine bY 2 fE ?_; ((refine aC rfl ?_)); refine aI ?_))
  all_goals ((refine bY 4 fE ?_; ((refine aG ?_)); refine aI ?_))
  all_goals ((refine bY 5 fE ?_; ((refine gM (c := 97) rfl rfl aO rfl ?_)); refine aI ?_))
  -- left: [3, 6]; ready: [3]: ['call']
  refine gE 3 ?_
  refine aT fA ?_; refine tU b A c [109, 97, 2] 1 cQ cQ hm ?_
  refine ⟨.inl (fun w hs => hs.weaken fE (fun _ h => h)), ?_⟩; refine aI ?_
  all_goals ((refine bY 6 fE ?_; ((refine eD rfl rfl (fun h => ?_) (fun h => ?_))) <;> (refine aI ?_)))
  all_goals refine iC ?_
  · exact absurd rfl (by assumption)
  repeat' (first | (apply aA) | (apply bF) | (apply aJ; exact rfl) | (apply aH) | (apply aD) | (apply bU) | (apply aU; exact rfl; ((refine bM rfl rfl aO aO ?_)); refine aB ?_) | (refine aE rfl rfl ?_; ((refine aG ?_)); refine aB ?_))
  apply kH
  apply iK
  repeat' (first | (apply aF) | (apply aA) | (apply aV) | (apply bF) | (apply aK; exact rfl) | (apply aH) | (apply aD) | (apply aU; exact rfl; ((refine bQ rfl rfl (fun h => ?_) (fun h => ?_))) <;> (first | (exfalso; omega) | refine aB ?_)) | (refine aE rfl rfl ?_; ((first | refine aG ?_ | refine aY ?_)); refine aB ?_))
  refine eC fK jN (rM jN) fE ?_
  all_goals ((refine bY 0 fE ?_; ((refine aG ?_)); refine aI ?_))
  all_goals ((refine bY 1 fE ?_; ((refine bA rfl ?_)); refine aI ?_))
  all_goals ((refine bY 2 fE ?_; ((refine aC rfl ?_)); refine aI ?_))
  all_goals ((refine bY 4 fE ?_; ((refine aG ?_)); refine aI ?_))
  all_goals ((refine bY 5 fE ?_; ((refine gM (c := 1) rfl rfl aO rfl ?_)); refine aI ?_))
  -- left: [3, 6]; ready: [3]: ['call']
  refine gE 3 ?_
  refine aT fA ?_; refine tU b A c [109, 97, 2] 2 cQ cQ hm ?_
  refine ⟨.inl (fun w hs => hs.weaken fE (fun _ h => h)), ?_⟩; refine aI ?_
  all_goals ((refine bY 6 fE ?_; ((refine eD rfl rfl (fun h => ?_) (fun h => ?_))) <;> (refine aI ?_)))
  all_goals refine iC ?_
  rotate_left
  · rename_i h
    exact absurd h cQ
  repeat' (first | (apply aA) | (apply aK; exact rfl) | (apply aD) | (refine aE rfl rfl ?_; ((refine aG ?_)); refine aB ?_))
  refine dK rfl ?_
  refine jL (KP := fun ch H' R' => ch = rf 2 ∧ H' = .blk b4 [.int .i64 0] 35 :: .blk b3 [.int .i64 0] 3 :: .blk b2 machZ 32 :: H ∧ R' = R) rfl (back_r b _ _ cQ cQ ⟨rfl, rfl, rfl⟩) ?_
  rintro ch H' R' ⟨rfl, rfl, rfl⟩
  repeat' (first | (apply aM) | (apply cI))
  refine fW (rB Tryz.func36 rfl rfl Tryz.ntmps36 rfl (by simp only [eE, List.length_cons, List.length_nil, Nat.reduceAdd, Nat.reduceSub, List.replicate_succ, List.replicate_zero, List.cons_append, List.nil_append, List.set_cons_succ, List.set_cons_zero]; rfl) ?_)
  repeat' (first | (refine aE rfl rfl ?_; refine mI rfl rfl ?_; refine aB ?_) | (refine aE rfl rfl ?_; refine mJ rfl rfl ?_; refine aB ?_) | (apply aF) | (apply aA) | (apply aV) | (apply aK; exact rfl) | (apply aJ; exact rfl) | (apply aH) | (apply aD) | (apply bE; exact rfl; ((refine aN (i := 0) rfl cW rfl dT dB eK ?_)); refine aB ?_; refine cE ?_) | (refine aE rfl rfl ?_; ((refine cD rfl rfl ?_)); refine aB ?_) | (refine bJ rfl rfl ?_; ((refine bL cW (fun b => ?_))); refine aB ?_))
  refine eC fK jN (wP (p := fun e => oK _ e = true)) (List.Sublist.cons_cons _ (List.Sublist.cons _ (List.Sublist.cons _ fE))) ?_
  all_goals ((refine bY 0 (List.Sublist.cons_cons _ (List.Sublist.cons _ (List.Sublist.cons _ fE))) ?_; ((refine dI gG ?_)); refine aI ?_))
  all_goals ((refine bY 1 (List.Sublist.cons_cons _ (List.Sublist.cons _ (List.Sublist.cons _ fE))) ?_; ((refine aC rfl ?_)); refine aI ?_))
  all_goals ((refine bY 2 (List.Sublist.cons_cons _ (List.Sublist.cons _ (List.Sublist.cons _ fE))) ?_; ((refine aL (i := 0) rfl rfl rfl ?_)); refine aI ?_))
  -- left: [3, 4, 5]; ready: [3]: ['store']
  refine mY 3 ?_
  refine aN (i := 3) rfl cW rfl dT (by simp [machZ]) eK ?_
  refine ⟨.inl (fun w hs => hs.weaken (List.Sublist.cons_cons _ (List.Sublist.cons _ (List.Sublist.cons _ fE))) (fun _ h => h)), ?_⟩
  refine aI ?_
  refine kN ?_
  refine mY 4 ?_
  refine aN (i := 2) rfl cW rfl dT (by simp [machZ]) eK ?_
  refine ⟨.inl (fun w hs => hs.weaken (List.Sublist.cons_cons _ (List.Sublist.cons _ (List.Sublist.cons _ fE))) (fun _ h => h)), ?_⟩
  refine aI ?_
  refine kN ?_
  refine mY 5 ?_
  refine aN (i := 1) rfl cW rfl dT (by simp [machZ]) eK ?_
  refine ⟨.inl (fun w hs => hs.weaken (List.Sublist.cons_cons _ (List.Sublist.cons _ (List.Sublist.cons _ fE))) (fun _ h => h)), ?_⟩
  refine aI ?_
  refine kN ?_
  refine kU jN ?_
  repeat' ((apply bU))
  exact nQ (.inl rfl) (pA (res3 rfl (dC (i := 3) rfl rfl rfl) (dC (i := 2) rfl rfl rfl) (dC (i := 1) rfl rfl rfl)) H R' r4 k)
end Go.Proofs.YtggdljhmbckpmaaGreat
