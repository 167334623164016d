/- Decode: walk. -/
import Derived.Test.YtggdljhmbckpmaaGreatN8J
set_option linter.unusedVariables false
set_option linter.unusedSimpArgs false
namespace Go.Proofs.YtggdljhmbckpmaaGreat
open Go Go.RowKit
set_option maxRecDepth 100000
set_option maxHeartbeats 3200000

def maZ : jO := (0, 0, 0, 0, 0, 0, false, [], [], [], [], [], [], [], [], 0)
def yZ : Unp.Y jO := ((), (), (), (), (), (), (), (none, 0), (none, 0), (none, 0), (none, 0), (none, 0), (none, 0), (none, 0), (none, 0), ())
theorem pT : Unp.ok maZ yZ := by
  have h0 : dO 0 := by simp [dO]
  have hl : (0 : Nat) ≤ 0 ∧ 0 ≤ eO := ⟨Nat.le_refl _, Nat.zero_le _⟩
  exact ⟨h0, h0, h0, h0, h0, h0, trivial, hl, hl, hl, hl, hl, hl, hl, hl, h0⟩
theorem S.maZ {w0 w : World} {H : List Hp} {R : List MP} (hs : S w0 w H R) : S w0 w H (Unp.fs maZ yZ ++ R) :=
  (((((((hs.sl_nil pL).sl_nil nJ).sl_nil mU).sl_nil pR).sl_nil pP).sl_nil pU).sl_nil Int).sl_nil Int
/-- What Decode returns. -/
def nN (xs : List UInt8) : jO × Int × Int := if 250000 < xs.length then (maZ, 0, 2) else match yG xs with
  | .error e => (maZ, (e : Int), 300)
  | .ok m => (m, 0, 0)
def KDm (K : Value → List Hp → List MP → Prop) (r : jO × Int × Int) (H : List Hp) (R : List MP) : Prop := ∀ y, Unp.ok r.1 y → K (.tuple #[.agg (Unp.cs r.1 y).toArray, .int .i64 r.2.1, .int .i64 r.2.2]) H (Unp.fs r.1 y ++ R)
theorem wH {K : Value → List Hp → List MP → Prop} {r r' : jO × Int × Int} {H : List Hp} {R : List MP} (e : r = r') (h : KDm K r H R) : KDm K r' H R := e ▸ h
theorem decode_k {w0 : World} {H : List Hp} {R : List MP} {K : Value → List Hp → List MP → Prop} (A : Option Addr) (c : Nat) (xs : List UInt8) (hxm : xs.length ≤ 9223372036854775806) (hm : Sl (.slice A xs.length c) xs ∈ R)
    (k : KDm K (nN xs) H R) : CallsK Tryz.prog w0 9 #[.slice A xs.length c] H R K := by
  refine oZ Tryz.func9 rfl Tryz.ntmps9 fI ?_
  apply aF; apply aA
  repeat' ((refine bJ rfl rfl ?_; ((refine bL cW (fun b => ?_))); refine aB ?_))
  rename_i b2 b3
  revert b
  intro b4
  apply aH; apply aD
  have hpan : ∀ (e : Nat) (E' : List Value) (H' : List Hp) (R' : List MP) (cs : List Value), nN xs = (maZ, (e : Int), 300) → cs.length = 16 → H.Sublist H' → (∀ p ∈ R, p ∈ R') → E'.getD 2 undef = .pointer (some ⟨b2, 0, none⟩) → E'.getD 3 undef = .pointer (some ⟨b3, 0, none⟩) → E'.getD 4 undef = .pointer (some ⟨b4, 0, none⟩) → LVm Tryz.prog w0 Tryz.f9 K (.panicking (rf e)) [⟨.fn (.func 36) [.pointer (some ⟨b2, 0, none⟩), .pointer (some ⟨b3, 0, none⟩), .pointer (some ⟨b4, 0, none⟩)].toArray, #[]⟩] E' (.blk b4 [.int .i64 0] 35 :: .blk b3 [.int .i64 0] 3 :: .blk b2 cs 32 :: H') R' := by
    intro e E' H' R' cs hdec hcs hH' hR' hE2 hE3 hE4
    refine rB Tryz.func36 rfl rfl Tryz.ntmps36 rfl (by simp only [eE, List.length_cons, List.length_nil, Nat.reduceAdd, Nat.reduceSub, List.replicate_succ, List.replicate_zero, List.cons_append, List.nil_append, List.set_cons_succ, List.set_cons_zero]; rfl) ?_
    repeat' (first | (refine aE rfl rfl ?_; refine mI rfl rfl ?_; refine aB ?_) | (refine aE rfl rfl ?_; refine mJ rfl rfl ?_; refine aB ?_) | (apply aF) | (apply aA) | (apply aV) | (apply aK; exact rfl) | (apply aJ; exact rfl) | (apply aH) | (apply aD) | (apply bE; exact rfl; ((refine aN (i := 0) rfl cW rfl dT dB eK ?_)); refine aB ?_; refine cE ?_) | (refine aE rfl rfl ?_; ((refine cD rfl rfl ?_)); refine aB ?_) | (refine bJ rfl rfl ?_; ((refine bL cW (fun b => ?_))); refine aB ?_))
    refine eC fK jN (wP (p := fun e => oK _ e = true)) (List.Sublist.cons_cons _ (List.Sublist.cons _ (List.Sublist.cons _ fE))) ?_
    all_goals ((refine bY 0 (List.Sublist.cons_cons _ (List.Sublist.cons _ (List.Sublist.cons _ fE))) ?_; ((refine dI gG ?_)); refine aI ?_))
    all_goals ((refine bY 1 (List.Sublist.cons_cons _ (List.Sublist.cons _ (List.Sublist.cons _ fE))) ?_; ((refine aC rfl ?_)); refine aI ?_))
    all_goals ((refine bY 2 (List.Sublist.cons_cons _ (List.Sublist.cons _ (List.Sublist.cons _ fE))) ?_; ((refine aL (i := 0) rfl rfl rfl ?_)); refine aI ?_))
    -- left: [3, 4, 5]; ready: [3]: ['store']
    refine mY 3 ?_
    refine aN (i := 3) (vs := machZ) rfl cW rfl dT (by rw [hcs]; decide) (by simp [machZ, Value.oneCell']) ?_
    rw [eI (by rw [hcs]; rfl)]
    refine ⟨.inl (fun w hs => hs.weaken (List.Sublist.cons_cons _ (List.Sublist.cons _ (List.Sublist.cons _ fE))) (fun _ h => h)), ?_⟩
    refine aI ?_
    refine kN ?_
    refine mY 4 ?_
    refine aN (i := 2) rfl cW rfl dT (by simp [machZ]) eK ?_
    refine ⟨.inl (fun w hs => hs.weaken (List.Sublist.cons_cons _ (List.Sublist.cons _ (List.Sublist.cons _ fE))) (fun _ h => h)), ?_⟩
    refine aI ?_
    refine kN ?_
    refine mY 5 ?_
    refine aN (i := 1) rfl cW rfl dT (by simp [machZ]) eK ?_
    refine ⟨.inl (fun w hs => hs.weaken (List.Sublist.cons_cons _ (List.Sublist.cons _ (List.Sublist.cons _ fE))) (fun _ h => h)), ?_⟩
    refine aI ?_
    refine kN ?_
    refine kU jN ?_
    repeat' ((apply bU))
    exact nQ (.inl rfl) (pA (res3 rfl (dC (i := 3) hE2 rfl rfl) (dC (i := 2) hE3 rfl rfl) (dC (i := 1) hE4 rfl rfl)) H (Unp.fs maZ yZ ++ R) (fun w hs => (hs.weaken (List.Sublist.cons _ (List.Sublist.cons _ (List.Sublist.cons _ (List.Sublist.cons _ hH')))) hR').maZ) (wH hdec k yZ pT))
  have hret : ∀ (m : jO) (y : Unp.Y jO) (E' : List Value) (H' : List Hp) (R' : List MP), nN xs = (m, 0, 0) → Unp.ok m y → H.Sublist H' → (∀ p ∈ Unp.fs m y ++ R, p ∈ R') → E'.getD 2 undef = .pointer (some ⟨b2, 0, none⟩) → E'.getD 3 undef = .pointer (some ⟨b3, 0, none⟩) → E'.getD 4 undef = .pointer (some ⟨b4, 0, none⟩) → LVm Tryz.prog w0 Tryz.f9 K .returning [⟨.fn (.func 36) [.pointer (some ⟨b2, 0, none⟩), .pointer (some ⟨b3, 0, none⟩), .pointer (some ⟨b4, 0, none⟩)].toArray, #[]⟩] E' (.blk b4 [.int .i64 0] 35 :: .blk b3 [.int .i64 0] 3 :: .blk b2 (Unp.cs m y) 32 :: H') R' := by
    intro m y E' H' R' hdec hok hH' hR' hE2 hE3 hE4
    refine rB Tryz.func36 rfl rfl Tryz.ntmps36 rfl (by simp only [eE, List.length_cons, List.length_nil, Nat.reduceAdd, Nat.reduceSub, List.replicate_succ, List.replicate_zero, List.cons_append, List.nil_append, List.set_cons_succ, List.set_cons_zero]; rfl) ?_
    repeat' (first | (refine aE rfl rfl ?_; refine qK rfl ?_; refine aB ?_) | (apply aF) | (apply aA) | (apply aV) | (apply aK; exact rfl) | (apply aH) | (apply aD) | (apply bU) | (refine aE rfl rfl ?_; ((refine aY ?_)); refine aB ?_))
    exact nQ (.inl rfl) (pA (res3 rfl (dC (i := 2) hE2 rfl (cU (UnpL.len m y))) (dC (i := 1) hE3 rfl rfl) (dC (i := 0) hE4 rfl rfl)) H (Unp.fs m y ++ R) (fun w hs => hs.weaken (List.Sublist.cons _ (List.Sublist.cons _ (List.Sublist.cons _ hH'))) hR') (wH hdec k y hok))
  repeat' (first | (refine vV (cap := [_, _, _]) rfl ?_) | (apply aF) | (apply aA) | (apply aV) | (apply bP) | (apply bF) | (apply aK; exact rfl) | (apply aJ; exact rfl) | (apply aH) | (apply aD) | (apply bN) | (apply aU; exact rfl; ((refine fD rfl rfl (fun h => ?_) (fun h => ?_))) <;> (refine aB ?_)) | (apply bE; exact rfl; ((first | refine aN (i := 0) rfl cW rfl dT dB eK ?_ | refine aN (i := 1) rfl cW rfl dT dB eK ?_ | refine aN (i := 2) rfl cW rfl dT dB eK ?_)); refine aB ?_; refine cE ?_) | (refine aE rfl rfl ?_; ((first | refine aG ?_ | refine aY ?_ | refine bS rfl ?_ | refine cR iE iE ?_ | refine dI gG ?_)); refine aB ?_) | (refine bJ rfl rfl ?_; ((refine dX cW (fun b => ?_))); refine aB ?_))
  · exact nC (.inl rfl) (pA (res3 rfl (dC (i := 2) rfl rfl rfl) (dC (i := 1) rfl rfl rfl) (dC (i := 0) rfl rfl rfl)) H (Unp.fs maZ yZ ++ R) (fun w hs => (hs.weaken eB (fun _ h => h)).maZ) (wH (r' := (maZ, 0, 2)) (by unfold nN; rw [if_pos aO]) k yZ pT))
  have hx : xs.length ≤ 250000 := by omega
  have hdecE : ∀ e : Nat, yG xs = .error e → nN xs = (maZ, (e : Int), 300) := fun e he => by
    unfold nN
    rw [if_neg aO, he]
  have hdecO : ∀ m, yG xs = .ok m → nN xs = (m, 0, 0) := fun e he => by
    unfold nN
    rw [if_neg aO, he]
  refine pC 4 ?_
  apply iK
  repeat' (first | (apply aF) | (apply aA) | (apply aV) | (apply bF) | (apply aK; exact rfl) | (apply aH) | (apply aD) | (apply aU; exact rfl; ((refine bQ rfl rfl (fun h => ?_) (fun h => ?_))) <;> (first | (exfalso; omega) | refine aB ?_)) | (refine aE rfl rfl ?_; ((first | refine aG ?_ | refine aY ?_)); refine aB ?_))
  refine eC fK jN (rM jN) fE ?_
  all_goals ((refine bY 0 fE ?_; ((refine aG ?_)); refine aI ?_))
  all_goals ((refine bY 1 fE ?_; ((refine bA rfl ?_)); refine aI ?_))
  all_goals ((refine bY 2 fE ?_; ((refine aC rfl ?_)); refine aI ?_))
  all_goals ((refine bY 4 fE ?_; ((refine aG ?_)); refine aI ?_))
  all_goals ((refine bY 5 fE ?_; ((refine gM (c := 109) rfl rfl aO rfl ?_)); refine aI ?_))
  -- left: [3, 6]; ready: [3]: ['call']
  refine gE 3 ?_
  refine jL (KP := fun ch H' R' => ch = rf xs.length ∧ H' = .blk b4 [.int .i64 0] 35 :: .blk b3 [.int .i64 0] 3 :: .blk b2 machZ 32 :: H ∧ R' = R ∧ xs.length ≤ 0) rfl (uA b A c xs 0 hxm aO hm (fun hlt0 => ?_) (fun hge => ⟨rfl, rfl, rfl, hge⟩)) ?_
  rotate_left
  · rintro ch H' R' ⟨rfl, rfl, rfl, hge⟩
    repeat' (first | apply aM | apply cI)
    exact fW (hpan _ _ H R' machZ (hdecE _ (by unfold yG iT; simp only [if_pos (show xs.length ≤ 0 from hge)])) rfl (List.Sublist.refl _) (fun _ h => h) rfl rfl rfl)
  refine ⟨.inl (fun w hs => hs.weaken fE (fun _ h => h)), ?_⟩; refine aI ?_
  all_goals ((refine bY 6 fE ?_; ((refine eD rfl rfl (fun h => ?_) (fun h => ?_))) <;> (refine aI ?_)))
  all_goals refine iC ?_
  · have hne0 := h
    repeat' (first | (apply aA) | (apply aK; exact rfl) | (apply aD) | (refine aE rfl rfl ?_; ((refine aG ?_)); refine aB ?_))
    refine pY rfl rfl aO aO ?_
    repeat' (first | apply aM | apply cI)
    exact fW (hpan _ _ H R machZ (hdecE _ (by unfold yG iT; simp only [if_neg (show ¬ xs.length ≤ 0 by omega), if_pos (show xs[0]? ≠ some 109 from fun h => hne0 (by rw [List.getElem?_eq_getElem hlt0] at h; injection h with h; rw [h]))])) rfl (List.Sublist.refl _) (fun _ h => h) rfl rfl rfl)
  have heq0 := h
  have g0 : xs[0]? = some 109 := by
    rw [List.getElem?_eq_getElem hlt0]
    congr 1
    exact UInt8.toNat_inj.1 (by exact_mod_cast heq0)
  repeat' (first | (apply aA) | (apply bF) | (apply aJ; exact rfl) | (apply aH) | (apply aD) | (apply bU) | (apply aU; exact rfl; ((refine bM rfl rfl aO aO ?_)); refine aB ?_) | (refine aE rfl rfl ?_; ((refine aG ?_)); refine aB ?_))
  apply kH
  apply iK
  repeat' (first | (apply aF) | (apply aA) | (apply aV) | (apply bF) | (apply aK; exact rfl) | (apply aH) | (apply aD) | (apply aU; exact rfl; ((refine bQ rfl rfl (fun h => ?_) (fun h => ?_))) <;> (first | (exfalso; omega) | refine aB ?_)) | (refine aE rfl rfl ?_; ((first | refine aG ?_ | refine aY ?_)); refine aB ?_))
  refine eC fK jN (rM jN) fE ?_
  all_goals ((refine bY 0 fE ?_; ((refine aG ?_)); refine aI ?_))
  all_goals ((refine bY 1 fE ?_; ((refine bA rfl ?_)); refine aI ?_))
  all_goals ((refine bY 2 fE ?_; ((refine aC rfl ?_)); refine aI ?_))
  all_goals ((refine bY 4 fE ?_; ((refine aG ?_)); refine aI ?_))
  all_goals ((refine bY 5 fE ?_; ((refine gM (c := 97) rfl rfl aO rfl ?_)); refine aI ?_))
  -- left: [3, 6]; ready: [3]: ['call']
  refine gE 3 ?_
  refine jL (KP := fun ch H' R' => ch = rf xs.length ∧ H' = .blk b4 [.int .i64 0] 35 :: .blk b3 [.int .i64 0] 3 :: .blk b2 machZ 32 :: H ∧ R' = R ∧ xs.length ≤ 1) rfl (uA b A c xs 1 hxm aO hm (fun hlt1 => ?_) (fun hge => ⟨rfl, rfl, rfl, hge⟩)) ?_
  rotate_left
  · rintro ch H' R' ⟨rfl, rfl, rfl, hge⟩
    repeat' (first | apply aM | apply cI)
    exact fW (hpan _ _ H R' machZ (hdecE _ (by unfold yG iT; simp only [if_neg (show ¬ xs.length ≤ 0 by omega), if_neg (show ¬ (xs[0]? ≠ some 109) from fun h => h g0), if_pos (show xs.length ≤ 1 from hge)])) rfl (List.Sublist.refl _) (fun _ h => h) rfl rfl rfl)
  refine ⟨.inl (fun w hs => hs.weaken fE (fun _ h => h)), ?_⟩; refine aI ?_
  all_goals ((refine bY 6 fE ?_; ((refine eD rfl rfl (fun h => ?_) (fun h => ?_))) <;> (refine aI ?_)))
  all_goals refine iC ?_
  · have hne1 := h
    repeat' (first | (apply aA) | (apply aK; exact rfl) | (apply aD) | (refine aE rfl rfl ?_; ((refine aG ?_)); refine aB ?_))
    refine pY rfl rfl aO aO ?_
    repeat' (first | apply aM | apply cI)
    exact fW (hpan _ _ H R machZ (hdecE _ (by unfold yG iT; simp only [if_neg (show ¬ xs.length ≤ 0 by omega), if_neg (show ¬ (xs[0]? ≠ some 109) from fun h => h g0), if_neg (show ¬ xs.length ≤ 1 by omega), if_pos (show xs[1]? ≠ some 97 from fun h => hne1 (by rw [List.getElem?_eq_getElem hlt1] at h; injection h with h; rw [h]))])) rfl (List.Sublist.refl _) (fun _ h => h) rfl rfl rfl)
  have heq1 := h
  have g1 : xs[1]? = some 97 := by
    rw [List.getElem?_eq_getElem hlt1]
    congr 1
    exact UInt8.toNat_inj.1 (by exact_mod_cast heq1)
  repeat' (first | (apply aA) | (apply bF) | (apply aJ; exact rfl) | (apply aH) | (apply aD) | (apply bU) | (apply aU; exact rfl; ((refine bM rfl rfl aO aO ?_)); refine aB ?_) | (refine aE rfl rfl ?_; ((refine aG ?_)); refine aB ?_))
  apply kH
  apply iK
  repeat' (first | (apply aF) | (apply aA) | (apply aV) | (apply bF) | (apply aK; exact rfl) | (apply aH) | (apply aD) | (apply aU; exact rfl; ((refine bQ rfl rfl (fun h => ?_) (fun h => ?_))) <;> (first | (exfalso; omega) | refine aB ?_)) | (refine aE rfl rfl ?_; ((first | refine aG ?_ | refine aY ?_)); refine aB ?_))
  refine eC fK jN (rM jN) fE ?_
  all_goals ((refine bY 0 fE ?_; ((refine aG ?_)); refine aI ?_))
  all_goals ((refine bY 1 fE ?_; ((refine bA rfl ?_)); refine aI ?_))
  all_goals ((refine bY 2 fE ?_; ((refine aC rfl ?_)); refine aI ?_))
  all_goals ((refine bY 4 fE ?_; ((refine aG ?_)); refine aI ?_))
  all_goals ((refine bY 5 fE ?_; ((refine gM (c := 1) rfl rfl aO rfl ?_)); refine aI ?_))
  -- left: [3, 6]; ready: [3]: ['call']
  refine gE 3 ?_
  refine jL (KP := fun ch H' R' => ch = rf xs.length ∧ H' = .blk b4 [.int .i64 0] 35 :: .blk b3 [.int .i64 0] 3 :: .blk b2 machZ 32 :: H ∧ R' = R ∧ xs.length ≤ 2) rfl (uA b A c xs 2 hxm aO hm (fun hlt2 => ?_) (fun hge => ⟨rfl, rfl, rfl, hge⟩)) ?_
  rotate_left
  · rintro ch H' R' ⟨rfl, rfl, rfl, hge⟩
    repeat' (first | apply aM | apply cI)
    exact fW (hpan _ _ H R' machZ (hdecE _ (by unfold yG iT; simp only [if_neg (show ¬ xs.length ≤ 0 by omega), if_neg (show ¬ (xs[0]? ≠ some 109) from fun h => h g0), if_neg (show ¬ xs.length ≤ 1 by omega), if_neg (show ¬ (xs[1]? ≠ some 97) from fun h => h g1), if_pos (show xs.length ≤ 2 from hge)])) rfl (List.Sublist.refl _) (fun _ h => h) rfl rfl rfl)
  refine ⟨.inl (fun w hs => hs.weaken fE (fun _ h => h)), ?_⟩; refine aI ?_
  all_goals ((refine bY 6 fE ?_; ((refine eD rfl rfl (fun h => ?_) (fun h => ?_))) <;> (refine aI ?_)))
  all_goals refine iC ?_
  · have hne2 := h
    repeat' (first | (apply aA) | (apply aK; exact rfl) | (apply aD) | (refine aE rfl rfl ?_; ((refine aG ?_)); refine aB ?_))
    refine pY rfl rfl aO aO ?_
    repeat' (first | apply aM | apply cI)
    exact fW (hpan _ _ H R machZ (hdecE _ (by unfold yG iT; simp only [if_neg (show ¬ xs.length ≤ 0 by omega), if_neg (show ¬ (xs[0]? ≠ some 109) from fun h => h g0), if_neg (show ¬ xs.length ≤ 1 by omega), if_neg (show ¬ (xs[1]? ≠ some 97) from fun h => h g1), if_neg (show ¬ xs.length ≤ 2 by omega), if_pos (show xs[2]? ≠ some 1 from fun h => hne2 (by rw [List.getElem?_eq_getElem hlt2] at h; injection h with h; rw [h]))])) rfl (List.Sublist.refl _) (fun _ h => h) rfl rfl rfl)
  have heq2 := h
  have g2 : xs[2]? = some 1 := by
    rw [List.getElem?_eq_getElem hlt2]
    congr 1
    exact UInt8.toNat_inj.1 (by exact_mod_cast heq2)
  repeat' (first | (apply aA) | (apply bF) | (apply aJ; exact rfl) | (apply aH) | (apply aD) | (apply bU) | (apply aU; exact rfl; ((refine bM rfl rfl aO aO ?_)); refine aB ?_) | (refine aE rfl rfl ?_; ((refine aG ?_)); refine aB ?_))
  apply kH
  apply iK
  have hhead : iT xs 0 = .ok ((), 3) := by
    unfold iT
    simp only [if_neg (show ¬ xs.length ≤ 0 by omega), if_neg (show ¬ (xs[0]? ≠ some 109) from fun h => h g0), if_neg (show ¬ xs.length ≤ 1 by omega), if_neg (show ¬ (xs[1]? ≠ some 97) from fun h => h g1), if_neg (show ¬ xs.length ≤ 2 by omega), if_neg (show ¬ (xs[2]? ≠ some 1) from fun h => h g2)]
  repeat' (first | (apply aF) | (apply aA) | (apply cG) | (apply aJ; exact rfl) | (apply aH) | (apply aD) | (apply aW) | (apply aS) | (apply aU; exact rfl; ((refine bQ rfl rfl (fun h => ?_) (fun h => ?_))) <;> (first | (exfalso; omega) | refine aB ?_)) | (refine aE rfl rfl ?_; ((refine aG ?_)); refine aB ?_))
  refine uN rfl rfl (state_r b A c xs hx) (Nat.zero_le _) aO hm (fun m a' y hd h1 h2 hok => ?_) (fun e he => ?_)
  rotate_left
  · skip
    repeat' ((apply aM))
    exact fW (hpan _ _ H R machZ (hdecE _ (by unfold yG; rw [hhead]; simp only; rw [tO, he])) rfl (List.Sublist.refl _) (fun _ h => h) rfl rfl rfl)
  refine aB ?_
  have hlen : (Unp.cs m y).length = 16 := UnpL.len m y
  refine bJ rfl rfl ?_
  refine aN (i := 3) (vs := Unp.cs m y) rfl rfl rfl hlen (by simp [machZ]) (UnpL.one m y) ?_
  rw [eI (by rw [hlen]; rfl)]
  refine aB ?_
  refine cE ?_
  repeat' (first | (apply aF) | (apply aA) | (apply bF) | (apply aK; exact rfl) | (apply aJ; exact rfl) | (apply aH) | (apply aD) | (apply aP; exact rfl; ((first | refine aL (i := 0) rfl rfl rfl ?_ | refine aL (i := 3) rfl rfl rfl ?_)); refine aB ?_) | (apply aU; exact rfl; ((refine bQ rfl rfl (fun h => ?_) (fun h => ?_))) <;> (refine aB ?_)) | (refine aE rfl rfl ?_; ((first | refine aG ?_ | refine bA rfl ?_ | refine aC rfl ?_ | refine bS rfl ?_ | refine dI gG ?_ | refine fC rfl ?_)); refine aB ?_))
  · refine sV rfl rfl ?_
    repeat' (apply aM)
    refine mM (.blk b4 [.int .i64 0] 35 :: .blk b3 [.int .i64 0] 3 :: .blk b2 (Unp.cs m y) 32 :: H) _ (fun w hs => hs.weaken fE (fun _ h => h)) ?_
    exact fW (hpan a' _ H (Unp.fs m y ++ R) (Unp.cs m y) (hdecE _ (by unfold yG; rw [hhead]; simp only; rw [tO, hd]; simp only; rw [if_pos aO])) hlen (List.Sublist.refl _) (fun p hp => List.mem_append_right _ hp) rfl rfl rfl)
  · have e : List.take 16 (List.drop 0 (Unp.cs m y)) = Unp.cs m y := by rw [List.drop_zero, ← hlen, List.take_length]
    rw [e]
    refine bJ rfl rfl ?_
    refine aN (i := 3) (vs := Unp.cs m y) rfl rfl rfl hlen (by rw [hlen]; decide) (UnpL.one m y) ?_
    rw [eI rfl]
    refine aB ?_
    refine cE ?_
    repeat' (first | (apply bP) | (apply aH) | (apply aD) | (apply bE; exact rfl; ((first | refine aN (i := 1) rfl cW rfl dT dB eK ?_ | refine aN (i := 2) rfl cW rfl dT dB eK ?_)); refine aB ?_; refine cE ?_))
    refine mM (.blk b4 [.int .i64 0] 35 :: .blk b3 [.int .i64 0] 3 :: .blk b2 (Unp.cs m y) 32 :: H) _ (fun w hs => hs.weaken fE (fun _ h => h)) ?_
    exact nC (.inl rfl) (hret m y _ H (Unp.fs m y ++ R) (hdecO m (by unfold yG; rw [hhead]; simp only; rw [tO, hd]; simp only; rw [if_neg aO])) hok (List.Sublist.refl _) (fun _ h => h) rfl rfl rfl)
end Go.Proofs.YtggdljhmbckpmaaGreat
