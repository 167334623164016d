/- The reference's reader: Decode: walks, printed by gen_vf.py. -/
import Derived.Test.YtggdljhmbckpmaaGreatV8
import Derived.Test.YtggdljhmbckpmaaGreatNC
set_option linter.unusedVariables false
set_option linter.unusedSimpArgs false
namespace Go.Proofs.YtggdljhmbckpmaaGreat
open Go Go.RowKit
set_option maxRecDepth 100000
set_option maxHeartbeats 6400000

def hB : List UInt8 := [109, 97, 1]
theorem wR {xs : List UInt8} {i : Nat} (hi : i < 3) (hp : ∀ q, q < i → xs[q]? = hB[q]?) (hn : xs[i]? = none) : gZ xs 0 = .error xs.length := by
  have hl : xs.length ≤ i := List.getElem?_eq_none_iff.1 hn
  have g : ∀ q, q < i → q < xs.length := fun q hq => by
    rcases Nat.lt_or_ge q xs.length with h | h
    · exact h
    · have e := hp q hq
      rw [List.getElem?_eq_none h] at e
      have : hB[q]? ≠ none := by
        intro h
        have := List.getElem?_eq_none_iff.1 h
        simp only [hB, List.length_cons, List.length_nil] at this
        omega
      exact absurd e.symm this
  unfold gZ
  obtain rfl | rfl | rfl : i = 0 ∨ i = 1 ∨ i = 2 := by omega
  · rw [if_pos hl]
  · have := g 0 (by omega)
    have h0 : xs[0]? = some 109 := hp 0 (by omega)
    rw [if_neg (by omega), if_neg (fun h => h h0), if_pos hl]
  · have := g 1 (by omega)
    have h0 : xs[0]? = some 109 := hp 0 (by omega)
    have h1 : xs[1]? = some 97 := hp 1 (by omega)
    rw [if_neg (by omega), if_neg (fun h => h h0), if_neg (by omega), if_neg (fun h => h h1), if_pos hl]
theorem vW {xs : List UInt8} {i : Nat} {ch d : UInt8} (hi : i < 3) (hp : ∀ q, q < i → xs[q]? = hB[q]?) (hc : xs[i]? = some ch) (hd : hB[i]? = some d) (hne : ch ≠ d) : gZ xs 0 = .error i := by
  have hl := (List.getElem?_eq_some_iff.1 hc).1
  unfold gZ
  obtain rfl | rfl | rfl : i = 0 ∨ i = 1 ∨ i = 2 := by omega
  · have : d = 109 := by injection hd with hd; exact hd.symm
    subst this
    rw [if_neg (by omega), if_pos (fun h => hne (by rw [hc] at h; injection h))]
  · have : d = 97 := by injection hd with hd; exact hd.symm
    subst this
    have h0 : xs[0]? = some 109 := hp 0 (by omega)
    rw [if_neg (by omega), if_neg (fun h => h h0), if_neg (by omega), if_pos (fun h => hne (by rw [hc] at h; injection h))]
  · have : d = 1 := by injection hd with hd; exact hd.symm
    subst this
    have h0 : xs[0]? = some 109 := hp 0 (by omega)
    have h1 : xs[1]? = some 97 := hp 1 (by omega)
    rw [if_neg (by omega), if_neg (fun h => h h0), if_neg (by omega), if_neg (fun h => h h1), if_neg (by omega), if_pos (fun h => hne (by rw [hc] at h; injection h))]
theorem yJ {xs : List UInt8} (hl : 3 ≤ xs.length) (hp : ∀ q, q < 3 → xs[q]? = hB[q]?) : gZ xs 0 = .ok ((), 3) := by
  have h0 : xs[0]? = some 109 := hp 0 (by omega)
  have h1 : xs[1]? = some 97 := hp 1 (by omega)
  have h2 : xs[2]? = some 1 := hp 2 (by omega)
  unfold gZ
  rw [if_neg (by omega), if_neg (fun h => h h0), if_neg (by omega), if_neg (fun h => h h1), if_neg (by omega), if_neg (fun h => h h2)]
/-- What the reference's Decode returns. -/
def KDr (K : Value → List Hp → List MP → Prop) (r : jT × Int × Int) (H : List Hp) (R : List MP) : Prop := ∀ y, Unp.ok r.1 y → K (.agg (Unp.cs r.1 y ++ [Value.int .i64 r.2.1, Value.int .i64 r.2.2]).toArray) H (Unp.fs r.1 y ++ R)
theorem rE {K : Value → List Hp → List MP → Prop} {r r' : jT × Int × Int} {H : List Hp} {R : List MP} (e : r = r') (h : KDr K r H R) : KDr K r' H R := e ▸ h
theorem decR_er {xs : List UInt8} {m : Unit × jT} {a' o' : Nat} (hx : xs.length ≤ 250000) (h : Out xs (bW (gZ xs) (qR xs)) ⟨0, false, 0⟩ m ⟨a', true, o'⟩) : nX xs = (maZ, (o' : Int), 300) := by
  have he : bW (gZ xs) (qR xs) 0 = .error o' := h.fault rfl rfl
  unfold nX
  rw [if_neg (by omega)]
  have : vM xs = .error o' := by
    unfold vM
    unfold bW at he
    cases hg : gZ xs 0 with
    | error e =>
      rw [hg] at he
      injection he with he
      rw [he]
    | ok p =>
      obtain ⟨u, a1⟩ := p
      have h3 : a1 = 3 := by
        unfold gZ at hg
        repeat' split at hg
        all_goals (first | (cases hg; rfl) | cases hg)
      subst h3
      rw [hg] at he
      simp only at he ⊢
      rw [rT]
      cases hr : qR xs 3 with
      | error e =>
        rw [hr] at he
        injection he with he
        simp only [he]
      | ok q => rw [hr] at he; cases he
  rw [this]
theorem decR_ok {xs : List UInt8} {u : Unit} {m : jT} {a' o' : Nat} (hx : xs.length ≤ 250000) (h : Out xs (bW (gZ xs) (qR xs)) ⟨0, false, 0⟩ (u, m) ⟨a', false, o'⟩) : nX xs = if a' < xs.length then (maZ, (a' : Int), 300) else (m, 0, 0) := by
  obtain ⟨_, he, _⟩ := h.good rfl
  unfold nX
  rw [if_neg (by omega)]
  have : vM xs = if a' < xs.length then .error a' else .ok m := by
    unfold vM
    simp only at he
    unfold bW at he
    cases hg : gZ xs 0 with
    | error e => rw [hg] at he; cases he
    | ok p =>
      obtain ⟨u, a1⟩ := p
      have h3 : a1 = 3 := by
        unfold gZ at hg
        repeat' split at hg
        all_goals (first | (cases hg; rfl) | cases hg)
      subst h3
      rw [hg] at he
      simp only at he ⊢
      rw [rT]
      cases hr : qR xs 3 with
      | error e => rw [hr] at he; cases he
      | ok q =>
        rw [hr] at he
        injection he with he
        injection he with e1 e2
        injection e1 with e3 e4
        simp only [e2, ← e4]
  rw [this]
  by_cases hl : a' < xs.length
  · simp only [if_pos hl]
  · simp only [if_neg hl]

theorem zD {w0 : World} {H : List Hp} {R : List MP} {K : Value → List Hp → List MP → Prop} (A : Option Addr) (c : Nat) (xs : List UInt8) (hxm : xs.length ≤ 9223372036854775806) (hm : Sl (.slice A xs.length c) xs ∈ R) (k : KDr K (nX xs) H R) : CallsK Tryz.prog w0 10 #[.slice A xs.length c] H R K := by
  rcases Nat.lt_or_ge 250000 xs.length with hbig | hx
  · skip
    refine bX Tryz.func10 rfl Tryz.ntmps10 eZ ?_
    repeat' (first | (apply aF) | (apply aA) | (apply bN) | (apply aK; exact rfl) | (apply aG) | (apply aD) | (apply bO) | (apply aU; exact rfl; ((refine fF rfl rfl (fun h => ?_) (fun h => ?_))) <;> (first | (exfalso; omega) | refine aB ?_)) | (apply bD; exact rfl; ((refine aO (i := 0) rfl cW rfl (by rfl) (by simp) (by simp [Value.oneCell']) ?_)); refine aB ?_; refine cA ?_) | (refine aE rfl rfl ?_; ((first | refine aH ?_ | refine bQ rfl ?_ | refine dN gI ?_)); refine aB ?_) | (refine bG rfl rfl ?_; ((refine bK cW (fun b => ?_))); refine aB ?_))
    refine bC (.inl rfl) (dM rfl (dG (i := 0) rfl rfl rfl)) (cG H (Unp.fs maZ yZ ++ R) (fun w hs => (hs.weaken bU (fun _ h => h)).maZ) ?_)
    exact rE (r' := (maZ, 0, 2)) (by unfold nX; rw [if_pos (by omega)]) k yZ rK
  refine bX Tryz.func10 rfl Tryz.ntmps10 eZ ?_
  apply aF; apply aA
  repeat' ((refine bG rfl rfl ?_; ((refine bK cW (fun b => ?_))); refine aB ?_))
  apply aG; apply aD
  revert b
  intro b2
  apply aF
  apply aF; apply aA
  repeat' (first | (apply aU; exact rfl; ((refine fF rfl rfl (fun h => ?_) (fun h => ?_))) <;> (first | (exfalso; omega) | refine aB ?_)) | (refine aE rfl rfl ?_; ((first | refine aH ?_ | refine bQ rfl ?_)); refine aB ?_))
  apply aG; apply aD
  apply aI; exact rfl
  apply bE
  apply aD
  apply aF; apply aA
  repeat' (first | (refine aE rfl rfl ?_; ((first | refine aH ?_ | refine aX ?_ | refine dN gI ?_)); refine aB ?_) | (refine bG rfl rfl ?_; ((refine eB cW (fun b => ?_))); refine aB ?_))
  apply aG; apply aD
  revert b
  intro br
  apply aF; apply aA
  repeat' (first | (refine aE rfl rfl ?_; ((refine aX ?_)); refine aB ?_) | (refine bG rfl rfl ?_; ((refine bH (by decide) fD rfl (fun b => ?_))); refine aB ?_))
  apply aG; apply aD
  revert b
  intro bh
  refine dT (.blk br (gD A c xs 0 false 0) 105 :: .blk b2 [.int .i64 0, .int .i64 0, .int .i64 0, .int .i64 0, .int .i64 0, .int .i64 0, .bool false, .slice none 0 0, .slice none 0 0, .slice none 0 0, .slice none 0 0, .slice none 0 0, .slice none 0 0, .slice none 0 0, .slice none 0 0, .int .i64 0, .int .i64 0, .int .i64 0] 44 :: H) (Sl (.slice (some ⟨bh, 0, none⟩) 3 3) hB :: R) (fun w hs => S.bytes_stay (i := 0) (xs := hB) (T := 5) hs rfl rfl (by decide) (by decide)) ?_
  refine iZ [5, 6, 16, 17, 18, 19, 20, 21, 22, 23, 24, 25, 26, 27, 28, 29, 30, 31, 32, 33, 34, 35, 36, 37, 38, 39, 40, 41, 42, 43, 44, 45, 46, 47, 48] (fun j H' R' => ∃ (a' o' : Nat) (b' : Bool), H' = .blk br (gD A c xs a' b' o') 105 :: .blk b2 [.int .i64 0, .int .i64 0, .int .i64 0, .int .i64 0, .int .i64 0, .int .i64 0, .bool false, .slice none 0 0, .slice none 0 0, .slice none 0 0, .slice none 0 0, .slice none 0 0, .slice none 0 0, .slice none 0 0, .slice none 0 0, .int .i64 0, .int .i64 0, .int .i64 0] 44 :: H ∧ R' = R ∧ Out xs (gZ xs) ⟨0, false, 0⟩ () ⟨a', b', o'⟩) ?_ ?_
  · skip
    repeat' (first | (apply aF) | (apply aA) | (apply aT) | (apply aG) | (apply aD) | (refine aE rfl rfl ?_; ((refine aX ?_)); refine aB ?_))
    refine cK [5, 6, 16, 17, 18, 19, 20, 21, 22, 23, 24, 25, 26, 27, 28, 29, 30, 31, 32, 33, 34, 35, 36, 37, 38, 39, 40, 41, 42, 43, 44, 45, 46, 47, 48] (fun k j H2 R2 => ∃ (i a' o' : Nat) (b' : Bool), i + k = 3 ∧ j 5 = .int .i64 (i : Int) ∧ R2 = Sl (.slice (some ⟨bh, 0, none⟩) 3 3) hB :: R ∧ H2 = .blk br (gD A c xs a' b' o') 105 :: .blk b2 [.int .i64 0, .int .i64 0, .int .i64 0, .int .i64 0, .int .i64 0, .int .i64 0, .bool false, .slice none 0 0, .slice none 0 0, .slice none 0 0, .slice none 0 0, .slice none 0 0, .slice none 0 0, .slice none 0 0, .slice none 0 0, .int .i64 0, .int .i64 0, .int .i64 0] 44 :: H ∧ a' ≤ xs.length ∧ (b' = false → a' = i ∧ o' = 0 ∧ ∀ q, q < i → xs[q]? = hB[q]?) ∧ (b' = true → gZ xs 0 = .error o')) 3 eE ⟨0, 0, 0, false, rfl, rfl, rfl, rfl, Nat.zero_le _, (fun _ => ⟨rfl, rfl, fun q hq => by omega⟩), (fun h => by cases h)⟩ ?_
    rintro k j' H2 R2 ⟨i, a', o', b', hik, h5, hR2, hH2, ha', hgood, hbad⟩
    subst hH2 hR2
    refine cQ (by simp only [dX, List.foldl_cons, List.foldl_nil, List.set_cons_succ, List.set_cons_zero, h5]; rfl) ?_
    cases b' with
    | true =>
      have he := hbad rfl
      rcases Nat.lt_or_ge i 3 with hlt | hge
      · skip
        repeat' (first | (apply aF) | (apply aA) | (apply bV) | (apply aI; exact rfl) | (apply aG) | (apply aD) | (apply aS) | (apply aR) | (apply aP; exact rfl; ((refine aM (i := 0) rfl rfl rfl ?_)); refine aB ?_) | (apply aU; exact rfl; ((refine bM rfl rfl (fun h => ?_) (fun h => ?_))) <;> (first | (exfalso; omega) | refine aB ?_)) | (refine aE rfl rfl ?_; ((first | refine aH ?_ | refine bT rfl eJ ?_ | refine aW rfl ?_ | refine aC rfl ?_ | refine dE rfl ?_)); refine aB ?_))
        exact fM _ R eE ⟨a', o', true, rfl, rfl, Out.mk_er he (Nat.zero_le _) ha'⟩ (fun w hs => hs.weaken (List.Sublist.refl _) (fun p hp => List.mem_cons_of_mem _ hp))
      · skip
        repeat' (first | (apply aF) | (apply aA) | (apply bV) | (apply aI; exact rfl) | (apply aG) | (apply aD) | (apply aS) | (apply aR) | (apply aU; exact rfl; ((refine bM rfl rfl (fun h => ?_) (fun h => ?_))) <;> (first | (exfalso; omega) | refine aB ?_)) | (refine aE rfl rfl ?_; ((first | refine aH ?_ | refine cI rfl eJ ?_)); refine aB ?_) | (refine cR rfl ?_; refine aB ?_))
        exact fM _ R eE ⟨a', o', true, rfl, rfl, Out.mk_er he (Nat.zero_le _) ha'⟩ (fun w hs => hs.weaken (List.Sublist.refl _) (fun p hp => List.mem_cons_of_mem _ hp))
    | false =>
      obtain ⟨rfl, rfl, hpre⟩ := hgood rfl
      rcases Nat.lt_or_ge a' 3 with hlt | hge
      rotate_left
      · skip
        repeat' (first | (apply aF) | (apply aA) | (apply bV) | (apply aI; exact rfl) | (apply aG) | (apply aD) | (apply aS) | (apply aR) | (apply aU; exact rfl; ((refine bM rfl rfl (fun h => ?_) (fun h => ?_))) <;> (first | (exfalso; omega) | refine aB ?_)) | (refine aE rfl rfl ?_; ((first | refine aH ?_ | refine cI rfl eJ ?_)); refine aB ?_) | (refine cR rfl ?_; refine aB ?_))
        obtain rfl : a' = 3 := by omega
        exact fM _ R eE ⟨3, 0, false, rfl, rfl, Out.mk_ok (yJ ha' hpre) (Nat.zero_le _) ha'⟩ (fun w hs => hs.weaken (List.Sublist.refl _) (fun p hp => List.mem_cons_of_mem _ hp))
      · obtain ⟨k', rfl⟩ : ∃ k', k = k' + 1 := ⟨k - 1, by omega⟩
        repeat' (first | (apply aF) | (apply aA) | (apply aT) | (apply bE) | (apply aK; exact rfl) | (apply aG) | (apply aD) | (apply aP; exact rfl; ((refine aM (i := 0) rfl rfl rfl ?_)); refine aB ?_) | (apply aU; exact rfl; ((refine bM rfl rfl (fun h => ?_) (fun h => ?_))) <;> (first | (exfalso; omega) | refine aB ?_)) | (refine aE rfl rfl ?_; ((first | refine aH ?_ | refine bT rfl eJ ?_ | refine aW rfl ?_ | refine aC rfl ?_ | refine dE rfl ?_)); refine aB ?_))
        refine dS rfl ?_; refine aY fA ?_
        refine vX br A c xs a' 0 hx ha' aV (fun ch a2 b2' o2 hN le2 hle2 => ?_)
        refine aB ?_
        rcases hN with ⟨hch, rfl, rfl, rfl⟩ | ⟨hno, rfl, rfl, rfl, rfl⟩
        rotate_left
        · skip
          repeat' (first | (apply aF) | (apply aA) | (apply bE) | (apply aI; exact rfl) | (apply aG) | (apply aD) | (apply bP) | (apply aP; exact rfl; ((refine aM (i := 0) rfl rfl rfl ?_)); refine aB ?_) | (apply aU; exact rfl; ((refine bI rfl rfl (by omega) (by omega) ?_)); refine aB ?_) | (refine aE rfl rfl ?_; ((first | refine aH ?_ | refine aX ?_ | refine cI rfl eJ ?_ | refine aW rfl ?_ | refine aC rfl ?_ | refine dE rfl ?_)); refine aB ?_) | (refine cR rfl ?_; refine aB ?_))
          exact cE k' _ _ (by omega) eE ⟨a2 + 1, a2, xs.length, true, by omega, rfl, rfl, rfl, ha', (fun h => by cases h), (fun _ => wR hlt hpre hno)⟩ (fun w hs => hs)
        · obtain ⟨d9, hd9⟩ : ∃ d9, hB[a']? = some d9 := ⟨_, List.getElem?_eq_getElem (show a' < hB.length from hlt)⟩
          repeat' (first | (refine aE rfl rfl ?_; refine kI (xs := hB) (i := a') rfl rfl aV hd9 (fun b9 o9 => ?_); refine aB ?_) | (refine aU rfl ?_; refine eL (k := .u8) (a := (ch.toNat : Int)) (b := (d9.toNat : Int)) rfl rfl (fun h => ?_) (fun h => ?_) <;> refine aB ?_) | (refine dS rfl ?_; refine aY fA ?_; refine mR br _ _ _ _ _ a' _ (by omega) ?_; refine aB ?_) | (apply aF) | (apply aA) | (apply bE) | (apply aK; exact rfl) | (apply aI; exact rfl) | (apply aG) | (apply aD) | (apply bP) | (apply aP; exact rfl; ((first | refine aM (i := 0) rfl rfl rfl ?_ | refine aZ rfl cJ rfl ?_)); refine aB ?_) | (apply aU; exact rfl; ((first | refine bI rfl rfl (by omega) (by omega) ?_ | refine eR rfl rfl (by omega) (by omega) ?_)); refine aB ?_) | (refine aE rfl rfl ?_; ((first | refine aH ?_ | refine aX ?_ | refine bT rfl eJ ?_ | refine aW rfl ?_ | refine aC rfl ?_ | refine dE rfl ?_)); refine aB ?_))
          · have hne : ch ≠ d9 := fun e => h (by rw [e])
            exact cE k' _ (Sl (.slice (some ⟨bh, 0, none⟩) 3 3) hB :: R) (by omega) eE ⟨a' + 1, a' + 1, a', true, by omega, rfl, rfl, rfl, hle2, (fun h => by cases h), (fun _ => vW hlt hpre hch hd9 hne)⟩ (fun w hs => hs.weaken bU cZ)
          · have heq : ch = d9 := UInt8.toNat_inj.1 (by exact_mod_cast h)
            refine cE k' _ (Sl (.slice (some ⟨bh, 0, none⟩) 3 3) hB :: R) (by omega) eE ⟨a' + 1, a' + 1, 0, false, by omega, rfl, rfl, rfl, hle2, (fun _ => ⟨rfl, rfl, fun q hq => ?_⟩), (fun h => by cases h)⟩ (fun w hs => hs.weaken bU cZ)
            rcases Nat.lt_or_ge q a' with hq' | hq'
            · exact hpre q hq'
            · obtain rfl : q = a' := by omega
              rw [hch, hd9, heq]
  rintro j2 H3 R3 ⟨a0, o0, b0, hH3, hR3, h0⟩
  subst hH3 hR3
  have hle0 : a0 ≤ xs.length := h0.len
  refine cQ (by simp only [dX, List.foldl_cons, List.foldl_nil, List.set_cons_succ, List.set_cons_zero]; rfl) ?_
  apply aF; apply aA
  repeat' ((refine bG rfl rfl ?_; ((refine bK cW (fun b => ?_))); refine aB ?_))
  apply aG; apply aD
  revert b
  intro bt
  refine jG ?_
  repeat' (first | (apply aF) | (apply aA) | (refine aE rfl rfl ?_; ((refine aH ?_)); refine aB ?_))
  refine fK rfl rfl (dR br A c xs hx) (fun _ => Nat.zero_le _) hle0 aV (fun x1 a1 b1 o1 h1 le1 hle1 ok1 => ?_)
  refine aB ?_
  repeat' (first | (apply aF) | (apply aA) | (apply aG) | (apply aD) | (apply bD; exact rfl; ((refine aO (i := 1) rfl cW rfl (by rfl) (by simp) (by simp [Value.oneCell']) ?_)); refine aB ?_; refine cA ?_) | (refine aE rfl rfl ?_; ((first | refine aH ?_ | refine aC rfl ?_)); refine aB ?_))
  refine fK rfl rfl (dR br A c xs hx) (fun _ => Nat.zero_le _) hle1 aV (fun x2 a2 b2 o2 h2 le2 hle2 ok2 => ?_)
  refine aB ?_
  repeat' (first | (apply aF) | (apply aA) | (apply aG) | (apply aD) | (apply bD; exact rfl; ((refine aO (i := 1) rfl cW rfl (by rfl) (by simp) (by simp [Value.oneCell']) ?_)); refine aB ?_; refine cA ?_) | (refine aE rfl rfl ?_; ((first | refine aH ?_ | refine aC rfl ?_)); refine aB ?_))
  refine fK rfl rfl (dR br A c xs hx) (fun _ => Nat.zero_le _) hle2 aV (fun x3 a3 b3 o3 h3 le3 hle3 ok3 => ?_)
  refine aB ?_
  repeat' (first | (apply aF) | (apply aA) | (apply aG) | (apply aD) | (apply bD; exact rfl; ((refine aO (i := 1) rfl cW rfl (by rfl) (by simp) (by simp [Value.oneCell']) ?_)); refine aB ?_; refine cA ?_) | (refine aE rfl rfl ?_; ((first | refine aH ?_ | refine aC rfl ?_)); refine aB ?_))
  refine fK rfl rfl (dR br A c xs hx) (fun _ => Nat.zero_le _) hle3 aV (fun x4 a4 b4 o4 h4 qO hle4 ok4 => ?_)
  refine aB ?_
  repeat' (first | (apply aF) | (apply aA) | (apply aG) | (apply aD) | (apply bD; exact rfl; ((refine aO (i := 1) rfl cW rfl (by rfl) (by simp) (by simp [Value.oneCell']) ?_)); refine aB ?_; refine cA ?_) | (refine aE rfl rfl ?_; ((first | refine aH ?_ | refine aC rfl ?_)); refine aB ?_))
  refine fK rfl rfl (dR br A c xs hx) (fun _ => Nat.zero_le _) hle4 aV (fun x5 a5 b5 o5 h5 le5 hle5 ok5 => ?_)
  refine aB ?_
  repeat' (first | (apply aF) | (apply aA) | (apply aG) | (apply aD) | (apply bD; exact rfl; ((refine aO (i := 1) rfl cW rfl (by rfl) (by simp) (by simp [Value.oneCell']) ?_)); refine aB ?_; refine cA ?_) | (refine aE rfl rfl ?_; ((first | refine aH ?_ | refine aC rfl ?_)); refine aB ?_))
  refine fK rfl rfl (dR br A c xs hx) (fun _ => Nat.zero_le _) hle5 aV (fun x6 a6 b6 o6 h6 le6 hle6 ok6 => ?_)
  refine aB ?_
  repeat' (first | (apply aF) | (apply aA) | (apply aG) | (apply aD) | (apply bD; exact rfl; ((refine aO (i := 1) rfl cW rfl (by rfl) (by simp) (by simp [Value.oneCell']) ?_)); refine aB ?_; refine cA ?_) | (refine aE rfl rfl ?_; ((first | refine aH ?_ | refine aC rfl ?_)); refine aB ?_))
  refine uE rfl rfl (oQ br A c xs hx) (fun _ => Nat.zero_le _) hle6 aV (fun x7 a7 b7 o7 h7 le7 hle7 ok7 => ?_)
  refine aB ?_
  repeat' (first | (apply aF) | (apply aA) | (apply aG) | (apply aD) | (apply bD; exact rfl; ((refine aO (i := 1) rfl cW rfl (by rfl) (by simp) (by simp [Value.oneCell']) ?_)); refine aB ?_; refine cA ?_) | (refine aE rfl rfl ?_; ((first | refine aH ?_ | refine aC rfl ?_)); refine aB ?_))
  refine lW rfl rfl (jZ br A c xs hx) (fun _ => Nat.zero_le _) hle7 aV (fun x8 a8 b8 o8 A8 c8 h8 le8 hle8 ok8 => ?_)
  refine aB ?_
  repeat' (first | (apply aF) | (apply aA) | (apply aG) | (apply aD) | (apply bD; exact rfl; ((refine aO (i := 1) rfl cW rfl (by rfl) (by simp) (by simp [Value.oneCell']) ?_)); refine aB ?_; refine cA ?_) | (refine aE rfl rfl ?_; ((first | refine aH ?_ | refine aC rfl ?_)); refine aB ?_))
  refine lW rfl rfl (jZ br A c xs hx) (fun _ => Nat.zero_le _) hle8 aV (fun x9 a9 b9 o9 A9 c9 h9 le9 hle9 ok9 => ?_)
  refine aB ?_
  repeat' (first | (apply aF) | (apply aA) | (apply aG) | (apply aD) | (apply aP; exact rfl; ((refine aM (i := 1) rfl rfl rfl ?_)); refine aB ?_) | (apply bD; exact rfl; ((refine aO (i := 1) rfl cW rfl (by rfl) (by simp) (by simp [Value.oneCell']) ?_)); refine aB ?_; refine cA ?_) | (refine aE rfl rfl ?_; ((first | refine aH ?_ | refine aC rfl ?_)); refine aB ?_))
  refine dS rfl ?_
  refine aY fA ?_
  refine aA0 br A c xs hx x1 x2 x3 x4 x5 x6 x7 A8 x8.length c8 A9 x9.length c9 _ _ _ a9 b9 o9 hle9 aV (fun x10 x11 x12 x13 x14 x15 a15 b15 o15 A10 c10 A11 c11 A12 c12 A13 c13 A14 c14 A15 c15 hLL le15 hle15 okL => ?_)
  refine aB ?_
  obtain ⟨ok10, ok11, ok12, ok13, ok14, ok15⟩ := okL
  repeat' (first | (apply aF) | (apply aA) | (apply aG) | (apply aD) | (apply bD; exact rfl; ((refine aO (i := 1) rfl cW rfl (by rfl) (by simp) (by simp [Value.oneCell']) ?_)); refine aB ?_; refine cA ?_) | (refine aE rfl rfl ?_; ((refine aH ?_)); refine aB ?_))
  refine fK rfl rfl (dR br A c xs hx) (fun _ => Nat.zero_le _) hle15 aV (fun x16 a16 b16 o16 h16 le16 hle16 ok16 => ?_)
  have hO : Out xs (bW (gZ xs) (qR xs)) ⟨0, false, 0⟩ ((), x1, x2, x3, x4, x5, x6, x7, x8, x9, x10, x11, x12, x13, x14, x15, x16) ⟨a16, b16, o16⟩ := h0.pair (h1.pair (h2.pair (h3.pair (h4.pair (h5.pair (h6.pair (h7.pair (h8.pair (h9.pair (hLL _ _ _ h16))))))))))
  refine aB ?_
  cases b16 with
  | true =>
    repeat' (first | (apply aF) | (apply aG) | (apply aD) | (apply bD; exact rfl; ((refine aO (i := 1) rfl cW rfl (by rfl) (by simp) (by simp [Value.oneCell']) ?_)); refine aB ?_; refine cA ?_) | (refine aE rfl rfl ?_; ((refine aC rfl ?_)); refine aB ?_))
    refine dQ eT (by decide +kernel) (fun _ _ _ _ _ _ h => h) (List.Sublist.refl _) ?_
    all_goals ((refine bF 0 ?_; ((refine aH ?_)); refine aJ ?_))
    all_goals ((refine bF 1 ?_; ((refine aW rfl ?_)); refine aJ ?_))
    all_goals ((refine bF 2 ?_; ((refine aC rfl ?_)); refine aJ ?_))
    all_goals ((refine bF 3 ?_; ((refine aM (i := 0) rfl rfl rfl ?_)); refine aJ ?_))
    all_goals ((refine bF 4 ?_; ((refine dE rfl ?_)); refine aJ ?_))
    all_goals ((refine bF 5 ?_; ((refine aH ?_)); refine aJ ?_))
    all_goals ((refine dH 6 (List.Sublist.refl _) ?_))
    all_goals ((refine dH 7 (List.Sublist.refl _) ?_))
    all_goals ((refine dH 8 (List.Sublist.refl _) ?_))
    all_goals ((refine dH 9 (List.Sublist.refl _) ?_))
    all_goals ((refine dH 10 (List.Sublist.refl _) ?_))
    all_goals ((refine dH 11 (List.Sublist.refl _) ?_))
    all_goals ((refine dH 12 (List.Sublist.refl _) ?_))
    all_goals ((refine dH 13 (List.Sublist.refl _) ?_))
    all_goals ((refine dH 14 (List.Sublist.refl _) ?_))
    all_goals ((refine dH 15 (List.Sublist.refl _) ?_))
    all_goals ((refine bF 16 ?_; ((refine cI rfl eJ ?_)); refine aJ ?_))
    all_goals refine gX ?_
    repeat' (first | (apply aF) | (apply aA) | (apply bN) | (apply bE) | (apply aK; exact rfl) | (apply aI; exact rfl) | (apply aG) | (apply aD) | (apply bO) | (apply aP; exact rfl; ((refine aM (i := 0) rfl rfl rfl ?_)); refine aB ?_) | (apply bD; exact rfl; ((refine aO (i := 2) rfl cW rfl (by rfl) (by simp) (by simp [Value.oneCell']) ?_)); refine aB ?_; refine cA ?_) | (refine aE rfl rfl ?_; ((first | refine aH ?_ | refine aW rfl ?_ | refine aC rfl ?_ | refine dN gI ?_)); refine aB ?_))
    refine bC (.inl rfl) (dM rfl (dG (i := 2) rfl rfl rfl)) (cG H (Unp.fs maZ yZ ++ R3) (fun w hs => (hs.weaken bU cZ).maZ) ?_)
    exact rE (decR_er hx hO) k yZ rK
  | false =>
    have hdec := decR_ok hx hO
    repeat' (first | (apply aF) | (apply aG) | (apply aD) | (apply bD; exact rfl; ((refine aO (i := 1) rfl cW rfl (by rfl) (by simp) (by simp [Value.oneCell']) ?_)); refine aB ?_; refine cA ?_) | (refine aE rfl rfl ?_; ((refine aC rfl ?_)); refine aB ?_))
    refine dQ eT (by decide +kernel) (fun _ _ _ _ _ _ h => h) (List.Sublist.refl _) ?_
    all_goals ((refine bF 0 ?_; ((refine aH ?_)); refine aJ ?_))
    all_goals ((refine bF 1 ?_; ((refine aW rfl ?_)); refine aJ ?_))
    all_goals ((refine bF 2 ?_; ((refine aC rfl ?_)); refine aJ ?_))
    all_goals ((refine bF 3 ?_; ((refine aM (i := 0) rfl rfl rfl ?_)); refine aJ ?_))
    all_goals ((refine bF 4 ?_; ((refine dE rfl ?_)); refine aJ ?_))
    all_goals ((refine bF 5 ?_; ((refine aH ?_)); refine aJ ?_))
    all_goals ((refine bF 6 ?_; ((refine aH ?_)); refine aJ ?_))
    all_goals ((refine bF 7 ?_; ((refine aW rfl ?_)); refine aJ ?_))
    all_goals ((refine bF 8 ?_; ((refine aC rfl ?_)); refine aJ ?_))
    all_goals ((refine bF 9 ?_; ((refine aM (i := 0) rfl rfl rfl ?_)); refine aJ ?_))
    all_goals ((refine bF 10 ?_; ((refine aH ?_)); refine aJ ?_))
    all_goals ((refine bF 11 ?_; ((refine aW rfl ?_)); refine aJ ?_))
    all_goals ((refine bF 12 ?_; ((refine aC rfl ?_)); refine aJ ?_))
    all_goals ((refine bF 13 ?_; ((refine aM (i := 0) rfl rfl rfl ?_)); refine aJ ?_))
    all_goals ((refine bF 14 ?_; ((refine bQ rfl ?_)); refine aJ ?_))
    all_goals ((refine bF 15 ?_; ((refine bM rfl rfl (fun h => ?_) (fun h => ?_))) <;> (refine aJ ?_)))
    all_goals ((refine bF 16 ?_; ((refine bT rfl eJ ?_)); refine aJ ?_))
    all_goals refine gX ?_
    · skip
      repeat' (first | (refine dS rfl ?_; refine aY fA ?_; refine mR br _ _ _ _ _ a16 _ rfl ?_; refine aB ?_) | (apply aF) | (apply aA) | (apply bN) | (apply aK; exact rfl) | (apply aG) | (apply aD) | (apply bO) | (apply aP; exact rfl; ((refine aM (i := 0) rfl rfl rfl ?_)); refine aB ?_) | (apply bD; exact rfl; ((refine aO (i := 2) rfl cW rfl (by rfl) (by simp) (by simp [Value.oneCell']) ?_)); refine aB ?_; refine cA ?_) | (refine aE rfl rfl ?_; ((first | refine aH ?_ | refine aW rfl ?_ | refine aC rfl ?_ | refine dN gI ?_)); refine aB ?_))
      refine bC (.inl rfl) (dM rfl (dG (i := 2) rfl rfl rfl)) (cG H (Unp.fs maZ yZ ++ R3) (fun w hs => (hs.weaken bU cZ).maZ) ?_)
      exact rE (hdec.trans (if_pos (by omega))) k yZ rK
    · skip
      repeat' (first | (refine aP rfl ?_; refine aM (i := 1) (v := .agg #[.int .i64 x1, .int .i64 x2, .int .i64 x3, .int .i64 x4, .int .i64 x5, .int .i64 x6, .bool x7, .slice A8 x8.length c8, .slice A9 x9.length c9, .slice A10 x10.length c10, .slice A11 x11.length c11, .slice A12 x12.length c12, .slice A13 x13.length c13, .slice A14 x14.length c14, .slice A15 x15.length c15, .int .i64 x16]) rfl rfl rfl ?_; refine aB ?_) | (apply aF) | (apply aA) | (apply bN) | (apply bE) | (apply aI; exact rfl) | (apply aG) | (apply aD) | (apply aP; exact rfl; ((refine aM (i := 0) rfl rfl rfl ?_)); refine aB ?_) | (apply bD; exact rfl; ((refine aO (i := 2) rfl cW rfl (by rfl) (by simp) (by simp [Value.oneCell']) ?_)); refine aB ?_; refine cA ?_) | (refine aE rfl rfl ?_; ((first | refine aH ?_ | refine aW rfl ?_ | refine aC rfl ?_ | refine dN gI ?_)); refine aB ?_))
      refine bC (.inl rfl) (dM rfl (dG (i := 2) rfl rfl rfl)) (cG H (Sl (.slice A8 x8.length c8) x8 :: Sl (.slice A9 x9.length c9) x9 :: Sl (.slice A10 x10.length c10) x10 :: Sl (.slice A11 x11.length c11) x11 :: Sl (.slice A12 x12.length c12) x12 :: Sl (.slice A13 x13.length c13) x13 :: Sl (.slice A14 x14.length c14) x14 :: Sl (.slice A15 x15.length c15) x15 :: R3) (fun w hs => hs.weaken bU cZ) ?_)
      exact rE (hdec.trans (if_neg (by omega))) k ((), (), (), (), (), (), (), (A8, c8), (A9, c9), (A10, c10), (A11, c11), (A12, c12), (A13, c13), (A14, c14), (A15, c15), ()) (show dD x1 ∧ dD x2 ∧ dD x3 ∧ dD x4 ∧ dD x5 ∧ dD x6 ∧ True ∧ (x8.length ≤ c8 ∧ c8 ≤ dY) ∧ (x9.length ≤ c9 ∧ c9 ≤ dY) ∧ (x10.length ≤ c10 ∧ c10 ≤ dY) ∧ (x11.length ≤ c11 ∧ c11 ≤ dY) ∧ (x12.length ≤ c12 ∧ c12 ≤ dY) ∧ (x13.length ≤ c13 ∧ c13 ≤ dY) ∧ (x14.length ≤ c14 ∧ c14 ≤ dY) ∧ (x15.length ≤ c15 ∧ c15 ≤ dY) ∧ dD x16 from ⟨ok1, ok2, ok3, ok4, ok5, ok6, ok7, ok8, ok9, ok10, ok11, ok12, ok13, ok14, ok15, ok16⟩)
end Go.Proofs.YtggdljhmbckpmaaGreat
