/- The reference's reader: Decode: walks, printed by gen_vf.py. -/
import Derived.Test.YtggdljhmbckpmaaGreatV8
import Derived.Test.YtggdljhmbckpmaaGreatN11
set_option linter.unusedVariables false
set_option linter.unusedSimpArgs false
namespace Go.Proofs.YtggdljhmbckpmaaGreat
open Go Go.RowKit
set_option maxRecDepth 100000
set_option maxHeartbeats 6400000

def hB : List UInt8 := [109, 97, 1]
theorem yJ {xs : List UInt8} {i : Nat} (hi : i < 3) (hp : ∀ q, q < i → xs[q]? = hB[q]?) (hn : xs[i]? = none) : iT xs 0 = .error xs.length := by
  have hl : xs.length ≤ i := List.getElem?_eq_none_iff.1 hn
  have g : ∀ q, q < i → q < xs.length := fun q hq => by
    rcases Nat.lt_or_ge q xs.length with h | h
    · exact h
    · have e := hp q hq
      rw [List.getElem?_eq_none h] at e
      have : hB[q]? ≠ none := by
        intro h
        have := List.getElem?_eq_none_iff.1 h
        simp only [hB, List.length_cons, List.length_nil] at this
        omega
      exact absurd e.symm this
  unfold iT
  obtain rfl | rfl | rfl : i = 0 ∨ i = 1 ∨ i = 2 := by omega
  · rw [if_pos hl]
  · have := g 0 aO
    have h0 : xs[0]? = some 109 := hp 0 aO
    rw [if_neg aO, if_neg (fun h => h h0), if_pos hl]
  · have := g 1 aO
    have h0 : xs[0]? = some 109 := hp 0 aO
    have h1 : xs[1]? = some 97 := hp 1 aO
    rw [if_neg aO, if_neg (fun h => h h0), if_neg aO, if_neg (fun h => h h1), if_pos hl]
theorem yI {xs : List UInt8} {i : Nat} {ch d : UInt8} (hi : i < 3) (hp : ∀ q, q < i → xs[q]? = hB[q]?) (hc : xs[i]? = some ch) (hd : hB[i]? = some d) (hne : ch ≠ d) : iT xs 0 = .error i := by
  have hl := (List.getElem?_eq_some_iff.1 hc).1
  unfold iT
  obtain rfl | rfl | rfl : i = 0 ∨ i = 1 ∨ i = 2 := by omega
  · have : d = 109 := by injection hd with hd; exact hd.symm
    subst this
    rw [if_neg aO, if_pos (fun h => hne (by rw [hc] at h; injection h))]
  · have : d = 97 := by injection hd with hd; exact hd.symm
    subst this
    have h0 : xs[0]? = some 109 := hp 0 aO
    rw [if_neg aO, if_neg (fun h => h h0), if_neg aO, if_pos (fun h => hne (by rw [hc] at h; injection h))]
  · have : d = 1 := by injection hd with hd; exact hd.symm
    subst this
    have h0 : xs[0]? = some 109 := hp 0 aO
    have h1 : xs[1]? = some 97 := hp 1 aO
    rw [if_neg aO, if_neg (fun h => h h0), if_neg aO, if_neg (fun h => h h1), if_neg aO, if_pos (fun h => hne (by rw [hc] at h; injection h))]
theorem s4 {xs : List UInt8} (hl : 3 ≤ xs.length) (hp : ∀ q, q < 3 → xs[q]? = hB[q]?) : iT xs 0 = .ok ((), 3) := by
  have h0 : xs[0]? = some 109 := hp 0 aO
  have h1 : xs[1]? = some 97 := hp 1 aO
  have h2 : xs[2]? = some 1 := hp 2 aO
  unfold iT
  rw [if_neg aO, if_neg (fun h => h h0), if_neg aO, if_neg (fun h => h h1), if_neg aO, if_neg (fun h => h h2)]
/-- What the reference's Decode returns. -/
def KDr (K : Value → List Hp → List MP → Prop) (r : jO × Int × Int) (H : List Hp) (R : List MP) : Prop := ∀ y, Unp.ok r.1 y → K (.agg (Unp.cs r.1 y ++ [Value.int .i64 r.2.1, Value.int .i64 r.2.2]).toArray) H (Unp.fs r.1 y ++ R)
theorem tI {K : Value → List Hp → List MP → Prop} {r r' : jO × Int × Int} {H : List Hp} {R : List MP} (e : r = r') (h : KDr K r H R) : KDr K r' H R := e ▸ h
theorem decR_er {xs : List UInt8} {m : Unit × jO} {a' o' : Nat} (hx : xs.length ≤ 250000) (h : Out xs (cK (iT xs) (sT xs)) ⟨0, false, 0⟩ m ⟨a', true, o'⟩) : nN xs = (maZ, (o' : Int), 300) := by
  have he : cK (iT xs) (sT xs) 0 = .error o' := h.fault rfl rfl
  unfold nN
  rw [if_neg aO]
  have : yG xs = .error o' := by
    unfold yG
    unfold cK at he
    cases hg : iT xs 0 with
    | error e =>
      rw [hg] at he
      injection he with he
      rw [he]
    | ok p =>
      obtain ⟨u, a1⟩ := p
      have h3 : a1 = 3 := by
        unfold iT at hg
        repeat' split at hg
        all_goals (first | (cases hg; rfl) | cases hg)
      subst h3
      rw [hg] at he
      simp only at he ⊢
      rw [tO]
      cases hr : sT xs 3 with
      | error e =>
        rw [hr] at he
        injection he with he
        simp only [he]
      | ok q => rw [hr] at he; cases he
  rw [this]
theorem decR_ok {xs : List UInt8} {u : Unit} {m : jO} {a' o' : Nat} (hx : xs.length ≤ 250000) (h : Out xs (cK (iT xs) (sT xs)) ⟨0, false, 0⟩ (u, m) ⟨a', false, o'⟩) : nN xs = if a' < xs.length then (maZ, (a' : Int), 300) else (m, 0, 0) := by
  obtain ⟨_, he, _⟩ := h.good rfl
  unfold nN
  rw [if_neg aO]
  have : yG xs = if a' < xs.length then .error a' else .ok m := by
    unfold yG
    simp only at he
    unfold cK at he
    cases hg : iT xs 0 with
    | error e => rw [hg] at he; cases he
    | ok p =>
      obtain ⟨u, a1⟩ := p
      have h3 : a1 = 3 := by
        unfold iT at hg
        repeat' split at hg
        all_goals (first | (cases hg; rfl) | cases hg)
      subst h3
      rw [hg] at he
      simp only at he ⊢
      rw [tO]
      cases hr : sT xs 3 with
      | error e => rw [hr] at he; cases he
      | ok q =>
        rw [hr] at he
        injection he with he
        injection he with e1 e2
        injection e1 with e3 e4
        simp only [e2, ← e4]
  rw [this]
  by_cases hl : a' < xs.length
  · simp only [if_pos hl]
  · simp only [if_neg hl]

theorem s6 {w0 : World} {H : List Hp} {R : List MP} {K : Value → List Hp → List MP → Prop} (A : Option Addr) (c : Nat) (xs : List UInt8) (hxm : xs.length ≤ 9223372036854775806) (hm : Sl (.slice A xs.length c) xs ∈ R) (k : KDr K (nN xs) H R) : CallsK Tryz.prog w0 10 #[.slice A xs.length c] H R K := by
  rcases Nat.lt_or_ge 250000 xs.length with hbig | hx
  · skip
    refine bV Tryz.func10 rfl Tryz.ntmps10 fI ?_
    repeat' (first | (apply aF) | (apply aA) | (apply bP) | (apply aK; exact rfl) | (apply aH) | (apply aD) | (apply bN) | (apply aU; exact rfl; ((refine fD rfl rfl (fun h => ?_) (fun h => ?_))) <;> (first | (exfalso; omega) | refine aB ?_)) | (apply bE; exact rfl; ((refine aN (i := 0) rfl cW rfl dT dB eK ?_)); refine aB ?_; refine cE ?_) | (refine aE rfl rfl ?_; ((first | refine aG ?_ | refine bS rfl ?_ | refine dI gG ?_)); refine aB ?_) | (refine bJ rfl rfl ?_; ((refine bL cW (fun b => ?_))); refine aB ?_))
    refine aZ (.inl rfl) (dP rfl (dC (i := 0) rfl rfl rfl)) (cA H (Unp.fs maZ yZ ++ R) (fun w hs => (hs.weaken eB (fun _ h => h)).maZ) ?_)
    exact tI (r' := (maZ, 0, 2)) (by unfold nN; rw [if_pos aO]) k yZ pT
  refine bV Tryz.func10 rfl Tryz.ntmps10 fI ?_
  apply aF; apply aA
  repeat' ((refine bJ rfl rfl ?_; ((refine bL cW (fun b => ?_))); refine aB ?_))
  apply aH; apply aD
  revert b
  intro b2
  apply aF
  apply aF; apply aA
  repeat' (first | (apply aU; exact rfl; ((refine fD rfl rfl (fun h => ?_) (fun h => ?_))) <;> (first | (exfalso; omega) | refine aB ?_)) | (refine aE rfl rfl ?_; ((first | refine aG ?_ | refine bS rfl ?_)); refine aB ?_))
  apply aH; apply aD
  apply aJ; exact rfl
  apply bF
  apply aD
  apply aF; apply aA
  repeat' (first | (refine aE rfl rfl ?_; ((first | refine aG ?_ | refine aY ?_ | refine dI gG ?_)); refine aB ?_) | (refine bJ rfl rfl ?_; ((refine dX cW (fun b => ?_))); refine aB ?_))
  apply aH; apply aD
  revert b
  intro br
  apply aF; apply aA
  repeat' (first | (refine aE rfl rfl ?_; ((refine aY ?_)); refine aB ?_) | (refine bJ rfl rfl ?_; ((refine bK cQ fP rfl (fun b => ?_))); refine aB ?_))
  apply aH; apply aD
  revert b
  intro bh
  refine eJ (.blk br (iA A c xs 0 false 0) 105 :: .blk b2 [.int .i64 0, .int .i64 0, .int .i64 0, .int .i64 0, .int .i64 0, .int .i64 0, .bool false, .slice none 0 0, .slice none 0 0, .slice none 0 0, .slice none 0 0, .slice none 0 0, .slice none 0 0, .slice none 0 0, .slice none 0 0, .int .i64 0, .int .i64 0, .int .i64 0] 44 :: H) (Sl (.slice (some ⟨bh, 0, none⟩) 3 3) hB :: R) (fun w hs => S.bytes_stay (i := 0) (xs := hB) (T := 5) hs rfl rfl cQ cQ) ?_
  refine kL [5, 6, 16, 17, 18, 19, 20, 21, 22, 23, 24, 25, 26, 27, 28, 29, 30, 31, 32, 33, 34, 35, 36, 37, 38, 39, 40, 41, 42, 43, 44, 45, 46, 47, 48] (fun j H' R' => ∃ (a' o' : Nat) (b' : Bool), H' = .blk br (iA A c xs a' b' o') 105 :: .blk b2 [.int .i64 0, .int .i64 0, .int .i64 0, .int .i64 0, .int .i64 0, .int .i64 0, .bool false, .slice none 0 0, .slice none 0 0, .slice none 0 0, .slice none 0 0, .slice none 0 0, .slice none 0 0, .slice none 0 0, .slice none 0 0, .int .i64 0, .int .i64 0, .int .i64 0] 44 :: H ∧ R' = R ∧ Out xs (iT xs) ⟨0, false, 0⟩ () ⟨a', b', o'⟩) ?_ ?_
  · skip
    repeat' (first | (apply aF) | (apply aA) | (apply aV) | (apply aH) | (apply aD) | (refine aE rfl rfl ?_; ((refine aY ?_)); refine aB ?_))
    refine cM [5, 6, 16, 17, 18, 19, 20, 21, 22, 23, 24, 25, 26, 27, 28, 29, 30, 31, 32, 33, 34, 35, 36, 37, 38, 39, 40, 41, 42, 43, 44, 45, 46, 47, 48] (fun k j H2 R2 => ∃ (i a' o' : Nat) (b' : Bool), i + k = 3 ∧ j 5 = .int .i64 (i : Int) ∧ R2 = Sl (.slice (some ⟨bh, 0, none⟩) 3 3) hB :: R ∧ H2 = .blk br (iA A c xs a' b' o') 105 :: .blk b2 [.int .i64 0, .int .i64 0, .int .i64 0, .int .i64 0, .int .i64 0, .int .i64 0, .bool false, .slice none 0 0, .slice none 0 0, .slice none 0 0, .slice none 0 0, .slice none 0 0, .slice none 0 0, .slice none 0 0, .slice none 0 0, .int .i64 0, .int .i64 0, .int .i64 0] 44 :: H ∧ a' ≤ xs.length ∧ (b' = false → a' = i ∧ o' = 0 ∧ ∀ q, q < i → xs[q]? = hB[q]?) ∧ (b' = true → iT xs 0 = .error o')) 3 eS ⟨0, 0, 0, false, rfl, rfl, rfl, rfl, Nat.zero_le _, (fun _ => ⟨rfl, rfl, fun q hq => by omega⟩), (fun h => by cases h)⟩ ?_
    rintro k j' H2 R2 ⟨i, a', o', b', hik, h5, hR2, hH2, ha', hgood, hbad⟩
    subst hH2 hR2
    refine dD (by simp only [eF, List.foldl_cons, List.foldl_nil, List.set_cons_succ, List.set_cons_zero, h5]; rfl) ?_
    cases b' with
    | true =>
      have he := hbad rfl
      rcases Nat.lt_or_ge i 3 with hlt | hge
      · skip
        repeat' (first | (apply aF) | (apply aA) | (apply cG) | (apply aJ; exact rfl) | (apply aH) | (apply aD) | (apply aW) | (apply aS) | (apply aP; exact rfl; ((refine aL (i := 0) rfl rfl rfl ?_)); refine aB ?_) | (apply aU; exact rfl; ((refine bQ rfl rfl (fun h => ?_) (fun h => ?_))) <;> (first | (exfalso; omega) | refine aB ?_)) | (refine aE rfl rfl ?_; ((first | refine aG ?_ | refine bX rfl eR ?_ | refine bA rfl ?_ | refine aC rfl ?_ | refine dJ rfl ?_)); refine aB ?_))
        exact gJ _ R eS ⟨a', o', true, rfl, rfl, Out.mk_er he (Nat.zero_le _) ha'⟩ (fun w hs => hs.weaken (List.Sublist.refl _) (fun p hp => List.mem_cons_of_mem _ hp))
      · skip
        repeat' (first | (apply aF) | (apply aA) | (apply cG) | (apply aJ; exact rfl) | (apply aH) | (apply aD) | (apply aW) | (apply aS) | (apply aU; exact rfl; ((refine bQ rfl rfl (fun h => ?_) (fun h => ?_))) <;> (first | (exfalso; omega) | refine aB ?_)) | (refine aE rfl rfl ?_; ((first | refine aG ?_ | refine cH rfl eR ?_)); refine aB ?_) | (refine cX rfl ?_; refine aB ?_))
        exact gJ _ R eS ⟨a', o', true, rfl, rfl, Out.mk_er he (Nat.zero_le _) ha'⟩ (fun w hs => hs.weaken (List.Sublist.refl _) (fun p hp => List.mem_cons_of_mem _ hp))
    | false =>
      obtain ⟨rfl, rfl, hpre⟩ := hgood rfl
      rcases Nat.lt_or_ge a' 3 with hlt | hge
      rotate_left
      · skip
        repeat' (first | (apply aF) | (apply aA) | (apply cG) | (apply aJ; exact rfl) | (apply aH) | (apply aD) | (apply aW) | (apply aS) | (apply aU; exact rfl; ((refine bQ rfl rfl (fun h => ?_) (fun h => ?_))) <;> (first | (exfalso; omega) | refine aB ?_)) | (refine aE rfl rfl ?_; ((first | refine aG ?_ | refine cH rfl eR ?_)); refine aB ?_) | (refine cX rfl ?_; refine aB ?_))
        obtain rfl : a' = 3 := by omega
        exact gJ _ R eS ⟨3, 0, false, rfl, rfl, Out.mk_ok (s4 ha' hpre) (Nat.zero_le _) ha'⟩ (fun w hs => hs.weaken (List.Sublist.refl _) (fun p hp => List.mem_cons_of_mem _ hp))
      · obtain ⟨k', rfl⟩ : ∃ k', k = k' + 1 := ⟨k - 1, by omega⟩
        repeat' (first | (apply aF) | (apply aA) | (apply aV) | (apply bF) | (apply aK; exact rfl) | (apply aH) | (apply aD) | (apply aP; exact rfl; ((refine aL (i := 0) rfl rfl rfl ?_)); refine aB ?_) | (apply aU; exact rfl; ((refine bQ rfl rfl (fun h => ?_) (fun h => ?_))) <;> (first | (exfalso; omega) | refine aB ?_)) | (refine aE rfl rfl ?_; ((first | refine aG ?_ | refine bX rfl eR ?_ | refine bA rfl ?_ | refine aC rfl ?_ | refine dJ rfl ?_)); refine aB ?_))
        refine dK rfl ?_; refine aT fA ?_
        refine zG br A c xs a' 0 hx ha' aX (fun ch a2 b2' o2 hN le2 hle2 => ?_)
        refine aB ?_
        rcases hN with ⟨hch, rfl, rfl, rfl⟩ | ⟨hno, rfl, rfl, rfl, rfl⟩
        rotate_left
        · skip
          repeat' (first | (apply aF) | (apply aA) | (apply bF) | (apply aJ; exact rfl) | (apply aH) | (apply aD) | (apply bU) | (apply aP; exact rfl; ((refine aL (i := 0) rfl rfl rfl ?_)); refine aB ?_) | (apply aU; exact rfl; ((refine bM rfl rfl aO aO ?_)); refine aB ?_) | (refine aE rfl rfl ?_; ((first | refine aG ?_ | refine aY ?_ | refine cH rfl eR ?_ | refine bA rfl ?_ | refine aC rfl ?_ | refine dJ rfl ?_)); refine aB ?_) | (refine cX rfl ?_; refine aB ?_))
          exact cJ k' _ _ aO eS ⟨a2 + 1, a2, xs.length, true, by omega, rfl, rfl, rfl, ha', (fun h => by cases h), (fun _ => yJ hlt hpre hno)⟩ (fun w hs => hs)
        · obtain ⟨d9, hd9⟩ : ∃ d9, hB[a']? = some d9 := ⟨_, List.getElem?_eq_getElem (show a' < hB.length from hlt)⟩
          repeat' (first | (refine aE rfl rfl ?_; refine iQ (xs := hB) (i := a') rfl rfl aX hd9 (fun b9 o9 => ?_); refine aB ?_) | (refine aU rfl ?_; refine eD (k := .u8) (a := (ch.toNat : Int)) (b := (d9.toNat : Int)) rfl rfl (fun h => ?_) (fun h => ?_) <;> refine aB ?_) | (refine dK rfl ?_; refine aT fA ?_; refine oD br _ _ _ _ _ a' _ aO ?_; refine aB ?_) | (apply aF) | (apply aA) | (apply bF) | (apply aK; exact rfl) | (apply aJ; exact rfl) | (apply aH) | (apply aD) | (apply bU) | (apply aP; exact rfl; ((first | refine aL (i := 0) rfl rfl rfl ?_ | refine bD rfl cL rfl ?_)); refine aB ?_) | (apply aU; exact rfl; ((first | refine bM rfl rfl aO aO ?_ | refine eY rfl rfl aO aO ?_)); refine aB ?_) | (refine aE rfl rfl ?_; ((first | refine aG ?_ | refine aY ?_ | refine bX rfl eR ?_ | refine bA rfl ?_ | refine aC rfl ?_ | refine dJ rfl ?_)); refine aB ?_))
          · have hne : ch ≠ d9 := fun e => h (by rw [e])
            exact cJ k' _ (Sl (.slice (some ⟨bh, 0, none⟩) 3 3) hB :: R) aO eS ⟨a' + 1, a' + 1, a', true, by omega, rfl, rfl, rfl, hle2, (fun h => by cases h), (fun _ => yI hlt hpre hch hd9 hne)⟩ dV
          · have heq : ch = d9 := UInt8.toNat_inj.1 (by exact_mod_cast h)
            refine cJ k' _ (Sl (.slice (some ⟨bh, 0, none⟩) 3 3) hB :: R) aO eS ⟨a' + 1, a' + 1, 0, false, by omega, rfl, rfl, rfl, hle2, (fun _ => ⟨rfl, rfl, fun q hq => ?_⟩), (fun h => by cases h)⟩ dV
            rcases Nat.lt_or_ge q a' with hq' | hq'
            · exact hpre q hq'
            · obtain rfl : q = a' := by omega
              rw [hch, hd9, heq]
  rintro j2 H3 R3 ⟨a0, o0, b0, hH3, hR3, h0⟩
  subst hH3 hR3
  have hle0 : a0 ≤ xs.length := h0.len
  refine dD (by simp only [eF, List.foldl_cons, List.foldl_nil, List.set_cons_succ, List.set_cons_zero]; rfl) ?_
  apply aF; apply aA
  repeat' ((refine bJ rfl rfl ?_; ((refine bL cW (fun b => ?_))); refine aB ?_))
  apply aH; apply aD
  revert b
  intro bt
  refine kF ?_
  repeat' (first | (apply aF) | (apply aA) | (refine aE rfl rfl ?_; ((refine aG ?_)); refine aB ?_))
  refine gI rfl rfl (eG br A c xs hx) (fun _ => Nat.zero_le _) hle0 aX (fun x1 a1 b1 o1 h1 le1 hle1 ok1 => ?_)
  refine aB ?_
  repeat' (first | (apply aF) | (apply aA) | (apply aH) | (apply aD) | (apply bE; exact rfl; ((refine aN (i := 1) rfl cW rfl dT dB eK ?_)); refine aB ?_; refine cE ?_) | (refine aE rfl rfl ?_; ((first | refine aG ?_ | refine aC rfl ?_)); refine aB ?_))
  refine gI rfl rfl (eG br A c xs hx) (fun _ => Nat.zero_le _) hle1 aX (fun x2 a2 b2 o2 h2 le2 hle2 ok2 => ?_)
  refine aB ?_
  repeat' (first | (apply aF) | (apply aA) | (apply aH) | (apply aD) | (apply bE; exact rfl; ((refine aN (i := 1) rfl cW rfl dT dB eK ?_)); refine aB ?_; refine cE ?_) | (refine aE rfl rfl ?_; ((first | refine aG ?_ | refine aC rfl ?_)); refine aB ?_))
  refine gI rfl rfl (eG br A c xs hx) (fun _ => Nat.zero_le _) hle2 aX (fun x3 a3 b3 o3 h3 le3 hle3 ok3 => ?_)
  refine aB ?_
  repeat' (first | (apply aF) | (apply aA) | (apply aH) | (apply aD) | (apply bE; exact rfl; ((refine aN (i := 1) rfl cW rfl dT dB eK ?_)); refine aB ?_; refine cE ?_) | (refine aE rfl rfl ?_; ((first | refine aG ?_ | refine aC rfl ?_)); refine aB ?_))
  refine gI rfl rfl (eG br A c xs hx) (fun _ => Nat.zero_le _) hle3 aX (fun x4 a4 b4 o4 h4 lZ hle4 ok4 => ?_)
  refine aB ?_
  repeat' (first | (apply aF) | (apply aA) | (apply aH) | (apply aD) | (apply bE; exact rfl; ((refine aN (i := 1) rfl cW rfl dT dB eK ?_)); refine aB ?_; refine cE ?_) | (refine aE rfl rfl ?_; ((first | refine aG ?_ | refine aC rfl ?_)); refine aB ?_))
  refine gI rfl rfl (eG br A c xs hx) (fun _ => Nat.zero_le _) hle4 aX (fun x5 a5 b5 o5 h5 le5 hle5 ok5 => ?_)
  refine aB ?_
  repeat' (first | (apply aF) | (apply aA) | (apply aH) | (apply aD) | (apply bE; exact rfl; ((refine aN (i := 1) rfl cW rfl dT dB eK ?_)); refine aB ?_; refine cE ?_) | (refine aE rfl rfl ?_; ((first | refine aG ?_ | refine aC rfl ?_)); refine aB ?_))
  refine gI rfl rfl (eG br A c xs hx) (fun _ => Nat.zero_le _) hle5 aX (fun x6 a6 b6 o6 h6 le6 hle6 ok6 => ?_)
  refine aB ?_
  repeat' (first | (apply aF) | (apply aA) | (apply aH) | (apply aD) | (apply bE; exact rfl; ((refine aN (i := 1) rfl cW rfl dT dB eK ?_)); refine aB ?_; refine cE ?_) | (refine aE rfl rfl ?_; ((first | refine aG ?_ | refine aC rfl ?_)); refine aB ?_))
  refine wS rfl rfl (qM br A c xs hx) (fun _ => Nat.zero_le _) hle6 aX (fun x7 a7 b7 o7 h7 le7 hle7 ok7 => ?_)
  refine aB ?_
  repeat' (first | (apply aF) | (apply aA) | (apply aH) | (apply aD) | (apply bE; exact rfl; ((refine aN (i := 1) rfl cW rfl dT dB eK ?_)); refine aB ?_; refine cE ?_) | (refine aE rfl rfl ?_; ((first | refine aG ?_ | refine aC rfl ?_)); refine aB ?_))
  refine nI rfl rfl (lJ br A c xs hx) (fun _ => Nat.zero_le _) hle7 aX (fun x8 a8 b8 o8 A8 c8 h8 le8 hle8 ok8 => ?_)
  refine aB ?_
  repeat' (first | (apply aF) | (apply aA) | (apply aH) | (apply aD) | (apply bE; exact rfl; ((refine aN (i := 1) rfl cW rfl dT dB eK ?_)); refine aB ?_; refine cE ?_) | (refine aE rfl rfl ?_; ((first | refine aG ?_ | refine aC rfl ?_)); refine aB ?_))
  refine nI rfl rfl (lJ br A c xs hx) (fun _ => Nat.zero_le _) hle8 aX (fun x9 a9 b9 o9 A9 c9 h9 le9 hle9 ok9 => ?_)
  refine aB ?_
  repeat' (first | (apply aF) | (apply aA) | (apply aH) | (apply aD) | (apply aP; exact rfl; ((refine aL (i := 1) rfl rfl rfl ?_)); refine aB ?_) | (apply bE; exact rfl; ((refine aN (i := 1) rfl cW rfl dT dB eK ?_)); refine aB ?_; refine cE ?_) | (refine aE rfl rfl ?_; ((first | refine aG ?_ | refine aC rfl ?_)); refine aB ?_))
  refine dK rfl ?_
  refine aT fA ?_
  refine lists_f br A c xs hx x1 x2 x3 x4 x5 x6 x7 A8 x8.length c8 A9 x9.length c9 _ _ _ a9 b9 o9 hle9 aX (fun x10 x11 x12 x13 x14 x15 a15 b15 o15 A10 c10 A11 c11 A12 c12 A13 c13 A14 c14 A15 c15 hLL le15 hle15 okL => ?_)
  refine aB ?_
  obtain ⟨ok10, ok11, ok12, ok13, ok14, ok15⟩ := okL
  repeat' (first | (apply aF) | (apply aA) | (apply aH) | (apply aD) | (apply bE; exact rfl; ((refine aN (i := 1) rfl cW rfl dT dB eK ?_)); refine aB ?_; refine cE ?_) | (refine aE rfl rfl ?_; ((refine aG ?_)); refine aB ?_))
  refine gI rfl rfl (eG br A c xs hx) (fun _ => Nat.zero_le _) hle15 aX (fun x16 a16 b16 o16 h16 le16 hle16 ok16 => ?_)
  have hO : Out xs (cK (iT xs) (sT xs)) ⟨0, false, 0⟩ ((), x1, x2, x3, x4, x5, x6, x7, x8, x9, x10, x11, x12, x13, x14, x15, x16) ⟨a16, b16, o16⟩ := h0.pair (h1.pair (h2.pair (h3.pair (h4.pair (h5.pair (h6.pair (h7.pair (h8.pair (h9.pair (hLL _ _ _ h16))))))))))
  refine aB ?_
  cases b16 with
  | true =>
    repeat' (first | (apply aF) | (apply aH) | (apply aD) | (apply bE; exact rfl; ((refine aN (i := 1) rfl cW rfl dT dB eK ?_)); refine aB ?_; refine cE ?_) | (refine aE rfl rfl ?_; ((refine aC rfl ?_)); refine aB ?_))
    refine eC fK jN (fun _ _ _ _ _ _ h => h) (List.Sublist.refl _) ?_
    all_goals ((refine bG 0 ?_; ((refine aG ?_)); refine aI ?_))
    all_goals ((refine bG 1 ?_; ((refine bA rfl ?_)); refine aI ?_))
    all_goals ((refine bG 2 ?_; ((refine aC rfl ?_)); refine aI ?_))
    all_goals ((refine bG 3 ?_; ((refine aL (i := 0) rfl rfl rfl ?_)); refine aI ?_))
    all_goals ((refine bG 4 ?_; ((refine dJ rfl ?_)); refine aI ?_))
    all_goals ((refine bG 5 ?_; ((refine aG ?_)); refine aI ?_))
    all_goals ((refine dS 6 (List.Sublist.refl _) ?_))
    all_goals ((refine dS 7 (List.Sublist.refl _) ?_))
    all_goals ((refine dS 8 (List.Sublist.refl _) ?_))
    all_goals ((refine dS 9 (List.Sublist.refl _) ?_))
    all_goals ((refine dS 10 (List.Sublist.refl _) ?_))
    all_goals ((refine dS 11 (List.Sublist.refl _) ?_))
    all_goals ((refine dS 12 (List.Sublist.refl _) ?_))
    all_goals ((refine dS 13 (List.Sublist.refl _) ?_))
    all_goals ((refine dS 14 (List.Sublist.refl _) ?_))
    all_goals ((refine dS 15 (List.Sublist.refl _) ?_))
    all_goals ((refine bG 16 ?_; ((refine cH rfl eR ?_)); refine aI ?_))
    all_goals refine iC ?_
    repeat' (first | (apply aF) | (apply aA) | (apply bP) | (apply bF) | (apply aK; exact rfl) | (apply aJ; exact rfl) | (apply aH) | (apply aD) | (apply bN) | (apply aP; exact rfl; ((refine aL (i := 0) rfl rfl rfl ?_)); refine aB ?_) | (apply bE; exact rfl; ((refine aN (i := 2) rfl cW rfl dT dB eK ?_)); refine aB ?_; refine cE ?_) | (refine aE rfl rfl ?_; ((first | refine aG ?_ | refine bA rfl ?_ | refine aC rfl ?_ | refine dI gG ?_)); refine aB ?_))
    refine aZ (.inl rfl) (dP rfl (dC (i := 2) rfl rfl rfl)) (cA H (Unp.fs maZ yZ ++ R3) (fun w hs => (hs.weaken eB hP).maZ) ?_)
    exact tI (decR_er hx hO) k yZ pT
  | false =>
    have hdec := decR_ok hx hO
    repeat' (first | (apply aF) | (apply aH) | (apply aD) | (apply bE; exact rfl; ((refine aN (i := 1) rfl cW rfl dT dB eK ?_)); refine aB ?_; refine cE ?_) | (refine aE rfl rfl ?_; ((refine aC rfl ?_)); refine aB ?_))
    refine eC fK jN (fun _ _ _ _ _ _ h => h) (List.Sublist.refl _) ?_
    all_goals ((refine bG 0 ?_; ((refine aG ?_)); refine aI ?_))
    all_goals ((refine bG 1 ?_; ((refine bA rfl ?_)); refine aI ?_))
    all_goals ((refine bG 2 ?_; ((refine aC rfl ?_)); refine aI ?_))
    all_goals ((refine bG 3 ?_; ((refine aL (i := 0) rfl rfl rfl ?_)); refine aI ?_))
    all_goals ((refine bG 4 ?_; ((refine dJ rfl ?_)); refine aI ?_))
    all_goals ((refine bG 5 ?_; ((refine aG ?_)); refine aI ?_))
    all_goals ((refine bG 6 ?_; ((refine aG ?_)); refine aI ?_))
    all_goals ((refine bG 7 ?_; ((refine bA rfl ?_)); refine aI ?_))
    all_goals ((refine bG 8 ?_; ((refine aC rfl ?_)); refine aI ?_))
    all_goals ((refine bG 9 ?_; ((refine aL (i := 0) rfl rfl rfl ?_)); refine aI ?_))
    all_goals ((refine bG 10 ?_; ((refine aG ?_)); refine aI ?_))
    all_goals ((refine bG 11 ?_; ((refine bA rfl ?_)); refine aI ?_))
    all_goals ((refine bG 12 ?_; ((refine aC rfl ?_)); refine aI ?_))
    all_goals ((refine bG 13 ?_; ((refine aL (i := 0) rfl rfl rfl ?_)); refine aI ?_))
    all_goals ((refine bG 14 ?_; ((refine bS rfl ?_)); refine aI ?_))
    all_goals ((refine bG 15 ?_; ((refine bQ rfl rfl (fun h => ?_) (fun h => ?_))) <;> (refine aI ?_)))
    all_goals ((refine bG 16 ?_; ((refine bX rfl eR ?_)); refine aI ?_))
    all_goals refine iC ?_
    · skip
      repeat' (first | (refine dK rfl ?_; refine aT fA ?_; refine oD br _ _ _ _ _ a16 _ rfl ?_; refine aB ?_) | (apply aF) | (apply aA) | (apply bP) | (apply aK; exact rfl) | (apply aH) | (apply aD) | (apply bN) | (apply aP; exact rfl; ((refine aL (i := 0) rfl rfl rfl ?_)); refine aB ?_) | (apply bE; exact rfl; ((refine aN (i := 2) rfl cW rfl dT dB eK ?_)); refine aB ?_; refine cE ?_) | (refine aE rfl rfl ?_; ((first | refine aG ?_ | refine bA rfl ?_ | refine aC rfl ?_ | refine dI gG ?_)); refine aB ?_))
      refine aZ (.inl rfl) (dP rfl (dC (i := 2) rfl rfl rfl)) (cA H (Unp.fs maZ yZ ++ R3) (fun w hs => (hs.weaken eB hP).maZ) ?_)
      exact tI (hdec.trans (if_pos aO)) k yZ pT
    · skip
      repeat' (first | (refine aP rfl ?_; refine aL (i := 1) (v := .agg #[.int .i64 x1, .int .i64 x2, .int .i64 x3, .int .i64 x4, .int .i64 x5, .int .i64 x6, .bool x7, .slice A8 x8.length c8, .slice A9 x9.length c9, .slice A10 x10.length c10, .slice A11 x11.length c11, .slice A12 x12.length c12, .slice A13 x13.length c13, .slice A14 x14.length c14, .slice A15 x15.length c15, .int .i64 x16]) rfl rfl rfl ?_; refine aB ?_) | (apply aF) | (apply aA) | (apply bP) | (apply bF) | (apply aJ; exact rfl) | (apply aH) | (apply aD) | (apply aP; exact rfl; ((refine aL (i := 0) rfl rfl rfl ?_)); refine aB ?_) | (apply bE; exact rfl; ((refine aN (i := 2) rfl cW rfl dT dB eK ?_)); refine aB ?_; refine cE ?_) | (refine aE rfl rfl ?_; ((first | refine aG ?_ | refine bA rfl ?_ | refine aC rfl ?_ | refine dI gG ?_)); refine aB ?_))
      refine aZ (.inl rfl) (dP rfl (dC (i := 2) rfl rfl rfl)) (cA H (Sl (.slice A8 x8.length c8) x8 :: Sl (.slice A9 x9.length c9) x9 :: Sl (.slice A10 x10.length c10) x10 :: Sl (.slice A11 x11.length c11) x11 :: Sl (.slice A12 x12.length c12) x12 :: Sl (.slice A13 x13.length c13) x13 :: Sl (.slice A14 x14.length c14) x14 :: Sl (.slice A15 x15.length c15) x15 :: R3) dV ?_)
      exact tI (hdec.trans (if_neg aO)) k ((), (), (), (), (), (), (), (A8, c8), (A9, c9), (A10, c10), (A11, c11), (A12, c12), (A13, c13), (A14, c14), (A15, c15), ()) (show dO x1 ∧ dO x2 ∧ dO x3 ∧ dO x4 ∧ dO x5 ∧ dO x6 ∧ True ∧ (x8.length ≤ c8 ∧ c8 ≤ eO) ∧ (x9.length ≤ c9 ∧ c9 ≤ eO) ∧ (x10.length ≤ c10 ∧ c10 ≤ eO) ∧ (x11.length ≤ c11 ∧ c11 ≤ eO) ∧ (x12.length ≤ c12 ∧ c12 ≤ eO) ∧ (x13.length ≤ c13 ∧ c13 ≤ eO) ∧ (x14.length ≤ c14 ∧ c14 ≤ eO) ∧ (x15.length ≤ c15 ∧ c15 ≤ eO) ∧ dO x16 from ⟨ok1, ok2, ok3, ok4, ok5, ok6, ok7, ok8, ok9, ok10, ok11, ok12, ok13, ok14, ok15, ok16⟩)
end Go.Proofs.YtggdljhmbckpmaaGreat
