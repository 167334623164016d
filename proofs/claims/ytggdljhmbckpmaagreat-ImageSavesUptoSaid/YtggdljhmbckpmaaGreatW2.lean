/- Terms, types compared: walks. -/
import Derived.Test.YtggdljhmbckpmaaGreatW1
set_option linter.unusedVariables false
set_option linter.unusedSimpArgs false
namespace Go.Proofs.YtggdljhmbckpmaaGreat
open Go Go.RowKit
set_option maxRecDepth 100000
set_option maxHeartbeats 3200000

theorem equal_kn {w0 : World} : ∀ n : Nat, ∀ (H : List Hp) (R : List MP) (K : Value → List Hp → List MP → Prop) (j1 : Int) (k1 : Int) (m1 : ByteArray) (A1 : Option Addr) (c1 : Nat) (l1 : List Tm) (j2 : Int) (k2 : Int) (m2 : ByteArray) (A2 : Option Addr) (c2 : Nat) (l2 : List Tm), SizeOf.sizeOf (.mk j1 k1 m1 l1 : Tm) < n → Sl (.slice A1 l1.length c1) l1 ∈ R → Sl (.slice A2 l2.length c2) l2 ∈ R →
    (∀ r : Bool, ((.mk j1 k1 m1 l1 : Tm) = .mk j2 k2 m2 l2 → r = true) → K (.bool r) H R) → CallsK Tryz.prog w0 111 #[.agg #[.int .i64 j1, .int .i64 k1, .string m1, .slice A1 l1.length c1], .agg #[.int .i64 j2, .int .i64 k2, .string m2, .slice A2 l2.length c2]] H R K := by
  intro n
  induction n with
  | zero => exact fun H R K j1 k1 m1 A1 c1 l1 j2 k2 m2 A2 c2 l2 h => absurd h (Nat.not_lt_zero _)
  | succ n ih =>
  intro H R K j1 k1 m1 A1 c1 l1 j2 k2 m2 A2 c2 l2 hsz hml1 hml2 k
  refine eQ (p := l1.length ≤ 9223372036854775807) (fun w hs => by have := dN hs hml1; simp only [eO] at this; omega) (fun hbl1 => ?_)
  refine eQ (p := l2.length ≤ 9223372036854775807) (fun w hs => by have := dN hs hml2; simp only [eO] at this; omega) (fun hbl2 => ?_)
  refine bV Tryz.func111 rfl Tryz.ntmps111 fI ?_
  apply aF; apply aA
  repeat' (first | (refine aE rfl rfl ?_; ((refine aY ?_)); refine aB ?_) | (refine bJ rfl rfl ?_; ((refine dX cW (fun b => ?_))); refine aB ?_))
  rename_i b2
  revert b
  intro b3
  apply aH; apply aD
  repeat' (first | (apply aU; exact rfl; ((refine qQ rfl rfl (fun h => ?_) (fun h => ?_))) <;> refine aB ?_) | (apply aF) | (apply aA) | (apply aV) | (apply bP) | (apply bF) | (apply aK; exact rfl) | (apply aJ; exact rfl) | (apply aH) | (apply aD) | (apply bN) | (apply aP; exact rfl; ((first | refine aL (i := 0) rfl rfl rfl ?_ | refine aL (i := 1) rfl rfl rfl ?_)); refine aB ?_) | (apply aU; exact rfl; ((refine eD rfl rfl (fun h => ?_) (fun h => ?_))) <;> (refine aB ?_)) | (refine aE rfl rfl ?_; ((first | refine aG ?_ | refine aY ?_ | refine bX rfl eR ?_ | refine cH rfl eR ?_ | refine aC rfl ?_ | refine bS rfl ?_)); refine aB ?_) | (refine cX rfl ?_; refine aB ?_))
  all_goals try exact aZ (.inl rfl) (dP rfl (bR rfl)) (cA H R dV (k false (fun e => by cases e; exact absurd rfl (by assumption))))
  have hll : l1.length = l2.length := by omega
  refine cM [4, 5, 34, 35, 36, 37, 38, 39, 40, 41, 42, 43, 44, 45, 46, 47, 48, 49, 50, 51, 52] (fun m j H' R' => H' = .blk b3 [.int .i64 j2, .int .i64 k2, .string m2, .slice A2 l2.length c2] 160 :: .blk b2 [.int .i64 j1, .int .i64 k1, .string m1, .slice A1 l1.length c1] 160 :: H ∧ (∀ p ∈ R, p ∈ R') ∧ ∃ i : Nat, i + m = l1.length ∧ j 5 = .int .i64 (i : Int)) l1.length eS ⟨rfl, fun _ h => h, 0, by omega, rfl⟩ ?_
  rintro m j H' R' ⟨hH, hR, i, hi, h5⟩
  subst hH
  have hn1 := hR _ hml1
  have hn2 := hR _ hml2
  refine dD (by simp only [eF, List.foldl_cons, List.foldl_nil, List.set_cons_succ, List.set_cons_zero, h5]; rfl) ?_
  rcases Nat.lt_or_ge i l1.length with hlt | hge
  · obtain ⟨x, hx⟩ : ∃ x, l1[i]? = some x := ⟨_, List.getElem?_eq_getElem hlt⟩
    obtain ⟨y, hy⟩ : ∃ y, l2[i]? = some y := ⟨_, List.getElem?_eq_getElem aO⟩
    have hE : (.mk j1 k1 m1 l1 : Tm) = .mk j2 k2 m2 l2 → x = y := fun e => by
      cases e
      rw [hx] at hy
      injection hy
    have hlx : SizeOf.sizeOf x < n := by
      have h1 := List.sizeOf_lt_of_mem (List.mem_of_getElem? hx)
      simp only [Tm.mk.sizeOf_spec] at hsz
      omega
    obtain ⟨xj, xk, xm, xl⟩ := x
    obtain ⟨yj, yk, ym, yl⟩ := y
    repeat' (first | (apply aF) | (apply aA) | (apply aV) | (apply bF) | (apply aK; exact rfl) | (apply aH) | (apply aD) | (apply aP; exact rfl; ((refine aL (i := 1) rfl rfl rfl ?_)); refine aB ?_) | (apply aU; exact rfl; ((refine bQ rfl rfl (fun h => ?_) (fun h => ?_))) <;> (first | (exfalso; omega) | refine aB ?_)) | (refine aE rfl rfl ?_; ((first | refine aG ?_ | refine aC rfl ?_ | refine bS rfl ?_)); refine aB ?_))
    refine eC fK jN (fun _ _ _ _ _ _ h => h) (List.Sublist.refl _) ?_
    all_goals ((refine bG 0 ?_; ((refine aC rfl ?_)); refine aI ?_))
    all_goals ((refine bG 1 ?_; ((refine aL (i := 1) rfl rfl rfl ?_)); refine aI ?_))
    all_goals ((refine bG 2 ?_; ((refine aG ?_)); refine aI ?_))
    all_goals ((refine bG 3 ?_; ((refine lI (v := .slice A1 l1.length c1) (xs := l1) rfl rfl aX hx rfl (fun b o A0_ c0_ => ?_))); refine aI ?_))
    all_goals ((refine bG 4 ?_; ((refine bD rfl cL rfl ?_)); refine aI ?_))
    all_goals ((refine bG 5 ?_; ((refine aC rfl ?_)); refine aI ?_))
    all_goals ((refine bG 6 ?_; ((refine aL (i := 0) rfl rfl rfl ?_)); refine aI ?_))
    all_goals ((refine bG 7 ?_; ((refine aG ?_)); refine aI ?_))
    all_goals ((refine bG 8 ?_; ((refine lI (v := .slice A2 l2.length c2) (xs := l2) rfl rfl aX hy rfl (fun b o A0_ c0_ => ?_))); refine aI ?_))
    all_goals ((refine bG 9 ?_; ((refine bD rfl cL rfl ?_)); refine aI ?_))
    -- left: [10, 11]; ready: [10]: ['call']
    refine gE 10 ?_
    refine aT rfl ?_
    refine ih _ _ _ xj xk xm _ _ xl yj yk ym _ _ yl hlx aX aX (fun r hr => ?_)
    refine ⟨.inl (fun w hs => hs), ?_⟩
    refine aI ?_
    cases r
    all_goals ((refine bG 11 ?_; ((refine dJ rfl ?_)); refine aI ?_))
    all_goals refine iC ?_
    · skip
      repeat' (first | (apply aF) | (apply aA) | (apply bP) | (apply aK; exact rfl) | (apply aH) | (apply aD) | (apply bN) | (apply dQ) | (refine aE rfl rfl ?_; ((refine aY ?_)); refine aB ?_))
      exact aZ (.inl rfl) (dP rfl (bR rfl)) (cA H R (fun w hs => hs.weaken eB (fun p hp => by (exact List.mem_cons_of_mem _ (List.mem_cons_of_mem _ (List.mem_cons_of_mem _ (List.mem_cons_of_mem _ (hR p hp))))))) (k false (fun e => hr (hE e))))
    · skip
      repeat' (first | (apply aA) | (apply bF) | (apply aJ; exact rfl) | (apply aH) | (apply aD) | (apply bU) | (apply aU; exact rfl; ((refine bM rfl rfl aO aO ?_)); refine aB ?_) | (refine aE rfl rfl ?_; ((first | refine aG ?_ | refine aY ?_)); refine aB ?_))
      exact cJ (m - 1) _ R aO eS ⟨rfl, fun _ h => h, i + 1, by omega, rfl⟩ (fun w hs => hs.weaken eB (fun p hp => by (exact List.mem_cons_of_mem _ (List.mem_cons_of_mem _ (List.mem_cons_of_mem _ (List.mem_cons_of_mem _ (hR p hp)))))))
  · skip
    repeat' (first | (apply aF) | (apply aA) | (apply bP) | (apply cG) | (apply aJ; exact rfl) | (apply aH) | (apply aD) | (apply aW) | (apply aS) | (apply aP; exact rfl; ((refine aL (i := 1) rfl rfl rfl ?_)); refine aB ?_) | (apply aU; exact rfl; ((refine bQ rfl rfl (fun h => ?_) (fun h => ?_))) <;> (first | (exfalso; omega) | refine aB ?_)) | (refine aE rfl rfl ?_; ((first | refine aG ?_ | refine aY ?_ | refine aC rfl ?_ | refine bS rfl ?_)); refine aB ?_))
    exact aZ (.inl rfl) (dP rfl (bR rfl)) (cA H R (fun w hs => hs.weaken eB hR) (k true (fun _ => rfl)))
theorem f0 {w0 : World} {H : List Hp} {R : List MP} {K : Value → List Hp → List MP → Prop} (j1 k1 : Int) (m1 : ByteArray) (A1 : Option Addr) (c1 : Nat) (l1 : List Tm) (j2 k2 : Int) (m2 : ByteArray) (A2 : Option Addr) (c2 : Nat) (l2 : List Tm) (h1 : Sl (.slice A1 l1.length c1) l1 ∈ R) (h2 : Sl (.slice A2 l2.length c2) l2 ∈ R)
    (k : ∀ r : Bool, ((.mk j1 k1 m1 l1 : Tm) = .mk j2 k2 m2 l2 → r = true) → K (.bool r) H R) : CallsK Tryz.prog w0 111 #[.agg #[.int .i64 j1, .int .i64 k1, .string m1, .slice A1 l1.length c1], .agg #[.int .i64 j2, .int .i64 k2, .string m2, .slice A2 l2.length c2]] H R K :=
  equal_kn _ H R K j1 k1 m1 A1 c1 l1 j2 k2 m2 A2 c2 l2 (Nat.lt_succ_self _) h1 h2 k
theorem wI {w0 : World} : ∀ n : Nat, ∀ (H : List Hp) (R : List MP) (K : Value → List Hp → List MP → Prop) (m1 : ByteArray) (A1 : Option Addr) (c1 : Nat) (l1 : List Tp) (m2 : ByteArray) (A2 : Option Addr) (c2 : Nat) (l2 : List Tp), SizeOf.sizeOf (.mk m1 l1 : Tp) < n → Sl (.slice A1 l1.length c1) l1 ∈ R → Sl (.slice A2 l2.length c2) l2 ∈ R →
    (∀ r : Bool, ((.mk m1 l1 : Tp) = .mk m2 l2 → r = true) → K (.bool r) H R) → CallsK Tryz.prog w0 147 #[.agg #[.string m1, .slice A1 l1.length c1], .agg #[.string m2, .slice A2 l2.length c2]] H R K := by
  intro n
  induction n with
  | zero => exact fun H R K m1 A1 c1 l1 m2 A2 c2 l2 h => absurd h (Nat.not_lt_zero _)
  | succ n ih =>
  intro H R K m1 A1 c1 l1 m2 A2 c2 l2 hsz hml1 hml2 k
  refine eQ (p := l1.length ≤ 9223372036854775807) (fun w hs => by have := dN hs hml1; simp only [eO] at this; omega) (fun hbl1 => ?_)
  refine eQ (p := l2.length ≤ 9223372036854775807) (fun w hs => by have := dN hs hml2; simp only [eO] at this; omega) (fun hbl2 => ?_)
  refine bV Tryz.func147 rfl Tryz.ntmps147 fI ?_
  apply aF; apply aA
  repeat' (first | (refine aE rfl rfl ?_; ((refine aY ?_)); refine aB ?_) | (refine bJ rfl rfl ?_; ((refine dX cW (fun b => ?_))); refine aB ?_))
  rename_i b2
  revert b
  intro b3
  apply aH; apply aD
  repeat' (first | (apply aU; exact rfl; ((refine qQ rfl rfl (fun h => ?_) (fun h => ?_))) <;> refine aB ?_) | (apply aF) | (apply aA) | (apply aV) | (apply bP) | (apply bF) | (apply aK; exact rfl) | (apply aJ; exact rfl) | (apply aH) | (apply aD) | (apply bN) | (apply aP; exact rfl; ((first | refine aL (i := 0) rfl rfl rfl ?_ | refine aL (i := 1) rfl rfl rfl ?_)); refine aB ?_) | (apply aU; exact rfl; ((refine eD rfl rfl (fun h => ?_) (fun h => ?_))) <;> (refine aB ?_)) | (refine aE rfl rfl ?_; ((first | refine aG ?_ | refine aY ?_ | refine bX rfl eR ?_ | refine cH rfl eR ?_ | refine aC rfl ?_ | refine bS rfl ?_)); refine aB ?_) | (refine cX rfl ?_; refine aB ?_))
  all_goals try exact aZ (.inl rfl) (dP rfl (bR rfl)) (cA H R dV (k false (fun e => by cases e; exact absurd rfl (by assumption))))
  have hll : l1.length = l2.length := by omega
  refine cM [4, 5, 20, 21, 22, 23, 24, 25, 26, 27, 28, 29, 30, 31, 32, 33, 34, 35, 36, 37, 38] (fun m j H' R' => H' = .blk b3 [.string m2, .slice A2 l2.length c2] 158 :: .blk b2 [.string m1, .slice A1 l1.length c1] 158 :: H ∧ (∀ p ∈ R, p ∈ R') ∧ ∃ i : Nat, i + m = l1.length ∧ j 5 = .int .i64 (i : Int)) l1.length eS ⟨rfl, fun _ h => h, 0, by omega, rfl⟩ ?_
  rintro m j H' R' ⟨hH, hR, i, hi, h5⟩
  subst hH
  have hn1 := hR _ hml1
  have hn2 := hR _ hml2
  refine dD (by simp only [eF, List.foldl_cons, List.foldl_nil, List.set_cons_succ, List.set_cons_zero, h5]; rfl) ?_
  rcases Nat.lt_or_ge i l1.length with hlt | hge
  · obtain ⟨x, hx⟩ : ∃ x, l1[i]? = some x := ⟨_, List.getElem?_eq_getElem hlt⟩
    obtain ⟨y, hy⟩ : ∃ y, l2[i]? = some y := ⟨_, List.getElem?_eq_getElem aO⟩
    have hE : (.mk m1 l1 : Tp) = .mk m2 l2 → x = y := fun e => by
      cases e
      rw [hx] at hy
      injection hy
    have hlx : SizeOf.sizeOf x < n := by
      have h1 := List.sizeOf_lt_of_mem (List.mem_of_getElem? hx)
      simp only [Tp.mk.sizeOf_spec] at hsz
      omega
    obtain ⟨xm, xl⟩ := x
    obtain ⟨ym, yl⟩ := y
    repeat' (first | (apply aF) | (apply aA) | (apply aV) | (apply bF) | (apply aK; exact rfl) | (apply aH) | (apply aD) | (apply aP; exact rfl; ((refine aL (i := 1) rfl rfl rfl ?_)); refine aB ?_) | (apply aU; exact rfl; ((refine bQ rfl rfl (fun h => ?_) (fun h => ?_))) <;> (first | (exfalso; omega) | refine aB ?_)) | (refine aE rfl rfl ?_; ((first | refine aG ?_ | refine aC rfl ?_ | refine bS rfl ?_)); refine aB ?_))
    refine eC fK jN (fun _ _ _ _ _ _ h => h) (List.Sublist.refl _) ?_
    all_goals ((refine bG 0 ?_; ((refine aC rfl ?_)); refine aI ?_))
    all_goals ((refine bG 1 ?_; ((refine aL (i := 1) rfl rfl rfl ?_)); refine aI ?_))
    all_goals ((refine bG 2 ?_; ((refine aG ?_)); refine aI ?_))
    all_goals ((refine bG 3 ?_; ((refine qW (v := .slice A1 l1.length c1) (xs := l1) rfl rfl aX hx rfl (fun b o A0_ c0_ => ?_))); refine aI ?_))
    all_goals ((refine bG 4 ?_; ((refine bD rfl cL rfl ?_)); refine aI ?_))
    all_goals ((refine bG 5 ?_; ((refine aC rfl ?_)); refine aI ?_))
    all_goals ((refine bG 6 ?_; ((refine aL (i := 0) rfl rfl rfl ?_)); refine aI ?_))
    all_goals ((refine bG 7 ?_; ((refine aG ?_)); refine aI ?_))
    all_goals ((refine bG 8 ?_; ((refine qW (v := .slice A2 l2.length c2) (xs := l2) rfl rfl aX hy rfl (fun b o A0_ c0_ => ?_))); refine aI ?_))
    all_goals ((refine bG 9 ?_; ((refine bD rfl cL rfl ?_)); refine aI ?_))
    -- left: [10, 11]; ready: [10]: ['call']
    refine gE 10 ?_
    refine aT rfl ?_
    refine ih _ _ _ xm _ _ xl ym _ _ yl hlx aX aX (fun r hr => ?_)
    refine ⟨.inl (fun w hs => hs), ?_⟩
    refine aI ?_
    cases r
    all_goals ((refine bG 11 ?_; ((refine dJ rfl ?_)); refine aI ?_))
    all_goals refine iC ?_
    · skip
      repeat' (first | (apply aF) | (apply aA) | (apply bP) | (apply aK; exact rfl) | (apply aH) | (apply aD) | (apply bN) | (apply dQ) | (refine aE rfl rfl ?_; ((refine aY ?_)); refine aB ?_))
      exact aZ (.inl rfl) (dP rfl (bR rfl)) (cA H R (fun w hs => hs.weaken eB (fun p hp => by (exact List.mem_cons_of_mem _ (List.mem_cons_of_mem _ (List.mem_cons_of_mem _ (List.mem_cons_of_mem _ (hR p hp))))))) (k false (fun e => hr (hE e))))
    · skip
      repeat' (first | (apply aA) | (apply bF) | (apply aJ; exact rfl) | (apply aH) | (apply aD) | (apply bU) | (apply aU; exact rfl; ((refine bM rfl rfl aO aO ?_)); refine aB ?_) | (refine aE rfl rfl ?_; ((first | refine aG ?_ | refine aY ?_)); refine aB ?_))
      exact cJ (m - 1) _ R aO eS ⟨rfl, fun _ h => h, i + 1, by omega, rfl⟩ (fun w hs => hs.weaken eB (fun p hp => by (exact List.mem_cons_of_mem _ (List.mem_cons_of_mem _ (List.mem_cons_of_mem _ (List.mem_cons_of_mem _ (hR p hp)))))))
  · skip
    repeat' (first | (apply aF) | (apply aA) | (apply bP) | (apply cG) | (apply aJ; exact rfl) | (apply aH) | (apply aD) | (apply aW) | (apply aS) | (apply aP; exact rfl; ((refine aL (i := 1) rfl rfl rfl ?_)); refine aB ?_) | (apply aU; exact rfl; ((refine bQ rfl rfl (fun h => ?_) (fun h => ?_))) <;> (first | (exfalso; omega) | refine aB ?_)) | (refine aE rfl rfl ?_; ((first | refine aG ?_ | refine aY ?_ | refine aC rfl ?_ | refine bS rfl ?_)); refine aB ?_))
    exact aZ (.inl rfl) (dP rfl (bR rfl)) (cA H R (fun w hs => hs.weaken eB hR) (k true (fun _ => rfl)))
theorem zH {w0 : World} {H : List Hp} {R : List MP} {K : Value → List Hp → List MP → Prop} (m1 : ByteArray) (A1 : Option Addr) (c1 : Nat) (l1 : List Tp) (m2 : ByteArray) (A2 : Option Addr) (c2 : Nat) (l2 : List Tp) (h1 : Sl (.slice A1 l1.length c1) l1 ∈ R) (h2 : Sl (.slice A2 l2.length c2) l2 ∈ R)
    (k : ∀ r : Bool, ((.mk m1 l1 : Tp) = .mk m2 l2 → r = true) → K (.bool r) H R) : CallsK Tryz.prog w0 147 #[.agg #[.string m1, .slice A1 l1.length c1], .agg #[.string m2, .slice A2 l2.length c2]] H R K :=
  wI _ H R K m1 A1 c1 l1 m2 A2 c2 l2 (Nat.lt_succ_self _) h1 h2 k
theorem pS {w0 : World} {H : List Hp} {R : List MP} {K : Value → List Hp → List MP → Prop} (A1 : Option Addr) (c1 : Nat) (A2 : Option Addr) (c2 : Nat) (l1 l2 : List Tm) (hml1 : Sl (.slice A1 l1.length c1) l1 ∈ R) (hml2 : Sl (.slice A2 l2.length c2) l2 ∈ R)
    (k : ∀ r : Bool, (l1 = l2 → r = true) → K (.bool r) H R) : CallsK Tryz.prog w0 52 #[.slice A1 l1.length c1, .slice A2 l2.length c2] H R K := by
  refine eQ (p := l1.length ≤ 9223372036854775807) (fun w hs => by have := dN hs hml1; simp only [eO] at this; omega) (fun hbl1 => ?_)
  refine eQ (p := l2.length ≤ 9223372036854775807) (fun w hs => by have := dN hs hml2; simp only [eO] at this; omega) (fun hbl2 => ?_)
  refine bV Tryz.func52 rfl Tryz.ntmps52 fI ?_
  repeat' (first | (apply aF) | (apply aA) | (apply aV) | (apply bP) | (apply bF) | (apply aK; exact rfl) | (apply aJ; exact rfl) | (apply aH) | (apply aD) | (apply bN) | (apply aU; exact rfl; ((refine eD rfl rfl (fun h => ?_) (fun h => ?_))) <;> (refine aB ?_)) | (refine aE rfl rfl ?_; ((first | refine aG ?_ | refine aY ?_ | refine bS rfl ?_)); refine aB ?_))
  · exact aZ (.inl rfl) (dP rfl (bR rfl)) (cA H R dV (k false (fun e => by subst e; exact absurd rfl (by assumption))))
  have hll : l1.length = l2.length := by omega
  refine cM [4, 5, 11, 12, 13, 14, 15, 16, 17, 18, 19, 20, 21, 22, 23, 24, 25, 26] (fun m j H' R' => H' = H ∧ (∀ p ∈ R, p ∈ R') ∧ ∃ i : Nat, i + m = l1.length ∧ j 5 = .int .i64 (i : Int)) l1.length eS ⟨rfl, fun _ h => h, 0, by omega, rfl⟩ ?_
  rintro m j H' R' ⟨hH, hR, i, hi, h5⟩
  subst hH
  have hn1 := hR _ hml1
  have hn2 := hR _ hml2
  refine dD (by simp only [eF, List.foldl_cons, List.foldl_nil, List.set_cons_succ, List.set_cons_zero, h5]; rfl) ?_
  rcases Nat.lt_or_ge i l1.length with hlt | hge
  · obtain ⟨x, hx⟩ : ∃ x, l1[i]? = some x := ⟨_, List.getElem?_eq_getElem hlt⟩
    obtain ⟨y, hy⟩ : ∃ y, l2[i]? = some y := ⟨_, List.getElem?_eq_getElem aO⟩
    have hE : l1 = l2 → x = y := fun e => by
      subst e
      rw [hx] at hy
      injection hy
    repeat' (first | (apply aF) | (apply aA) | (apply aV) | (apply bF) | (apply aK; exact rfl) | (apply aH) | (apply aD) | (apply aU; exact rfl; ((refine bQ rfl rfl (fun h => ?_) (fun h => ?_))) <;> (first | (exfalso; omega) | refine aB ?_)) | (refine aE rfl rfl ?_; ((first | refine aG ?_ | refine bS rfl ?_)); refine aB ?_))
    obtain ⟨xj, xk, xm, xl⟩ := x
    obtain ⟨yj, yk, ym, yl⟩ := y
    refine eC fK jN (fun _ _ _ _ _ _ h => h) (List.Sublist.refl _) ?_
    all_goals ((refine bG 0 ?_; ((refine aG ?_)); refine aI ?_))
    all_goals ((refine bG 1 ?_; ((refine aG ?_)); refine aI ?_))
    all_goals ((refine bG 2 ?_; ((refine lI (v := .slice A1 l1.length c1) (xs := l1) rfl rfl aX hx rfl (fun b o A0_ c0_ => ?_))); refine aI ?_))
    all_goals ((refine bG 3 ?_; ((refine bD rfl cL rfl ?_)); refine aI ?_))
    all_goals ((refine bG 4 ?_; ((refine aG ?_)); refine aI ?_))
    all_goals ((refine bG 5 ?_; ((refine aG ?_)); refine aI ?_))
    all_goals ((refine bG 6 ?_; ((refine lI (v := .slice A2 l2.length c2) (xs := l2) rfl rfl aX hy rfl (fun b o A0_ c0_ => ?_))); refine aI ?_))
    all_goals ((refine bG 7 ?_; ((refine bD rfl cL rfl ?_)); refine aI ?_))
    -- left: [8, 9]; ready: [8]: ['call']
    refine gE 8 ?_
    refine aT rfl ?_
    refine f0 xj xk xm _ _ xl yj yk ym _ _ yl aX aX (fun r hr => ?_)
    refine ⟨.inl (fun w hs => hs), ?_⟩
    refine aI ?_
    cases r
    all_goals ((refine bG 9 ?_; ((refine dJ rfl ?_)); refine aI ?_))
    all_goals refine iC ?_
    · skip
      repeat' (first | (apply aF) | (apply aA) | (apply bP) | (apply aK; exact rfl) | (apply aH) | (apply aD) | (apply bN) | (apply dQ) | (refine aE rfl rfl ?_; ((refine aY ?_)); refine aB ?_))
      exact aZ (.inl rfl) (dP rfl (bR rfl)) (cA H' R (fun w hs => hs.weaken eB (fun p hp => by (exact List.mem_cons_of_mem _ (List.mem_cons_of_mem _ (List.mem_cons_of_mem _ (List.mem_cons_of_mem _ (hR p hp))))))) (k false (fun e => hr (hE e))))
    · skip
      repeat' (first | (apply aA) | (apply bF) | (apply aJ; exact rfl) | (apply aH) | (apply aD) | (apply bU) | (apply aU; exact rfl; ((refine bM rfl rfl aO aO ?_)); refine aB ?_) | (refine aE rfl rfl ?_; ((first | refine aG ?_ | refine aY ?_)); refine aB ?_))
      exact cJ (m - 1) _ R aO eS ⟨rfl, fun _ h => h, i + 1, by omega, rfl⟩ (fun w hs => hs.weaken eB (fun p hp => by (exact List.mem_cons_of_mem _ (List.mem_cons_of_mem _ (List.mem_cons_of_mem _ (List.mem_cons_of_mem _ (hR p hp)))))))
  · skip
    repeat' (first | (apply aF) | (apply aA) | (apply bP) | (apply cG) | (apply aJ; exact rfl) | (apply aH) | (apply aD) | (apply aW) | (apply aS) | (apply aU; exact rfl; ((refine bQ rfl rfl (fun h => ?_) (fun h => ?_))) <;> (first | (exfalso; omega) | refine aB ?_)) | (refine aE rfl rfl ?_; ((first | refine aG ?_ | refine aY ?_ | refine bS rfl ?_)); refine aB ?_))
    exact aZ (.inl rfl) (dP rfl (bR rfl)) (cA H' R (fun w hs => hs.weaken eB hR) (k true (fun _ => rfl)))
theorem uU {w0 : World} {H : List Hp} {R : List MP} {K : Value → List Hp → List MP → Prop} (nx0 : Int) (mx1 : ByteArray) (Ax1 : Option Addr) (cx1 : Nat) (nx1 : List Tp) (nx2 : Bool) (jx3 kx3 : Int) (mx3 : ByteArray) (Ax3 : Option Addr) (cx3 : Nat) (nx3 : List Tm) (ny0 : Int) (my1 : ByteArray) (Ay1 : Option Addr) (cy1 : Nat) (ny1 : List Tp) (ny2 : Bool) (jy3 ky3 : Int) (my3 : ByteArray) (Ay3 : Option Addr) (cy3 : Nat) (ny3 : List Tm) (hx0 : Sl (.slice Ax1 nx1.length cx1) nx1 ∈ R) (hx1 : Sl (.slice Ax3 nx3.length cx3) nx3 ∈ R) (hy0 : Sl (.slice Ay1 ny1.length cy1) ny1 ∈ R) (hy1 : Sl (.slice Ay3 ny3.length cy3) ny3 ∈ R)
    (k : ∀ r : Bool, (((nx0, .mk mx1 nx1, nx2, .mk jx3 kx3 mx3 nx3) : mU) = ((ny0, .mk my1 ny1, ny2, .mk jy3 ky3 my3 ny3) : mU) → r = true) → K (.bool r) H R) : CallsK Tryz.prog w0 109 #[.agg #[.int .i64 nx0, .string mx1, .slice Ax1 nx1.length cx1, .bool nx2, .int .i64 jx3, .int .i64 kx3, .string mx3, .slice Ax3 nx3.length cx3], .agg #[.int .i64 ny0, .string my1, .slice Ay1 ny1.length cy1, .bool ny2, .int .i64 jy3, .int .i64 ky3, .string my3, .slice Ay3 ny3.length cy3]] H R K := by
  refine bV Tryz.func109 rfl Tryz.ntmps109 fI ?_
  repeat' (first | (apply aU; exact rfl; ((refine vL rfl rfl (fun h => ?_) (fun h => ?_))) <;> refine aB ?_) | (refine dK rfl ?_; refine aT rfl ?_; refine zH _ _ _ _ _ _ _ _ aX aX (fun r hr => ?_); cases r <;> refine aB ?_) | (refine dK rfl ?_; refine aT rfl ?_; refine f0 _ _ _ _ _ _ _ _ _ _ _ _ aX aX (fun r hr => ?_); cases r <;> refine aB ?_) | (apply aF) | (apply aA) | (apply bP) | (apply aH) | (apply aD) | (apply aP; exact rfl; ((first | refine aL (i := 0) rfl rfl rfl ?_ | refine aL (i := 1) rfl rfl rfl ?_)); refine aB ?_) | (apply aU; exact rfl; ((refine fZ rfl rfl (fun h => ?_) (fun h => ?_))) <;> (refine aB ?_)) | (refine aE rfl rfl ?_; ((first | refine aG ?_ | refine aY ?_ | refine bX rfl eR ?_ | refine cH rfl eR ?_ | refine aC rfl ?_)); refine aB ?_) | (refine cX rfl ?_; refine aB ?_) | (refine bJ rfl rfl ?_; ((refine dX cW (fun b => ?_))); refine aB ?_))
  all_goals (first | exact aZ (.inl rfl) (dP rfl (bR rfl)) (cA H R dV (k true (fun _ => rfl))) | exact aZ (.inl rfl) (dP rfl (bR rfl)) (cA H R dV (k false (fun e => by (first | exact absurd (hr (by cases e; rfl)) cQ | (cases e; exact absurd rfl (by assumption)))))))
end Go.Proofs.YtggdljhmbckpmaaGreat
