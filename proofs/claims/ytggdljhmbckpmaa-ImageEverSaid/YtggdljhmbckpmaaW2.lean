/- Terms, types compared: walks. -/
import Derived.Test.YtggdljhmbckpmaaW1
set_option linter.unusedVariables false
set_option linter.unusedSimpArgs false
namespace Go.Proofs.Ytggdljhmbckpmaa
open Go Go.RowKit
set_option maxRecDepth 100000
set_option maxHeartbeats 3200000

theorem equal_kn {w0 : World} : ∀ n : Nat, ∀ (H : List Hp) (R : List MP) (K : Value → List Hp → List MP → Prop) (j1 : Int) (k1 : Int) (m1 : ByteArray) (A1 : Option Addr) (c1 : Nat) (l1 : List Tm) (j2 : Int) (k2 : Int) (m2 : ByteArray) (A2 : Option Addr) (c2 : Nat) (l2 : List Tm), SizeOf.sizeOf (.mk j1 k1 m1 l1 : Tm) < n → Sl (.slice A1 l1.length c1) l1 ∈ R → Sl (.slice A2 l2.length c2) l2 ∈ R →
    (∀ r : Bool, ((.mk j1 k1 m1 l1 : Tm) = .mk j2 k2 m2 l2 → r = true) → K (.bool r) H R) → CallsK Try.prog w0 98 #[.agg #[.int .i64 j1, .int .i64 k1, .string m1, .slice A1 l1.length c1], .agg #[.int .i64 j2, .int .i64 k2, .string m2, .slice A2 l2.length c2]] H R K := by
  intro n
  induction n with
  | zero => exact fun H R K j1 k1 m1 A1 c1 l1 j2 k2 m2 A2 c2 l2 h => absurd h (Nat.not_lt_zero _)
  | succ n ih =>
  intro H R K j1 k1 m1 A1 c1 l1 j2 k2 m2 A2 c2 l2 hsz hml1 hml2 k
  refine CallsK_fact (p := l1.length ≤ 9223372036854775807) (fun w hs => by have := Sl_bound hs hml1; simp only [maxL] at this; omega) (fun hbl1 => ?_)
  refine CallsK_fact (p := l2.length ≤ 9223372036854775807) (fun w hs => by have := Sl_bound hs hml2; simp only [maxL] at this; omega) (fun hbl2 => ?_)
  refine calls_of Try.func98 rfl Try.ntmps98 nep ?_
  apply TC_seq; apply TC_region
  repeat' (first | (refine T_pure rfl rfl ?_; ((refine pw_as ?_)); refine T_nv ?_) | (refine T_gen rfl rfl ?_; ((refine gw_box clp (fun b => ?_))); refine T_nv ?_))
  rename_i b2
  revert b
  intro b3
  apply T_nil; apply En_then
  repeat' (first | (apply T_bin; exact rfl; ((refine pw_neqB rfl rfl (fun h => ?_) (fun h => ?_))) <;> refine T_nv ?_) | (apply TC_seq) | (apply TC_region) | (apply TC_block) | (apply TC_ret) | (apply TC_skip) | (apply TC_cond_true; exact rfl) | (apply TC_cond_false; exact rfl) | (apply T_nil) | (apply En_then) | (apply En_then_ret) | (apply T_load; exact rfl; ((first | refine pw_load (i := 0) rfl rfl rfl ?_ | refine pw_load (i := 1) rfl rfl rfl ?_)); refine T_nv ?_) | (apply T_bin; exact rfl; ((refine pw_neq rfl rfl (fun h => ?_) (fun h => ?_))) <;> (refine T_nv ?_)) | (refine T_pure rfl rfl ?_; ((first | refine pw_mv ?_ | refine pw_as ?_ | refine pw_pick_t rfl evp ?_ | refine pw_pick_f rfl evp ?_ | refine pw_fieldAddr rfl ?_ | refine pw_len rfl ?_)); refine T_nv ?_) | (refine T_skipped rfl ?_; refine T_nv ?_))
  all_goals try exact En_fin (.inl rfl) (res1 rfl (rv_tmp rfl)) (fin_K H R (fun w hs => hs.weaken sbp kpp) (k false (fun e => by cases e; exact absurd rfl (by assumption))))
  have hll : l1.length = l2.length := by omega
  refine TC_loopS [4, 5, 34, 35, 36, 37, 38, 39, 40, 41, 42, 43, 44, 45, 46, 47, 48, 49, 50, 51, 52] (fun m j H' R' => H' = .blk b3 [.int .i64 j2, .int .i64 k2, .string m2, .slice A2 l2.length c2] 157 :: .blk b2 [.int .i64 j1, .int .i64 k1, .string m1, .slice A1 l1.length c1] 157 :: H ∧ (∀ p ∈ R, p ∈ R') ∧ ∃ i : Nat, i + m = l1.length ∧ j 5 = .int .i64 (i : Int)) l1.length sjp ⟨rfl, fun _ h => h, 0, by omega, rfl⟩ ?_
  rintro m j H' R' ⟨hH, hR, i, hi, h5⟩
  subst hH
  have hn1 := hR _ hml1
  have hn2 := hR _ hml2
  refine TC_env (by simp only [setJ, List.foldl_cons, List.foldl_nil, List.set_cons_succ, List.set_cons_zero, h5]; rfl) ?_
  rcases Nat.lt_or_ge i l1.length with hlt | hge
  · obtain ⟨x, hx⟩ : ∃ x, l1[i]? = some x := ⟨_, List.getElem?_eq_getElem hlt⟩
    obtain ⟨y, hy⟩ : ∃ y, l2[i]? = some y := ⟨_, List.getElem?_eq_getElem (by omega)⟩
    have hE : (.mk j1 k1 m1 l1 : Tm) = .mk j2 k2 m2 l2 → x = y := fun e => by
      cases e
      rw [hx] at hy
      injection hy
    have hlx : SizeOf.sizeOf x < n := by
      have h1 := List.sizeOf_lt_of_mem (List.mem_of_getElem? hx)
      simp only [Tm.mk.sizeOf_spec] at hsz
      omega
    obtain ⟨xj, xk, xm, xl⟩ := x
    obtain ⟨yj, yk, ym, yl⟩ := y
    repeat' (first | (apply TC_seq) | (apply TC_region) | (apply TC_block) | (apply TC_skip) | (apply TC_cond_true; exact rfl) | (apply T_nil) | (apply En_then) | (apply T_load; exact rfl; ((refine pw_load (i := 1) rfl rfl rfl ?_)); refine T_nv ?_) | (apply T_bin; exact rfl; ((refine pw_lss rfl rfl (fun h => ?_) (fun h => ?_))) <;> (first | (exfalso; omega) | refine T_nv ?_)) | (refine T_pure rfl rfl ?_; ((first | refine pw_mv ?_ | refine pw_fieldAddr rfl ?_ | refine pw_len rfl ?_)); refine T_nv ?_))
    refine TC_draw mixed (by decide +kernel) (fun _ _ _ _ _ _ h => h) (List.Sublist.refl _) ?_
    all_goals ((refine TA_p 0 ?_; ((refine pw_fieldAddr rfl ?_)); refine TA_nv ?_))
    all_goals ((refine TA_p 1 ?_; ((refine pw_load (i := 1) rfl rfl rfl ?_)); refine TA_nv ?_))
    all_goals ((refine TA_p 2 ?_; ((refine pw_mv ?_)); refine TA_nv ?_))
    all_goals ((refine TA_p 3 ?_; ((refine pw_index_tmx (v := .slice A1 l1.length c1) (xs := l1) rfl rfl memt hx rfl (fun b o A0_ c0_ => ?_))); refine TA_nv ?_))
    all_goals ((refine TA_p 4 ?_; ((refine pw_load_at0 rfl memr rfl ?_)); refine TA_nv ?_))
    all_goals ((refine TA_p 5 ?_; ((refine pw_fieldAddr rfl ?_)); refine TA_nv ?_))
    all_goals ((refine TA_p 6 ?_; ((refine pw_load (i := 0) rfl rfl rfl ?_)); refine TA_nv ?_))
    all_goals ((refine TA_p 7 ?_; ((refine pw_mv ?_)); refine TA_nv ?_))
    all_goals ((refine TA_p 8 ?_; ((refine pw_index_tmx (v := .slice A2 l2.length c2) (xs := l2) rfl rfl memt hy rfl (fun b o A0_ c0_ => ?_))); refine TA_nv ?_))
    all_goals ((refine TA_p 9 ?_; ((refine pw_load_at0 rfl memr rfl ?_)); refine TA_nv ?_))
    -- left: [10, 11]; ready: [10]: ['call']
    refine TA_o 10 ?_
    refine ow_callf rfl ?_
    refine ih _ _ _ xj xk xm _ _ xl yj yk ym _ _ yl hlx memt memt (fun r hr => ?_)
    refine ⟨.inl (fun w hs => hs), ?_⟩
    refine TA_nv ?_
    cases r
    all_goals ((refine TA_p 11 ?_; ((refine pw_not rfl ?_)); refine TA_nv ?_))
    all_goals refine TA_d ?_
    · skip
      repeat' (first | (apply TC_seq) | (apply TC_region) | (apply TC_ret) | (apply TC_cond_true; exact rfl) | (apply T_nil) | (apply En_then) | (apply En_then_ret) | (apply En_block_ret) | (refine T_pure rfl rfl ?_; ((refine pw_as ?_)); refine T_nv ?_))
      exact En_fin (.inl rfl) (res1 rfl (rv_tmp rfl)) (fin_K H R (fun w hs => hs.weaken sbp (fun p hp => by (exact List.mem_cons_of_mem _ (List.mem_cons_of_mem _ (List.mem_cons_of_mem _ (List.mem_cons_of_mem _ (hR p hp))))))) (k false (fun e => hr (hE e))))
    · skip
      repeat' (first | (apply TC_region) | (apply TC_skip) | (apply TC_cond_false; exact rfl) | (apply T_nil) | (apply En_then) | (apply En_block) | (apply T_bin; exact rfl; ((refine pw_add64 rfl rfl (by omega) (by omega) ?_)); refine T_nv ?_) | (refine T_pure rfl rfl ?_; ((first | refine pw_mv ?_ | refine pw_as ?_)); refine T_nv ?_))
      exact En_backS (m - 1) _ R (by omega) sjp ⟨rfl, fun _ h => h, i + 1, by omega, rfl⟩ (fun w hs => hs.weaken sbp (fun p hp => by (exact List.mem_cons_of_mem _ (List.mem_cons_of_mem _ (List.mem_cons_of_mem _ (List.mem_cons_of_mem _ (hR p hp)))))))
  · skip
    repeat' (first | (apply TC_seq) | (apply TC_region) | (apply TC_ret) | (apply TC_exit) | (apply TC_cond_false; exact rfl) | (apply T_nil) | (apply En_then) | (apply En_then_exit) | (apply En_block_exit) | (apply T_load; exact rfl; ((refine pw_load (i := 1) rfl rfl rfl ?_)); refine T_nv ?_) | (apply T_bin; exact rfl; ((refine pw_lss rfl rfl (fun h => ?_) (fun h => ?_))) <;> (first | (exfalso; omega) | refine T_nv ?_)) | (refine T_pure rfl rfl ?_; ((first | refine pw_mv ?_ | refine pw_as ?_ | refine pw_fieldAddr rfl ?_ | refine pw_len rfl ?_)); refine T_nv ?_))
    exact En_fin (.inl rfl) (res1 rfl (rv_tmp rfl)) (fin_K H R (fun w hs => hs.weaken sbp hR) (k true (fun _ => rfl)))
theorem equal_k {w0 : World} {H : List Hp} {R : List MP} {K : Value → List Hp → List MP → Prop} (j1 k1 : Int) (m1 : ByteArray) (A1 : Option Addr) (c1 : Nat) (l1 : List Tm) (j2 k2 : Int) (m2 : ByteArray) (A2 : Option Addr) (c2 : Nat) (l2 : List Tm) (h1 : Sl (.slice A1 l1.length c1) l1 ∈ R) (h2 : Sl (.slice A2 l2.length c2) l2 ∈ R)
    (k : ∀ r : Bool, ((.mk j1 k1 m1 l1 : Tm) = .mk j2 k2 m2 l2 → r = true) → K (.bool r) H R) : CallsK Try.prog w0 98 #[.agg #[.int .i64 j1, .int .i64 k1, .string m1, .slice A1 l1.length c1], .agg #[.int .i64 j2, .int .i64 k2, .string m2, .slice A2 l2.length c2]] H R K :=
  equal_kn _ H R K j1 k1 m1 A1 c1 l1 j2 k2 m2 A2 c2 l2 (Nat.lt_succ_self _) h1 h2 k
theorem sameType_kn {w0 : World} : ∀ n : Nat, ∀ (H : List Hp) (R : List MP) (K : Value → List Hp → List MP → Prop) (m1 : ByteArray) (A1 : Option Addr) (c1 : Nat) (l1 : List Tp) (m2 : ByteArray) (A2 : Option Addr) (c2 : Nat) (l2 : List Tp), SizeOf.sizeOf (.mk m1 l1 : Tp) < n → Sl (.slice A1 l1.length c1) l1 ∈ R → Sl (.slice A2 l2.length c2) l2 ∈ R →
    (∀ r : Bool, ((.mk m1 l1 : Tp) = .mk m2 l2 → r = true) → K (.bool r) H R) → CallsK Try.prog w0 119 #[.agg #[.string m1, .slice A1 l1.length c1], .agg #[.string m2, .slice A2 l2.length c2]] H R K := by
  intro n
  induction n with
  | zero => exact fun H R K m1 A1 c1 l1 m2 A2 c2 l2 h => absurd h (Nat.not_lt_zero _)
  | succ n ih =>
  intro H R K m1 A1 c1 l1 m2 A2 c2 l2 hsz hml1 hml2 k
  refine CallsK_fact (p := l1.length ≤ 9223372036854775807) (fun w hs => by have := Sl_bound hs hml1; simp only [maxL] at this; omega) (fun hbl1 => ?_)
  refine CallsK_fact (p := l2.length ≤ 9223372036854775807) (fun w hs => by have := Sl_bound hs hml2; simp only [maxL] at this; omega) (fun hbl2 => ?_)
  refine calls_of Try.func119 rfl Try.ntmps119 nep ?_
  apply TC_seq; apply TC_region
  repeat' (first | (refine T_pure rfl rfl ?_; ((refine pw_as ?_)); refine T_nv ?_) | (refine T_gen rfl rfl ?_; ((refine gw_box clp (fun b => ?_))); refine T_nv ?_))
  rename_i b2
  revert b
  intro b3
  apply T_nil; apply En_then
  repeat' (first | (apply T_bin; exact rfl; ((refine pw_neqB rfl rfl (fun h => ?_) (fun h => ?_))) <;> refine T_nv ?_) | (apply TC_seq) | (apply TC_region) | (apply TC_block) | (apply TC_ret) | (apply TC_skip) | (apply TC_cond_true; exact rfl) | (apply TC_cond_false; exact rfl) | (apply T_nil) | (apply En_then) | (apply En_then_ret) | (apply T_load; exact rfl; ((first | refine pw_load (i := 0) rfl rfl rfl ?_ | refine pw_load (i := 1) rfl rfl rfl ?_)); refine T_nv ?_) | (apply T_bin; exact rfl; ((refine pw_neq rfl rfl (fun h => ?_) (fun h => ?_))) <;> (refine T_nv ?_)) | (refine T_pure rfl rfl ?_; ((first | refine pw_mv ?_ | refine pw_as ?_ | refine pw_pick_t rfl evp ?_ | refine pw_pick_f rfl evp ?_ | refine pw_fieldAddr rfl ?_ | refine pw_len rfl ?_)); refine T_nv ?_) | (refine T_skipped rfl ?_; refine T_nv ?_))
  all_goals try exact En_fin (.inl rfl) (res1 rfl (rv_tmp rfl)) (fin_K H R (fun w hs => hs.weaken sbp kpp) (k false (fun e => by cases e; exact absurd rfl (by assumption))))
  have hll : l1.length = l2.length := by omega
  refine TC_loopS [4, 5, 20, 21, 22, 23, 24, 25, 26, 27, 28, 29, 30, 31, 32, 33, 34, 35, 36, 37, 38] (fun m j H' R' => H' = .blk b3 [.string m2, .slice A2 l2.length c2] 155 :: .blk b2 [.string m1, .slice A1 l1.length c1] 155 :: H ∧ (∀ p ∈ R, p ∈ R') ∧ ∃ i : Nat, i + m = l1.length ∧ j 5 = .int .i64 (i : Int)) l1.length sjp ⟨rfl, fun _ h => h, 0, by omega, rfl⟩ ?_
  rintro m j H' R' ⟨hH, hR, i, hi, h5⟩
  subst hH
  have hn1 := hR _ hml1
  have hn2 := hR _ hml2
  refine TC_env (by simp only [setJ, List.foldl_cons, List.foldl_nil, List.set_cons_succ, List.set_cons_zero, h5]; rfl) ?_
  rcases Nat.lt_or_ge i l1.length with hlt | hge
  · obtain ⟨x, hx⟩ : ∃ x, l1[i]? = some x := ⟨_, List.getElem?_eq_getElem hlt⟩
    obtain ⟨y, hy⟩ : ∃ y, l2[i]? = some y := ⟨_, List.getElem?_eq_getElem (by omega)⟩
    have hE : (.mk m1 l1 : Tp) = .mk m2 l2 → x = y := fun e => by
      cases e
      rw [hx] at hy
      injection hy
    have hlx : SizeOf.sizeOf x < n := by
      have h1 := List.sizeOf_lt_of_mem (List.mem_of_getElem? hx)
      simp only [Tp.mk.sizeOf_spec] at hsz
      omega
    obtain ⟨xm, xl⟩ := x
    obtain ⟨ym, yl⟩ := y
    repeat' (first | (apply TC_seq) | (apply TC_region) | (apply TC_block) | (apply TC_skip) | (apply TC_cond_true; exact rfl) | (apply T_nil) | (apply En_then) | (apply T_load; exact rfl; ((refine pw_load (i := 1) rfl rfl rfl ?_)); refine T_nv ?_) | (apply T_bin; exact rfl; ((refine pw_lss rfl rfl (fun h => ?_) (fun h => ?_))) <;> (first | (exfalso; omega) | refine T_nv ?_)) | (refine T_pure rfl rfl ?_; ((first | refine pw_mv ?_ | refine pw_fieldAddr rfl ?_ | refine pw_len rfl ?_)); refine T_nv ?_))
    refine TC_draw mixed (by decide +kernel) (fun _ _ _ _ _ _ h => h) (List.Sublist.refl _) ?_
    all_goals ((refine TA_p 0 ?_; ((refine pw_fieldAddr rfl ?_)); refine TA_nv ?_))
    all_goals ((refine TA_p 1 ?_; ((refine pw_load (i := 1) rfl rfl rfl ?_)); refine TA_nv ?_))
    all_goals ((refine TA_p 2 ?_; ((refine pw_mv ?_)); refine TA_nv ?_))
    all_goals ((refine TA_p 3 ?_; ((refine pw_index_tpx (v := .slice A1 l1.length c1) (xs := l1) rfl rfl memt hx rfl (fun b o A0_ c0_ => ?_))); refine TA_nv ?_))
    all_goals ((refine TA_p 4 ?_; ((refine pw_load_at0 rfl memr rfl ?_)); refine TA_nv ?_))
    all_goals ((refine TA_p 5 ?_; ((refine pw_fieldAddr rfl ?_)); refine TA_nv ?_))
    all_goals ((refine TA_p 6 ?_; ((refine pw_load (i := 0) rfl rfl rfl ?_)); refine TA_nv ?_))
    all_goals ((refine TA_p 7 ?_; ((refine pw_mv ?_)); refine TA_nv ?_))
    all_goals ((refine TA_p 8 ?_; ((refine pw_index_tpx (v := .slice A2 l2.length c2) (xs := l2) rfl rfl memt hy rfl (fun b o A0_ c0_ => ?_))); refine TA_nv ?_))
    all_goals ((refine TA_p 9 ?_; ((refine pw_load_at0 rfl memr rfl ?_)); refine TA_nv ?_))
    -- left: [10, 11]; ready: [10]: ['call']
    refine TA_o 10 ?_
    refine ow_callf rfl ?_
    refine ih _ _ _ xm _ _ xl ym _ _ yl hlx memt memt (fun r hr => ?_)
    refine ⟨.inl (fun w hs => hs), ?_⟩
    refine TA_nv ?_
    cases r
    all_goals ((refine TA_p 11 ?_; ((refine pw_not rfl ?_)); refine TA_nv ?_))
    all_goals refine TA_d ?_
    · skip
      repeat' (first | (apply TC_seq) | (apply TC_region) | (apply TC_ret) | (apply TC_cond_true; exact rfl) | (apply T_nil) | (apply En_then) | (apply En_then_ret) | (apply En_block_ret) | (refine T_pure rfl rfl ?_; ((refine pw_as ?_)); refine T_nv ?_))
      exact En_fin (.inl rfl) (res1 rfl (rv_tmp rfl)) (fin_K H R (fun w hs => hs.weaken sbp (fun p hp => by (exact List.mem_cons_of_mem _ (List.mem_cons_of_mem _ (List.mem_cons_of_mem _ (List.mem_cons_of_mem _ (hR p hp))))))) (k false (fun e => hr (hE e))))
    · skip
      repeat' (first | (apply TC_region) | (apply TC_skip) | (apply TC_cond_false; exact rfl) | (apply T_nil) | (apply En_then) | (apply En_block) | (apply T_bin; exact rfl; ((refine pw_add64 rfl rfl (by omega) (by omega) ?_)); refine T_nv ?_) | (refine T_pure rfl rfl ?_; ((first | refine pw_mv ?_ | refine pw_as ?_)); refine T_nv ?_))
      exact En_backS (m - 1) _ R (by omega) sjp ⟨rfl, fun _ h => h, i + 1, by omega, rfl⟩ (fun w hs => hs.weaken sbp (fun p hp => by (exact List.mem_cons_of_mem _ (List.mem_cons_of_mem _ (List.mem_cons_of_mem _ (List.mem_cons_of_mem _ (hR p hp)))))))
  · skip
    repeat' (first | (apply TC_seq) | (apply TC_region) | (apply TC_ret) | (apply TC_exit) | (apply TC_cond_false; exact rfl) | (apply T_nil) | (apply En_then) | (apply En_then_exit) | (apply En_block_exit) | (apply T_load; exact rfl; ((refine pw_load (i := 1) rfl rfl rfl ?_)); refine T_nv ?_) | (apply T_bin; exact rfl; ((refine pw_lss rfl rfl (fun h => ?_) (fun h => ?_))) <;> (first | (exfalso; omega) | refine T_nv ?_)) | (refine T_pure rfl rfl ?_; ((first | refine pw_mv ?_ | refine pw_as ?_ | refine pw_fieldAddr rfl ?_ | refine pw_len rfl ?_)); refine T_nv ?_))
    exact En_fin (.inl rfl) (res1 rfl (rv_tmp rfl)) (fin_K H R (fun w hs => hs.weaken sbp hR) (k true (fun _ => rfl)))
theorem sameType_k {w0 : World} {H : List Hp} {R : List MP} {K : Value → List Hp → List MP → Prop} (m1 : ByteArray) (A1 : Option Addr) (c1 : Nat) (l1 : List Tp) (m2 : ByteArray) (A2 : Option Addr) (c2 : Nat) (l2 : List Tp) (h1 : Sl (.slice A1 l1.length c1) l1 ∈ R) (h2 : Sl (.slice A2 l2.length c2) l2 ∈ R)
    (k : ∀ r : Bool, ((.mk m1 l1 : Tp) = .mk m2 l2 → r = true) → K (.bool r) H R) : CallsK Try.prog w0 119 #[.agg #[.string m1, .slice A1 l1.length c1], .agg #[.string m2, .slice A2 l2.length c2]] H R K :=
  sameType_kn _ H R K m1 A1 c1 l1 m2 A2 c2 l2 (Nat.lt_succ_self _) h1 h2 k
theorem equalAll_k {w0 : World} {H : List Hp} {R : List MP} {K : Value → List Hp → List MP → Prop} (A1 : Option Addr) (c1 : Nat) (A2 : Option Addr) (c2 : Nat) (l1 l2 : List Tm) (hml1 : Sl (.slice A1 l1.length c1) l1 ∈ R) (hml2 : Sl (.slice A2 l2.length c2) l2 ∈ R)
    (k : ∀ r : Bool, (l1 = l2 → r = true) → K (.bool r) H R) : CallsK Try.prog w0 48 #[.slice A1 l1.length c1, .slice A2 l2.length c2] H R K := by
  refine CallsK_fact (p := l1.length ≤ 9223372036854775807) (fun w hs => by have := Sl_bound hs hml1; simp only [maxL] at this; omega) (fun hbl1 => ?_)
  refine CallsK_fact (p := l2.length ≤ 9223372036854775807) (fun w hs => by have := Sl_bound hs hml2; simp only [maxL] at this; omega) (fun hbl2 => ?_)
  refine calls_of Try.func48 rfl Try.ntmps48 nep ?_
  repeat' (first | (apply TC_seq) | (apply TC_region) | (apply TC_block) | (apply TC_ret) | (apply TC_skip) | (apply TC_cond_true; exact rfl) | (apply TC_cond_false; exact rfl) | (apply T_nil) | (apply En_then) | (apply En_then_ret) | (apply T_bin; exact rfl; ((refine pw_neq rfl rfl (fun h => ?_) (fun h => ?_))) <;> (refine T_nv ?_)) | (refine T_pure rfl rfl ?_; ((first | refine pw_mv ?_ | refine pw_as ?_ | refine pw_len rfl ?_)); refine T_nv ?_))
  · exact En_fin (.inl rfl) (res1 rfl (rv_tmp rfl)) (fin_K H R (fun w hs => hs.weaken sbp kpp) (k false (fun e => by subst e; exact absurd rfl (by assumption))))
  have hll : l1.length = l2.length := by omega
  refine TC_loopS [4, 5, 11, 12, 13, 14, 15, 16, 17, 18, 19, 20, 21, 22, 23, 24, 25, 26] (fun m j H' R' => H' = H ∧ (∀ p ∈ R, p ∈ R') ∧ ∃ i : Nat, i + m = l1.length ∧ j 5 = .int .i64 (i : Int)) l1.length sjp ⟨rfl, fun _ h => h, 0, by omega, rfl⟩ ?_
  rintro m j H' R' ⟨hH, hR, i, hi, h5⟩
  subst hH
  have hn1 := hR _ hml1
  have hn2 := hR _ hml2
  refine TC_env (by simp only [setJ, List.foldl_cons, List.foldl_nil, List.set_cons_succ, List.set_cons_zero, h5]; rfl) ?_
  rcases Nat.lt_or_ge i l1.length with hlt | hge
  · obtain ⟨x, hx⟩ : ∃ x, l1[i]? = some x := ⟨_, List.getElem?_eq_getElem hlt⟩
    obtain ⟨y, hy⟩ : ∃ y, l2[i]? = some y := ⟨_, List.getElem?_eq_getElem (by omega)⟩
    have hE : l1 = l2 → x = y := fun e => by
      subst e
      rw [hx] at hy
      injection hy
    repeat' (first | (apply TC_seq) | (apply TC_region) | (apply TC_block) | (apply TC_skip) | (apply TC_cond_true; exact rfl) | (apply T_nil) | (apply En_then) | (apply T_bin; exact rfl; ((refine pw_lss rfl rfl (fun h => ?_) (fun h => ?_))) <;> (first | (exfalso; omega) | refine T_nv ?_)) | (refine T_pure rfl rfl ?_; ((first | refine pw_mv ?_ | refine pw_len rfl ?_)); refine T_nv ?_))
    obtain ⟨xj, xk, xm, xl⟩ := x
    obtain ⟨yj, yk, ym, yl⟩ := y
    refine TC_draw mixed (by decide +kernel) (fun _ _ _ _ _ _ h => h) (List.Sublist.refl _) ?_
    all_goals ((refine TA_p 0 ?_; ((refine pw_mv ?_)); refine TA_nv ?_))
    all_goals ((refine TA_p 1 ?_; ((refine pw_mv ?_)); refine TA_nv ?_))
    all_goals ((refine TA_p 2 ?_; ((refine pw_index_tmx (v := .slice A1 l1.length c1) (xs := l1) rfl rfl memt hx rfl (fun b o A0_ c0_ => ?_))); refine TA_nv ?_))
    all_goals ((refine TA_p 3 ?_; ((refine pw_load_at0 rfl memr rfl ?_)); refine TA_nv ?_))
    all_goals ((refine TA_p 4 ?_; ((refine pw_mv ?_)); refine TA_nv ?_))
    all_goals ((refine TA_p 5 ?_; ((refine pw_mv ?_)); refine TA_nv ?_))
    all_goals ((refine TA_p 6 ?_; ((refine pw_index_tmx (v := .slice A2 l2.length c2) (xs := l2) rfl rfl memt hy rfl (fun b o A0_ c0_ => ?_))); refine TA_nv ?_))
    all_goals ((refine TA_p 7 ?_; ((refine pw_load_at0 rfl memr rfl ?_)); refine TA_nv ?_))
    -- left: [8, 9]; ready: [8]: ['call']
    refine TA_o 8 ?_
    refine ow_callf rfl ?_
    refine equal_k xj xk xm _ _ xl yj yk ym _ _ yl memt memt (fun r hr => ?_)
    refine ⟨.inl (fun w hs => hs), ?_⟩
    refine TA_nv ?_
    cases r
    all_goals ((refine TA_p 9 ?_; ((refine pw_not rfl ?_)); refine TA_nv ?_))
    all_goals refine TA_d ?_
    · skip
      repeat' (first | (apply TC_seq) | (apply TC_region) | (apply TC_ret) | (apply TC_cond_true; exact rfl) | (apply T_nil) | (apply En_then) | (apply En_then_ret) | (apply En_block_ret) | (refine T_pure rfl rfl ?_; ((refine pw_as ?_)); refine T_nv ?_))
      exact En_fin (.inl rfl) (res1 rfl (rv_tmp rfl)) (fin_K H' R (fun w hs => hs.weaken sbp (fun p hp => by (exact List.mem_cons_of_mem _ (List.mem_cons_of_mem _ (List.mem_cons_of_mem _ (List.mem_cons_of_mem _ (hR p hp))))))) (k false (fun e => hr (hE e))))
    · skip
      repeat' (first | (apply TC_region) | (apply TC_skip) | (apply TC_cond_false; exact rfl) | (apply T_nil) | (apply En_then) | (apply En_block) | (apply T_bin; exact rfl; ((refine pw_add64 rfl rfl (by omega) (by omega) ?_)); refine T_nv ?_) | (refine T_pure rfl rfl ?_; ((first | refine pw_mv ?_ | refine pw_as ?_)); refine T_nv ?_))
      exact En_backS (m - 1) _ R (by omega) sjp ⟨rfl, fun _ h => h, i + 1, by omega, rfl⟩ (fun w hs => hs.weaken sbp (fun p hp => by (exact List.mem_cons_of_mem _ (List.mem_cons_of_mem _ (List.mem_cons_of_mem _ (List.mem_cons_of_mem _ (hR p hp)))))))
  · skip
    repeat' (first | (apply TC_seq) | (apply TC_region) | (apply TC_ret) | (apply TC_exit) | (apply TC_cond_false; exact rfl) | (apply T_nil) | (apply En_then) | (apply En_then_exit) | (apply En_block_exit) | (apply T_bin; exact rfl; ((refine pw_lss rfl rfl (fun h => ?_) (fun h => ?_))) <;> (first | (exfalso; omega) | refine T_nv ?_)) | (refine T_pure rfl rfl ?_; ((first | refine pw_mv ?_ | refine pw_as ?_ | refine pw_len rfl ?_)); refine T_nv ?_))
    exact En_fin (.inl rfl) (res1 rfl (rv_tmp rfl)) (fin_K H' R (fun w hs => hs.weaken sbp hR) (k true (fun _ => rfl)))
theorem sameVal_k {w0 : World} {H : List Hp} {R : List MP} {K : Value → List Hp → List MP → Prop} (nx0 : Int) (mx1 : ByteArray) (Ax1 : Option Addr) (cx1 : Nat) (nx1 : List Tp) (nx2 : Bool) (jx3 kx3 : Int) (mx3 : ByteArray) (Ax3 : Option Addr) (cx3 : Nat) (nx3 : List Tm) (ny0 : Int) (my1 : ByteArray) (Ay1 : Option Addr) (cy1 : Nat) (ny1 : List Tp) (ny2 : Bool) (jy3 ky3 : Int) (my3 : ByteArray) (Ay3 : Option Addr) (cy3 : Nat) (ny3 : List Tm) (hx0 : Sl (.slice Ax1 nx1.length cx1) nx1 ∈ R) (hx1 : Sl (.slice Ax3 nx3.length cx3) nx3 ∈ R) (hy0 : Sl (.slice Ay1 ny1.length cy1) ny1 ∈ R) (hy1 : Sl (.slice Ay3 ny3.length cy3) ny3 ∈ R)
    (k : ∀ r : Bool, (((nx0, .mk mx1 nx1, nx2, .mk jx3 kx3 mx3 nx3) : VaD) = ((ny0, .mk my1 ny1, ny2, .mk jy3 ky3 my3 ny3) : VaD) → r = true) → K (.bool r) H R) : CallsK Try.prog w0 96 #[.agg #[.int .i64 nx0, .string mx1, .slice Ax1 nx1.length cx1, .bool nx2, .int .i64 jx3, .int .i64 kx3, .string mx3, .slice Ax3 nx3.length cx3], .agg #[.int .i64 ny0, .string my1, .slice Ay1 ny1.length cy1, .bool ny2, .int .i64 jy3, .int .i64 ky3, .string my3, .slice Ay3 ny3.length cy3]] H R K := by
  refine calls_of Try.func96 rfl Try.ntmps96 nep ?_
  repeat' (first | (apply T_bin; exact rfl; ((refine pw_eqlb rfl rfl (fun h => ?_) (fun h => ?_))) <;> refine T_nv ?_) | (refine T_ow rfl ?_; refine ow_callf rfl ?_; refine sameType_k _ _ _ _ _ _ _ _ memt memt (fun r hr => ?_); cases r <;> refine T_nv ?_) | (refine T_ow rfl ?_; refine ow_callf rfl ?_; refine equal_k _ _ _ _ _ _ _ _ _ _ _ _ memt memt (fun r hr => ?_); cases r <;> refine T_nv ?_) | (apply TC_seq) | (apply TC_region) | (apply TC_ret) | (apply T_nil) | (apply En_then) | (apply T_load; exact rfl; ((first | refine pw_load (i := 0) rfl rfl rfl ?_ | refine pw_load (i := 1) rfl rfl rfl ?_)); refine T_nv ?_) | (apply T_bin; exact rfl; ((refine pw_eql rfl rfl (fun h => ?_) (fun h => ?_))) <;> (refine T_nv ?_)) | (refine T_pure rfl rfl ?_; ((first | refine pw_mv ?_ | refine pw_as ?_ | refine pw_pick_t rfl evp ?_ | refine pw_pick_f rfl evp ?_ | refine pw_fieldAddr rfl ?_)); refine T_nv ?_) | (refine T_skipped rfl ?_; refine T_nv ?_) | (refine T_gen rfl rfl ?_; ((refine gw_box clp (fun b => ?_))); refine T_nv ?_))
  all_goals (first | exact En_fin (.inl rfl) (res1 rfl (rv_tmp rfl)) (fin_K H R (fun w hs => hs.weaken sbp kpp) (k true (fun _ => rfl))) | exact En_fin (.inl rfl) (res1 rfl (rv_tmp rfl)) (fin_K H R (fun w hs => hs.weaken sbp kpp) (k false (fun e => by (first | exact absurd (hr (by cases e; rfl)) (by decide) | (cases e; exact absurd rfl (by assumption)))))))
end Go.Proofs.Ytggdljhmbckpmaa
