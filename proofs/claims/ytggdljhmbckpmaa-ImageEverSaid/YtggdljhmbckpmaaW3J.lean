/- Frames, brackets, scopes compared: walks. Choices, heads compared: walks. -/
import Derived.Test.YtggdljhmbckpmaaW2
set_option linter.unusedVariables false
set_option linter.unusedSimpArgs false
namespace Go.Proofs.Ytggdljhmbckpmaa
open Go Go.RowKit
set_option maxRecDepth 100000
set_option maxHeartbeats 3200000

theorem sameFrames_k {w0 : World} {H : List Hp} {R : List MP} {K : Value → List Hp → List MP → Prop} (A1 : Option Addr) (c1 : Nat) (A2 : Option Addr) (c2 : Nat) (l1 l2 : List FrD) (hml1 : Sl (.slice A1 l1.length c1) l1 ∈ R) (hml2 : Sl (.slice A2 l2.length c2) l2 ∈ R)
    (k : ∀ r : Bool, (l1 = l2 → r = true) → K (.bool r) H R) : CallsK Try.prog w0 43 #[.slice A1 l1.length c1, .slice A2 l2.length c2] H R K := by
  refine CallsK_fact (p := l1.length ≤ 9223372036854775807) (fun w hs => by have := Sl_bound hs hml1; simp only [maxL] at this; omega) (fun hbl1 => ?_)
  refine CallsK_fact (p := l2.length ≤ 9223372036854775807) (fun w hs => by have := Sl_bound hs hml2; simp only [maxL] at this; omega) (fun hbl2 => ?_)
  refine calls_of Try.func43 rfl Try.ntmps43 nep ?_
  repeat' (first | (apply TC_seq) | (apply TC_region) | (apply TC_block) | (apply TC_ret) | (apply TC_skip) | (apply TC_cond_true; exact rfl) | (apply TC_cond_false; exact rfl) | (apply T_nil) | (apply En_then) | (apply En_then_ret) | (apply T_bin; exact rfl; ((refine pw_neq rfl rfl (fun h => ?_) (fun h => ?_))) <;> (refine T_nv ?_)) | (refine T_pure rfl rfl ?_; ((first | refine pw_mv ?_ | refine pw_as ?_ | refine pw_len rfl ?_)); refine T_nv ?_))
  · exact En_fin (.inl rfl) (res1 rfl (rv_tmp rfl)) (fin_K H R (fun w hs => hs.weaken sbp kpp) (k false (fun e => by subst e; exact absurd rfl (by assumption))))
  have hll : l1.length = l2.length := by omega
  refine TC_loopS [4, 5, 6, 7, 13, 14, 15, 16, 17, 18, 19, 20, 21, 22, 23, 24, 25, 26, 27, 28, 29, 30, 31, 32, 33, 34, 35, 36, 37, 38, 39, 40, 41, 42, 43, 44, 45, 46, 47, 48, 49, 50, 51, 52, 53, 54, 55, 56, 57, 58, 59, 60, 61] (fun m j H' R' => H' = H ∧ (∀ p ∈ R, p ∈ R') ∧ ∃ i : Nat, i + m = l1.length ∧ j 5 = .int .i64 (i : Int)) l1.length sjp ⟨rfl, fun _ h => h, 0, by omega, rfl⟩ ?_
  rintro m j H' R' ⟨hH, hR, i, hi, h5⟩
  subst hH
  have hn1 := hR _ hml1
  have hn2 := hR _ hml2
  refine TC_env (by simp only [setJ, List.foldl_cons, List.foldl_nil, List.set_cons_succ, List.set_cons_zero, h5]; rfl) ?_
  rcases Nat.lt_or_ge i l1.length with hlt | hge
  · obtain ⟨x, hx⟩ : ∃ x, l1[i]? = some x := ⟨_, List.getElem?_eq_getElem hlt⟩
    obtain ⟨y, hy⟩ : ∃ y, l2[i]? = some y := ⟨_, List.getElem?_eq_getElem (by omega)⟩
    have hE : l1 = l2 → x = y := fun e => by
      subst e
      rw [hx] at hy
      injection hy
    obtain ⟨x0, x1, x2, x3, x4⟩ := x
    obtain ⟨y0, y1, y2, y3, y4⟩ := y
    repeat' (first | (apply T_idx; exact rfl; ((first | refine pw_index_fr (v := .slice A1 l1.length c1) (xs := l1) rfl rfl memt hx rfl (fun b o A0_ c0_ A1_ c1_ => ?_) | refine pw_index_fr (v := .slice A2 l2.length c2) (xs := l2) rfl rfl memt hy rfl (fun b o A0_ c0_ A1_ c1_ => ?_))); refine T_nv ?_) | (refine T_ow rfl ?_; refine ow_callf rfl ?_; refine equalAll_k _ _ _ _ _ _ memt memt (fun r hr => ?_); cases r <;> refine T_nv ?_) | (apply TC_seq) | (apply TC_region) | (apply TC_block) | (apply TC_ret) | (apply TC_skip) | (apply TC_cond_true; exact rfl) | (apply TC_cond_false; exact rfl) | (apply T_nil) | (apply En_then) | (apply En_then_ret) | (apply En_block) | (apply En_block_ret) | (apply T_load; exact rfl; ((first | refine pw_load (i := 0) rfl rfl rfl ?_ | refine pw_load (i := 1) rfl rfl rfl ?_ | refine pw_load_at0 rfl memr rfl ?_)); refine T_nv ?_) | (apply T_bin; exact rfl; ((refine pw_add64 rfl rfl (by omega) (by omega) ?_)); refine T_nv ?_) | (apply T_bin; exact rfl; ((first | refine pw_lss rfl rfl (fun h => ?_) (fun h => ?_) | refine pw_neq rfl rfl (fun h => ?_) (fun h => ?_))) <;> (first | (exfalso; omega) | refine T_nv ?_)) | (apply T_store; exact rfl; ((refine gw_store (i := 0) rfl clp rfl (by rfl) (by simp) (by simp [Value.oneCell']) ?_)); refine T_nv ?_; refine T_hq ?_) | (refine T_pure rfl rfl ?_; ((first | refine pw_mv ?_ | refine pw_as ?_ | refine pw_pick_t rfl evp ?_ | refine pw_pick_f rfl evp ?_ | refine pw_fieldAddr rfl ?_ | refine pw_len rfl ?_ | refine pw_not rfl ?_)); refine T_nv ?_) | (refine T_skipped rfl ?_; refine T_nv ?_) | (refine T_gen rfl rfl ?_; ((refine gw_alloc clp (fun b => ?_))); refine T_nv ?_))
    all_goals (first | exact En_backS (m - 1) _ R (by omega) sjp ⟨rfl, fun _ h => h, i + 1, by omega, rfl⟩ (fun w hs => hs.weaken sbp (fun p hp => by have hp := hR p hp; repeat ((first | with_reducible exact hp | with_reducible apply List.mem_cons_of_mem)))) | exact En_fin (.inl rfl) (res1 rfl (rv_tmp rfl)) (fin_K H' R (fun w hs => hs.weaken sbp (fun p hp => by have hp := hR p hp; repeat ((first | with_reducible exact hp | with_reducible apply List.mem_cons_of_mem)))) (k false (fun e => by have e := hE e; (first | exact absurd (hr (by cases e; rfl)) (by decide) | (cases e; exact absurd rfl (by assumption)))))))
  · skip
    repeat' (first | (apply TC_seq) | (apply TC_region) | (apply TC_ret) | (apply TC_exit) | (apply TC_cond_false; exact rfl) | (apply T_nil) | (apply En_then) | (apply En_then_exit) | (apply En_block_exit) | (apply T_bin; exact rfl; ((refine pw_lss rfl rfl (fun h => ?_) (fun h => ?_))) <;> (first | (exfalso; omega) | refine T_nv ?_)) | (refine T_pure rfl rfl ?_; ((first | refine pw_mv ?_ | refine pw_as ?_ | refine pw_len rfl ?_)); refine T_nv ?_))
    exact En_fin (.inl rfl) (res1 rfl (rv_tmp rfl)) (fin_K H' R (fun w hs => hs.weaken sbp hR) (k true (fun _ => rfl)))
theorem sameBrackets_k {w0 : World} {H : List Hp} {R : List MP} {K : Value → List Hp → List MP → Prop} (A1 : Option Addr) (c1 : Nat) (A2 : Option Addr) (c2 : Nat) (l1 l2 : List BrD) (hml1 : Sl (.slice A1 l1.length c1) l1 ∈ R) (hml2 : Sl (.slice A2 l2.length c2) l2 ∈ R)
    (k : ∀ r : Bool, (l1 = l2 → r = true) → K (.bool r) H R) : CallsK Try.prog w0 44 #[.slice A1 l1.length c1, .slice A2 l2.length c2] H R K := by
  refine CallsK_fact (p := l1.length ≤ 9223372036854775807) (fun w hs => by have := Sl_bound hs hml1; simp only [maxL] at this; omega) (fun hbl1 => ?_)
  refine CallsK_fact (p := l2.length ≤ 9223372036854775807) (fun w hs => by have := Sl_bound hs hml2; simp only [maxL] at this; omega) (fun hbl2 => ?_)
  refine calls_of Try.func44 rfl Try.ntmps44 nep ?_
  repeat' (first | (apply TC_seq) | (apply TC_region) | (apply TC_block) | (apply TC_ret) | (apply TC_skip) | (apply TC_cond_true; exact rfl) | (apply TC_cond_false; exact rfl) | (apply T_nil) | (apply En_then) | (apply En_then_ret) | (apply T_bin; exact rfl; ((refine pw_neq rfl rfl (fun h => ?_) (fun h => ?_))) <;> (refine T_nv ?_)) | (refine T_pure rfl rfl ?_; ((first | refine pw_mv ?_ | refine pw_as ?_ | refine pw_len rfl ?_)); refine T_nv ?_))
  · exact En_fin (.inl rfl) (res1 rfl (rv_tmp rfl)) (fin_K H R (fun w hs => hs.weaken sbp kpp) (k false (fun e => by subst e; exact absurd rfl (by assumption))))
  have hll : l1.length = l2.length := by omega
  refine TC_loopS [4, 5, 6, 7, 13, 14, 15, 16, 17, 18, 19, 20, 21, 22, 23, 24, 25, 26, 27, 28, 29, 30, 31, 32, 33, 34, 35, 36, 37, 38, 39, 40, 41, 42, 43, 44, 45, 46, 47, 48, 49, 50, 51, 52, 53, 54, 55, 56, 57, 58, 59, 60, 61, 62, 63, 64, 65, 66, 67, 68, 69, 70, 71, 72, 73, 74, 75] (fun m j H' R' => H' = H ∧ (∀ p ∈ R, p ∈ R') ∧ ∃ i : Nat, i + m = l1.length ∧ j 5 = .int .i64 (i : Int)) l1.length sjp ⟨rfl, fun _ h => h, 0, by omega, rfl⟩ ?_
  rintro m j H' R' ⟨hH, hR, i, hi, h5⟩
  subst hH
  have hn1 := hR _ hml1
  have hn2 := hR _ hml2
  refine TC_env (by simp only [setJ, List.foldl_cons, List.foldl_nil, List.set_cons_succ, List.set_cons_zero, h5]; rfl) ?_
  rcases Nat.lt_or_ge i l1.length with hlt | hge
  · obtain ⟨x, hx⟩ : ∃ x, l1[i]? = some x := ⟨_, List.getElem?_eq_getElem hlt⟩
    obtain ⟨y, hy⟩ : ∃ y, l2[i]? = some y := ⟨_, List.getElem?_eq_getElem (by omega)⟩
    have hE : l1 = l2 → x = y := fun e => by
      subst e
      rw [hx] at hy
      injection hy
    obtain ⟨x0, x1, x2, x3, x4, x5, x6⟩ := x
    obtain ⟨y0, y1, y2, y3, y4, y5, y6⟩ := y
    repeat' (first | (apply T_idx; exact rfl; ((first | refine pw_index_br (v := .slice A1 l1.length c1) (xs := l1) rfl rfl memt hx rfl (fun b o A0_ c0_ A1_ c1_ => ?_) | refine pw_index_br (v := .slice A2 l2.length c2) (xs := l2) rfl rfl memt hy rfl (fun b o A0_ c0_ A1_ c1_ => ?_))); refine T_nv ?_) | (apply T_bin; exact rfl; ((refine pw_neqb rfl rfl (fun h => ?_) (fun h => ?_))) <;> refine T_nv ?_) | (refine T_ow rfl ?_; refine ow_callf rfl ?_; refine sameInts_k _ _ _ _ _ _ memt memt (fun r hr => ?_); cases r <;> refine T_nv ?_) | (apply TC_seq) | (apply TC_region) | (apply TC_block) | (apply TC_ret) | (apply TC_skip) | (apply TC_cond_true; exact rfl) | (apply TC_cond_false; exact rfl) | (apply T_nil) | (apply En_then) | (apply En_then_ret) | (apply En_block) | (apply En_block_ret) | (apply T_load; exact rfl; ((first | refine pw_load (i := 0) rfl rfl rfl ?_ | refine pw_load (i := 1) rfl rfl rfl ?_ | refine pw_load_at0 rfl memr rfl ?_)); refine T_nv ?_) | (apply T_bin; exact rfl; ((refine pw_add64 rfl rfl (by omega) (by omega) ?_)); refine T_nv ?_) | (apply T_bin; exact rfl; ((first | refine pw_lss rfl rfl (fun h => ?_) (fun h => ?_) | refine pw_neq rfl rfl (fun h => ?_) (fun h => ?_))) <;> (first | (exfalso; omega) | refine T_nv ?_)) | (apply T_store; exact rfl; ((refine gw_store (i := 0) rfl clp rfl (by rfl) (by simp) (by simp [Value.oneCell']) ?_)); refine T_nv ?_; refine T_hq ?_) | (refine T_pure rfl rfl ?_; ((first | refine pw_mv ?_ | refine pw_as ?_ | refine pw_pick_t rfl evp ?_ | refine pw_pick_f rfl evp ?_ | refine pw_fieldAddr rfl ?_ | refine pw_len rfl ?_ | refine pw_not rfl ?_)); refine T_nv ?_) | (refine T_skipped rfl ?_; refine T_nv ?_) | (refine T_gen rfl rfl ?_; ((refine gw_alloc clp (fun b => ?_))); refine T_nv ?_))
    all_goals (first | exact En_backS (m - 1) _ R (by omega) sjp ⟨rfl, fun _ h => h, i + 1, by omega, rfl⟩ (fun w hs => hs.weaken sbp (fun p hp => by have hp := hR p hp; repeat ((first | with_reducible exact hp | with_reducible apply List.mem_cons_of_mem)))) | exact En_fin (.inl rfl) (res1 rfl (rv_tmp rfl)) (fin_K H' R (fun w hs => hs.weaken sbp (fun p hp => by have hp := hR p hp; repeat ((first | with_reducible exact hp | with_reducible apply List.mem_cons_of_mem)))) (k false (fun e => by have e := hE e; (first | exact absurd (hr (by cases e; rfl)) (by decide) | (cases e; exact absurd rfl (by assumption)))))))
  · skip
    repeat' (first | (apply TC_seq) | (apply TC_region) | (apply TC_ret) | (apply TC_exit) | (apply TC_cond_false; exact rfl) | (apply T_nil) | (apply En_then) | (apply En_then_exit) | (apply En_block_exit) | (apply T_bin; exact rfl; ((refine pw_lss rfl rfl (fun h => ?_) (fun h => ?_))) <;> (first | (exfalso; omega) | refine T_nv ?_)) | (refine T_pure rfl rfl ?_; ((first | refine pw_mv ?_ | refine pw_as ?_ | refine pw_len rfl ?_)); refine T_nv ?_))
    exact En_fin (.inl rfl) (res1 rfl (rv_tmp rfl)) (fin_K H' R (fun w hs => hs.weaken sbp hR) (k true (fun _ => rfl)))
theorem sameScopes_k {w0 : World} {H : List Hp} {R : List MP} {K : Value → List Hp → List MP → Prop} (A1 : Option Addr) (c1 : Nat) (A2 : Option Addr) (c2 : Nat) (l1 l2 : List ScD) (hml1 : Sl (.slice A1 l1.length c1) l1 ∈ R) (hml2 : Sl (.slice A2 l2.length c2) l2 ∈ R)
    (k : ∀ r : Bool, (l1 = l2 → r = true) → K (.bool r) H R) : CallsK Try.prog w0 45 #[.slice A1 l1.length c1, .slice A2 l2.length c2] H R K := by
  refine CallsK_fact (p := l1.length ≤ 9223372036854775807) (fun w hs => by have := Sl_bound hs hml1; simp only [maxL] at this; omega) (fun hbl1 => ?_)
  refine CallsK_fact (p := l2.length ≤ 9223372036854775807) (fun w hs => by have := Sl_bound hs hml2; simp only [maxL] at this; omega) (fun hbl2 => ?_)
  refine calls_of Try.func45 rfl Try.ntmps45 nep ?_
  repeat' (first | (apply TC_seq) | (apply TC_region) | (apply TC_block) | (apply TC_ret) | (apply TC_skip) | (apply TC_cond_true; exact rfl) | (apply TC_cond_false; exact rfl) | (apply T_nil) | (apply En_then) | (apply En_then_ret) | (apply T_bin; exact rfl; ((refine pw_neq rfl rfl (fun h => ?_) (fun h => ?_))) <;> (refine T_nv ?_)) | (refine T_pure rfl rfl ?_; ((first | refine pw_mv ?_ | refine pw_as ?_ | refine pw_len rfl ?_)); refine T_nv ?_))
  · exact En_fin (.inl rfl) (res1 rfl (rv_tmp rfl)) (fin_K H R (fun w hs => hs.weaken sbp kpp) (k false (fun e => by subst e; exact absurd rfl (by assumption))))
  have hll : l1.length = l2.length := by omega
  refine TC_loopS [4, 5, 6, 7, 13, 14, 15, 16, 17, 18, 19, 20, 21, 22, 23, 24, 25, 26, 27, 28, 29, 30, 31, 32, 33, 34, 35, 36, 37, 38, 39, 40, 41, 42, 43, 44, 45, 46, 47, 48, 49, 50, 51, 52, 53, 54, 55, 56, 57, 58, 59, 60, 61, 62, 63, 64, 65, 66, 67, 68, 69, 70, 71, 72, 73, 74, 75, 76, 77, 78, 79] (fun m j H' R' => H' = H ∧ (∀ p ∈ R, p ∈ R') ∧ ∃ i : Nat, i + m = l1.length ∧ j 5 = .int .i64 (i : Int)) l1.length sjp ⟨rfl, fun _ h => h, 0, by omega, rfl⟩ ?_
  rintro m j H' R' ⟨hH, hR, i, hi, h5⟩
  subst hH
  have hn1 := hR _ hml1
  have hn2 := hR _ hml2
  refine TC_env (by simp only [setJ, List.foldl_cons, List.foldl_nil, List.set_cons_succ, List.set_cons_zero, h5]; rfl) ?_
  rcases Nat.lt_or_ge i l1.length with hlt | hge
  · obtain ⟨x, hx⟩ : ∃ x, l1[i]? = some x := ⟨_, List.getElem?_eq_getElem hlt⟩
    obtain ⟨y, hy⟩ : ∃ y, l2[i]? = some y := ⟨_, List.getElem?_eq_getElem (by omega)⟩
    have hE : l1 = l2 → x = y := fun e => by
      subst e
      rw [hx] at hy
      injection hy
    obtain ⟨x0, x1, x2, x3, x4, x5, x6⟩ := x
    obtain ⟨y0, y1, y2, y3, y4, y5, y6⟩ := y
    repeat' (first | (apply T_idx; exact rfl; ((first | refine pw_index_sc (v := .slice A1 l1.length c1) (xs := l1) rfl rfl memt hx rfl (fun b o A0_ c0_ A1_ c1_ => ?_) | refine pw_index_sc (v := .slice A2 l2.length c2) (xs := l2) rfl rfl memt hy rfl (fun b o A0_ c0_ A1_ c1_ => ?_))); refine T_nv ?_) | (apply T_bin; exact rfl; ((refine pw_neqB rfl rfl (fun h => ?_) (fun h => ?_))) <;> refine T_nv ?_) | (refine T_ow rfl ?_; refine ow_callf rfl ?_; refine equalAll_k _ _ _ _ _ _ memt memt (fun r hr => ?_); cases r <;> refine T_nv ?_) | (apply TC_seq) | (apply TC_region) | (apply TC_block) | (apply TC_ret) | (apply TC_skip) | (apply TC_cond_true; exact rfl) | (apply TC_cond_false; exact rfl) | (apply T_nil) | (apply En_then) | (apply En_then_ret) | (apply En_block) | (apply En_block_ret) | (apply T_load; exact rfl; ((first | refine pw_load (i := 0) rfl rfl rfl ?_ | refine pw_load (i := 1) rfl rfl rfl ?_ | refine pw_load_at0 rfl memr rfl ?_)); refine T_nv ?_) | (apply T_bin; exact rfl; ((refine pw_add64 rfl rfl (by omega) (by omega) ?_)); refine T_nv ?_) | (apply T_bin; exact rfl; ((first | refine pw_lss rfl rfl (fun h => ?_) (fun h => ?_) | refine pw_neq rfl rfl (fun h => ?_) (fun h => ?_))) <;> (first | (exfalso; omega) | refine T_nv ?_)) | (apply T_store; exact rfl; ((refine gw_store (i := 0) rfl clp rfl (by rfl) (by simp) (by simp [Value.oneCell']) ?_)); refine T_nv ?_; refine T_hq ?_) | (refine T_pure rfl rfl ?_; ((first | refine pw_mv ?_ | refine pw_as ?_ | refine pw_pick_t rfl evp ?_ | refine pw_pick_f rfl evp ?_ | refine pw_fieldAddr rfl ?_ | refine pw_len rfl ?_ | refine pw_not rfl ?_)); refine T_nv ?_) | (refine T_skipped rfl ?_; refine T_nv ?_) | (refine T_gen rfl rfl ?_; ((refine gw_alloc clp (fun b => ?_))); refine T_nv ?_))
    all_goals (first | exact En_backS (m - 1) _ R (by omega) sjp ⟨rfl, fun _ h => h, i + 1, by omega, rfl⟩ (fun w hs => hs.weaken sbp (fun p hp => by have hp := hR p hp; repeat ((first | with_reducible exact hp | with_reducible apply List.mem_cons_of_mem)))) | exact En_fin (.inl rfl) (res1 rfl (rv_tmp rfl)) (fin_K H' R (fun w hs => hs.weaken sbp (fun p hp => by have hp := hR p hp; repeat ((first | with_reducible exact hp | with_reducible apply List.mem_cons_of_mem)))) (k false (fun e => by have e := hE e; (first | exact absurd (hr (by cases e; rfl)) (by decide) | (cases e; exact absurd rfl (by assumption)))))))
  · skip
    repeat' (first | (apply TC_seq) | (apply TC_region) | (apply TC_ret) | (apply TC_exit) | (apply TC_cond_false; exact rfl) | (apply T_nil) | (apply En_then) | (apply En_then_exit) | (apply En_block_exit) | (apply T_bin; exact rfl; ((refine pw_lss rfl rfl (fun h => ?_) (fun h => ?_))) <;> (first | (exfalso; omega) | refine T_nv ?_)) | (refine T_pure rfl rfl ?_; ((first | refine pw_mv ?_ | refine pw_as ?_ | refine pw_len rfl ?_)); refine T_nv ?_))
    exact En_fin (.inl rfl) (res1 rfl (rv_tmp rfl)) (fin_K H' R (fun w hs => hs.weaken sbp hR) (k true (fun _ => rfl)))
end Go.Proofs.Ytggdljhmbckpmaa
namespace Go.Proofs.Ytggdljhmbckpmaa
open Go Go.RowKit
set_option maxRecDepth 100000
set_option maxHeartbeats 3200000

theorem sameChoice_k {w0 : World} {H : List Hp} {R : List MP} {K : Value → List Hp → List MP → Prop} (nx0 : Int) (Ax1 : Option Addr) (cx1 : Nat) (nx1 : List TyD) (Ax2 : Option Addr) (cx2 : Nat) (nx2 : List Tm) (nx3 : Int) (nx4 : Int) (nx5 : Int) (nx6 : Int) (nx7 : Int) (nx8 : Int) (nx9 : Int) (nx10 : Bool) (Ax11 : Option Addr) (cx11 : Nat) (nx11 : List Int) (Ax12 : Option Addr) (cx12 : Nat) (nx12 : List Int) (nx13 : Int) (nx14 : Int) (nx15 : Int) (nx16 : Int) (nx17 : Int) (ny0 : Int) (Ay1 : Option Addr) (cy1 : Nat) (ny1 : List TyD) (Ay2 : Option Addr) (cy2 : Nat) (ny2 : List Tm) (ny3 : Int) (ny4 : Int) (ny5 : Int) (ny6 : Int) (ny7 : Int) (ny8 : Int) (ny9 : Int) (ny10 : Bool) (Ay11 : Option Addr) (cy11 : Nat) (ny11 : List Int) (Ay12 : Option Addr) (cy12 : Nat) (ny12 : List Int) (ny13 : Int) (ny14 : Int) (ny15 : Int) (ny16 : Int) (ny17 : Int) (hx0 : Sl (.slice Ax1 nx1.length cx1) nx1 ∈ R) (hx1 : Sl (.slice Ax2 nx2.length cx2) nx2 ∈ R) (hx2 : Sl (.slice Ax11 nx11.length cx11) nx11 ∈ R) (hx3 : Sl (.slice Ax12 nx12.length cx12) nx12 ∈ R) (hy0 : Sl (.slice Ay1 ny1.length cy1) ny1 ∈ R) (hy1 : Sl (.slice Ay2 ny2.length cy2) ny2 ∈ R) (hy2 : Sl (.slice Ay11 ny11.length cy11) ny11 ∈ R) (hy3 : Sl (.slice Ay12 ny12.length cy12) ny12 ∈ R)
    (k : ∀ r : Bool, (((nx0, nx1, nx2, nx3, nx4, nx5, nx6, nx7, nx8, nx9, nx10, nx11, nx12, nx13, nx14, nx15, nx16, nx17) : ChD) = ((ny0, ny1, ny2, ny3, ny4, ny5, ny6, ny7, ny8, ny9, ny10, ny11, ny12, ny13, ny14, ny15, ny16, ny17) : ChD) → r = true) → K (.bool r) H R) : CallsK Try.prog w0 47 #[.agg #[.int .i64 nx0, .slice Ax1 nx1.length cx1, .slice Ax2 nx2.length cx2, .int .i64 nx3, .int .i64 nx4, .int .i64 nx5, .int .i64 nx6, .int .i64 nx7, .int .i64 nx8, .int .i64 nx9, .bool nx10, .slice Ax11 nx11.length cx11, .slice Ax12 nx12.length cx12, .int .i64 nx13, .int .i64 nx14, .int .i64 nx15, .int .i64 nx16, .int .i64 nx17], .agg #[.int .i64 ny0, .slice Ay1 ny1.length cy1, .slice Ay2 ny2.length cy2, .int .i64 ny3, .int .i64 ny4, .int .i64 ny5, .int .i64 ny6, .int .i64 ny7, .int .i64 ny8, .int .i64 ny9, .bool ny10, .slice Ay11 ny11.length cy11, .slice Ay12 ny12.length cy12, .int .i64 ny13, .int .i64 ny14, .int .i64 ny15, .int .i64 ny16, .int .i64 ny17]] H R K := by
  refine calls_of Try.func47 rfl Try.ntmps47 nep ?_
  repeat' first
    | (apply T_bin; exact rfl; (first | refine pw_neqB rfl rfl (fun h => ?_) (fun h => ?_) | refine pw_neqb rfl rfl (fun h => ?_) (fun h => ?_) | refine pw_eqlb rfl rfl (fun h => ?_) (fun h => ?_)) <;> refine T_nv ?_)
    | (refine T_ow rfl ?_; refine ow_callf rfl ?_; refine sameTries_k _ _ _ _ _ _ memt memt (fun r hr => ?_); cases r <;> refine T_nv ?_)
    | (refine T_ow rfl ?_; refine ow_callf rfl ?_; refine sameInts_k _ _ _ _ _ _ memt memt (fun r hr => ?_); cases r <;> refine T_nv ?_)
    | (apply TC_seq)
    | (apply TC_region)
    | (apply TC_block)
    | (apply TC_ret)
    | (apply TC_skip)
    | (apply TC_exit)
    | (apply TC_cond_true; exact rfl)
    | (apply TC_cond_false; exact rfl)
    | (apply T_nil)
    | (apply En_then)
    | (apply En_then_ret)
    | (apply En_then_exit)
    | (apply En_then_panic)
    | (apply En_block)
    | (apply En_block_ret)
    | (apply En_block_panic)
    | (apply En_block_exit)
    | (apply En_block_exit_ne; exact rfl)
    | (apply T_load; exact rfl; (first | refine pw_load (i := 0) rfl rfl rfl ?_ | refine pw_load (i := 1) rfl rfl rfl ?_ | refine pw_load (i := 2) rfl rfl rfl ?_ | refine pw_load (i := 3) rfl rfl rfl ?_ | refine pw_load (i := 4) rfl rfl rfl ?_ | refine pw_load (i := 5) rfl rfl rfl ?_ | refine pw_load_at rfl memr rfl ?_ | refine pw_load_at0 rfl memr rfl ?_ | refine pw_load_at rfl memt rfl ?_ | refine pw_load_at0 rfl memt rfl ?_); refine T_nv ?_)
    | (apply T_bin; exact rfl; (first | refine pw_add64 rfl rfl (by omega) (by omega) ?_ | refine pw_sub64 rfl rfl (by omega) (by omega) ?_ | refine pw_mul64 rfl rfl (by omega) (by omega) ?_ | refine pw_quo rfl rfl (by omega) (by omega) (by omega) ?_ | refine pw_rem rfl rfl (by omega) (by omega) ?_); refine T_nv ?_)
    | (apply T_bin; exact rfl; (first | refine pw_lss rfl rfl (fun h => ?_) (fun h => ?_) | refine pw_leq rfl rfl (fun h => ?_) (fun h => ?_) | refine pw_gtr rfl rfl (fun h => ?_) (fun h => ?_) | refine pw_geq rfl rfl (fun h => ?_) (fun h => ?_) | refine pw_eql rfl rfl (fun h => ?_) (fun h => ?_) | refine pw_neq rfl rfl (fun h => ?_) (fun h => ?_)) <;> first | (exfalso; omega) | refine T_nv ?_)
    | (refine T_pure rfl rfl ?_; (first | refine pw_mv ?_ | refine pw_as ?_ | refine pw_pick_t rfl evp ?_ | refine pw_pick_f rfl evp ?_ | refine pw_nilCheck rfl ?_ | refine pw_fieldAddr rfl ?_ | refine pw_len rfl ?_ | refine pw_lens rfl ?_ | refine pw_extract rfl rfl ?_ | refine pw_not rfl ?_ | refine pw_makeFuncL agp agp ?_ | refine pw_build bldp ?_ | refine pw_makeInterface rfl ?_); refine T_nv ?_)
    | (refine T_skipped rfl ?_; refine T_nv ?_)
    | (refine T_gen rfl rfl ?_; (first | refine gw_box clp (fun b => ?_) | refine gw_alloc clp (fun b => ?_) | refine gw_buildSlice (by decide) prtp rfl (fun b => ?_)); refine T_nv ?_)
  all_goals first
    | exact En_fin (.inl rfl) (res1 rfl (rv_tmp rfl)) (fin_K H R (fun w hs => hs.weaken sbp kpp) (k true (fun _ => rfl)))
    | exact En_fin (.inl rfl) (res1 rfl (rv_tmp rfl)) (fin_K H R (fun w hs => hs.weaken sbp kpp) (k false (fun e => by first | exact absurd (hr (by cases e; rfl)) (by decide) | (cases e; exact absurd rfl (by assumption)))))
theorem sameHeads_k {w0 : World} {H : List Hp} {R : List MP} {K : Value → List Hp → List MP → Prop} (nx0 : Int) (nx1 : Int) (nx2 : Int) (nx3 : Int) (nx4 : Int) (nx5 : Int) (nx6 : Bool) (Ax7 : Option Addr) (cx7 : Nat) (nx7 : List Int) (Ax8 : Option Addr) (cx8 : Nat) (nx8 : List Int) (Ax9 : Option Addr) (cx9 : Nat) (nx9 : List FrD) (Ax10 : Option Addr) (cx10 : Nat) (nx10 : List BrD) (Ax11 : Option Addr) (cx11 : Nat) (nx11 : List ScD) (Ax12 : Option Addr) (cx12 : Nat) (nx12 : List VaD) (Ax13 : Option Addr) (cx13 : Nat) (nx13 : List TrD) (Ax14 : Option Addr) (cx14 : Nat) (nx14 : List ChD) (nx15 : Int) (ny0 : Int) (ny1 : Int) (ny2 : Int) (ny3 : Int) (ny4 : Int) (ny5 : Int) (ny6 : Bool) (Ay7 : Option Addr) (cy7 : Nat) (ny7 : List Int) (Ay8 : Option Addr) (cy8 : Nat) (ny8 : List Int) (Ay9 : Option Addr) (cy9 : Nat) (ny9 : List FrD) (Ay10 : Option Addr) (cy10 : Nat) (ny10 : List BrD) (Ay11 : Option Addr) (cy11 : Nat) (ny11 : List ScD) (Ay12 : Option Addr) (cy12 : Nat) (ny12 : List VaD) (Ay13 : Option Addr) (cy13 : Nat) (ny13 : List TrD) (Ay14 : Option Addr) (cy14 : Nat) (ny14 : List ChD) (ny15 : Int) (hx0 : Sl (.slice Ax7 nx7.length cx7) nx7 ∈ R) (hx1 : Sl (.slice Ax8 nx8.length cx8) nx8 ∈ R) (hx2 : Sl (.slice Ax9 nx9.length cx9) nx9 ∈ R) (hx3 : Sl (.slice Ax10 nx10.length cx10) nx10 ∈ R) (hx4 : Sl (.slice Ax11 nx11.length cx11) nx11 ∈ R) (hx5 : Sl (.slice Ax12 nx12.length cx12) nx12 ∈ R) (hx6 : Sl (.slice Ax13 nx13.length cx13) nx13 ∈ R) (hx7 : Sl (.slice Ax14 nx14.length cx14) nx14 ∈ R) (hy0 : Sl (.slice Ay7 ny7.length cy7) ny7 ∈ R) (hy1 : Sl (.slice Ay8 ny8.length cy8) ny8 ∈ R) (hy2 : Sl (.slice Ay9 ny9.length cy9) ny9 ∈ R) (hy3 : Sl (.slice Ay10 ny10.length cy10) ny10 ∈ R) (hy4 : Sl (.slice Ay11 ny11.length cy11) ny11 ∈ R) (hy5 : Sl (.slice Ay12 ny12.length cy12) ny12 ∈ R) (hy6 : Sl (.slice Ay13 ny13.length cy13) ny13 ∈ R) (hy7 : Sl (.slice Ay14 ny14.length cy14) ny14 ∈ R)
    (k : ∀ r : Bool, (((nx0, nx1, nx2, nx3, nx4, nx5, nx6, nx7, nx8, nx9, nx10, nx11, nx12, nx13, nx14, nx15) : MaD) = ((ny0, ny1, ny2, ny3, ny4, ny5, ny6, ny7, ny8, ny9, ny10, ny11, ny12, ny13, ny14, ny15) : MaD) → r = true) → K (.bool r) H R) : CallsK Try.prog w0 42 #[.agg #[.int .i64 nx0, .int .i64 nx1, .int .i64 nx2, .int .i64 nx3, .int .i64 nx4, .int .i64 nx5, .bool nx6, .slice Ax7 nx7.length cx7, .slice Ax8 nx8.length cx8, .slice Ax9 nx9.length cx9, .slice Ax10 nx10.length cx10, .slice Ax11 nx11.length cx11, .slice Ax12 nx12.length cx12, .slice Ax13 nx13.length cx13, .slice Ax14 nx14.length cx14, .int .i64 nx15], .agg #[.int .i64 ny0, .int .i64 ny1, .int .i64 ny2, .int .i64 ny3, .int .i64 ny4, .int .i64 ny5, .bool ny6, .slice Ay7 ny7.length cy7, .slice Ay8 ny8.length cy8, .slice Ay9 ny9.length cy9, .slice Ay10 ny10.length cy10, .slice Ay11 ny11.length cy11, .slice Ay12 ny12.length cy12, .slice Ay13 ny13.length cy13, .slice Ay14 ny14.length cy14, .int .i64 ny15]] H R K := by
  refine calls_of Try.func42 rfl Try.ntmps42 nep ?_
  repeat' first
    | (apply T_bin; exact rfl; (first | refine pw_neqB rfl rfl (fun h => ?_) (fun h => ?_) | refine pw_neqb rfl rfl (fun h => ?_) (fun h => ?_) | refine pw_eqlb rfl rfl (fun h => ?_) (fun h => ?_)) <;> refine T_nv ?_)
    | (refine T_ow rfl ?_; refine ow_callf rfl ?_; refine sameInts_k _ _ _ _ _ _ memt memt (fun r hr => ?_); cases r <;> refine T_nv ?_)
    | (apply TC_seq)
    | (apply TC_region)
    | (apply TC_block)
    | (apply TC_ret)
    | (apply TC_skip)
    | (apply TC_exit)
    | (apply TC_cond_true; exact rfl)
    | (apply TC_cond_false; exact rfl)
    | (apply T_nil)
    | (apply En_then)
    | (apply En_then_ret)
    | (apply En_then_exit)
    | (apply En_then_panic)
    | (apply En_block)
    | (apply En_block_ret)
    | (apply En_block_panic)
    | (apply En_block_exit)
    | (apply En_block_exit_ne; exact rfl)
    | (apply T_load; exact rfl; (first | refine pw_load (i := 0) rfl rfl rfl ?_ | refine pw_load (i := 1) rfl rfl rfl ?_ | refine pw_load (i := 2) rfl rfl rfl ?_ | refine pw_load (i := 3) rfl rfl rfl ?_ | refine pw_load (i := 4) rfl rfl rfl ?_ | refine pw_load (i := 5) rfl rfl rfl ?_ | refine pw_load_at rfl memr rfl ?_ | refine pw_load_at0 rfl memr rfl ?_ | refine pw_load_at rfl memt rfl ?_ | refine pw_load_at0 rfl memt rfl ?_); refine T_nv ?_)
    | (apply T_bin; exact rfl; (first | refine pw_add64 rfl rfl (by omega) (by omega) ?_ | refine pw_sub64 rfl rfl (by omega) (by omega) ?_ | refine pw_mul64 rfl rfl (by omega) (by omega) ?_ | refine pw_quo rfl rfl (by omega) (by omega) (by omega) ?_ | refine pw_rem rfl rfl (by omega) (by omega) ?_); refine T_nv ?_)
    | (apply T_bin; exact rfl; (first | refine pw_lss rfl rfl (fun h => ?_) (fun h => ?_) | refine pw_leq rfl rfl (fun h => ?_) (fun h => ?_) | refine pw_gtr rfl rfl (fun h => ?_) (fun h => ?_) | refine pw_geq rfl rfl (fun h => ?_) (fun h => ?_) | refine pw_eql rfl rfl (fun h => ?_) (fun h => ?_) | refine pw_neq rfl rfl (fun h => ?_) (fun h => ?_)) <;> first | (exfalso; omega) | refine T_nv ?_)
    | (refine T_pure rfl rfl ?_; (first | refine pw_mv ?_ | refine pw_as ?_ | refine pw_pick_t rfl evp ?_ | refine pw_pick_f rfl evp ?_ | refine pw_nilCheck rfl ?_ | refine pw_fieldAddr rfl ?_ | refine pw_len rfl ?_ | refine pw_lens rfl ?_ | refine pw_extract rfl rfl ?_ | refine pw_not rfl ?_ | refine pw_makeFuncL agp agp ?_ | refine pw_build bldp ?_ | refine pw_makeInterface rfl ?_); refine T_nv ?_)
    | (refine T_skipped rfl ?_; refine T_nv ?_)
    | (refine T_gen rfl rfl ?_; (first | refine gw_box clp (fun b => ?_) | refine gw_alloc clp (fun b => ?_) | refine gw_buildSlice (by decide) prtp rfl (fun b => ?_)); refine T_nv ?_)
  all_goals first
    | exact En_fin (.inl rfl) (res1 rfl (rv_tmp rfl)) (fin_K H R (fun w hs => hs.weaken sbp kpp) (k true (fun _ => rfl)))
    | exact En_fin (.inl rfl) (res1 rfl (rv_tmp rfl)) (fin_K H R (fun w hs => hs.weaken sbp kpp) (k false (fun e => by first | exact absurd (hr (by cases e; rfl)) (by decide) | (cases e; exact absurd rfl (by assumption)))))
end Go.Proofs.Ytggdljhmbckpmaa
