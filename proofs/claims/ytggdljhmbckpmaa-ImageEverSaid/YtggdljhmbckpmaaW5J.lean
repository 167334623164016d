/- Stores compared: walk. States compared: walk. -/
import Derived.Test.YtggdljhmbckpmaaW3J
import Derived.Test.YtggdljhmbckpmaaA18J
set_option linter.unusedVariables false
set_option linter.unusedSimpArgs false
namespace Go.Proofs.Ytggdljhmbckpmaa
open Go Go.RowKit
set_option maxRecDepth 100000
set_option maxHeartbeats 3200000

theorem sameStores_k {w0 : World} {H : List Hp} {R : List MP} {K : Value → List Hp → List MP → Prop} (nx0 : Int) (nx1 : Int) (nx2 : Int) (nx3 : Int) (nx4 : Int) (nx5 : Int) (nx6 : Bool) (Ax7 : Option Addr) (cx7 : Nat) (nx7 : List Int) (Ax8 : Option Addr) (cx8 : Nat) (nx8 : List Int) (Ax9 : Option Addr) (cx9 : Nat) (nx9 : List FrD) (Ax10 : Option Addr) (cx10 : Nat) (nx10 : List BrD) (Ax11 : Option Addr) (cx11 : Nat) (nx11 : List ScD) (Ax12 : Option Addr) (cx12 : Nat) (nx12 : List VaD) (Ax13 : Option Addr) (cx13 : Nat) (nx13 : List TrD) (Ax14 : Option Addr) (cx14 : Nat) (nx14 : List ChD) (nx15 : Int) (ny0 : Int) (ny1 : Int) (ny2 : Int) (ny3 : Int) (ny4 : Int) (ny5 : Int) (ny6 : Bool) (Ay7 : Option Addr) (cy7 : Nat) (ny7 : List Int) (Ay8 : Option Addr) (cy8 : Nat) (ny8 : List Int) (Ay9 : Option Addr) (cy9 : Nat) (ny9 : List FrD) (Ay10 : Option Addr) (cy10 : Nat) (ny10 : List BrD) (Ay11 : Option Addr) (cy11 : Nat) (ny11 : List ScD) (Ay12 : Option Addr) (cy12 : Nat) (ny12 : List VaD) (Ay13 : Option Addr) (cy13 : Nat) (ny13 : List TrD) (Ay14 : Option Addr) (cy14 : Nat) (ny14 : List ChD) (ny15 : Int) (hx0 : Sl (.slice Ax7 nx7.length cx7) nx7 ∈ R) (hx1 : Sl (.slice Ax8 nx8.length cx8) nx8 ∈ R) (hx2 : Sl (.slice Ax9 nx9.length cx9) nx9 ∈ R) (hx3 : Sl (.slice Ax10 nx10.length cx10) nx10 ∈ R) (hx4 : Sl (.slice Ax11 nx11.length cx11) nx11 ∈ R) (hx5 : Sl (.slice Ax12 nx12.length cx12) nx12 ∈ R) (hx6 : Sl (.slice Ax13 nx13.length cx13) nx13 ∈ R) (hx7 : Sl (.slice Ax14 nx14.length cx14) nx14 ∈ R) (hy0 : Sl (.slice Ay7 ny7.length cy7) ny7 ∈ R) (hy1 : Sl (.slice Ay8 ny8.length cy8) ny8 ∈ R) (hy2 : Sl (.slice Ay9 ny9.length cy9) ny9 ∈ R) (hy3 : Sl (.slice Ay10 ny10.length cy10) ny10 ∈ R) (hy4 : Sl (.slice Ay11 ny11.length cy11) ny11 ∈ R) (hy5 : Sl (.slice Ay12 ny12.length cy12) ny12 ∈ R) (hy6 : Sl (.slice Ay13 ny13.length cy13) ny13 ∈ R) (hy7 : Sl (.slice Ay14 ny14.length cy14) ny14 ∈ R)
    (k : ∀ r : Bool, (((nx0, nx1, nx2, nx3, nx4, nx5, nx6, nx7, nx8, nx9, nx10, nx11, nx12, nx13, nx14, nx15) : MaD) = ((ny0, ny1, ny2, ny3, ny4, ny5, ny6, ny7, ny8, ny9, ny10, ny11, ny12, ny13, ny14, ny15) : MaD) → r = true) → K (.bool r) H R) : CallsK Try.prog w0 46 #[.agg #[.int .i64 nx0, .int .i64 nx1, .int .i64 nx2, .int .i64 nx3, .int .i64 nx4, .int .i64 nx5, .bool nx6, .slice Ax7 nx7.length cx7, .slice Ax8 nx8.length cx8, .slice Ax9 nx9.length cx9, .slice Ax10 nx10.length cx10, .slice Ax11 nx11.length cx11, .slice Ax12 nx12.length cx12, .slice Ax13 nx13.length cx13, .slice Ax14 nx14.length cx14, .int .i64 nx15], .agg #[.int .i64 ny0, .int .i64 ny1, .int .i64 ny2, .int .i64 ny3, .int .i64 ny4, .int .i64 ny5, .bool ny6, .slice Ay7 ny7.length cy7, .slice Ay8 ny8.length cy8, .slice Ay9 ny9.length cy9, .slice Ay10 ny10.length cy10, .slice Ay11 ny11.length cy11, .slice Ay12 ny12.length cy12, .slice Ay13 ny13.length cy13, .slice Ay14 ny14.length cy14, .int .i64 ny15]] H R K := by
  refine CallsK_fact (p := nx12.length ≤ 9223372036854775807) (fun w hs => by have := Sl_bound hs hx5; simp only [maxL] at this; omega) (fun hb1 => ?_)
  refine CallsK_fact (p := nx13.length ≤ 9223372036854775807) (fun w hs => by have := Sl_bound hs hx6; simp only [maxL] at this; omega) (fun hb2 => ?_)
  refine CallsK_fact (p := ny12.length ≤ 9223372036854775807) (fun w hs => by have := Sl_bound hs hy5; simp only [maxL] at this; omega) (fun hb3 => ?_)
  refine CallsK_fact (p := ny13.length ≤ 9223372036854775807) (fun w hs => by have := Sl_bound hs hy6; simp only [maxL] at this; omega) (fun hb4 => ?_)
  refine calls_of Try.func46 rfl Try.ntmps46 nep ?_
  apply TC_seq; apply TC_region
  repeat' (first | (refine T_pure rfl rfl ?_; ((refine pw_as ?_)); refine T_nv ?_) | (refine T_gen rfl rfl ?_; ((refine gw_box clp (fun b => ?_))); refine T_nv ?_))
  rename_i b2
  revert b
  intro b3
  apply T_nil; apply En_then
  repeat' (first | (apply TC_seq) | (apply TC_region) | (apply TC_block) | (apply TC_ret) | (apply TC_skip) | (apply TC_cond_true; exact rfl) | (apply TC_cond_false; exact rfl) | (apply T_nil) | (apply En_then) | (apply En_then_ret) | (apply T_load; exact rfl; ((first | refine pw_load (i := 0) rfl rfl rfl ?_ | refine pw_load (i := 1) rfl rfl rfl ?_)); refine T_nv ?_) | (apply T_bin; exact rfl; ((refine pw_neq rfl rfl (fun h => ?_) (fun h => ?_))) <;> (refine T_nv ?_)) | (refine T_pure rfl rfl ?_; ((first | refine pw_mv ?_ | refine pw_as ?_ | refine pw_pick_t rfl evp ?_ | refine pw_pick_f rfl evp ?_ | refine pw_fieldAddr rfl ?_ | refine pw_len rfl ?_)); refine T_nv ?_) | (refine T_skipped rfl ?_; refine T_nv ?_))
  all_goals try exact En_fin (.inl rfl) (res1 rfl (rv_tmp rfl)) (fin_K H R (fun w hs => hs.weaken sbp kpp) (k false (fun e => by cases e; exact absurd rfl (by assumption))))
  have hl1 : nx12.length = ny12.length := by omega
  have hl2 : nx13.length = ny13.length := by omega
  refine TC_loopS [4, 5, 25, 26, 27, 28, 29, 30, 31, 32, 33, 34, 35, 36, 37, 38, 39, 40, 41, 42, 43, 44, 45, 46] (fun m j H' R' => H' = .blk b3 [.int .i64 ny0, .int .i64 ny1, .int .i64 ny2, .int .i64 ny3, .int .i64 ny4, .int .i64 ny5, .bool ny6, .slice Ay7 ny7.length cy7, .slice Ay8 ny8.length cy8, .slice Ay9 ny9.length cy9, .slice Ay10 ny10.length cy10, .slice Ay11 ny11.length cy11, .slice Ay12 ny12.length cy12, .slice Ay13 ny13.length cy13, .slice Ay14 ny14.length cy14, .int .i64 ny15] 32 :: .blk b2 [.int .i64 nx0, .int .i64 nx1, .int .i64 nx2, .int .i64 nx3, .int .i64 nx4, .int .i64 nx5, .bool nx6, .slice Ax7 nx7.length cx7, .slice Ax8 nx8.length cx8, .slice Ax9 nx9.length cx9, .slice Ax10 nx10.length cx10, .slice Ax11 nx11.length cx11, .slice Ax12 nx12.length cx12, .slice Ax13 nx13.length cx13, .slice Ax14 nx14.length cx14, .int .i64 nx15] 32 :: H ∧ (∀ p ∈ R, p ∈ R') ∧ ∃ i : Nat, i + m = nx12.length ∧ j 5 = .int .i64 (i : Int)) nx12.length sjp ⟨rfl, fun _ h => h, 0, by omega, rfl⟩ ?_
  rintro m j H' R' ⟨hH, hR, i, hi, h5⟩
  subst hH
  have hn1 := hR _ hx5
  have hn2 := hR _ hy5
  refine TC_env (by simp only [setJ, List.foldl_cons, List.foldl_nil, List.set_cons_succ, List.set_cons_zero, h5]; rfl) ?_
  rcases Nat.lt_or_ge i nx12.length with hlt | hge
  · obtain ⟨x, hx⟩ : ∃ x, nx12[i]? = some x := ⟨_, List.getElem?_eq_getElem hlt⟩
    obtain ⟨y, hy⟩ : ∃ y, ny12[i]? = some y := ⟨_, List.getElem?_eq_getElem (by omega)⟩
    have hE : ((nx0, nx1, nx2, nx3, nx4, nx5, nx6, nx7, nx8, nx9, nx10, nx11, nx12, nx13, nx14, nx15) : MaD) = ((ny0, ny1, ny2, ny3, ny4, ny5, ny6, ny7, ny8, ny9, ny10, ny11, ny12, ny13, ny14, ny15) : MaD) → x = y := fun e => by
      cases e
      rw [hx] at hy
      injection hy
    obtain ⟨x0, ⟨x1, x2⟩, x3, ⟨x4, x5, x6, x7⟩⟩ := x
    obtain ⟨y0, ⟨y1, y2⟩, y3, ⟨y4, y5, y6, y7⟩⟩ := y
    repeat' (first | (apply TC_seq) | (apply TC_region) | (apply TC_block) | (apply TC_skip) | (apply TC_cond_true; exact rfl) | (apply T_nil) | (apply En_then) | (apply T_load; exact rfl; ((refine pw_load (i := 1) rfl rfl rfl ?_)); refine T_nv ?_) | (apply T_bin; exact rfl; ((refine pw_lss rfl rfl (fun h => ?_) (fun h => ?_))) <;> (first | (exfalso; omega) | refine T_nv ?_)) | (refine T_pure rfl rfl ?_; ((first | refine pw_mv ?_ | refine pw_fieldAddr rfl ?_ | refine pw_len rfl ?_)); refine T_nv ?_))
    refine TC_draw mixed (by decide +kernel) (fun _ _ _ _ _ _ h => h) (List.Sublist.refl _) ?_
    all_goals ((refine TA_p 0 ?_; ((refine pw_fieldAddr rfl ?_)); refine TA_nv ?_))
    all_goals ((refine TA_p 1 ?_; ((refine pw_fieldAddr rfl ?_)); refine TA_nv ?_))
    all_goals ((refine TA_p 2 ?_; ((refine pw_load (i := 1) rfl rfl rfl ?_)); refine TA_nv ?_))
    all_goals ((refine TA_p 3 ?_; ((refine pw_mv ?_)); refine TA_nv ?_))
    all_goals ((refine TA_p 4 ?_; ((refine pw_index_va (v := .slice Ax12 nx12.length cx12) (xs := nx12) rfl rfl memt hx rfl (fun b o A0_ c0_ A1_ c1_ => ?_))); refine TA_nv ?_))
    all_goals ((refine TA_p 5 ?_; ((refine pw_load_at0 rfl memr rfl ?_)); refine TA_nv ?_))
    all_goals ((refine TA_p 6 ?_; ((refine pw_fieldAddr rfl ?_)); refine TA_nv ?_))
    all_goals ((refine TA_p 7 ?_; ((refine pw_fieldAddr rfl ?_)); refine TA_nv ?_))
    all_goals ((refine TA_p 8 ?_; ((refine pw_load (i := 0) rfl rfl rfl ?_)); refine TA_nv ?_))
    all_goals ((refine TA_p 9 ?_; ((refine pw_mv ?_)); refine TA_nv ?_))
    all_goals ((refine TA_p 10 ?_; ((refine pw_index_va (v := .slice Ay12 ny12.length cy12) (xs := ny12) rfl rfl memt hy rfl (fun b o A0_ c0_ A1_ c1_ => ?_))); refine TA_nv ?_))
    all_goals ((refine TA_p 11 ?_; ((refine pw_load_at0 rfl memr rfl ?_)); refine TA_nv ?_))
    -- left: [12, 13]; ready: [12]: ['call']
    refine TA_o 12 ?_
    refine ow_callf rfl ?_
    refine sameVal_k _ _ _ _ _ _ _ _ _ _ _ _ _ _ _ _ _ _ _ _ _ _ _ _ memt memt memt memt (fun r hr => ?_)
    refine ⟨.inl (fun w hs => hs), ?_⟩
    refine TA_nv ?_
    cases r
    all_goals ((refine TA_p 13 ?_; ((refine pw_not rfl ?_)); refine TA_nv ?_))
    all_goals refine TA_d ?_
    · skip
      repeat' (first | (apply TC_seq) | (apply TC_region) | (apply TC_ret) | (apply TC_cond_true; exact rfl) | (apply T_nil) | (apply En_then) | (apply En_then_ret) | (apply En_block_ret) | (refine T_pure rfl rfl ?_; ((refine pw_as ?_)); refine T_nv ?_))
      exact En_fin (.inl rfl) (res1 rfl (rv_tmp rfl)) (fin_K H R (fun w hs => hs.weaken sbp (fun p hp => by have hp := hR p hp; repeat ((first | with_reducible exact hp | with_reducible apply List.mem_cons_of_mem)))) (k false (fun e => hr (hE e))))
    · skip
      repeat' (first | (apply TC_region) | (apply TC_skip) | (apply TC_cond_false; exact rfl) | (apply T_nil) | (apply En_then) | (apply En_block) | (apply T_bin; exact rfl; ((refine pw_add64 rfl rfl (by omega) (by omega) ?_)); refine T_nv ?_) | (refine T_pure rfl rfl ?_; ((first | refine pw_mv ?_ | refine pw_as ?_)); refine T_nv ?_))
      exact En_backS (m - 1) _ R (by omega) sjp ⟨rfl, fun _ h => h, i + 1, by omega, rfl⟩ (fun w hs => hs.weaken sbp (fun p hp => by have hp := hR p hp; repeat ((first | with_reducible exact hp | with_reducible apply List.mem_cons_of_mem))))
  · skip
    repeat' (first | (apply TC_seq) | (apply TC_region) | (apply TC_block) | (apply TC_exit) | (apply TC_cond_false; exact rfl) | (apply T_nil) | (apply En_then) | (apply En_then_exit) | (apply En_block_exit) | (apply T_load; exact rfl; ((refine pw_load (i := 1) rfl rfl rfl ?_)); refine T_nv ?_) | (apply T_bin; exact rfl; ((refine pw_lss rfl rfl (fun h => ?_) (fun h => ?_))) <;> (first | (exfalso; omega) | refine T_nv ?_)) | (refine T_pure rfl rfl ?_; ((first | refine pw_mv ?_ | refine pw_as ?_ | refine pw_fieldAddr rfl ?_ | refine pw_len rfl ?_)); refine T_nv ?_))
    refine TC_loopS [4, 6, 47, 48, 49, 50, 51, 52, 53, 54, 55, 56, 57, 58, 59, 60, 61, 62, 63, 64, 65, 66, 67, 68, 69, 70, 71, 72, 73, 74, 75, 76, 77, 78, 79, 80, 81, 82] (fun m j H'' R'' => H'' = .blk b3 [.int .i64 ny0, .int .i64 ny1, .int .i64 ny2, .int .i64 ny3, .int .i64 ny4, .int .i64 ny5, .bool ny6, .slice Ay7 ny7.length cy7, .slice Ay8 ny8.length cy8, .slice Ay9 ny9.length cy9, .slice Ay10 ny10.length cy10, .slice Ay11 ny11.length cy11, .slice Ay12 ny12.length cy12, .slice Ay13 ny13.length cy13, .slice Ay14 ny14.length cy14, .int .i64 ny15] 32 :: .blk b2 [.int .i64 nx0, .int .i64 nx1, .int .i64 nx2, .int .i64 nx3, .int .i64 nx4, .int .i64 nx5, .bool nx6, .slice Ax7 nx7.length cx7, .slice Ax8 nx8.length cx8, .slice Ax9 nx9.length cx9, .slice Ax10 nx10.length cx10, .slice Ax11 nx11.length cx11, .slice Ax12 nx12.length cx12, .slice Ax13 nx13.length cx13, .slice Ax14 nx14.length cx14, .int .i64 nx15] 32 :: H ∧ (∀ p ∈ R, p ∈ R'') ∧ ∃ i : Nat, i + m = nx13.length ∧ j 6 = .int .i64 (i : Int)) nx13.length sjp ⟨rfl, hR, 0, by omega, rfl⟩ ?_
    clear hn1 hn2 hR hi
    rintro m j2 H'' R'' ⟨hH, hR, i, hi, h6⟩
    subst hH
    have hn1 := hR _ hx6
    have hn2 := hR _ hy6
    refine TC_env (by simp only [setJ, List.foldl_cons, List.foldl_nil, List.set_cons_succ, List.set_cons_zero, h6]; rfl) ?_
    rcases Nat.lt_or_ge i nx13.length with hlt | hge
    · obtain ⟨x, hx⟩ : ∃ x, nx13[i]? = some x := ⟨_, List.getElem?_eq_getElem hlt⟩
      obtain ⟨y, hy⟩ : ∃ y, ny13[i]? = some y := ⟨_, List.getElem?_eq_getElem (by omega)⟩
      have hE : ((nx0, nx1, nx2, nx3, nx4, nx5, nx6, nx7, nx8, nx9, nx10, nx11, nx12, nx13, nx14, nx15) : MaD) = ((ny0, ny1, ny2, ny3, ny4, ny5, ny6, ny7, ny8, ny9, ny10, ny11, ny12, ny13, ny14, ny15) : MaD) → x = y := fun e => by
        cases e
        rw [hx] at hy
        injection hy
      obtain ⟨xq, x0, ⟨x1, x2⟩, x3, ⟨x4, x5, x6, x7⟩⟩ := x
      obtain ⟨yq, y0, ⟨y1, y2⟩, y3, ⟨y4, y5, y6, y7⟩⟩ := y
      repeat' (first | (apply TC_seq) | (apply TC_region) | (apply TC_block) | (apply TC_skip) | (apply TC_cond_true; exact rfl) | (apply T_nil) | (apply En_then) | (apply T_load; exact rfl; ((refine pw_load (i := 1) rfl rfl rfl ?_)); refine T_nv ?_) | (apply T_bin; exact rfl; ((refine pw_lss rfl rfl (fun h => ?_) (fun h => ?_))) <;> (first | (exfalso; omega) | refine T_nv ?_)) | (refine T_pure rfl rfl ?_; ((first | refine pw_mv ?_ | refine pw_fieldAddr rfl ?_ | refine pw_len rfl ?_)); refine T_nv ?_))
      refine TC_draw mixed (by decide +kernel) (fun _ _ _ _ _ _ h => h) (List.Sublist.refl _) ?_
      all_goals ((refine TA_p 0 ?_; ((refine pw_fieldAddr rfl ?_)); refine TA_nv ?_))
      all_goals ((refine TA_p 1 ?_; ((refine pw_load (i := 1) rfl rfl rfl ?_)); refine TA_nv ?_))
      all_goals ((refine TA_p 2 ?_; ((refine pw_mv ?_)); refine TA_nv ?_))
      all_goals ((refine TA_p 3 ?_; ((refine pw_index_tr (v := .slice Ax13 nx13.length cx13) (xs := nx13) rfl rfl memt hx rfl (fun b o A0_ c0_ A1_ c1_ => ?_))); refine TA_nv ?_))
      all_goals ((refine TA_p 4 ?_; ((refine pw_fieldAddr rfl ?_)); refine TA_nv ?_))
      all_goals ((refine TA_p 5 ?_; ((refine pw_load_at rfl memr rfl ?_)); refine TA_nv ?_))
      all_goals ((refine TA_p 6 ?_; ((refine pw_fieldAddr rfl ?_)); refine TA_nv ?_))
      all_goals ((refine TA_p 7 ?_; ((refine pw_load (i := 0) rfl rfl rfl ?_)); refine TA_nv ?_))
      all_goals ((refine TA_p 8 ?_; ((refine pw_mv ?_)); refine TA_nv ?_))
      all_goals ((refine TA_p 9 ?_; ((refine pw_index_tr (v := .slice Ay13 ny13.length cy13) (xs := ny13) rfl rfl memt hy rfl (fun b o A0_ c0_ A1_ c1_ => ?_))); refine TA_nv ?_))
      all_goals ((refine TA_p 10 ?_; ((refine pw_fieldAddr rfl ?_)); refine TA_nv ?_))
      all_goals ((refine TA_p 11 ?_; ((refine pw_load_at rfl memr rfl ?_)); refine TA_nv ?_))
      all_goals ((refine TA_p 12 ?_; ((refine pw_neq rfl rfl (fun h => ?_) (fun h => ?_))) <;> (refine TA_nv ?_)))
      all_goals ((refine TA_p 13 ?_; ((refine pw_mv ?_)); refine TA_nv ?_))
      all_goals (first | (refine TA_p 14 ?_; ((refine pw_fieldAddr rfl ?_)); refine TA_nv ?_) | (refine TA_ks 14 (List.Sublist.refl _) ?_))
      all_goals (first | (refine TA_p 15 ?_; ((refine pw_load (i := 1) rfl rfl rfl ?_)); refine TA_nv ?_) | (refine TA_ks 15 (List.Sublist.refl _) ?_))
      all_goals (first | (refine TA_p 16 ?_; ((refine pw_mv ?_)); refine TA_nv ?_) | (refine TA_ks 16 (List.Sublist.refl _) ?_))
      all_goals (first | (refine TA_p 17 ?_; ((refine pw_index_tr (v := .slice Ax13 nx13.length cx13) (xs := nx13) rfl rfl memt hx rfl (fun b o A0_ c0_ A1_ c1_ => ?_))); refine TA_nv ?_) | (refine TA_ks 17 (List.Sublist.refl _) ?_))
      all_goals (first | (refine TA_p 18 ?_; ((refine pw_fieldAddr rfl ?_)); refine TA_nv ?_) | (refine TA_ks 18 (List.Sublist.refl _) ?_))
      all_goals (first | (refine TA_p 19 ?_; ((refine pw_load_at rfl memr rfl ?_)); refine TA_nv ?_) | (refine TA_ks 19 (List.Sublist.refl _) ?_))
      all_goals (first | (refine TA_p 20 ?_; ((refine pw_fieldAddr rfl ?_)); refine TA_nv ?_) | (refine TA_ks 20 (List.Sublist.refl _) ?_))
      all_goals (first | (refine TA_p 21 ?_; ((refine pw_load (i := 0) rfl rfl rfl ?_)); refine TA_nv ?_) | (refine TA_ks 21 (List.Sublist.refl _) ?_))
      all_goals (first | (refine TA_p 22 ?_; ((refine pw_mv ?_)); refine TA_nv ?_) | (refine TA_ks 22 (List.Sublist.refl _) ?_))
      all_goals (first | (refine TA_p 23 ?_; ((refine pw_index_tr (v := .slice Ay13 ny13.length cy13) (xs := ny13) rfl rfl memt hy rfl (fun b o A0_ c0_ A1_ c1_ => ?_))); refine TA_nv ?_) | (refine TA_ks 23 (List.Sublist.refl _) ?_))
      all_goals (first | (refine TA_p 24 ?_; ((refine pw_fieldAddr rfl ?_)); refine TA_nv ?_) | (refine TA_ks 24 (List.Sublist.refl _) ?_))
      all_goals (first | (refine TA_p 25 ?_; ((refine pw_load_at rfl memr rfl ?_)); refine TA_nv ?_) | (refine TA_ks 25 (List.Sublist.refl _) ?_))
      -- left: [26, 27, 28]; ready: [26]: ['call']
      · refine TA_os 26 ?_
        all_goals ((refine TA_ks 27 (List.Sublist.refl _) ?_))
        all_goals ((refine TA_p 28 ?_; ((refine pw_pick_t rfl evp ?_)); refine TA_nv ?_))
        all_goals refine TA_d ?_
        repeat' (first | (apply TC_seq) | (apply TC_region) | (apply TC_ret) | (apply TC_cond_true; exact rfl) | (apply T_nil) | (apply En_then) | (apply En_then_ret) | (apply En_block_ret) | (refine T_pure rfl rfl ?_; ((refine pw_as ?_)); refine T_nv ?_))
        exact En_fin (.inl rfl) (res1 rfl (rv_tmp rfl)) (fin_K H R (fun w hs => hs.weaken sbp (fun p hp => by have hp := hR p hp; repeat ((first | with_reducible exact hp | with_reducible apply List.mem_cons_of_mem)))) (k false (fun e => by have e := hE e; cases e; exact absurd rfl (by assumption))))
      refine TA_o 26 ?_
      refine ow_callf rfl ?_
      refine sameVal_k _ _ _ _ _ _ _ _ _ _ _ _ _ _ _ _ _ _ _ _ _ _ _ _ memt memt memt memt (fun r hr => ?_)
      refine ⟨.inl (fun w hs => hs), ?_⟩
      refine TA_nv ?_
      cases r
      all_goals ((refine TA_p 27 ?_; ((refine pw_not rfl ?_)); refine TA_nv ?_))
      all_goals ((refine TA_p 28 ?_; ((refine pw_pick_f rfl evp ?_)); refine TA_nv ?_))
      all_goals refine TA_d ?_
      · skip
        repeat' (first | (apply TC_seq) | (apply TC_region) | (apply TC_ret) | (apply TC_cond_true; exact rfl) | (apply T_nil) | (apply En_then) | (apply En_then_ret) | (apply En_block_ret) | (refine T_pure rfl rfl ?_; ((refine pw_as ?_)); refine T_nv ?_))
        exact En_fin (.inl rfl) (res1 rfl (rv_tmp rfl)) (fin_K H R (fun w hs => hs.weaken sbp (fun p hp => by have hp := hR p hp; repeat ((first | with_reducible exact hp | with_reducible apply List.mem_cons_of_mem)))) (k false (fun e => by have e := hE e; cases e; exact hr rfl)))
      · skip
        repeat' (first | (apply TC_region) | (apply TC_skip) | (apply TC_cond_false; exact rfl) | (apply T_nil) | (apply En_then) | (apply En_block) | (apply T_bin; exact rfl; ((refine pw_add64 rfl rfl (by omega) (by omega) ?_)); refine T_nv ?_) | (refine T_pure rfl rfl ?_; ((first | refine pw_mv ?_ | refine pw_as ?_)); refine T_nv ?_))
        exact En_backS (m - 1) _ R (by omega) sjp ⟨rfl, fun _ h => h, i + 1, by omega, rfl⟩ (fun w hs => hs.weaken sbp (fun p hp => by have hp := hR p hp; repeat ((first | with_reducible exact hp | with_reducible apply List.mem_cons_of_mem))))
    · skip
      repeat' (first | (apply TC_seq) | (apply TC_region) | (apply TC_ret) | (apply TC_exit) | (apply TC_cond_false; exact rfl) | (apply T_nil) | (apply En_then) | (apply En_then_exit) | (apply En_block_exit) | (apply T_load; exact rfl; ((refine pw_load (i := 1) rfl rfl rfl ?_)); refine T_nv ?_) | (apply T_bin; exact rfl; ((refine pw_lss rfl rfl (fun h => ?_) (fun h => ?_))) <;> (first | (exfalso; omega) | refine T_nv ?_)) | (refine T_pure rfl rfl ?_; ((first | refine pw_mv ?_ | refine pw_as ?_ | refine pw_fieldAddr rfl ?_ | refine pw_len rfl ?_)); refine T_nv ?_))
      exact En_fin (.inl rfl) (res1 rfl (rv_tmp rfl)) (fin_K H R (fun w hs => hs.weaken sbp (fun p hp => by have hp := hR p hp; repeat ((with_reducible exact hp)))) (k true (fun _ => rfl)))
end Go.Proofs.Ytggdljhmbckpmaa
namespace Go.Proofs.Ytggdljhmbckpmaa
open Go Go.RowKit
set_option maxRecDepth 100000
set_option maxHeartbeats 3200000

theorem sameMach_k {w0 : World} {H : List Hp} {R : List MP} {K : Value → List Hp → List MP → Prop} (nx0 : Int) (nx1 : Int) (nx2 : Int) (nx3 : Int) (nx4 : Int) (nx5 : Int) (nx6 : Bool) (Ax7 : Option Addr) (cx7 : Nat) (nx7 : List Int) (Ax8 : Option Addr) (cx8 : Nat) (nx8 : List Int) (Ax9 : Option Addr) (cx9 : Nat) (nx9 : List FrD) (Ax10 : Option Addr) (cx10 : Nat) (nx10 : List BrD) (Ax11 : Option Addr) (cx11 : Nat) (nx11 : List ScD) (Ax12 : Option Addr) (cx12 : Nat) (nx12 : List VaD) (Ax13 : Option Addr) (cx13 : Nat) (nx13 : List TrD) (Ax14 : Option Addr) (cx14 : Nat) (nx14 : List ChD) (nx15 : Int) (ny0 : Int) (ny1 : Int) (ny2 : Int) (ny3 : Int) (ny4 : Int) (ny5 : Int) (ny6 : Bool) (Ay7 : Option Addr) (cy7 : Nat) (ny7 : List Int) (Ay8 : Option Addr) (cy8 : Nat) (ny8 : List Int) (Ay9 : Option Addr) (cy9 : Nat) (ny9 : List FrD) (Ay10 : Option Addr) (cy10 : Nat) (ny10 : List BrD) (Ay11 : Option Addr) (cy11 : Nat) (ny11 : List ScD) (Ay12 : Option Addr) (cy12 : Nat) (ny12 : List VaD) (Ay13 : Option Addr) (cy13 : Nat) (ny13 : List TrD) (Ay14 : Option Addr) (cy14 : Nat) (ny14 : List ChD) (ny15 : Int) (hx0 : Sl (.slice Ax7 nx7.length cx7) nx7 ∈ R) (hx1 : Sl (.slice Ax8 nx8.length cx8) nx8 ∈ R) (hx2 : Sl (.slice Ax9 nx9.length cx9) nx9 ∈ R) (hx3 : Sl (.slice Ax10 nx10.length cx10) nx10 ∈ R) (hx4 : Sl (.slice Ax11 nx11.length cx11) nx11 ∈ R) (hx5 : Sl (.slice Ax12 nx12.length cx12) nx12 ∈ R) (hx6 : Sl (.slice Ax13 nx13.length cx13) nx13 ∈ R) (hx7 : Sl (.slice Ax14 nx14.length cx14) nx14 ∈ R) (hy0 : Sl (.slice Ay7 ny7.length cy7) ny7 ∈ R) (hy1 : Sl (.slice Ay8 ny8.length cy8) ny8 ∈ R) (hy2 : Sl (.slice Ay9 ny9.length cy9) ny9 ∈ R) (hy3 : Sl (.slice Ay10 ny10.length cy10) ny10 ∈ R) (hy4 : Sl (.slice Ay11 ny11.length cy11) ny11 ∈ R) (hy5 : Sl (.slice Ay12 ny12.length cy12) ny12 ∈ R) (hy6 : Sl (.slice Ay13 ny13.length cy13) ny13 ∈ R) (hy7 : Sl (.slice Ay14 ny14.length cy14) ny14 ∈ R)
    (k : ∀ r : Bool, (((nx0, nx1, nx2, nx3, nx4, nx5, nx6, nx7, nx8, nx9, nx10, nx11, nx12, nx13, nx14, nx15) : MaD) = ((ny0, ny1, ny2, ny3, ny4, ny5, ny6, ny7, ny8, ny9, ny10, ny11, ny12, ny13, ny14, ny15) : MaD) → r = true) → K (.bool r) H R) : CallsK Try.prog w0 13 #[.agg #[.int .i64 nx0, .int .i64 nx1, .int .i64 nx2, .int .i64 nx3, .int .i64 nx4, .int .i64 nx5, .bool nx6, .slice Ax7 nx7.length cx7, .slice Ax8 nx8.length cx8, .slice Ax9 nx9.length cx9, .slice Ax10 nx10.length cx10, .slice Ax11 nx11.length cx11, .slice Ax12 nx12.length cx12, .slice Ax13 nx13.length cx13, .slice Ax14 nx14.length cx14, .int .i64 nx15], .agg #[.int .i64 ny0, .int .i64 ny1, .int .i64 ny2, .int .i64 ny3, .int .i64 ny4, .int .i64 ny5, .bool ny6, .slice Ay7 ny7.length cy7, .slice Ay8 ny8.length cy8, .slice Ay9 ny9.length cy9, .slice Ay10 ny10.length cy10, .slice Ay11 ny11.length cy11, .slice Ay12 ny12.length cy12, .slice Ay13 ny13.length cy13, .slice Ay14 ny14.length cy14, .int .i64 ny15]] H R K := by
  refine CallsK_fact (p := nx14.length ≤ 9223372036854775807) (fun w hs => by have := Sl_bound hs hx7; simp only [maxL] at this; omega) (fun hb1 => ?_)
  refine CallsK_fact (p := ny14.length ≤ 9223372036854775807) (fun w hs => by have := Sl_bound hs hy7; simp only [maxL] at this; omega) (fun hb3 => ?_)
  refine calls_of Try.func13 rfl Try.ntmps13 nep ?_
  apply TC_seq; apply TC_region
  repeat' (first | (refine T_pure rfl rfl ?_; ((refine pw_as ?_)); refine T_nv ?_) | (refine T_gen rfl rfl ?_; ((refine gw_box clp (fun b => ?_))); refine T_nv ?_))
  rename_i b2
  revert b
  intro b3
  apply T_nil; apply En_then
  repeat' (first | (refine T_ow rfl ?_; refine ow_callf rfl ?_; refine sameHeads_k _ _ _ _ _ _ _ _ _ _ _ _ _ _ _ _ _ _ _ _ _ _ _ _ _ _ _ _ _ _ _ _ _ _ _ _ _ _ _ _ _ _ _ _ _ _ _ _ _ _ _ _ _ _ _ _ _ _ _ _ _ _ _ _ memt memt memt memt memt memt memt memt memt memt memt memt memt memt memt memt (fun r hr => ?_); cases r <;> refine T_nv ?_) | (refine T_ow rfl ?_; refine ow_callf rfl ?_; refine sameFrames_k _ _ _ _ _ _ memt memt (fun r hr => ?_); cases r <;> refine T_nv ?_) | (refine T_ow rfl ?_; refine ow_callf rfl ?_; refine sameBrackets_k _ _ _ _ _ _ memt memt (fun r hr => ?_); cases r <;> refine T_nv ?_) | (refine T_ow rfl ?_; refine ow_callf rfl ?_; refine sameScopes_k _ _ _ _ _ _ memt memt (fun r hr => ?_); cases r <;> refine T_nv ?_) | (refine T_ow rfl ?_; refine ow_callf rfl ?_; refine sameStores_k _ _ _ _ _ _ _ _ _ _ _ _ _ _ _ _ _ _ _ _ _ _ _ _ _ _ _ _ _ _ _ _ _ _ _ _ _ _ _ _ _ _ _ _ _ _ _ _ _ _ _ _ _ _ _ _ _ _ _ _ _ _ _ _ memt memt memt memt memt memt memt memt memt memt memt memt memt memt memt memt (fun r hr => ?_); cases r <;> refine T_nv ?_) | (apply TC_seq) | (apply TC_region) | (apply TC_block) | (apply TC_ret) | (apply TC_skip) | (apply TC_cond_true; exact rfl) | (apply TC_cond_false; exact rfl) | (apply T_nil) | (apply En_then) | (apply En_then_ret) | (apply T_load; exact rfl; ((first | refine pw_load (i := 0) rfl rfl rfl ?_ | refine pw_load (i := 1) rfl rfl rfl ?_)); refine T_nv ?_) | (apply T_bin; exact rfl; ((refine pw_neq rfl rfl (fun h => ?_) (fun h => ?_))) <;> (refine T_nv ?_)) | (refine T_pure rfl rfl ?_; ((first | refine pw_mv ?_ | refine pw_as ?_ | refine pw_pick_t rfl evp ?_ | refine pw_pick_f rfl evp ?_ | refine pw_fieldAddr rfl ?_ | refine pw_len rfl ?_ | refine pw_not rfl ?_)); refine T_nv ?_) | (refine T_skipped rfl ?_; refine T_nv ?_))
  all_goals try exact En_fin (.inl rfl) (res1 rfl (rv_tmp rfl)) (fin_K H R (fun w hs => hs.weaken sbp kpp) (k false (fun e => by (first | exact absurd (hr (by cases e; rfl)) (by decide) | (cases e; exact absurd rfl (by assumption))))))
  have hl1 : nx14.length = ny14.length := by omega
  refine TC_loopS [4, 5, 6, 7, 51, 52, 53, 54, 55, 56, 57, 58, 59, 60, 61, 62, 63, 64, 65, 66, 67, 68, 69, 70, 71, 72, 73, 74, 75, 76, 77, 78, 79, 80, 81, 82, 83, 84, 85, 86, 87, 88, 89, 90, 91, 92, 93] (fun m j H' R' => H' = .blk b3 [.int .i64 ny0, .int .i64 ny1, .int .i64 ny2, .int .i64 ny3, .int .i64 ny4, .int .i64 ny5, .bool ny6, .slice Ay7 ny7.length cy7, .slice Ay8 ny8.length cy8, .slice Ay9 ny9.length cy9, .slice Ay10 ny10.length cy10, .slice Ay11 ny11.length cy11, .slice Ay12 ny12.length cy12, .slice Ay13 ny13.length cy13, .slice Ay14 ny14.length cy14, .int .i64 ny15] 32 :: .blk b2 [.int .i64 nx0, .int .i64 nx1, .int .i64 nx2, .int .i64 nx3, .int .i64 nx4, .int .i64 nx5, .bool nx6, .slice Ax7 nx7.length cx7, .slice Ax8 nx8.length cx8, .slice Ax9 nx9.length cx9, .slice Ax10 nx10.length cx10, .slice Ax11 nx11.length cx11, .slice Ax12 nx12.length cx12, .slice Ax13 nx13.length cx13, .slice Ax14 nx14.length cx14, .int .i64 nx15] 32 :: H ∧ (∀ p ∈ R, p ∈ R') ∧ ∃ i : Nat, i + m = nx14.length ∧ j 5 = .int .i64 (i : Int)) nx14.length sjp ⟨rfl, fun _ h => h, 0, by omega, rfl⟩ ?_
  rintro m j H' R' ⟨hH, hR, i, hi, h5⟩
  subst hH
  have hn1 := hR _ hx7
  have hn2 := hR _ hy7
  refine TC_env (by simp only [setJ, List.foldl_cons, List.foldl_nil, List.set_cons_succ, List.set_cons_zero, h5]; rfl) ?_
  rcases Nat.lt_or_ge i nx14.length with hlt | hge
  · obtain ⟨x, hx⟩ : ∃ x, nx14[i]? = some x := ⟨_, List.getElem?_eq_getElem hlt⟩
    obtain ⟨y, hy⟩ : ∃ y, ny14[i]? = some y := ⟨_, List.getElem?_eq_getElem (by omega)⟩
    have hE : ((nx0, nx1, nx2, nx3, nx4, nx5, nx6, nx7, nx8, nx9, nx10, nx11, nx12, nx13, nx14, nx15) : MaD) = ((ny0, ny1, ny2, ny3, ny4, ny5, ny6, ny7, ny8, ny9, ny10, ny11, ny12, ny13, ny14, ny15) : MaD) → x = y := fun e => by
      cases e
      rw [hx] at hy
      injection hy
    obtain ⟨x0, x1, x2, x3, x4, x5, x6, x7, x8, x9, x10, x11, x12, x13, x14, x15, x16, x17⟩ := x
    obtain ⟨y0, y1, y2, y3, y4, y5, y6, y7, y8, y9, y10, y11, y12, y13, y14, y15, y16, y17⟩ := y
    repeat' (first | (apply T_idx; exact rfl; ((first | refine pw_index_ch (v := .slice Ax14 nx14.length cx14) (xs := nx14) rfl rfl memt hx rfl (fun b o A0_ c0_ A1_ c1_ A2_ c2_ A3_ c3_ => ?_) | refine pw_index_ch (v := .slice Ay14 ny14.length cy14) (xs := ny14) rfl rfl memt hy rfl (fun b o A0_ c0_ A1_ c1_ A2_ c2_ A3_ c3_ => ?_))); refine T_nv ?_) | (refine T_ow rfl ?_; refine ow_callf rfl ?_; refine sameChoice_k _ _ _ _ _ _ _ _ _ _ _ _ _ _ _ _ _ _ _ _ _ _ _ _ _ _ _ _ _ _ _ _ _ _ _ _ _ _ _ _ _ _ _ _ _ _ _ _ _ _ _ _ memt memt memt memt memt memt memt memt (fun r hr => ?_); cases r <;> refine T_nv ?_) | (refine T_ow rfl ?_; refine ow_callf rfl ?_; refine equalAll_k _ _ _ _ _ _ memt memt (fun r hr => ?_); cases r <;> refine T_nv ?_) | (apply TC_seq) | (apply TC_region) | (apply TC_block) | (apply TC_ret) | (apply TC_skip) | (apply TC_cond_true; exact rfl) | (apply TC_cond_false; exact rfl) | (apply T_nil) | (apply En_then) | (apply En_then_ret) | (apply En_block) | (apply En_block_ret) | (apply T_load; exact rfl; ((first | refine pw_load (i := 0) rfl rfl rfl ?_ | refine pw_load (i := 1) rfl rfl rfl ?_ | refine pw_load_at0 rfl memr rfl ?_)); refine T_nv ?_) | (apply T_bin; exact rfl; ((refine pw_add64 rfl rfl (by omega) (by omega) ?_)); refine T_nv ?_) | (apply T_bin; exact rfl; ((first | refine pw_lss rfl rfl (fun h => ?_) (fun h => ?_) | refine pw_neq rfl rfl (fun h => ?_) (fun h => ?_))) <;> (first | (exfalso; omega) | refine T_nv ?_)) | (apply T_store; exact rfl; ((refine gw_store (i := 0) rfl clp rfl (by rfl) (by simp) (by simp [Value.oneCell']) ?_)); refine T_nv ?_; refine T_hq ?_) | (refine T_pure rfl rfl ?_; ((first | refine pw_mv ?_ | refine pw_as ?_ | refine pw_pick_t rfl evp ?_ | refine pw_pick_f rfl evp ?_ | refine pw_fieldAddr rfl ?_ | refine pw_len rfl ?_ | refine pw_not rfl ?_)); refine T_nv ?_) | (refine T_skipped rfl ?_; refine T_nv ?_) | (refine T_gen rfl rfl ?_; ((refine gw_alloc clp (fun b => ?_))); refine T_nv ?_))
    all_goals (first | exact En_backS (m - 1) _ R (by omega) sjp ⟨rfl, fun _ h => h, i + 1, by omega, rfl⟩ (fun w hs => hs.weaken sbp (fun p hp => by have hp := hR p hp; repeat ((first | with_reducible exact hp | with_reducible apply List.mem_cons_of_mem)))) | exact En_fin (.inl rfl) (res1 rfl (rv_tmp rfl)) (fin_K H R (fun w hs => hs.weaken sbp (fun p hp => by have hp := hR p hp; repeat ((first | with_reducible exact hp | with_reducible apply List.mem_cons_of_mem)))) (k false (fun e => by have e := hE e; (first | exact absurd (hr (by cases e; rfl)) (by decide) | (cases e; exact absurd rfl (by assumption)))))))
  · skip
    repeat' (first | (apply TC_seq) | (apply TC_region) | (apply TC_ret) | (apply TC_exit) | (apply TC_cond_false; exact rfl) | (apply T_nil) | (apply En_then) | (apply En_then_exit) | (apply En_block_exit) | (apply T_load; exact rfl; ((refine pw_load (i := 1) rfl rfl rfl ?_)); refine T_nv ?_) | (apply T_bin; exact rfl; ((refine pw_lss rfl rfl (fun h => ?_) (fun h => ?_))) <;> (first | (exfalso; omega) | refine T_nv ?_)) | (refine T_pure rfl rfl ?_; ((first | refine pw_mv ?_ | refine pw_as ?_ | refine pw_fieldAddr rfl ?_ | refine pw_len rfl ?_)); refine T_nv ?_))
    exact En_fin (.inl rfl) (res1 rfl (rv_tmp rfl)) (fin_K H R (fun w hs => hs.weaken sbp hR) (k true (fun _ => rfl)))
/-- Two states: where they are equal the answer is yes. -/
theorem same26_k {w0 : World} {H : List Hp} {R : List MP} {K : Value → List Hp → List MP → Prop} (x y : MaD) (u v : Unp.Y MaD) (hx : ∀ p ∈ Unp.fs x u, p ∈ R) (hy : ∀ p ∈ Unp.fs y v, p ∈ R)
    (k : ∀ r : Bool, (x = y → r = true) → K (.bool r) H R) : CallsK Try.prog w0 13 #[.agg (Unp.cs x u).toArray, .agg (Unp.cs y v).toArray] H R K := by
  obtain ⟨x0, x1, x2, x3, x4, x5, x6, x7, x8, x9, x10, x11, x12, x13, x14, x15⟩ := x
  obtain ⟨y0, y1, y2, y3, y4, y5, y6, y7, y8, y9, y10, y11, y12, y13, y14, y15⟩ := y
  obtain ⟨u0, u1, u2, u3, u4, u5, u6, ⟨A7, c7⟩, ⟨A8, c8⟩, ⟨A9, c9⟩, ⟨A10, c10⟩, ⟨A11, c11⟩, ⟨A12, c12⟩, ⟨A13, c13⟩, ⟨A14, c14⟩, u15⟩ := u
  obtain ⟨v0, v1, v2, v3, v4, v5, v6, ⟨B7, d7⟩, ⟨B8, d8⟩, ⟨B9, d9⟩, ⟨B10, d10⟩, ⟨B11, d11⟩, ⟨B12, d12⟩, ⟨B13, d13⟩, ⟨B14, d14⟩, v15⟩ := v
  have gx : ∀ p ∈ [Sl (.slice A7 x7.length c7) x7, Sl (.slice A8 x8.length c8) x8, Sl (.slice A9 x9.length c9) x9, Sl (.slice A10 x10.length c10) x10, Sl (.slice A11 x11.length c11) x11, Sl (.slice A12 x12.length c12) x12, Sl (.slice A13 x13.length c13) x13, Sl (.slice A14 x14.length c14) x14], p ∈ R := hx
  have gy : ∀ p ∈ [Sl (.slice B7 y7.length d7) y7, Sl (.slice B8 y8.length d8) y8, Sl (.slice B9 y9.length d9) y9, Sl (.slice B10 y10.length d10) y10, Sl (.slice B11 y11.length d11) y11, Sl (.slice B12 y12.length d12) y12, Sl (.slice B13 y13.length d13) y13, Sl (.slice B14 y14.length d14) y14], p ∈ R := hy
  exact sameMach_k x0 x1 x2 x3 x4 x5 x6 A7 c7 x7 A8 c8 x8 A9 c9 x9 A10 c10 x10 A11 c11 x11 A12 c12 x12 A13 c13 x13 A14 c14 x14 x15 y0 y1 y2 y3 y4 y5 y6 B7 d7 y7 B8 d8 y8 B9 d9 y9 B10 d10 y10 B11 d11 y11 B12 d12 y12 B13 d13 y13 B14 d14 y14 y15 (gx _ (by simp)) (gx _ (by simp)) (gx _ (by simp)) (gx _ (by simp)) (gx _ (by simp)) (gx _ (by simp)) (gx _ (by simp)) (gx _ (by simp)) (gy _ (by simp)) (gy _ (by simp)) (gy _ (by simp)) (gy _ (by simp)) (gy _ (by simp)) (gy _ (by simp)) (gy _ (by simp)) (gy _ (by simp)) k
end Go.Proofs.Ytggdljhmbckpmaa
