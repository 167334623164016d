/- The reference of drives: Do: walk. -/
import Derived.Test.YtggdljhmbckpmaaR3
set_option linter.unusedVariables false
set_option linter.unusedSimpArgs false
namespace Go.Proofs.Ytggdljhmbckpmaa
open Go Go.RowKit
set_option maxRecDepth 100000
set_option maxHeartbeats 1600000

theorem rdo_k {w0 : World} {H : List Hp} {R : List MP} {K : Value → List Hp → List MP → Prop} (A0 : Option Addr) (c0 : Nat) (A2 : Option Addr) (c2 : Nat) (A3 : Option Addr) (c3 : Nat) (d : Drive) (l : List DO) (hb : d.bytes.length ≤ 9223372036854775807) (hp : d.pending.length ≤ 9223372036854775807) (hll : l.length ≤ 9223372036854775807)
    (hm : Sl (.slice A0 d.bytes.length c0) d.bytes ∈ R) (hm2 : Sl (.slice A2 d.pending.length c2) d.pending ∈ R) (hm3 : Sl (.slice A3 l.length c3) l ∈ R)
    (k : KE K (doD d l) H R) : CallsK Try.prog w0 22 #[dv A0 c0 A2 c2 d, .slice A3 l.length c3] H R K := by
  refine calls_of Try.func22 rfl Try.ntmps22 nep ?_
  repeat' (first | (refine T_ow rfl ?_; refine ow_callf arp ?_; refine rcheck_k _ _ _ _ d hb hp hm hm2 ?_; refine T_nv ?_) | (apply TC_seq) | (apply TC_region) | (apply TC_block) | (apply TC_ret) | (apply TC_skip) | (apply TC_cond_true; exact rfl) | (apply TC_cond_false; exact rfl) | (apply T_nil) | (apply En_then) | (apply En_then_ret) | (apply T_load; exact rfl; ((refine pw_load (i := 1) rfl rfl rfl ?_)); refine T_nv ?_) | (apply T_bin; exact rfl; ((refine pw_neq rfl rfl (fun h => ?_) (fun h => ?_))) <;> (refine T_nv ?_)) | (apply T_store; exact rfl; ((refine gw_store (i := 0) rfl clp rfl (by rfl) (by simp) (by simp [Value.oneCell']) ?_)); refine T_nv ?_; refine T_hq ?_) | (refine T_pure rfl rfl ?_; ((first | refine pw_mv ?_ | refine pw_as ?_ | refine pw_build bldp ?_)); refine T_nv ?_) | (refine T_gen rfl rfl ?_; ((first | refine gw_box clp (fun b => ?_) | refine gw_alloc clp (fun b => ?_))); refine T_nv ?_))
  · refine En_fin (.inl rfl) (res1 rfl (rv_cell (i := 0) rfl rfl rfl)) (fin_K H _ (fun w hs => KD_none (hs.weaken (by simp) (fun _ h => h))) ?_)
    have hc : checkD d = false := by unfold errD at h; cases hc : checkD d <;> simp_all
    have e : errD d = 301 := by unfold errD; rw [hc]; rfl
    rw [e]
    exact KE_eq (r' := (⟨[], []⟩, 301)) (by unfold doD; rw [hc]; rfl) k none 0 none 0
  have hc : checkD d = true := by unfold errD at h; cases hc : checkD d <;> simp_all
  obtain ⟨h64, hmax, hmod, h100, hw⟩ := checkD_spec hc
  clear hw
  rename_i b2
  revert b
  intro b4
  refine TC_loopS [6, 15, 16, 17, 18, 19, 20, 21, 22, 23, 24, 25, 26, 27, 28, 29, 30] (fun m j H' R' => R = R' ∧ ∃ i : Nat, i + m = l.length ∧ j 6 = .int .i64 i ∧ l.all (rightB d.bytes.length) = (l.drop i).all (rightB d.bytes.length) ∧
    (.blk b4 [.slice none 0 0, .slice none 0 0, .int .i64 0] 60 :: .blk b2 [.slice A0 d.bytes.length c0, .slice A2 d.pending.length c2] 45 :: H) = H') l.length sjp ⟨rfl, 0, by omega, rfl, rfl, rfl⟩ ?_
  rintro m j H' R' ⟨hR, i, hi, h6, hall, hH⟩
  subst hH; subst hR
  refine TC_env (by simp only [setJ, List.foldl_cons, List.foldl_nil, List.set_cons_succ, List.set_cons_zero, h6]; rfl) ?_
  have HA := Go.Lib.hid hall
  clear hall
  repeat' (first | (apply TC_seq) | (apply TC_region) | (apply TC_block) | (apply TC_skip) | (apply TC_exit) | (apply TC_cond_true; exact rfl) | (apply TC_cond_false; exact rfl) | (apply T_nil) | (apply En_then) | (apply En_then_exit) | (apply En_block_exit) | (apply T_bin; exact rfl; ((refine pw_lss rfl rfl (fun h => ?_) (fun h => ?_))) <;> (refine T_nv ?_)) | (refine T_pure rfl rfl ?_; ((first | refine pw_mv ?_ | refine pw_as ?_ | refine pw_len rfl ?_)); refine T_nv ?_))
  · skip
    refine TC_draw mixed (by decide +kernel) (fun _ _ _ _ _ _ h => h) (List.Sublist.refl _) ?_
    all_goals ((refine TA_p 0 ?_; ((refine pw_mv ?_)); refine TA_nv ?_))
    all_goals ((refine TA_p 1 ?_; ((refine pw_mv ?_)); refine TA_nv ?_))
    all_goals ((refine TA_p 2 ?_; ((refine pw_index_opN evp rfl memt (List.getElem?_eq_getElem (by omega)) (fun b o A c hI hI2 hL => ?_))); refine TA_nv ?_))
    all_goals ((refine TA_p 3 ?_; ((refine pw_load_at0 rfl memr rfl ?_)); refine TA_nv ?_))
    all_goals ((refine TA_p 4 ?_; ((refine pw_fieldAddr rfl ?_)); refine TA_nv ?_))
    all_goals ((refine TA_p 5 ?_; ((refine pw_load (i := 1) rfl rfl rfl ?_)); refine TA_nv ?_))
    all_goals ((refine TA_p 6 ?_; ((refine pw_len rfl ?_)); refine TA_nv ?_))
    -- left: [7, 8]; ready: [7]: ['call']
    refine TA_o 7 ?_
    refine ow_callf arp ?_; refine rright_k _ _ d.bytes.length l[i] hb (by assumption) (by assumption) (fun hB => ?_) (fun hB => ?_)
    · refine ⟨.inl (fun w hs => hs.weaken sbp kpp), ?_⟩; refine TA_nv ?_
      all_goals ((refine TA_p 8 ?_; ((refine pw_not rfl ?_)); refine TA_nv ?_))
      all_goals refine TA_d ?_
      repeat' (first | (apply TC_region) | (apply TC_skip) | (apply TC_cond_false; exact rfl) | (apply T_nil) | (apply En_then) | (apply En_block) | (apply T_bin; exact rfl; ((refine pw_add64 rfl rfl (by omega) (by omega) ?_)); refine T_nv ?_) | (refine T_pure rfl rfl ?_; ((first | refine pw_mv ?_ | refine pw_as ?_)); refine T_nv ?_))
      refine En_backS (m - 1) _ R (by omega) sjp ⟨rfl, i + 1, by omega, rfl, ?_, rfl⟩ (fun w hs => hs.weaken sbp kpp)
      rw [HA.out, List.drop_eq_getElem_cons (show i < l.length by omega), List.all_cons, hB, Bool.true_and]
    · refine ⟨.inl (fun w hs => hs.weaken sbp kpp), ?_⟩; refine TA_nv ?_
      all_goals ((refine TA_p 8 ?_; ((refine pw_not rfl ?_)); refine TA_nv ?_))
      all_goals refine TA_d ?_
      repeat' (first | (apply TC_seq) | (apply TC_region) | (apply TC_ret) | (apply TC_cond_true; exact rfl) | (apply T_nil) | (apply En_then) | (apply En_then_ret) | (apply En_block_ret) | (apply T_store; exact rfl; ((refine gw_store (i := 0) rfl clp rfl (by rfl) (by simp) (by simp [Value.oneCell']) ?_)); refine T_nv ?_; refine T_hq ?_) | (refine T_pure rfl rfl ?_; ((refine pw_build bldp ?_)); refine T_nv ?_))
      refine En_fin (.inl rfl) (res1 rfl (rv_cell (i := 0) rfl rfl rfl)) (fin_K H _ (fun w hs => KD_none (show S w0 w H R from hs.weaken (H' := H) (R' := R) sbp kpp)) ?_)
      exact KE_eq (r' := (⟨[], []⟩, 1)) (by unfold doD; rw [hc, HA.out, List.drop_eq_getElem_cons (show i < l.length by omega), List.all_cons, hB]; rfl) k none 0 none 0
  have hB : l.all (rightB d.bytes.length) = true := by rw [HA.out, List.drop_of_length_le (by omega)]; rfl
  repeat' (fail)
  clear hi h6
  refine TC_weaken _ (dvR A0 c0 A2 c2 d R) (fun w hs => hs.weaken (List.Sublist.refl _) (sub_cons hm (sub_cons hm2 (fun p h => h)))) ?_
  refine TC_loopS [7, 8, 31, 32, 33, 34, 35, 36, 37, 38, 39, 40, 41, 42, 43, 44, 45, 46, 47, 48, 49, 50, 51, 52, 53, 54, 55, 56, 57, 58, 59, 60, 61, 62, 63, 64, 65, 66, 67, 68, 69, 70, 71] (fun m j H' R' => ∃ i : Nat, i + m = l.length ∧ j 7 = .int .i64 i ∧ ∃ (cur : Drive) (Ap : Option Addr) (cp : Nat) (A' : Option Addr) (c' : Nat), doL l d = doL (l.drop i) cur ∧ cur.bytes.length = d.bytes.length ∧ checkD cur = true ∧ dvR A' c' Ap cp cur R = R' ∧
    (.blk b4 [.slice none 0 0, .slice none 0 0, .int .i64 0] 60 :: .blk b2 [.slice A' cur.bytes.length c', .slice Ap cur.pending.length cp] 45 :: H) = H') l.length sjp ⟨0, by omega, rfl, d, A2, c2, A0, c0, rfl, rfl, hc, rfl, rfl⟩ ?_
  rintro m2 j2 H' R' ⟨i, hi, h7, cur, Ap, cp, A', c', hdo, hcl, hcc, hR, hH⟩
  subst hH; subst hR
  refine TC_env (by simp only [setJ, List.foldl_cons, List.foldl_nil, List.set_cons_succ, List.set_cons_zero, h7]; rfl) ?_
  have HD := Go.Lib.hid hdo
  clear hdo
  have hstep : ∀ (hil : i < l.length), l.drop i = l[i] :: l.drop (i + 1) := fun hil => List.drop_eq_getElem_cons hil
  have HS := Go.Lib.hid hstep
  clear hstep
  repeat' (first | (apply T_idx; exact rfl; refine pw_index_opN (xs := l) rfl rfl memt (List.getElem?_eq_getElem (by omega)) (fun b o A c hI hI2 hL => ?_); refine T_nv ?_) | (refine T_ow rfl ?_; refine ow_callf arp ?_; refine rhas_k _ _ _ _ cur hcc memt memt (fun v => ?_); refine T_nv ?_; refine T_stays 0 rfl (fun A8 c8 hv => ?_); subst hv; refine T_hq ?_) | (apply TC_seq) | (apply TC_region) | (apply TC_block) | (apply TC_ret) | (apply TC_skip) | (apply TC_exit) | (apply TC_cond_true; exact rfl) | (apply TC_cond_false; exact rfl) | (apply T_nil) | (apply En_then) | (apply En_then_ret) | (apply En_then_exit) | (apply En_block_ret) | (apply En_block_exit) | (apply T_load; exact rfl; ((first | refine pw_load (i := 1) rfl rfl rfl ?_ | refine pw_load_at rfl memr rfl ?_)); refine T_nv ?_) | (apply T_bin; exact rfl; ((refine pw_add64 rfl rfl (by omega) (by omega) ?_)); refine T_nv ?_) | (apply T_bin; exact rfl; ((first | refine pw_lss rfl rfl (fun h => ?_) (fun h => ?_) | refine pw_eql rfl rfl (fun h => ?_) (fun h => ?_))) <;> (refine T_nv ?_)) | (apply T_store; exact rfl; ((first | refine gw_store (i := 0) rfl clp rfl (by rfl) (by simp) (by simp [Value.oneCell']) ?_ | refine gw_store (i := 1) rfl clp rfl (by rfl) (by simp) (by simp [Value.oneCell']) ?_)); refine T_nv ?_; refine T_hq ?_) | (refine T_pure rfl rfl ?_; ((first | refine pw_mv ?_ | refine pw_as ?_ | refine pw_fieldAddr rfl ?_ | refine pw_len rfl ?_ | refine pw_build bldp ?_)); refine T_nv ?_))
  · refine En_backS (m2 - 1) _ (dvR A8 c8 none 0 ⟨hasB cur, []⟩ R) (by omega) sjp ⟨i + 1, by omega, rfl, ⟨hasB cur, []⟩, none, 0, A8, c8, ?_, ?_, ?_, rfl, rfl⟩ (fun w hs => ?_)
    · rw [HD.out, HS.out (by omega), doL, if_pos (by assumption)]
    · rw [hasB_length hcc]; exact hcl
    · have := hasB_length hcc
      simp [checkD]; omega
    · exact (hs.sl_nil DW).weaken sbp (fun p hp => by
        simp only [List.mem_cons] at hp ⊢
        rcases hp with hp | hp | hp
        · simp [hp]
        · simp [hp]
        · simp [hp])
  · refine En_fin (.inl rfl) (res1 rfl (rv_cell (i := 0) rfl rfl rfl)) (fin_K H (dvR none 0 none 0 ⟨[], []⟩ R) (fun w hs => KD_none (show S w0 w H R from hs.weaken (H' := H) (R' := R) sbp kpp)) ?_)
    refine KE_eq (r' := (⟨[], []⟩, 2)) ?_ k none 0 none 0
    unfold doD
    rw [hc, hB]
    simp only [if_true]
    rw [HD.out, HS.out (by omega), doL, if_neg (by assumption), if_pos (by omega)]
  · have hri : rightB d.bytes.length l[i] = true := List.all_eq_true.1 hB _ (List.getElem_mem (by omega))
    obtain ⟨hdl, hok⟩ := rightB_spec hri
    have hcp := (checkD_spec hcc).2.2.2.1
    have hk2 : l[i].kind ≠ 2 := by assumption
    refine TC_draw mixed (by decide +kernel) (fun _ _ _ _ _ _ h => h) (List.Sublist.refl _) ?_
    all_goals ((refine TA_p 0 ?_; ((refine pw_mv ?_)); refine TA_nv ?_))
    all_goals ((refine TA_p 1 ?_; ((refine pw_mv ?_)); refine TA_nv ?_))
    all_goals ((refine TA_p 2 ?_; ((refine pw_index_opN evp rfl memt (List.getElem?_eq_getElem (by omega)) (fun b o A c hI hI2 hL => ?_))); refine TA_nv ?_))
    all_goals ((refine TA_p 3 ?_; ((refine pw_fieldAddr rfl ?_)); refine TA_nv ?_))
    all_goals ((refine TA_p 4 ?_; ((refine pw_load_at rfl memr rfl ?_)); refine TA_nv ?_))
    all_goals ((refine TA_p 6 ?_; ((refine pw_mv ?_)); refine TA_nv ?_))
    all_goals ((refine TA_p 7 ?_; ((refine pw_mv ?_)); refine TA_nv ?_))
    all_goals ((refine TA_p 8 ?_; ((refine pw_index_opN evp rfl memt (List.getElem?_eq_getElem (by omega)) (fun b o A c hI hI2 hL => ?_))); refine TA_nv ?_))
    all_goals ((refine TA_p 9 ?_; ((refine pw_fieldAddr rfl ?_)); refine TA_nv ?_))
    all_goals ((refine TA_p 10 ?_; ((refine pw_load_at rfl memr rfl ?_)); refine TA_nv ?_))
    -- left: [5, 11, 12, 13, 14]; ready: [5, 13]: ['buildSlice', 'alloc']
    refine cut4 (α := Option Addr) (β := Nat) (γ := Nat) (δ := Nat) (G := ?G16) ?ha16 ?hb16
    case ha16 =>
      intro hG
      refine TA_common _ (List.Sublist.refl _) kpp ?_
      refine TA_2 5 13 ?_ ?_
      · skip
        refine GW.ow rfl ?_; refine gw_build0 rfl (by decide) (fun bz => ?_)
        refine ⟨.inl (fun w hs => hs.weaken sbp kpp), ?_⟩; refine TA_nv ?_
        refine TA_2 11 13 ?_ ?_
        · skip
          refine GW.ow rfl ?_; (refine gw_append_sl (xs := l[i].data) 0 rfl rfl memt rfl rfl (by omega) (by omega) (fun v' => ?_))
          refine ⟨.inl (fun w hs => hs.weaken sbp kpp), ?_⟩; refine TA_nv ?_; refine TA_hq ?_
          (refine TA_stays (xs := l[i].data) 0 rfl (fun A5 c5 hv => ?_))
          subst hv
          refine TA_hq ?_
          refine TA_common _ (List.Sublist.refl _) kpp ?_
          all_goals (refine TA_ps 12 sbp ?_; ((refine pw_build bldp ?_)); refine TA_nv ?_)
          refine TA_o 13 ?_
          refine GW.ow rfl ?_; refine gw_alloc clp (fun bA => ?_)
          refine ⟨.inl (fun w hs => hs.weaken sbp kpp), ?_⟩; refine TA_nv ?_
          refine TA_pre (H' := .blk bA [.int .i64 0, .slice none 0 0] 130 :: .blk b4 [.slice none 0 0, .slice none 0 0, .int .i64 0] 60 :: .blk b2 [.slice A' cur.bytes.length c', .slice Ap cur.pending.length cp] 45 :: H) (R' := Sl (.slice A5 l[i].data.length c5) l[i].data :: dvR A' c' Ap cp cur R) (fun w hs => hs.weaken sbp kpp) ?_
          exact hG A5 c5 bz bA
        · skip
          refine GW.ow rfl ?_; refine gw_alloc clp (fun bA => ?_)
          refine ⟨.inl (fun w hs => hs.weaken sbp kpp), ?_⟩; refine TA_nv ?_
          refine TA_o 11 ?_
          refine GW.ow rfl ?_; (refine gw_append_sl (xs := l[i].data) 1 rfl rfl memt rfl rfl (by omega) (by omega) (fun v' => ?_))
          refine ⟨.inl (fun w hs => hs.weaken sbp kpp), ?_⟩; refine TA_nv ?_; refine TA_hq ?_
          (refine TA_stays (xs := l[i].data) 1 rfl (fun A5 c5 hv => ?_))
          subst hv
          refine TA_hq ?_
          refine TA_common _ (List.Sublist.refl _) kpp ?_
          all_goals (refine TA_ps 12 sbp ?_; ((refine pw_build bldp ?_)); refine TA_nv ?_)
          refine TA_pre (H' := .blk bA [.int .i64 0, .slice none 0 0] 130 :: .blk b4 [.slice none 0 0, .slice none 0 0, .int .i64 0] 60 :: .blk b2 [.slice A' cur.bytes.length c', .slice Ap cur.pending.length cp] 45 :: H) (R' := Sl (.slice A5 l[i].data.length c5) l[i].data :: dvR A' c' Ap cp cur R) (fun w hs => hs.weaken sbp kpp) ?_
          exact hG A5 c5 bz bA
      · skip
        refine GW.ow rfl ?_; refine gw_alloc clp (fun bA => ?_)
        refine ⟨.inl (fun w hs => hs.weaken sbp kpp), ?_⟩; refine TA_nv ?_
        refine TA_o 5 ?_
        refine GW.ow rfl ?_; refine gw_build0 rfl (by decide) (fun bz => ?_)
        refine ⟨.inl (fun w hs => hs.weaken sbp kpp), ?_⟩; refine TA_nv ?_
        refine TA_o 11 ?_
        refine GW.ow rfl ?_; (refine gw_append_sl (xs := l[i].data) 0 rfl rfl memt rfl rfl (by omega) (by omega) (fun v' => ?_))
        refine ⟨.inl (fun w hs => hs.weaken sbp kpp), ?_⟩; refine TA_nv ?_; refine TA_hq ?_
        (refine TA_stays (xs := l[i].data) 0 rfl (fun A5 c5 hv => ?_))
        subst hv
        refine TA_hq ?_
        refine TA_common _ (List.Sublist.refl _) kpp ?_
        all_goals (refine TA_ps 12 sbp ?_; ((refine pw_build bldp ?_)); refine TA_nv ?_)
        refine TA_pre (H' := .blk bA [.int .i64 0, .slice none 0 0] 130 :: .blk b4 [.slice none 0 0, .slice none 0 0, .int .i64 0] 60 :: .blk b2 [.slice A' cur.bytes.length c', .slice Ap cur.pending.length cp] 45 :: H) (R' := Sl (.slice A5 l[i].data.length c5) l[i].data :: dvR A' c' Ap cp cur R) (fun w hs => hs.weaken sbp kpp) ?_
        exact hG A5 c5 bz bA
    case hb16 =>
      intro A5 c5 bz bA
      refine TA_g 14 ?_
      refine gw_store (i := 0) rfl clp rfl (by rfl) (by simp) (by simp [Value.oneCell']) ?_
      refine ⟨.inr (by decide +kernel), ?_⟩
      refine TA_nv ?_
      refine TA_hq ?_
      refine TA_d ?_
      apply En_then
      refine TC_draw mixed (by decide +kernel) (fun _ _ _ _ _ _ h => h) (List.Sublist.refl _) ?_
      all_goals ((refine TA_p 1 ?_; ((refine pw_fieldAddr rfl ?_)); refine TA_nv ?_))
      all_goals ((refine TA_p 2 ?_; ((refine pw_load (i := 2) rfl rfl rfl ?_)); refine TA_nv ?_))
      all_goals ((refine TA_p 4 ?_; ((refine pw_load (i := 0) rfl rfl rfl ?_)); refine TA_nv ?_))
      -- left: [0, 3, 5, 6, 7, 8]; ready: [0, 5]: ['buildSlice', 'buildSlice']
      refine cut5 (α := Nat) (β := Option Addr) (γ := Nat) (δ := List Value) (ε := Nat) (G := ?G17) ?ha17 ?hb17
      case ha17 =>
        intro hG
        refine TA_common _ (List.Sublist.refl _) kpp ?_
        refine TA_2 0 5 ?_ ?_
        · skip
          refine GW.ow rfl ?_; refine gw_build0 rfl (by decide) (fun bz => ?_)
          refine ⟨.inl (fun w hs => hs.weaken sbp kpp), ?_⟩; refine TA_nv ?_
          refine TA_2 3 5 ?_ ?_
          · skip
            refine GW.ow rfl ?_; (refine gw_append_slx (xs := cur.pending) 0 rfl rfl memt rfl (by decide) rfl (by omega) (by omega) (fun v' news => ?_))
            refine ⟨.inl (fun w hs => hs.weaken sbp kpp), ?_⟩; refine TA_nv ?_; refine TA_hq ?_
            (refine TA_shape 0 rfl (fun Ar cr hv => ?_))
            subst hv
            refine TA_o 5 ?_
            refine GW.ow rfl ?_; refine gw_buildSlice (by decide) prtp rfl (fun bC => ?_)
            refine ⟨.inl (fun w hs => hs.weaken sbp kpp), ?_⟩; refine TA_nv ?_
            refine TA_pre (H' := .blk bC [.int .i64 l[i].at_, .slice A5 l[i].data.length c5] 130 :: .row (.slice Ar cur.pending.length cr) 130 2 cur.pending.length news :: .blk bA [.int .i64 l[i].at_, .slice A5 l[i].data.length c5] 130 :: .blk b4 [.slice none 0 0, .slice none 0 0, .int .i64 0] 60 :: .blk b2 [.slice A' cur.bytes.length c', .slice Ap cur.pending.length cp] 45 :: H) (R' := Cx news cur.pending :: Sl (.slice A5 l[i].data.length c5) l[i].data :: dvR A' c' Ap cp cur R) (fun w hs => ?_) ?_
            · (exact hs.weaken (List.Sublist.refl _) kpp)
            exact hG bz Ar cr news bC
          · skip
            refine GW.ow rfl ?_; refine gw_buildSlice (by decide) prtp rfl (fun bC => ?_)
            refine ⟨.inl (fun w hs => hs.weaken sbp kpp), ?_⟩; refine TA_nv ?_
            refine TA_o 3 ?_
            refine GW.ow rfl ?_; (refine gw_append_slx (xs := cur.pending) 1 rfl rfl memt rfl (by decide) rfl (by omega) (by omega) (fun v' news => ?_))
            refine ⟨.inl (fun w hs => hs.weaken sbp kpp), ?_⟩; refine TA_nv ?_; refine TA_hq ?_
            (refine TA_shape 1 rfl (fun Ar cr hv => ?_))
            subst hv
            refine TA_pre (H' := .blk bC [.int .i64 l[i].at_, .slice A5 l[i].data.length c5] 130 :: .row (.slice Ar cur.pending.length cr) 130 2 cur.pending.length news :: .blk bA [.int .i64 l[i].at_, .slice A5 l[i].data.length c5] 130 :: .blk b4 [.slice none 0 0, .slice none 0 0, .int .i64 0] 60 :: .blk b2 [.slice A' cur.bytes.length c', .slice Ap cur.pending.length cp] 45 :: H) (R' := Cx news cur.pending :: Sl (.slice A5 l[i].data.length c5) l[i].data :: dvR A' c' Ap cp cur R) (fun w hs => ?_) ?_
            · (exact hs.weaken (List.Sublist.refl _) kpp)
            exact hG bz Ar cr news bC
        · skip
          refine GW.ow rfl ?_; refine gw_buildSlice (by decide) prtp rfl (fun bC => ?_)
          refine ⟨.inl (fun w hs => hs.weaken sbp kpp), ?_⟩; refine TA_nv ?_
          refine TA_o 0 ?_
          refine GW.ow rfl ?_; refine gw_build0 rfl (by decide) (fun bz => ?_)
          refine ⟨.inl (fun w hs => hs.weaken sbp kpp), ?_⟩; refine TA_nv ?_
          refine TA_o 3 ?_
          refine GW.ow rfl ?_; (refine gw_append_slx (xs := cur.pending) 0 rfl rfl memt rfl (by decide) rfl (by omega) (by omega) (fun v' news => ?_))
          refine ⟨.inl (fun w hs => hs.weaken sbp kpp), ?_⟩; refine TA_nv ?_; refine TA_hq ?_
          (refine TA_shape 0 rfl (fun Ar cr hv => ?_))
          subst hv
          refine TA_pre (H' := .blk bC [.int .i64 l[i].at_, .slice A5 l[i].data.length c5] 130 :: .row (.slice Ar cur.pending.length cr) 130 2 cur.pending.length news :: .blk bA [.int .i64 l[i].at_, .slice A5 l[i].data.length c5] 130 :: .blk b4 [.slice none 0 0, .slice none 0 0, .int .i64 0] 60 :: .blk b2 [.slice A' cur.bytes.length c', .slice Ap cur.pending.length cp] 45 :: H) (R' := Cx news cur.pending :: Sl (.slice A5 l[i].data.length c5) l[i].data :: dvR A' c' Ap cp cur R) (fun w hs => ?_) ?_
          · (exact (hs.perm (List.Perm.swap _ _ _)).weaken (List.Sublist.refl _) kpp)
          exact hG bz Ar cr news bC
      case hb17 =>
        intro bz17 Ar cr news bC
        refine TA_g 6 ?_
        refine gw_append_blk 1 0 rfl rfl rfl rfl (by decide) rfl (by simp [Value.oneCell']) (by omega) (by omega) (fun pv' => ?_)
        refine ⟨.inl (fun w hs => hs.weaken sbp kpp), ?_⟩
        refine TA_nv ?_
        refine TA_hq ?_
        refine TA_shape 1 rfl (fun A6 c6 hv => ?_)
        subst hv
        refine TA_learn (Cx (news ++ [.int .i64 l[i].at_, .slice A5 l[i].data.length c5]) (cur.pending ++ [⟨l[i].at_, l[i].data⟩])) (fun s hs => Cx_snoc (hs (Cx news cur.pending) memt) ⟨A5, c5, rfl, by assumption, hs (Sl (.slice A5 l[i].data.length c5) l[i].data) memt⟩) ?_
        refine TA_common _ (List.Sublist.refl _) kpp ?_
        all_goals ((refine TA_ps 7 sbp ?_; ((refine pw_fieldAddr rfl ?_)); refine TA_nv ?_))
        -- left: [8]; ready: [8]: ['store']
        refine TA_g 8 ?_
        refine gw_store (i := 4) rfl clp rfl (by rfl) (by simp) (by simp [Value.oneCell']) ?_
        refine ⟨.inr (by decide +kernel), ?_⟩
        refine TA_nv ?_
        refine TA_hq ?_
        refine TA_d ?_
        repeat' (first | (apply TC_region) | (apply T_nil) | (apply En_then) | (apply En_block) | (apply T_bin; exact rfl; ((refine pw_add64 rfl rfl (by omega) (by omega) ?_)); refine T_nv ?_) | (refine T_pure rfl rfl ?_; ((first | refine pw_mv ?_ | refine pw_as ?_)); refine T_nv ?_))
        refine En_backS (m2 - 1) (.blk b4 [.slice none 0 0, .slice none 0 0, .int .i64 0] 60 :: .blk b2 [.slice A' cur.bytes.length c', .slice A6 (cur.pending.length + 1) c6] 45 :: H) (Sl (.slice A' cur.bytes.length c') cur.bytes :: Sl (.slice A6 (cur.pending.length + 1) c6) (cur.pending ++ [⟨l[i].at_, l[i].data⟩]) :: R) (by omega) sjp ⟨i + 1, by omega, rfl, ⟨cur.bytes, cur.pending ++ [⟨l[i].at_, l[i].data⟩]⟩, A6, c6, A', c', ?_, ?_, ?_, by simp [dvR], by simp⟩ (fun w hs => ?_)
        · rw [HD.out, HS.out (by omega), doL, if_neg hk2, if_neg (by omega)]
        · exact hcl
        · exact checkD_snoc hcc (by omega) (by rw [hcl]; exact hok hk2)
        · obtain ⟨A7, c7, e, h2⟩ := hs.stays (xs := cur.pending ++ [⟨l[i].at_, l[i].data⟩]) (i := 1) rfl rfl (by decide) memt
          injection e with e1 e2 e3
          subst e1 e3
          simp only [List.length_append, List.length_cons, List.length_nil, Nat.zero_add] at h2
          exact h2.weaken sbp kpp
  · have hil : i = l.length := by omega
    repeat' (fail)
    refine TC_draw mixed (by decide +kernel) (fun _ _ _ _ _ _ h => h) (List.Sublist.refl _) ?_
    all_goals ((refine TA_p 1 ?_; ((refine pw_fieldAddr rfl ?_)); refine TA_nv ?_))
    all_goals ((refine TA_p 2 ?_; ((refine pw_load (i := 1) rfl rfl rfl ?_)); refine TA_nv ?_))
    all_goals ((refine TA_p 4 ?_; ((refine pw_fieldAddr rfl ?_)); refine TA_nv ?_))
    all_goals ((refine TA_p 5 ?_; ((refine pw_load (i := 1) rfl rfl rfl ?_)); refine TA_nv ?_))
    -- left: [0, 3, 6, 7, 8]; ready: [0]: ['buildSlice']
    refine TA_o 0 ?_
    refine GW.ow rfl ?_; refine gw_build0 rfl (by decide) (fun bz => ?_)
    refine ⟨.inl (fun w hs => hs.weaken sbp kpp), ?_⟩; refine TA_nv ?_
    refine TA_o 3 ?_
    refine GW.ow rfl ?_; refine gw_append_sl (xs := cur.bytes) 0 rfl rfl memt rfl rfl (by omega) (by omega) (fun v' => ?_)
    refine ⟨.inl (fun w hs => hs.weaken sbp kpp), ?_⟩; refine TA_nv ?_; refine TA_hq ?_
    refine TA_stays (xs := cur.bytes) 0 rfl (fun A5 c5 hv => ?_)
    subst hv
    refine TA_hq ?_
    refine TA_common _ (List.Sublist.refl _) kpp ?_
    all_goals ((refine TA_p 6 ?_; ((refine pw_build bldp ?_)); refine TA_nv ?_))
    all_goals ((refine TA_p 7 ?_; ((refine pw_build bldp ?_)); refine TA_nv ?_))
    -- left: [8]; ready: [8]: ['store']
    refine TA_g 8 ?_
    refine gw_store (i := 0) rfl clp rfl (by rfl) (by simp) (by simp [Value.oneCell']) ?_
    refine ⟨.inr (by decide +kernel), ?_⟩
    refine TA_nv ?_
    refine TA_hq ?_
    refine TA_d ?_
    repeat' (first | (apply TC_ret) | (apply En_then))
    refine En_fin (.inl rfl) (res1 rfl (rv_cell (i := 0) rfl rfl rfl)) (fin_K H (dvR A5 c5 Ap cp cur R) (fun w hs => hs.weaken sbp kpp) (KE_eq (r' := (cur, 0)) ?_ k A5 c5 Ap cp))
    unfold doD
    rw [hc, hB]
    simp only [if_true]
    rw [HD.out, hil, List.drop_length]; rfl
end Go.Proofs.Ytggdljhmbckpmaa
