/- The reference of drives: CheckDrive, NewDrive, has, Read: walks. -/
import Derived.Test.YtggdljhmbckpmaaR1
set_option linter.unusedVariables false
set_option linter.unusedSimpArgs false
namespace Go.Proofs.Ytggdljhmbckpmaa
open Go Go.RowKit
set_option maxRecDepth 100000
set_option maxHeartbeats 800000

theorem rcheck_k {w0 : World} {H : List Hp} {R : List MP} {K : Value → List Hp → List MP → Prop} (A : Option Addr) (c : Nat) (A2 : Option Addr) (c2 : Nat) (d : Drive) (hb : d.bytes.length ≤ 9223372036854775807) (hp : d.pending.length ≤ 9223372036854775807)
    (hm : Sl (.slice A d.bytes.length c) d.bytes ∈ R) (hm2 : Sl (.slice A2 d.pending.length c2) d.pending ∈ R)
    (k : K (.int .i64 (errD d)) H R) : CallsK Try.prog w0 28 #[dv A c A2 c2 d] H R K := by
  refine calls_of Try.func28 rfl Try.ntmps28 nep ?_
  repeat' (first | (apply TC_seq) | (apply TC_region) | (apply TC_block) | (apply TC_ret) | (apply TC_skip) | (apply TC_cond_true; exact rfl) | (apply TC_cond_false; exact rfl) | (apply T_nil) | (apply En_then) | (apply En_then_ret) | (apply T_load; exact rfl; ((refine pw_load (i := 0) rfl rfl rfl ?_)); refine T_nv ?_) | (apply T_bin; exact rfl; ((refine pw_rem rfl rfl (by omega) (by omega) ?_)); refine T_nv ?_) | (apply T_bin; exact rfl; ((first | refine pw_lss rfl rfl (fun h => ?_) (fun h => ?_) | refine pw_gtr rfl rfl (fun h => ?_) (fun h => ?_) | refine pw_neq rfl rfl (fun h => ?_) (fun h => ?_))) <;> (refine T_nv ?_)) | (refine T_pure rfl rfl ?_; ((first | refine pw_mv ?_ | refine pw_as ?_ | refine pw_pick_t rfl evp ?_ | refine pw_pick_f rfl evp ?_ | refine pw_fieldAddr rfl ?_ | refine pw_len rfl ?_)); refine T_nv ?_) | (refine T_skipped rfl ?_; refine T_nv ?_) | (refine T_gen rfl rfl ?_; ((refine gw_box clp (fun b => ?_))); refine T_nv ?_))
  iterate 4
    · refine En_fin (.inl rfl) (res1 rfl (rv_tmp rfl)) (fin_K H R (fun w hs => hs.weaken (List.sublist_cons_self _ _) (fun p hp => hp)) ?_)
      exact K_int (errD_no (by omega)).symm k
  have hlen : 64 ≤ d.bytes.length ∧ d.bytes.length ≤ 600000 ∧ d.bytes.length % 2 = 0 ∧ d.pending.length ≤ 100 := by omega
  refine TC_loopS [2, 3, 27, 28, 29, 30, 31, 32, 33, 34, 35, 36, 37, 38, 39, 40, 41, 42, 43, 44, 45, 46, 47, 48, 49, 50, 51] (fun m j H' R' => .blk b [.slice A d.bytes.length c, .slice A2 d.pending.length c2] 45 :: H = H' ∧ R = R' ∧ ∃ i : Nat, i + m = d.pending.length ∧ j 3 = .int .i64 i ∧ ∀ l (hl : l < d.pending.length), l < i → wOk d.bytes.length d.pending[l] = true) d.pending.length sjp ⟨rfl, rfl, 0, by omega, rfl, fun l hl h => by omega⟩ ?_
  rintro m j H' R' ⟨hH, hR, i, hi, h3, hall⟩
  subst hH; subst hR
  refine TC_env (by simp only [setJ, List.foldl_cons, List.foldl_nil, List.set_cons_succ, List.set_cons_zero, h3]; rfl) ?_
  have HA := Go.Lib.hid hall
  clear hall
  repeat' (first | (apply TC_seq) | (apply TC_region) | (apply TC_block) | (apply TC_ret) | (apply TC_skip) | (apply TC_exit) | (apply TC_cond_true; exact rfl) | (apply TC_cond_false; exact rfl) | (apply T_nil) | (apply En_then) | (apply En_then_exit) | (apply En_block_exit) | (apply T_load; exact rfl; ((refine pw_load (i := 0) rfl rfl rfl ?_)); refine T_nv ?_) | (apply T_bin; exact rfl; ((refine pw_lss rfl rfl (fun h => ?_) (fun h => ?_))) <;> (refine T_nv ?_)) | (refine T_pure rfl rfl ?_; ((first | refine pw_mv ?_ | refine pw_as ?_ | refine pw_fieldAddr rfl ?_ | refine pw_len rfl ?_)); refine T_nv ?_))
  · skip
    refine TC_draw mixed (by decide +kernel) (fun _ _ _ _ _ _ h => h) (List.Sublist.refl _) ?_
    all_goals ((refine TA_p 0 ?_; ((refine pw_fieldAddr rfl ?_)); refine TA_nv ?_))
    all_goals ((refine TA_p 1 ?_; ((refine pw_load (i := 0) rfl rfl rfl ?_)); refine TA_nv ?_))
    all_goals ((refine TA_p 2 ?_; ((refine pw_mv ?_)); refine TA_nv ?_))
    all_goals ((refine TA_p 3 ?_; ((refine pw_index_wN evp rfl memt (List.getElem?_eq_getElem (by omega)) (fun b o A c hI hL => ?_))); refine TA_nv ?_))
    all_goals ((refine TA_p 4 ?_; ((refine pw_fieldAddr rfl ?_)); refine TA_nv ?_))
    all_goals ((refine TA_p 5 ?_; ((refine pw_load_at rfl memr rfl ?_)); refine TA_nv ?_))
    all_goals ((refine TA_p 6 ?_; ((refine pw_fieldAddr rfl ?_)); refine TA_nv ?_))
    all_goals ((refine TA_p 7 ?_; ((refine pw_load (i := 0) rfl rfl rfl ?_)); refine TA_nv ?_))
    all_goals ((refine TA_p 8 ?_; ((refine pw_mv ?_)); refine TA_nv ?_))
    all_goals ((refine TA_p 9 ?_; ((refine pw_index_wN evp rfl memt (List.getElem?_eq_getElem (by omega)) (fun b o A c hI hL => ?_))); refine TA_nv ?_))
    all_goals ((refine TA_p 10 ?_; ((refine pw_fieldAddr rfl ?_)); refine TA_nv ?_))
    all_goals ((refine TA_p 11 ?_; ((refine pw_load_at rfl memr rfl ?_)); refine TA_nv ?_))
    all_goals ((refine TA_p 12 ?_; ((refine pw_len rfl ?_)); refine TA_nv ?_))
    all_goals ((refine TA_p 13 ?_; ((refine pw_fieldAddr rfl ?_)); refine TA_nv ?_))
    all_goals ((refine TA_p 14 ?_; ((refine pw_load (i := 0) rfl rfl rfl ?_)); refine TA_nv ?_))
    all_goals ((refine TA_p 15 ?_; ((refine pw_len rfl ?_)); refine TA_nv ?_))
    -- left: [16, 17]; ready: [16]: ['call']
    refine TA_o 16 ?_
    refine ow_callf arp ?_; refine rwithin_k _ _ _ (by assumption) ⟨by omega, by omega⟩ ⟨by omega, by omega⟩ (fun hB => ?_) (fun hB => ?_)
    · refine ⟨.inl (fun w hs => hs.weaken sbp kpp), ?_⟩; refine TA_nv ?_
      all_goals ((refine TA_p 17 ?_; ((refine pw_not rfl ?_)); refine TA_nv ?_))
      all_goals refine TA_d ?_
      repeat' (first | (apply TC_region) | (apply TC_skip) | (apply TC_cond_false; exact rfl) | (apply T_nil) | (apply En_then) | (apply En_block) | (apply T_bin; exact rfl; ((refine pw_add64 rfl rfl (by omega) (by omega) ?_)); refine T_nv ?_) | (refine T_pure rfl rfl ?_; ((first | refine pw_mv ?_ | refine pw_as ?_)); refine T_nv ?_))
      refine En_backS (m - 1) _ R (by omega) sjp ⟨rfl, rfl, i + 1, by omega, rfl, fun l hl h => ?_⟩ (fun w hs => hs.weaken sbp kpp)
      by_cases e : l = i
      · subst e; exact hB
      · exact HA.out l hl (by omega)
    · refine ⟨.inl (fun w hs => hs.weaken sbp kpp), ?_⟩; refine TA_nv ?_
      all_goals ((refine TA_p 17 ?_; ((refine pw_not rfl ?_)); refine TA_nv ?_))
      all_goals refine TA_d ?_
      repeat' (first | (apply TC_seq) | (apply TC_region) | (apply TC_ret) | (apply TC_cond_true; exact rfl) | (apply T_nil) | (apply En_then) | (apply En_then_ret) | (apply En_block_ret) | (refine T_pure rfl rfl ?_; ((refine pw_as ?_)); refine T_nv ?_))
      refine En_fin (.inl rfl) (res1 rfl (rv_tmp rfl)) (fin_K H R (fun w hs => hs.weaken sbp kpp) ?_)
      exact K_int (errD_w (by omega) hB).symm k
  · refine En_fin (.inl rfl) (res1 rfl (rv_tmp rfl)) (fin_K H R (fun w hs => hs.weaken sbp kpp) ?_)
    exact K_int (errD_yes hlen (fun l hl => HA.out l hl (by omega))).symm k

/-- A drive and an errno in one value, for good. -/
def KE (K : Value → List Hp → List MP → Prop) (r : Drive × Int) (H : List Hp) (R : List MP) : Prop := ∀ A c A2 c2, K (.agg #[.slice A r.1.bytes.length c, .slice A2 r.1.pending.length c2, .int .i64 r.2]) H (dvR A c A2 c2 r.1 R)
theorem KE_eq {K : Value → List Hp → List MP → Prop} {r r' : Drive × Int} {H : List Hp} {R : List MP} (e : r = r') (h : KE K r H R) : KE K r' H R := e ▸ h
theorem rnewDrive_k {w0 : World} {H : List Hp} {R : List MP} {K : Value → List Hp → List MP → Prop} (n : Int) (hI : InI n) (k : KE K (newD n) H R) : CallsK Try.prog w0 20 #[.int .i64 n] H R K := by
  unfold InI at hI
  refine calls_of Try.func20 rfl Try.ntmps20 nep ?_
  repeat' (first | (apply TC_seq) | (apply TC_region) | (apply TC_ret) | (apply TC_skip) | (apply TC_cond_true; exact rfl) | (apply TC_cond_false; exact rfl) | (apply T_nil) | (apply En_then) | (apply En_then_ret) | (apply T_bin; exact rfl; ((refine pw_rem rfl rfl (by omega) (by omega) ?_)); refine T_nv ?_) | (apply T_bin; exact rfl; ((first | refine pw_lss rfl rfl (fun h => ?_) (fun h => ?_) | refine pw_gtr rfl rfl (fun h => ?_) (fun h => ?_) | refine pw_neq rfl rfl (fun h => ?_) (fun h => ?_))) <;> (refine T_nv ?_)) | (apply T_store; exact rfl; ((refine gw_store (i := 0) rfl clp rfl (by rfl) (by simp) (by simp [Value.oneCell']) ?_)); refine T_nv ?_; refine T_hq ?_) | (refine T_pure rfl rfl ?_; ((first | refine pw_mv ?_ | refine pw_pick_t rfl evp ?_ | refine pw_pick_f rfl evp ?_ | refine pw_build bldp ?_)); refine T_nv ?_) | (refine T_skipped rfl ?_; refine T_nv ?_) | (refine T_gen rfl rfl ?_; ((refine gw_alloc clp (fun b => ?_))); refine T_nv ?_))
  iterate 3
    · refine En_fin (.inl rfl) (res1 rfl (rv_cell (i := 0) rfl rfl rfl)) (fin_K H _ (fun w hs => KD_none (hs.weaken (by simp) (fun _ h => h))) ?_)
      exact KE_eq (r' := (⟨[], []⟩, 1)) (by unfold newD; rw [if_pos (by omega)]) k none 0 none 0
  obtain ⟨m, rfl⟩ : ∃ m : Nat, n = m := ⟨n.toNat, by omega⟩
  refine T_gen rfl rfl ?_
  refine gw_make (n := m) rfl rfl (by omega) (by omega) (fun b' => ?_)
  refine T_nv ?_
  repeat' (first | (apply TC_ret) | (apply T_nil) | (apply En_then) | (apply T_store; exact rfl; ((refine gw_store (i := 1) rfl clp rfl (by rfl) (by simp) (by simp [Value.oneCell']) ?_)); refine T_nv ?_; refine T_hq ?_) | (refine T_pure rfl rfl ?_; ((refine pw_build bldp ?_)); refine T_nv ?_))
  have k' := KE_eq (r' := (⟨List.replicate m 0, []⟩, 0)) (by unfold newD; rw [if_neg (by omega)]; simp) k (some ⟨b', 0, none⟩) m none 0
  simp only [dvR, List.length_replicate, List.length_nil] at k'
  refine En_fin (.inl rfl) (res1 rfl (rv_cell (i := 1) rfl rfl rfl)) (fin_K H _ (fun w hs => ?_) k')
  rw [← bytesV_rep] at hs
  have h2 := hs.bytes_stay (i := 0) (n := m) (c := m) rfl (by simp) (by omega) (by simp only [maxL]; omega)
  exact ((h2.sl_nil DW).weaken sbp (fun p hp => by
    simp only [List.mem_cons] at hp ⊢
    rcases hp with hp | hp | hp
    · exact .inr (.inl hp)
    · exact .inl hp
    · exact .inr (.inr hp)))
end Go.Proofs.Ytggdljhmbckpmaa
