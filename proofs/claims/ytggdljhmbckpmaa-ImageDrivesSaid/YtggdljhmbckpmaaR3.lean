/- The reference of drives: has, Read: walks. -/
import Derived.Test.YtggdljhmbckpmaaR2
set_option linter.unusedVariables false
set_option linter.unusedSimpArgs false
namespace Go.Proofs.Ytggdljhmbckpmaa
open Go Go.RowKit
set_option maxRecDepth 100000
set_option maxHeartbeats 800000

theorem rput_k' {w0 : World} {H : List Hp} {R : List MP} {K : Value → List Hp → List MP → Prop} (bb c m : Nat) (A : Option Addr) (n cy : Nat) (xs ys : List UInt8) (sp : List Value) (a : Int) (hmx : m = xs.length) (hx : xs.length ≤ 600000) (h0 : 0 ≤ a) (hay : a.toNat + ys.length ≤ xs.length) (hny : n = ys.length) (hm : Sl (.slice A n cy) ys ∈ R)
    (k : K (.slice (some ⟨bb, 0, none⟩) m c) (.blk bb (bytesV (spl xs a.toNat ys) ++ sp) 5 :: H) R) : CallsK Try.prog w0 61 #[.slice (some ⟨bb, 0, none⟩) m c, .int .i64 a, .slice A n cy] (.blk bb (bytesV xs ++ sp) 5 :: H) R K := by
  subst hmx; exact rput_k bb c A n cy xs ys sp a hx h0 hay hny hm k
theorem rhas_k {w0 : World} {H : List Hp} {R : List MP} {K : Value → List Hp → List MP → Prop} (A : Option Addr) (c : Nat) (A2 : Option Addr) (c2 : Nat) (d : Drive) (hd : checkD d = true)
    (hm : Sl (.slice A d.bytes.length c) d.bytes ∈ R) (hm2 : Sl (.slice A2 d.pending.length c2) d.pending ∈ R)
    (k : ∀ v, K v (.row v 5 1 (hasB d).length (bytesV (hasB d)) :: H) R) : CallsK Try.prog w0 59 #[dv A c A2 c2 d] H R K := by
  obtain ⟨h64, hmax, hmod, h100, hw⟩ := checkD_spec hd
  rw [hasB_length hd] at k
  have HW := Go.Lib.hid hw
  clear hw
  refine calls_of Try.func59 rfl Try.ntmps59 nep ?_
  repeat' (first | (refine T_gen rfl rfl ?_; refine gw_build0 rfl (by decide) (fun bz => ?_); refine T_nv ?_) | (refine T_gen rfl rfl ?_; refine gw_append_sl 0 rfl rfl memt rfl rfl (by omega) (by omega) (fun v => ?_); refine T_nv ?_; refine T_hq ?_) | (apply TC_seq) | (apply TC_region) | (apply TC_block) | (apply T_nil) | (apply En_then) | (apply T_load; exact rfl; ((refine pw_load (i := 1) rfl rfl rfl ?_)); refine T_nv ?_) | (refine T_pure rfl rfl ?_; ((first | refine pw_as ?_ | refine pw_fieldAddr rfl ?_)); refine T_nv ?_) | (refine T_gen rfl rfl ?_; ((refine gw_box clp (fun b => ?_))); refine T_nv ?_))
  refine TC_unrow 0 rfl (by omega) (fun b' cap sp hv hl1 hl2 hcap hcapm => ?_)
  subst hv
  refine TC_hp hpp ?_
  refine TC_loopS [3, 4, 9, 10, 11, 12, 13, 14, 15, 16, 17, 18, 19, 20, 21, 22, 23, 24, 25, 26, 27, 28, 29] (fun m j H' R' => R = R' ∧ ∃ i : Nat, i + m = d.pending.length ∧ j 4 = .int .i64 i ∧ j 3 = .slice (some ⟨b', 0, none⟩) d.bytes.length cap ∧ ∃ cur : List UInt8, cur.length = d.bytes.length ∧ cur = (d.pending.take i).foldl (fun xs w => spl xs w.at_.toNat w.data) d.bytes ∧
    (.blk b' (bytesV cur ++ sp) 5 :: .blk b [.slice A d.bytes.length c, .slice A2 d.pending.length c2] 45 :: H) = H') d.pending.length sjp ⟨rfl, 0, by omega, rfl, by simp, d.bytes, rfl, rfl, rfl⟩ ?_
  rintro m j H' R' ⟨hR, i, hi, h4, h3, cur, hcl, hcur, hH⟩
  subst hH; subst hR
  have HC := Go.Lib.hid hcur
  clear hcur
  refine TC_env (by simp only [setJ, List.foldl_cons, List.foldl_nil, List.set_cons_succ, List.set_cons_zero, h4, h3]; rfl) ?_
  repeat' (first | (apply TC_seq) | (apply TC_region) | (apply TC_block) | (apply TC_ret) | (apply TC_skip) | (apply TC_exit) | (apply TC_cond_true; exact rfl) | (apply TC_cond_false; exact rfl) | (apply T_nil) | (apply En_then) | (apply En_then_exit) | (apply En_block_exit) | (apply T_load; exact rfl; ((refine pw_load (i := 1) rfl rfl rfl ?_)); refine T_nv ?_) | (apply T_bin; exact rfl; ((refine pw_lss rfl rfl (fun h => ?_) (fun h => ?_))) <;> (refine T_nv ?_)) | (refine T_pure rfl rfl ?_; ((first | refine pw_mv ?_ | refine pw_as ?_ | refine pw_fieldAddr rfl ?_ | refine pw_len rfl ?_)); refine T_nv ?_))
  · have hwi : 0 ≤ d.pending[i].at_ ∧ d.pending[i].at_.toNat + d.pending[i].data.length ≤ d.bytes.length := HW.out i (by omega)
    refine TC_draw mixed (by decide +kernel) (fun _ _ _ _ _ _ h => h) (List.Sublist.cons _ (List.Sublist.refl _)) ?_
    all_goals ((refine TA_ps 0 (List.Sublist.cons _ (List.Sublist.refl _)) ?_; ((refine pw_mv ?_)); refine TA_nv ?_))
    all_goals ((refine TA_ps 1 (List.Sublist.cons _ (List.Sublist.refl _)) ?_; ((refine pw_fieldAddr rfl ?_)); refine TA_nv ?_))
    all_goals ((refine TA_ps 2 (List.Sublist.cons _ (List.Sublist.refl _)) ?_; ((refine pw_load (i := 0) rfl rfl rfl ?_)); refine TA_nv ?_))
    all_goals ((refine TA_ps 3 (List.Sublist.cons _ (List.Sublist.refl _)) ?_; ((refine pw_mv ?_)); refine TA_nv ?_))
    all_goals ((refine TA_ps 4 (List.Sublist.cons _ (List.Sublist.refl _)) ?_; ((refine pw_index_wN evp rfl memt (List.getElem?_eq_getElem (by omega)) (fun b o A c hI hL => ?_))); refine TA_nv ?_))
    all_goals ((refine TA_ps 5 (List.Sublist.cons _ (List.Sublist.refl _)) ?_; ((refine pw_fieldAddr rfl ?_)); refine TA_nv ?_))
    all_goals ((refine TA_ps 6 (List.Sublist.cons _ (List.Sublist.refl _)) ?_; ((refine pw_load_at rfl memr rfl ?_)); refine TA_nv ?_))
    all_goals ((refine TA_ps 7 (List.Sublist.cons _ (List.Sublist.refl _)) ?_; ((refine pw_fieldAddr rfl ?_)); refine TA_nv ?_))
    all_goals ((refine TA_ps 8 (List.Sublist.cons _ (List.Sublist.refl _)) ?_; ((refine pw_load (i := 0) rfl rfl rfl ?_)); refine TA_nv ?_))
    all_goals ((refine TA_ps 9 (List.Sublist.cons _ (List.Sublist.refl _)) ?_; ((refine pw_mv ?_)); refine TA_nv ?_))
    all_goals ((refine TA_ps 10 (List.Sublist.cons _ (List.Sublist.refl _)) ?_; ((refine pw_index_wN evp rfl memt (List.getElem?_eq_getElem (by omega)) (fun b o A c hI hL => ?_))); refine TA_nv ?_))
    all_goals ((refine TA_ps 11 (List.Sublist.cons _ (List.Sublist.refl _)) ?_; ((refine pw_fieldAddr rfl ?_)); refine TA_nv ?_))
    all_goals ((refine TA_ps 12 (List.Sublist.cons _ (List.Sublist.refl _)) ?_; ((refine pw_load_at rfl memr rfl ?_)); refine TA_nv ?_))
    -- left: [13, 14]; ready: [13]: ['call']
    refine TA_o 13 ?_
    refine ow_callf arp ?_; refine rput_k' _ _ _ _ _ _ cur d.pending[i].data sp _ hcl.symm (by omega) hwi.1 (by omega) rfl memt ?_
    refine ⟨.inl (fun w hs => hs.weaken sbp kpp), ?_⟩; refine TA_nv ?_
    all_goals ((refine TA_ps 14 (List.Sublist.cons _ (List.Sublist.refl _)) ?_; ((refine pw_as ?_)); refine TA_nv ?_))
    all_goals refine TA_d ?_
    repeat' (first | (apply TC_region) | (apply T_nil) | (apply En_then) | (apply En_block) | (apply T_bin; exact rfl; ((refine pw_add64 rfl rfl (by omega) (by omega) ?_)); refine T_nv ?_) | (refine T_pure rfl rfl ?_; ((first | refine pw_mv ?_ | refine pw_as ?_)); refine T_nv ?_))
    refine En_backS (m - 1) _ R (by omega) sjp ⟨rfl, i + 1, by omega, rfl, rfl, spl cur d.pending[i].at_.toNat d.pending[i].data, by rw [spl_length _ _ _ (by omega)]; exact hcl, ?_, rfl⟩ (fun w hs => hs.weaken sbp kpp)
    rw [HC.out, List.take_succ_eq_append_getElem (by omega), List.foldl_append, List.foldl_cons, List.foldl_nil]
  · refine En_fin (.inl rfl) (res1 rfl (rv_tmp rfl)) (fin_K (.row (.slice (some ⟨b', 0, none⟩) d.bytes.length cap) 5 1 d.bytes.length (bytesV (hasB d)) :: H) R (fun w hs => ?_) (k _))
    have hc2 : cur = hasB d := by
      rw [HC.out, List.take_of_length_le (by omega)]; rfl
    rw [hc2] at hs
    have h1 := hs.torow (i := 0) (n := d.bytes.length) (cap := cap) (size := 1) rfl (by rw [← hl1]; simp [hasB_length hd]) (by simp [hasB_length hd]) hcap hcapm
    exact h1.weaken (by simp) (fun p hp => hp)

/-- Bytes and an errno in one value, for good. -/
def KC (K : Value → List Hp → List MP → Prop) (r : List UInt8 × Int) (H : List Hp) (R : List MP) : Prop := ∀ A c, K (.agg #[.slice A r.1.length c, .int .i64 r.2]) H (Sl (.slice A r.1.length c) r.1 :: R)
theorem KC_eq {K : Value → List Hp → List MP → Prop} {r r' : List UInt8 × Int} {H : List Hp} {R : List MP} (e : r = r') (h : KC K r H R) : KC K r' H R := e ▸ h
theorem rread_k {w0 : World} {H : List Hp} {R : List MP} {K : Value → List Hp → List MP → Prop} (A0 : Option Addr) (c0 : Nat) (A2 : Option Addr) (c2 : Nat) (d : Drive) (hb : d.bytes.length ≤ 9223372036854775807) (hp : d.pending.length ≤ 9223372036854775807)
    (hm : Sl (.slice A0 d.bytes.length c0) d.bytes ∈ R) (hm2 : Sl (.slice A2 d.pending.length c2) d.pending ∈ R)
    (k : KC K (readD d) H R) : CallsK Try.prog w0 26 #[dv A0 c0 A2 c2 d] H R K := by
  refine calls_of Try.func26 rfl Try.ntmps26 nep ?_
  repeat' (first | (refine T_ow rfl ?_; refine ow_callf arp ?_; refine rcheck_k _ _ _ _ d hb hp hm hm2 ?_; refine T_nv ?_) | (apply TC_seq) | (apply TC_region) | (apply TC_ret) | (apply TC_skip) | (apply TC_cond_true; exact rfl) | (apply TC_cond_false; exact rfl) | (apply T_nil) | (apply En_then) | (apply En_then_ret) | (apply T_load; exact rfl; ((refine pw_load (i := 1) rfl rfl rfl ?_)); refine T_nv ?_) | (apply T_bin; exact rfl; ((refine pw_neq rfl rfl (fun h => ?_) (fun h => ?_))) <;> (refine T_nv ?_)) | (apply T_store; exact rfl; ((refine gw_store (i := 0) rfl clp rfl (by rfl) (by simp) (by simp [Value.oneCell']) ?_)); refine T_nv ?_; refine T_hq ?_) | (refine T_pure rfl rfl ?_; ((first | refine pw_mv ?_ | refine pw_as ?_ | refine pw_build bldp ?_)); refine T_nv ?_) | (refine T_gen rfl rfl ?_; ((first | refine gw_box clp (fun b => ?_) | refine gw_alloc clp (fun b => ?_))); refine T_nv ?_))
  · have hc : checkD d = false := by unfold errD at h; cases hc : checkD d <;> simp_all
    have e : errD d = 301 := by unfold errD; rw [hc]; rfl
    rw [e]
    refine En_fin (.inl rfl) (res1 rfl (rv_cell (i := 0) rfl rfl rfl)) (fin_K H (Sl (.slice none 0 0) ([] : List UInt8) :: R) (fun w hs => (hs.weaken sbp (fun _ h => h)).sl_nil UInt8) ?_)
    exact KC_eq (r' := ([], 301)) (by unfold readD; rw [hc]; rfl) k none 0
  have hc : checkD d = true := by unfold errD at h; cases hc : checkD d <;> simp_all
  repeat' (first | (refine T_ow rfl ?_; refine ow_callf arp ?_; refine rhas_k _ _ _ _ d hc hm hm2 (fun v => ?_); refine T_nv ?_; refine T_stays 0 rfl (fun A' c' hv => ?_); subst hv; refine T_hq ?_) | (apply TC_ret) | (apply T_nil) | (apply En_then) | (apply T_store; exact rfl; ((refine gw_store (i := 0) rfl clp rfl (by rfl) (by simp) (by simp [Value.oneCell']) ?_)); refine T_nv ?_; refine T_hq ?_) | (refine T_pure rfl rfl ?_; ((refine pw_build bldp ?_)); refine T_nv ?_))
  refine En_fin (.inl rfl) (res1 rfl (rv_cell (i := 0) rfl rfl rfl)) (fin_K H _ (fun w hs => hs.weaken sbp (fun _ h => h)) ?_)
  exact KC_eq (r' := (hasB d, 0)) (by unfold readD; rw [hc]; rfl) k A' c'
end Go.Proofs.Ytggdljhmbckpmaa
