/- The reference of drives: its small functions: walks. The reference of drives: CheckDrive, NewDrive, has, Read: walks. The reference of drives: has, Read: walks. -/
import Derived.Test.YtggdljhmbckpmaaGreatF7
import Derived.Test.YtggdljhmbckpmaaGreatF8
import Derived.Test.YtggdljhmbckpmaaGreatAS
set_option linter.unusedVariables false
set_option linter.unusedSimpArgs false
namespace Go.Proofs.YtggdljhmbckpmaaGreat
open Go Go.RowKit
set_option maxRecDepth 100000
set_option maxHeartbeats 800000

theorem rwithin_k {w0 : World} {H : List Hp} {R : List MP} {K : Value → List Hp → List MP → Prop} (a n s : Int) (ha : InI a) (hn : 0 ≤ n ∧ n ≤ 9223372036854775807) (hs : 0 ≤ s ∧ s ≤ 9223372036854775807)
    (kt : withinB a n s = true → K (.bool true) H R) (kf : withinB a n s = false → K (.bool false) H R) : CallsK Tryz.prog w0 116 #[.int .i64 a, .int .i64 n, .int .i64 s] H R K := by
  unfold withinB at kt kf
  unfold InI at ha
  refine calls_of Tryz.func116 rfl Tryz.ntmps116 nep ?_
  repeat' (first | (apply TC_seq) | (apply TC_region) | (apply TC_ret) | (apply T_nil) | (apply En_then) | (apply T_bin; exact rfl; ((refine pw_sub64 rfl rfl (by omega) (by omega) ?_)); refine T_nv ?_) | (apply T_bin; exact rfl; ((first | refine pw_leq rfl rfl (fun h => ?_) (fun h => ?_) | refine pw_geq rfl rfl (fun h => ?_) (fun h => ?_))) <;> (refine T_nv ?_)) | (refine T_pure rfl rfl ?_; ((first | refine pw_mv ?_ | refine pw_as ?_ | refine pw_pick_t rfl evp ?_ | refine pw_pick_f rfl evp ?_)); refine T_nv ?_) | (refine T_skipped rfl ?_; refine T_nv ?_))
  all_goals
    refine En_fin (.inl rfl) (res1 rfl (rv_tmp rfl)) (fin_K H R (fun _ h => h) ?_)
    (first | exact kf (decide_eq_false (by omega)) | exact kt (decide_eq_true (by omega)))

theorem spl_spl (xs zs us : List UInt8) (a : Nat) (h : a + zs.length + us.length ≤ xs.length) : spl (spl xs a zs) (a + zs.length) us = spl xs a (zs ++ us) := by
  unfold spl
  have h1 : (xs.take a).length = a := by simp; omega
  have e1 : (xs.take a ++ zs ++ xs.drop (a + zs.length)).take (a + zs.length) = xs.take a ++ zs := by
    rw [List.take_append_of_le_length (by simp; omega), List.take_of_length_le (by simp; omega)]
  have e2 : (xs.take a ++ zs ++ xs.drop (a + zs.length)).drop (a + zs.length + us.length) = xs.drop (a + (zs ++ us).length) := by
    rw [List.drop_append, List.drop_of_length_le (by simp; omega), List.nil_append, List.drop_drop]
    congr 1; simp [h1]; omega
  rw [e1, e2]; simp
theorem put_step (xs ys : List UInt8) (sp : List Value) (a i o : Nat) (hi : i < ys.length) (h : a + ys.length ≤ xs.length) (ho : o = a + i) : overlay (bytesV (spl xs a (ys.take i)) ++ sp) o [byteV ys[i]] = bytesV (spl xs a (ys.take (i + 1))) ++ sp := by
  subst ho
  have hl : (ys.take i).length = i := by simp; omega
  have h1 : (spl xs a (ys.take i)).length = xs.length := spl_length _ _ _ (by omega)
  have e : [byteV ys[i]] = bytesV [ys[i]] := rfl
  rw [e, overlay_bytes _ _ _ _ (by simp; omega)]
  have := spl_spl xs (ys.take i) [ys[i]] a (by simp; omega)
  rw [hl] at this
  rw [this, List.take_succ_eq_append_getElem hi]
/-- put writes bytes into an owned block. -/
theorem rput_k {w0 : World} {H : List Hp} {R : List MP} {K : Value → List Hp → List MP → Prop} (bb c : Nat) (A : Option Addr) (n cy : Nat) (xs ys : List UInt8) (sp : List Value) (a : Int) (hx : xs.length ≤ 600000) (h0 : 0 ≤ a) (hay : a.toNat + ys.length ≤ xs.length) (hny : n = ys.length) (hm : Sl (.slice A n cy) ys ∈ R)
    (k : K (.slice (some ⟨bb, 0, none⟩) xs.length c) (.blk bb (bytesV (spl xs a.toNat ys) ++ sp) 5 :: H) R) : CallsK Tryz.prog w0 118 #[.slice (some ⟨bb, 0, none⟩) xs.length c, .int .i64 a, .slice A n cy] (.blk bb (bytesV xs ++ sp) 5 :: H) R K := by
  subst hny
  refine calls_of Tryz.func118 rfl Tryz.ntmps118 nep ?_
  repeat' (first | (apply TC_seq) | (apply TC_region) | (apply TC_block) | (apply T_nil) | (apply En_then) | (refine T_pure rfl rfl ?_; ((refine pw_as ?_)); refine T_nv ?_))
  refine TC_loopS [7, 8, 9, 10, 11, 12, 13, 14, 15, 16, 17, 18, 19, 20, 21, 22] (fun m j H' R' => R = R' ∧ ∃ i : Nat, i + m = ys.length ∧ j 7 = .int .i64 (i : Int) ∧ .blk bb (bytesV (spl xs a.toNat (ys.take i)) ++ sp) 5 :: H = H') ys.length sjp ⟨rfl, 0, by omega, rfl, by simp [spl]⟩ ?_
  rintro m j H' R' ⟨hR, i, hi, h7, hH⟩
  subst hH; subst hR
  refine TC_env (by simp only [setJ, List.foldl_cons, List.foldl_nil, List.set_cons_succ, List.set_cons_zero, h7]; rfl) ?_
  repeat' (first | (apply T_idx; exact rfl; refine pw_index_o rfl rfl (by omega) (by omega) ?_; refine T_nv ?_) | (apply T_store; exact rfl; refine gw_store (i := 0) (vs := [byteV ys[i]]) rfl clp rfl (by rfl) (by simp [spl]; omega) (by simp [Value.oneCell', byteV]) ?_; refine T_nv ?_) | (apply TC_seq) | (apply TC_region) | (apply TC_block) | (apply TC_ret) | (apply TC_skip) | (apply TC_exit) | (apply TC_cond_true; exact rfl) | (apply TC_cond_false; exact rfl) | (apply T_nil) | (apply En_then) | (apply En_then_exit) | (apply En_block) | (apply En_block_exit) | (apply T_load; exact rfl; ((refine pw_load_at0 rfl memr rfl ?_)); refine T_nv ?_) | (apply T_bin; exact rfl; ((refine pw_add64 rfl rfl (by omega) (by omega) ?_)); refine T_nv ?_) | (apply T_bin; exact rfl; ((refine pw_lss rfl rfl (fun h => ?_) (fun h => ?_))) <;> (refine T_nv ?_)) | (apply T_idx; exact rfl; ((refine pw_index_bN evp rfl memt (List.getElem?_eq_getElem (by omega)) (fun b o => ?_))); refine T_nv ?_) | (refine T_pure rfl rfl ?_; ((first | refine pw_mv ?_ | refine pw_as ?_ | refine pw_len rfl ?_)); refine T_nv ?_))
  · refine En_backS (m - 1) (.blk bb (bytesV (spl xs a.toNat (ys.take (i + 1))) ++ sp) 5 :: H) R (by omega) sjp ⟨rfl, i + 1, by omega, rfl, rfl⟩ (fun w hs => ?_)
    rw [← put_step xs ys sp a.toNat i (0 + (a + (i : Int)).toNat * 1) (by omega) hay (by omega)]
    exact hs.weaken (by simp) (fun p hp => by simp [hp])
  · refine En_fin (.inl rfl) (res1 rfl (rv_tmp rfl)) (fin_K _ R (fun w hs => ?_) k)
    rw [List.take_of_length_le (show ys.length ≤ i by omega)] at hs
    exact hs
end Go.Proofs.YtggdljhmbckpmaaGreat
namespace Go.Proofs.YtggdljhmbckpmaaGreat
open Go Go.RowKit
set_option maxRecDepth 100000
set_option maxHeartbeats 800000

theorem rcheck_k {w0 : World} {H : List Hp} {R : List MP} {K : Value → List Hp → List MP → Prop} (A : Option Addr) (c : Nat) (A2 : Option Addr) (c2 : Nat) (d : Drive) (hb : d.bytes.length ≤ 9223372036854775807) (hp : d.pending.length ≤ 9223372036854775807)
    (hm : Sl (.slice A d.bytes.length c) d.bytes ∈ R) (hm2 : Sl (.slice A2 d.pending.length c2) d.pending ∈ R)
    (k : K (.int .i64 (errD d)) H R) : CallsK Tryz.prog w0 59 #[dv A c A2 c2 d] H R K := by
  refine calls_of Tryz.func59 rfl Tryz.ntmps59 nep ?_
  repeat' (first | (apply TC_seq) | (apply TC_region) | (apply TC_block) | (apply TC_ret) | (apply TC_skip) | (apply TC_cond_true; exact rfl) | (apply TC_cond_false; exact rfl) | (apply T_nil) | (apply En_then) | (apply En_then_ret) | (apply T_load; exact rfl; ((refine pw_load (i := 0) rfl rfl rfl ?_)); refine T_nv ?_) | (apply T_bin; exact rfl; ((refine pw_rem rfl rfl (by omega) (by omega) ?_)); refine T_nv ?_) | (apply T_bin; exact rfl; ((first | refine pw_lss rfl rfl (fun h => ?_) (fun h => ?_) | refine pw_gtr rfl rfl (fun h => ?_) (fun h => ?_) | refine pw_neq rfl rfl (fun h => ?_) (fun h => ?_))) <;> (refine T_nv ?_)) | (refine T_pure rfl rfl ?_; ((first | refine pw_mv ?_ | refine pw_as ?_ | refine pw_pick_t rfl evp ?_ | refine pw_pick_f rfl evp ?_ | refine pw_fieldAddr rfl ?_ | refine pw_len rfl ?_)); refine T_nv ?_) | (refine T_skipped rfl ?_; refine T_nv ?_) | (refine T_gen rfl rfl ?_; ((refine gw_box clp (fun b => ?_))); refine T_nv ?_))
  iterate 4
    · refine En_fin (.inl rfl) (res1 rfl (rv_tmp rfl)) (fin_K H R (fun w hs => hs.weaken (List.sublist_cons_self _ _) (fun p hp => hp)) ?_)
      exact K_int (errD_no (by omega)).symm k
  have hlen : 64 ≤ d.bytes.length ∧ d.bytes.length ≤ 600000 ∧ d.bytes.length % 2 = 0 ∧ d.pending.length ≤ 100 := by omega
  refine TC_loopS [2, 3, 27, 28, 29, 30, 31, 32, 33, 34, 35, 36, 37, 38, 39, 40, 41, 42, 43, 44, 45, 46, 47, 48, 49, 50, 51] (fun m j H' R' => .blk b [.slice A d.bytes.length c, .slice A2 d.pending.length c2] 51 :: H = H' ∧ R = R' ∧ ∃ i : Nat, i + m = d.pending.length ∧ j 3 = .int .i64 i ∧ ∀ l (hl : l < d.pending.length), l < i → wOk d.bytes.length d.pending[l] = true) d.pending.length sjp ⟨rfl, rfl, 0, by omega, rfl, fun l hl h => by omega⟩ ?_
  rintro m j H' R' ⟨hH, hR, i, hi, h3, hall⟩
  subst hH; subst hR
  refine TC_env (by simp only [setJ, List.foldl_cons, List.foldl_nil, List.set_cons_succ, List.set_cons_zero, h3]; rfl) ?_
  have HA := Go.Lib.hid hall
  clear hall
  repeat' (first | (apply TC_seq) | (apply TC_region) | (apply TC_block) | (apply TC_ret) | (apply TC_skip) | (apply TC_exit) | (apply TC_cond_true; exact rfl) | (apply TC_cond_false; exact rfl) | (apply T_nil) | (apply En_then) | (apply En_then_exit) | (apply En_block_exit) | (apply T_load; exact rfl; ((refine pw_load (i := 0) rfl rfl rfl ?_)); refine T_nv ?_) | (apply T_bin; exact rfl; ((refine pw_lss rfl rfl (fun h => ?_) (fun h => ?_))) <;> (refine T_nv ?_)) | (refine T_pure rfl rfl ?_; ((first | refine pw_mv ?_ | refine pw_as ?_ | refine pw_fieldAddr rfl ?_ | refine pw_len rfl ?_)); refine T_nv ?_))
  · skip
    refine TC_draw mixed (by decide +kernel) (fun _ _ _ _ _ _ h => h) (List.Sublist.refl _) ?_
    all_goals ((refine TA_p 0 ?_; ((refine pw_fieldAddr rfl ?_)); refine TA_nv ?_))
    all_goals ((refine TA_p 1 ?_; ((refine pw_load (i := 0) rfl rfl rfl ?_)); refine TA_nv ?_))
    all_goals ((refine TA_p 2 ?_; ((refine pw_mv ?_)); refine TA_nv ?_))
    all_goals ((refine TA_p 3 ?_; ((refine pw_index_wN evp rfl memt (List.getElem?_eq_getElem (by omega)) (fun b o A c hI hL => ?_))); refine TA_nv ?_))
    all_goals ((refine TA_p 4 ?_; ((refine pw_fieldAddr rfl ?_)); refine TA_nv ?_))
    all_goals ((refine TA_p 5 ?_; ((refine pw_load_at rfl memr rfl ?_)); refine TA_nv ?_))
    all_goals ((refine TA_p 6 ?_; ((refine pw_fieldAddr rfl ?_)); refine TA_nv ?_))
    all_goals ((refine TA_p 7 ?_; ((refine pw_load (i := 0) rfl rfl rfl ?_)); refine TA_nv ?_))
    all_goals ((refine TA_p 8 ?_; ((refine pw_mv ?_)); refine TA_nv ?_))
    all_goals ((refine TA_p 9 ?_; ((refine pw_index_wN evp rfl memt (List.getElem?_eq_getElem (by omega)) (fun b o A c hI hL => ?_))); refine TA_nv ?_))
    all_goals ((refine TA_p 10 ?_; ((refine pw_fieldAddr rfl ?_)); refine TA_nv ?_))
    all_goals ((refine TA_p 11 ?_; ((refine pw_load_at rfl memr rfl ?_)); refine TA_nv ?_))
    all_goals ((refine TA_p 12 ?_; ((refine pw_len rfl ?_)); refine TA_nv ?_))
    all_goals ((refine TA_p 13 ?_; ((refine pw_fieldAddr rfl ?_)); refine TA_nv ?_))
    all_goals ((refine TA_p 14 ?_; ((refine pw_load (i := 0) rfl rfl rfl ?_)); refine TA_nv ?_))
    all_goals ((refine TA_p 15 ?_; ((refine pw_len rfl ?_)); refine TA_nv ?_))
    -- left: [16, 17]; ready: [16]: ['call']
    refine TA_o 16 ?_
    refine ow_callf arp ?_; refine rwithin_k _ _ _ (by assumption) ⟨by omega, by omega⟩ ⟨by omega, by omega⟩ (fun hB => ?_) (fun hB => ?_)
    · refine ⟨.inl (fun w hs => hs.weaken sbp kpp), ?_⟩; refine TA_nv ?_
      all_goals ((refine TA_p 17 ?_; ((refine pw_not rfl ?_)); refine TA_nv ?_))
      all_goals refine TA_d ?_
      repeat' (first | (apply TC_region) | (apply TC_skip) | (apply TC_cond_false; exact rfl) | (apply T_nil) | (apply En_then) | (apply En_block) | (apply T_bin; exact rfl; ((refine pw_add64 rfl rfl (by omega) (by omega) ?_)); refine T_nv ?_) | (refine T_pure rfl rfl ?_; ((first | refine pw_mv ?_ | refine pw_as ?_)); refine T_nv ?_))
      refine En_backS (m - 1) _ R (by omega) sjp ⟨rfl, rfl, i + 1, by omega, rfl, fun l hl h => ?_⟩ (fun w hs => hs.weaken sbp kpp)
      by_cases e : l = i
      · subst e; exact hB
      · exact HA.out l hl (by omega)
    · refine ⟨.inl (fun w hs => hs.weaken sbp kpp), ?_⟩; refine TA_nv ?_
      all_goals ((refine TA_p 17 ?_; ((refine pw_not rfl ?_)); refine TA_nv ?_))
      all_goals refine TA_d ?_
      repeat' (first | (apply TC_seq) | (apply TC_region) | (apply TC_ret) | (apply TC_cond_true; exact rfl) | (apply T_nil) | (apply En_then) | (apply En_then_ret) | (apply En_block_ret) | (refine T_pure rfl rfl ?_; ((refine pw_as ?_)); refine T_nv ?_))
      refine En_fin (.inl rfl) (res1 rfl (rv_tmp rfl)) (fin_K H R (fun w hs => hs.weaken sbp kpp) ?_)
      exact K_int (errD_w (by omega) hB).symm k
  · refine En_fin (.inl rfl) (res1 rfl (rv_tmp rfl)) (fin_K H R (fun w hs => hs.weaken sbp kpp) ?_)
    exact K_int (errD_yes hlen (fun l hl => HA.out l hl (by omega))).symm k

/-- A drive and an errno in one value, for good. -/
def KE (K : Value → List Hp → List MP → Prop) (r : Drive × Int) (H : List Hp) (R : List MP) : Prop := ∀ A c A2 c2, K (.agg #[.slice A r.1.bytes.length c, .slice A2 r.1.pending.length c2, .int .i64 r.2]) H (dvR A c A2 c2 r.1 R)
theorem KE_eq {K : Value → List Hp → List MP → Prop} {r r' : Drive × Int} {H : List Hp} {R : List MP} (e : r = r') (h : KE K r H R) : KE K r' H R := e ▸ h
end Go.Proofs.YtggdljhmbckpmaaGreat
namespace Go.Proofs.YtggdljhmbckpmaaGreat
open Go Go.RowKit
set_option maxRecDepth 100000
set_option maxHeartbeats 800000

theorem rput_k' {w0 : World} {H : List Hp} {R : List MP} {K : Value → List Hp → List MP → Prop} (bb c m : Nat) (A : Option Addr) (n cy : Nat) (xs ys : List UInt8) (sp : List Value) (a : Int) (hmx : m = xs.length) (hx : xs.length ≤ 600000) (h0 : 0 ≤ a) (hay : a.toNat + ys.length ≤ xs.length) (hny : n = ys.length) (hm : Sl (.slice A n cy) ys ∈ R)
    (k : K (.slice (some ⟨bb, 0, none⟩) m c) (.blk bb (bytesV (spl xs a.toNat ys) ++ sp) 5 :: H) R) : CallsK Tryz.prog w0 118 #[.slice (some ⟨bb, 0, none⟩) m c, .int .i64 a, .slice A n cy] (.blk bb (bytesV xs ++ sp) 5 :: H) R K := by
  subst hmx; exact rput_k bb c A n cy xs ys sp a hx h0 hay hny hm k
theorem rhas_k {w0 : World} {H : List Hp} {R : List MP} {K : Value → List Hp → List MP → Prop} (A : Option Addr) (c : Nat) (A2 : Option Addr) (c2 : Nat) (d : Drive) (hd : checkD d = true)
    (hm : Sl (.slice A d.bytes.length c) d.bytes ∈ R) (hm2 : Sl (.slice A2 d.pending.length c2) d.pending ∈ R)
    (k : ∀ v, K v (.row v 5 1 (hasB d).length (bytesV (hasB d)) :: H) R) : CallsK Tryz.prog w0 61 #[dv A c A2 c2 d] H R K := by
  obtain ⟨h64, hmax, hmod, h100, hw⟩ := checkD_spec hd
  rw [hasB_length hd] at k
  have HW := Go.Lib.hid hw
  clear hw
  refine calls_of Tryz.func61 rfl Tryz.ntmps61 nep ?_
  repeat' (first | (refine T_gen rfl rfl ?_; refine gw_build0 rfl (by decide) (fun bz => ?_); refine T_nv ?_) | (refine T_gen rfl rfl ?_; refine gw_append_sl 0 rfl rfl memt rfl rfl (by omega) (by omega) (fun v => ?_); refine T_nv ?_; refine T_hq ?_) | (apply TC_seq) | (apply TC_region) | (apply TC_block) | (apply T_nil) | (apply En_then) | (apply T_load; exact rfl; ((refine pw_load (i := 1) rfl rfl rfl ?_)); refine T_nv ?_) | (refine T_pure rfl rfl ?_; ((first | refine pw_as ?_ | refine pw_fieldAddr rfl ?_)); refine T_nv ?_) | (refine T_gen rfl rfl ?_; ((refine gw_box clp (fun b => ?_))); refine T_nv ?_))
  refine TC_unrow 0 rfl (by omega) (fun b' cap sp hv hl1 hl2 hcap hcapm => ?_)
  subst hv
  refine TC_hp hpp ?_
  refine TC_loopS [3, 4, 9, 10, 11, 12, 13, 14, 15, 16, 17, 18, 19, 20, 21, 22, 23, 24, 25, 26, 27, 28, 29] (fun m j H' R' => R = R' ∧ ∃ i : Nat, i + m = d.pending.length ∧ j 4 = .int .i64 i ∧ j 3 = .slice (some ⟨b', 0, none⟩) d.bytes.length cap ∧ ∃ cur : List UInt8, cur.length = d.bytes.length ∧ cur = (d.pending.take i).foldl (fun xs w => spl xs w.at_.toNat w.data) d.bytes ∧
    (.blk b' (bytesV cur ++ sp) 5 :: .blk b [.slice A d.bytes.length c, .slice A2 d.pending.length c2] 51 :: H) = H') d.pending.length sjp ⟨rfl, 0, by omega, rfl, by simp, d.bytes, rfl, rfl, rfl⟩ ?_
  rintro m j H' R' ⟨hR, i, hi, h4, h3, cur, hcl, hcur, hH⟩
  subst hH; subst hR
  have HC := Go.Lib.hid hcur
  clear hcur
  refine TC_env (by simp only [setJ, List.foldl_cons, List.foldl_nil, List.set_cons_succ, List.set_cons_zero, h4, h3]; rfl) ?_
  repeat' (first | (apply TC_seq) | (apply TC_region) | (apply TC_block) | (apply TC_ret) | (apply TC_skip) | (apply TC_exit) | (apply TC_cond_true; exact rfl) | (apply TC_cond_false; exact rfl) | (apply T_nil) | (apply En_then) | (apply En_then_exit) | (apply En_block_exit) | (apply T_load; exact rfl; ((refine pw_load (i := 1) rfl rfl rfl ?_)); refine T_nv ?_) | (apply T_bin; exact rfl; ((refine pw_lss rfl rfl (fun h => ?_) (fun h => ?_))) <;> (refine T_nv ?_)) | (refine T_pure rfl rfl ?_; ((first | refine pw_mv ?_ | refine pw_as ?_ | refine pw_fieldAddr rfl ?_ | refine pw_len rfl ?_)); refine T_nv ?_))
  · have hwi : 0 ≤ d.pending[i].at_ ∧ d.pending[i].at_.toNat + d.pending[i].data.length ≤ d.bytes.length := HW.out i (by omega)
    refine TC_draw mixed (by decide +kernel) (fun _ _ _ _ _ _ h => h) (List.Sublist.cons _ (List.Sublist.refl _)) ?_
    all_goals ((refine TA_ps 0 (List.Sublist.cons _ (List.Sublist.refl _)) ?_; ((refine pw_mv ?_)); refine TA_nv ?_))
    all_goals ((refine TA_ps 1 (List.Sublist.cons _ (List.Sublist.refl _)) ?_; ((refine pw_fieldAddr rfl ?_)); refine TA_nv ?_))
    all_goals ((refine TA_ps 2 (List.Sublist.cons _ (List.Sublist.refl _)) ?_; ((refine pw_load (i := 0) rfl rfl rfl ?_)); refine TA_nv ?_))
    all_goals ((refine TA_ps 3 (List.Sublist.cons _ (List.Sublist.refl _)) ?_; ((refine pw_mv ?_)); refine TA_nv ?_))
    all_goals ((refine TA_ps 4 (List.Sublist.cons _ (List.Sublist.refl _)) ?_; ((refine pw_index_wN evp rfl memt (List.getElem?_eq_getElem (by omega)) (fun b o A c hI hL => ?_))); refine TA_nv ?_))
    all_goals ((refine TA_ps 5 (List.Sublist.cons _ (List.Sublist.refl _)) ?_; ((refine pw_fieldAddr rfl ?_)); refine TA_nv ?_))
    all_goals ((refine TA_ps 6 (List.Sublist.cons _ (List.Sublist.refl _)) ?_; ((refine pw_load_at rfl memr rfl ?_)); refine TA_nv ?_))
    all_goals ((refine TA_ps 7 (List.Sublist.cons _ (List.Sublist.refl _)) ?_; ((refine pw_fieldAddr rfl ?_)); refine TA_nv ?_))
    all_goals ((refine TA_ps 8 (List.Sublist.cons _ (List.Sublist.refl _)) ?_; ((refine pw_load (i := 0) rfl rfl rfl ?_)); refine TA_nv ?_))
    all_goals ((refine TA_ps 9 (List.Sublist.cons _ (List.Sublist.refl _)) ?_; ((refine pw_mv ?_)); refine TA_nv ?_))
    all_goals ((refine TA_ps 10 (List.Sublist.cons _ (List.Sublist.refl _)) ?_; ((refine pw_index_wN evp rfl memt (List.getElem?_eq_getElem (by omega)) (fun b o A c hI hL => ?_))); refine TA_nv ?_))
    all_goals ((refine TA_ps 11 (List.Sublist.cons _ (List.Sublist.refl _)) ?_; ((refine pw_fieldAddr rfl ?_)); refine TA_nv ?_))
    all_goals ((refine TA_ps 12 (List.Sublist.cons _ (List.Sublist.refl _)) ?_; ((refine pw_load_at rfl memr rfl ?_)); refine TA_nv ?_))
    -- left: [13, 14]; ready: [13]: ['call']
    refine TA_o 13 ?_
    refine ow_callf arp ?_; refine rput_k' _ _ _ _ _ _ cur d.pending[i].data sp _ hcl.symm (by omega) hwi.1 (by omega) rfl memt ?_
    refine ⟨.inl (fun w hs => hs.weaken sbp kpp), ?_⟩; refine TA_nv ?_
    all_goals ((refine TA_ps 14 (List.Sublist.cons _ (List.Sublist.refl _)) ?_; ((refine pw_as ?_)); refine TA_nv ?_))
    all_goals refine TA_d ?_
    repeat' (first | (apply TC_region) | (apply T_nil) | (apply En_then) | (apply En_block) | (apply T_bin; exact rfl; ((refine pw_add64 rfl rfl (by omega) (by omega) ?_)); refine T_nv ?_) | (refine T_pure rfl rfl ?_; ((first | refine pw_mv ?_ | refine pw_as ?_)); refine T_nv ?_))
    refine En_backS (m - 1) _ R (by omega) sjp ⟨rfl, i + 1, by omega, rfl, rfl, spl cur d.pending[i].at_.toNat d.pending[i].data, by rw [spl_length _ _ _ (by omega)]; exact hcl, ?_, rfl⟩ (fun w hs => hs.weaken sbp kpp)
    rw [HC.out, List.take_succ_eq_append_getElem (by omega), List.foldl_append, List.foldl_cons, List.foldl_nil]
  · refine En_fin (.inl rfl) (res1 rfl (rv_tmp rfl)) (fin_K (.row (.slice (some ⟨b', 0, none⟩) d.bytes.length cap) 5 1 d.bytes.length (bytesV (hasB d)) :: H) R (fun w hs => ?_) (k _))
    have hc2 : cur = hasB d := by
      rw [HC.out, List.take_of_length_le (by omega)]; rfl
    rw [hc2] at hs
    have h1 := hs.torow (i := 0) (n := d.bytes.length) (cap := cap) (size := 1) rfl (by rw [← hl1]; simp [hasB_length hd]) (by simp [hasB_length hd]) hcap hcapm
    exact h1.weaken (by simp) (fun p hp => hp)

/-- Bytes and an errno in one value, for good. -/
def KC (K : Value → List Hp → List MP → Prop) (r : List UInt8 × Int) (H : List Hp) (R : List MP) : Prop := ∀ A c, K (.agg #[.slice A r.1.length c, .int .i64 r.2]) H (Sl (.slice A r.1.length c) r.1 :: R)
theorem KC_eq {K : Value → List Hp → List MP → Prop} {r r' : List UInt8 × Int} {H : List Hp} {R : List MP} (e : r = r') (h : KC K r H R) : KC K r' H R := e ▸ h
end Go.Proofs.YtggdljhmbckpmaaGreat
