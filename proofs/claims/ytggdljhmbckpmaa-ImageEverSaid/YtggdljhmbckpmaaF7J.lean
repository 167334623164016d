/- Crash, Read: walks. Plain laws on drives. -/
import Derived.Test.YtggdljhmbckpmaaF6
import Derived.Test.YtggdljhmbckpmaaA9J
import Derived.Test.YtggdljhmbckpmaaF4J
set_option linter.unusedVariables false
set_option linter.unusedSimpArgs false
namespace Go.Proofs.Ytggdljhmbckpmaa
open Go Go.RowKit
set_option maxRecDepth 100000
set_option maxHeartbeats 800000

def pickOf (picks : List Int) (i : Nat) : Nat := match picks[i]? with | some p => amt p | none => 0
def crashW (b : List UInt8) (w : DW) (k : Nat) : List UInt8 :=
  if k ≤ w.data.length then spl b w.at_.toNat (w.data.take k) else if 0 < w.data.length then spl b (w.at_.toNat + 1) (w.data.drop 1) else b
def crashF (picks : List Int) : List DW → Nat → List UInt8 → List UInt8
  | [], _, b => b
  | w :: ws, i, b => crashF picks ws (i + 1) (crashW b w (pickOf picks i % (w.data.length + 2)))
def crashD (d : Drive) (picks : List Int) : Drive × Int := if checkD d then (⟨crashF picks d.pending 0 d.bytes, []⟩, 0) else (⟨[], []⟩, 301)
theorem crashW_length (b : List UInt8) (w : DW) (k : Nat) (h : w.at_.toNat + w.data.length ≤ b.length) : (crashW b w k).length = b.length := by
  unfold crashW
  split
  · exact spl_length _ _ _ (by simp; omega)
  · split
    · exact spl_length _ _ _ (by simp; omega)
    · rfl

theorem crash_k {w0 : World} {H : List Hp} {R : List MP} {K : Value → List Hp → List MP → Prop} (A0 : Option Addr) (c0 : Nat) (A2 : Option Addr) (c2 : Nat) (A3 : Option Addr) (c3 : Nat) (d : Drive) (l : List Int) (hb : d.bytes.length ≤ 9223372036854775807) (hp : d.pending.length ≤ 9223372036854775807) (hll : l.length ≤ 9223372036854775807)
    (hm : Sl (.slice A0 d.bytes.length c0) d.bytes ∈ R) (hm2 : Sl (.slice A2 d.pending.length c2) d.pending ∈ R) (hm3 : Sl (.slice A3 l.length c3) l ∈ R)
    (k : KD K (crashD d l) H R) : CallsK Try.prog w0 23 #[dv A0 c0 A2 c2 d, .slice A3 l.length c3] H R K := by
  refine calls_of Try.func23 rfl Try.ntmps23 nep ?_
  repeat' (first | (refine T_ow rfl ?_; refine ow_callf arp ?_; refine check_k _ _ _ _ d hb hp hm hm2 ?_; refine T_nv ?_) | (apply TC_seq) | (apply TC_region) | (apply TC_ret) | (apply TC_skip) | (apply TC_cond_true; exact rfl) | (apply TC_cond_false; exact rfl) | (apply T_nil) | (apply En_then) | (apply En_then_ret) | (apply T_load; exact rfl; ((refine pw_load (i := 1) rfl rfl rfl ?_)); refine T_nv ?_) | (apply T_bin; exact rfl; ((refine pw_neq rfl rfl (fun h => ?_) (fun h => ?_))) <;> (refine T_nv ?_)) | (apply T_store; exact rfl; ((refine gw_store (i := 0) rfl clp rfl (by rfl) (by simp) (by simp [Value.oneCell']) ?_)); refine T_nv ?_; refine T_hq ?_) | (refine T_pure rfl rfl ?_; ((first | refine pw_mv ?_ | refine pw_as ?_ | refine pw_fieldAddr rfl ?_ | refine pw_build bldp ?_)); refine T_nv ?_) | (refine T_gen rfl rfl ?_; ((first | refine gw_box clp (fun b => ?_) | refine gw_alloc clp (fun b => ?_))); refine T_nv ?_))
  · refine En_fin (.inl rfl) (res2 rfl (rv_cell (i := 0) rfl rfl rfl) (rv_tmp rfl)) (fin_K H _ (fun w hs => KD_none (hs.weaken (by simp) (fun _ h => h))) ?_)
    have hc : checkD d = false := by unfold errD at h; cases hc : checkD d <;> simp_all
    have e : errD d = 301 := by unfold errD; rw [hc]; rfl
    rw [e]
    exact KD_eq (r' := (⟨[], []⟩, 301)) (by unfold crashD; rw [hc]; rfl) k none 0 none 0
  have hc : checkD d = true := by unfold errD at h; cases hc : checkD d <;> simp_all
  obtain ⟨h64, hmax, hmod, h100, hw⟩ := checkD_spec hc
  have HW := Go.Lib.hid hw
  clear hw
  repeat' (first | (refine T_ow rfl ?_; refine ow_callf arp ?_; refine clone_k _ _ _ (by omega) memt (fun v => ?_); refine T_nv ?_) | (apply TC_seq) | (apply TC_region) | (apply TC_block) | (apply T_nil) | (apply En_then) | (apply T_load; exact rfl; ((refine pw_load (i := 2) rfl rfl rfl ?_)); refine T_nv ?_) | (refine T_pure rfl rfl ?_; ((first | refine pw_mv ?_ | refine pw_as ?_ | refine pw_fieldAddr rfl ?_ | refine pw_len rfl ?_)); refine T_nv ?_))
  rename_i b2
  revert b
  intro b4
  refine TC_unrow 0 rfl (by omega) (fun b7 cap sp hv hl1 hl2 hcap hcapm => ?_)
  subst hv
  refine TC_hp hpp ?_
  refine TC_loopS [8, 9, 10, 11, 24, 25, 26, 27, 28, 29, 30, 31, 32, 33, 34, 35, 36, 37, 38, 39, 40, 41, 42, 43, 44, 45, 46, 47, 48, 49, 50, 51, 52, 53, 54, 55, 56, 57, 58, 59, 60, 61, 62, 63, 64, 65, 66, 67, 68, 69, 70, 71, 72, 73, 74, 75] (fun m j H' R' => R = R' ∧ ∃ i : Nat, i + m = d.pending.length ∧ j 24 = .int .i64 i ∧ ∃ cur : List UInt8, cur.length = d.bytes.length ∧ crashF l d.pending 0 d.bytes = crashF l (d.pending.drop i) i cur ∧
    (.blk b7 (bytesV cur ++ sp) 5 :: .blk b4 [.slice none 0 0, .slice none 0 0] 45 :: .blk b2 [.slice A0 d.bytes.length c0, .slice A2 d.pending.length c2] 45 :: H) = H') d.pending.length sjp ⟨rfl, 0, by omega, rfl, d.bytes, rfl, rfl, rfl⟩ ?_
  rintro m j H' R' ⟨hR, i, hi, h24, cur, hcl, hcur, hH⟩
  subst hH; subst hR
  have HC := Go.Lib.hid hcur
  clear hcur
  refine TC_env (by simp only [setJ, List.foldl_cons, List.foldl_nil, List.set_cons_succ, List.set_cons_zero, h24]; rfl) ?_
  repeat' (first | (apply TC_seq) | (apply TC_region) | (apply TC_block) | (apply TC_ret) | (apply TC_skip) | (apply TC_exit) | (apply TC_cond_true; exact rfl) | (apply TC_cond_false; exact rfl) | (apply T_nil) | (apply En_then) | (apply En_then_exit) | (apply En_block_exit) | (apply T_load; exact rfl; ((first | refine pw_load (i := 0) rfl rfl rfl ?_ | refine pw_load_at0 rfl memr rfl ?_)); refine T_nv ?_) | (apply T_bin; exact rfl; ((refine pw_lss rfl rfl (fun h => ?_) (fun h => ?_))) <;> (refine T_nv ?_)) | (apply T_idx; exact rfl; ((refine pw_index_wN evp rfl memt (List.getElem?_eq_getElem (by omega)) (fun b o A c hI hL => ?_))); refine T_nv ?_) | (apply T_store; exact rfl; ((first | refine gw_store (i := 0) rfl clp rfl (by rfl) (by simp) (by simp [Value.oneCell']) ?_ | refine gw_store (i := 1) rfl clp rfl (by rfl) (by simp) (by simp [Value.oneCell']) ?_)); refine T_nv ?_; refine T_hq ?_) | (refine T_pure rfl rfl ?_; ((first | refine pw_mv ?_ | refine pw_as ?_ | refine pw_fieldAddr rfl ?_ | refine pw_len rfl ?_ | refine pw_build bldp ?_)); refine T_nv ?_) | (refine T_gen rfl rfl ?_; ((refine gw_alloc clp (fun b => ?_))); refine T_nv ?_))
  · skip
    refine TC_draw mixed (by decide +kernel) (fun _ _ _ _ _ _ h => h) (List.Sublist.refl _) ?_
    all_goals ((refine TA_p 0 ?_; ((refine pw_mv ?_)); refine TA_nv ?_))
    all_goals ((refine TA_p 1 ?_; ((refine pw_mv ?_)); refine TA_nv ?_))
    all_goals ((refine TA_p 2 ?_; ((refine pw_index_iN evp rfl memt (List.getElem?_eq_getElem (by omega)) (fun b o hI => ?_))); refine TA_nv ?_))
    all_goals ((refine TA_p 3 ?_; ((refine pw_load_at0 rfl memr rfl ?_)); refine TA_nv ?_))
    all_goals ((refine TA_p 4 ?_; ((refine pw_mv ?_)); refine TA_nv ?_))
    all_goals ((refine TA_p 5 ?_; ((refine pw_mv ?_)); refine TA_nv ?_))
    all_goals ((refine TA_p 6 ?_; ((refine pw_index_iN evp rfl memt (List.getElem?_eq_getElem (by omega)) (fun b o hI => ?_))); refine TA_nv ?_))
    all_goals ((refine TA_p 7 ?_; ((refine pw_load_at0 rfl memr rfl ?_)); refine TA_nv ?_))
    all_goals ((refine TA_p 8 ?_; ((refine pw_neg rfl ?_)); refine TA_nv ?_))
    all_goals ((refine TA_p 9 ?_; ((refine pw_amt hI rfl rfl rfl ?_)); refine TA_nv ?_))
    all_goals ((refine TA_p 10 ?_; ((refine pw_as ?_)); refine TA_nv ?_))
    all_goals refine TA_d ?_
    repeat' (first | (apply TC_seq) | (apply TC_region) | (apply T_nil) | (apply En_then) | (apply T_load; exact rfl; ((refine pw_load (i := 0) rfl rfl rfl ?_)); refine T_nv ?_) | (refine T_pure rfl rfl ?_; ((first | refine pw_mv ?_ | refine pw_as ?_ | refine pw_fieldAddr rfl ?_ | refine pw_len rfl ?_)); refine T_nv ?_))
    have hwi : 0 ≤ d.pending[i].at_ ∧ d.pending[i].at_.toNat + d.pending[i].data.length ≤ d.bytes.length := HW.out i (by omega)
    repeat' (first | (refine T_pure rfl rfl ?_; refine pw_remN (a := amt l[i]) (m := d.pending[i].data.length + 2) rfl (by (first | rfl | simp [ev])) (by omega) (fun r hr hrlt => ?_); refine T_nv ?_) | (apply TC_seq) | (apply TC_region) | (apply TC_block) | (apply TC_skip) | (apply TC_cond_true; exact rfl) | (apply TC_cond_false; exact rfl) | (apply T_nil) | (apply En_then) | (apply En_block) | (apply T_bin; exact rfl; ((refine pw_add64 rfl rfl (by omega) (by omega) ?_)); refine T_nv ?_) | (apply T_bin; exact rfl; ((first | refine pw_leq rfl rfl (fun h => ?_) (fun h => ?_) | refine pw_gtr rfl rfl (fun h => ?_) (fun h => ?_))) <;> (refine T_nv ?_)) | (refine T_pure rfl rfl ?_; ((first | refine pw_mv ?_ | refine pw_as ?_)); refine T_nv ?_))
    all_goals
      have hnext : crashF l (d.pending.drop i) i cur = crashF l (d.pending.drop (i + 1)) (i + 1) (crashW cur d.pending[i] r) := by
        rw [List.drop_eq_getElem_cons (show i < d.pending.length by omega), crashF, (show pickOf l i = amt l[i] by simp [pickOf, List.getElem?_eq_getElem (show i < l.length by omega)]), ← show r = _ from hr]
      have HN := Go.Lib.hid hnext
      clear hnext
    · skip
      refine TC_draw mixed (by decide +kernel) (fun _ _ _ _ _ _ h => h) (List.Sublist.cons_cons _ (List.Sublist.cons _ (List.Sublist.refl _))) ?_
      all_goals ((refine TA_ps 0 (List.Sublist.cons_cons _ (List.Sublist.cons _ (List.Sublist.refl _))) ?_; ((refine pw_mv ?_)); refine TA_nv ?_))
      all_goals ((refine TA_ps 1 (List.Sublist.cons_cons _ (List.Sublist.cons _ (List.Sublist.refl _))) ?_; ((refine pw_fieldAddr rfl ?_)); refine TA_nv ?_))
      all_goals ((refine TA_ps 2 (List.Sublist.cons_cons _ (List.Sublist.cons _ (List.Sublist.refl _))) ?_; ((refine pw_load (i := 0) rfl rfl rfl ?_)); refine TA_nv ?_))
      all_goals ((refine TA_ps 3 (List.Sublist.cons_cons _ (List.Sublist.cons _ (List.Sublist.refl _))) ?_; ((refine pw_slice_o rfl rfl rfl (by omega) (by omega) (by omega) (fun o' ho' => ?_))); refine TA_nv ?_))
      all_goals ((refine TA_ps 4 (List.Sublist.cons_cons _ (List.Sublist.cons _ (List.Sublist.refl _))) ?_; ((refine pw_fieldAddr rfl ?_)); refine TA_nv ?_))
      all_goals ((refine TA_ps 5 (List.Sublist.cons_cons _ (List.Sublist.cons _ (List.Sublist.refl _))) ?_; ((refine pw_load (i := 0) rfl rfl rfl ?_)); refine TA_nv ?_))
      all_goals ((refine TA_ps 6 (List.Sublist.cons_cons _ (List.Sublist.cons _ (List.Sublist.refl _))) ?_; ((refine pw_mv ?_)); refine TA_nv ?_))
      all_goals ((refine TA_ps 7 (List.Sublist.cons_cons _ (List.Sublist.cons _ (List.Sublist.refl _))) ?_; ((refine pw_slice_sl rfl memt rfl rfl rfl rfl (by omega) (by omega) (by omega) (fun A8 c8 => ?_))); refine TA_nv ?_))
      -- left: [8]; ready: [8]: ['call copy']
      refine TA_g 8 ?_
      refine gw_copy (i := 1) rfl rfl memt rfl (fun h => by simp; omega) ?_
      refine ⟨.inl (fun w hs => hs.weaken (List.Sublist.cons_cons _ (List.Sublist.cons _ (List.Sublist.refl _))) (fun p hp => hp)), ?_⟩
      refine TA_done (by decide +kernel) ?_
      repeat' (first | (apply TC_region) | (apply T_nil) | (apply En_then) | (apply En_block) | (apply T_bin; exact rfl; ((refine pw_add64 rfl rfl (by omega) (by omega) ?_)); refine T_nv ?_) | (refine T_pure rfl rfl ?_; ((refine pw_mv ?_)); refine T_nv ?_))
      refine En_backS (m - 1) (.blk b7 (bytesV (crashW cur d.pending[i] r) ++ sp) 5 :: .blk b4 [.slice none 0 0, .slice none 0 0] 45 :: .blk b2 [.slice A0 d.bytes.length c0, .slice A2 d.pending.length c2] 45 :: H) R (by omega) sjp ⟨rfl, i + 1, by omega, rfl, crashW cur d.pending[i] r, by rw [crashW_length _ _ _ (by omega)]; exact hcl, HC.out.trans HN.out, rfl⟩ (fun w hs => ?_)
      have e := copy_done cur ((d.pending[i].data.take (r : Int).toNat).drop (0 : Int).toNat) sp d.pending[i].at_.toNat ((d.bytes.length : Int).toNat - d.pending[i].at_.toNat) o' (by simp [hcl]) ho' (by simp; omega)
      have e2 : crashW cur d.pending[i] r = spl cur d.pending[i].at_.toNat ((d.pending[i].data.take (r : Int).toNat).drop (0 : Int).toNat) := by
        unfold crashW
        rw [if_pos (by omega)]; simp
      rw [e2, ← e]
      exact hs.weaken sbp kpp
    · skip
      refine TC_draw mixed (by decide +kernel) (fun _ _ _ _ _ _ h => h) (List.Sublist.cons_cons _ (List.Sublist.cons _ (List.Sublist.refl _))) ?_
      all_goals ((refine TA_ps 0 (List.Sublist.cons_cons _ (List.Sublist.cons _ (List.Sublist.refl _))) ?_; ((refine pw_mv ?_)); refine TA_nv ?_))
      all_goals ((refine TA_ps 1 (List.Sublist.cons_cons _ (List.Sublist.cons _ (List.Sublist.refl _))) ?_; ((refine pw_fieldAddr rfl ?_)); refine TA_nv ?_))
      all_goals ((refine TA_ps 2 (List.Sublist.cons_cons _ (List.Sublist.cons _ (List.Sublist.refl _))) ?_; ((refine pw_load (i := 0) rfl rfl rfl ?_)); refine TA_nv ?_))
      all_goals ((refine TA_ps 3 (List.Sublist.cons_cons _ (List.Sublist.cons _ (List.Sublist.refl _))) ?_; ((refine pw_add64 rfl rfl (by omega) (by omega) ?_)); refine TA_nv ?_))
      all_goals ((refine TA_ps 4 (List.Sublist.cons_cons _ (List.Sublist.cons _ (List.Sublist.refl _))) ?_; ((refine pw_slice_o rfl rfl rfl (by omega) (by omega) (by omega) (fun o' ho' => ?_))); refine TA_nv ?_))
      all_goals ((refine TA_ps 5 (List.Sublist.cons_cons _ (List.Sublist.cons _ (List.Sublist.refl _))) ?_; ((refine pw_fieldAddr rfl ?_)); refine TA_nv ?_))
      all_goals ((refine TA_ps 6 (List.Sublist.cons_cons _ (List.Sublist.cons _ (List.Sublist.refl _))) ?_; ((refine pw_load (i := 0) rfl rfl rfl ?_)); refine TA_nv ?_))
      all_goals ((refine TA_ps 7 (List.Sublist.cons_cons _ (List.Sublist.cons _ (List.Sublist.refl _))) ?_; ((refine pw_slice_sl rfl memt rfl rfl rfl rfl (by omega) (by omega) (by omega) (fun A8 c8 => ?_))); refine TA_nv ?_))
      -- left: [8]; ready: [8]: ['call copy']
      refine TA_g 8 ?_
      refine gw_copy (i := 1) rfl rfl memt rfl (fun h => by simp; omega) ?_
      refine ⟨.inl (fun w hs => hs.weaken (List.Sublist.cons_cons _ (List.Sublist.cons _ (List.Sublist.refl _))) (fun p hp => hp)), ?_⟩
      refine TA_done (by decide +kernel) ?_
      repeat' (first | (apply TC_region) | (apply T_nil) | (apply En_then) | (apply En_block) | (apply T_bin; exact rfl; ((refine pw_add64 rfl rfl (by omega) (by omega) ?_)); refine T_nv ?_) | (refine T_pure rfl rfl ?_; ((refine pw_mv ?_)); refine T_nv ?_))
      refine En_backS (m - 1) (.blk b7 (bytesV (crashW cur d.pending[i] r) ++ sp) 5 :: .blk b4 [.slice none 0 0, .slice none 0 0] 45 :: .blk b2 [.slice A0 d.bytes.length c0, .slice A2 d.pending.length c2] 45 :: H) R (by omega) sjp ⟨rfl, i + 1, by omega, rfl, crashW cur d.pending[i] r, by rw [crashW_length _ _ _ (by omega)]; exact hcl, HC.out.trans HN.out, rfl⟩ (fun w hs => ?_)
      have e := copy_done cur ((d.pending[i].data.take (d.pending[i].data.length : Int).toNat).drop (1 : Int).toNat) sp (d.pending[i].at_ + 1).toNat ((d.bytes.length : Int).toNat - (d.pending[i].at_ + 1).toNat) o' (by simp [hcl]) ho' (by simp; omega)
      have e2 : crashW cur d.pending[i] r = spl cur (d.pending[i].at_ + 1).toNat ((d.pending[i].data.take (d.pending[i].data.length : Int).toNat).drop (1 : Int).toNat) := by
        unfold crashW
        rw [if_neg (by omega), if_pos (by omega), show (d.pending[i].at_ + 1).toNat = d.pending[i].at_.toNat + 1 by omega]; simp
      rw [e2, ← e]
      exact hs.weaken sbp kpp
    · refine En_backS (m - 1) (.blk b7 (bytesV (crashW cur d.pending[i] r) ++ sp) 5 :: .blk b4 [.slice none 0 0, .slice none 0 0] 45 :: .blk b2 [.slice A0 d.bytes.length c0, .slice A2 d.pending.length c2] 45 :: H) R (by omega) sjp ⟨rfl, i + 1, by omega, rfl, crashW cur d.pending[i] r, by rw [crashW_length _ _ _ (by omega)]; exact hcl, HC.out.trans HN.out, rfl⟩ (fun w hs => ?_)
      have e2 : crashW cur d.pending[i] r = cur := by
        unfold crashW
        rw [if_neg (by omega), if_neg (by omega)]
      rw [e2]
      exact hs.weaken sbp kpp
  · skip
    have hwi : 0 ≤ d.pending[i].at_ ∧ d.pending[i].at_.toNat + d.pending[i].data.length ≤ d.bytes.length := HW.out i (by omega)
    repeat' (first | (refine T_pure rfl rfl ?_; refine pw_remN (a := 0) (m := d.pending[i].data.length + 2) rfl (by (first | rfl | simp [ev])) (by omega) (fun r hr hrlt => ?_); refine T_nv ?_) | (apply TC_seq) | (apply TC_region) | (apply TC_block) | (apply TC_skip) | (apply TC_cond_true; exact rfl) | (apply TC_cond_false; exact rfl) | (apply T_nil) | (apply En_then) | (apply En_block) | (apply T_bin; exact rfl; ((refine pw_add64 rfl rfl (by omega) (by omega) ?_)); refine T_nv ?_) | (apply T_bin; exact rfl; ((first | refine pw_leq rfl rfl (fun h => ?_) (fun h => ?_) | refine pw_gtr rfl rfl (fun h => ?_) (fun h => ?_))) <;> (refine T_nv ?_)) | (refine T_pure rfl rfl ?_; ((first | refine pw_mv ?_ | refine pw_as ?_)); refine T_nv ?_))
    all_goals
      have hnext : crashF l (d.pending.drop i) i cur = crashF l (d.pending.drop (i + 1)) (i + 1) (crashW cur d.pending[i] r) := by
        rw [List.drop_eq_getElem_cons (show i < d.pending.length by omega), crashF, (show pickOf l i = 0 by simp [pickOf, List.getElem?_eq_none (show l.length ≤ i by omega)]), ← show r = _ from hr]
      have HN := Go.Lib.hid hnext
      clear hnext
    · skip
      refine TC_draw mixed (by decide +kernel) (fun _ _ _ _ _ _ h => h) (List.Sublist.cons_cons _ (List.Sublist.cons _ (List.Sublist.refl _))) ?_
      all_goals ((refine TA_ps 0 (List.Sublist.cons_cons _ (List.Sublist.cons _ (List.Sublist.refl _))) ?_; ((refine pw_mv ?_)); refine TA_nv ?_))
      all_goals ((refine TA_ps 1 (List.Sublist.cons_cons _ (List.Sublist.cons _ (List.Sublist.refl _))) ?_; ((refine pw_fieldAddr rfl ?_)); refine TA_nv ?_))
      all_goals ((refine TA_ps 2 (List.Sublist.cons_cons _ (List.Sublist.cons _ (List.Sublist.refl _))) ?_; ((refine pw_load (i := 0) rfl rfl rfl ?_)); refine TA_nv ?_))
      all_goals ((refine TA_ps 3 (List.Sublist.cons_cons _ (List.Sublist.cons _ (List.Sublist.refl _))) ?_; ((refine pw_slice_o rfl rfl rfl (by omega) (by omega) (by omega) (fun o' ho' => ?_))); refine TA_nv ?_))
      all_goals ((refine TA_ps 4 (List.Sublist.cons_cons _ (List.Sublist.cons _ (List.Sublist.refl _))) ?_; ((refine pw_fieldAddr rfl ?_)); refine TA_nv ?_))
      all_goals ((refine TA_ps 5 (List.Sublist.cons_cons _ (List.Sublist.cons _ (List.Sublist.refl _))) ?_; ((refine pw_load (i := 0) rfl rfl rfl ?_)); refine TA_nv ?_))
      all_goals ((refine TA_ps 6 (List.Sublist.cons_cons _ (List.Sublist.cons _ (List.Sublist.refl _))) ?_; ((refine pw_mv ?_)); refine TA_nv ?_))
      all_goals ((refine TA_ps 7 (List.Sublist.cons_cons _ (List.Sublist.cons _ (List.Sublist.refl _))) ?_; ((refine pw_slice_sl rfl memt rfl rfl rfl rfl (by omega) (by omega) (by omega) (fun A8 c8 => ?_))); refine TA_nv ?_))
      -- left: [8]; ready: [8]: ['call copy']
      refine TA_g 8 ?_
      refine gw_copy (i := 1) rfl rfl memt rfl (fun h => by simp; omega) ?_
      refine ⟨.inl (fun w hs => hs.weaken (List.Sublist.cons_cons _ (List.Sublist.cons _ (List.Sublist.refl _))) (fun p hp => hp)), ?_⟩
      refine TA_done (by decide +kernel) ?_
      repeat' (first | (apply TC_region) | (apply T_nil) | (apply En_then) | (apply En_block) | (apply T_bin; exact rfl; ((refine pw_add64 rfl rfl (by omega) (by omega) ?_)); refine T_nv ?_) | (refine T_pure rfl rfl ?_; ((refine pw_mv ?_)); refine T_nv ?_))
      refine En_backS (m - 1) (.blk b7 (bytesV (crashW cur d.pending[i] r) ++ sp) 5 :: .blk b4 [.slice none 0 0, .slice none 0 0] 45 :: .blk b2 [.slice A0 d.bytes.length c0, .slice A2 d.pending.length c2] 45 :: H) R (by omega) sjp ⟨rfl, i + 1, by omega, rfl, crashW cur d.pending[i] r, by rw [crashW_length _ _ _ (by omega)]; exact hcl, HC.out.trans HN.out, rfl⟩ (fun w hs => ?_)
      have e := copy_done cur ((d.pending[i].data.take (r : Int).toNat).drop (0 : Int).toNat) sp d.pending[i].at_.toNat ((d.bytes.length : Int).toNat - d.pending[i].at_.toNat) o' (by simp [hcl]) ho' (by simp; omega)
      have e2 : crashW cur d.pending[i] r = spl cur d.pending[i].at_.toNat ((d.pending[i].data.take (r : Int).toNat).drop (0 : Int).toNat) := by
        unfold crashW
        rw [if_pos (by omega)]; simp
      rw [e2, ← e]
      exact hs.weaken sbp kpp
    · skip
      refine TC_draw mixed (by decide +kernel) (fun _ _ _ _ _ _ h => h) (List.Sublist.cons_cons _ (List.Sublist.cons _ (List.Sublist.refl _))) ?_
      all_goals ((refine TA_ps 0 (List.Sublist.cons_cons _ (List.Sublist.cons _ (List.Sublist.refl _))) ?_; ((refine pw_mv ?_)); refine TA_nv ?_))
      all_goals ((refine TA_ps 1 (List.Sublist.cons_cons _ (List.Sublist.cons _ (List.Sublist.refl _))) ?_; ((refine pw_fieldAddr rfl ?_)); refine TA_nv ?_))
      all_goals ((refine TA_ps 2 (List.Sublist.cons_cons _ (List.Sublist.cons _ (List.Sublist.refl _))) ?_; ((refine pw_load (i := 0) rfl rfl rfl ?_)); refine TA_nv ?_))
      all_goals ((refine TA_ps 3 (List.Sublist.cons_cons _ (List.Sublist.cons _ (List.Sublist.refl _))) ?_; ((refine pw_add64 rfl rfl (by omega) (by omega) ?_)); refine TA_nv ?_))
      all_goals ((refine TA_ps 4 (List.Sublist.cons_cons _ (List.Sublist.cons _ (List.Sublist.refl _))) ?_; ((refine pw_slice_o rfl rfl rfl (by omega) (by omega) (by omega) (fun o' ho' => ?_))); refine TA_nv ?_))
      all_goals ((refine TA_ps 5 (List.Sublist.cons_cons _ (List.Sublist.cons _ (List.Sublist.refl _))) ?_; ((refine pw_fieldAddr rfl ?_)); refine TA_nv ?_))
      all_goals ((refine TA_ps 6 (List.Sublist.cons_cons _ (List.Sublist.cons _ (List.Sublist.refl _))) ?_; ((refine pw_load (i := 0) rfl rfl rfl ?_)); refine TA_nv ?_))
      all_goals ((refine TA_ps 7 (List.Sublist.cons_cons _ (List.Sublist.cons _ (List.Sublist.refl _))) ?_; ((refine pw_slice_sl rfl memt rfl rfl rfl rfl (by omega) (by omega) (by omega) (fun A8 c8 => ?_))); refine TA_nv ?_))
      -- left: [8]; ready: [8]: ['call copy']
      refine TA_g 8 ?_
      refine gw_copy (i := 1) rfl rfl memt rfl (fun h => by simp; omega) ?_
      refine ⟨.inl (fun w hs => hs.weaken (List.Sublist.cons_cons _ (List.Sublist.cons _ (List.Sublist.refl _))) (fun p hp => hp)), ?_⟩
      refine TA_done (by decide +kernel) ?_
      repeat' (first | (apply TC_region) | (apply T_nil) | (apply En_then) | (apply En_block) | (apply T_bin; exact rfl; ((refine pw_add64 rfl rfl (by omega) (by omega) ?_)); refine T_nv ?_) | (refine T_pure rfl rfl ?_; ((refine pw_mv ?_)); refine T_nv ?_))
      refine En_backS (m - 1) (.blk b7 (bytesV (crashW cur d.pending[i] r) ++ sp) 5 :: .blk b4 [.slice none 0 0, .slice none 0 0] 45 :: .blk b2 [.slice A0 d.bytes.length c0, .slice A2 d.pending.length c2] 45 :: H) R (by omega) sjp ⟨rfl, i + 1, by omega, rfl, crashW cur d.pending[i] r, by rw [crashW_length _ _ _ (by omega)]; exact hcl, HC.out.trans HN.out, rfl⟩ (fun w hs => ?_)
      have e := copy_done cur ((d.pending[i].data.take (d.pending[i].data.length : Int).toNat).drop (1 : Int).toNat) sp (d.pending[i].at_ + 1).toNat ((d.bytes.length : Int).toNat - (d.pending[i].at_ + 1).toNat) o' (by simp [hcl]) ho' (by simp; omega)
      have e2 : crashW cur d.pending[i] r = spl cur (d.pending[i].at_ + 1).toNat ((d.pending[i].data.take (d.pending[i].data.length : Int).toNat).drop (1 : Int).toNat) := by
        unfold crashW
        rw [if_neg (by omega), if_pos (by omega), show (d.pending[i].at_ + 1).toNat = d.pending[i].at_.toNat + 1 by omega]; simp
      rw [e2, ← e]
      exact hs.weaken sbp kpp
    · refine En_backS (m - 1) (.blk b7 (bytesV (crashW cur d.pending[i] r) ++ sp) 5 :: .blk b4 [.slice none 0 0, .slice none 0 0] 45 :: .blk b2 [.slice A0 d.bytes.length c0, .slice A2 d.pending.length c2] 45 :: H) R (by omega) sjp ⟨rfl, i + 1, by omega, rfl, crashW cur d.pending[i] r, by rw [crashW_length _ _ _ (by omega)]; exact hcl, HC.out.trans HN.out, rfl⟩ (fun w hs => ?_)
      have e2 : crashW cur d.pending[i] r = cur := by
        unfold crashW
        rw [if_neg (by omega), if_neg (by omega)]
      rw [e2]
      exact hs.weaken sbp kpp
  · have hie : i = d.pending.length := by omega
    have hcr : crashF l d.pending 0 d.bytes = cur := by
      rw [HC.out, hie, List.drop_length]; rfl
    have k' := KD_eq (r' := (⟨cur, []⟩, 0)) (by unfold crashD; rw [hc, hcr]; rfl) k (some ⟨b7, 0, none⟩) cap none 0
    simp only [dv, dvR, hcl, List.length_nil] at k'
    refine En_fin (.inl rfl) (res2 rfl (rv_cell (i := 1) rfl rfl rfl) (rv_tmp rfl)) (fin_K H _ (fun w hs => ?_) k')
    have h2 := (hs.learn (Cx (bytesV cur) cur) (fun s _ => Cx_bytes _ s)).blk_stays (i := 0) (n := d.bytes.length) (c := cap) rfl memt hcl.symm hcap (by simp only [maxL]; simp only [maxLen] at hcapm; omega)
    exact ((h2.sl_nil DW).weaken sbp (fun p hp => by
      simp only [List.mem_cons] at hp ⊢
      rcases hp with hp | hp | hp
      · simp [hp]
      · simp [hp]
      · simp [hp]))
end Go.Proofs.Ytggdljhmbckpmaa
namespace Go.Proofs.Ytggdljhmbckpmaa

theorem crashF_len (p : List Int) : ∀ (ws : List DW) (i : Nat) (b : List UInt8), (∀ w ∈ ws, w.at_.toNat + w.data.length ≤ b.length) → (crashF p ws i b).length = b.length
  | [], i, b, _ => rfl
  | w :: ws, i, b, h => by
    have h1 := crashW_length b w (pickOf p i % (w.data.length + 2)) (h w (by simp))
    unfold crashF
    rw [crashF_len p ws (i + 1) _ (fun x hx => by rw [h1]; exact h x (by simp [hx])), h1]
theorem checkD_mem {d : Drive} (h : checkD d = true) : ∀ w ∈ d.pending, w.at_.toNat + w.data.length ≤ d.bytes.length := fun w hw => by
  obtain ⟨i, hi, rfl⟩ := List.mem_iff_getElem.1 hw
  exact ((checkD_spec h).2.2.2.2 i hi).2
theorem checkD_bare {d : Drive} (h : checkD d = true) {xs : List UInt8} (hx : xs.length = d.bytes.length) : checkD ⟨xs, []⟩ = true := by
  unfold checkD at h ⊢
  simp only [Bool.and_eq_true, decide_eq_true_eq] at h ⊢
  rw [hx]
  exact ⟨⟨h.1.1, by simp⟩, by simp⟩
theorem crash_ok {d : Drive} (h : checkD d = true) (p q : List Int) : ∃ cr, crashD d p = (⟨cr, []⟩, 0) ∧ crashD ⟨cr, []⟩ q = (⟨cr, []⟩, 0) ∧ cr.length = d.bytes.length := by
  have hl := crashF_len p d.pending 0 d.bytes (checkD_mem h)
  refine ⟨crashF p d.pending 0 d.bytes, by unfold crashD; rw [h]; rfl, ?_, hl⟩
  unfold crashD
  rw [checkD_bare h hl]; rfl
theorem read_ok {d : Drive} (h : checkD d = true) : readD d = (hasB d, 0) := by unfold readD; rw [h]; rfl
theorem read_bare {d : Drive} (h : checkD d = true) : readD ⟨hasB d, []⟩ = (hasB d, 0) := by
  unfold readD
  rw [checkD_bare h (hasB_length h)]; rfl
theorem sync_ok {d : Drive} (h : checkD d = true) : doD d [⟨2, 0, []⟩] = (⟨hasB d, []⟩, 0) := by
  unfold doD
  rw [h]; rfl
theorem doL_split : ∀ (l1 l2 : List DO) (d : Drive), (doL (l1 ++ l2) d).2 = 0 → (doL l1 d).2 = 0 ∧ doL l2 (doL l1 d).1 = doL (l1 ++ l2) d
  | [], l2, d, h => ⟨rfl, rfl⟩
  | x :: l1, l2, d, h => by
    simp only [List.cons_append, doL] at h ⊢
    split at h
    · rename_i hk
      rw [if_pos hk, if_pos hk]
      exact doL_split l1 l2 _ h
    · rename_i hk
      split at h
      · cases h
      · rename_i hp
        rw [if_neg hk, if_neg hp, if_neg hk, if_neg hp]
        exact doL_split l1 l2 _ h
theorem doL_ok : ∀ (l : List DO) (d : Drive), checkD d = true → l.all (rightB d.bytes.length) = true → (doL l d).2 = 0 → checkD (doL l d).1 = true ∧ (doL l d).1.bytes.length = d.bytes.length
  | [], d, h, _, _ => ⟨h, rfl⟩
  | x :: l, d, h, hr, h0 => by
    simp only [List.all_cons, Bool.and_eq_true] at hr
    simp only [doL] at h0 ⊢
    split at h0
    · rename_i hk
      rw [if_pos hk]
      have hl := hasB_length h
      have := doL_ok l ⟨hasB d, []⟩ (checkD_bare h hl) (by rw [hl]; exact hr.2) h0
      exact ⟨this.1, this.2.trans hl⟩
    · rename_i hk
      split at h0
      · cases h0
      · rename_i hp
        rw [if_neg hk, if_neg hp]
        have h100 := (checkD_spec h).2.2.2.1
        exact doL_ok l ⟨d.bytes, d.pending ++ [⟨x.at_, x.data⟩]⟩ (checkD_snoc (x := ⟨x.at_, x.data⟩) h (by omega) ((rightB_spec hr.1).2 hk)) hr.2 h0
theorem doD_split {d c : Drive} {l : List DO} (h : checkD d = true) (hd : doD d l = (c, 0)) (n : Nat) : ∃ u, doD d (l.take n) = (u, 0) ∧ doD u (l.drop n) = (c, 0) ∧ checkD u = true ∧ checkD c = true := by
  unfold doD at hd
  rw [h, if_pos rfl] at hd
  split at hd
  · rename_i hr
    have e : l = l.take n ++ l.drop n := (List.take_append_drop n l).symm
    have hr1 : (l.take n).all (rightB d.bytes.length) = true := by
      rw [List.all_eq_true] at hr ⊢
      exact fun x hx => hr x (List.mem_of_mem_take hx)
    have hr2 : (l.drop n).all (rightB d.bytes.length) = true := by
      rw [List.all_eq_true] at hr ⊢
      exact fun x hx => hr x (List.mem_of_mem_drop hx)
    have h0 : (doL (l.take n ++ l.drop n) d).2 = 0 := by rw [← e, hd]
    obtain ⟨s1, s2⟩ := doL_split _ _ _ h0
    obtain ⟨k1, k2⟩ := doL_ok _ _ h hr1 s1
    have hc := (doL_ok _ _ h hr (by rw [hd])).1
    rw [hd] at hc
    refine ⟨(doL (l.take n) d).1, ?_, ?_, k1, hc⟩
    · unfold doD
      rw [h, if_pos rfl, hr1, if_pos rfl, ← s1]
    · unfold doD
      rw [k1, if_pos rfl, k2, hr2, if_pos rfl, s2, ← e, hd]
  · simp at hd
end Go.Proofs.Ytggdljhmbckpmaa
