/- Do, Crash, Read: walks. -/
import Derived.Test.YtggdljhmbckpmaaF4J
set_option linter.unusedVariables false
set_option linter.unusedSimpArgs false
namespace Go.Proofs.Ytggdljhmbckpmaa
open Go Go.RowKit
set_option maxRecDepth 100000
set_option maxHeartbeats 800000

/-- The operations, once they are known to be right. -/
def doL : List DO → Drive → Drive × Int
  | [], d => (d, 0)
  | x :: l, d => if x.kind = 2 then doL l ⟨hasB d, []⟩ else if d.pending.length = 100 then (⟨[], []⟩, 2) else doL l ⟨d.bytes, d.pending ++ [⟨x.at_, x.data⟩]⟩
def doD (d : Drive) (l : List DO) : Drive × Int :=
  if checkD d then (if l.all (rightB d.bytes.length) then doL l d else (⟨[], []⟩, 1)) else (⟨[], []⟩, 301)
theorem rightB_spec {n : Nat} {x : DO} (h : rightB n x = true) : x.data.length ≤ n ∧ (x.kind ≠ 2 → wOk n ⟨x.at_, x.data⟩ = true) := by
  unfold rightB at h
  split at h
  · have := withinB_spec h
    exact ⟨by omega, fun _ => h⟩
  · split at h
    · have := of_decide_eq_true h
      exact ⟨by omega, fun h' => by contradiction⟩
    · cases h

theorem checkD_snoc {d : Drive} {x : DW} (h : checkD d = true) (hl : d.pending.length < 100) (hx : wOk d.bytes.length x = true) : checkD ⟨d.bytes, d.pending ++ [x]⟩ = true := by
  unfold checkD at *
  simp only [Bool.and_eq_true, decide_eq_true_eq, List.length_append, List.length_cons, List.length_nil, List.all_append, List.all_cons, List.all_nil, Bool.and_true] at *
  exact ⟨⟨h.1.1, by omega⟩, h.2, hx⟩
theorem do_k {w0 : World} {H : List Hp} {R : List MP} {K : Value → List Hp → List MP → Prop} (A0 : Option Addr) (c0 : Nat) (A2 : Option Addr) (c2 : Nat) (A3 : Option Addr) (c3 : Nat) (d : Drive) (l : List DO) (hb : d.bytes.length ≤ 9223372036854775807) (hp : d.pending.length ≤ 9223372036854775807) (hll : l.length ≤ 9223372036854775807)
    (hm : Sl (.slice A0 d.bytes.length c0) d.bytes ∈ R) (hm2 : Sl (.slice A2 d.pending.length c2) d.pending ∈ R) (hm3 : Sl (.slice A3 l.length c3) l ∈ R)
    (k : KD K (doD d l) H R) : CallsK Try.prog w0 21 #[dv A0 c0 A2 c2 d, .slice A3 l.length c3] H R K := by
  refine calls_of Try.func21 rfl Try.ntmps21 nep ?_
  repeat' (first | (refine T_ow rfl ?_; refine ow_callf arp ?_; refine check_k _ _ _ _ d hb hp hm hm2 ?_; refine T_nv ?_) | (apply TC_seq) | (apply TC_region) | (apply TC_ret) | (apply TC_skip) | (apply TC_cond_true; exact rfl) | (apply TC_cond_false; exact rfl) | (apply T_nil) | (apply En_then) | (apply En_then_ret) | (apply T_load; exact rfl; ((refine pw_load (i := 1) rfl rfl rfl ?_)); refine T_nv ?_) | (apply T_bin; exact rfl; ((refine pw_neq rfl rfl (fun h => ?_) (fun h => ?_))) <;> (refine T_nv ?_)) | (apply T_store; exact rfl; ((refine gw_store (i := 0) rfl clp rfl (by rfl) (by simp) (by simp [Value.oneCell']) ?_)); refine T_nv ?_; refine T_hq ?_) | (refine T_pure rfl rfl ?_; ((first | refine pw_mv ?_ | refine pw_as ?_ | refine pw_makeFuncL agp agp ?_ | refine pw_build bldp ?_)); refine T_nv ?_) | (refine T_gen rfl rfl ?_; ((first | refine gw_box clp (fun b => ?_) | refine gw_alloc clp (fun b => ?_))); refine T_nv ?_))
  · refine En_fin (.inl rfl) (res2 rfl (rv_cell (i := 0) rfl rfl rfl) (rv_tmp rfl)) (fin_K H _ (fun w hs => KD_none (hs.weaken (by simp) (fun _ h => h))) ?_)
    have hc : checkD d = false := by unfold errD at h; cases hc : checkD d <;> simp_all
    have e : errD d = 301 := by unfold errD; rw [hc]; rfl
    rw [e]
    exact KD_eq (r' := (⟨[], []⟩, 301)) (by unfold doD; rw [hc]; rfl) k none 0 none 0
  have hc : checkD d = true := by unfold errD at h; cases hc : checkD d <;> simp_all
  repeat' (first | (refine T_ow rfl ?_; refine ow_callf arp ?_; refine contains_k 1 _ _ _ _ _ _ _ d l rfl hb hll hm3 (fun hB => ?_) (fun hB => ?_) <;> refine T_nv ?_) | (apply TC_seq) | (apply TC_region) | (apply TC_ret) | (apply TC_skip) | (apply TC_cond_true; exact rfl) | (apply TC_cond_false; exact rfl) | (apply T_nil) | (apply En_then) | (apply En_then_ret) | (apply T_load; exact rfl; ((refine pw_load (i := 1) rfl rfl rfl ?_)); refine T_nv ?_) | (apply T_store; exact rfl; ((refine gw_store (i := 0) rfl clp rfl (by rfl) (by simp) (by simp [Value.oneCell']) ?_)); refine T_nv ?_; refine T_hq ?_) | (refine T_pure rfl rfl ?_; ((first | refine pw_as ?_ | refine pw_fieldAddr rfl ?_ | refine pw_build bldp ?_)); refine T_nv ?_))
  · refine En_fin (.inl rfl) (res2 rfl (rv_cell (i := 0) rfl rfl rfl) (rv_tmp rfl)) (fin_K H _ (fun w hs => KD_none (hs.weaken (by simp) (fun _ h => h))) ?_)
    exact KD_eq (r' := (⟨[], []⟩, 1)) (by unfold doD; rw [hc, hB]; rfl) k none 0 none 0
  obtain ⟨h64, hmax, hmod, h100, hw⟩ := checkD_spec hc
  have HW := Go.Lib.hid hw
  clear hw
  repeat' (first | (refine T_ow rfl ?_; refine ow_callf arp ?_; refine clone_k _ _ _ (by omega) memt (fun v => ?_); refine T_nv ?_; refine T_stays 0 rfl (fun A' c' hv => ?_); subst hv; refine T_hq ?_) | (apply TC_seq) | (apply TC_region) | (apply TC_block) | (apply T_nil) | (apply En_then) | (apply T_load; exact rfl; ((refine pw_load (i := 2) rfl rfl rfl ?_)); refine T_nv ?_) | (apply T_store; exact rfl; ((refine gw_store (i := 0) rfl clp rfl (by rfl) (by simp) (by simp [Value.oneCell']) ?_)); refine T_nv ?_; refine T_hq ?_) | (refine T_pure rfl rfl ?_; ((first | refine pw_mv ?_ | refine pw_fieldAddr rfl ?_ | refine pw_len rfl ?_ | refine pw_build bldp ?_)); refine T_nv ?_) | (refine T_gen rfl rfl ?_; ((refine gw_alloc clp (fun b => ?_))); refine T_nv ?_))
  rename_i b2 b4
  have b7 : Nat := 0
  clear b7
  revert b
  intro b7
  refine TC_nilrow 130 2 ?_
  refine TC_learn (Cx [] ([] : List DW)) (fun s _ => Cx_nil s) ?_
  refine TC_loopS [9, 29, 30, 31, 32, 33, 34, 35, 36, 37, 38, 39, 40, 41, 42, 43] (fun m j H' R' => ∃ i : Nat, i + m = d.pending.length ∧ j 29 = .int .i64 i ∧ ∃ pv cs, (Cx cs (d.pending.take i) :: Sl (.slice A' d.bytes.length c') d.bytes :: R) = R' ∧
    (.row pv 130 2 i cs :: .blk b7 [.slice A' d.bytes.length c', pv] 45 :: .blk b4 [.slice none 0 0, .slice none 0 0] 45 :: .blk b2 [.slice A0 d.bytes.length c0, .slice A2 d.pending.length c2] 45 :: H) = H') d.pending.length sjp ⟨0, by omega, rfl, _, [], rfl, rfl⟩ ?_
  rintro m j H' R' ⟨i, hi, h29, pv, cs, hR, hH⟩
  subst hH; subst hR
  refine TC_env (by simp only [setJ, List.foldl_cons, List.foldl_nil, List.set_cons_succ, List.set_cons_zero, h29]; rfl) ?_
  repeat' (first | (apply TC_seq) | (apply TC_region) | (apply TC_block) | (apply TC_skip) | (apply TC_exit) | (apply TC_cond_true; exact rfl) | (apply TC_cond_false; exact rfl) | (apply T_nil) | (apply En_then) | (apply En_then_exit) | (apply En_block_exit) | (apply T_load; exact rfl; ((first | refine pw_load (i := 0) rfl rfl rfl ?_ | refine pw_load_at0 rfl memr rfl ?_)); refine T_nv ?_) | (apply T_bin; exact rfl; ((refine pw_lss rfl rfl (fun h => ?_) (fun h => ?_))) <;> (refine T_nv ?_)) | (apply T_idx; exact rfl; ((refine pw_index_wN evp rfl memt (List.getElem?_eq_getElem (by omega)) (fun b o A c hI hL => ?_))); refine T_nv ?_) | (apply T_store; exact rfl; ((refine gw_store (i := 0) rfl clp rfl (by rfl) (by simp) (by simp [Value.oneCell']) ?_)); refine T_nv ?_; refine T_hq ?_) | (refine T_pure rfl rfl ?_; ((first | refine pw_mv ?_ | refine pw_fieldAddr rfl ?_ | refine pw_len rfl ?_)); refine T_nv ?_) | (refine T_gen rfl rfl ?_; ((refine gw_alloc clp (fun b => ?_))); refine T_nv ?_))
  · have hwi : 0 ≤ d.pending[i].at_ ∧ d.pending[i].at_.toNat + d.pending[i].data.length ≤ d.bytes.length := HW.out i (by omega)
    repeat' (first | (refine T_ow rfl ?_; refine ow_callf arp ?_; refine clone_k _ _ _ (by omega) memt (fun v => ?_); refine T_nv ?_; refine T_stays 0 rfl (fun A5 c5 hv => ?_); subst hv; refine T_hq ?_) | (apply TC_region) | (apply T_nil) | (apply En_then) | (apply T_load; exact rfl; ((first | refine pw_load (i := 0) rfl rfl rfl ?_ | refine pw_load (i := 2) rfl rfl rfl ?_)); refine T_nv ?_) | (apply T_store; exact rfl; ((refine gw_store (i := 0) rfl clp rfl (by rfl) (by simp) (by simp [Value.oneCell']) ?_)); refine T_nv ?_; refine T_hq ?_) | (refine T_pure rfl rfl ?_; ((refine pw_fieldAddr rfl ?_)); refine T_nv ?_) | (refine T_gen rfl rfl ?_; ((refine gw_buildSlice (by decide) prtp rfl (fun b => ?_))); refine T_nv ?_))
    refine T_gen rfl rfl ?_
    refine gw_append_blk 2 0 rfl rfl rfl rfl (by decide) rfl (by simp [Value.oneCell']) (by omega) (by omega) (fun pv' => ?_)
    refine T_nv ?_; refine T_hq ?_
    refine T_shape 2 rfl (fun A6 c6 hv => ?_)
    subst hv
    refine T_learn (Cx (cs ++ [.int .i64 d.pending[i].at_, .slice A5 d.pending[i].data.length c5]) (d.pending.take i ++ [d.pending[i]])) (fun s hs => Cx_snoc (hs (Cx cs (d.pending.take i)) memt) ⟨A5, c5, rfl, hI, hs (Sl (.slice A5 d.pending[i].data.length c5) d.pending[i].data) memt⟩) ?_
    repeat' (first | (apply TC_region) | (apply T_nil) | (apply En_then) | (apply En_block) | (apply T_bin; exact rfl; ((refine pw_add64 rfl rfl (by omega) (by omega) ?_)); refine T_nv ?_) | (apply T_store; exact rfl; ((refine gw_store (i := 3) rfl clp rfl (by rfl) (by simp) (by simp [Value.oneCell']) ?_)); refine T_nv ?_; refine T_hq ?_) | (refine T_pure rfl rfl ?_; ((first | refine pw_mv ?_ | refine pw_fieldAddr rfl ?_)); refine T_nv ?_))
    refine En_backS (m - 1) (.row (.slice A6 (i + 1) c6) 130 2 (i + 1) (cs ++ [.int .i64 d.pending[i].at_, .slice A5 d.pending[i].data.length c5]) :: .blk b7 [.slice A' d.bytes.length c', .slice A6 (i + 1) c6] 45 :: .blk b4 [.slice none 0 0, .slice none 0 0] 45 :: .blk b2 [.slice A0 d.bytes.length c0, .slice A2 d.pending.length c2] 45 :: H) (Cx (cs ++ [.int .i64 d.pending[i].at_, .slice A5 d.pending[i].data.length c5]) (d.pending.take (i + 1)) :: Sl (.slice A' d.bytes.length c') d.bytes :: R) (by omega) sjp ⟨i + 1, by omega, rfl, .slice A6 (i + 1) c6, _, rfl, rfl⟩ (fun w hs => hs.weaken sbp (fun p hp => ?_))
    rw [List.take_succ_eq_append_getElem (show i < d.pending.length by omega)] at hp
    simp only [List.mem_cons] at hp ⊢
    rcases hp with hp | hp | hp
    · exact .inl hp
    · simp [hp]
    · simp [hp]
  have hie : i = d.pending.length := by omega
  subst hie
  refine TC_shape 0 rfl (fun Ap cp hv => ?_)
  subst hv
  refine TC_weaken _ (Cx cs d.pending :: Sl (.slice A' d.bytes.length c') d.bytes :: R) (fun w hs => hs.weaken (List.Sublist.refl _) (fun p hp => by rw [List.take_length]; exact hp)) ?_
  refine TC_loopS [5, 11, 46, 47, 48, 49, 50, 51, 52, 53, 54, 55, 56, 57, 58, 59, 60, 61, 62, 63, 64, 65, 66, 67, 68, 69, 70, 71, 72] (fun m j H' R' => ∃ i : Nat, i + m = l.length ∧ j 46 = .int .i64 i ∧ ∃ (cur : Drive) (Ap : Option Addr) (cp : Nat) (cs : List Value) (A' : Option Addr) (c' : Nat), doL l d = doL (l.drop i) cur ∧ cur.bytes.length = d.bytes.length ∧ checkD cur = true ∧ (Cx cs cur.pending :: Sl (.slice A' cur.bytes.length c') cur.bytes :: R) = R' ∧
    (.row (.slice Ap cur.pending.length cp) 130 2 cur.pending.length cs :: .blk b7 [.slice A' cur.bytes.length c', .slice Ap cur.pending.length cp] 45 :: .blk b4 [.slice none 0 0, .slice none 0 0] 45 :: .blk b2 [.slice A0 d.bytes.length c0, .slice A2 d.pending.length c2] 45 :: H) = H') l.length sjp ⟨0, by omega, rfl, d, Ap, cp, cs, A', c', rfl, rfl, hc, rfl, rfl⟩ ?_
  clear hi h29 h
  rintro m2 j2 H' R' ⟨i, hi, h46, cur, Ap, cp, cs, A', c', hdo, hcl, hcc, hR, hH⟩
  subst hH; subst hR
  refine TC_env (by simp only [setJ, List.foldl_cons, List.foldl_nil, List.set_cons_succ, List.set_cons_zero, h46]; rfl) ?_
  have HD := Go.Lib.hid hdo
  clear hdo
  have hstep : ∀ (hil : i < l.length), l.drop i = l[i] :: l.drop (i + 1) := fun hil => List.drop_eq_getElem_cons hil
  have HS := Go.Lib.hid hstep
  clear hstep
  repeat' (first | (apply TC_seq) | (apply TC_region) | (apply TC_block) | (apply TC_ret) | (apply TC_skip) | (apply TC_exit) | (apply TC_cond_true; exact rfl) | (apply TC_cond_false; exact rfl) | (apply T_nil) | (apply En_then) | (apply En_then_ret) | (apply En_then_exit) | (apply En_block_ret) | (apply En_block_exit) | (apply T_load; exact rfl; ((first | refine pw_load (i := 0) rfl rfl rfl ?_ | refine pw_load (i := 1) rfl rfl rfl ?_ | refine pw_load (i := 2) rfl rfl rfl ?_ | refine pw_load_at0 rfl memr rfl ?_)); refine T_nv ?_) | (apply T_bin; exact rfl; ((first | refine pw_lss rfl rfl (fun h => ?_) (fun h => ?_) | refine pw_eql rfl rfl (fun h => ?_) (fun h => ?_))) <;> (refine T_nv ?_)) | (apply T_idx; exact rfl; ((refine pw_index_opN evp rfl memt (List.getElem?_eq_getElem (by omega)) (fun b o A c hI hI2 hL => ?_))); refine T_nv ?_) | (apply T_store; exact rfl; ((first | refine gw_store (i := 0) rfl clp rfl (by rfl) (by simp) (by simp [Value.oneCell']) ?_ | refine gw_store (i := 2) rfl clp rfl (by rfl) (by simp) (by simp [Value.oneCell']) ?_ | refine gw_store (i := 3) rfl clp rfl (by rfl) (by simp) (by simp [Value.oneCell']) ?_)); refine T_nv ?_; refine T_hq ?_) | (refine T_pure rfl rfl ?_; ((first | refine pw_as ?_ | refine pw_fieldAddr rfl ?_ | refine pw_len rfl ?_ | refine pw_build bldp ?_)); refine T_nv ?_) | (refine T_gen rfl rfl ?_; ((refine gw_alloc clp (fun b => ?_))); refine T_nv ?_))
  · refine T_staysx 1 rfl rfl (by decide) memt (fun A7 c7 hv => ?_)
    cases hv
    refine T_hq ?_
    repeat' (first | (refine T_ow rfl ?_; refine ow_callf arp ?_; refine has_k _ _ _ _ cur hcc memt memt (fun v => ?_); refine T_nv ?_; refine T_stays 0 rfl (fun A8 c8 hv => ?_); subst hv; refine T_hq ?_) | (apply TC_region) | (apply TC_exit) | (apply T_nil) | (apply En_then) | (apply En_then_exit) | (apply En_block_exit) | (apply T_bin; exact rfl; ((refine pw_add64 rfl rfl (by omega) (by omega) ?_)); refine T_nv ?_) | (apply T_store; exact rfl; ((refine gw_store (i := 1) rfl clp rfl (by rfl) (by simp) (by simp [Value.oneCell']) ?_)); refine T_nv ?_; refine T_hq ?_) | (refine T_pure rfl rfl ?_; ((first | refine pw_mv ?_ | refine pw_build bldp ?_)); refine T_nv ?_))
    refine En_backS (m2 - 1) _ _ (by omega) sjp ⟨i + 1, by omega, rfl, ⟨hasB cur, []⟩, none, 0, [], A8, c8, ?_, ?_, ?_, rfl, rfl⟩ (fun w hs => ?_)
    · rw [HD.out, HS.out (by omega), doL, if_pos (by assumption)]
    · rw [hasB_length hcc]; exact hcl
    · have := hasB_length hcc
      simp [checkD]; omega
    · exact ((hs.weaken (List.sublist_cons_self _ _) (R' := Sl (.slice A8 (hasB cur).length c8) (hasB cur) :: R) (fun p hp => by
        simp only [List.mem_cons] at hp ⊢
        rcases hp with hp | hp
        · exact .inl hp
        · simp [hp])).learn (Cx [] ([] : List DW)) (fun s _ => Cx_nil s)).nilrow 130 2
  · refine En_fin (.inl rfl) (res2 rfl (rv_cell (i := 3) rfl rfl rfl) (rv_tmp rfl)) (fin_K H (dvR none 0 none 0 ⟨[], []⟩ R) (fun w hs => KD_none (show S w0 w H R from hs.weaken (H' := H) (R' := R) sbp kpp)) ?_)
    refine KD_eq (r' := (⟨[], []⟩, 2)) ?_ k none 0 none 0
    unfold doD
    rw [hc, hB]
    simp only [if_true]
    rw [HD.out, HS.out (by omega), doL, if_neg (by assumption), if_pos (by omega)]
  · have hri : rightB d.bytes.length l[i] = true := List.all_eq_true.1 hB _ (List.getElem_mem (by omega))
    obtain ⟨hdl, hok⟩ := rightB_spec hri
    have hcp := (checkD_spec hcc).2.2.2.1
    have hk2 : l[i].kind ≠ 2 := by assumption
    refine TC_draw mixed (by decide +kernel) (fun _ _ _ _ _ _ h => h) (List.Sublist.cons_cons _ (List.Sublist.cons _ (List.Sublist.refl _))) ?_
    all_goals ((refine TA_ps 0 (List.Sublist.cons_cons _ (List.Sublist.cons _ (List.Sublist.refl _))) ?_; ((refine pw_fieldAddr rfl ?_)); refine TA_nv ?_))
    all_goals ((refine TA_ps 1 (List.Sublist.cons_cons _ (List.Sublist.cons _ (List.Sublist.refl _))) ?_; ((refine pw_load (i := 1) rfl rfl rfl ?_)); refine TA_nv ?_))
    all_goals ((refine TA_ps 2 (List.Sublist.cons_cons _ (List.Sublist.cons _ (List.Sublist.refl _))) ?_; ((refine pw_fieldAddr rfl ?_)); refine TA_nv ?_))
    all_goals ((refine TA_ps 3 (List.Sublist.cons_cons _ (List.Sublist.cons _ (List.Sublist.refl _))) ?_; ((refine pw_load (i := 0) rfl rfl rfl ?_)); refine TA_nv ?_))
    all_goals ((refine TA_ps 4 (List.Sublist.cons_cons _ (List.Sublist.cons _ (List.Sublist.refl _))) ?_; ((refine pw_fieldAddr rfl ?_)); refine TA_nv ?_))
    all_goals ((refine TA_ps 5 (List.Sublist.cons_cons _ (List.Sublist.cons _ (List.Sublist.refl _))) ?_; ((refine pw_load (i := 0) rfl rfl rfl ?_)); refine TA_nv ?_))
    -- left: [6, 7, 8, 9, 10, 11]; ready: [6]: ['call']
    refine TA_o 6 ?_
    refine ow_callf arp ?_
    refine clone_k _ _ _ (by omega) memt (fun v => ?_)
    refine ⟨.inl (fun w hs => hs.weaken (List.Sublist.cons _ (List.Sublist.cons_cons _ (List.Sublist.cons _ (List.Sublist.refl _)))) (fun p hp => hp)), ?_⟩
    refine TA_nv ?_
    refine TA_stays 0 rfl (fun A5 c5 hv => ?_)
    subst hv
    refine TA_hq ?_
    refine TA_common _ (List.Sublist.refl _) (fun p hp => List.mem_cons_of_mem _ hp) ?_
    all_goals ((refine TA_ps 7 (List.Sublist.cons_cons _ (List.Sublist.cons _ (List.Sublist.refl _))) ?_; ((refine pw_build bldp ?_)); refine TA_nv ?_))
    -- left: [8, 9, 10, 11]; ready: [8]: ['buildSlice']
    refine TA_g 8 ?_
    refine gw_buildSlice (by decide) prtp rfl (fun b5 => ?_)
    refine ⟨.inl (fun w hs => hs.weaken (List.Sublist.cons _ (List.Sublist.cons_cons _ (List.Sublist.cons _ (List.Sublist.refl _)))) (fun p hp => hp)), ?_⟩
    refine TA_nv ?_
    refine TA_g 9 ?_
    refine gw_append_blk 2 0 rfl rfl rfl rfl (by decide) rfl (by simp [Value.oneCell']) (by omega) (by omega) (fun pv' => ?_)
    refine ⟨.inl (fun w hs => hs.weaken (List.Sublist.cons _ (List.Sublist.cons_cons _ (List.Sublist.cons _ (List.Sublist.refl _)))) (fun p hp => hp)), ?_⟩
    refine TA_nv ?_
    refine TA_hq ?_
    refine TA_shape 2 rfl (fun A6 c6 hv => ?_)
    subst hv
    refine TA_learn (Cx (cs ++ [.int .i64 l[i].at_, .slice A5 l[i].data.length c5]) (cur.pending ++ [⟨l[i].at_, l[i].data⟩])) (fun s hs => Cx_snoc (hs (Cx cs cur.pending) memt) ⟨A5, c5, rfl, hI2, hs (Sl (.slice A5 l[i].data.length c5) l[i].data) memt⟩) ?_
    refine TA_common _ (List.Sublist.refl _) (fun p hp => List.mem_cons_of_mem _ hp) ?_
    all_goals ((refine TA_ps 10 (List.Sublist.cons _ (List.Sublist.cons_cons _ (List.Sublist.cons _ (List.Sublist.refl _)))) ?_; ((refine pw_fieldAddr rfl ?_)); refine TA_nv ?_))
    -- left: [11]; ready: [11]: ['store']
    refine TA_g 11 ?_
    refine gw_store (i := 3) rfl clp rfl (by rfl) (by simp) (by simp [Value.oneCell']) ?_
    refine ⟨.inr (by decide +kernel), ?_⟩
    refine TA_nv ?_
    refine TA_hq ?_
    refine TA_done (by decide +kernel) ?_
    repeat' (first | (apply TC_region) | (apply T_nil) | (apply En_then) | (apply En_block) | (apply T_bin; exact rfl; ((refine pw_add64 rfl rfl (by omega) (by omega) ?_)); refine T_nv ?_) | (refine T_pure rfl rfl ?_; ((refine pw_mv ?_)); refine T_nv ?_))
    refine En_backS (m2 - 1) (.row (.slice A6 (cur.pending.length + 1) c6) 130 2 (cur.pending.length + 1) (cs ++ [.int .i64 l[i].at_, .slice A5 l[i].data.length c5]) :: .blk b7 [.slice A' cur.bytes.length c', .slice A6 (cur.pending.length + 1) c6] 45 :: .blk b4 [.slice none 0 0, .slice none 0 0] 45 :: .blk b2 [.slice A0 d.bytes.length c0, .slice A2 d.pending.length c2] 45 :: H) (Cx (cs ++ [.int .i64 l[i].at_, .slice A5 l[i].data.length c5]) (cur.pending ++ [⟨l[i].at_, l[i].data⟩]) :: Sl (.slice A' cur.bytes.length c') cur.bytes :: R) (by omega) sjp ⟨i + 1, by omega, rfl, ⟨cur.bytes, cur.pending ++ [⟨l[i].at_, l[i].data⟩]⟩, A6, c6, _, A', c', ?_, ?_, ?_, rfl, ?_⟩ (fun w hs => hs.weaken (by simp) (fun p hp => ?_))
    · rw [HD.out, HS.out (by omega), doL, if_neg hk2, if_neg (by omega)]
    · exact hcl
    · exact checkD_snoc hcc (by omega) (by rw [hcl]; exact hok hk2)
    · simp only [List.length_append, List.length_cons, List.length_nil, Nat.zero_add]
    · simp only [List.mem_cons] at hp ⊢
      rcases hp with hp | hp | hp
      · exact .inl hp
      · simp [hp]
      · simp [hp]
  · have hil : i = l.length := by omega
    refine En_fin (.inl rfl) (res2 rfl (rv_cell (i := 2) rfl rfl rfl) (rv_tmp rfl)) (fin_K H (dvR A' c' Ap cp cur R) (fun w hs => ?_) (KD_eq (r' := (cur, 0)) ?_ k A' c' Ap cp))
    · obtain ⟨A7, c7, e, h2⟩ := hs.stays (i := 0) rfl rfl (by decide) memt
      cases e
      exact h2.weaken sbp (fun p hp => by
        simp only [List.mem_cons] at hp ⊢
        rcases hp with hp | hp | hp
        · simp [hp]
        · simp [hp]
        · simp [hp])
    · unfold doD
      rw [hc, hB]
      simp only [if_true]
      rw [HD.out, hil, List.drop_length]; rfl
end Go.Proofs.Ytggdljhmbckpmaa
