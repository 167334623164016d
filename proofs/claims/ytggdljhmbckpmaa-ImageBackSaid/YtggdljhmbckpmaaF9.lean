/- The record at a place: walks. -/
import Derived.Test.YtggdljhmbckpmaaF8
import Derived.Test.YtggdljhmbckpmaaAM
set_option linter.unusedVariables false
set_option linter.unusedSimpArgs false
namespace Go.Proofs.Ytggdljhmbckpmaa
open Go Go.RowKit
set_option maxRecDepth 100000
set_option maxHeartbeats 800000

theorem fourL_lt (xs : List UInt8) : fourL xs < 4294967296 := by
  unfold fourL four
  repeat' ((first | exact Nat.mod_lt _ (by decide) | exact Nat.lt_of_lt_of_le (UInt8.toNat_lt _) (by decide) | refine Nat.or_lt_two_pow (n := 32) ?_ ?_))
def Rc.zero : Rc := ⟨0, 0, 0, []⟩
/-- The record at a place, and whether it is right. -/
def recA (b : List UInt8) (at_ limit : Nat) : Rc × Bool :=
  if limit < at_ + 17 then (Rc.zero, false)
  else if b.getD at_ 0 ≠ 167 then (Rc.zero, false)
  else if fourL (b.drop (at_ + 13)) ≠ sumB ((b.take (at_ + 13)).drop (at_ + 1)) then (Rc.zero, false)
  else if limit < at_ + 21 + fourL (b.drop (at_ + 9)) then (Rc.zero, false)
  else
    let data := (b.take (at_ + 17 + fourL (b.drop (at_ + 9)))).drop (at_ + 17)
    (⟨at_, fourL (b.drop (at_ + 1)), fourL (b.drop (at_ + 5)), data⟩, decide (fourL (b.drop (at_ + 17 + fourL (b.drop (at_ + 9)))) = sumB data))
def KRc (K : Value → List Hp → List MP → Prop) (r : Rc × Bool) (H : List Hp) (R : List MP) : Prop := ∀ A c, K (.tuple #[rcV A c r.1, .bool r.2]) H (Sl (.slice A r.1.data.length c) r.1.data :: R)
theorem KRc_eq {K : Value → List Hp → List MP → Prop} {r r' : Rc × Bool} {H : List Hp} {R : List MP} (e : r = r') (h : KRc K r H R) : KRc K r' H R := e ▸ h

theorem recordAt_k {w0 : World} {H : List Hp} {R : List MP} {K : Value → List Hp → List MP → Prop} (A0 : Option Addr) (c0 : Nat) (xs : List UInt8) (at_ limit : Nat) (hb : xs.length ≤ 600000) (hal : at_ ≤ limit) (hlb : limit ≤ xs.length)
    (hm : Sl (.slice A0 xs.length c0) xs ∈ R)
    (k : KRc K (recA xs at_ limit) H R) : CallsK Try.prog w0 121 #[.slice A0 xs.length c0, .int .i64 (at_ : Int), .int .i64 (limit : Int)] H R K := by
  refine calls_of Try.func121 rfl Try.ntmps121 nep ?_
  repeat' (first | (apply TC_seq) | (apply TC_region) | (apply TC_ret) | (apply TC_skip) | (apply TC_cond_true; exact rfl) | (apply TC_cond_false; exact rfl) | (apply T_nil) | (apply En_then) | (apply En_then_ret) | (apply T_load; exact rfl; ((first | refine pw_load (i := 1) rfl rfl rfl ?_ | refine pw_load (i := 2) rfl rfl rfl ?_ | refine pw_load_at0 rfl memr rfl ?_)); refine T_nv ?_) | (apply T_bin; exact rfl; ((refine pw_sub64 rfl rfl (by omega) (by omega) ?_)); refine T_nv ?_) | (apply T_bin; exact rfl; ((first | refine pw_lss rfl rfl (fun h => ?_) (fun h => ?_) | refine pw_neq rfl rfl (fun h => ?_) (fun h => ?_))) <;> (refine T_nv ?_)) | (apply T_idx; exact rfl; ((refine pw_index_bN evp rfl memt (List.getElem?_eq_getElem (by omega)) (fun b o => ?_))); refine T_nv ?_) | (apply T_store; exact rfl; ((refine gw_store (i := 0) rfl clp rfl (by rfl) (by simp) (by simp [Value.oneCell']) ?_)); refine T_nv ?_; refine T_hq ?_) | (refine T_pure rfl rfl ?_; ((first | refine pw_mv ?_ | refine pw_as ?_ | refine pw_pick_t rfl evp ?_ | refine pw_pick_f rfl evp ?_ | refine pw_makeFuncL agp agp ?_ | refine pw_build bldp ?_)); refine T_nv ?_) | (refine T_skipped rfl ?_; refine T_nv ?_) | (refine T_gen rfl rfl ?_; ((first | refine gw_box clp (fun b => ?_) | refine gw_alloc clp (fun b => ?_))); refine T_nv ?_))
  · refine En_fin (.inl rfl) (res2 rfl (rv_cell (i := 0) rfl rfl rfl) (rv_tmp rfl)) (fin_K H (Sl (.slice none 0 0) ([] : List UInt8) :: R) (fun w hs => (hs.weaken sbp (fun _ h => h)).sl_nil UInt8) ?_)
    exact KRc_eq (r' := (Rc.zero, false)) (by unfold recA; rw [if_pos (by omega)]) k none 0
  · refine En_fin (.inl rfl) (res2 rfl (rv_cell (i := 0) rfl rfl rfl) (rv_tmp rfl)) (fin_K H (Sl (.slice none 0 0) ([] : List UInt8) :: R) (fun w hs => (hs.weaken sbp kpp).sl_nil UInt8) ?_)
    refine KRc_eq (r' := (Rc.zero, false)) ?_ k none 0
    have hne : xs.getD at_ 0 ≠ 167 := by
      rw [getD_at xs at_ (by omega)]
      intro e; rw [e] at h; exact h rfl
    unfold recA; rw [if_neg (by omega), if_pos hne]
  have hlt : at_ + 17 ≤ limit := by omega
  have heq : ¬ (xs.getD at_ 0 ≠ 167) := by
    rw [getD_at xs at_ (by omega)]
    intro e
    exact e (UInt8.toNat_inj.1 (by show xs[at_].toNat = 167; omega))
  have h9 := fourL_lt (xs.drop (at_ + 9))
  repeat' (first | (refine T_ow rfl ?_; refine ow_callv rfl arp ?_; refine word_k 2 1 _ _ _ _ xs at_ 9 rfl rfl hb (by omega) memt ?_; refine T_nv ?_) | (refine T_pure rfl rfl ?_; refine pw_convi rfl (Nat.le_trans (Nat.le_of_lt (fourL_lt _)) (by decide)) ?_; refine T_nv ?_) | (apply TC_seq) | (apply T_nil) | (apply En_then) | (refine T_pure rfl rfl ?_; ((refine pw_as ?_)); refine T_nv ?_))
  · skip
    refine TC_draw mixed (by decide +kernel) (fun _ _ _ _ _ _ h => h) (List.Sublist.refl _) ?_
    all_goals ((refine TA_p 0 ?_; ((refine pw_mv ?_)); refine TA_nv ?_))
    all_goals ((refine TA_p 2 ?_; ((refine pw_load (i := 2) rfl rfl rfl ?_)); refine TA_nv ?_))
    all_goals ((refine TA_p 3 ?_; ((refine pw_load (i := 1) rfl rfl rfl ?_)); refine TA_nv ?_))
    all_goals ((refine TA_p 4 ?_; ((refine pw_add64 rfl rfl (by omega) (by omega) ?_)); refine TA_nv ?_))
    all_goals ((refine TA_p 5 ?_; ((refine pw_load (i := 1) rfl rfl rfl ?_)); refine TA_nv ?_))
    all_goals ((refine TA_p 6 ?_; ((refine pw_add64 rfl rfl (by omega) (by omega) ?_)); refine TA_nv ?_))
    all_goals ((refine TA_p 7 ?_; ((refine pw_slice_sl rfl memt rfl rfl rfl rfl (by omega) (by omega) (by omega) (fun A8 c8 => ?_))); refine TA_nv ?_))
    -- left: [1, 8, 9, 10, 11, 12, 13, 14, 15, 16, 17]; ready: [1]: ['call']
    refine TA_o 1 ?_
    refine ow_callv rfl arp ?_; refine word_k 2 1 _ _ _ _ xs at_ 13 rfl rfl hb (by omega) memt ?_
    refine ⟨.inl (fun w hs => hs), ?_⟩; refine TA_nv ?_
    refine TA_o 8 ?_
    refine ow_callf arp ?_; refine sum_k' _ _ _ ((xs.take ((at_ : Int) + 13).toNat).drop ((at_ : Int) + 1).toNat) (by simp; omega) (by simp; omega) memt ?_
    refine ⟨.inl (fun w hs => hs), ?_⟩; refine TA_nv ?_
    all_goals ((refine TA_p 9 ?_; ((refine pw_neq rfl rfl (fun h => ?_) (fun h => ?_))) <;> (refine TA_nv ?_)))
    all_goals ((refine TA_p 10 ?_; ((refine pw_mv ?_)); refine TA_nv ?_))
    all_goals (first | (refine TA_p 11 ?_; ((refine pw_mv ?_)); refine TA_nv ?_) | (refine TA_ks 11 (List.Sublist.refl _) ?_))
    all_goals (first | (refine TA_p 12 ?_; ((refine pw_mv ?_)); refine TA_nv ?_) | (refine TA_ks 12 (List.Sublist.refl _) ?_))
    all_goals (first | (refine TA_p 13 ?_; ((refine pw_load (i := 1) rfl rfl rfl ?_)); refine TA_nv ?_) | (refine TA_ks 13 (List.Sublist.refl _) ?_))
    all_goals (first | (refine TA_p 14 ?_; ((refine pw_sub64 rfl rfl (by omega) (by omega) ?_)); refine TA_nv ?_) | (refine TA_ks 14 (List.Sublist.refl _) ?_))
    all_goals (first | (refine TA_p 15 ?_; ((refine pw_sub64 rfl rfl (by omega) (by omega) ?_)); refine TA_nv ?_) | (refine TA_ks 15 (List.Sublist.refl _) ?_))
    all_goals (first | (refine TA_p 16 ?_; ((refine pw_gtr rfl rfl (fun h => ?_) (fun h => ?_))) <;> (refine TA_nv ?_)) | (refine TA_ks 16 (List.Sublist.refl _) ?_))
    all_goals ((refine TA_p 17 ?_; ((first | refine pw_pick_t rfl evp ?_ | refine pw_pick_f rfl evp ?_)); refine TA_nv ?_))
    all_goals refine TA_d ?_
    repeat' (first | (apply TC_seq) | (apply TC_region) | (apply TC_ret) | (apply TC_skip) | (apply TC_cond_true; exact rfl) | (apply TC_cond_false; exact rfl) | (apply T_nil) | (apply En_then) | (apply En_then_ret) | (apply T_store; exact rfl; ((refine gw_store (i := 0) rfl clp rfl (by rfl) (by simp) (by simp [Value.oneCell']) ?_)); refine T_nv ?_; refine T_hq ?_) | (refine T_pure rfl rfl ?_; ((first | refine pw_as ?_ | refine pw_build bldp ?_)); refine T_nv ?_))
    · refine En_fin (.inl rfl) (res2 rfl (rv_cell (i := 0) rfl rfl rfl) (rv_tmp rfl)) (fin_K H (Sl (.slice none 0 0) ([] : List UInt8) :: R) (fun w hs => (hs.weaken sbp kpp).sl_nil UInt8) ?_)
      refine KRc_eq (r' := (Rc.zero, false)) ?_ k none 0
      have hne : fourL (xs.drop (at_ + 13)) ≠ sumB ((xs.take (at_ + 13)).drop (at_ + 1)) := fun e => h (by exact_mod_cast e)
      unfold recA; rw [if_neg (by omega), if_neg heq, if_pos hne]
    · refine En_fin (.inl rfl) (res2 rfl (rv_cell (i := 0) rfl rfl rfl) (rv_tmp rfl)) (fin_K H (Sl (.slice none 0 0) ([] : List UInt8) :: R) (fun w hs => (hs.weaken sbp kpp).sl_nil UInt8) ?_)
      refine KRc_eq (r' := (Rc.zero, false)) ?_ k none 0
      rename_i hs13
      have heq2 : ¬ (fourL (xs.drop (at_ + 13)) ≠ sumB ((xs.take (at_ + 13)).drop (at_ + 1))) := fun e => e (by exact_mod_cast hs13)
      unfold recA; rw [if_neg (by omega), if_neg heq, if_neg heq2, if_pos (by omega)]
    rename_i hs13
    have heq2 : ¬ (fourL (xs.drop (at_ + 13)) ≠ sumB ((xs.take (at_ + 13)).drop (at_ + 1))) := fun e => e (by exact_mod_cast hs13)
    have hn21 : at_ + 21 + fourL (xs.drop (at_ + 9)) ≤ limit := by omega
    refine TC_draw mixed (by decide +kernel) (fun _ _ _ _ _ _ h => h) (List.Sublist.refl _) ?_
    all_goals ((refine TA_p 0 ?_; ((refine pw_load (i := 1) rfl rfl rfl ?_)); refine TA_nv ?_))
    all_goals ((refine TA_p 1 ?_; ((refine pw_mv ?_)); refine TA_nv ?_))
    all_goals ((refine TA_p 4 ?_; ((refine pw_mv ?_)); refine TA_nv ?_))
    all_goals ((refine TA_p 7 ?_; ((refine pw_load (i := 2) rfl rfl rfl ?_)); refine TA_nv ?_))
    all_goals ((refine TA_p 8 ?_; ((refine pw_load (i := 1) rfl rfl rfl ?_)); refine TA_nv ?_))
    all_goals ((refine TA_p 9 ?_; ((refine pw_add64 rfl rfl (by omega) (by omega) ?_)); refine TA_nv ?_))
    all_goals ((refine TA_p 10 ?_; ((refine pw_load (i := 1) rfl rfl rfl ?_)); refine TA_nv ?_))
    all_goals ((refine TA_p 11 ?_; ((refine pw_add64 rfl rfl (by omega) (by omega) ?_)); refine TA_nv ?_))
    all_goals ((refine TA_p 12 ?_; ((refine pw_mv ?_)); refine TA_nv ?_))
    all_goals ((refine TA_p 13 ?_; ((refine pw_add64 rfl rfl (by omega) (by omega) ?_)); refine TA_nv ?_))
    all_goals ((refine TA_p 14 ?_; ((refine pw_slice_sl rfl memt rfl rfl rfl rfl (by omega) (by omega) (by omega) (fun A9 c9 => ?_))); refine TA_nv ?_))
    -- left: [2, 3, 5, 6, 15, 16, 17]; ready: [2, 16]: ['call', 'alloc']
    refine cut1 (G := ?G) ?ha ?hb
    case ha =>
      intro hG
      refine TA_2 2 16 ?_ ?_
      · refine ow_callv rfl arp ?_; refine word_k 2 1 _ _ _ _ xs at_ 1 rfl rfl hb (by omega) memt ?_
        refine ⟨.inl (fun w hs => hs), ?_⟩; refine TA_nv ?_
        all_goals ((refine TA_p 3 ?_; ((refine pw_convi rfl (Nat.le_trans (Nat.le_of_lt (fourL_lt _)) (by decide)) ?_)); refine TA_nv ?_))
        -- left: [5, 6, 15, 16, 17]; ready: [5, 16]: ['call', 'alloc']
        refine TA_2 5 16 ?_ ?_
        · refine ow_callv rfl arp ?_; refine word_k 2 1 _ _ _ _ xs at_ 5 rfl rfl hb (by omega) memt ?_
          refine ⟨.inl (fun w hs => hs), ?_⟩; refine TA_nv ?_
          all_goals ((refine TA_p 6 ?_; ((refine pw_convi rfl (Nat.le_trans (Nat.le_of_lt (fourL_lt _)) (by decide)) ?_)); refine TA_nv ?_))
          all_goals ((refine TA_p 15 ?_; ((refine pw_build bldp ?_)); refine TA_nv ?_))
          -- left: [16, 17]; ready: [16]: ['alloc']
          refine TA_o 16 ?_
          refine GW.ow rfl ?_; refine gw_alloc clp (fun b10 => ?_)
          refine ⟨.inl (fun w hs => hs.weaken (List.sublist_cons_self _ _) (fun p hp => hp)), ?_⟩; refine TA_nv ?_
          exact hG b10
        · refine GW.ow rfl ?_; refine gw_alloc clp (fun b10 => ?_)
          refine ⟨.inl (fun w hs => hs.weaken (List.sublist_cons_self _ _) (fun p hp => hp)), ?_⟩; refine TA_nv ?_
          refine TA_o 5 ?_
          refine ow_callv rfl arp ?_; refine word_k 3 2 _ _ _ _ xs at_ 5 rfl rfl hb (by omega) memt ?_
          refine ⟨.inl (fun w hs => hs.weaken (List.sublist_cons_self _ _) (fun p hp => hp)), ?_⟩; refine TA_nv ?_
          all_goals ((refine TA_ps 6 (List.Sublist.cons _ (List.Sublist.refl _)) ?_; ((refine pw_convi rfl (Nat.le_trans (Nat.le_of_lt (fourL_lt _)) (by decide)) ?_)); refine TA_nv ?_))
          all_goals ((refine TA_ps 15 (List.Sublist.cons _ (List.Sublist.refl _)) ?_; ((refine pw_build bldp ?_)); refine TA_nv ?_))
          -- left: [17]; ready: [17]: ['store']
          exact hG b10
      · refine GW.ow rfl ?_; refine gw_alloc clp (fun b10 => ?_)
        refine ⟨.inl (fun w hs => hs.weaken (List.sublist_cons_self _ _) (fun p hp => hp)), ?_⟩; refine TA_nv ?_
        refine TA_o 2 ?_
        refine ow_callv rfl arp ?_; refine word_k 3 2 _ _ _ _ xs at_ 1 rfl rfl hb (by omega) memt ?_
        refine ⟨.inl (fun w hs => hs.weaken (List.sublist_cons_self _ _) (fun p hp => hp)), ?_⟩; refine TA_nv ?_
        all_goals ((refine TA_ps 3 (List.Sublist.cons _ (List.Sublist.refl _)) ?_; ((refine pw_convi rfl (Nat.le_trans (Nat.le_of_lt (fourL_lt _)) (by decide)) ?_)); refine TA_nv ?_))
        -- left: [5, 6, 15, 17]; ready: [5]: ['call']
        refine TA_o 5 ?_
        refine ow_callv rfl arp ?_; refine word_k 3 2 _ _ _ _ xs at_ 5 rfl rfl hb (by omega) memt ?_
        refine ⟨.inl (fun w hs => hs.weaken (List.sublist_cons_self _ _) (fun p hp => hp)), ?_⟩; refine TA_nv ?_
        all_goals ((refine TA_ps 6 (List.Sublist.cons _ (List.Sublist.refl _)) ?_; ((refine pw_convi rfl (Nat.le_trans (Nat.le_of_lt (fourL_lt _)) (by decide)) ?_)); refine TA_nv ?_))
        all_goals ((refine TA_ps 15 (List.Sublist.cons _ (List.Sublist.refl _)) ?_; ((refine pw_build bldp ?_)); refine TA_nv ?_))
        -- left: [17]; ready: [17]: ['store']
        exact hG b10
    case hb =>
      intro b10
      refine TA_g 17 ?_
      refine gw_store (i := 0) rfl clp rfl (by rfl) (by simp) (by simp [Value.oneCell']) ?_
      refine ⟨.inl (fun w hs => hs.weaken (List.sublist_cons_self _ _) (fun p hp => hp)), ?_⟩
      refine TA_nv ?_
      refine TA_hq ?_
      refine TA_done (by decide +kernel) ?_
      repeat' (first | (apply TC_seq) | (apply En_then))
      refine TC_draw mixed (by decide +kernel) (fun _ _ _ _ _ _ h => h) (List.Sublist.cons_cons _ (List.Sublist.cons _ (List.Sublist.refl _))) ?_
      all_goals ((refine TA_ps 0 (List.Sublist.cons_cons _ (List.Sublist.cons _ (List.Sublist.refl _))) ?_; ((refine pw_load (i := 0) rfl rfl rfl ?_)); refine TA_nv ?_))
      all_goals ((refine TA_ps 1 (List.Sublist.cons_cons _ (List.Sublist.cons _ (List.Sublist.refl _))) ?_; ((refine pw_mv ?_)); refine TA_nv ?_))
      all_goals ((refine TA_ps 2 (List.Sublist.cons_cons _ (List.Sublist.cons _ (List.Sublist.refl _))) ?_; ((refine pw_mv ?_)); refine TA_nv ?_))
      all_goals ((refine TA_ps 3 (List.Sublist.cons_cons _ (List.Sublist.cons _ (List.Sublist.refl _))) ?_; ((refine pw_add64 rfl rfl (by omega) (by omega) ?_)); refine TA_nv ?_))
      all_goals ((refine TA_ps 5 (List.Sublist.cons_cons _ (List.Sublist.cons _ (List.Sublist.refl _))) ?_; ((refine pw_fieldAddr rfl ?_)); refine TA_nv ?_))
      all_goals ((refine TA_ps 6 (List.Sublist.cons_cons _ (List.Sublist.cons _ (List.Sublist.refl _))) ?_; ((refine pw_load (i := 0) rfl rfl rfl ?_)); refine TA_nv ?_))
      -- left: [4, 7, 8, 9, 10]; ready: [4]: ['call']
      have hdl : ((xs.take ((at_ : Int) + 17 + (fourL (xs.drop (at_ + 9)) : Int)).toNat).drop ((at_ : Int) + 17).toNat) = (xs.take (at_ + 17 + fourL (xs.drop (at_ + 9)))).drop (at_ + 17) := by
        rw [show ((at_ : Int) + 17 + (fourL (xs.drop (at_ + 9)) : Int)).toNat = at_ + 17 + fourL (xs.drop (at_ + 9)) by omega, show ((at_ : Int) + 17).toNat = at_ + 17 by omega]
      have hdn : ((xs.take (at_ + 17 + fourL (xs.drop (at_ + 9)))).drop (at_ + 17)).length = fourL (xs.drop (at_ + 9)) := by simp; omega
      have hlen : ((at_ : Int) + 17 + (fourL (xs.drop (at_ + 9)) : Int)).toNat - ((at_ : Int) + 17).toNat = fourL (xs.drop (at_ + 9)) := by omega
      have hf : ∀ bb : Bool, bb = decide (fourL (xs.drop (at_ + 17 + fourL (xs.drop (at_ + 9)))) = sumB ((xs.take (at_ + 17 + fourL (xs.drop (at_ + 9)))).drop (at_ + 17))) → recA xs at_ limit = (⟨at_, fourL (xs.drop (at_ + 1)), fourL (xs.drop (at_ + 5)), (xs.take (at_ + 17 + fourL (xs.drop (at_ + 9)))).drop (at_ + 17)⟩, bb) := fun bb e => by
        unfold recA; rw [if_neg (by omega), if_neg heq, if_neg heq2, if_neg (by omega), e]
      refine TA_o 4 ?_
      refine ow_callv rfl arp ?_; refine word_k 3 2 _ _ _ _ xs at_ (17 + fourL (xs.drop (at_ + 9))) rfl rfl hb (by omega) memt ?_
      refine ⟨.inl (fun w hs => hs.weaken sbp kpp), ?_⟩; refine TA_nv ?_
      refine TA_o 7 ?_
      refine ow_callf arp ?_; refine sum_k' _ _ _ ((xs.take ((at_ : Int) + 17 + (fourL (xs.drop (at_ + 9)) : Int)).toNat).drop ((at_ : Int) + 17).toNat) (by rw [hdl, hdn]; omega) (by rw [hdl, hdn]; omega) memt ?_
      refine ⟨.inl (fun w hs => hs.weaken sbp kpp), ?_⟩; refine TA_nv ?_
      all_goals ((refine TA_ps 8 (List.Sublist.cons_cons _ (List.Sublist.cons _ (List.Sublist.refl _))) ?_; ((refine pw_eql rfl rfl (fun h => ?_) (fun h => ?_))) <;> (refine TA_nv ?_)))
      -- left: [9, 10]; ready: [9]: ['store']
      all_goals
        refine TA_g 9 ?_
        refine gw_store (i := 1) rfl clp rfl (by rfl) (by simp) (by simp [Value.oneCell']) ?_
        refine ⟨.inl (fun w hs => hs.weaken (List.Sublist.cons_cons _ (List.Sublist.cons _ (List.Sublist.refl _))) (fun _ h => h)), ?_⟩; refine TA_nv ?_
        refine TA_hq ?_
        all_goals ((refine TA_ps 10 (List.Sublist.cons_cons _ (List.Sublist.cons _ (List.Sublist.refl _))) ?_; ((refine pw_as ?_)); refine TA_nv ?_))
        all_goals refine TA_d ?_
      repeat' (first | (apply TC_ret) | (apply En_then))
      · rw [hlen, hdl]
        refine En_fin (.inl rfl) (res2 rfl (rv_cell (i := 1) rfl rfl rfl) (rv_tmp rfl)) (fin_K H (Sl (.slice A9 (fourL (xs.drop (at_ + 9))) c9) ((xs.take (at_ + 17 + fourL (xs.drop (at_ + 9)))).drop (at_ + 17)) :: R) (fun w hs => hs.weaken sbp kpp) ?_)
        have h' : fourL (xs.drop (at_ + (17 + fourL (xs.drop (at_ + 9))))) = sumB ((xs.take ((at_ : Int) + 17 + (fourL (xs.drop (at_ + 9)) : Int)).toNat).drop ((at_ : Int) + 17).toNat) := by exact_mod_cast h
        rw [hdl, ← Nat.add_assoc] at h'
        have k' := KRc_eq (hf true (by rw [decide_eq_true h'])) k A9 c9
        simp only [rcV, hdn] at k'
        exact k'
      · rw [hlen, hdl]
        refine En_fin (.inl rfl) (res2 rfl (rv_cell (i := 1) rfl rfl rfl) (rv_tmp rfl)) (fin_K H (Sl (.slice A9 (fourL (xs.drop (at_ + 9))) c9) ((xs.take (at_ + 17 + fourL (xs.drop (at_ + 9)))).drop (at_ + 17)) :: R) (fun w hs => hs.weaken sbp kpp) ?_)
        have h' : fourL (xs.drop (at_ + (17 + fourL (xs.drop (at_ + 9))))) ≠ sumB ((xs.take ((at_ : Int) + 17 + (fourL (xs.drop (at_ + 9)) : Int)).toNat).drop ((at_ : Int) + 17).toNat) := fun e => h (by exact_mod_cast e)
        rw [hdl, ← Nat.add_assoc] at h'
        have k' := KRc_eq (hf false (by rw [decide_eq_false h'])) k A9 c9
        simp only [rcV, hdn] at k'
        exact k'
end Go.Proofs.Ytggdljhmbckpmaa
