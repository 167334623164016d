/- The record at a place: walks. The records of a half, yielded: walks. -/
import Derived.Test.YtggdljhmbckpmaaF4J
import Derived.Test.YtggdljhmbckpmaaA9J
import Derived.Test.YtggdljhmbckpmaaA13J
set_option linter.unusedVariables false
set_option linter.unusedSimpArgs false
namespace Go.Proofs.Ytggdljhmbckpmaa
open Go Go.RowKit
set_option maxRecDepth 100000
set_option maxHeartbeats 800000

theorem fourL_lt (xs : List UInt8) : fourL xs < 4294967296 := by
  unfold fourL four
  repeat' ((first | exact Nat.mod_lt _ (by decide) | exact Nat.lt_of_lt_of_le (UInt8.toNat_lt _) (by decide) | refine Nat.or_lt_two_pow (n := 32) ?_ ?_))
def Rc.zero : Rc := ⟨0, 0, 0, []⟩
/-- The record at a place, and whether it is right. -/
def recA (b : List UInt8) (at_ limit : Nat) : Rc × Bool :=
  if limit < at_ + 17 then (Rc.zero, false)
  else if b.getD at_ 0 ≠ 167 then (Rc.zero, false)
  else if fourL (b.drop (at_ + 13)) ≠ sumB ((b.take (at_ + 13)).drop (at_ + 1)) then (Rc.zero, false)
  else if limit < at_ + 21 + fourL (b.drop (at_ + 9)) then (Rc.zero, false)
  else
    let data := (b.take (at_ + 17 + fourL (b.drop (at_ + 9)))).drop (at_ + 17)
    (⟨at_, fourL (b.drop (at_ + 1)), fourL (b.drop (at_ + 5)), data⟩, decide (fourL (b.drop (at_ + 17 + fourL (b.drop (at_ + 9)))) = sumB data))
def KRc (K : Value → List Hp → List MP → Prop) (r : Rc × Bool) (H : List Hp) (R : List MP) : Prop := ∀ A c, K (.tuple #[rcV A c r.1, .bool r.2]) H (Sl (.slice A r.1.data.length c) r.1.data :: R)
theorem KRc_eq {K : Value → List Hp → List MP → Prop} {r r' : Rc × Bool} {H : List Hp} {R : List MP} (e : r = r') (h : KRc K r H R) : KRc K r' H R := e ▸ h

theorem recordAt_k {w0 : World} {H : List Hp} {R : List MP} {K : Value → List Hp → List MP → Prop} (A0 : Option Addr) (c0 : Nat) (xs : List UInt8) (at_ limit : Nat) (hb : xs.length ≤ 600000) (hal : at_ ≤ limit) (hlb : limit ≤ xs.length)
    (hm : Sl (.slice A0 xs.length c0) xs ∈ R)
    (k : KRc K (recA xs at_ limit) H R) : CallsK Try.prog w0 121 #[.slice A0 xs.length c0, .int .i64 (at_ : Int), .int .i64 (limit : Int)] H R K := by
  refine calls_of Try.func121 rfl Try.ntmps121 nep ?_
  repeat' (first | (apply TC_seq) | (apply TC_region) | (apply TC_ret) | (apply TC_skip) | (apply TC_cond_true; exact rfl) | (apply TC_cond_false; exact rfl) | (apply T_nil) | (apply En_then) | (apply En_then_ret) | (apply T_load; exact rfl; ((first | refine pw_load (i := 1) rfl rfl rfl ?_ | refine pw_load (i := 2) rfl rfl rfl ?_ | refine pw_load_at0 rfl memr rfl ?_)); refine T_nv ?_) | (apply T_bin; exact rfl; ((refine pw_sub64 rfl rfl (by omega) (by omega) ?_)); refine T_nv ?_) | (apply T_bin; exact rfl; ((first | refine pw_lss rfl rfl (fun h => ?_) (fun h => ?_) | refine pw_neq rfl rfl (fun h => ?_) (fun h => ?_))) <;> (refine T_nv ?_)) | (apply T_idx; exact rfl; ((refine pw_index_bN evp rfl memt (List.getElem?_eq_getElem (by omega)) (fun b o => ?_))); refine T_nv ?_) | (apply T_store; exact rfl; ((refine gw_store (i := 0) rfl clp rfl (by rfl) (by simp) (by simp [Value.oneCell']) ?_)); refine T_nv ?_; refine T_hq ?_) | (refine T_pure rfl rfl ?_; ((first | refine pw_mv ?_ | refine pw_as ?_ | refine pw_pick_t rfl evp ?_ | refine pw_pick_f rfl evp ?_ | refine pw_makeFuncL agp agp ?_ | refine pw_build bldp ?_)); refine T_nv ?_) | (refine T_skipped rfl ?_; refine T_nv ?_) | (refine T_gen rfl rfl ?_; ((first | refine gw_box clp (fun b => ?_) | refine gw_alloc clp (fun b => ?_))); refine T_nv ?_))
  · refine En_fin (.inl rfl) (res2 rfl (rv_cell (i := 0) rfl rfl rfl) (rv_tmp rfl)) (fin_K H (Sl (.slice none 0 0) ([] : List UInt8) :: R) (fun w hs => (hs.weaken sbp (fun _ h => h)).sl_nil UInt8) ?_)
    exact KRc_eq (r' := (Rc.zero, false)) (by unfold recA; rw [if_pos (by omega)]) k none 0
  · refine En_fin (.inl rfl) (res2 rfl (rv_cell (i := 0) rfl rfl rfl) (rv_tmp rfl)) (fin_K H (Sl (.slice none 0 0) ([] : List UInt8) :: R) (fun w hs => (hs.weaken sbp kpp).sl_nil UInt8) ?_)
    refine KRc_eq (r' := (Rc.zero, false)) ?_ k none 0
    have hne : xs.getD at_ 0 ≠ 167 := by
      rw [getD_at xs at_ (by omega)]
      intro e; rw [e] at h; exact h rfl
    unfold recA; rw [if_neg (by omega), if_pos hne]
  have hlt : at_ + 17 ≤ limit := by omega
  have heq : ¬ (xs.getD at_ 0 ≠ 167) := by
    rw [getD_at xs at_ (by omega)]
    intro e
    exact e (UInt8.toNat_inj.1 (by show xs[at_].toNat = 167; omega))
  have h9 := fourL_lt (xs.drop (at_ + 9))
  repeat' (first | (refine T_ow rfl ?_; refine ow_callv rfl arp ?_; refine word_k 2 1 _ _ _ _ xs at_ 9 rfl rfl hb (by omega) memt ?_; refine T_nv ?_) | (refine T_pure rfl rfl ?_; refine pw_convi rfl (Nat.le_trans (Nat.le_of_lt (fourL_lt _)) (by decide)) ?_; refine T_nv ?_) | (apply TC_seq) | (apply T_nil) | (apply En_then) | (refine T_pure rfl rfl ?_; ((refine pw_as ?_)); refine T_nv ?_))
  · skip
    refine TC_draw mixed (by decide +kernel) (fun _ _ _ _ _ _ h => h) (List.Sublist.refl _) ?_
    all_goals ((refine TA_p 0 ?_; ((refine pw_mv ?_)); refine TA_nv ?_))
    all_goals ((refine TA_p 2 ?_; ((refine pw_load (i := 2) rfl rfl rfl ?_)); refine TA_nv ?_))
    all_goals ((refine TA_p 3 ?_; ((refine pw_load (i := 1) rfl rfl rfl ?_)); refine TA_nv ?_))
    all_goals ((refine TA_p 4 ?_; ((refine pw_add64 rfl rfl (by omega) (by omega) ?_)); refine TA_nv ?_))
    all_goals ((refine TA_p 5 ?_; ((refine pw_load (i := 1) rfl rfl rfl ?_)); refine TA_nv ?_))
    all_goals ((refine TA_p 6 ?_; ((refine pw_add64 rfl rfl (by omega) (by omega) ?_)); refine TA_nv ?_))
    all_goals ((refine TA_p 7 ?_; ((refine pw_slice_sl rfl memt rfl rfl rfl rfl (by omega) (by omega) (by omega) (fun A8 c8 => ?_))); refine TA_nv ?_))
    -- left: [1, 8, 9, 10, 11, 12, 13, 14, 15, 16, 17]; ready: [1]: ['call']
    refine TA_o 1 ?_
    refine ow_callv rfl arp ?_; refine word_k 2 1 _ _ _ _ xs at_ 13 rfl rfl hb (by omega) memt ?_
    refine ⟨.inl (fun w hs => hs), ?_⟩; refine TA_nv ?_
    refine TA_o 8 ?_
    refine ow_callf arp ?_; refine sum_k' _ _ _ ((xs.take ((at_ : Int) + 13).toNat).drop ((at_ : Int) + 1).toNat) (by simp; omega) (by simp; omega) memt ?_
    refine ⟨.inl (fun w hs => hs), ?_⟩; refine TA_nv ?_
    all_goals ((refine TA_p 9 ?_; ((refine pw_neq rfl rfl (fun h => ?_) (fun h => ?_))) <;> (refine TA_nv ?_)))
    all_goals ((refine TA_p 10 ?_; ((refine pw_mv ?_)); refine TA_nv ?_))
    all_goals (first | (refine TA_p 11 ?_; ((refine pw_mv ?_)); refine TA_nv ?_) | (refine TA_ks 11 (List.Sublist.refl _) ?_))
    all_goals (first | (refine TA_p 12 ?_; ((refine pw_mv ?_)); refine TA_nv ?_) | (refine TA_ks 12 (List.Sublist.refl _) ?_))
    all_goals (first | (refine TA_p 13 ?_; ((refine pw_load (i := 1) rfl rfl rfl ?_)); refine TA_nv ?_) | (refine TA_ks 13 (List.Sublist.refl _) ?_))
    all_goals (first | (refine TA_p 14 ?_; ((refine pw_sub64 rfl rfl (by omega) (by omega) ?_)); refine TA_nv ?_) | (refine TA_ks 14 (List.Sublist.refl _) ?_))
    all_goals (first | (refine TA_p 15 ?_; ((refine pw_sub64 rfl rfl (by omega) (by omega) ?_)); refine TA_nv ?_) | (refine TA_ks 15 (List.Sublist.refl _) ?_))
    all_goals (first | (refine TA_p 16 ?_; ((refine pw_gtr rfl rfl (fun h => ?_) (fun h => ?_))) <;> (refine TA_nv ?_)) | (refine TA_ks 16 (List.Sublist.refl _) ?_))
    all_goals ((refine TA_p 17 ?_; ((first | refine pw_pick_t rfl evp ?_ | refine pw_pick_f rfl evp ?_)); refine TA_nv ?_))
    all_goals refine TA_d ?_
    repeat' (first | (apply TC_seq) | (apply TC_region) | (apply TC_ret) | (apply TC_skip) | (apply TC_cond_true; exact rfl) | (apply TC_cond_false; exact rfl) | (apply T_nil) | (apply En_then) | (apply En_then_ret) | (apply T_store; exact rfl; ((refine gw_store (i := 0) rfl clp rfl (by rfl) (by simp) (by simp [Value.oneCell']) ?_)); refine T_nv ?_; refine T_hq ?_) | (refine T_pure rfl rfl ?_; ((first | refine pw_as ?_ | refine pw_build bldp ?_)); refine T_nv ?_))
    · refine En_fin (.inl rfl) (res2 rfl (rv_cell (i := 0) rfl rfl rfl) (rv_tmp rfl)) (fin_K H (Sl (.slice none 0 0) ([] : List UInt8) :: R) (fun w hs => (hs.weaken sbp kpp).sl_nil UInt8) ?_)
      refine KRc_eq (r' := (Rc.zero, false)) ?_ k none 0
      have hne : fourL (xs.drop (at_ + 13)) ≠ sumB ((xs.take (at_ + 13)).drop (at_ + 1)) := fun e => h (by exact_mod_cast e)
      unfold recA; rw [if_neg (by omega), if_neg heq, if_pos hne]
    · refine En_fin (.inl rfl) (res2 rfl (rv_cell (i := 0) rfl rfl rfl) (rv_tmp rfl)) (fin_K H (Sl (.slice none 0 0) ([] : List UInt8) :: R) (fun w hs => (hs.weaken sbp kpp).sl_nil UInt8) ?_)
      refine KRc_eq (r' := (Rc.zero, false)) ?_ k none 0
      rename_i hs13
      have heq2 : ¬ (fourL (xs.drop (at_ + 13)) ≠ sumB ((xs.take (at_ + 13)).drop (at_ + 1))) := fun e => e (by exact_mod_cast hs13)
      unfold recA; rw [if_neg (by omega), if_neg heq, if_neg heq2, if_pos (by omega)]
    rename_i hs13
    have heq2 : ¬ (fourL (xs.drop (at_ + 13)) ≠ sumB ((xs.take (at_ + 13)).drop (at_ + 1))) := fun e => e (by exact_mod_cast hs13)
    have hn21 : at_ + 21 + fourL (xs.drop (at_ + 9)) ≤ limit := by omega
    refine TC_draw mixed (by decide +kernel) (fun _ _ _ _ _ _ h => h) (List.Sublist.refl _) ?_
    all_goals ((refine TA_p 0 ?_; ((refine pw_load (i := 1) rfl rfl rfl ?_)); refine TA_nv ?_))
    all_goals ((refine TA_p 1 ?_; ((refine pw_mv ?_)); refine TA_nv ?_))
    all_goals ((refine TA_p 4 ?_; ((refine pw_mv ?_)); refine TA_nv ?_))
    all_goals ((refine TA_p 7 ?_; ((refine pw_load (i := 2) rfl rfl rfl ?_)); refine TA_nv ?_))
    all_goals ((refine TA_p 8 ?_; ((refine pw_load (i := 1) rfl rfl rfl ?_)); refine TA_nv ?_))
    all_goals ((refine TA_p 9 ?_; ((refine pw_add64 rfl rfl (by omega) (by omega) ?_)); refine TA_nv ?_))
    all_goals ((refine TA_p 10 ?_; ((refine pw_load (i := 1) rfl rfl rfl ?_)); refine TA_nv ?_))
    all_goals ((refine TA_p 11 ?_; ((refine pw_add64 rfl rfl (by omega) (by omega) ?_)); refine TA_nv ?_))
    all_goals ((refine TA_p 12 ?_; ((refine pw_mv ?_)); refine TA_nv ?_))
    all_goals ((refine TA_p 13 ?_; ((refine pw_add64 rfl rfl (by omega) (by omega) ?_)); refine TA_nv ?_))
    all_goals ((refine TA_p 14 ?_; ((refine pw_slice_sl rfl memt rfl rfl rfl rfl (by omega) (by omega) (by omega) (fun A9 c9 => ?_))); refine TA_nv ?_))
    -- left: [2, 3, 5, 6, 15, 16, 17]; ready: [2, 16]: ['call', 'alloc']
    refine cut1 (G := ?G) ?ha ?hb
    case ha =>
      intro hG
      refine TA_2 2 16 ?_ ?_
      · refine ow_callv rfl arp ?_; refine word_k 2 1 _ _ _ _ xs at_ 1 rfl rfl hb (by omega) memt ?_
        refine ⟨.inl (fun w hs => hs), ?_⟩; refine TA_nv ?_
        all_goals ((refine TA_p 3 ?_; ((refine pw_convi rfl (Nat.le_trans (Nat.le_of_lt (fourL_lt _)) (by decide)) ?_)); refine TA_nv ?_))
        -- left: [5, 6, 15, 16, 17]; ready: [5, 16]: ['call', 'alloc']
        refine TA_2 5 16 ?_ ?_
        · refine ow_callv rfl arp ?_; refine word_k 2 1 _ _ _ _ xs at_ 5 rfl rfl hb (by omega) memt ?_
          refine ⟨.inl (fun w hs => hs), ?_⟩; refine TA_nv ?_
          all_goals ((refine TA_p 6 ?_; ((refine pw_convi rfl (Nat.le_trans (Nat.le_of_lt (fourL_lt _)) (by decide)) ?_)); refine TA_nv ?_))
          all_goals ((refine TA_p 15 ?_; ((refine pw_build bldp ?_)); refine TA_nv ?_))
          -- left: [16, 17]; ready: [16]: ['alloc']
          refine TA_o 16 ?_
          refine GW.ow rfl ?_; refine gw_alloc clp (fun b10 => ?_)
          refine ⟨.inl (fun w hs => hs.weaken (List.sublist_cons_self _ _) (fun p hp => hp)), ?_⟩; refine TA_nv ?_
          exact hG b10
        · refine GW.ow rfl ?_; refine gw_alloc clp (fun b10 => ?_)
          refine ⟨.inl (fun w hs => hs.weaken (List.sublist_cons_self _ _) (fun p hp => hp)), ?_⟩; refine TA_nv ?_
          refine TA_o 5 ?_
          refine ow_callv rfl arp ?_; refine word_k 3 2 _ _ _ _ xs at_ 5 rfl rfl hb (by omega) memt ?_
          refine ⟨.inl (fun w hs => hs.weaken (List.sublist_cons_self _ _) (fun p hp => hp)), ?_⟩; refine TA_nv ?_
          all_goals ((refine TA_ps 6 (List.Sublist.cons _ (List.Sublist.refl _)) ?_; ((refine pw_convi rfl (Nat.le_trans (Nat.le_of_lt (fourL_lt _)) (by decide)) ?_)); refine TA_nv ?_))
          all_goals ((refine TA_ps 15 (List.Sublist.cons _ (List.Sublist.refl _)) ?_; ((refine pw_build bldp ?_)); refine TA_nv ?_))
          -- left: [17]; ready: [17]: ['store']
          exact hG b10
      · refine GW.ow rfl ?_; refine gw_alloc clp (fun b10 => ?_)
        refine ⟨.inl (fun w hs => hs.weaken (List.sublist_cons_self _ _) (fun p hp => hp)), ?_⟩; refine TA_nv ?_
        refine TA_o 2 ?_
        refine ow_callv rfl arp ?_; refine word_k 3 2 _ _ _ _ xs at_ 1 rfl rfl hb (by omega) memt ?_
        refine ⟨.inl (fun w hs => hs.weaken (List.sublist_cons_self _ _) (fun p hp => hp)), ?_⟩; refine TA_nv ?_
        all_goals ((refine TA_ps 3 (List.Sublist.cons _ (List.Sublist.refl _)) ?_; ((refine pw_convi rfl (Nat.le_trans (Nat.le_of_lt (fourL_lt _)) (by decide)) ?_)); refine TA_nv ?_))
        -- left: [5, 6, 15, 17]; ready: [5]: ['call']
        refine TA_o 5 ?_
        refine ow_callv rfl arp ?_; refine word_k 3 2 _ _ _ _ xs at_ 5 rfl rfl hb (by omega) memt ?_
        refine ⟨.inl (fun w hs => hs.weaken (List.sublist_cons_self _ _) (fun p hp => hp)), ?_⟩; refine TA_nv ?_
        all_goals ((refine TA_ps 6 (List.Sublist.cons _ (List.Sublist.refl _)) ?_; ((refine pw_convi rfl (Nat.le_trans (Nat.le_of_lt (fourL_lt _)) (by decide)) ?_)); refine TA_nv ?_))
        all_goals ((refine TA_ps 15 (List.Sublist.cons _ (List.Sublist.refl _)) ?_; ((refine pw_build bldp ?_)); refine TA_nv ?_))
        -- left: [17]; ready: [17]: ['store']
        exact hG b10
    case hb =>
      intro b10
      refine TA_g 17 ?_
      refine gw_store (i := 0) rfl clp rfl (by rfl) (by simp) (by simp [Value.oneCell']) ?_
      refine ⟨.inl (fun w hs => hs.weaken (List.sublist_cons_self _ _) (fun p hp => hp)), ?_⟩
      refine TA_nv ?_
      refine TA_hq ?_
      refine TA_done (by decide +kernel) ?_
      repeat' (first | (apply TC_seq) | (apply En_then))
      refine TC_draw mixed (by decide +kernel) (fun _ _ _ _ _ _ h => h) (List.Sublist.cons_cons _ (List.Sublist.cons _ (List.Sublist.refl _))) ?_
      all_goals ((refine TA_ps 0 (List.Sublist.cons_cons _ (List.Sublist.cons _ (List.Sublist.refl _))) ?_; ((refine pw_load (i := 0) rfl rfl rfl ?_)); refine TA_nv ?_))
      all_goals ((refine TA_ps 1 (List.Sublist.cons_cons _ (List.Sublist.cons _ (List.Sublist.refl _))) ?_; ((refine pw_mv ?_)); refine TA_nv ?_))
      all_goals ((refine TA_ps 2 (List.Sublist.cons_cons _ (List.Sublist.cons _ (List.Sublist.refl _))) ?_; ((refine pw_mv ?_)); refine TA_nv ?_))
      all_goals ((refine TA_ps 3 (List.Sublist.cons_cons _ (List.Sublist.cons _ (List.Sublist.refl _))) ?_; ((refine pw_add64 rfl rfl (by omega) (by omega) ?_)); refine TA_nv ?_))
      all_goals ((refine TA_ps 5 (List.Sublist.cons_cons _ (List.Sublist.cons _ (List.Sublist.refl _))) ?_; ((refine pw_fieldAddr rfl ?_)); refine TA_nv ?_))
      all_goals ((refine TA_ps 6 (List.Sublist.cons_cons _ (List.Sublist.cons _ (List.Sublist.refl _))) ?_; ((refine pw_load (i := 0) rfl rfl rfl ?_)); refine TA_nv ?_))
      -- left: [4, 7, 8, 9, 10]; ready: [4]: ['call']
      have hdl : ((xs.take ((at_ : Int) + 17 + (fourL (xs.drop (at_ + 9)) : Int)).toNat).drop ((at_ : Int) + 17).toNat) = (xs.take (at_ + 17 + fourL (xs.drop (at_ + 9)))).drop (at_ + 17) := by
        rw [show ((at_ : Int) + 17 + (fourL (xs.drop (at_ + 9)) : Int)).toNat = at_ + 17 + fourL (xs.drop (at_ + 9)) by omega, show ((at_ : Int) + 17).toNat = at_ + 17 by omega]
      have hdn : ((xs.take (at_ + 17 + fourL (xs.drop (at_ + 9)))).drop (at_ + 17)).length = fourL (xs.drop (at_ + 9)) := by simp; omega
      have hlen : ((at_ : Int) + 17 + (fourL (xs.drop (at_ + 9)) : Int)).toNat - ((at_ : Int) + 17).toNat = fourL (xs.drop (at_ + 9)) := by omega
      have hf : ∀ bb : Bool, bb = decide (fourL (xs.drop (at_ + 17 + fourL (xs.drop (at_ + 9)))) = sumB ((xs.take (at_ + 17 + fourL (xs.drop (at_ + 9)))).drop (at_ + 17))) → recA xs at_ limit = (⟨at_, fourL (xs.drop (at_ + 1)), fourL (xs.drop (at_ + 5)), (xs.take (at_ + 17 + fourL (xs.drop (at_ + 9)))).drop (at_ + 17)⟩, bb) := fun bb e => by
        unfold recA; rw [if_neg (by omega), if_neg heq, if_neg heq2, if_neg (by omega), e]
      refine TA_o 4 ?_
      refine ow_callv rfl arp ?_; refine word_k 3 2 _ _ _ _ xs at_ (17 + fourL (xs.drop (at_ + 9))) rfl rfl hb (by omega) memt ?_
      refine ⟨.inl (fun w hs => hs.weaken sbp kpp), ?_⟩; refine TA_nv ?_
      refine TA_o 7 ?_
      refine ow_callf arp ?_; refine sum_k' _ _ _ ((xs.take ((at_ : Int) + 17 + (fourL (xs.drop (at_ + 9)) : Int)).toNat).drop ((at_ : Int) + 17).toNat) (by rw [hdl, hdn]; omega) (by rw [hdl, hdn]; omega) memt ?_
      refine ⟨.inl (fun w hs => hs.weaken sbp kpp), ?_⟩; refine TA_nv ?_
      all_goals ((refine TA_ps 8 (List.Sublist.cons_cons _ (List.Sublist.cons _ (List.Sublist.refl _))) ?_; ((refine pw_eql rfl rfl (fun h => ?_) (fun h => ?_))) <;> (refine TA_nv ?_)))
      -- left: [9, 10]; ready: [9]: ['store']
      all_goals
        refine TA_g 9 ?_
        refine gw_store (i := 1) rfl clp rfl (by rfl) (by simp) (by simp [Value.oneCell']) ?_
        refine ⟨.inl (fun w hs => hs.weaken (List.Sublist.cons_cons _ (List.Sublist.cons _ (List.Sublist.refl _))) (fun _ h => h)), ?_⟩; refine TA_nv ?_
        refine TA_hq ?_
        all_goals ((refine TA_ps 10 (List.Sublist.cons_cons _ (List.Sublist.cons _ (List.Sublist.refl _))) ?_; ((refine pw_as ?_)); refine TA_nv ?_))
        all_goals refine TA_d ?_
      repeat' (first | (apply TC_ret) | (apply En_then))
      · rw [hlen, hdl]
        refine En_fin (.inl rfl) (res2 rfl (rv_cell (i := 1) rfl rfl rfl) (rv_tmp rfl)) (fin_K H (Sl (.slice A9 (fourL (xs.drop (at_ + 9))) c9) ((xs.take (at_ + 17 + fourL (xs.drop (at_ + 9)))).drop (at_ + 17)) :: R) (fun w hs => hs.weaken sbp kpp) ?_)
        have h' : fourL (xs.drop (at_ + (17 + fourL (xs.drop (at_ + 9))))) = sumB ((xs.take ((at_ : Int) + 17 + (fourL (xs.drop (at_ + 9)) : Int)).toNat).drop ((at_ : Int) + 17).toNat) := by exact_mod_cast h
        rw [hdl, ← Nat.add_assoc] at h'
        have k' := KRc_eq (hf true (by rw [decide_eq_true h'])) k A9 c9
        simp only [rcV, hdn] at k'
        exact k'
      · rw [hlen, hdl]
        refine En_fin (.inl rfl) (res2 rfl (rv_cell (i := 1) rfl rfl rfl) (rv_tmp rfl)) (fin_K H (Sl (.slice A9 (fourL (xs.drop (at_ + 9))) c9) ((xs.take (at_ + 17 + fourL (xs.drop (at_ + 9)))).drop (at_ + 17)) :: R) (fun w hs => hs.weaken sbp kpp) ?_)
        have h' : fourL (xs.drop (at_ + (17 + fourL (xs.drop (at_ + 9))))) ≠ sumB ((xs.take ((at_ : Int) + 17 + (fourL (xs.drop (at_ + 9)) : Int)).toNat).drop ((at_ : Int) + 17).toNat) := fun e => h (by exact_mod_cast e)
        rw [hdl, ← Nat.add_assoc] at h'
        have k' := KRc_eq (hf false (by rw [decide_eq_false h'])) k A9 c9
        simp only [rcV, hdn] at k'
        exact k'
end Go.Proofs.Ytggdljhmbckpmaa
namespace Go.Proofs.Ytggdljhmbckpmaa
open Go Go.RowKit
set_option maxRecDepth 100000
set_option maxHeartbeats 800000

def Rc.ok (r : Rc) : Prop := r.stop ≤ 600000 ∧ r.epoch < 4294967296 ∧ r.seq < 4294967296
instance : Rep Rc where
  size := 4
  rd s cs x := ∃ A c, cs = [.int .i64 (x.at_ : Int), .int .i64 (x.epoch : Int), .int .i64 (x.seq : Int), .slice A x.data.length c] ∧ x.ok ∧ (Sl (.slice A x.data.length c) x.data).p s
  mono h hp := by obtain ⟨A, c, e, k, l⟩ := hp; exact ⟨A, c, e, k, (Sl _ _).mono _ _ h l⟩
  len hp := by obtain ⟨A, c, rfl, k⟩ := hp; rfl
  one hp := by obtain ⟨A, c, rfl, k⟩ := hp; simp [Value.oneCell']
instance : Unp Rc := ⟨Option Addr × Nat, fun x y => [.int .i64 (x.at_ : Int), .int .i64 (x.epoch : Int), .int .i64 (x.seq : Int), .slice y.1 x.data.length y.2], fun x _ => x.ok, fun x y => [Sl (.slice y.1 x.data.length y.2) x.data],
  fun {s cs' x} h => by
    obtain ⟨A, c, rfl, h2, h3⟩ := h
    exact ⟨(A, c), rfl, h2, fun p hp => by simp at hp; subst hp; exact h3⟩,
  fun {s x y} h h' => ⟨y.1, y.2, rfl, h, h' _ (by simp)⟩⟩
section
variable {P : Program} {w0 : World} {E : List Value} {H : List Hp} {R : List MP} {ty : TypeId} {K : Value → List MP → Prop}
theorem pw_index_rcN {t e : TypeId} {x ix : Operand} {agg : Bool} {by_ : Nat} {z : Value} [h : TyU P t (.slice e)] [he : Ty P e agg 4 by_ z] {v : Value} {xs : List Rc} {k : IntKind} {i : Nat} {d : Rc} (hx : ev E x = v) (hix : ev E ix = .int k (i : Int)) (hm : Sl v xs ∈ R) (hd : xs[i]? = some d)
    (kk : ∀ b o A c, d.ok → K (.pointer (some ⟨b, o, none⟩)) (At b o [.int .i64 (d.at_ : Int), .int .i64 (d.epoch : Int), .int .i64 (d.seq : Int), .slice A d.data.length c] :: Sl (.slice A d.data.length c) d.data :: R)) : PW P w0 E (.indexAddr t x ix) ty H R K := pw_indexU hx hix hm rfl (by simpa using hd) (by omega) (fun b o (y : Option Addr × Nat) (hy : d.ok) => kk b o y.1 y.2 hy)
end

theorem recA_ok {b : List UInt8} {at_ limit : Nat} (hl : limit ≤ 600000) (h : (recA b at_ limit).2 = true) : (recA b at_ limit).1.ok ∧ (recA b at_ limit).1.at_ = at_ ∧ (recA b at_ limit).1.stop ≤ limit ∧ at_ + 21 ≤ (recA b at_ limit).1.stop := by
  unfold recA at h ⊢
  split at h
  · cases h
  split at h
  · cases h
  split at h
  · cases h
  split at h
  · cases h
  rename_i h1 h2 h3 h4
  rw [if_neg h1, if_neg h2, if_neg h3, if_neg h4]
  have e : ((b.take (at_ + 17 + fourL (b.drop (at_ + 9)))).drop (at_ + 17)).length ≤ fourL (b.drop (at_ + 9)) := by simp; omega
  refine ⟨⟨?_, fourL_lt _, fourL_lt _⟩, rfl, ?_, ?_⟩ <;> simp only [Rc.stop] <;> omega

/-- The records from a place on. -/
def recL (b : List UInt8) (limit : Nat) : Nat → Nat → Nat → Option Nat → List Rc
  | 0, _, _, _ => []
  | m + 1, at_, seq, ep =>
    if (recA b at_ limit).2 = true ∧ (recA b at_ limit).1.seq = seq ∧ (∀ e, ep = some e → (recA b at_ limit).1.epoch = e) then (recA b at_ limit).1 :: recL b limit m (recA b at_ limit).1.stop (seq + 1) (some (recA b at_ limit).1.epoch) else []
def recsB (b : List UInt8) (half : Nat) : List Rc := recL b ((half + 1) * b.length / 2) (b.length + 1) (half * b.length / 2) 0 none
def epI : Option Nat → Int
  | none => -1
  | some e => e
theorem epI_ge {ep : Option Nat} (h : ¬ epI ep ≥ 0) : ep = none := by
  cases ep with
  | none => rfl
  | some e => exact absurd (by simp [epI]) h
theorem epI_eq {ep : Option Nat} {r : Nat} (h : (r : Int) = epI ep) : ∀ e, ep = some e → r = e := by
  rintro e rfl
  have : (r : Int) = (e : Int) := h
  omega
theorem epI_ne {ep : Option Nat} {r : Nat} (h0 : epI ep ≥ 0) (h : ¬ (r : Int) = epI ep) : ¬ ∀ e, ep = some e → r = e := fun hc => by
  cases ep with
  | none => simp [epI] at h0
  | some e => exact h (by rw [hc e rfl]; rfl)
theorem recL_no {b : List UInt8} {limit m at_ seq : Nat} {ep : Option Nat} (h : ¬ ((recA b at_ limit).2 = true ∧ (recA b at_ limit).1.seq = seq ∧ (∀ e, ep = some e → (recA b at_ limit).1.epoch = e))) : recL b limit m at_ seq ep = [] := by
  cases m with
  | zero => rfl
  | succ m => rw [recL, if_neg h]
theorem recL_yes {b : List UInt8} {limit m at_ seq : Nat} {ep : Option Nat} (hm : 0 < m) (h : (recA b at_ limit).2 = true ∧ (recA b at_ limit).1.seq = seq ∧ (∀ e, ep = some e → (recA b at_ limit).1.epoch = e)) : recL b limit m at_ seq ep = (recA b at_ limit).1 :: recL b limit (m - 1) (recA b at_ limit).1.stop (seq + 1) (some (recA b at_ limit).1.epoch) := by
  obtain ⟨m, rfl⟩ : ∃ k, m = k + 1 := ⟨m - 1, by omega⟩
  rw [recL, if_pos h]; rfl

theorem recs1_k {w0 : World} {H : List Hp} {R : List MP} {K : Value → List Hp → List MP → Prop} (l p q b1 b2 : Nat) (A : Option Addr) (c : Nat) (xs : List UInt8) (half : Nat) (hh : half ≤ 1) (hb : xs.length ≤ 600000) (I : List Rc → List Hp → List MP → Prop)
    (hI : ∀ pre H R, I pre H R → H[p]? = some (.blk b1 [.int .i64 (half : Int)] 3) ∧ H[q]? = some (.blk b2 [.slice A xs.length c] 33) ∧ Sl (.slice A xs.length c) xs ∈ R)
    (hmono : ∀ pre H R R', I pre H R → (∀ z ∈ R, z ∈ R') → I pre H R')
    (hy : ∀ pre (x : Rc) A' c' H R, I pre H R → pre.length ≤ 600000 → x.ok → Sl (.slice A' x.data.length c') x.data ∈ R → YK Try.prog w0 l (rcV A' c' x) H R (fun v H' R' => v = .bool true ∧ I (pre ++ [x]) H' R' ∧ ∀ z ∈ R, z ∈ R'))
    (h0 : I [] H R)
    (k : ∀ H' R', I (recsB xs half) H' R' → K (.tuple #[]) H' R') : CallsK Try.prog w0 120 #[.func (.yield l) #[] #[], .pointer (some ⟨b1, 0, none⟩), .pointer (some ⟨b2, 0, none⟩)] H R K := by
  obtain ⟨hi, hj, hm⟩ := hI _ _ _ h0
  have hp1 : 0 ≤ (half : Int) * (xs.length : Int) ∧ (half : Int) * (xs.length : Int) ≤ 600000 := by
    rcases (show half = 0 ∨ half = 1 by omega) with rfl | rfl <;> simp <;> omega
  have hp2 : 0 ≤ ((half : Int) + 1) * (xs.length : Int) ∧ ((half : Int) + 1) * (xs.length : Int) ≤ 1200000 := by
    rcases (show half = 0 ∨ half = 1 by omega) with rfl | rfl <;> simp <;> omega
  have hlim : (half + 1) * xs.length / 2 ≤ xs.length ∧ half * xs.length / 2 ≤ (half + 1) * xs.length / 2 := by
    rcases (show half = 0 ∨ half = 1 by omega) with rfl | rfl <;> simp <;> omega
  refine calls_of Try.func120 rfl Try.ntmps120 nep ?_
  apply TC_seq
  refine TC_draw mixed (by decide +kernel) (fun _ _ _ _ _ _ h => h) (List.Sublist.refl _) ?_
  all_goals ((refine TA_p 0 ?_; ((refine pw_load (i := p) rfl hi rfl ?_)); refine TA_nv ?_))
  all_goals ((refine TA_p 1 ?_; ((refine pw_load (i := q) rfl hj rfl ?_)); refine TA_nv ?_))
  all_goals ((refine TA_p 2 ?_; ((refine pw_len rfl ?_)); refine TA_nv ?_))
  all_goals ((refine TA_p 3 ?_; ((refine pw_mul64 rfl rfl (by omega) (by omega) ?_)); refine TA_nv ?_))
  all_goals ((refine TA_p 4 ?_; ((refine pw_quo rfl rfl (by omega) (by omega) (by omega) ?_)); refine TA_nv ?_))
  all_goals ((refine TA_p 5 ?_; ((refine pw_load (i := p) rfl hi rfl ?_)); refine TA_nv ?_))
  all_goals ((refine TA_p 6 ?_; ((refine pw_add64 rfl rfl (by omega) (by omega) ?_)); refine TA_nv ?_))
  all_goals ((refine TA_p 7 ?_; ((refine pw_load (i := q) rfl hj rfl ?_)); refine TA_nv ?_))
  all_goals ((refine TA_p 8 ?_; ((refine pw_len rfl ?_)); refine TA_nv ?_))
  all_goals ((refine TA_p 9 ?_; ((refine pw_mul64 rfl rfl (by omega) (by omega) ?_)); refine TA_nv ?_))
  all_goals ((refine TA_p 10 ?_; ((refine pw_quo rfl rfl (by omega) (by omega) (by omega) ?_)); refine TA_nv ?_))
  all_goals ((refine TA_p 11 ?_; ((refine pw_as ?_)); refine TA_nv ?_))
  all_goals ((refine TA_p 12 ?_; ((refine pw_as ?_)); refine TA_nv ?_))
  all_goals refine TA_d ?_
  repeat' (first | (apply TC_seq) | (apply TC_region) | (apply TC_block) | (apply T_nil) | (apply En_then) | (refine T_pure rfl rfl ?_; ((refine pw_as ?_)); refine T_nv ?_))
  generalize hL : (half + 1) * xs.length / 2 = limit at hlim
  have hL' : ((half : Int) + 1) * (xs.length : Int) / 2 = (limit : Int) := by rw [← hL]; push_cast; rfl
  rw [hL']
  refine TC_loopS [4, 6, 7, 8, 9, 21, 22, 23, 24, 25, 26, 27, 28, 29, 30, 31, 32, 33, 34, 35, 36, 37, 38, 39, 40, 41, 42, 43, 44, 45, 46, 47, 48, 49, 50, 51, 52, 53, 54, 55, 56, 57] (fun m j H' R' => ∃ pre at_ ep, I pre H' R' ∧ j 4 = .int .i64 ((at_ : Nat) : Int) ∧ j 6 = .int .i64 (epI ep) ∧ j 7 = .int .i64 ((pre.length : Nat) : Int) ∧ at_ ≤ limit ∧ limit < at_ + m ∧ pre.length ≤ at_ ∧ (∀ e, ep = some e → e < 4294967296) ∧ pre ++ recL xs limit m at_ pre.length ep = recsB xs half) (xs.length + 1) sjp ⟨[], half * xs.length / 2, none, h0, ?_, rfl, rfl, by omega, by omega, Nat.zero_le _, (fun e he => by cases he), by rw [← hL]; rfl⟩ ?_
  · show Value.int .i64 _ = _
    refine congrArg _ ?_
    push_cast; rfl
  rintro m j H' R' ⟨pre, at_, ep, hIp, h4, h6, h7, hal, hlm, hpl, hep, hrec⟩
  refine TC_env (by simp only [setJ, List.foldl_cons, List.foldl_nil, List.set_cons_succ, List.set_cons_zero, h4, h6, h7]; rfl) ?_
  obtain ⟨hi', hj', hm'⟩ := hI _ _ _ hIp
  have HR := Go.Lib.hid hrec
  have HE := Go.Lib.hid hep
  clear hrec hep
  obtain ⟨⟨r, is⟩, hra⟩ : ∃ x, recA xs at_ limit = x := ⟨_, rfl⟩
  have hok := @recA_ok xs at_ limit (by omega)
  rw [hra] at hok
  simp only at hok
  have hfin : ∀ H2 R2, I pre H2 R2 → recL xs limit m at_ pre.length ep = [] → K (.tuple #[]) H2 R2 := fun H2 R2 h1 h2 => by
    have := HR.out
    rw [h2, List.append_nil] at this
    exact k _ _ (this ▸ h1)
  cases is
  · skip
    repeat' (first | (refine T_pure rfl rfl ?_; refine pw_load (i := q) rfl hj' rfl ?_; refine T_nv ?_) | (refine T_ow rfl ?_; refine ow_callf arp ?_; refine recordAt_k A c xs at_ limit hb hal (by omega) hm' (KRc_eq hra.symm (fun A' c' => ?_)); dsimp only; refine T_nv ?_) | (apply TC_seq) | (apply TC_region) | (apply TC_block) | (apply TC_ret) | (apply TC_cond_true; exact rfl) | (apply T_nil) | (apply En_then) | (apply En_then_ret) | (apply En_block_ret) | (apply T_store; exact rfl; ((refine gw_store (i := 0) rfl clp rfl (by rfl) (by simp) (by simp [Value.oneCell']) ?_)); refine T_nv ?_; refine T_hq ?_) | (refine T_pure rfl rfl ?_; ((first | refine pw_mv ?_ | refine pw_as ?_ | refine pw_pick_t rfl evp ?_ | refine pw_extract rfl rfl ?_ | refine pw_not rfl ?_)); refine T_nv ?_) | (refine T_skipped rfl ?_; refine T_nv ?_) | (refine T_gen rfl rfl ?_; ((refine gw_alloc clp (fun b => ?_))); refine T_nv ?_))
    refine En_fin (.inl rfl) (res0 rfl) (fin_K H' R' (fun w hs => hs.weaken sbp kpp) (hfin _ _ hIp (recL_no (by rw [hra]; simp))))
  · obtain ⟨hrok, hrat, hrs, hrs2⟩ := hok rfl
    repeat' (first | (refine T_pure rfl rfl ?_; refine pw_load (i := q) rfl hj' rfl ?_; refine T_nv ?_) | (refine T_ow rfl ?_; refine ow_callf arp ?_; refine recordAt_k A c xs at_ limit hb hal (by omega) hm' (KRc_eq hra.symm (fun A' c' => ?_)); dsimp only; refine T_nv ?_) | (apply TC_seq) | (apply TC_region) | (apply TC_block) | (apply TC_ret) | (apply TC_cond_true; exact rfl) | (apply T_nil) | (apply En_then) | (apply En_then_ret) | (apply En_block_ret) | (apply T_load; exact rfl; ((refine pw_load (i := 0) rfl rfl rfl ?_)); refine T_nv ?_) | (apply T_bin; exact rfl; ((first | refine pw_geq rfl rfl (fun h => ?_) (fun h => ?_) | refine pw_neq rfl rfl (fun h => ?_) (fun h => ?_))) <;> (refine T_nv ?_)) | (apply T_store; exact rfl; ((refine gw_store (i := 0) rfl clp rfl (by rfl) (by simp) (by simp [Value.oneCell']) ?_)); refine T_nv ?_; refine T_hq ?_) | (refine T_pure rfl rfl ?_; ((first | refine pw_mv ?_ | refine pw_as ?_ | refine pw_pick_t rfl evp ?_ | refine pw_pick_f rfl evp ?_ | refine pw_fieldAddr rfl ?_ | refine pw_extract rfl rfl ?_ | refine pw_not rfl ?_)); refine T_nv ?_) | (refine T_skipped rfl ?_; refine T_nv ?_) | (refine T_gen rfl rfl ?_; ((refine gw_alloc clp (fun b => ?_))); refine T_nv ?_))
    · refine En_fin (.inl rfl) (res0 rfl) (fin_K H' (Sl (Value.slice A' r.data.length c') r.data :: R') (fun w hs => hs.weaken sbp kpp) (hfin _ _ (hmono _ _ _ _ hIp kpp) (recL_no (by rw [hra]; intro hc; have := hc.2.1; simp only at this; omega))))
    · refine En_fin (.inl rfl) (res0 rfl) (fin_K H' (Sl (Value.slice A' r.data.length c') r.data :: R') (fun w hs => hs.weaken sbp kpp) (hfin _ _ (hmono _ _ _ _ hIp kpp) (recL_no (by rw [hra]; intro hc; exact epI_ne (by assumption) (by assumption) hc.2.2))))
    all_goals
      have hcond : (recA xs at_ limit).2 = true ∧ (recA xs at_ limit).1.seq = pre.length ∧ (∀ e, ep = some e → (recA xs at_ limit).1.epoch = e) := by
        rw [hra]
        refine ⟨rfl, by simp only; omega, ?_⟩
        (first | exact epI_eq (by assumption) | (intro e he; have := epI_ge (ep := ep) (by assumption); rw [this] at he; cases he))
      have HC := Go.Lib.hid hcond
      clear hcond
      refine T_freeze 0 rfl ?_
      refine T_hq ?_
      refine T_ow rfl ?_
      refine ow_yield rfl rfl (YK_mono (hy pre r A' c' H' _ (hmono _ _ _ _ hIp kpp) (by omega) hrok memt) ?_)
      rintro v H2 R2 ⟨rfl, hI2, hR2⟩
      refine T_nv ?_
      have hat : At b 0 [.int .i64 (r.at_ : Int), .int .i64 (r.epoch : Int), .int .i64 (r.seq : Int), .slice A' r.data.length c'] ∈ R2 := hR2 _ memt
      clear hR2
      repeat' (first | (apply TC_skip) | (apply TC_cond_false; exact rfl) | (apply T_nil) | (apply En_then) | (refine T_pure rfl rfl ?_; ((first | refine pw_pick_f rfl evp ?_ | refine pw_not rfl ?_)); refine T_nv ?_))
      refine TC_draw mixed (by decide +kernel) (fun _ _ _ _ _ _ h => h) (List.Sublist.refl _) ?_
      all_goals ((refine TA_p 0 ?_; ((refine pw_fieldAddr rfl ?_)); refine TA_nv ?_))
      all_goals ((refine TA_p 1 ?_; ((refine pw_load_at rfl hat rfl ?_)); refine TA_nv ?_))
      all_goals ((refine TA_p 2 ?_; ((refine pw_load_at0 rfl hat rfl ?_)); refine TA_nv ?_))
      -- left: [3, 4, 5]; ready: [3]: ['call']
      refine TA_o 3 ?_
      refine ow_callf arp ?_; refine end_k A' c' r (by have := hrok.1; omega) ?_
      refine ⟨.inl (fun w hs => hs.weaken sbp kpp), ?_⟩; refine TA_nv ?_
      all_goals ((refine TA_p 4 ?_; ((refine pw_as ?_)); refine TA_nv ?_))
      all_goals ((refine TA_p 5 ?_; ((refine pw_as ?_)); refine TA_nv ?_))
      all_goals refine TA_d ?_
      repeat' (first | (apply TC_region) | (apply T_nil) | (apply En_then) | (apply En_block) | (apply T_bin; exact rfl; ((refine pw_add64 rfl rfl (by omega) (by omega) ?_)); refine T_nv ?_) | (refine T_pure rfl rfl ?_; ((first | refine pw_mv ?_ | refine pw_as ?_)); refine T_nv ?_))
      refine En_backS (m - 1) H2 R2 (by omega) sjp ⟨pre ++ [r], r.stop, some r.epoch, hI2, rfl, rfl, ?_, by omega, by omega, ?_, ?_, ?_⟩ (fun w hs => hs.weaken sbp kpp)
      · simp
      · simp; omega
      · intro e he; cases he; exact hrok.2.1
      · rw [← HR.out, recL_yes (by omega) HC.out, hra]; simp
end Go.Proofs.Ytggdljhmbckpmaa
