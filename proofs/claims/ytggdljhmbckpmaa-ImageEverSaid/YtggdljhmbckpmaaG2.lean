/- The examples: walk. -/
import Derived.Test.YtggdljhmbckpmaaG1
set_option linter.unusedVariables false
set_option linter.unusedSimpArgs false
namespace Go.Proofs.Ytggdljhmbckpmaa
open Go Go.RowKit
set_option maxRecDepth 100000
set_option maxHeartbeats 8000000

theorem sane_k {w0 : World} {H : List Hp} {R : List MP} {K : Value → List Hp → List MP → Prop} (k : K (.bool true) H R) : CallsK Try.prog w0 10 #[] H R K := by
  refine calls_of Try.func10 rfl Try.ntmps10 nep ?_
  repeat' (first | (apply TC_seq) | (apply TC_region) | (apply T_nil) | (apply En_then) | (refine T_pure rfl rfl ?_; ((first | refine pw_as ?_ | refine pw_build bldp ?_)); refine T_nv ?_))
  refine T_ow rfl ?_; refine ow_callf arp ?_; refine encode0_k (KB_lit encZ 0 rfl (n := 19) rfl (fun Ab cb => ?_)); refine T_nv ?_
  repeat' (first | (apply TC_seq) | (apply TC_region) | (apply T_nil) | (apply En_then) | (refine T_pure rfl rfl ?_; ((first | refine pw_mv ?_ | refine pw_as ?_ | refine pw_extract rfl rfl ?_)); refine T_nv ?_) | (refine T_gen rfl rfl ?_; ((refine gw_buildSlice (by decide) prtp rfl (fun b => ?_))); refine T_nv ?_))
  refine T_bytes [109, 97, 2] rfl (by decide) ?_
  refine T_ow rfl ?_; refine ow_callf arp ?_; refine decode_bad _ _ memt ?_; simp only [machZ]; refine T_nv ?_
  repeat' (first | (apply TC_seq) | (apply TC_region) | (apply T_nil) | (apply En_then) | (apply T_store; exact rfl; ((refine gw_store (i := 0) rfl clp rfl (by rfl) (by simp) (by simp [Value.oneCell']) ?_)); refine T_nv ?_; refine T_hq ?_) | (refine T_pure rfl rfl ?_; ((first | refine pw_mv ?_ | refine pw_as ?_ | refine pw_extract rfl rfl ?_)); refine T_nv ?_) | (refine T_gen rfl rfl ?_; ((refine gw_alloc clp (fun b => ?_))); refine T_nv ?_))
  refine T_ow rfl ?_; refine ow_callf arp ?_; refine newDrive_k 63 (by simp [InI]) (KD_lit exD 1 ex_new63 (fun A1 c1 A2 c2 => ?_)); refine T_nv ?_
  repeat' (first | (apply TC_seq) | (apply TC_region) | (apply T_nil) | (apply En_then) | (apply T_store; exact rfl; ((refine gw_store (i := 0) rfl clp rfl (by rfl) (by simp) (by simp [Value.oneCell']) ?_)); refine T_nv ?_; refine T_hq ?_) | (refine T_pure rfl rfl ?_; ((first | refine pw_mv ?_ | refine pw_as ?_ | refine pw_extract rfl rfl ?_)); refine T_nv ?_) | (refine T_gen rfl rfl ?_; ((refine gw_alloc clp (fun b => ?_))); refine T_nv ?_))
  refine T_ow rfl ?_; refine ow_callf arp ?_; refine newDrive_k 64 (by simp [InI]) (KD_lit exD0 0 ex_new64 (fun A3 c3 A4 c4 => ?_)); refine T_nv ?_
  repeat' (first | (apply TC_seq) | (apply TC_region) | (apply T_nil) | (apply En_then) | (apply T_load; exact rfl; ((refine pw_load (i := 0) rfl rfl rfl ?_)); refine T_nv ?_) | (apply T_store; exact rfl; ((refine gw_store (i := 0) rfl clp rfl (by rfl) (by simp) (by simp [Value.oneCell']) ?_)); refine T_nv ?_; refine T_hq ?_) | (refine T_pure rfl rfl ?_; ((first | refine pw_mv ?_ | refine pw_as ?_ | refine pw_extract rfl rfl ?_)); refine T_nv ?_) | (refine T_gen rfl rfl ?_; ((refine gw_alloc clp (fun b => ?_))); refine T_nv ?_))
  revert b
  intro b8
  refine T_ow rfl ?_; refine ow_callf arp ?_; refine records_k A3 c3 A4 c4 exD0 (by rw [ex_len0.1]; decide) (by rw [ex_len0.2]; decide) memt memt (KR_lit [] 0 ex_rec (n := 0) rfl (fun A5 c5 => ?_)); refine T_nv ?_
  repeat' (first | (apply T_bin; exact rfl; refine pw_neq rfl rfl (fun h => absurd rfl h) (fun _ => ?_); refine T_nv ?_) | (refine T_pure rfl rfl ?_; refine pw_index_b (v := .slice _ 19 _) (xs := encZ) rfl rfl memx rfl (by decide) (fun b o => ?_); refine T_nv ?_) | (apply TC_seq) | (apply TC_region) | (apply TC_skip) | (apply TC_cond_false; exact rfl) | (apply T_nil) | (apply En_then) | (apply T_load; exact rfl; ((first | refine pw_load (i := 0) rfl rfl rfl ?_ | refine pw_load_at0 rfl memr rfl ?_)); refine T_nv ?_) | (refine T_pure rfl rfl ?_; ((first | refine pw_mv ?_ | refine pw_as ?_ | refine pw_pick_f rfl evp ?_ | refine pw_len rfl ?_ | refine pw_extract rfl rfl ?_)); refine T_nv ?_) | (refine T_gen rfl rfl ?_; ((refine gw_buildSlice (by decide) prtp rfl (fun b => ?_))); refine T_nv ?_))
  refine T_bytes [7] rfl (by decide) ?_
  refine T_ow rfl ?_; refine ow_callf arp ?_; refine append_k A3 c3 A4 c4 _ _ exD0 [7] (by rw [ex_len0.1]; decide) (by rw [ex_len0.2]; decide) (by decide) memt memt memt (KO_lit exO1 0 ex_app1 (n := 6) rfl (fun A6 c6 => ?_)); refine T_nv ?_
  repeat' (first | (apply T_bin; exact rfl; refine pw_neq rfl rfl (fun h => absurd rfl h) (fun _ => ?_); refine T_nv ?_) | (refine T_pure rfl rfl ?_; refine pw_index_op (xs := exO1) rfl rfl memx rfl (by decide) (fun b o A c h1 h2 h3 => ?_); refine T_nv ?_) | (refine T_pure rfl rfl ?_; refine pw_index_b (v := .slice _ 22 _) (xs := exR1) rfl rfl memx rfl (by decide) (fun b o => ?_); refine T_nv ?_) | (refine T_pure rfl rfl ?_; refine pw_index_b (v := .slice _ 1 _) (xs := [167]) rfl rfl memx rfl (by decide) (fun b o => ?_); refine T_nv ?_) | (apply TC_seq) | (apply TC_region) | (apply TC_skip) | (apply TC_cond_false; exact rfl) | (apply T_nil) | (apply En_then) | (apply T_load; exact rfl; ((first | refine pw_load (i := 0) rfl rfl rfl ?_ | refine pw_load_at rfl memr rfl ?_ | refine pw_load_at0 rfl memr rfl ?_)); refine T_nv ?_) | (refine T_pure rfl rfl ?_; ((first | refine pw_mv ?_ | refine pw_as ?_ | refine pw_pick_f rfl evp ?_ | refine pw_fieldAddr rfl ?_ | refine pw_len rfl ?_ | refine pw_extract rfl rfl ?_)); refine T_nv ?_))
  refine T_ow rfl ?_; refine ow_callf arp ?_; refine done_k A3 c3 A4 c4 A6 6 c6 exD0 exO1 rfl (by rw [ex_len0.1]; decide) (by rw [ex_len0.2]; decide) (by decide) memt memt memt (show KD1 _ exD1 _ _ from fun A7 c7 A8 c8 => ?_); refine T_nv ?_
  repeat' (first | (apply TC_seq) | (apply TC_region) | (apply T_nil) | (apply En_then) | (apply T_load; exact rfl; ((refine pw_load (i := 0) rfl rfl rfl ?_)); refine T_nv ?_) | (apply T_store; exact rfl; ((refine gw_store (i := 0) rfl clp rfl (by rfl) (by simp) (by simp [Value.oneCell']) ?_)); refine T_nv ?_; refine T_hq ?_) | (refine T_gen rfl rfl ?_; ((refine gw_buildSlice (by decide) prtp rfl (fun b => ?_))); refine T_nv ?_))
  refine T_bytes [1, 2, 3] rfl (by decide) ?_
  refine T_ow rfl ?_; refine ow_callf arp ?_; refine append_k A7 c7 A8 c8 _ _ exD1 [1, 2, 3] (by rw [ex_len1.1]; decide) (by rw [ex_len1.2]; decide) (by decide) memt memt memt (KO_lit exO2 0 ex_app2 (n := 6) rfl (fun A9 c9 => ?_)); refine T_nv ?_
  repeat' (first | (apply T_bin; exact rfl; refine pw_neq rfl rfl (fun h => absurd rfl h) (fun _ => ?_); refine T_nv ?_) | (refine T_pure rfl rfl ?_; refine pw_index_op (xs := exO2) rfl rfl memx rfl (by decide) (fun b o A c h1 h2 h3 => ?_); refine T_nv ?_) | (refine T_pure rfl rfl ?_; refine pw_index_b (v := .slice _ 24 _) (xs := exR2) rfl rfl memx rfl (by decide) (fun b o => ?_); refine T_nv ?_) | (apply TC_seq) | (apply TC_region) | (apply TC_skip) | (apply TC_cond_false; exact rfl) | (apply T_nil) | (apply En_then) | (apply T_load; exact rfl; ((first | refine pw_load_at rfl memr rfl ?_ | refine pw_load_at0 rfl memr rfl ?_)); refine T_nv ?_) | (refine T_pure rfl rfl ?_; ((first | refine pw_mv ?_ | refine pw_as ?_ | refine pw_pick_f rfl evp ?_ | refine pw_fieldAddr rfl ?_ | refine pw_len rfl ?_ | refine pw_extract rfl rfl ?_)); refine T_nv ?_))
  refine TC_weaken (.blk b8 [.slice A7 exD1.bytes.length c7, .slice A8 exD1.pending.length c8] 45 :: H) (dvR A7 c7 A8 c8 exD1 (Sl (.slice A9 6 c9) exO2 :: R)) (fun w hs => hs.weaken sbp kpp) ?_
  refine TC_draw mixed (by decide +kernel) (fun _ _ _ _ _ _ h => h) sbp ?_
  all_goals ((refine TA_ps 0 sbp ?_; ((refine pw_load (i := 0) rfl rfl rfl ?_)); refine TA_nv ?_))
  all_goals ((refine TA_ps 1 sbp ?_; ((refine pw_mv ?_)); refine TA_nv ?_))
  all_goals ((refine TA_ps 2 sbp ?_; ((refine pw_slice_sl (xs := exO2) rfl memt rfl rfl rfl rfl (by decide) (by decide) (by decide) (fun A10 c10 => ?_))); refine TA_nv ?_))
  -- left: [3, 4, 5, 6, 7, 8, 9, 10, 11]; ready: [3, 4, 9]: ['call', 'buildSlice', 'alloc']
  refine cutD (G := ?G15) ?ha15 ?hb15
  case ha15 =>
    intro hG
    refine TA_common _ (List.Sublist.refl _) kpp ?_
    refine TA_3 3 4 9 ?_ ?_ ?_
    · skip
      refine ow_callf arp ?_; refine done_k A7 c7 A8 c8 A10 _ c10 exD1 ((exO2.take (5 : Int).toNat).drop (0 : Int).toNat) rfl (by rw [ex_len1.1]; decide) (by rw [ex_len1.2]; decide) (by decide) memt memt memt (show KD1 _ exD2 _ _ from fun Ad cd Ad2 cd2 => ?_)
      refine ⟨.inl (fun w hs => hs.weaken sbp kpp), ?_⟩; refine TA_nv ?_
      refine TA_2 4 9 ?_ ?_
      · skip
        refine GW.ow rfl ?_; refine gw_buildSlice (by decide) prtp rfl (fun bB => ?_)
        refine ⟨.inl (fun w hs => hs.weaken sbp kpp), ?_⟩; refine TA_nv ?_
        refine TA_pre (fun w hs => hs.ints_stay [0] rfl (by intro x hx; simp at hx; subst hx; simp [InI]) (by decide)) ?_
        refine TA_2 5 9 ?_ ?_
        · skip
          refine ow_callf arp ?_; refine crash_k Ad cd Ad2 cd2 _ _ exD2 [0] (by rw [ex_len2.1]; decide) (by rw [ex_len2.2]; decide) (by decide) memt memt memt (KD_lit exX 0 ex_crash0 (fun Au cu Au2 cu2 => ?_))
          refine ⟨.inl (fun w hs => hs.weaken sbp kpp), ?_⟩; refine TA_nv ?_
          refine TA_common _ (List.Sublist.refl _) kpp ?_
          all_goals (refine TA_ps 6 sbp ?_; ((refine pw_mv ?_)); refine TA_nv ?_)
          all_goals (refine TA_ps 7 sbp ?_; ((refine pw_extract rfl rfl ?_)); refine TA_nv ?_)
          all_goals (refine TA_ps 8 sbp ?_; ((refine pw_extract rfl rfl ?_)); refine TA_nv ?_)
          refine TA_o 9 ?_
          refine GW.ow rfl ?_; refine gw_alloc clp (fun bZ => ?_)
          refine ⟨.inl (fun w hs => hs.weaken sbp kpp), ?_⟩; refine TA_nv ?_
          refine TA_pre (H' := .blk bZ [.slice none 0 0, .slice none 0 0] 45 :: .blk b8 [.slice A7 exD1.bytes.length c7, .slice A8 exD1.pending.length c8] 45 :: H) (R' := dvR Au cu Au2 cu2 exX (dvR Ad cd Ad2 cd2 exD2 (Sl (.slice (some ⟨bB, 0, none⟩) ([0] : List Int).length ([0] : List Int).length) ([0] : List Int) :: Sl (.slice A10 ((5 : Int).toNat - (0 : Int).toNat) c10) ((exO2.take (5 : Int).toNat).drop (0 : Int).toNat) :: dvR A7 c7 A8 c8 exD1 (Sl (.slice A9 6 c9) exO2 :: R)))) (fun w hs => hs.weaken sbp kpp) ?_
          refine TA_common _ (List.Sublist.refl _) kpp ?_
          exact hG Ad cd Ad2 cd2 bB bZ Au cu Au2 cu2
        · skip
          refine GW.ow rfl ?_; refine gw_alloc clp (fun bZ => ?_)
          refine ⟨.inl (fun w hs => hs.weaken sbp kpp), ?_⟩; refine TA_nv ?_
          refine TA_o 5 ?_
          refine ow_callf arp ?_; refine crash_k Ad cd Ad2 cd2 _ _ exD2 [0] (by rw [ex_len2.1]; decide) (by rw [ex_len2.2]; decide) (by decide) memt memt memt (KD_lit exX 0 ex_crash0 (fun Au cu Au2 cu2 => ?_))
          refine ⟨.inl (fun w hs => hs.weaken sbp kpp), ?_⟩; refine TA_nv ?_
          refine TA_common _ (List.Sublist.refl _) kpp ?_
          all_goals (refine TA_ps 6 sbp ?_; ((refine pw_mv ?_)); refine TA_nv ?_)
          all_goals (refine TA_ps 7 sbp ?_; ((refine pw_extract rfl rfl ?_)); refine TA_nv ?_)
          all_goals (refine TA_ps 8 sbp ?_; ((refine pw_extract rfl rfl ?_)); refine TA_nv ?_)
          refine TA_pre (H' := .blk bZ [.slice none 0 0, .slice none 0 0] 45 :: .blk b8 [.slice A7 exD1.bytes.length c7, .slice A8 exD1.pending.length c8] 45 :: H) (R' := dvR Au cu Au2 cu2 exX (dvR Ad cd Ad2 cd2 exD2 (Sl (.slice (some ⟨bB, 0, none⟩) ([0] : List Int).length ([0] : List Int).length) ([0] : List Int) :: Sl (.slice A10 ((5 : Int).toNat - (0 : Int).toNat) c10) ((exO2.take (5 : Int).toNat).drop (0 : Int).toNat) :: dvR A7 c7 A8 c8 exD1 (Sl (.slice A9 6 c9) exO2 :: R)))) (fun w hs => hs.weaken sbp kpp) ?_
          refine TA_common _ (List.Sublist.refl _) kpp ?_
          exact hG Ad cd Ad2 cd2 bB bZ Au cu Au2 cu2
      · skip
        refine GW.ow rfl ?_; refine gw_alloc clp (fun bZ => ?_)
        refine ⟨.inl (fun w hs => hs.weaken sbp kpp), ?_⟩; refine TA_nv ?_
        refine TA_o 4 ?_
        refine GW.ow rfl ?_; refine gw_buildSlice (by decide) prtp rfl (fun bB => ?_)
        refine ⟨.inl (fun w hs => hs.weaken sbp kpp), ?_⟩; refine TA_nv ?_
        refine TA_pre (fun w hs => hs.ints_stay [0] rfl (by intro x hx; simp at hx; subst hx; simp [InI]) (by decide)) ?_
        refine TA_o 5 ?_
        refine ow_callf arp ?_; refine crash_k Ad cd Ad2 cd2 _ _ exD2 [0] (by rw [ex_len2.1]; decide) (by rw [ex_len2.2]; decide) (by decide) memt memt memt (KD_lit exX 0 ex_crash0 (fun Au cu Au2 cu2 => ?_))
        refine ⟨.inl (fun w hs => hs.weaken sbp kpp), ?_⟩; refine TA_nv ?_
        refine TA_common _ (List.Sublist.refl _) kpp ?_
        all_goals (refine TA_ps 6 sbp ?_; ((refine pw_mv ?_)); refine TA_nv ?_)
        all_goals (refine TA_ps 7 sbp ?_; ((refine pw_extract rfl rfl ?_)); refine TA_nv ?_)
        all_goals (refine TA_ps 8 sbp ?_; ((refine pw_extract rfl rfl ?_)); refine TA_nv ?_)
        refine TA_pre (H' := .blk bZ [.slice none 0 0, .slice none 0 0] 45 :: .blk b8 [.slice A7 exD1.bytes.length c7, .slice A8 exD1.pending.length c8] 45 :: H) (R' := dvR Au cu Au2 cu2 exX (dvR Ad cd Ad2 cd2 exD2 (Sl (.slice (some ⟨bB, 0, none⟩) ([0] : List Int).length ([0] : List Int).length) ([0] : List Int) :: Sl (.slice A10 ((5 : Int).toNat - (0 : Int).toNat) c10) ((exO2.take (5 : Int).toNat).drop (0 : Int).toNat) :: dvR A7 c7 A8 c8 exD1 (Sl (.slice A9 6 c9) exO2 :: R)))) (fun w hs => hs.weaken sbp kpp) ?_
        refine TA_common _ (List.Sublist.refl _) kpp ?_
        exact hG Ad cd Ad2 cd2 bB bZ Au cu Au2 cu2
    · skip
      refine GW.ow rfl ?_; refine gw_buildSlice (by decide) prtp rfl (fun bB => ?_)
      refine ⟨.inl (fun w hs => hs.weaken sbp kpp), ?_⟩; refine TA_nv ?_
      refine TA_pre (fun w hs => hs.ints_stay [0] rfl (by intro x hx; simp at hx; subst hx; simp [InI]) (by decide)) ?_
      refine TA_2 3 9 ?_ ?_
      · skip
        refine ow_callf arp ?_; refine done_k A7 c7 A8 c8 A10 _ c10 exD1 ((exO2.take (5 : Int).toNat).drop (0 : Int).toNat) rfl (by rw [ex_len1.1]; decide) (by rw [ex_len1.2]; decide) (by decide) memt memt memt (show KD1 _ exD2 _ _ from fun Ad cd Ad2 cd2 => ?_)
        refine ⟨.inl (fun w hs => hs.weaken sbp kpp), ?_⟩; refine TA_nv ?_
        refine TA_2 5 9 ?_ ?_
        · skip
          refine ow_callf arp ?_; refine crash_k Ad cd Ad2 cd2 _ _ exD2 [0] (by rw [ex_len2.1]; decide) (by rw [ex_len2.2]; decide) (by decide) memt memt memt (KD_lit exX 0 ex_crash0 (fun Au cu Au2 cu2 => ?_))
          refine ⟨.inl (fun w hs => hs.weaken sbp kpp), ?_⟩; refine TA_nv ?_
          refine TA_common _ (List.Sublist.refl _) kpp ?_
          all_goals (refine TA_ps 6 sbp ?_; ((refine pw_mv ?_)); refine TA_nv ?_)
          all_goals (refine TA_ps 7 sbp ?_; ((refine pw_extract rfl rfl ?_)); refine TA_nv ?_)
          all_goals (refine TA_ps 8 sbp ?_; ((refine pw_extract rfl rfl ?_)); refine TA_nv ?_)
          refine TA_o 9 ?_
          refine GW.ow rfl ?_; refine gw_alloc clp (fun bZ => ?_)
          refine ⟨.inl (fun w hs => hs.weaken sbp kpp), ?_⟩; refine TA_nv ?_
          refine TA_pre (H' := .blk bZ [.slice none 0 0, .slice none 0 0] 45 :: .blk b8 [.slice A7 exD1.bytes.length c7, .slice A8 exD1.pending.length c8] 45 :: H) (R' := dvR Au cu Au2 cu2 exX (dvR Ad cd Ad2 cd2 exD2 (Sl (.slice (some ⟨bB, 0, none⟩) ([0] : List Int).length ([0] : List Int).length) ([0] : List Int) :: Sl (.slice A10 ((5 : Int).toNat - (0 : Int).toNat) c10) ((exO2.take (5 : Int).toNat).drop (0 : Int).toNat) :: dvR A7 c7 A8 c8 exD1 (Sl (.slice A9 6 c9) exO2 :: R)))) (fun w hs => hs.weaken sbp kpp) ?_
          refine TA_common _ (List.Sublist.refl _) kpp ?_
          exact hG Ad cd Ad2 cd2 bB bZ Au cu Au2 cu2
        · skip
          refine GW.ow rfl ?_; refine gw_alloc clp (fun bZ => ?_)
          refine ⟨.inl (fun w hs => hs.weaken sbp kpp), ?_⟩; refine TA_nv ?_
          refine TA_o 5 ?_
          refine ow_callf arp ?_; refine crash_k Ad cd Ad2 cd2 _ _ exD2 [0] (by rw [ex_len2.1]; decide) (by rw [ex_len2.2]; decide) (by decide) memt memt memt (KD_lit exX 0 ex_crash0 (fun Au cu Au2 cu2 => ?_))
          refine ⟨.inl (fun w hs => hs.weaken sbp kpp), ?_⟩; refine TA_nv ?_
          refine TA_common _ (List.Sublist.refl _) kpp ?_
          all_goals (refine TA_ps 6 sbp ?_; ((refine pw_mv ?_)); refine TA_nv ?_)
          all_goals (refine TA_ps 7 sbp ?_; ((refine pw_extract rfl rfl ?_)); refine TA_nv ?_)
          all_goals (refine TA_ps 8 sbp ?_; ((refine pw_extract rfl rfl ?_)); refine TA_nv ?_)
          refine TA_pre (H' := .blk bZ [.slice none 0 0, .slice none 0 0] 45 :: .blk b8 [.slice A7 exD1.bytes.length c7, .slice A8 exD1.pending.length c8] 45 :: H) (R' := dvR Au cu Au2 cu2 exX (dvR Ad cd Ad2 cd2 exD2 (Sl (.slice (some ⟨bB, 0, none⟩) ([0] : List Int).length ([0] : List Int).length) ([0] : List Int) :: Sl (.slice A10 ((5 : Int).toNat - (0 : Int).toNat) c10) ((exO2.take (5 : Int).toNat).drop (0 : Int).toNat) :: dvR A7 c7 A8 c8 exD1 (Sl (.slice A9 6 c9) exO2 :: R)))) (fun w hs => hs.weaken sbp kpp) ?_
          refine TA_common _ (List.Sublist.refl _) kpp ?_
          exact hG Ad cd Ad2 cd2 bB bZ Au cu Au2 cu2
      · skip
        refine GW.ow rfl ?_; refine gw_alloc clp (fun bZ => ?_)
        refine ⟨.inl (fun w hs => hs.weaken sbp kpp), ?_⟩; refine TA_nv ?_
        refine TA_o 3 ?_
        refine ow_callf arp ?_; refine done_k A7 c7 A8 c8 A10 _ c10 exD1 ((exO2.take (5 : Int).toNat).drop (0 : Int).toNat) rfl (by rw [ex_len1.1]; decide) (by rw [ex_len1.2]; decide) (by decide) memt memt memt (show KD1 _ exD2 _ _ from fun Ad cd Ad2 cd2 => ?_)
        refine ⟨.inl (fun w hs => hs.weaken sbp kpp), ?_⟩; refine TA_nv ?_
        refine TA_o 5 ?_
        refine ow_callf arp ?_; refine crash_k Ad cd Ad2 cd2 _ _ exD2 [0] (by rw [ex_len2.1]; decide) (by rw [ex_len2.2]; decide) (by decide) memt memt memt (KD_lit exX 0 ex_crash0 (fun Au cu Au2 cu2 => ?_))
        refine ⟨.inl (fun w hs => hs.weaken sbp kpp), ?_⟩; refine TA_nv ?_
        refine TA_common _ (List.Sublist.refl _) kpp ?_
        all_goals (refine TA_ps 6 sbp ?_; ((refine pw_mv ?_)); refine TA_nv ?_)
        all_goals (refine TA_ps 7 sbp ?_; ((refine pw_extract rfl rfl ?_)); refine TA_nv ?_)
        all_goals (refine TA_ps 8 sbp ?_; ((refine pw_extract rfl rfl ?_)); refine TA_nv ?_)
        refine TA_pre (H' := .blk bZ [.slice none 0 0, .slice none 0 0] 45 :: .blk b8 [.slice A7 exD1.bytes.length c7, .slice A8 exD1.pending.length c8] 45 :: H) (R' := dvR Au cu Au2 cu2 exX (dvR Ad cd Ad2 cd2 exD2 (Sl (.slice (some ⟨bB, 0, none⟩) ([0] : List Int).length ([0] : List Int).length) ([0] : List Int) :: Sl (.slice A10 ((5 : Int).toNat - (0 : Int).toNat) c10) ((exO2.take (5 : Int).toNat).drop (0 : Int).toNat) :: dvR A7 c7 A8 c8 exD1 (Sl (.slice A9 6 c9) exO2 :: R)))) (fun w hs => hs.weaken sbp kpp) ?_
        refine TA_common _ (List.Sublist.refl _) kpp ?_
        exact hG Ad cd Ad2 cd2 bB bZ Au cu Au2 cu2
    · skip
      refine GW.ow rfl ?_; refine gw_alloc clp (fun bZ => ?_)
      refine ⟨.inl (fun w hs => hs.weaken sbp kpp), ?_⟩; refine TA_nv ?_
      refine TA_2 3 4 ?_ ?_
      · skip
        refine ow_callf arp ?_; refine done_k A7 c7 A8 c8 A10 _ c10 exD1 ((exO2.take (5 : Int).toNat).drop (0 : Int).toNat) rfl (by rw [ex_len1.1]; decide) (by rw [ex_len1.2]; decide) (by decide) memt memt memt (show KD1 _ exD2 _ _ from fun Ad cd Ad2 cd2 => ?_)
        refine ⟨.inl (fun w hs => hs.weaken sbp kpp), ?_⟩; refine TA_nv ?_
        refine TA_o 4 ?_
        refine GW.ow rfl ?_; refine gw_buildSlice (by decide) prtp rfl (fun bB => ?_)
        refine ⟨.inl (fun w hs => hs.weaken sbp kpp), ?_⟩; refine TA_nv ?_
        refine TA_pre (fun w hs => hs.ints_stay [0] rfl (by intro x hx; simp at hx; subst hx; simp [InI]) (by decide)) ?_
        refine TA_o 5 ?_
        refine ow_callf arp ?_; refine crash_k Ad cd Ad2 cd2 _ _ exD2 [0] (by rw [ex_len2.1]; decide) (by rw [ex_len2.2]; decide) (by decide) memt memt memt (KD_lit exX 0 ex_crash0 (fun Au cu Au2 cu2 => ?_))
        refine ⟨.inl (fun w hs => hs.weaken sbp kpp), ?_⟩; refine TA_nv ?_
        refine TA_common _ (List.Sublist.refl _) kpp ?_
        all_goals (refine TA_ps 6 sbp ?_; ((refine pw_mv ?_)); refine TA_nv ?_)
        all_goals (refine TA_ps 7 sbp ?_; ((refine pw_extract rfl rfl ?_)); refine TA_nv ?_)
        all_goals (refine TA_ps 8 sbp ?_; ((refine pw_extract rfl rfl ?_)); refine TA_nv ?_)
        refine TA_pre (H' := .blk bZ [.slice none 0 0, .slice none 0 0] 45 :: .blk b8 [.slice A7 exD1.bytes.length c7, .slice A8 exD1.pending.length c8] 45 :: H) (R' := dvR Au cu Au2 cu2 exX (dvR Ad cd Ad2 cd2 exD2 (Sl (.slice (some ⟨bB, 0, none⟩) ([0] : List Int).length ([0] : List Int).length) ([0] : List Int) :: Sl (.slice A10 ((5 : Int).toNat - (0 : Int).toNat) c10) ((exO2.take (5 : Int).toNat).drop (0 : Int).toNat) :: dvR A7 c7 A8 c8 exD1 (Sl (.slice A9 6 c9) exO2 :: R)))) (fun w hs => hs.weaken sbp kpp) ?_
        refine TA_common _ (List.Sublist.refl _) kpp ?_
        exact hG Ad cd Ad2 cd2 bB bZ Au cu Au2 cu2
      · skip
        refine GW.ow rfl ?_; refine gw_buildSlice (by decide) prtp rfl (fun bB => ?_)
        refine ⟨.inl (fun w hs => hs.weaken sbp kpp), ?_⟩; refine TA_nv ?_
        refine TA_pre (fun w hs => hs.ints_stay [0] rfl (by intro x hx; simp at hx; subst hx; simp [InI]) (by decide)) ?_
        refine TA_o 3 ?_
        refine ow_callf arp ?_; refine done_k A7 c7 A8 c8 A10 _ c10 exD1 ((exO2.take (5 : Int).toNat).drop (0 : Int).toNat) rfl (by rw [ex_len1.1]; decide) (by rw [ex_len1.2]; decide) (by decide) memt memt memt (show KD1 _ exD2 _ _ from fun Ad cd Ad2 cd2 => ?_)
        refine ⟨.inl (fun w hs => hs.weaken sbp kpp), ?_⟩; refine TA_nv ?_
        refine TA_o 5 ?_
        refine ow_callf arp ?_; refine crash_k Ad cd Ad2 cd2 _ _ exD2 [0] (by rw [ex_len2.1]; decide) (by rw [ex_len2.2]; decide) (by decide) memt memt memt (KD_lit exX 0 ex_crash0 (fun Au cu Au2 cu2 => ?_))
        refine ⟨.inl (fun w hs => hs.weaken sbp kpp), ?_⟩; refine TA_nv ?_
        refine TA_common _ (List.Sublist.refl _) kpp ?_
        all_goals (refine TA_ps 6 sbp ?_; ((refine pw_mv ?_)); refine TA_nv ?_)
        all_goals (refine TA_ps 7 sbp ?_; ((refine pw_extract rfl rfl ?_)); refine TA_nv ?_)
        all_goals (refine TA_ps 8 sbp ?_; ((refine pw_extract rfl rfl ?_)); refine TA_nv ?_)
        refine TA_pre (H' := .blk bZ [.slice none 0 0, .slice none 0 0] 45 :: .blk b8 [.slice A7 exD1.bytes.length c7, .slice A8 exD1.pending.length c8] 45 :: H) (R' := dvR Au cu Au2 cu2 exX (dvR Ad cd Ad2 cd2 exD2 (Sl (.slice (some ⟨bB, 0, none⟩) ([0] : List Int).length ([0] : List Int).length) ([0] : List Int) :: Sl (.slice A10 ((5 : Int).toNat - (0 : Int).toNat) c10) ((exO2.take (5 : Int).toNat).drop (0 : Int).toNat) :: dvR A7 c7 A8 c8 exD1 (Sl (.slice A9 6 c9) exO2 :: R)))) (fun w hs => hs.weaken sbp kpp) ?_
        refine TA_common _ (List.Sublist.refl _) kpp ?_
        exact hG Ad cd Ad2 cd2 bB bZ Au cu Au2 cu2
  case hb15 =>
    intro Ad cd Ad2 cd2 bB bZx Ax cx Ax2 cx2
    refine TA_common _ (List.Sublist.refl _) kpp ?_
    refine TA_g 10 ?_
    refine gw_store (i := 0) rfl clp rfl (by rfl) (by simp) (by simp [Value.oneCell']) ?_
    refine ⟨.inl (fun w hs => hs.weaken sbp kpp), ?_⟩
    refine TA_nv ?_
    refine TA_hq ?_
    all_goals ((refine TA_ps 11 sbp ?_; ((refine pw_as ?_)); refine TA_nv ?_))
    all_goals refine TA_d ?_
    apply En_then
    refine TC_weaken (.blk bZx [.slice Ax exX.bytes.length cx, .slice Ax2 exX.pending.length cx2] 45 :: .blk b8 [.slice A7 exD1.bytes.length c7, .slice A8 exD1.pending.length c8] 45 :: H) (dvR Ax cx Ax2 cx2 exX (dvR A7 c7 A8 c8 exD1 (Sl (.slice A9 6 c9) exO2 :: R))) (fun w hs => hs.weaken sbp kpp) ?_
    apply TC_seq
    refine TC_draw mixed (by decide +kernel) (fun _ _ _ _ _ _ h => h) sbp ?_
    all_goals ((refine TA_ps 0 sbp ?_; ((refine pw_load (i := 1) rfl rfl rfl ?_)); refine TA_nv ?_))
    all_goals ((refine TA_ps 1 sbp ?_; ((refine pw_mv ?_)); refine TA_nv ?_))
    all_goals ((refine TA_ps 2 sbp ?_; ((refine pw_slice_sl (xs := exO2) rfl memt rfl rfl rfl rfl (by decide) (by decide) (by decide) (fun A10 c10 => ?_))); refine TA_nv ?_))
    -- left: [3, 4, 5, 6, 7, 8, 9, 10, 11]; ready: [3, 4, 9]: ['call', 'buildSlice', 'alloc']
    refine cutD (G := ?G16) ?ha16 ?hb16
    case ha16 =>
      intro hG
      refine TA_common _ (List.Sublist.refl _) kpp ?_
      refine TA_3 3 4 9 ?_ ?_ ?_
      · skip
        refine ow_callf arp ?_; refine done_k A7 c7 A8 c8 A10 _ c10 exD1 ((exO2.take (5 : Int).toNat).drop (0 : Int).toNat) rfl (by rw [ex_len1.1]; decide) (by rw [ex_len1.2]; decide) (by decide) memt memt memt (show KD1 _ exD2 _ _ from fun Ad cd Ad2 cd2 => ?_)
        refine ⟨.inl (fun w hs => hs.weaken sbp kpp), ?_⟩; refine TA_nv ?_
        refine TA_2 4 9 ?_ ?_
        · skip
          refine GW.ow rfl ?_; refine gw_buildSlice (by decide) prtp rfl (fun bB => ?_)
          refine ⟨.inl (fun w hs => hs.weaken sbp kpp), ?_⟩; refine TA_nv ?_
          refine TA_pre (fun w hs => hs.ints_stay [1] rfl (by intro x hx; simp at hx; subst hx; simp [InI]) (by decide)) ?_
          refine TA_2 5 9 ?_ ?_
          · skip
            refine ow_callf arp ?_; refine crash_k Ad cd Ad2 cd2 _ _ exD2 [1] (by rw [ex_len2.1]; decide) (by rw [ex_len2.2]; decide) (by decide) memt memt memt (KD_lit exY 0 ex_crash1 (fun Au cu Au2 cu2 => ?_))
            refine ⟨.inl (fun w hs => hs.weaken sbp kpp), ?_⟩; refine TA_nv ?_
            refine TA_common _ (List.Sublist.refl _) kpp ?_
            all_goals (refine TA_ps 6 sbp ?_; ((refine pw_mv ?_)); refine TA_nv ?_)
            all_goals (refine TA_ps 7 sbp ?_; ((refine pw_extract rfl rfl ?_)); refine TA_nv ?_)
            all_goals (refine TA_ps 8 sbp ?_; ((refine pw_extract rfl rfl ?_)); refine TA_nv ?_)
            refine TA_o 9 ?_
            refine GW.ow rfl ?_; refine gw_alloc clp (fun bZ => ?_)
            refine ⟨.inl (fun w hs => hs.weaken sbp kpp), ?_⟩; refine TA_nv ?_
            refine TA_pre (H' := .blk bZ [.slice none 0 0, .slice none 0 0] 45 :: .blk bZx [.slice Ax exX.bytes.length cx, .slice Ax2 exX.pending.length cx2] 45 :: .blk b8 [.slice A7 exD1.bytes.length c7, .slice A8 exD1.pending.length c8] 45 :: H) (R' := dvR Au cu Au2 cu2 exY (dvR Ad cd Ad2 cd2 exD2 (Sl (.slice (some ⟨bB, 0, none⟩) ([1] : List Int).length ([1] : List Int).length) ([1] : List Int) :: Sl (.slice A10 ((5 : Int).toNat - (0 : Int).toNat) c10) ((exO2.take (5 : Int).toNat).drop (0 : Int).toNat) :: dvR Ax cx Ax2 cx2 exX (dvR A7 c7 A8 c8 exD1 (Sl (.slice A9 6 c9) exO2 :: R))))) (fun w hs => hs.weaken sbp kpp) ?_
            refine TA_common _ (List.Sublist.refl _) kpp ?_
            exact hG Ad cd Ad2 cd2 bB bZ Au cu Au2 cu2
          · skip
            refine GW.ow rfl ?_; refine gw_alloc clp (fun bZ => ?_)
            refine ⟨.inl (fun w hs => hs.weaken sbp kpp), ?_⟩; refine TA_nv ?_
            refine TA_o 5 ?_
            refine ow_callf arp ?_; refine crash_k Ad cd Ad2 cd2 _ _ exD2 [1] (by rw [ex_len2.1]; decide) (by rw [ex_len2.2]; decide) (by decide) memt memt memt (KD_lit exY 0 ex_crash1 (fun Au cu Au2 cu2 => ?_))
            refine ⟨.inl (fun w hs => hs.weaken sbp kpp), ?_⟩; refine TA_nv ?_
            refine TA_common _ (List.Sublist.refl _) kpp ?_
            all_goals (refine TA_ps 6 sbp ?_; ((refine pw_mv ?_)); refine TA_nv ?_)
            all_goals (refine TA_ps 7 sbp ?_; ((refine pw_extract rfl rfl ?_)); refine TA_nv ?_)
            all_goals (refine TA_ps 8 sbp ?_; ((refine pw_extract rfl rfl ?_)); refine TA_nv ?_)
            refine TA_pre (H' := .blk bZ [.slice none 0 0, .slice none 0 0] 45 :: .blk bZx [.slice Ax exX.bytes.length cx, .slice Ax2 exX.pending.length cx2] 45 :: .blk b8 [.slice A7 exD1.bytes.length c7, .slice A8 exD1.pending.length c8] 45 :: H) (R' := dvR Au cu Au2 cu2 exY (dvR Ad cd Ad2 cd2 exD2 (Sl (.slice (some ⟨bB, 0, none⟩) ([1] : List Int).length ([1] : List Int).length) ([1] : List Int) :: Sl (.slice A10 ((5 : Int).toNat - (0 : Int).toNat) c10) ((exO2.take (5 : Int).toNat).drop (0 : Int).toNat) :: dvR Ax cx Ax2 cx2 exX (dvR A7 c7 A8 c8 exD1 (Sl (.slice A9 6 c9) exO2 :: R))))) (fun w hs => hs.weaken sbp kpp) ?_
            refine TA_common _ (List.Sublist.refl _) kpp ?_
            exact hG Ad cd Ad2 cd2 bB bZ Au cu Au2 cu2
        · skip
          refine GW.ow rfl ?_; refine gw_alloc clp (fun bZ => ?_)
          refine ⟨.inl (fun w hs => hs.weaken sbp kpp), ?_⟩; refine TA_nv ?_
          refine TA_o 4 ?_
          refine GW.ow rfl ?_; refine gw_buildSlice (by decide) prtp rfl (fun bB => ?_)
          refine ⟨.inl (fun w hs => hs.weaken sbp kpp), ?_⟩; refine TA_nv ?_
          refine TA_pre (fun w hs => hs.ints_stay [1] rfl (by intro x hx; simp at hx; subst hx; simp [InI]) (by decide)) ?_
          refine TA_o 5 ?_
          refine ow_callf arp ?_; refine crash_k Ad cd Ad2 cd2 _ _ exD2 [1] (by rw [ex_len2.1]; decide) (by rw [ex_len2.2]; decide) (by decide) memt memt memt (KD_lit exY 0 ex_crash1 (fun Au cu Au2 cu2 => ?_))
          refine ⟨.inl (fun w hs => hs.weaken sbp kpp), ?_⟩; refine TA_nv ?_
          refine TA_common _ (List.Sublist.refl _) kpp ?_
          all_goals (refine TA_ps 6 sbp ?_; ((refine pw_mv ?_)); refine TA_nv ?_)
          all_goals (refine TA_ps 7 sbp ?_; ((refine pw_extract rfl rfl ?_)); refine TA_nv ?_)
          all_goals (refine TA_ps 8 sbp ?_; ((refine pw_extract rfl rfl ?_)); refine TA_nv ?_)
          refine TA_pre (H' := .blk bZ [.slice none 0 0, .slice none 0 0] 45 :: .blk bZx [.slice Ax exX.bytes.length cx, .slice Ax2 exX.pending.length cx2] 45 :: .blk b8 [.slice A7 exD1.bytes.length c7, .slice A8 exD1.pending.length c8] 45 :: H) (R' := dvR Au cu Au2 cu2 exY (dvR Ad cd Ad2 cd2 exD2 (Sl (.slice (some ⟨bB, 0, none⟩) ([1] : List Int).length ([1] : List Int).length) ([1] : List Int) :: Sl (.slice A10 ((5 : Int).toNat - (0 : Int).toNat) c10) ((exO2.take (5 : Int).toNat).drop (0 : Int).toNat) :: dvR Ax cx Ax2 cx2 exX (dvR A7 c7 A8 c8 exD1 (Sl (.slice A9 6 c9) exO2 :: R))))) (fun w hs => hs.weaken sbp kpp) ?_
          refine TA_common _ (List.Sublist.refl _) kpp ?_
          exact hG Ad cd Ad2 cd2 bB bZ Au cu Au2 cu2
      · skip
        refine GW.ow rfl ?_; refine gw_buildSlice (by decide) prtp rfl (fun bB => ?_)
        refine ⟨.inl (fun w hs => hs.weaken sbp kpp), ?_⟩; refine TA_nv ?_
        refine TA_pre (fun w hs => hs.ints_stay [1] rfl (by intro x hx; simp at hx; subst hx; simp [InI]) (by decide)) ?_
        refine TA_2 3 9 ?_ ?_
        · skip
          refine ow_callf arp ?_; refine done_k A7 c7 A8 c8 A10 _ c10 exD1 ((exO2.take (5 : Int).toNat).drop (0 : Int).toNat) rfl (by rw [ex_len1.1]; decide) (by rw [ex_len1.2]; decide) (by decide) memt memt memt (show KD1 _ exD2 _ _ from fun Ad cd Ad2 cd2 => ?_)
          refine ⟨.inl (fun w hs => hs.weaken sbp kpp), ?_⟩; refine TA_nv ?_
          refine TA_2 5 9 ?_ ?_
          · skip
            refine ow_callf arp ?_; refine crash_k Ad cd Ad2 cd2 _ _ exD2 [1] (by rw [ex_len2.1]; decide) (by rw [ex_len2.2]; decide) (by decide) memt memt memt (KD_lit exY 0 ex_crash1 (fun Au cu Au2 cu2 => ?_))
            refine ⟨.inl (fun w hs => hs.weaken sbp kpp), ?_⟩; refine TA_nv ?_
            refine TA_common _ (List.Sublist.refl _) kpp ?_
            all_goals (refine TA_ps 6 sbp ?_; ((refine pw_mv ?_)); refine TA_nv ?_)
            all_goals (refine TA_ps 7 sbp ?_; ((refine pw_extract rfl rfl ?_)); refine TA_nv ?_)
            all_goals (refine TA_ps 8 sbp ?_; ((refine pw_extract rfl rfl ?_)); refine TA_nv ?_)
            refine TA_o 9 ?_
            refine GW.ow rfl ?_; refine gw_alloc clp (fun bZ => ?_)
            refine ⟨.inl (fun w hs => hs.weaken sbp kpp), ?_⟩; refine TA_nv ?_
            refine TA_pre (H' := .blk bZ [.slice none 0 0, .slice none 0 0] 45 :: .blk bZx [.slice Ax exX.bytes.length cx, .slice Ax2 exX.pending.length cx2] 45 :: .blk b8 [.slice A7 exD1.bytes.length c7, .slice A8 exD1.pending.length c8] 45 :: H) (R' := dvR Au cu Au2 cu2 exY (dvR Ad cd Ad2 cd2 exD2 (Sl (.slice (some ⟨bB, 0, none⟩) ([1] : List Int).length ([1] : List Int).length) ([1] : List Int) :: Sl (.slice A10 ((5 : Int).toNat - (0 : Int).toNat) c10) ((exO2.take (5 : Int).toNat).drop (0 : Int).toNat) :: dvR Ax cx Ax2 cx2 exX (dvR A7 c7 A8 c8 exD1 (Sl (.slice A9 6 c9) exO2 :: R))))) (fun w hs => hs.weaken sbp kpp) ?_
            refine TA_common _ (List.Sublist.refl _) kpp ?_
            exact hG Ad cd Ad2 cd2 bB bZ Au cu Au2 cu2
          · skip
            refine GW.ow rfl ?_; refine gw_alloc clp (fun bZ => ?_)
            refine ⟨.inl (fun w hs => hs.weaken sbp kpp), ?_⟩; refine TA_nv ?_
            refine TA_o 5 ?_
            refine ow_callf arp ?_; refine crash_k Ad cd Ad2 cd2 _ _ exD2 [1] (by rw [ex_len2.1]; decide) (by rw [ex_len2.2]; decide) (by decide) memt memt memt (KD_lit exY 0 ex_crash1 (fun Au cu Au2 cu2 => ?_))
            refine ⟨.inl (fun w hs => hs.weaken sbp kpp), ?_⟩; refine TA_nv ?_
            refine TA_common _ (List.Sublist.refl _) kpp ?_
            all_goals (refine TA_ps 6 sbp ?_; ((refine pw_mv ?_)); refine TA_nv ?_)
            all_goals (refine TA_ps 7 sbp ?_; ((refine pw_extract rfl rfl ?_)); refine TA_nv ?_)
            all_goals (refine TA_ps 8 sbp ?_; ((refine pw_extract rfl rfl ?_)); refine TA_nv ?_)
            refine TA_pre (H' := .blk bZ [.slice none 0 0, .slice none 0 0] 45 :: .blk bZx [.slice Ax exX.bytes.length cx, .slice Ax2 exX.pending.length cx2] 45 :: .blk b8 [.slice A7 exD1.bytes.length c7, .slice A8 exD1.pending.length c8] 45 :: H) (R' := dvR Au cu Au2 cu2 exY (dvR Ad cd Ad2 cd2 exD2 (Sl (.slice (some ⟨bB, 0, none⟩) ([1] : List Int).length ([1] : List Int).length) ([1] : List Int) :: Sl (.slice A10 ((5 : Int).toNat - (0 : Int).toNat) c10) ((exO2.take (5 : Int).toNat).drop (0 : Int).toNat) :: dvR Ax cx Ax2 cx2 exX (dvR A7 c7 A8 c8 exD1 (Sl (.slice A9 6 c9) exO2 :: R))))) (fun w hs => hs.weaken sbp kpp) ?_
            refine TA_common _ (List.Sublist.refl _) kpp ?_
            exact hG Ad cd Ad2 cd2 bB bZ Au cu Au2 cu2
        · skip
          refine GW.ow rfl ?_; refine gw_alloc clp (fun bZ => ?_)
          refine ⟨.inl (fun w hs => hs.weaken sbp kpp), ?_⟩; refine TA_nv ?_
          refine TA_o 3 ?_
          refine ow_callf arp ?_; refine done_k A7 c7 A8 c8 A10 _ c10 exD1 ((exO2.take (5 : Int).toNat).drop (0 : Int).toNat) rfl (by rw [ex_len1.1]; decide) (by rw [ex_len1.2]; decide) (by decide) memt memt memt (show KD1 _ exD2 _ _ from fun Ad cd Ad2 cd2 => ?_)
          refine ⟨.inl (fun w hs => hs.weaken sbp kpp), ?_⟩; refine TA_nv ?_
          refine TA_o 5 ?_
          refine ow_callf arp ?_; refine crash_k Ad cd Ad2 cd2 _ _ exD2 [1] (by rw [ex_len2.1]; decide) (by rw [ex_len2.2]; decide) (by decide) memt memt memt (KD_lit exY 0 ex_crash1 (fun Au cu Au2 cu2 => ?_))
          refine ⟨.inl (fun w hs => hs.weaken sbp kpp), ?_⟩; refine TA_nv ?_
          refine TA_common _ (List.Sublist.refl _) kpp ?_
          all_goals (refine TA_ps 6 sbp ?_; ((refine pw_mv ?_)); refine TA_nv ?_)
          all_goals (refine TA_ps 7 sbp ?_; ((refine pw_extract rfl rfl ?_)); refine TA_nv ?_)
          all_goals (refine TA_ps 8 sbp ?_; ((refine pw_extract rfl rfl ?_)); refine TA_nv ?_)
          refine TA_pre (H' := .blk bZ [.slice none 0 0, .slice none 0 0] 45 :: .blk bZx [.slice Ax exX.bytes.length cx, .slice Ax2 exX.pending.length cx2] 45 :: .blk b8 [.slice A7 exD1.bytes.length c7, .slice A8 exD1.pending.length c8] 45 :: H) (R' := dvR Au cu Au2 cu2 exY (dvR Ad cd Ad2 cd2 exD2 (Sl (.slice (some ⟨bB, 0, none⟩) ([1] : List Int).length ([1] : List Int).length) ([1] : List Int) :: Sl (.slice A10 ((5 : Int).toNat - (0 : Int).toNat) c10) ((exO2.take (5 : Int).toNat).drop (0 : Int).toNat) :: dvR Ax cx Ax2 cx2 exX (dvR A7 c7 A8 c8 exD1 (Sl (.slice A9 6 c9) exO2 :: R))))) (fun w hs => hs.weaken sbp kpp) ?_
          refine TA_common _ (List.Sublist.refl _) kpp ?_
          exact hG Ad cd Ad2 cd2 bB bZ Au cu Au2 cu2
      · skip
        refine GW.ow rfl ?_; refine gw_alloc clp (fun bZ => ?_)
        refine ⟨.inl (fun w hs => hs.weaken sbp kpp), ?_⟩; refine TA_nv ?_
        refine TA_2 3 4 ?_ ?_
        · skip
          refine ow_callf arp ?_; refine done_k A7 c7 A8 c8 A10 _ c10 exD1 ((exO2.take (5 : Int).toNat).drop (0 : Int).toNat) rfl (by rw [ex_len1.1]; decide) (by rw [ex_len1.2]; decide) (by decide) memt memt memt (show KD1 _ exD2 _ _ from fun Ad cd Ad2 cd2 => ?_)
          refine ⟨.inl (fun w hs => hs.weaken sbp kpp), ?_⟩; refine TA_nv ?_
          refine TA_o 4 ?_
          refine GW.ow rfl ?_; refine gw_buildSlice (by decide) prtp rfl (fun bB => ?_)
          refine ⟨.inl (fun w hs => hs.weaken sbp kpp), ?_⟩; refine TA_nv ?_
          refine TA_pre (fun w hs => hs.ints_stay [1] rfl (by intro x hx; simp at hx; subst hx; simp [InI]) (by decide)) ?_
          refine TA_o 5 ?_
          refine ow_callf arp ?_; refine crash_k Ad cd Ad2 cd2 _ _ exD2 [1] (by rw [ex_len2.1]; decide) (by rw [ex_len2.2]; decide) (by decide) memt memt memt (KD_lit exY 0 ex_crash1 (fun Au cu Au2 cu2 => ?_))
          refine ⟨.inl (fun w hs => hs.weaken sbp kpp), ?_⟩; refine TA_nv ?_
          refine TA_common _ (List.Sublist.refl _) kpp ?_
          all_goals (refine TA_ps 6 sbp ?_; ((refine pw_mv ?_)); refine TA_nv ?_)
          all_goals (refine TA_ps 7 sbp ?_; ((refine pw_extract rfl rfl ?_)); refine TA_nv ?_)
          all_goals (refine TA_ps 8 sbp ?_; ((refine pw_extract rfl rfl ?_)); refine TA_nv ?_)
          refine TA_pre (H' := .blk bZ [.slice none 0 0, .slice none 0 0] 45 :: .blk bZx [.slice Ax exX.bytes.length cx, .slice Ax2 exX.pending.length cx2] 45 :: .blk b8 [.slice A7 exD1.bytes.length c7, .slice A8 exD1.pending.length c8] 45 :: H) (R' := dvR Au cu Au2 cu2 exY (dvR Ad cd Ad2 cd2 exD2 (Sl (.slice (some ⟨bB, 0, none⟩) ([1] : List Int).length ([1] : List Int).length) ([1] : List Int) :: Sl (.slice A10 ((5 : Int).toNat - (0 : Int).toNat) c10) ((exO2.take (5 : Int).toNat).drop (0 : Int).toNat) :: dvR Ax cx Ax2 cx2 exX (dvR A7 c7 A8 c8 exD1 (Sl (.slice A9 6 c9) exO2 :: R))))) (fun w hs => hs.weaken sbp kpp) ?_
          refine TA_common _ (List.Sublist.refl _) kpp ?_
          exact hG Ad cd Ad2 cd2 bB bZ Au cu Au2 cu2
        · skip
          refine GW.ow rfl ?_; refine gw_buildSlice (by decide) prtp rfl (fun bB => ?_)
          refine ⟨.inl (fun w hs => hs.weaken sbp kpp), ?_⟩; refine TA_nv ?_
          refine TA_pre (fun w hs => hs.ints_stay [1] rfl (by intro x hx; simp at hx; subst hx; simp [InI]) (by decide)) ?_
          refine TA_o 3 ?_
          refine ow_callf arp ?_; refine done_k A7 c7 A8 c8 A10 _ c10 exD1 ((exO2.take (5 : Int).toNat).drop (0 : Int).toNat) rfl (by rw [ex_len1.1]; decide) (by rw [ex_len1.2]; decide) (by decide) memt memt memt (show KD1 _ exD2 _ _ from fun Ad cd Ad2 cd2 => ?_)
          refine ⟨.inl (fun w hs => hs.weaken sbp kpp), ?_⟩; refine TA_nv ?_
          refine TA_o 5 ?_
          refine ow_callf arp ?_; refine crash_k Ad cd Ad2 cd2 _ _ exD2 [1] (by rw [ex_len2.1]; decide) (by rw [ex_len2.2]; decide) (by decide) memt memt memt (KD_lit exY 0 ex_crash1 (fun Au cu Au2 cu2 => ?_))
          refine ⟨.inl (fun w hs => hs.weaken sbp kpp), ?_⟩; refine TA_nv ?_
          refine TA_common _ (List.Sublist.refl _) kpp ?_
          all_goals (refine TA_ps 6 sbp ?_; ((refine pw_mv ?_)); refine TA_nv ?_)
          all_goals (refine TA_ps 7 sbp ?_; ((refine pw_extract rfl rfl ?_)); refine TA_nv ?_)
          all_goals (refine TA_ps 8 sbp ?_; ((refine pw_extract rfl rfl ?_)); refine TA_nv ?_)
          refine TA_pre (H' := .blk bZ [.slice none 0 0, .slice none 0 0] 45 :: .blk bZx [.slice Ax exX.bytes.length cx, .slice Ax2 exX.pending.length cx2] 45 :: .blk b8 [.slice A7 exD1.bytes.length c7, .slice A8 exD1.pending.length c8] 45 :: H) (R' := dvR Au cu Au2 cu2 exY (dvR Ad cd Ad2 cd2 exD2 (Sl (.slice (some ⟨bB, 0, none⟩) ([1] : List Int).length ([1] : List Int).length) ([1] : List Int) :: Sl (.slice A10 ((5 : Int).toNat - (0 : Int).toNat) c10) ((exO2.take (5 : Int).toNat).drop (0 : Int).toNat) :: dvR Ax cx Ax2 cx2 exX (dvR A7 c7 A8 c8 exD1 (Sl (.slice A9 6 c9) exO2 :: R))))) (fun w hs => hs.weaken sbp kpp) ?_
          refine TA_common _ (List.Sublist.refl _) kpp ?_
          exact hG Ad cd Ad2 cd2 bB bZ Au cu Au2 cu2
    case hb16 =>
      intro Ad cd Ad2 cd2 bB bZy Ay cy Ay2 cy2
      refine TA_common _ (List.Sublist.refl _) kpp ?_
      refine TA_g 10 ?_
      refine gw_store (i := 0) rfl clp rfl (by rfl) (by simp) (by simp [Value.oneCell']) ?_
      refine ⟨.inl (fun w hs => hs.weaken sbp kpp), ?_⟩
      refine TA_nv ?_
      refine TA_hq ?_
      all_goals ((refine TA_ps 11 sbp ?_; ((refine pw_as ?_)); refine TA_nv ?_))
      all_goals refine TA_d ?_
      apply En_then
      refine TC_weaken (.blk bZy [.slice Ay exY.bytes.length cy, .slice Ay2 exY.pending.length cy2] 45 :: .blk bZx [.slice Ax exX.bytes.length cx, .slice Ax2 exX.pending.length cx2] 45 :: .blk b8 [.slice A7 exD1.bytes.length c7, .slice A8 exD1.pending.length c8] 45 :: H) (dvR Ay cy Ay2 cy2 exY (dvR Ax cx Ax2 cx2 exX (dvR A7 c7 A8 c8 exD1 (Sl (.slice A9 6 c9) exO2 :: R)))) (fun w hs => hs.weaken sbp kpp) ?_
      repeat' (first | (refine T_ow rfl ?_; refine ow_callf arp ?_; refine last_k Ax cx Ax2 cx2 exX (by rw [ex_lenX.1]; decide) (by rw [ex_lenX.2]; decide) memt memt (KB_lit [7] 0 ex_last0 (n := 1) rfl (fun Ap cp => ?_)); refine T_nv ?_) | (apply TC_seq) | (apply TC_region) | (apply T_nil) | (apply En_then) | (apply T_load; exact rfl; ((first | refine pw_load (i := 0) rfl rfl rfl ?_ | refine pw_load (i := 1) rfl rfl rfl ?_)); refine T_nv ?_) | (refine T_pure rfl rfl ?_; ((first | refine pw_mv ?_ | refine pw_as ?_ | refine pw_extract rfl rfl ?_)); refine T_nv ?_))
      refine T_ow rfl ?_; refine ow_callf arp ?_; refine last_k Ay cy Ay2 cy2 exY (by rw [ex_lenY.1]; decide) (by rw [ex_lenY.2]; decide) memt memt (KB_lit [1, 2, 3] 0 ex_last1 (n := 3) rfl (fun Aq cq => ?_)); refine T_nv ?_
      repeat' (first | (apply T_bin; exact rfl; refine pw_eql rfl rfl (fun _ => ?_) (fun h => absurd rfl h); refine T_nv ?_) | (refine T_pure rfl rfl ?_; refine pw_index_b (v := .slice _ 1 _) (xs := [7]) rfl rfl memx rfl (by decide) (fun b o => ?_); refine T_nv ?_) | (refine T_pure rfl rfl ?_; refine pw_index_b (v := .slice _ 3 _) (xs := [1, 2, 3]) rfl rfl memx rfl (by decide) (fun b o => ?_); refine T_nv ?_) | (apply TC_seq) | (apply TC_region) | (apply TC_ret) | (apply T_nil) | (apply En_then) | (apply T_load; exact rfl; ((refine pw_load_at0 rfl memr rfl ?_)); refine T_nv ?_) | (refine T_pure rfl rfl ?_; ((first | refine pw_mv ?_ | refine pw_as ?_ | refine pw_pick_t rfl evp ?_ | refine pw_len rfl ?_ | refine pw_extract rfl rfl ?_)); refine T_nv ?_))
      exact En_fin (.inl rfl) (res1 rfl (rv_tmp rfl)) (fin_K H R (fun w hs => hs.weaken sbp kpp) k)
end Go.Proofs.Ytggdljhmbckpmaa
