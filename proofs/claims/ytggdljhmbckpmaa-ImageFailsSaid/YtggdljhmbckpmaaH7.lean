/- ImageFails: walk. -/
import Derived.Test.YtggdljhmbckpmaaG2
import Derived.Test.YtggdljhmbckpmaaA19
import Derived.Test.YtggdljhmbckpmaaS2
import Derived.Test.YtggdljhmbckpmaaQQ
set_option linter.unusedVariables false
set_option linter.unusedSimpArgs false
namespace Go.Proofs.Ytggdljhmbckpmaa
open Go Go.RowKit
set_option maxRecDepth 100000
set_option maxHeartbeats 8000000

theorem do_k' {w0 : World} {H : List Hp} {R : List MP} {K : Value → List Hp → List MP → Prop} (A0 : Option Addr) (c0 : Nat) (A2 : Option Addr) (c2 : Nat) (A3 : Option Addr) (m c3 : Nat) (d : Drive) (l : List DO) (hml : m = l.length) (hb : d.bytes.length ≤ 9223372036854775807) (hp : d.pending.length ≤ 9223372036854775807) (hll : l.length ≤ 9223372036854775807)
    (hm : Sl (.slice A0 d.bytes.length c0) d.bytes ∈ R) (hm2 : Sl (.slice A2 d.pending.length c2) d.pending ∈ R) (hm3 : Sl (.slice A3 m c3) l ∈ R)
    (k : KD K (doD d l) H R) : CallsK Try.prog w0 21 #[dv A0 c0 A2 c2 d, .slice A3 m c3] H R K := by
  subst hml; exact do_k A0 c0 A2 c2 A3 c3 d l hb hp hll hm hm2 hm3 k

theorem fails_k {w0 : World} {H : List Hp} {R : List MP} {K : Value → List Hp → List MP → Prop} (A0 : Option Addr) (c0 : Nat) (A2 : Option Addr) (c2 : Nat) (A3 : Option Addr) (c3 : Nat) (A4 : Option Addr) (c4 : Nat) (d : Drive) (data : List UInt8) (bh : UInt8) (ps : List Int) (hb : d.bytes.length ≤ 9223372036854775807) (hp : d.pending.length ≤ 9223372036854775807) (hdl : data.length ≤ 140737488355328) (hpl : ps.length ≤ 9223372036854775807)
    (hm : Sl (.slice A0 d.bytes.length c0) d.bytes ∈ R) (hm2 : Sl (.slice A2 d.pending.length c2) d.pending ∈ R) (hm3 : Sl (.slice A3 data.length c3) data ∈ R) (hm4 : Sl (.slice A4 ps.length c4) ps ∈ R)
    (k : K (.bool true) H R) : CallsK Try.prog w0 6 #[dv A0 c0 A2 c2 d, .slice A3 data.length c3, .agg #[byteV bh, .slice A4 ps.length c4]] H R K := by
  obtain ⟨⟨ops, f⟩, hap⟩ : ∃ r, appendD d data = r := ⟨_, rfl⟩
  obtain ⟨⟨bef, ok⟩, hbef⟩ : ∃ r, contD d = r := ⟨_, rfl⟩
  refine calls_of Try.func6 rfl Try.ntmps6 nep ?_
  repeat' (first | (refine T_gen rfl rfl ?_; refine gw_box clp (fun b3 => ?_); refine T_nv ?_) | (refine T_ow rfl ?_; refine ow_callf arp ?_; refine sane_k ?_; refine T_nv ?_) | (refine T_ow rfl ?_; refine ow_callf arp ?_; refine append_k _ _ _ _ _ _ d data hb hp (by omega) memt memt memt (KO_lit ops f hap rfl (fun AO cO => ?_)); refine T_nv ?_) | (refine T_ow rfl ?_; refine ow_callf arp ?_; refine contents_k _ _ _ _ d hb hp memt memt (KS_lit bef ok hbef rfl (fun AB cB => ?_)); refine T_nv ?_) | (apply TC_seq) | (apply TC_region) | (apply TC_ret) | (apply TC_skip) | (apply TC_cond_true; exact rfl) | (apply TC_cond_false; exact rfl) | (apply T_nil) | (apply En_then) | (apply En_then_ret) | (apply T_load; exact rfl; ((first | refine pw_load (i := 0) rfl rfl rfl ?_ | refine pw_load (i := 1) rfl rfl rfl ?_)); refine T_nv ?_) | (apply T_bin; exact rfl; ((first | refine pw_gtr rfl rfl (fun h => ?_) (fun h => ?_) | refine pw_neq rfl rfl (fun h => ?_) (fun h => ?_))) <;> (refine T_nv ?_)) | (refine T_pure rfl rfl ?_; ((first | refine pw_mv ?_ | refine pw_as ?_ | refine pw_pick_t rfl evp ?_ | refine pw_pick_f rfl evp ?_ | refine pw_fieldAddr rfl ?_ | refine pw_len rfl ?_ | refine pw_extract rfl rfl ?_)); refine T_nv ?_) | (refine T_skipped rfl ?_; refine T_nv ?_))
  all_goals (first | exact En_fin (.inl rfl) (res1 rfl (rv_tmp rfl)) (fin_K H R (fun w hs => hs.weaken sbp kpp) k) | skip)
  rename_i bD g1 g2
  have hf : f = 0 := by omega
  subst hf
  have hbare : d.pending = [] := List.eq_nil_of_length_eq_zero (by omega)
  have hc : checkD d = true := by
    unfold appendD at hap
    split at hap
    · assumption
    · injection hap with _ h; cases h
  obtain ⟨l, half, size, p, z, A, hops⟩ := app_of hc hbare hap
  have hop6 : ops.length = 6 := by rw [hops]; rfl
  have hb2 : (bef, ok) = (l.map Rc.data, true) := by
    rw [← hbef]
    unfold contD
    rw [if_pos hc, hasB_bare hbare, A.cur]
  injection hb2 with hb2 hok2
  subst hok2
  have hbl : bef.length ≤ 600000 := by
    have := curB_len (b := d.bytes) (by omega)
    rw [A.cur] at this
    rw [hb2, List.length_map]; exact this
  have hb256 : bh.toNat ≤ 9223372036854775807 := by have := bh.toNat_lt; omega
  repeat' (first | (refine T_pure rfl rfl ?_; refine pw_convi (a := bh.toNat) rfl hb256 ?_; refine T_nv ?_) | (refine T_pure rfl rfl ?_; refine pw_remN (a := bh.toNat) (m := ops.length + 1) rfl rfl (by omega) (fun r _ hr => ?_); refine T_nv ?_) | (apply TC_seq) | (apply T_nil) | (apply En_then) | (apply T_bin; exact rfl; ((refine pw_add64 rfl rfl (by omega) (by omega) ?_)); refine T_nv ?_) | (refine T_pure rfl rfl ?_; ((first | refine pw_mv ?_ | refine pw_as ?_ | refine pw_len rfl ?_)); refine T_nv ?_))
  have hr6 : r ≤ 6 := by omega
  obtain ⟨dx, hdx⟩ : ∃ dx, A.st r = dx := ⟨_, rfl⟩
  have hdo : doD d (ops.take r) = (dx, 0) := by rw [hops, A.done r hr6, hdx]
  obtain ⟨x, aft, hcr, hxl, haf, hcase⟩ := A.after r hr6 ps
  rw [hdx] at hcr
  have hdc := A.st_ok r hr6
  rw [hdx] at hdc
  obtain ⟨_, hd1, _, hd2, _⟩ := checkD_spec hdc
  rw [← hb2] at hcase
  have htl : (ops.take r).length = r := by rw [List.length_take]; omega
  refine TC_weaken (.blk b3 [byteV bh, .slice A4 ps.length c4] 74 :: .blk bD [.slice A0 d.bytes.length c0, .slice A2 d.pending.length c2] 45 :: H) (Sl (.slice AB bef.length cB) (bef.map strV) :: Sl (.slice AO ops.length cO) ops :: R) (fun w hs => hs.weaken sbp kpp) ?_
  refine TC_draw mixed (by decide +kernel) (fun _ _ _ _ _ _ h => h) (List.Sublist.refl _) ?_
  all_goals ((refine TA_p 0 ?_; ((refine pw_load (i := 1) rfl rfl rfl ?_)); refine TA_nv ?_))
  all_goals ((refine TA_p 1 ?_; ((refine pw_mv ?_)); refine TA_nv ?_))
  all_goals ((refine TA_p 2 ?_; ((refine pw_mv ?_)); refine TA_nv ?_))
  all_goals ((refine TA_p 3 ?_; ((refine pw_take (xs := ops) (m := r) rfl memt rfl rfl rfl (by omega) (fun A13 c13 => ?_))); refine TA_nv ?_))
  -- left: [4, 5, 6, 7, 8, 9, 10]; ready: [4, 8]: ['call', 'alloc']
  refine cut5 (α := Option Addr) (β := Nat) (γ := Option Addr) (δ := Nat) (ε := Nat) (G := ?G9) ?ha9 ?hb9
  case ha9 =>
    intro hG
    refine TA_common _ (List.Sublist.refl _) kpp ?_
    refine TA_2 4 8 ?_ ?_
    · skip
      refine ow_callf arp ?_; refine do_k' _ _ _ _ _ _ _ d (ops.take r) htl.symm hb hp (by omega) memt memt memt (KD_lit dx 0 hdo (fun Ad cd Ad2 cd2 => ?_))
      refine ⟨.inl (fun w hs => hs.weaken sbp kpp), ?_⟩; refine TA_nv ?_
      refine TA_common _ (List.Sublist.refl _) kpp ?_
      all_goals (refine TA_ps 5 sbp ?_; ((refine pw_mv ?_)); refine TA_nv ?_)
      all_goals (refine TA_ps 6 sbp ?_; ((refine pw_extract rfl rfl ?_)); refine TA_nv ?_)
      all_goals (refine TA_ps 7 sbp ?_; ((refine pw_extract rfl rfl ?_)); refine TA_nv ?_)
      refine TA_o 8 ?_
      refine GW.ow rfl ?_; refine gw_alloc clp (fun bZ => ?_)
      refine ⟨.inl (fun w hs => hs.weaken sbp kpp), ?_⟩; refine TA_nv ?_
      refine TA_pre (H' := .blk bZ [.slice none 0 0, .slice none 0 0] 45 :: .blk b3 [byteV bh, .slice A4 ps.length c4] 74 :: .blk bD [.slice A0 d.bytes.length c0, .slice A2 d.pending.length c2] 45 :: H) (R' := dvR Ad cd Ad2 cd2 dx (Sl (.slice A13 r c13) (ops.take r) :: Sl (.slice AB bef.length cB) (bef.map strV) :: Sl (.slice AO ops.length cO) ops :: R)) (fun w hs => hs.weaken sbp kpp) ?_
      exact hG Ad cd Ad2 cd2 bZ
    · skip
      refine GW.ow rfl ?_; refine gw_alloc clp (fun bZ => ?_)
      refine ⟨.inl (fun w hs => hs.weaken sbp kpp), ?_⟩; refine TA_nv ?_
      refine TA_o 4 ?_
      refine ow_callf arp ?_; refine do_k' _ _ _ _ _ _ _ d (ops.take r) htl.symm hb hp (by omega) memt memt memt (KD_lit dx 0 hdo (fun Ad cd Ad2 cd2 => ?_))
      refine ⟨.inl (fun w hs => hs.weaken sbp kpp), ?_⟩; refine TA_nv ?_
      refine TA_common _ (List.Sublist.refl _) kpp ?_
      all_goals (refine TA_ps 5 sbp ?_; ((refine pw_mv ?_)); refine TA_nv ?_)
      all_goals (refine TA_ps 6 sbp ?_; ((refine pw_extract rfl rfl ?_)); refine TA_nv ?_)
      all_goals (refine TA_ps 7 sbp ?_; ((refine pw_extract rfl rfl ?_)); refine TA_nv ?_)
      refine TA_pre (H' := .blk bZ [.slice none 0 0, .slice none 0 0] 45 :: .blk b3 [byteV bh, .slice A4 ps.length c4] 74 :: .blk bD [.slice A0 d.bytes.length c0, .slice A2 d.pending.length c2] 45 :: H) (R' := dvR Ad cd Ad2 cd2 dx (Sl (.slice A13 r c13) (ops.take r) :: Sl (.slice AB bef.length cB) (bef.map strV) :: Sl (.slice AO ops.length cO) ops :: R)) (fun w hs => hs.weaken sbp kpp) ?_
      exact hG Ad cd Ad2 cd2 bZ
  case hb9 =>
    intro A14 c14 A14b c14b bZ
    refine TA_common _ (List.Sublist.refl _) kpp ?_
    refine TA_g 9 ?_
    refine gw_store (i := 0) rfl clp rfl (by rfl) (by simp) (by simp [Value.oneCell']) ?_
    refine ⟨.inl (fun w hs => hs.weaken sbp kpp), ?_⟩
    refine TA_nv ?_
    refine TA_hq ?_
    all_goals ((refine TA_ps 10 sbp ?_; ((refine pw_as ?_)); refine TA_nv ?_))
    all_goals refine TA_d ?_
    apply En_then
    repeat' (first | (refine T_gen rfl rfl ?_; refine gw_alloc clp (fun bY => ?_); refine T_nv ?_) | (refine T_ow rfl ?_; refine ow_callf arp ?_; refine crash_k _ _ _ _ _ _ dx ps (by omega) (by omega) hpl memt memt memt (KD_lit ⟨x, []⟩ 0 hcr (fun AY cY AY2 cY2 => ?_)); refine T_nv ?_) | (apply TC_seq) | (apply TC_region) | (apply T_nil) | (apply En_then) | (apply T_load; exact rfl; ((first | refine pw_load (i := 0) rfl rfl rfl ?_ | refine pw_load (i := 1) rfl rfl rfl ?_)); refine T_nv ?_) | (apply T_store; exact rfl; ((refine gw_store (i := 0) rfl clp rfl (by rfl) (by simp) (by simp [Value.oneCell']) ?_)); refine T_nv ?_; refine T_hq ?_) | (refine T_pure rfl rfl ?_; ((first | refine pw_mv ?_ | refine pw_as ?_ | refine pw_fieldAddr rfl ?_ | refine pw_extract rfl rfl ?_)); refine T_nv ?_))
    refine T_ow rfl ?_; refine ow_callf arp ?_; refine contents_k _ _ _ _ ⟨x, []⟩ (by simp only; omega) (Nat.zero_le _) memt memt (KS_lit aft true haf rfl (fun AF cF => ?_)); refine T_nv ?_
    repeat' (first | (refine TC_cutS (x := .region 14 _ _) [19, 87, 88, 89, 90, 91, 92, 93, 94, 95, 96, 97, 98, 99, 100, 101, 102] (fun j H' R' => ∃ wi : Bool, j 19 = .bool wi ∧ (wi = false → r ≠ 6 ∧ aft = bef) ∧ H = H' ∧ Sl (.slice AF aft.length cF) (aft.map strV) :: Sl (.slice AB bef.length cB) (bef.map strV) :: R = R') ?_ ?_) | (apply TC_seq) | (apply TC_region) | (apply TC_skip) | (apply TC_cond_false; exact rfl) | (apply T_nil) | (apply En_then) | (apply T_bin; exact rfl; ((refine pw_neq rfl rfl (fun h => ?_) (fun h => ?_))) <;> (first | (exfalso; omega) | refine T_nv ?_)) | (refine T_pure rfl rfl ?_; ((first | refine pw_mv ?_ | refine pw_as ?_ | refine pw_pick_f rfl evp ?_ | refine pw_extract rfl rfl ?_ | refine pw_not rfl ?_)); refine T_nv ?_))
    · refine TC_weaken H (Sl (.slice AF aft.length cF) (aft.map strV) :: Sl (.slice AB bef.length cB) (bef.map strV) :: R) (fun w hs => hs.weaken sbp kpp) ?_
      refine TC_draw mixed (by decide +kernel) (fun _ _ _ _ _ _ h => nomatch h.1) (List.Sublist.refl _) ?_
      all_goals ((refine TA_p 0 ?_; ((refine pw_mv ?_)); refine TA_nv ?_))
      all_goals ((refine TA_p 2 ?_; ((refine pw_mv ?_)); refine TA_nv ?_))
      all_goals ((refine TA_p 4 ?_; ((refine pw_mv ?_)); refine TA_nv ?_))
      all_goals ((refine TA_p 5 ?_; ((refine pw_str (xs := data) rfl memt ?_)); refine TA_nv ?_))
      -- left: [1, 3, 6, 7, 8, 9, 10, 11, 12, 13, 14, 15, 16]; ready: [1, 6]: ['buildSlice', 'buildSlice']
      refine cut5 (α := Nat) (β := Option Addr) (γ := Nat) (δ := List Value) (ε := Nat) (G := ?G14) ?ha14 ?hb14
      case ha14 =>
        intro hG
        refine TA_common _ (List.Sublist.refl _) kpp ?_
        refine TA_2 1 6 ?_ ?_
        · skip
          refine GW.ow rfl ?_; refine gw_build0 rfl (by decide) (fun bz => ?_)
          refine ⟨.inl (fun w hs => hs.weaken sbp kpp), ?_⟩; refine TA_nv ?_
          refine TA_2 3 6 ?_ ?_
          · skip
            refine GW.ow rfl ?_; (refine gw_append_slx (xs := bef.map strV) 0 rfl rfl memt rfl (by decide) rfl (by omega) (by omega) (fun v' news => ?_))
            refine ⟨.inl (fun w hs => hs.weaken sbp kpp), ?_⟩; refine TA_nv ?_; refine TA_hq ?_
            (refine TA_shape 0 rfl (fun Ar cr hv => ?_))
            subst hv
            refine TA_o 6 ?_
            refine GW.ow rfl ?_; refine gw_buildSlice (by decide) prtp rfl (fun bC => ?_)
            refine ⟨.inl (fun w hs => hs.weaken sbp kpp), ?_⟩; refine TA_nv ?_
            refine TA_pre (H' := .blk bC [.string (strV data)] 9 :: .row (.slice Ar bef.length cr) 9 1 bef.length news :: H) (R' := Cx news (bef.map strV) :: Sl (.slice AF aft.length cF) (aft.map strV) :: Sl (.slice AB bef.length cB) (bef.map strV) :: R) (fun w hs => ?_) ?_
            · (exact hs.weaken (List.Sublist.cons_cons _ (List.Sublist.cons_cons _ sbp)) kpp)
            exact hG bz Ar cr news bC
          · skip
            refine GW.ow rfl ?_; refine gw_buildSlice (by decide) prtp rfl (fun bC => ?_)
            refine ⟨.inl (fun w hs => hs.weaken sbp kpp), ?_⟩; refine TA_nv ?_
            refine TA_o 3 ?_
            refine GW.ow rfl ?_; (refine gw_append_slx (xs := bef.map strV) 1 rfl rfl memt rfl (by decide) rfl (by omega) (by omega) (fun v' news => ?_))
            refine ⟨.inl (fun w hs => hs.weaken sbp kpp), ?_⟩; refine TA_nv ?_; refine TA_hq ?_
            (refine TA_shape 1 rfl (fun Ar cr hv => ?_))
            subst hv
            refine TA_pre (H' := .blk bC [.string (strV data)] 9 :: .row (.slice Ar bef.length cr) 9 1 bef.length news :: H) (R' := Cx news (bef.map strV) :: Sl (.slice AF aft.length cF) (aft.map strV) :: Sl (.slice AB bef.length cB) (bef.map strV) :: R) (fun w hs => ?_) ?_
            · (exact hs.weaken (List.Sublist.cons_cons _ (List.Sublist.cons_cons _ sbp)) kpp)
            exact hG bz Ar cr news bC
        · skip
          refine GW.ow rfl ?_; refine gw_buildSlice (by decide) prtp rfl (fun bC => ?_)
          refine ⟨.inl (fun w hs => hs.weaken sbp kpp), ?_⟩; refine TA_nv ?_
          refine TA_o 1 ?_
          refine GW.ow rfl ?_; refine gw_build0 rfl (by decide) (fun bz => ?_)
          refine ⟨.inl (fun w hs => hs.weaken sbp kpp), ?_⟩; refine TA_nv ?_
          refine TA_o 3 ?_
          refine GW.ow rfl ?_; (refine gw_append_slx (xs := bef.map strV) 0 rfl rfl memt rfl (by decide) rfl (by omega) (by omega) (fun v' news => ?_))
          refine ⟨.inl (fun w hs => hs.weaken sbp kpp), ?_⟩; refine TA_nv ?_; refine TA_hq ?_
          (refine TA_shape 0 rfl (fun Ar cr hv => ?_))
          subst hv
          refine TA_pre (H' := .blk bC [.string (strV data)] 9 :: .row (.slice Ar bef.length cr) 9 1 bef.length news :: H) (R' := Cx news (bef.map strV) :: Sl (.slice AF aft.length cF) (aft.map strV) :: Sl (.slice AB bef.length cB) (bef.map strV) :: R) (fun w hs => ?_) ?_
          · (exact (hs.perm (List.Perm.swap _ _ _)).weaken (List.Sublist.cons_cons _ (List.Sublist.cons_cons _ sbp)) kpp)
          exact hG bz Ar cr news bC
      case hb14 =>
        intro bz14 Ar cr news bC
        refine TA_common _ (List.Sublist.refl _) kpp ?_
        refine TA_g 7 ?_
        refine gw_append_blk 1 0 rfl rfl rfl rfl (by decide) rfl (by simp [Value.oneCell']) (by omega) (by omega) (fun pv' => ?_)
        refine ⟨.inl (fun w hs => hs.weaken sbp kpp), ?_⟩; refine TA_nv ?_; refine TA_hq ?_
        have hmx : (strV data).size ≤ maxL := by
          have : (strV data).size = data.length := rfl
          rw [this]; simp only [maxL]; omega
        refine TA_learn (Cx (news ++ [.string (strV data)]) ((bef ++ [data]).map strV)) (fun s hs => by
          rw [List.map_append]
          exact Cx_snoc (hs (Cx news (bef.map strV)) memt) ⟨rfl, hmx⟩) ?_
        refine TA_staysx (xs := (bef ++ [data]).map strV) 1 rfl rfl (by decide) memt (fun A6 c6 hv => ?_)
        subst hv
        refine TA_hq ?_
        refine TA_common _ (List.Sublist.refl _) kpp ?_
        have hal : aft.length ≤ 9223372036854775806 := by
          rcases hcase with (h | h) | ⟨_, h⟩
          · rw [h, List.length_append, List.length_cons, List.length_nil]; omega
          · rw [h]; simp
          · rw [h]; omega
        refine TA_o 8 ?_
        refine ow_callf arp ?_; refine same_k _ _ _ _ _ _ aft (bef ++ [data]) hal rfl (List.length_map _) memt memt (fun hh => ?_) (fun hh => ?_)
        · refine ⟨.inl (fun w hs => hs.weaken sbp kpp), ?_⟩; refine TA_nv ?_
          all_goals ((refine TA_ps 9 sbp ?_; ((refine pw_mv ?_)); refine TA_nv ?_))
          all_goals ((refine TA_ks 10 sbp ?_))
          all_goals ((refine TA_ks 11 sbp ?_))
          all_goals ((refine TA_ks 12 sbp ?_))
          -- left: [13, 14, 15, 16]; ready: [13]: ['buildSlice']
          refine TA_os 13 ?_
          refine TA_os 14 ?_
          all_goals ((refine TA_ps 15 sbp ?_; ((refine pw_pick_t rfl evp ?_)); refine TA_nv ?_))
          all_goals ((refine TA_ps 16 sbp ?_; ((refine pw_as ?_)); refine TA_nv ?_))
          all_goals refine TA_d ?_
          exact En_midS H (Sl (.slice AF aft.length cF) (aft.map strV) :: Sl (.slice AB bef.length cB) (bef.map strV) :: R) sjp ⟨true, rfl, fun h => (by cases h), rfl, rfl⟩ (fun w hs => hs.weaken sbp kpp)
        · refine ⟨.inl (fun w hs => hs.weaken sbp kpp), ?_⟩; refine TA_nv ?_
          all_goals ((refine TA_ps 9 sbp ?_; ((refine pw_mv ?_)); refine TA_nv ?_))
          all_goals ((refine TA_ps 10 sbp ?_; ((refine pw_mv ?_)); refine TA_nv ?_))
          all_goals ((refine TA_ps 11 sbp ?_; ((refine pw_mv ?_)); refine TA_nv ?_))
          all_goals ((refine TA_ps 12 sbp ?_; ((refine pw_str (xs := data) rfl memt ?_)); refine TA_nv ?_))
          -- left: [13, 14, 15, 16]; ready: [13]: ['buildSlice']
          refine TA_g 13 ?_
          refine gw_buildSlice (by decide) prtp rfl (fun bC2 => ?_)
          refine ⟨.inl (fun w hs => hs.weaken sbp kpp), ?_⟩; refine TA_nv ?_
          refine TA_pre (fun w hs => hs.str_stay hdl) ?_
          refine TA_common _ (List.Sublist.refl _) kpp ?_
          refine TA_o 14 ?_
          refine ow_callf arp ?_; refine same_k _ _ _ _ _ _ aft [data] hal rfl rfl memt memt (fun hh2 => ?_) (fun hh2 => ?_)
          · refine ⟨.inl (fun w hs => hs.weaken sbp kpp), ?_⟩; refine TA_nv ?_
            all_goals ((refine TA_ps 15 sbp ?_; ((refine pw_pick_f rfl evp ?_)); refine TA_nv ?_))
            all_goals ((refine TA_ps 16 sbp ?_; ((refine pw_as ?_)); refine TA_nv ?_))
            all_goals refine TA_d ?_
            exact En_midS H (Sl (.slice AF aft.length cF) (aft.map strV) :: Sl (.slice AB bef.length cB) (bef.map strV) :: R) sjp ⟨true, rfl, fun h => (by cases h), rfl, rfl⟩ (fun w hs => hs.weaken sbp kpp)
          · refine ⟨.inl (fun w hs => hs.weaken sbp kpp), ?_⟩; refine TA_nv ?_
            all_goals ((refine TA_ps 15 sbp ?_; ((refine pw_pick_f rfl evp ?_)); refine TA_nv ?_))
            all_goals ((refine TA_ps 16 sbp ?_; ((refine pw_as ?_)); refine TA_nv ?_))
            all_goals refine TA_d ?_
            exact En_midS H (Sl (.slice AF aft.length cF) (aft.map strV) :: Sl (.slice AB bef.length cB) (bef.map strV) :: R) sjp ⟨false, rfl, fun _ => (by rcases hcase with (h | h) | h; exact absurd h hh; exact absurd h hh2; exact h), rfl, rfl⟩ (fun w hs => hs.weaken sbp kpp)
    · rintro j14 H' R' ⟨wi, h19, hwi, hH, hR⟩
      subst hH hR
      refine TC_env (by simp only [setJ, List.foldl_cons, List.foldl_nil, List.set_cons_succ, List.set_cons_zero, h19]; rfl) ?_
      cases wi
      · obtain ⟨hr6', haeq⟩ := hwi rfl
        have hal : aft.length ≤ 9223372036854775806 := by rw [haeq]; omega
        repeat' (first | (refine T_ow rfl ?_; refine ow_callf arp ?_; refine same_k _ _ _ _ _ _ aft bef hal rfl rfl memt memt (fun hh => ?_) (fun hh => absurd haeq hh); refine T_nv ?_) | (apply TC_seq) | (apply TC_region) | (apply TC_ret) | (apply TC_skip) | (apply TC_cond_false; exact rfl) | (apply T_nil) | (apply En_then) | (apply T_bin; exact rfl; ((refine pw_eql rfl rfl (fun h => ?_) (fun h => ?_))) <;> (first | (exfalso; omega) | refine T_nv ?_)) | (refine T_pure rfl rfl ?_; ((first | refine pw_mv ?_ | refine pw_as ?_ | refine pw_pick_t rfl evp ?_ | refine pw_pick_f rfl evp ?_ | refine pw_len rfl ?_)); refine T_nv ?_))
        all_goals exact En_fin (.inl rfl) (res1 rfl (rv_tmp rfl)) (fin_K _ R (fun w hs => hs.weaken sbp kpp) k)
      · skip
        repeat' (first | (apply TC_seq) | (apply TC_region) | (apply TC_ret) | (apply TC_skip) | (apply TC_cond_true; exact rfl) | (apply TC_cond_false; exact rfl) | (apply T_nil) | (apply En_then) | (apply En_then_ret) | (apply T_bin; exact rfl; ((refine pw_eql rfl rfl (fun h => ?_) (fun h => ?_))) <;> (refine T_nv ?_)) | (refine T_pure rfl rfl ?_; ((first | refine pw_mv ?_ | refine pw_as ?_ | refine pw_pick_t rfl evp ?_ | refine pw_len rfl ?_)); refine T_nv ?_) | (refine T_skipped rfl ?_; refine T_nv ?_))
        all_goals exact En_fin (.inl rfl) (res1 rfl (rv_tmp rfl)) (fin_K _ R (fun w hs => hs.weaken sbp kpp) k)
end Go.Proofs.Ytggdljhmbckpmaa
