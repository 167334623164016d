/- ImageWrites: walk. -/
import Derived.Test.YtggdljhmbckpmaaG2
import Derived.Test.YtggdljhmbckpmaaH1
import Derived.Test.YtggdljhmbckpmaaP1
set_option linter.unusedVariables false
set_option linter.unusedSimpArgs false
namespace Go.Proofs.Ytggdljhmbckpmaa
open Go Go.RowKit
set_option maxRecDepth 100000
set_option maxHeartbeats 8000000

theorem doL_len : ∀ (l : List DO) (d : Drive), checkD d = true → l.all (rightB d.bytes.length) = true → (doL l d).1.bytes.length ≤ 600000 ∧ (doL l d).1.pending.length ≤ 100
  | [], d, h, _ => ⟨(checkD_spec h).2.1, (checkD_spec h).2.2.2.1⟩
  | x :: l, d, h, hr => by
    simp only [List.all_cons, Bool.and_eq_true] at hr
    simp only [doL]
    split
    · have hl := hasB_length h
      exact doL_len l ⟨hasB d, []⟩ (checkD_bare h hl) (by rw [hl]; exact hr.2)
    · rename_i hk
      split
      · exact ⟨Nat.zero_le _, Nat.zero_le _⟩
      · have h100 := (checkD_spec h).2.2.2.1
        exact doL_len l ⟨d.bytes, d.pending ++ [⟨x.at_, x.data⟩]⟩ (checkD_snoc (x := ⟨x.at_, x.data⟩) h (by omega) ((rightB_spec hr.1).2 hk)) hr.2
theorem doD_len (d : Drive) (l : List DO) : (doD d l).1.bytes.length ≤ 600000 ∧ (doD d l).1.pending.length ≤ 100 := by
  unfold doD
  split
  · split
    · exact doL_len l d (by assumption) (by assumption)
    · exact ⟨Nat.zero_le _, Nat.zero_le _⟩
  · exact ⟨Nat.zero_le _, Nat.zero_le _⟩
section
variable {P : Program} {w0 : World} {E : List Value} {H : List Hp} {R : List MP} {ty : TypeId} {K : Value → List MP → Prop}
theorem pw_slice_take {α : Type} [Rep α] {t e : TypeId} {x hi : Operand} {sz by_ : Nat} {zs : List Value} [ht : TyL P t e sz by_ zs] {A : Option Addr} {n c m : Nat} {xs : List α} (hx : ev E x = .slice A n c) (hm : Sl (.slice A n c) xs ∈ R) (hn : n = xs.length) (hsz : Rep.size α = sz) (hh : bnd E n (some hi) = some (m : Int)) (h2 : m ≤ xs.length)
    (kk : ∀ A' c', K (.slice A' (xs.take m).length c') (Sl (.slice A' (xs.take m).length c') (xs.take m) :: R)) : PW P w0 E (.slice t x none (some hi) none) ty H R K := by
  refine pw_slice_sl hx hm hn hsz rfl hh (Int.le_refl _) (by omega) (by omega) (fun A' c' => ?_)
  have e1 : (m : Int).toNat - (0 : Int).toNat = (xs.take m).length := by simp; omega
  have e2 : (xs.take (m : Int).toNat).drop (0 : Int).toNat = xs.take m := by simp
  rw [e1, e2]
  exact kk A' c'
theorem pw_slice_drop {α : Type} [Rep α] {t e : TypeId} {x lo : Operand} {sz by_ : Nat} {zs : List Value} [ht : TyL P t e sz by_ zs] {A : Option Addr} {n c m : Nat} {xs : List α} (hx : ev E x = .slice A n c) (hm : Sl (.slice A n c) xs ∈ R) (hn : n = xs.length) (hsz : Rep.size α = sz) (hl : bnd E 0 (some lo) = some (m : Int)) (h2 : m ≤ xs.length)
    (kk : ∀ A' c', K (.slice A' (xs.drop m).length c') (Sl (.slice A' (xs.drop m).length c') (xs.drop m) :: R)) : PW P w0 E (.slice t x (some lo) none none) ty H R K := by
  refine pw_slice_sl hx hm hn hsz hl rfl (by omega) (by omega) (by omega) (fun A' c' => ?_)
  have e1 : (n : Int).toNat - (m : Int).toNat = (xs.drop m).length := by simp; omega
  have e2 : (xs.take (n : Int).toNat).drop (m : Int).toNat = xs.drop m := by subst hn; simp
  rw [e1, e2]
  exact kk A' c'
end
theorem cutE {G : Option Addr → Nat → Option Addr → Nat → Nat → Prop} {p : Prop} (h : (∀ a b c d e, G a b c d e) → p) (k : ∀ a b c d e, G a b c d e) : p := h k
theorem S.op_stay {w0 w : World} {H : List Hp} {R : List MP} {b : Nat} {T' : TypeId} (hs : S w0 w (.blk b [.int .i64 2, .int .i64 0, .slice none 0 0] T' :: H) R) : S w0 w H (Sl (.slice (some ⟨b, 0, none⟩) 1 1) ([⟨2, 0, []⟩] : List DO) :: R) := by
  exact ((hs.learn (Cx [.int .i64 2, .int .i64 0, .slice none 0 0] ([⟨2, 0, []⟩] : List DO)) (fun s _ => Cx_one (x := (⟨2, 0, []⟩ : DO)) ⟨none, 0, rfl, ⟨by simp [InI], by simp [InI]⟩, Sl_nil UInt8 s⟩)).blk_stays (i := 0) (b := b) (T := T') (cs := [.int .i64 2, .int .i64 0, .slice none 0 0]) (n := 1) (c := 1) (sp := []) (by simp) List.mem_cons_self rfl (Nat.le_refl _) (by decide)).weaken (List.Sublist.refl _) (sub_cons List.mem_cons_self (fun p hp => List.mem_cons_of_mem _ (List.mem_cons_of_mem _ hp)))

theorem writes_k {w0 : World} {H : List Hp} {R : List MP} {K : Value → List Hp → List MP → Prop} (A0 : Option Addr) (c0 : Nat) (A2 : Option Addr) (c2 : Nat) (A3 : Option Addr) (c3 : Nat) (A4 : Option Addr) (c4 : Nat) (d : Drive) (l : List DO) (ps : List Int) (hb : d.bytes.length ≤ 9223372036854775807) (hp : d.pending.length ≤ 9223372036854775807) (hll : l.length ≤ 9223372036854775807) (hpl : ps.length ≤ 9223372036854775807)
    (hm : Sl (.slice A0 d.bytes.length c0) d.bytes ∈ R) (hm2 : Sl (.slice A2 d.pending.length c2) d.pending ∈ R) (hm3 : Sl (.slice A3 l.length c3) l ∈ R) (hm4 : Sl (.slice A4 ps.length c4) ps ∈ R)
    (k : K (.bool true) H R) : CallsK Try.prog w0 8 #[dv A0 c0 A2 c2 d, .slice A3 l.length c3, .slice A4 ps.length c4] H R K := by
  refine calls_of Try.func8 rfl Try.ntmps8 nep ?_
  repeat' (first | (refine T_ow rfl ?_; refine ow_callf arp ?_; refine sane_k ?_; refine T_nv ?_) | (refine T_ow rfl ?_; refine ow_callf arp ?_; refine check_k _ _ _ _ d hb hp hm hm2 ?_; refine T_nv ?_) | (apply TC_seq) | (apply TC_region) | (apply TC_ret) | (apply TC_skip) | (apply TC_cond_true; exact rfl) | (apply TC_cond_false; exact rfl) | (apply T_nil) | (apply En_then) | (apply En_then_ret) | (apply T_load; exact rfl; ((refine pw_load (i := 0) rfl rfl rfl ?_)); refine T_nv ?_) | (apply T_bin; exact rfl; ((first | refine pw_gtr rfl rfl (fun h => ?_) (fun h => ?_) | refine pw_neq rfl rfl (fun h => ?_) (fun h => ?_))) <;> (refine T_nv ?_)) | (refine T_pure rfl rfl ?_; ((first | refine pw_mv ?_ | refine pw_as ?_ | refine pw_pick_t rfl evp ?_ | refine pw_pick_f rfl evp ?_ | refine pw_fieldAddr rfl ?_ | refine pw_len rfl ?_)); refine T_nv ?_) | (refine T_skipped rfl ?_; refine T_nv ?_) | (refine T_gen rfl rfl ?_; ((refine gw_box clp (fun b => ?_))); refine T_nv ?_))
  all_goals (first | exact En_fin (.inl rfl) (res1 rfl (rv_tmp rfl)) (fin_K H R (fun w hs => hs.weaken sbp kpp) k) | skip)
  rename_i h20 h200
  revert b; intro b0
  have hck : errD d = 0 := by assumption
  have hc : checkD d = true := by unfold errD at hck; cases hc : checkD d <;> simp_all
  obtain ⟨cr, hcr1, hcr2, hcrl⟩ := crash_ok hc ps ps
  have hsp := checkD_spec hc
  have hcl : cr.length ≤ 9223372036854775807 := by omega
  have hhl := hasB_length hc
  refine T_ow rfl ?_; refine ow_callf arp ?_; refine crash_k _ _ _ _ _ _ d ps hb hp hpl hm hm2 hm4 (KD_lit ⟨cr, []⟩ 0 hcr1 (fun A5 c5 A6 c6 => ?_)); refine T_nv ?_
  repeat' (first | (apply TC_seq) | (apply TC_region) | (apply T_nil) | (apply En_then) | (apply T_load; exact rfl; ((refine pw_load (i := 0) rfl rfl rfl ?_)); refine T_nv ?_) | (apply T_store; exact rfl; ((refine gw_store (i := 0) rfl clp rfl (by rfl) (by simp) (by simp [Value.oneCell']) ?_)); refine T_nv ?_; refine T_hq ?_) | (refine T_pure rfl rfl ?_; ((first | refine pw_mv ?_ | refine pw_as ?_ | refine pw_extract rfl rfl ?_)); refine T_nv ?_) | (refine T_gen rfl rfl ?_; ((refine gw_alloc clp (fun b => ?_))); refine T_nv ?_))
  refine T_ow rfl ?_; refine ow_callf arp ?_; refine crash_k _ _ _ _ _ _ ⟨cr, []⟩ ps hcl (Nat.zero_le _) hpl memt memt memt (KD_lit ⟨cr, []⟩ 0 hcr2 (fun A7 c7 A8 c8 => ?_)); refine T_nv ?_
  repeat' (first | (apply TC_seq) | (apply TC_region) | (apply T_nil) | (apply En_then) | (apply T_load; exact rfl; ((refine pw_load (i := 2) rfl rfl rfl ?_)); refine T_nv ?_) | (apply T_store; exact rfl; ((refine gw_store (i := 0) rfl clp rfl (by rfl) (by simp) (by simp [Value.oneCell']) ?_)); refine T_nv ?_; refine T_hq ?_) | (refine T_pure rfl rfl ?_; ((first | refine pw_mv ?_ | refine pw_as ?_ | refine pw_extract rfl rfl ?_)); refine T_nv ?_) | (refine T_gen rfl rfl ?_; ((refine gw_alloc clp (fun b => ?_))); refine T_nv ?_))
  refine T_ow rfl ?_; refine ow_callf arp ?_; refine read_k _ _ _ _ d hb hp memt memt (KB_lit (hasB d) 0 (read_ok hc) rfl (fun A9 c9 => ?_)); refine T_nv ?_
  repeat' (first | (apply TC_seq) | (apply TC_region) | (apply T_nil) | (apply En_then) | (apply T_load; exact rfl; ((refine pw_load (i := 2) rfl rfl rfl ?_)); refine T_nv ?_) | (refine T_pure rfl rfl ?_; ((first | refine pw_mv ?_ | refine pw_as ?_ | refine pw_extract rfl rfl ?_ | refine pw_build bldp ?_)); refine T_nv ?_) | (refine T_gen rfl rfl ?_; ((refine gw_buildSlice (by decide) prtp rfl (fun b => ?_))); refine T_nv ?_))
  refine T_weaken _ _ (fun w hs => hs.op_stay) ?_
  refine T_ow rfl ?_; refine ow_callf arp ?_; refine do_k _ _ _ _ _ _ d [⟨2, 0, []⟩] hb hp (by decide) memt memt memt (KD_lit ⟨hasB d, []⟩ 0 (sync_ok hc) (fun A10 c10 A11 c11 => ?_)); refine T_nv ?_
  repeat' (first | (apply TC_seq) | (apply TC_region) | (apply T_nil) | (apply En_then) | (apply T_load; exact rfl; ((refine pw_load (i := 0) rfl rfl rfl ?_)); refine T_nv ?_) | (apply T_store; exact rfl; ((refine gw_store (i := 0) rfl clp rfl (by rfl) (by simp) (by simp [Value.oneCell']) ?_)); refine T_nv ?_; refine T_hq ?_) | (refine T_pure rfl rfl ?_; ((first | refine pw_mv ?_ | refine pw_as ?_ | refine pw_extract rfl rfl ?_)); refine T_nv ?_) | (refine T_gen rfl rfl ?_; ((refine gw_alloc clp (fun b => ?_))); refine T_nv ?_))
  refine T_ow rfl ?_; refine ow_callf arp ?_; refine read_k _ _ _ _ ⟨hasB d, []⟩ (by simp only; omega) (Nat.zero_le _) memt memt (KB_lit (hasB d) 0 (read_bare hc) rfl (fun A12 c12 => ?_)); refine T_nv ?_
  repeat' (first | (apply T_bin; exact rfl; refine pw_neq rfl rfl (fun h => absurd rfl h) (fun _ => ?_); refine T_nv ?_) | (apply T_bin; exact rfl; refine pw_gtr rfl rfl (fun h => absurd h (by decide)) (fun _ => ?_); refine T_nv ?_) | (refine T_ow rfl ?_; refine ow_callf arp ?_; refine sameDrive_k _ _ _ _ _ _ _ _ ⟨cr, []⟩ (Nat.zero_le _) memt memt memt memt ?_; refine T_nv ?_) | (refine T_ow rfl ?_; refine ow_callf arp ?_; refine sameBytes_k2 _ _ _ _ _ _ (hasB d) (hasB d) memt memt (fun _ => ?_) (fun h => absurd rfl h); refine T_nv ?_) | (refine TC_cutS (x := .seq (.region 12 _ _) _) [18, 119, 120, 121, 122, 123, 124, 125, 126, 127, 128, 129, 130, 131, 132, 133, 134] (fun j H' R' => ∃ n : Nat, n ≤ l.length ∧ j 18 = .int .i64 (n : Int) ∧ H' = .blk b0 [.slice A0 d.bytes.length c0, .slice A2 d.pending.length c2] 45 :: H ∧ R = R') ?_ ?_) | (apply TC_seq) | (apply TC_region) | (apply TC_skip) | (apply TC_cond_false; exact rfl) | (apply T_nil) | (apply En_then) | (apply T_load; exact rfl; ((first | refine pw_load (i := 0) rfl rfl rfl ?_ | refine pw_load (i := 1) rfl rfl rfl ?_ | refine pw_load (i := 2) rfl rfl rfl ?_)); refine T_nv ?_) | (apply T_bin; exact rfl; ((refine pw_gtr rfl rfl (fun h => ?_) (fun h => ?_))) <;> (refine T_nv ?_)) | (refine T_pure rfl rfl ?_; ((first | refine pw_mv ?_ | refine pw_as ?_ | refine pw_pick_f rfl evp ?_ | refine pw_fieldAddr rfl ?_ | refine pw_len rfl ?_ | refine pw_extract rfl rfl ?_ | refine pw_not rfl ?_)); refine T_nv ?_) | (refine T_skipped rfl ?_; refine T_nv ?_))
  · apply T_idx; exact rfl
    refine pw_index_i (xs := ps) rfl rfl memt (List.getElem?_eq_getElem (by omega)) (by decide) (fun b o hI => ?_)
    refine T_nv ?_
    repeat' (first | (apply TC_region) | (apply TC_skip) | (apply TC_cond_true; exact rfl) | (apply TC_cond_false; exact rfl) | (apply T_nil) | (apply En_then) | (apply T_load; exact rfl; ((refine pw_load_at0 rfl memr rfl ?_)); refine T_nv ?_) | (apply T_bin; exact rfl; ((refine pw_geq rfl rfl (fun h => ?_) (fun h => ?_))) <;> (refine T_nv ?_)) | (refine T_pure rfl rfl ?_; ((first | refine pw_mv ?_ | refine pw_pick_t rfl evp ?_)); refine T_nv ?_))
    · apply T_idx; exact rfl
      refine pw_index_i (xs := ps) rfl rfl memt (List.getElem?_eq_getElem (by omega)) (by decide) (fun b o hI => ?_)
      refine T_nv ?_
      obtain ⟨a, ha⟩ : ∃ a : Nat, ps[(0 : Int).toNat]'(by omega) = (a : Int) := ⟨_, (Int.toNat_of_nonneg (by assumption)).symm⟩
      rw [ha]
      repeat' (first | (apply T_bin; exact rfl; refine pw_remN (a := a) (m := l.length + 1) rfl rfl (by omega) (fun r _ hr => ?_); refine T_nv ?_) | (apply T_nil) | (apply T_load; exact rfl; ((refine pw_load_at0 rfl memr rfl ?_)); refine T_nv ?_) | (apply T_bin; exact rfl; ((refine pw_add64 rfl rfl (by omega) (by omega) ?_)); refine T_nv ?_) | (refine T_pure rfl rfl ?_; ((first | refine pw_mv ?_ | refine pw_as ?_ | refine pw_len rfl ?_)); refine T_nv ?_))
      exact En_midS (.blk b0 [.slice A0 d.bytes.length c0, .slice A2 d.pending.length c2] 45 :: H) R sjp ⟨r, by omega, rfl, rfl, rfl⟩ (fun w hs => hs.weaken sbp kpp)
    · exact En_midS (.blk b0 [.slice A0 d.bytes.length c0, .slice A2 d.pending.length c2] 45 :: H) R sjp ⟨0, Nat.zero_le _, rfl, rfl, rfl⟩ (fun w hs => hs.weaken sbp kpp)
  · exact En_midS (.blk b0 [.slice A0 d.bytes.length c0, .slice A2 d.pending.length c2] 45 :: H) R sjp ⟨0, Nat.zero_le _, rfl, rfl, rfl⟩ (fun w hs => hs.weaken sbp kpp)
  rintro j H' R' ⟨n, hn, h18, hH, hR⟩
  subst hH hR
  refine TC_env (by simp only [setJ, List.foldl_cons, List.foldl_nil, List.set_cons_succ, List.set_cons_zero, h18]; rfl) ?_
  obtain ⟨⟨e1, j1⟩, hd⟩ : ∃ r, doD d l = r := ⟨_, rfl⟩
  repeat' (first | (refine T_ow rfl ?_; refine ow_callf arp ?_; refine do_k _ _ _ _ _ _ d l hb hp hll hm hm2 hm3 (KD_lit e1 j1 hd (fun A5 c5 A6 c6 => ?_)); refine T_nv ?_) | (apply TC_seq) | (apply TC_region) | (apply T_nil) | (apply En_then) | (apply T_load; exact rfl; ((refine pw_load (i := 0) rfl rfl rfl ?_)); refine T_nv ?_) | (apply T_store; exact rfl; ((refine gw_store (i := 0) rfl clp rfl (by rfl) (by simp) (by simp [Value.oneCell']) ?_)); refine T_nv ?_; refine T_hq ?_) | (refine T_pure rfl rfl ?_; ((first | refine pw_mv ?_ | refine pw_as ?_ | refine pw_extract rfl rfl ?_)); refine T_nv ?_) | (refine T_gen rfl rfl ?_; ((refine gw_alloc clp (fun b => ?_))); refine T_nv ?_))
  revert b
  intro b19
  refine TC_weaken (.blk b19 [.slice A5 e1.bytes.length c5, .slice A6 e1.pending.length c6] 45 :: .blk b0 [.slice A0 d.bytes.length c0, .slice A2 d.pending.length c2] 45 :: H) (dvR A5 c5 A6 c6 e1 R) (fun w hs => hs.weaken sbp kpp) ?_
  obtain ⟨⟨u, k1⟩, hu⟩ : ∃ r, doD d (l.take n) = r := ⟨_, rfl⟩
  obtain ⟨⟨v, m1⟩, hv⟩ : ∃ r, doD u (l.drop n) = r := ⟨_, rfl⟩
  have hlu : u.bytes.length ≤ 600000 ∧ u.pending.length ≤ 100 := by have := doD_len d (l.take n); rw [hu] at this; exact this
  have htl : (l.take n).length ≤ 9223372036854775807 := by simp; omega
  have hdl : (l.drop n).length ≤ 9223372036854775807 := by simp; omega
  refine TC_draw mixed (by decide +kernel) (fun _ _ _ _ _ _ h => h) sbp ?_
  all_goals ((refine TA_ps 0 sbp ?_; ((refine pw_load (i := 1) rfl rfl rfl ?_)); refine TA_nv ?_))
  all_goals ((refine TA_ps 1 sbp ?_; ((refine pw_mv ?_)); refine TA_nv ?_))
  all_goals ((refine TA_ps 2 sbp ?_; ((refine pw_mv ?_)); refine TA_nv ?_))
  all_goals ((refine TA_ps 3 sbp ?_; ((refine pw_slice_take (xs := l) (m := n) rfl memt rfl rfl rfl hn (fun A13 c13 => ?_))); refine TA_nv ?_))
  -- left: [4, 5, 6, 7, 8, 9, 10]; ready: [4, 8]: ['call', 'alloc']
  refine cutE (G := ?G15) ?ha15 ?hb15
  case ha15 =>
    intro hG
    refine TA_common _ (List.Sublist.refl _) kpp ?_
    refine TA_2 4 8 ?_ ?_
    · skip
      refine ow_callf arp ?_; refine do_k _ _ _ _ _ _ d (l.take n) hb hp htl memt memt memt (KD_lit u k1 hu (fun Ad cd Ad2 cd2 => ?_))
      refine ⟨.inl (fun w hs => hs.weaken sbp kpp), ?_⟩; refine TA_nv ?_
      refine TA_common _ (List.Sublist.refl _) kpp ?_
      all_goals (refine TA_ps 5 sbp ?_; ((refine pw_mv ?_)); refine TA_nv ?_)
      all_goals (refine TA_ps 6 sbp ?_; ((refine pw_extract rfl rfl ?_)); refine TA_nv ?_)
      all_goals (refine TA_ps 7 sbp ?_; ((refine pw_extract rfl rfl ?_)); refine TA_nv ?_)
      refine TA_o 8 ?_
      refine GW.ow rfl ?_; refine gw_alloc clp (fun bZ => ?_)
      refine ⟨.inl (fun w hs => hs.weaken sbp kpp), ?_⟩; refine TA_nv ?_
      refine TA_pre (H' := .blk bZ [.slice none 0 0, .slice none 0 0] 45 :: .blk b19 [.slice A5 e1.bytes.length c5, .slice A6 e1.pending.length c6] 45 :: .blk b0 [.slice A0 d.bytes.length c0, .slice A2 d.pending.length c2] 45 :: H) (R' := dvR Ad cd Ad2 cd2 u (Sl (.slice A13 (l.take n).length c13) (l.take n) :: dvR A5 c5 A6 c6 e1 R)) (fun w hs => hs.weaken sbp kpp) ?_
      refine TA_common _ (List.Sublist.refl _) kpp ?_
      exact hG Ad cd Ad2 cd2 bZ
    · skip
      refine GW.ow rfl ?_; refine gw_alloc clp (fun bZ => ?_)
      refine ⟨.inl (fun w hs => hs.weaken sbp kpp), ?_⟩; refine TA_nv ?_
      refine TA_o 4 ?_
      refine ow_callf arp ?_; refine do_k _ _ _ _ _ _ d (l.take n) hb hp htl memt memt memt (KD_lit u k1 hu (fun Ad cd Ad2 cd2 => ?_))
      refine ⟨.inl (fun w hs => hs.weaken sbp kpp), ?_⟩; refine TA_nv ?_
      refine TA_common _ (List.Sublist.refl _) kpp ?_
      all_goals (refine TA_ps 5 sbp ?_; ((refine pw_mv ?_)); refine TA_nv ?_)
      all_goals (refine TA_ps 6 sbp ?_; ((refine pw_extract rfl rfl ?_)); refine TA_nv ?_)
      all_goals (refine TA_ps 7 sbp ?_; ((refine pw_extract rfl rfl ?_)); refine TA_nv ?_)
      refine TA_pre (H' := .blk bZ [.slice none 0 0, .slice none 0 0] 45 :: .blk b19 [.slice A5 e1.bytes.length c5, .slice A6 e1.pending.length c6] 45 :: .blk b0 [.slice A0 d.bytes.length c0, .slice A2 d.pending.length c2] 45 :: H) (R' := dvR Ad cd Ad2 cd2 u (Sl (.slice A13 (l.take n).length c13) (l.take n) :: dvR A5 c5 A6 c6 e1 R)) (fun w hs => hs.weaken sbp kpp) ?_
      refine TA_common _ (List.Sublist.refl _) kpp ?_
      exact hG Ad cd Ad2 cd2 bZ
  case hb15 =>
    intro A14 c14 A14b c14b bZ15
    refine TA_common _ (List.Sublist.refl _) kpp ?_
    refine TA_g 9 ?_
    refine gw_store (i := 0) rfl clp rfl (by rfl) (by simp) (by simp [Value.oneCell']) ?_
    refine ⟨.inl (fun w hs => hs.weaken sbp kpp), ?_⟩
    refine TA_nv ?_
    refine TA_hq ?_
    all_goals ((refine TA_ps 10 sbp ?_; ((refine pw_as ?_)); refine TA_nv ?_))
    all_goals refine TA_d ?_
    apply En_then
    refine TC_weaken (.blk bZ15 [.slice A14 u.bytes.length c14, .slice A14b u.pending.length c14b] 45 :: .blk b19 [.slice A5 e1.bytes.length c5, .slice A6 e1.pending.length c6] 45 :: .blk b0 [.slice A0 d.bytes.length c0, .slice A2 d.pending.length c2] 45 :: H) (dvR A14 c14 A14b c14b u (dvR A5 c5 A6 c6 e1 R)) (fun w hs => hs.weaken sbp kpp) ?_
    apply TC_seq
    refine TC_draw mixed (by decide +kernel) (fun _ _ _ _ _ _ h => h) sbp ?_
    all_goals ((refine TA_ps 0 sbp ?_; ((refine pw_load (i := 0) rfl rfl rfl ?_)); refine TA_nv ?_))
    all_goals ((refine TA_ps 1 sbp ?_; ((refine pw_mv ?_)); refine TA_nv ?_))
    all_goals ((refine TA_ps 2 sbp ?_; ((refine pw_mv ?_)); refine TA_nv ?_))
    all_goals ((refine TA_ps 3 sbp ?_; ((refine pw_slice_drop (xs := l) (m := n) rfl memt rfl rfl rfl hn (fun A15 c15 => ?_))); refine TA_nv ?_))
    -- left: [4, 5, 6, 7, 8, 9, 10]; ready: [4, 8]: ['call', 'alloc']
    refine cutE (G := ?G16) ?ha16 ?hb16
    case ha16 =>
      intro hG
      refine TA_common _ (List.Sublist.refl _) kpp ?_
      refine TA_2 4 8 ?_ ?_
      · skip
        refine ow_callf arp ?_; refine do_k _ _ _ _ _ _ u (l.drop n) (by omega) (by omega) hdl memt memt memt (KD_lit v m1 hv (fun Ad cd Ad2 cd2 => ?_))
        refine ⟨.inl (fun w hs => hs.weaken sbp kpp), ?_⟩; refine TA_nv ?_
        refine TA_common _ (List.Sublist.refl _) kpp ?_
        all_goals (refine TA_ps 5 sbp ?_; ((refine pw_mv ?_)); refine TA_nv ?_)
        all_goals (refine TA_ps 6 sbp ?_; ((refine pw_extract rfl rfl ?_)); refine TA_nv ?_)
        all_goals (refine TA_ps 7 sbp ?_; ((refine pw_extract rfl rfl ?_)); refine TA_nv ?_)
        refine TA_o 8 ?_
        refine GW.ow rfl ?_; refine gw_alloc clp (fun bZ => ?_)
        refine ⟨.inl (fun w hs => hs.weaken sbp kpp), ?_⟩; refine TA_nv ?_
        refine TA_pre (H' := .blk bZ [.slice none 0 0, .slice none 0 0] 45 :: .blk bZ15 [.slice A14 u.bytes.length c14, .slice A14b u.pending.length c14b] 45 :: .blk b19 [.slice A5 e1.bytes.length c5, .slice A6 e1.pending.length c6] 45 :: .blk b0 [.slice A0 d.bytes.length c0, .slice A2 d.pending.length c2] 45 :: H) (R' := dvR Ad cd Ad2 cd2 v (Sl (.slice A15 (l.drop n).length c15) (l.drop n) :: dvR A14 c14 A14b c14b u (dvR A5 c5 A6 c6 e1 R))) (fun w hs => hs.weaken sbp kpp) ?_
        refine TA_common _ (List.Sublist.refl _) kpp ?_
        exact hG Ad cd Ad2 cd2 bZ
      · skip
        refine GW.ow rfl ?_; refine gw_alloc clp (fun bZ => ?_)
        refine ⟨.inl (fun w hs => hs.weaken sbp kpp), ?_⟩; refine TA_nv ?_
        refine TA_o 4 ?_
        refine ow_callf arp ?_; refine do_k _ _ _ _ _ _ u (l.drop n) (by omega) (by omega) hdl memt memt memt (KD_lit v m1 hv (fun Ad cd Ad2 cd2 => ?_))
        refine ⟨.inl (fun w hs => hs.weaken sbp kpp), ?_⟩; refine TA_nv ?_
        refine TA_common _ (List.Sublist.refl _) kpp ?_
        all_goals (refine TA_ps 5 sbp ?_; ((refine pw_mv ?_)); refine TA_nv ?_)
        all_goals (refine TA_ps 6 sbp ?_; ((refine pw_extract rfl rfl ?_)); refine TA_nv ?_)
        all_goals (refine TA_ps 7 sbp ?_; ((refine pw_extract rfl rfl ?_)); refine TA_nv ?_)
        refine TA_pre (H' := .blk bZ [.slice none 0 0, .slice none 0 0] 45 :: .blk bZ15 [.slice A14 u.bytes.length c14, .slice A14b u.pending.length c14b] 45 :: .blk b19 [.slice A5 e1.bytes.length c5, .slice A6 e1.pending.length c6] 45 :: .blk b0 [.slice A0 d.bytes.length c0, .slice A2 d.pending.length c2] 45 :: H) (R' := dvR Ad cd Ad2 cd2 v (Sl (.slice A15 (l.drop n).length c15) (l.drop n) :: dvR A14 c14 A14b c14b u (dvR A5 c5 A6 c6 e1 R))) (fun w hs => hs.weaken sbp kpp) ?_
        refine TA_common _ (List.Sublist.refl _) kpp ?_
        exact hG Ad cd Ad2 cd2 bZ
    case hb16 =>
      intro A16 c16 A16b c16b bZ16
      refine TA_common _ (List.Sublist.refl _) kpp ?_
      refine TA_g 9 ?_
      refine gw_store (i := 0) rfl clp rfl (by rfl) (by simp) (by simp [Value.oneCell']) ?_
      refine ⟨.inl (fun w hs => hs.weaken sbp kpp), ?_⟩
      refine TA_nv ?_
      refine TA_hq ?_
      all_goals ((refine TA_ps 10 sbp ?_; ((refine pw_as ?_)); refine TA_nv ?_))
      all_goals refine TA_d ?_
      apply En_then
      refine TC_weaken (.blk bZ16 [.slice A16 v.bytes.length c16, .slice A16b v.pending.length c16b] 45 :: .blk bZ15 [.slice A14 u.bytes.length c14, .slice A14b u.pending.length c14b] 45 :: .blk b19 [.slice A5 e1.bytes.length c5, .slice A6 e1.pending.length c6] 45 :: .blk b0 [.slice A0 d.bytes.length c0, .slice A2 d.pending.length c2] 45 :: H) (dvR A16 c16 A16b c16b v (dvR A14 c14 A14b c14b u (dvR A5 c5 A6 c6 e1 R))) (fun w hs => hs.weaken sbp kpp) ?_
      by_cases hj : j1 = 0
      · subst hj
        obtain ⟨u', hu', hv', hcu, hce⟩ := doD_split hc hd n
        rw [hu] at hu'
        injection hu' with hu1 hu2
        subst hu1 hu2
        rw [hv] at hv'
        injection hv' with hv1 hv2
        subst hv1 hv2
        have hpe := (checkD_spec hce).2.2.2.1
        repeat' (first | (apply T_bin; exact rfl; refine pw_neq rfl rfl (fun h => absurd rfl h) (fun _ => ?_); refine T_nv ?_) | (apply T_bin; exact rfl; refine pw_eql rfl rfl (fun _ => ?_) (fun h => absurd rfl h); refine T_nv ?_) | (refine T_ow rfl ?_; refine ow_callf arp ?_; refine sameDrive_k _ _ _ _ _ _ _ _ v (by omega) memt memt memt memt ?_; refine T_nv ?_) | (apply TC_seq) | (apply TC_region) | (apply TC_ret) | (apply TC_skip) | (apply TC_cond_false; exact rfl) | (apply T_nil) | (apply En_then) | (apply T_load; exact rfl; ((first | refine pw_load (i := 0) rfl rfl rfl ?_ | refine pw_load (i := 2) rfl rfl rfl ?_)); refine T_nv ?_) | (refine T_pure rfl rfl ?_; ((first | refine pw_mv ?_ | refine pw_as ?_ | refine pw_pick_t rfl evp ?_)); refine T_nv ?_))
        exact En_fin (.inl rfl) (res1 rfl (rv_tmp rfl)) (fin_K H R (fun w hs => hs.weaken sbp kpp) k)
      · skip
        repeat' (first | (apply T_bin; exact rfl; refine pw_neq rfl rfl (fun _ => ?_) (fun h => absurd h hj); refine T_nv ?_) | (apply TC_seq) | (apply TC_region) | (apply TC_ret) | (apply TC_cond_true; exact rfl) | (apply T_nil) | (apply En_then) | (apply En_then_ret) | (refine T_pure rfl rfl ?_; ((first | refine pw_mv ?_ | refine pw_as ?_)); refine T_nv ?_))
        exact En_fin (.inl rfl) (res1 rfl (rv_tmp rfl)) (fin_K H R (fun w hs => hs.weaken sbp kpp) k)
end Go.Proofs.Ytggdljhmbckpmaa
