/- Records, Last: walks. -/
import Derived.Test.YtggdljhmbckpmaaF11
import Derived.Test.YtggdljhmbckpmaaA14
set_option linter.unusedVariables false
set_option linter.unusedSimpArgs false
namespace Go.Proofs.Ytggdljhmbckpmaa
open Go Go.RowKit
set_option maxRecDepth 100000
set_option maxHeartbeats 800000

theorem current_k' {w0 : World} {H : List Hp} {R : List MP} {K : Value → List Hp → List MP → Prop} (A : Option Addr) (m c : Nat) (xs : List UInt8) (hml : m = xs.length) (hb : xs.length ≤ 600000) (hm : Sl (.slice A m c) xs ∈ R)
    (k : ∀ A' c', K (.tuple #[.slice A' (curB xs).1.length c', .int .i64 ((curB xs).2 : Int)]) H (Sl (.slice A' (curB xs).1.length c') (curB xs).1 :: R)) : CallsK Try.prog w0 49 #[.slice A m c] H R K := by
  subst hml; exact current_k A c xs hb hm k

def Rc.toR (r : Rc) : RecD := ⟨r.at_, r.epoch, r.seq, r.data.length⟩
def recordsD (d : Drive) : List RecD × Int := if checkD d then ((curB (hasB d)).1.map Rc.toR, 0) else ([], 301)
/-- Records and an errno are returned, the records for good. -/
def KR (K : Value → List Hp → List MP → Prop) (r : List RecD × Int) (H : List Hp) (R : List MP) : Prop := ∀ A c, K (.tuple #[.slice A r.1.length c, .int .i64 r.2]) H (Sl (.slice A r.1.length c) r.1 :: R)
theorem KR_eq {K : Value → List Hp → List MP → Prop} {r r' : List RecD × Int} {H : List Hp} {R : List MP} (e : r = r') (h : KR K r H R) : KR K r' H R := e ▸ h
theorem recs_len (b : List UInt8) (limit : Nat) (hl : limit ≤ 600000) : ∀ m at_ seq ep, at_ ≤ limit → at_ + (recL b limit m at_ seq ep).length ≤ limit
  | 0, at_, seq, ep, h => by simp [recL]; omega
  | m + 1, at_, seq, ep, h => by
    unfold recL
    split
    · rename_i hc
      obtain ⟨h1, h2, h3, h4⟩ := recA_ok hl hc.1
      have := recs_len b limit hl m (recA b at_ limit).1.stop (seq + 1) (some (recA b at_ limit).1.epoch) h3
      simp only [List.length_cons]; omega
    · simp; omega
theorem recsB_len {b : List UInt8} {h : Nat} (hb : b.length ≤ 600000) (hh : h < 2) : (recsB b h).length ≤ 600000 := by
  have := recs_len b ((h + 1) * b.length / 2) (by rcases (show h = 0 ∨ h = 1 by omega) with rfl | rfl <;> simp <;> omega) (b.length + 1) (h * b.length / 2) 0 none (by rcases (show h = 0 ∨ h = 1 by omega) with rfl | rfl <;> simp <;> omega)
  have h2 : (h + 1) * b.length / 2 ≤ 600000 := by rcases (show h = 0 ∨ h = 1 by omega) with rfl | rfl <;> simp <;> omega
  unfold recsB
  omega
theorem curB_len {b : List UInt8} (hb : b.length ≤ 600000) : (curB b).1.length ≤ 600000 := by
  have h0 := recsB_len (h := 0) hb (by omega)
  have h1 := recsB_len (h := 1) hb (by omega)
  have key : ∀ h, h ≤ 2 → (curN b h).1.length ≤ 600000 := by
    intro h hh
    induction h with
    | zero => simp [curN]
    | succ h ih =>
      unfold curN
      split
      · rcases (show h = 0 ∨ h = 1 by omega) with rfl | rfl
        · exact h0
        · exact h1
      · exact ih (by omega)
  exact key 2 (by omega)

theorem records_k {w0 : World} {H : List Hp} {R : List MP} {K : Value → List Hp → List MP → Prop} (A0 : Option Addr) (c0 : Nat) (A2 : Option Addr) (c2 : Nat) (d : Drive) (hb : d.bytes.length ≤ 9223372036854775807) (hp : d.pending.length ≤ 9223372036854775807)
    (hm : Sl (.slice A0 d.bytes.length c0) d.bytes ∈ R) (hm2 : Sl (.slice A2 d.pending.length c2) d.pending ∈ R)
    (k : KR K (recordsD d) H R) : CallsK Try.prog w0 15 #[dv A0 c0 A2 c2 d] H R K := by
  refine calls_of Try.func15 rfl Try.ntmps15 nep ?_
  repeat' (first | (refine T_ow rfl ?_; refine ow_callf arp ?_; refine check_k _ _ _ _ d hb hp hm hm2 ?_; refine T_nv ?_) | (apply TC_seq) | (apply TC_region) | (apply TC_ret) | (apply TC_skip) | (apply TC_cond_true; exact rfl) | (apply TC_cond_false; exact rfl) | (apply T_nil) | (apply En_then) | (apply En_then_ret) | (apply T_load; exact rfl; ((refine pw_load (i := 0) rfl rfl rfl ?_)); refine T_nv ?_) | (apply T_bin; exact rfl; ((refine pw_neq rfl rfl (fun h => ?_) (fun h => ?_))) <;> (refine T_nv ?_)) | (refine T_pure rfl rfl ?_; ((first | refine pw_mv ?_ | refine pw_as ?_)); refine T_nv ?_) | (refine T_gen rfl rfl ?_; ((refine gw_box clp (fun b => ?_))); refine T_nv ?_))
  · have hc : checkD d = false := by unfold errD at h; cases hc : checkD d <;> simp_all
    have e : errD d = 301 := by unfold errD; rw [hc]; rfl
    rw [e]
    refine En_fin (.inl rfl) (res2 rfl (rv_tmp rfl) (rv_tmp rfl)) (fin_K H (Sl (.slice none 0 0) ([] : List RecD) :: R) (fun w hs => (hs.weaken sbp (fun _ h => h)).sl_nil RecD) ?_)
    exact KR_eq (r' := ([], 301)) (by unfold recordsD; rw [hc]; rfl) k none 0
  have hc : checkD d = true := by unfold errD at h; cases hc : checkD d <;> simp_all
  have hlen := hasB_length hc
  have h6 := (checkD_spec hc).2.1
  have hcl := curB_len (b := hasB d) (by omega)
  obtain ⟨rs, hrs⟩ : ∃ rs, (curB (hasB d)).1 = rs := ⟨_, rfl⟩
  rw [hrs] at hcl
  have k' := KR_eq (r' := (rs.map Rc.toR, 0)) (by unfold recordsD; rw [if_pos hc, hrs]) k
  repeat' (first | (refine T_ow rfl ?_; refine ow_callf arp ?_; refine has_k _ _ _ _ d hc hm hm2 (fun v => ?_); refine T_nv ?_; refine T_stays 0 rfl (fun A' c' hv => ?_); subst hv; refine T_hq ?_) | (refine T_ow rfl ?_; refine ow_callf arp ?_; refine current_k' _ _ _ (hasB d) rfl (by omega) memt (fun A3 c3 => ?_); rw [hrs]; refine T_nv ?_) | (apply TC_seq) | (apply TC_region) | (apply TC_block) | (apply T_nil) | (apply En_then) | (refine T_pure rfl rfl ?_; ((first | refine pw_mv ?_ | refine pw_as ?_ | refine pw_len rfl ?_ | refine pw_extract rfl rfl ?_)); refine T_nv ?_))
  refine TC_nilrow 50 4 ?_
  refine TC_learn (Cx [] ([] : List RecD)) (fun s _ => Cx_nil s) ?_
  refine TC_weaken _ (Cx [] ([] : List RecD) :: Sl (.slice A3 rs.length c3) rs :: R) (fun w hs => hs.weaken (List.Sublist.refl _) kpp) ?_
  refine TC_loopS [2, 8, 22, 23, 24, 25, 26, 27, 28, 29, 30, 31, 32, 33, 34, 35, 36, 37, 38, 39] (fun m j H' R' => ∃ i v cs, i + m = rs.length ∧ j 22 = .int .i64 ((i : Nat) : Int) ∧ j 2 = v ∧ H' = .row v 50 4 i cs :: .blk b [.slice A0 d.bytes.length c0, .slice A2 d.pending.length c2] 45 :: H ∧ R' = Cx cs ((rs.take i).map Rc.toR) :: Sl (.slice A3 rs.length c3) rs :: R) rs.length sjp ⟨0, _, [], by omega, rfl, rfl, rfl, rfl⟩ ?_
  rintro m j H' R' ⟨i, v, cs, hi, h22, h2, hH, hR⟩
  subst hH hR
  refine TC_env (by simp only [setJ, List.foldl_cons, List.foldl_nil, List.set_cons_succ, List.set_cons_zero, h22, h2]; rfl) ?_
  repeat' (first | (refine T_pure rfl rfl ?_; refine pw_index_rcN rfl rfl memt (List.getElem?_eq_getElem (by omega)) (fun b' o A4 c4 hok => ?_); refine T_nv ?_) | (apply TC_seq) | (apply TC_region) | (apply TC_block) | (apply TC_ret) | (apply TC_skip) | (apply TC_exit) | (apply TC_cond_true; exact rfl) | (apply TC_cond_false; exact rfl) | (apply T_nil) | (apply En_then) | (apply En_then_exit) | (apply En_block_exit) | (apply T_load; exact rfl; ((first | refine pw_load (i := 0) rfl rfl rfl ?_ | refine pw_load_at0 rfl memr rfl ?_)); refine T_nv ?_) | (apply T_bin; exact rfl; ((refine pw_lss rfl rfl (fun h => ?_) (fun h => ?_))) <;> (refine T_nv ?_)) | (apply T_store; exact rfl; ((refine gw_store (i := 0) rfl clp rfl (by rfl) (by simp) (by simp [Value.oneCell']) ?_)); refine T_nv ?_; refine T_hq ?_) | (refine T_pure rfl rfl ?_; ((first | refine pw_mv ?_ | refine pw_as ?_ | refine pw_fieldAddr rfl ?_ | refine pw_len rfl ?_ | refine pw_build bldp ?_)); refine T_nv ?_) | (refine T_gen rfl rfl ?_; ((first | refine gw_alloc clp (fun b => ?_) | refine gw_buildSlice (by decide) prtp rfl (fun b => ?_))); refine T_nv ?_))
  · refine T_gen rfl rfl ?_
    refine gw_append_blk 2 0 rfl rfl rfl rfl (by decide) rfl (by simp [Value.oneCell']) (by omega) (by omega) (fun v' => ?_)
    refine T_nv ?_; refine T_hq ?_
    have hI : InI ((rs[i]).at_ : Int) ∧ InI ((rs[i]).epoch : Int) ∧ InI ((rs[i]).seq : Int) ∧ InI ((rs[i]).data.length : Int) := by
      have h1 := hok.1
      have h2 := hok.2.1
      have h3 := hok.2.2
      simp only [Rc.stop] at h1
      simp only [InI]
      omega
    refine T_learn (Cx (cs ++ [.int .i64 (rs[i].at_ : Int), .int .i64 (rs[i].epoch : Int), .int .i64 (rs[i].seq : Int), .int .i64 (rs[i].data.length : Int)]) ((rs.take i).map Rc.toR ++ [rs[i].toR])) (fun s hs => Cx_snoc (hs (Cx cs ((rs.take i).map Rc.toR)) memt) ⟨rfl, hI⟩) ?_
    repeat' (first | (apply TC_region) | (apply T_nil) | (apply En_then) | (apply En_block) | (apply T_bin; exact rfl; ((refine pw_add64 rfl rfl (by omega) (by omega) ?_)); refine T_nv ?_) | (refine T_pure rfl rfl ?_; ((first | refine pw_mv ?_ | refine pw_as ?_)); refine T_nv ?_))
    refine En_backS (m - 1) _ (Cx (cs ++ [.int .i64 (rs[i].at_ : Int), .int .i64 (rs[i].epoch : Int), .int .i64 (rs[i].seq : Int), .int .i64 (rs[i].data.length : Int)]) ((rs.take (i + 1)).map Rc.toR) :: Sl (.slice A3 rs.length c3) rs :: R) (by omega) sjp ⟨i + 1, _, _, by omega, rfl, rfl, rfl, rfl⟩ (fun w hs => hs.weaken sbp ?_)
    rw [List.take_succ_eq_append_getElem (show i < rs.length by omega), List.map_append, List.map_cons, List.map_nil]
    exact kpp
  · have hie : i = rs.length := by omega
    subst hie
    refine En_stays' 0 rfl rfl (by decide) (show Cx cs (rs.map Rc.toR) ∈ _ by rw [List.take_length]; exact List.mem_cons_self) (fun A5 c5 hv => ?_)
    subst hv
    refine En_fin (.inl rfl) (res2 rfl (rv_tmp rfl) (rv_tmp rfl)) (fin_K H _ (fun w hs => hs.weaken sbp kpp) (k' A5 c5))

def lastD (d : Drive) : List UInt8 × Int := if checkD d then (if (curB (hasB d)).1.length = 0 then ([], 302) else (((curB (hasB d)).1.getD ((curB (hasB d)).1.length - 1) Rc.zero).data, 0)) else ([], 301)
theorem clone_k' {w0 : World} {H : List Hp} {R : List MP} {K : Value → List Hp → List MP → Prop} (A : Option Addr) (m c : Nat) (xs : List UInt8) (hml : m = xs.length) (hb : xs.length ≤ 140737488355328) (hm : Sl (.slice A m c) xs ∈ R)
    (k : ∀ v', K v' (.row v' 5 1 xs.length (bytesV xs) :: H) R) : CallsK Try.prog w0 57 #[.slice A m c] H R K := by
  subst hml; exact clone_k A c xs hb hm k
theorem last_k {w0 : World} {H : List Hp} {R : List MP} {K : Value → List Hp → List MP → Prop} (A0 : Option Addr) (c0 : Nat) (A2 : Option Addr) (c2 : Nat) (d : Drive) (hb : d.bytes.length ≤ 9223372036854775807) (hp : d.pending.length ≤ 9223372036854775807)
    (hm : Sl (.slice A0 d.bytes.length c0) d.bytes ∈ R) (hm2 : Sl (.slice A2 d.pending.length c2) d.pending ∈ R)
    (k : KB K (lastD d) H R) : CallsK Try.prog w0 34 #[dv A0 c0 A2 c2 d] H R K := by
  refine calls_of Try.func34 rfl Try.ntmps34 nep ?_
  repeat' (first | (refine T_ow rfl ?_; refine ow_callf arp ?_; refine check_k _ _ _ _ d hb hp hm hm2 ?_; refine T_nv ?_) | (apply TC_seq) | (apply TC_region) | (apply TC_ret) | (apply TC_skip) | (apply TC_cond_true; exact rfl) | (apply TC_cond_false; exact rfl) | (apply T_nil) | (apply En_then) | (apply En_then_ret) | (apply T_load; exact rfl; ((refine pw_load (i := 0) rfl rfl rfl ?_)); refine T_nv ?_) | (apply T_bin; exact rfl; ((refine pw_neq rfl rfl (fun h => ?_) (fun h => ?_))) <;> (refine T_nv ?_)) | (refine T_pure rfl rfl ?_; ((first | refine pw_mv ?_ | refine pw_as ?_)); refine T_nv ?_) | (refine T_gen rfl rfl ?_; ((refine gw_box clp (fun b => ?_))); refine T_nv ?_))
  · have hc : checkD d = false := by unfold errD at h; cases hc : checkD d <;> simp_all
    have e : errD d = 301 := by unfold errD; rw [hc]; rfl
    rw [e]
    refine En_fin (.inl rfl) (res2 rfl (rv_tmp rfl) (rv_tmp rfl)) (fin_K H (Sl (.slice none 0 0) ([] : List UInt8) :: R) (fun w hs => (hs.weaken sbp (fun _ h => h)).sl_nil UInt8) ?_)
    exact KB_eq (r' := ([], 301)) (by unfold lastD; rw [hc]; rfl) k none 0
  have hc : checkD d = true := by unfold errD at h; cases hc : checkD d <;> simp_all
  have hlen := hasB_length hc
  have h6 := (checkD_spec hc).2.1
  have hcl := curB_len (b := hasB d) (by omega)
  obtain ⟨rs, hrs⟩ : ∃ rs, (curB (hasB d)).1 = rs := ⟨_, rfl⟩
  rw [hrs] at hcl
  have k' := KB_eq (r' := if rs.length = 0 then ([], 302) else ((rs.getD (rs.length - 1) Rc.zero).data, 0)) (by unfold lastD; rw [if_pos hc, hrs]) k
  repeat' (first | (refine T_ow rfl ?_; refine ow_callf arp ?_; refine has_k _ _ _ _ d hc hm hm2 (fun v => ?_); refine T_nv ?_; refine T_stays 0 rfl (fun A' c' hv => ?_); subst hv; refine T_hq ?_) | (refine T_ow rfl ?_; refine ow_callf arp ?_; refine current_k' _ _ _ (hasB d) rfl (by omega) memt (fun A3 c3 => ?_); rw [hrs]; refine T_nv ?_) | (apply TC_seq) | (apply TC_region) | (apply TC_ret) | (apply TC_skip) | (apply TC_cond_true; exact rfl) | (apply TC_cond_false; exact rfl) | (apply T_nil) | (apply En_then) | (apply En_then_ret) | (apply T_bin; exact rfl; ((refine pw_sub64 rfl rfl (by omega) (by omega) ?_)); refine T_nv ?_) | (apply T_bin; exact rfl; ((refine pw_eql rfl rfl (fun h => ?_) (fun h => ?_))) <;> (refine T_nv ?_)) | (refine T_pure rfl rfl ?_; ((first | refine pw_mv ?_ | refine pw_as ?_ | refine pw_len rfl ?_ | refine pw_extract rfl rfl ?_)); refine T_nv ?_))
  · rw [if_pos (by omega)] at k'
    refine En_fin (.inl rfl) (res2 rfl (rv_tmp rfl) (rv_tmp rfl)) (fin_K H (Sl (.slice none 0 0) ([] : List UInt8) :: R) (fun w hs => (hs.weaken sbp kpp).sl_nil UInt8) (k' none 0))
  · rw [if_neg (by omega)] at k'
    have e : rs.getD (rs.length - 1) Rc.zero = rs[rs.length - 1]'(by omega) := by simp [List.getD, show rs.length - 1 < rs.length by omega]
    rw [e] at k'
    have hi : ((rs.length : Int) - 1) = ((rs.length - 1 : Nat) : Int) := by omega
    repeat' (first | (rw [hi]; refine T_pure rfl rfl ?_; refine pw_index_rcN rfl rfl memt (List.getElem?_eq_getElem (by omega)) (fun b' o A4 c4 hok => ?_); refine T_nv ?_) | (refine T_ow rfl ?_; refine ow_callf arp ?_; refine clone_k' _ _ _ (rs[rs.length - 1]'(by omega)).data rfl (by have h1 := hok.1; simp only [Rc.stop] at h1; omega) memt (fun v => ?_); refine T_nv ?_; refine T_stays 0 rfl (fun A' c' hv => ?_); subst hv; refine T_hq ?_) | (apply TC_ret) | (apply T_nil) | (apply En_then) | (apply T_load; exact rfl; ((refine pw_load_at rfl memr rfl ?_)); refine T_nv ?_) | (refine T_pure rfl rfl ?_; ((first | refine pw_as ?_ | refine pw_fieldAddr rfl ?_)); refine T_nv ?_))
    refine En_fin (.inl rfl) (res2 rfl (rv_tmp rfl) (rv_tmp rfl)) (fin_K H _ (fun w hs => hs.weaken sbp kpp) (k' _ _))
end Go.Proofs.Ytggdljhmbckpmaa
