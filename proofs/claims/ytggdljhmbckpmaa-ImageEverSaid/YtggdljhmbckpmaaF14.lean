/- Append: walks. -/
import Derived.Test.YtggdljhmbckpmaaA13J
import Derived.Test.YtggdljhmbckpmaaF11J
set_option linter.unusedVariables false
set_option linter.unusedSimpArgs false
namespace Go.Proofs.Ytggdljhmbckpmaa
open Go Go.RowKit
set_option maxRecDepth 100000
set_option maxHeartbeats 1600000

/-- Operations and an errno are returned, the operations for good. -/
def KO (K : Value → List Hp → List MP → Prop) (r : List DO × Int) (H : List Hp) (R : List MP) : Prop := ∀ A c, K (.tuple #[.slice A r.1.length c, .int .i64 r.2]) H (Sl (.slice A r.1.length c) r.1 :: R)
theorem KO_eq {K : Value → List Hp → List MP → Prop} {r r' : List DO × Int} {H : List Hp} {R : List MP} (e : r = r') (h : KO K r H R) : KO K r' H R := e ▸ h
structure Spot where
  at_ : Nat
  epoch : Nat
  seq : Nat
  half : Nat
/-- Where the next record comes to stand. -/
def spotB (l : List Rc) (half size n : Nat) : Spot :=
  if l.length = 0 then ⟨0, 1, 0, half⟩
  else if (half + 1) * size < n + (l.getD (l.length - 1) Rc.zero).stop then ⟨(1 - half) * size, (l.getD (l.length - 1) Rc.zero).epoch + 1, 0, 1 - half⟩
  else ⟨(l.getD (l.length - 1) Rc.zero).stop, (l.getD (l.length - 1) Rc.zero).epoch, (l.getD (l.length - 1) Rc.zero).seq + 1, half⟩
def opsB (p : Spot) (size : Nat) (data : List UInt8) : List DO × Int :=
  if 2147483647 < p.epoch ∨ 2147483647 < p.seq then ([], 2)
  else ([⟨1, p.at_, [0]⟩, ⟨2, 0, []⟩, ⟨1, (p.at_ + 1 : Nat), (wholeB p.epoch p.seq data).drop 1 ++ (if p.at_ + (21 + data.length) < (p.half + 1) * size then [0] else [])⟩, ⟨2, 0, []⟩, ⟨1, p.at_, [167]⟩, ⟨2, 0, []⟩], 0)
def appendD (d : Drive) (data : List UInt8) : List DO × Int :=
  if checkD d then (if (hasB d).length / 2 < 21 + data.length then ([], 303) else opsB (spotB (curB (hasB d)).1 (curB (hasB d)).2 ((hasB d).length / 2) (21 + data.length)) ((hasB d).length / 2) data) else ([], 301)
theorem curB_half (b : List UInt8) : (curB b).2 ≤ 1 := by
  unfold curB
  have key : ∀ h, (curN b h).2 ≤ h - 1 := by
    intro h
    induction h with
    | zero => simp [curN]
    | succ h ih =>
      unfold curN
      split
      · simp
      · omega
  exact key 2

theorem appendW_k {w0 : World} {H : List Hp} {R : List MP} {K : Value → List Hp → List MP → Prop} (at_ : Int) (A : Option Addr) (m c : Nat)
    (k : K (.agg #[.int .i64 1, .int .i64 at_, .slice A m c]) H R) : CallsK Try.prog w0 53 #[.int .i64 at_, .slice A m c] H R K := by
  refine calls_of Try.func53 rfl Try.ntmps53 nep ?_
  repeat' (first | (apply TC_seq) | (apply TC_region) | (apply TC_ret) | (apply T_nil) | (apply En_then) | (apply T_store; exact rfl; ((refine gw_store (i := 0) rfl clp rfl (by rfl) (by simp) (by simp [Value.oneCell']) ?_)); refine T_nv ?_; refine T_hq ?_) | (refine T_pure rfl rfl ?_; ((first | refine pw_mv ?_ | refine pw_build bldp ?_)); refine T_nv ?_) | (refine T_gen rfl rfl ?_; ((refine gw_alloc clp (fun b => ?_))); refine T_nv ?_))
  refine En_fin (.inl rfl) (res1 rfl (rv_cell (i := 0) rfl rfl rfl)) (fin_K H R (fun w hs => hs.weaken sbp kpp) k)

theorem append_k {w0 : World} {H : List Hp} {R : List MP} {K : Value → List Hp → List MP → Prop} (A0 : Option Addr) (c0 : Nat) (A2 : Option Addr) (c2 : Nat) (A3 : Option Addr) (c3 : Nat) (d : Drive) (data : List UInt8) (hb : d.bytes.length ≤ 9223372036854775807) (hp : d.pending.length ≤ 9223372036854775807) (hdl : data.length ≤ 9223372036854770000)
    (hm : Sl (.slice A0 d.bytes.length c0) d.bytes ∈ R) (hm2 : Sl (.slice A2 d.pending.length c2) d.pending ∈ R) (hm3 : Sl (.slice A3 data.length c3) data ∈ R)
    (k : KO K (appendD d data) H R) : CallsK Try.prog w0 16 #[dv A0 c0 A2 c2 d, .slice A3 data.length c3] H R K := by
  refine calls_of Try.func16 rfl Try.ntmps16 nep ?_
  repeat' (first | (refine T_ow rfl ?_; refine ow_callf arp ?_; refine check_k _ _ _ _ d hb hp hm hm2 ?_; refine T_nv ?_) | (apply TC_seq) | (apply TC_region) | (apply TC_ret) | (apply TC_skip) | (apply TC_cond_true; exact rfl) | (apply TC_cond_false; exact rfl) | (apply T_nil) | (apply En_then) | (apply En_then_ret) | (apply T_load; exact rfl; ((refine pw_load (i := 0) rfl rfl rfl ?_)); refine T_nv ?_) | (apply T_bin; exact rfl; ((refine pw_neq rfl rfl (fun h => ?_) (fun h => ?_))) <;> (refine T_nv ?_)) | (refine T_pure rfl rfl ?_; ((first | refine pw_mv ?_ | refine pw_as ?_)); refine T_nv ?_) | (refine T_gen rfl rfl ?_; ((refine gw_box clp (fun b => ?_))); refine T_nv ?_))
  · have hc : checkD d = false := by unfold errD at h; cases hc : checkD d <;> simp_all
    have e : errD d = 301 := by unfold errD; rw [hc]; rfl
    rw [e]
    refine En_fin (.inl rfl) (res2 rfl (rv_tmp rfl) (rv_tmp rfl)) (fin_K H (Sl (.slice none 0 0) ([] : List DO) :: R) (fun w hs => (hs.weaken sbp (fun _ h => h)).sl_nil DO) ?_)
    exact KO_eq (r' := ([], 301)) (by unfold appendD; rw [hc]; rfl) k none 0
  have hc : checkD d = true := by unfold errD at h; cases hc : checkD d <;> simp_all
  have hlen := hasB_length hc
  have h6 := (checkD_spec hc).2.1
  have hcl := curB_len (b := hasB d) (by omega)
  have hch := curB_half (hasB d)
  obtain ⟨rs, hrs⟩ : ∃ rs, (curB (hasB d)).1 = rs := ⟨_, rfl⟩
  obtain ⟨half, hhf⟩ : ∃ half, (curB (hasB d)).2 = half := ⟨_, rfl⟩
  obtain ⟨sz, hsz⟩ : ∃ sz, (hasB d).length / 2 = sz := ⟨_, rfl⟩
  have hszi : ((hasB d).length : Int) / 2 = (sz : Int) := by omega
  have hsz3 : sz ≤ 300000 := by omega
  rw [hrs] at hcl
  rw [hhf] at hch
  have k' := KO_eq (r' := if sz < 21 + data.length then ([], 303) else opsB (spotB rs half sz (21 + data.length)) sz data) (by unfold appendD; rw [if_pos hc, hrs, hhf, hsz]) k
  repeat' (first | (refine T_ow rfl ?_; refine ow_callf arp ?_; refine has_k _ _ _ _ d hc hm hm2 (fun v => ?_); refine T_nv ?_; refine T_stays 0 rfl (fun A' c' hv => ?_); subst hv; refine T_hq ?_) | ((with_reducible rw [hszi])) | (apply TC_seq) | (apply TC_region) | (apply TC_ret) | (apply TC_skip) | (apply TC_cond_true; exact rfl) | (apply TC_cond_false; exact rfl) | (apply T_nil) | (apply En_then) | (apply En_then_ret) | (apply T_bin; exact rfl; ((first | refine pw_add64 rfl rfl (by omega) (by omega) ?_ | refine pw_quo rfl rfl (by omega) (by omega) (by omega) ?_)); refine T_nv ?_) | (apply T_bin; exact rfl; ((refine pw_gtr rfl rfl (fun h => ?_) (fun h => ?_))) <;> (refine T_nv ?_)) | (refine T_pure rfl rfl ?_; ((first | refine pw_mv ?_ | refine pw_as ?_ | refine pw_len rfl ?_)); refine T_nv ?_))
  · rw [if_pos (by omega)] at k'
    refine En_fin (.inl rfl) (res2 rfl (rv_tmp rfl) (rv_tmp rfl)) (fin_K H (Sl (.slice none 0 0) ([] : List DO) :: R) (fun w hs => (hs.weaken sbp kpp).sl_nil DO) (k' none 0))
  rw [if_neg (by omega)] at k'
  refine T_ow rfl ?_; refine ow_callf arp ?_; refine current_k' _ _ _ (hasB d) rfl (by omega) memt (fun A4 c4 => ?_); rw [hrs, hhf]; refine T_nv ?_
  repeat' ((refine T_pure rfl rfl ?_; ((first | refine pw_mv ?_ | refine pw_as ?_ | refine pw_extract rfl rfl ?_)); refine T_nv ?_))
  apply T_nil; apply En_then; apply TC_seq; apply TC_region
  repeat' ((refine T_pure rfl rfl ?_; ((refine pw_as ?_)); refine T_nv ?_))
  apply T_nil; apply En_then
  have h01 : half = 0 ∨ half = 1 := by omega
  have hp1 : 0 ≤ ((half : Int) + 1) * (sz : Int) ∧ ((half : Int) + 1) * (sz : Int) ≤ 600000 := by
    rcases h01 with e | e <;> rw [e] <;> simp <;> omega
  have hp2 : 0 ≤ (1 - (half : Int)) * (sz : Int) ∧ (1 - (half : Int)) * (sz : Int) ≤ 600000 := by
    rcases h01 with e | e <;> rw [e] <;> simp <;> omega
  have hp4 : (1 - (half : Int)) * (sz : Int) = (((1 - half) * sz : Nat) : Int) ∧ (1 - (half : Int)) = ((1 - half : Nat) : Int) := by
    rcases h01 with e | e <;> rw [e] <;> simp
  have hp5 : sz ≤ (half + 1) * sz ∧ (1 - half + 1) * sz = (1 - half) * sz + sz :=
    ⟨Nat.le_mul_of_pos_left _ (by omega), by rw [Nat.add_mul, Nat.one_mul]⟩
  have hp3 : ((half : Int) + 1) * (sz : Int) = (((half + 1) * sz : Nat) : Int) := by push_cast; rfl
  refine TC_weaken _ (Sl (.slice A4 rs.length c4) rs :: R) (fun w hs => hs.weaken (List.Sublist.refl _) kpp) ?_
  refine TC_cutS [11, 12, 13, 14, 15, 16, 41, 42, 43, 44, 45, 46, 47, 48, 49, 50, 51, 52, 53, 54, 55, 56, 57, 58, 59, 60, 61, 62, 63, 64, 65, 66, 67, 68, 69, 70, 71, 72] (fun j H' R' => ∃ p : Spot, spotB rs half sz (21 + data.length) = p ∧ j 11 = .int .i64 (p.half : Int) ∧ j 12 = .int .i64 (p.at_ : Int) ∧ j 13 = .int .i64 (p.epoch : Int) ∧ j 14 = .int .i64 (p.seq : Int) ∧ H' = H ∧ R' = R ∧ p.at_ + 21 + data.length ≤ (p.half + 1) * sz ∧ p.half ≤ 1 ∧ p.epoch ≤ 4294967296 ∧ p.seq ≤ 4294967296) ?_ ?_
  · have hi : 0 < rs.length → ((rs.length : Int) - 1) = ((rs.length - 1 : Nat) : Int) := by omega
    repeat' (first | (rw [hi (by omega)]; refine T_pure rfl rfl ?_; refine pw_index_rcN rfl rfl memt (List.getElem?_eq_getElem (by omega)) (fun b' o A4 c4 hok => ?_); refine T_nv ?_) | (apply TC_seq) | (apply TC_region) | (apply TC_skip) | (apply TC_cond_true; exact rfl) | (apply TC_cond_false; exact rfl) | (apply T_nil) | (apply En_then) | (apply T_load; exact rfl; ((refine pw_load_at0 rfl memr rfl ?_)); refine T_nv ?_) | (apply T_bin; exact rfl; ((refine pw_sub64 rfl rfl (by omega) (by omega) ?_)); refine T_nv ?_) | (apply T_bin; exact rfl; ((refine pw_gtr rfl rfl (fun h => ?_) (fun h => ?_))) <;> (refine T_nv ?_)) | (apply T_store; exact rfl; ((refine gw_store (i := 0) rfl clp rfl (by rfl) (by simp) (by simp [Value.oneCell']) ?_)); refine T_nv ?_; refine T_hq ?_) | (refine T_pure rfl rfl ?_; ((first | refine pw_mv ?_ | refine pw_as ?_ | refine pw_len rfl ?_)); refine T_nv ?_) | (refine T_gen rfl rfl ?_; ((refine gw_alloc clp (fun b => ?_))); refine T_nv ?_))
    · have hlast : rs.getD (rs.length - 1) Rc.zero = rs[rs.length - 1]'(by omega) := by simp [List.getD, show rs.length - 1 < rs.length by omega]
      obtain ⟨la, hla⟩ : ∃ la, rs[rs.length - 1]'(by omega) = la := ⟨_, rfl⟩
      have hsp : spotB rs half sz (21 + data.length) = if (half + 1) * sz < 21 + data.length + la.stop then ⟨(1 - half) * sz, la.epoch + 1, 0, 1 - half⟩ else ⟨la.stop, la.epoch, la.seq + 1, half⟩ := by unfold spotB; rw [if_neg (by omega), hlast, hla]
      have HS := Go.Lib.hid hsp
      rw [hla] at hok ⊢
      clear hsp hlast hla
      have h1 := hok.1
      have h2 := hok.2.1
      have h3 := hok.2.2
      refine TC_draw mixed (by decide +kernel) (fun _ _ _ _ _ _ h => nomatch h.1) sbp ?_
      all_goals ((refine TA_ps 0 sbp ?_; ((refine pw_load (i := 0) rfl rfl rfl ?_)); refine TA_nv ?_))
      all_goals ((refine TA_ps 2 sbp ?_; ((refine pw_fieldAddr rfl ?_)); refine TA_nv ?_))
      all_goals ((refine TA_ps 3 sbp ?_; ((refine pw_load (i := 0) rfl rfl rfl ?_)); refine TA_nv ?_))
      all_goals ((refine TA_ps 4 sbp ?_; ((refine pw_fieldAddr rfl ?_)); refine TA_nv ?_))
      all_goals ((refine TA_ps 5 sbp ?_; ((refine pw_load (i := 0) rfl rfl rfl ?_)); refine TA_nv ?_))
      all_goals ((refine TA_ps 6 sbp ?_; ((refine pw_add64 rfl rfl (by omega) (by omega) ?_)); refine TA_nv ?_))
      -- left: [1, 7, 8, 9]; ready: [1]: ['call']
      refine TA_o 1 ?_
      refine ow_callf arp ?_; refine end_k A4 c4 la (by omega) ?_
      refine ⟨.inl (fun w hs => hs.weaken sbp kpp), ?_⟩; refine TA_nv ?_
      all_goals ((refine TA_ps 7 sbp ?_; ((refine pw_as ?_)); refine TA_nv ?_))
      all_goals ((refine TA_ps 8 sbp ?_; ((refine pw_as ?_)); refine TA_nv ?_))
      all_goals ((refine TA_ps 9 sbp ?_; ((refine pw_as ?_)); refine TA_nv ?_))
      all_goals refine TA_d ?_
      repeat' (first | (apply TC_seq) | (apply TC_region) | (apply TC_skip) | (apply TC_cond_true; exact rfl) | (apply TC_cond_false; exact rfl) | (apply T_nil) | (apply En_then) | (apply T_bin; exact rfl; ((first | refine pw_add64 rfl rfl (by omega) (by omega) ?_ | refine pw_sub64 rfl rfl (by omega) (by omega) ?_ | refine pw_mul64 rfl rfl (by omega) (by omega) ?_)); refine T_nv ?_) | (apply T_bin; exact rfl; ((refine pw_gtr rfl rfl (fun h => ?_) (fun h => ?_))) <;> (refine T_nv ?_)) | (refine T_pure rfl rfl ?_; ((first | refine pw_mv ?_ | refine pw_as ?_)); refine T_nv ?_))
      · skip
        refine TC_draw mixed (by decide +kernel) (fun _ _ _ _ _ _ h => nomatch h.1) sbp ?_
        all_goals ((refine TA_ps 0 sbp ?_; ((refine pw_mv ?_)); refine TA_nv ?_))
        all_goals ((refine TA_ps 1 sbp ?_; ((refine pw_mv ?_)); refine TA_nv ?_))
        all_goals ((refine TA_ps 2 sbp ?_; ((refine pw_mul64 rfl rfl (by omega) (by omega) ?_)); refine TA_nv ?_))
        all_goals ((refine TA_ps 3 sbp ?_; ((refine pw_fieldAddr rfl ?_)); refine TA_nv ?_))
        all_goals ((refine TA_ps 4 sbp ?_; ((refine pw_load (i := 0) rfl rfl rfl ?_)); refine TA_nv ?_))
        all_goals ((refine TA_ps 5 sbp ?_; ((refine pw_add64 rfl rfl (by omega) (by omega) ?_)); refine TA_nv ?_))
        all_goals ((refine TA_ps 6 sbp ?_; ((refine pw_as ?_)); refine TA_nv ?_))
        all_goals ((refine TA_ps 7 sbp ?_; ((refine pw_as ?_)); refine TA_nv ?_))
        all_goals ((refine TA_ps 8 sbp ?_; ((refine pw_as ?_)); refine TA_nv ?_))
        all_goals refine TA_d ?_
        refine En_midS H R sjp ⟨⟨(1 - half) * sz, la.epoch + 1, 0, 1 - half⟩, ?_, congrArg (Value.int .i64) hp4.2, congrArg (Value.int .i64) hp4.1, by rw [Int.natCast_succ]; rfl, rfl, rfl, rfl, by simp only; omega, by simp only; omega, by simp only; omega, by simp only; omega⟩ (fun w hs => hs.weaken sbp kpp)
        rw [HS.out, if_pos (by omega)]
      · refine En_midS H R sjp ⟨⟨la.stop, la.epoch, la.seq + 1, half⟩, ?_, rfl, rfl, rfl, by rw [Int.natCast_succ]; rfl, rfl, rfl, by simp only; omega, hch, by simp only; omega, by simp only; omega⟩ (fun w hs => hs.weaken sbp kpp)
        rw [HS.out, if_neg (by omega)]
    · refine En_midS H R sjp ⟨⟨0, 1, 0, half⟩, ?_, rfl, rfl, rfl, rfl, rfl, rfl, by simp only; omega, hch, by simp only; omega, by simp only; omega⟩ (fun w hs => hs.weaken sbp kpp)
      unfold spotB; rw [if_pos (by omega)]
  · rintro j H' R' ⟨p, hsp, h11, h12, h13, h14, hH, hR, hpa, hph, hpe, hps⟩
    subst hH hR
    refine TC_env (by simp only [setJ, List.foldl_cons, List.foldl_nil, List.set_cons_succ, List.set_cons_zero, h11, h12, h13, h14]; rfl) ?_
    have k2 := KO_eq (r' := opsB p sz data) (by rw [hsp]) k'
    clear k k' hsp hrs hhf
    repeat' (first | (apply TC_seq) | (apply TC_region) | (apply TC_ret) | (apply TC_skip) | (apply TC_cond_true; exact rfl) | (apply TC_cond_false; exact rfl) | (apply T_nil) | (apply En_then) | (apply En_then_ret) | (apply T_bin; exact rfl; ((refine pw_gtr rfl rfl (fun h => ?_) (fun h => ?_))) <;> (refine T_nv ?_)) | (refine T_pure rfl rfl ?_; ((first | refine pw_mv ?_ | refine pw_as ?_ | refine pw_pick_t rfl evp ?_ | refine pw_pick_f rfl evp ?_)); refine T_nv ?_) | (refine T_skipped rfl ?_; refine T_nv ?_))
    · have k3 := KO_eq (r' := ([], 2)) (by unfold opsB; rw [if_pos (.inl (by omega))]) k2
      refine En_fin (.inl rfl) (res2 rfl (rv_tmp rfl) (rv_tmp rfl)) (fin_K H' (Sl (.slice none 0 0) ([] : List DO) :: R') (fun w hs => (hs.weaken sbp kpp).sl_nil DO) (k3 none 0))
    · have k3 := KO_eq (r' := ([], 2)) (by unfold opsB; rw [if_pos (.inr (by omega))]) k2
      refine En_fin (.inl rfl) (res2 rfl (rv_tmp rfl) (rv_tmp rfl)) (fin_K H' (Sl (.slice none 0 0) ([] : List DO) :: R') (fun w hs => (hs.weaken sbp kpp).sl_nil DO) (k3 none 0))
    refine T_ow rfl ?_; refine ow_callf arp ?_; refine whole_k _ _ data p.epoch p.seq (by omega) (by omega) (by omega) memt (fun v => ?_); refine T_nv ?_
    have hwl := wholeB_length p.epoch p.seq data
    obtain ⟨wB, hwB⟩ : ∃ wB, wholeB p.epoch p.seq data = wB := ⟨_, rfl⟩
    rw [hwB] at hwl ⊢
    have hpa2 : (p.half + 1) * sz ≤ 600000 := Nat.le_trans (Nat.mul_le_mul (show p.half + 1 ≤ 2 by omega) hsz3) (by omega)
    have hp6 : 0 ≤ ((p.half : Int) + 1) * (sz : Int) ∧ ((p.half : Int) + 1) * (sz : Int) ≤ 600000 ∧ ((p.half : Int) + 1) * (sz : Int) = (((p.half + 1) * sz : Nat) : Int) := by
      have e : ((p.half : Int) + 1) * (sz : Int) = (((p.half + 1) * sz : Nat) : Int) := by push_cast; rfl
      rw [e]; omega
    refine T_unrow 0 rfl (by omega) (fun b2 cap sp hv hl1 hl2 hl3 hl4 => ?_)
    subst hv
    refine T_hq ?_
    rw [Nat.mul_one] at hl1
    have hl5 : 1 + (cap - 1) ≤ (bytesV wB ++ sp).length := by omega
    refine T_pure rfl rfl ?_; refine pw_slice_o rfl rfl rfl (by omega) (by omega) (by omega) (fun o' ho' => ?_)
    obtain rfl : o' = 1 := by omega
    have e1 : (wB.length : Int).toNat - (1 : Int).toNat = (wB.drop 1).length := by simp
    have hdl1 : (wB.drop 1).length = 20 + data.length := by simp; omega
    rw [e1]
    refine T_nv ?_
    repeat' ((refine T_pure rfl rfl ?_; ((refine pw_as ?_)); refine T_nv ?_))
    apply T_nil; apply En_then
    have hcs : ∀ k x, (wB.drop 1)[k]? = some x → (bytesV wB ++ sp)[1 + k]? = some (byteV x) := fun k x hk => by
      have hk2 := (List.getElem?_eq_some_iff.1 hk).1
      rw [List.getElem?_append_left (by simp at hk2 ⊢; omega)]
      rw [List.getElem?_drop] at hk
      simp [bytesV, hk]
    have hc1 : (cap - (1 : Int).toNat) = cap - 1 := rfl
    rw [hc1]
    refine TC_cutS [17, 84, 85, 86, 87, 88, 89, 90, 91, 92, 93, 94] (fun j H2 R2 => ∃ rest A c, j 17 = .slice A rest.length c ∧ rest = wB.drop 1 ++ (if p.at_ + (21 + data.length) < (p.half + 1) * sz then [0] else []) ∧ H2 = H' ∧ R2 = Sl (.slice A rest.length c) rest :: R') ?_ ?_
    · skip
      repeat' (first | (apply TC_seq) | (apply TC_region) | (apply TC_skip) | (apply TC_cond_true; exact rfl) | (apply TC_cond_false; exact rfl) | (apply T_nil) | (apply En_then) | (apply T_bin; exact rfl; ((first | refine pw_add64 rfl rfl (by omega) (by omega) ?_ | refine pw_mul64 rfl rfl (by omega) (by omega) ?_)); refine T_nv ?_) | (apply T_bin; exact rfl; ((refine pw_lss rfl rfl (fun h => ?_) (fun h => ?_))) <;> (refine T_nv ?_)) | (refine T_pure rfl rfl ?_; ((refine pw_mv ?_)); refine T_nv ?_) | (refine T_gen rfl rfl ?_; ((refine gw_buildSlice (by decide) prtp rfl (fun b => ?_))); refine T_nv ?_))
      · refine T_gen rfl rfl ?_
        refine gw_append_sub 1 0 (xs := wB.drop 1) (ys := [0]) rfl rfl rfl rfl hcs (by omega) (by omega) hl5 (by simp; omega) (by simp; omega) (fun A c' => ?_)
        refine T_nv ?_; refine T_hq ?_
        repeat' (first | (apply T_nil) | (refine T_pure rfl rfl ?_; ((refine pw_as ?_)); refine T_nv ?_))
        refine En_midS H' _ sjp ⟨wB.drop 1 ++ [0], A, c', rfl, by rw [if_pos (by omega)], rfl, rfl⟩ (fun w hs => hs.weaken sbp kpp)
      · refine En_midS H' _ sjp ⟨wB.drop 1, some ⟨b2, 1, none⟩, cap - 1, rfl, by rw [if_neg (by omega), List.append_nil], rfl, rfl⟩ (fun w hs => ((hs.freeze (i := 0) rfl).add (Sl (.slice (some ⟨b2, 1, none⟩) (wB.drop 1).length (cap - 1)) (wB.drop 1)) (fun s hR => Sl_at (hR _ List.mem_cons_self) rfl (by omega) (by simp only [maxLen] at hl4; simp only [maxL]; omega) hcs)).weaken sbp kpp)
    rintro j2 H2 R2 ⟨rest, A5, c5, h17, hrest, hH, hR⟩
    subst hH hR
    refine TC_env (by simp only [setJ, List.foldl_cons, List.foldl_nil, List.set_cons_succ, List.set_cons_zero, h17]; rfl) ?_
    have HRST := Go.Lib.hid hrest
    clear hrest hcs
    repeat' (first | (apply TC_seq) | (apply TC_region) | (apply T_nil) | (apply En_then) | (apply T_store; exact rfl; ((refine gw_store (i := 0) rfl clp rfl (by rfl) (by simp) (by simp [Value.oneCell']) ?_)); refine T_nv ?_; refine T_hq ?_) | (refine T_pure rfl rfl ?_; ((first | refine pw_as ?_ | refine pw_build bldp ?_)); refine T_nv ?_) | (refine T_gen rfl rfl ?_; ((refine gw_alloc clp (fun b => ?_))); refine T_nv ?_))
    refine TC_draw mixed (by decide +kernel) (fun _ _ _ _ _ _ h => h) sbp ?_
    all_goals ((refine TA_ps 0 sbp ?_; ((refine pw_mv ?_)); refine TA_nv ?_))
    all_goals ((refine TA_ps 1 sbp ?_; ((refine pw_mv ?_)); refine TA_nv ?_))
    all_goals ((refine TA_ps 4 sbp ?_; ((refine pw_load (i := 0) rfl rfl rfl ?_)); refine TA_nv ?_))
    all_goals ((refine TA_ps 5 sbp ?_; ((refine pw_mv ?_)); refine TA_nv ?_))
    all_goals ((refine TA_ps 6 sbp ?_; ((refine pw_mv ?_)); refine TA_nv ?_))
    all_goals ((refine TA_ps 7 sbp ?_; ((refine pw_add64 rfl rfl (by omega) (by omega) ?_)); refine TA_nv ?_))
    all_goals ((refine TA_ps 8 sbp ?_; ((refine pw_mv ?_)); refine TA_nv ?_))
    all_goals ((refine TA_ps 10 sbp ?_; ((refine pw_load (i := 0) rfl rfl rfl ?_)); refine TA_nv ?_))
    all_goals ((refine TA_ps 11 sbp ?_; ((refine pw_mv ?_)); refine TA_nv ?_))
    all_goals ((refine TA_ps 12 sbp ?_; ((refine pw_mv ?_)); refine TA_nv ?_))
    all_goals ((refine TA_ps 15 sbp ?_; ((refine pw_load (i := 0) rfl rfl rfl ?_)); refine TA_nv ?_))
    -- left: [2, 3, 9, 13, 14, 16, 17, 18]; ready: [2, 13]: ['buildSlice', 'buildSlice']
    refine cut2 (G := ?G) ?ha ?hb
    case ha =>
      intro hG
      refine TA_2 2 13 ?_ ?_
      · skip
        refine GW.ow rfl ?_; refine gw_buildSlice (by decide) prtp rfl (fun b98 => ?_)
        refine ⟨.inl (fun w hs => hs.weaken sbp kpp), ?_⟩; refine TA_nv ?_
        refine TA_pre (fun w hs => hs.bytes_stay (i := 0) (xs := [0]) (n := 1) (c := 1) rfl rfl (by omega) (by simp only [maxL]; omega)) ?_
        refine TA_hq ?_
        refine TA_2 3 13 ?_ ?_
        · skip
          refine ow_callv rfl arp ?_; refine appendW_k _ _ _ _ ?_
          refine ⟨.inl (fun w hs => hs.weaken sbp kpp), ?_⟩; refine TA_nv ?_
          refine TA_2 9 13 ?_ ?_
          · skip
            refine ow_callv rfl arp ?_; refine appendW_k _ _ _ _ ?_
            refine ⟨.inl (fun w hs => hs.weaken sbp kpp), ?_⟩; refine TA_nv ?_
            refine TA_o 13 ?_
            refine GW.ow rfl ?_; refine gw_buildSlice (by decide) prtp rfl (fun b109 => ?_)
            refine ⟨.inl (fun w hs => hs.weaken sbp kpp), ?_⟩; refine TA_nv ?_
            refine TA_pre (fun w hs => hs.bytes_stay (i := 0) (xs := [167]) (n := 1) (c := 1) rfl rfl (by omega) (by simp only [maxL]; omega)) ?_
            refine TA_hq ?_
            refine TA_pre (R' := Sl (.slice (some ⟨b98, 0, none⟩) 1 1) ([0] : List UInt8) :: Sl (.slice (some ⟨b109, 0, none⟩) 1 1) ([167] : List UInt8) :: Sl (.slice A5 rest.length c5) rest :: R') (fun w hs => hs.weaken (List.Sublist.refl _) kpp) ?_
            exact hG b98 b109
          · skip
            refine GW.ow rfl ?_; refine gw_buildSlice (by decide) prtp rfl (fun b109 => ?_)
            refine ⟨.inl (fun w hs => hs.weaken sbp kpp), ?_⟩; refine TA_nv ?_
            refine TA_pre (fun w hs => hs.bytes_stay (i := 0) (xs := [167]) (n := 1) (c := 1) rfl rfl (by omega) (by simp only [maxL]; omega)) ?_
            refine TA_hq ?_
            refine TA_o 9 ?_
            refine ow_callv rfl arp ?_; refine appendW_k _ _ _ _ ?_
            refine ⟨.inl (fun w hs => hs.weaken sbp kpp), ?_⟩; refine TA_nv ?_
            refine TA_pre (R' := Sl (.slice (some ⟨b98, 0, none⟩) 1 1) ([0] : List UInt8) :: Sl (.slice (some ⟨b109, 0, none⟩) 1 1) ([167] : List UInt8) :: Sl (.slice A5 rest.length c5) rest :: R') (fun w hs => hs.weaken (List.Sublist.refl _) kpp) ?_
            exact hG b98 b109
        · skip
          refine GW.ow rfl ?_; refine gw_buildSlice (by decide) prtp rfl (fun b109 => ?_)
          refine ⟨.inl (fun w hs => hs.weaken sbp kpp), ?_⟩; refine TA_nv ?_
          refine TA_pre (fun w hs => hs.bytes_stay (i := 0) (xs := [167]) (n := 1) (c := 1) rfl rfl (by omega) (by simp only [maxL]; omega)) ?_
          refine TA_hq ?_
          refine TA_o 3 ?_
          refine ow_callv rfl arp ?_; refine appendW_k _ _ _ _ ?_
          refine ⟨.inl (fun w hs => hs.weaken sbp kpp), ?_⟩; refine TA_nv ?_
          refine TA_o 9 ?_
          refine ow_callv rfl arp ?_; refine appendW_k _ _ _ _ ?_
          refine ⟨.inl (fun w hs => hs.weaken sbp kpp), ?_⟩; refine TA_nv ?_
          refine TA_pre (R' := Sl (.slice (some ⟨b98, 0, none⟩) 1 1) ([0] : List UInt8) :: Sl (.slice (some ⟨b109, 0, none⟩) 1 1) ([167] : List UInt8) :: Sl (.slice A5 rest.length c5) rest :: R') (fun w hs => hs.weaken (List.Sublist.refl _) kpp) ?_
          exact hG b98 b109
      · skip
        refine GW.ow rfl ?_; refine gw_buildSlice (by decide) prtp rfl (fun b109 => ?_)
        refine ⟨.inl (fun w hs => hs.weaken sbp kpp), ?_⟩; refine TA_nv ?_
        refine TA_pre (fun w hs => hs.bytes_stay (i := 0) (xs := [167]) (n := 1) (c := 1) rfl rfl (by omega) (by simp only [maxL]; omega)) ?_
        refine TA_hq ?_
        refine TA_o 2 ?_
        refine GW.ow rfl ?_; refine gw_buildSlice (by decide) prtp rfl (fun b98 => ?_)
        refine ⟨.inl (fun w hs => hs.weaken sbp kpp), ?_⟩; refine TA_nv ?_
        refine TA_pre (fun w hs => hs.bytes_stay (i := 0) (xs := [0]) (n := 1) (c := 1) rfl rfl (by omega) (by simp only [maxL]; omega)) ?_
        refine TA_hq ?_
        refine TA_o 3 ?_
        refine ow_callv rfl arp ?_; refine appendW_k _ _ _ _ ?_
        refine ⟨.inl (fun w hs => hs.weaken sbp kpp), ?_⟩; refine TA_nv ?_
        refine TA_o 9 ?_
        refine ow_callv rfl arp ?_; refine appendW_k _ _ _ _ ?_
        refine ⟨.inl (fun w hs => hs.weaken sbp kpp), ?_⟩; refine TA_nv ?_
        refine TA_pre (R' := Sl (.slice (some ⟨b98, 0, none⟩) 1 1) ([0] : List UInt8) :: Sl (.slice (some ⟨b109, 0, none⟩) 1 1) ([167] : List UInt8) :: Sl (.slice A5 rest.length c5) rest :: R') (fun w hs => hs.weaken (List.Sublist.refl _) kpp) ?_
        exact hG b98 b109
    case hb =>
      intro b98 b109
      refine TA_common _ (List.Sublist.refl _) kpp ?_
      refine TA_o 14 ?_
      refine ow_callv rfl arp ?_; refine appendW_k _ _ _ _ ?_
      refine ⟨.inl (fun w hs => hs.weaken sbp kpp), ?_⟩; refine TA_nv ?_
      refine TA_g 16 ?_
      refine gw_buildSlice (by decide) prtp rfl (fun b112 => ?_)
      refine ⟨.inl (fun w hs => hs.weaken (List.Sublist.cons _ (List.Sublist.refl _)) kpp), ?_⟩; refine TA_nv ?_
      all_goals ((refine TA_ps 17 (List.Sublist.cons _ (List.Sublist.refl _)) ?_; ((refine pw_as ?_)); refine TA_nv ?_))
      all_goals ((refine TA_ps 18 (List.Sublist.cons _ (List.Sublist.refl _)) ?_; ((refine pw_as ?_)); refine TA_nv ?_))
      all_goals refine TA_d ?_
      repeat' (first | (apply TC_ret) | (apply En_then))
      have k3 := KO_eq (r' := ([⟨1, p.at_, [0]⟩, ⟨2, 0, []⟩, ⟨1, (p.at_ + 1 : Nat), rest⟩, ⟨2, 0, []⟩, ⟨1, p.at_, [167]⟩, ⟨2, 0, []⟩], 0)) (by unfold opsB; rw [if_neg (by omega), HRST.out, hwB]) k2 (some ⟨b112, 0, none⟩) 6
      refine En_fin (.inl rfl) (res2 rfl (rv_tmp rfl) (rv_tmp rfl)) (fin_K H2 _ (fun w hs => ?_) k3)
      have hI : InI (p.at_ : Int) ∧ InI ((p.at_ + 1 : Nat) : Int) ∧ InI 1 ∧ InI 2 ∧ InI 0 := by simp only [InI]; omega
      have h2 := (hs.learn (Cx _ ([⟨1, p.at_, [0]⟩, ⟨2, 0, []⟩, ⟨1, (p.at_ + 1 : Nat), rest⟩, ⟨2, 0, []⟩, ⟨1, p.at_, [167]⟩, ⟨2, 0, []⟩] : List DO)) (fun s hR =>
        Cx_snoc (x := (⟨2, 0, []⟩ : DO)) (Cx_snoc (x := (⟨1, p.at_, [167]⟩ : DO)) (Cx_snoc (x := (⟨2, 0, []⟩ : DO)) (Cx_snoc (x := (⟨1, (p.at_ + 1 : Nat), rest⟩ : DO)) (Cx_snoc (x := (⟨2, 0, []⟩ : DO)) (Cx_one (x := (⟨1, p.at_, [0]⟩ : DO))
          ⟨some ⟨b98, 0, none⟩, 1, rfl, ⟨hI.2.2.1, hI.1⟩, hR (Sl (.slice (some ⟨b98, 0, none⟩) 1 1) ([0] : List UInt8)) memt⟩)
          ⟨none, 0, rfl, ⟨hI.2.2.2.1, hI.2.2.2.2⟩, Sl_nil UInt8 s⟩)
          ⟨A5, c5, rfl, ⟨hI.2.2.1, hI.2.1⟩, hR (Sl (.slice A5 rest.length c5) rest) memt⟩)
          ⟨none, 0, rfl, ⟨hI.2.2.2.1, hI.2.2.2.2⟩, Sl_nil UInt8 s⟩)
          ⟨some ⟨b109, 0, none⟩, 1, rfl, ⟨hI.2.2.1, hI.1⟩, hR (Sl (.slice (some ⟨b109, 0, none⟩) 1 1) ([167] : List UInt8)) memt⟩)
          ⟨none, 0, rfl, ⟨hI.2.2.2.1, hI.2.2.2.2⟩, Sl_nil UInt8 s⟩)).blk_stays (i := 0) (n := 6) (c := 6) (sp := []) rfl List.mem_cons_self rfl (by omega) (by decide)
      exact h2.weaken sbp (sub_cons List.mem_cons_self (fun p hp => List.mem_cons_of_mem _ (List.mem_cons_of_mem _ (List.mem_cons_of_mem _ (List.mem_cons_of_mem _ (List.mem_cons_of_mem _ hp))))))
end Go.Proofs.Ytggdljhmbckpmaa
