/- The law's helpers: sameOps: walk. The reference of records: Append: walk. ImageRecords: walk. -/
import Derived.Test.YtggdljhmbckpmaaGreatF14
import Derived.Test.YtggdljhmbckpmaaGreatH1
import Derived.Test.YtggdljhmbckpmaaGreatZM
import Derived.Test.YtggdljhmbckpmaaGreatG2
import Derived.Test.YtggdljhmbckpmaaGreatS1
set_option linter.unusedVariables false
set_option linter.unusedSimpArgs false
namespace Go.Proofs.YtggdljhmbckpmaaGreat
open Go Go.RowKit
set_option maxRecDepth 100000
set_option maxHeartbeats 1600000

theorem sameOps_k {w0 : World} {H : List Hp} {R : List MP} {K : Value → List Hp → List MP → Prop} (A : Option Addr) (m c : Nat) (A2 : Option Addr) (m2 c2 : Nat) (xs : List DO) (hx : xs.length ≤ 9223372036854775806) (e1 : m = xs.length) (e2 : m2 = xs.length) (h1 : Sl (.slice A m c) xs ∈ R) (h2 : Sl (.slice A2 m2 c2) xs ∈ R)
    (k : K (.bool true) H R) : CallsK Tryz.prog w0 19 #[.slice A m c, .slice A2 m2 c2] H R K := by
  subst e1; subst e2
  refine calls_of Tryz.func19 rfl Tryz.ntmps19 nep ?_
  repeat' (first | (apply T_bin; exact rfl; refine pw_neq rfl rfl (fun h => absurd rfl h) (fun hh => ?_); refine T_nv ?_) | (apply TC_seq) | (apply TC_region) | (apply TC_block) | (apply TC_skip) | (apply TC_cond_false; exact rfl) | (apply T_nil) | (apply En_then) | (refine T_pure rfl rfl ?_; ((first | refine pw_mv ?_ | refine pw_as ?_ | refine pw_len rfl ?_)); refine T_nv ?_))
  refine TC_loopS [4, 5, 11, 12, 13, 14, 15, 16, 17, 18, 19, 20, 21, 22, 23, 24, 25, 26, 27, 28, 29, 30, 31, 32, 33, 34, 35, 36, 37, 38, 39, 40, 41, 42, 43, 44, 45, 46, 47, 48, 49, 50, 51, 52, 53, 54] (fun m j H' R' => H = H' ∧ R = R' ∧ ∃ i : Nat, i + m = xs.length ∧ j 5 = .int .i64 (i : Int)) xs.length sjp ⟨rfl, rfl, 0, by omega, rfl⟩ ?_
  rintro m j H' R' ⟨hH, hR, i, hi, h5⟩
  subst hH; subst hR
  refine TC_env (by simp only [setJ, List.foldl_cons, List.foldl_nil, List.set_cons_succ, List.set_cons_zero, h5]; rfl) ?_
  repeat' (first | (apply TC_seq) | (apply TC_region) | (apply TC_block) | (apply TC_ret) | (apply TC_skip) | (apply TC_exit) | (apply TC_cond_true; exact rfl) | (apply TC_cond_false; exact rfl) | (apply T_nil) | (apply En_then) | (apply En_then_exit) | (apply En_block_exit) | (apply T_bin; exact rfl; ((refine pw_lss rfl rfl (fun h => ?_) (fun h => ?_))) <;> (refine T_nv ?_)) | (refine T_pure rfl rfl ?_; ((first | refine pw_mv ?_ | refine pw_as ?_ | refine pw_len rfl ?_)); refine T_nv ?_))
  · skip
    refine TC_draw mixed (by decide +kernel) (fun _ _ _ _ _ _ h => h) (List.Sublist.refl _) ?_
    all_goals ((refine TA_p 0 ?_; ((refine pw_mv ?_)); refine TA_nv ?_))
    all_goals ((refine TA_p 1 ?_; ((refine pw_mv ?_)); refine TA_nv ?_))
    all_goals ((refine TA_p 2 ?_; ((refine pw_index_opN evp rfl memt (List.getElem?_eq_getElem (by omega)) (fun b o A c hI hI2 hL => ?_))); refine TA_nv ?_))
    all_goals ((refine TA_p 3 ?_; ((refine pw_fieldAddr rfl ?_)); refine TA_nv ?_))
    all_goals ((refine TA_p 4 ?_; ((refine pw_load_at rfl memr rfl ?_)); refine TA_nv ?_))
    all_goals ((refine TA_p 5 ?_; ((refine pw_mv ?_)); refine TA_nv ?_))
    all_goals ((refine TA_p 6 ?_; ((refine pw_mv ?_)); refine TA_nv ?_))
    all_goals ((refine TA_p 7 ?_; ((refine pw_index_opN evp rfl memt (List.getElem?_eq_getElem (by omega)) (fun b o A c hI hI2 hL => ?_))); refine TA_nv ?_))
    all_goals ((refine TA_p 8 ?_; ((refine pw_fieldAddr rfl ?_)); refine TA_nv ?_))
    all_goals ((refine TA_p 9 ?_; ((refine pw_load_at rfl memr rfl ?_)); refine TA_nv ?_))
    all_goals ((refine TA_p 10 ?_; ((refine pw_neq rfl rfl (fun h => ?_) (fun h => ?_))) <;> (first | (exfalso; omega) | refine TA_nv ?_)))
    all_goals ((refine TA_p 11 ?_; ((refine pw_mv ?_)); refine TA_nv ?_))
    all_goals ((refine TA_p 12 ?_; ((refine pw_mv ?_)); refine TA_nv ?_))
    all_goals ((refine TA_p 13 ?_; ((refine pw_mv ?_)); refine TA_nv ?_))
    all_goals ((refine TA_p 14 ?_; ((refine pw_index_opN evp rfl memt (List.getElem?_eq_getElem (by omega)) (fun b o A c hI hI2 hL => ?_))); refine TA_nv ?_))
    all_goals ((refine TA_p 15 ?_; ((refine pw_fieldAddr rfl ?_)); refine TA_nv ?_))
    all_goals ((refine TA_p 16 ?_; ((refine pw_load_at rfl memr rfl ?_)); refine TA_nv ?_))
    all_goals ((refine TA_p 17 ?_; ((refine pw_mv ?_)); refine TA_nv ?_))
    all_goals ((refine TA_p 18 ?_; ((refine pw_mv ?_)); refine TA_nv ?_))
    all_goals ((refine TA_p 19 ?_; ((refine pw_index_opN evp rfl memt (List.getElem?_eq_getElem (by omega)) (fun b o A c hI hI2 hL => ?_))); refine TA_nv ?_))
    all_goals ((refine TA_p 20 ?_; ((refine pw_fieldAddr rfl ?_)); refine TA_nv ?_))
    all_goals ((refine TA_p 21 ?_; ((refine pw_load_at rfl memr rfl ?_)); refine TA_nv ?_))
    all_goals ((refine TA_p 22 ?_; ((refine pw_neq rfl rfl (fun h => ?_) (fun h => ?_))) <;> (first | (exfalso; omega) | refine TA_nv ?_)))
    all_goals ((refine TA_p 23 ?_; ((refine pw_pick_f rfl evp ?_)); refine TA_nv ?_))
    all_goals ((refine TA_p 24 ?_; ((refine pw_mv ?_)); refine TA_nv ?_))
    all_goals ((refine TA_p 25 ?_; ((refine pw_mv ?_)); refine TA_nv ?_))
    all_goals ((refine TA_p 26 ?_; ((refine pw_mv ?_)); refine TA_nv ?_))
    all_goals ((refine TA_p 27 ?_; ((refine pw_index_opN evp rfl memt (List.getElem?_eq_getElem (by omega)) (fun b o A c hI hI2 hL => ?_))); refine TA_nv ?_))
    all_goals ((refine TA_p 28 ?_; ((refine pw_fieldAddr rfl ?_)); refine TA_nv ?_))
    all_goals ((refine TA_p 29 ?_; ((refine pw_load_at rfl memr rfl ?_)); refine TA_nv ?_))
    all_goals ((refine TA_p 30 ?_; ((refine pw_mv ?_)); refine TA_nv ?_))
    all_goals ((refine TA_p 31 ?_; ((refine pw_mv ?_)); refine TA_nv ?_))
    all_goals ((refine TA_p 32 ?_; ((refine pw_index_opN evp rfl memt (List.getElem?_eq_getElem (by omega)) (fun b o A c hI hI2 hL => ?_))); refine TA_nv ?_))
    all_goals ((refine TA_p 33 ?_; ((refine pw_fieldAddr rfl ?_)); refine TA_nv ?_))
    all_goals ((refine TA_p 34 ?_; ((refine pw_load_at rfl memr rfl ?_)); refine TA_nv ?_))
    -- left: [35, 36, 37]; ready: [35]: ['call']
    refine TA_o 35 ?_
    refine ow_callf arp ?_; refine sameBytes_k2 _ _ _ _ _ _ xs[i].data xs[i].data memt memt (fun _ => ?_) (fun h => absurd rfl h)
    refine ⟨.inl (fun w hs => hs.weaken sbp kpp), ?_⟩; refine TA_nv ?_
    all_goals ((refine TA_p 36 ?_; ((refine pw_not rfl ?_)); refine TA_nv ?_))
    all_goals ((refine TA_p 37 ?_; ((refine pw_pick_f rfl evp ?_)); refine TA_nv ?_))
    all_goals refine TA_d ?_
    repeat' (first | (apply TC_region) | (apply TC_skip) | (apply TC_cond_false; exact rfl) | (apply T_nil) | (apply En_then) | (apply En_block) | (apply T_bin; exact rfl; ((refine pw_add64 rfl rfl (by omega) (by omega) ?_)); refine T_nv ?_) | (refine T_pure rfl rfl ?_; ((first | refine pw_mv ?_ | refine pw_as ?_)); refine T_nv ?_))
    refine En_backS (m - 1) _ R (by omega) sjp ⟨rfl, rfl, i + 1, by omega, rfl⟩ (fun w hs => hs.weaken sbp kpp)
  · skip
    repeat' (fail)
    exact En_fin (.inl rfl) (res1 rfl (rv_tmp rfl)) (fin_K H R (fun w hs => hs.weaken sbp kpp) k)
end Go.Proofs.YtggdljhmbckpmaaGreat
namespace Go.Proofs.YtggdljhmbckpmaaGreat
open Go Go.RowKit
set_option maxRecDepth 100000
set_option maxHeartbeats 3200000

def KOA (K : Value → List Hp → List MP → Prop) (r : List DO × Int) (H : List Hp) (R : List MP) : Prop := ∀ A c, K (.agg #[.slice A r.1.length c, .int .i64 r.2]) H (Sl (.slice A r.1.length c) r.1 :: R)
theorem KOA_eq {K : Value → List Hp → List MP → Prop} {r r' : List DO × Int} {H : List Hp} {R : List MP} (e : r = r') (h : KOA K r H R) : KOA K r' H R := e ▸ h
theorem rfour_x {w0 : World} {H : List Hp} {R : List MP} {K : Value → List Hp → List MP → Prop} (n : Nat) (hn : n < 4294967296) (x : List UInt8) (hx : le4 n = x)
    (k : ∀ v, K v (.row v 5 1 4 (bytesV x) :: H) R) : CallsK Tryz.prog w0 62 #[.int .u32 n] H R K := by
  subst hx; exact rfour_k n hn k
theorem whole_drop (e s : Nat) (data : List UInt8) : (wholeB e s data).drop 1 = (le4 e ++ le4 s ++ le4 data.length) ++ le4 (sumB (le4 e ++ le4 s ++ le4 data.length)) ++ data ++ le4 (sumB data) := rfl
theorem rappend_k {w0 : World} {H : List Hp} {R : List MP} {K : Value → List Hp → List MP → Prop} (A0 : Option Addr) (c0 : Nat) (A2 : Option Addr) (c2 : Nat) (A3 : Option Addr) (c3 : Nat) (d : Drive) (data : List UInt8) (hb : d.bytes.length ≤ 9223372036854775807) (hp : d.pending.length ≤ 9223372036854775807) (hdl : data.length ≤ 9223372036854770000)
    (hm : Sl (.slice A0 d.bytes.length c0) d.bytes ∈ R) (hm2 : Sl (.slice A2 d.pending.length c2) d.pending ∈ R) (hm3 : Sl (.slice A3 data.length c3) data ∈ R)
    (k : KOA K (appendD d data) H R) : CallsK Tryz.prog w0 14 #[dv A0 c0 A2 c2 d, .slice A3 data.length c3] H R K := by
  obtain ⟨l, half, hcur⟩ : ∃ l half, curB (hasB d) = (l, half) := ⟨_, _, rfl⟩
  obtain ⟨sz, hsz⟩ : ∃ sz, d.bytes.length / 2 = sz := ⟨_, rfl⟩
  have hszi : (d.bytes.length : Int) / 2 = (sz : Int) := by omega
  refine calls_of Tryz.func14 rfl Tryz.ntmps14 nep ?_
  repeat' (first | (refine T_ow rfl ?_; refine ow_callf arp ?_; refine rcheck_k2 _ _ _ _ d hb hp hm hm2 (fun hc hcl6 => ?_) (fun hc => ?_) <;> refine T_nv ?_) | ((with_reducible rw [hszi])) | (apply TC_seq) | (apply TC_region) | (apply TC_ret) | (apply TC_skip) | (apply TC_cond_true; exact rfl) | (apply TC_cond_false; exact rfl) | (apply T_nil) | (apply En_then) | (apply En_then_ret) | (apply T_load; exact rfl; ((refine pw_load (i := 1) rfl rfl rfl ?_)); refine T_nv ?_) | (apply T_bin; exact rfl; ((first | refine pw_add64 rfl rfl (by omega) (by omega) ?_ | refine pw_quo rfl rfl (by omega) (by omega) (by omega) ?_)); refine T_nv ?_) | (apply T_bin; exact rfl; ((first | refine pw_gtr rfl rfl (fun h => ?_) (fun h => ?_) | refine pw_neq rfl rfl (fun h => ?_) (fun h => ?_))) <;> (first | (exfalso; omega) | refine T_nv ?_)) | (apply T_store; exact rfl; ((refine gw_store (i := 0) rfl clp rfl (by rfl) (by simp) (by simp [Value.oneCell']) ?_)); refine T_nv ?_; refine T_hq ?_) | (refine T_pure rfl rfl ?_; ((first | refine pw_mv ?_ | refine pw_as ?_ | refine pw_fieldAddr rfl ?_ | refine pw_len rfl ?_ | refine pw_build bldp ?_)); refine T_nv ?_) | (refine T_gen rfl rfl ?_; ((first | refine gw_box clp (fun b => ?_) | refine gw_alloc clp (fun b => ?_))); refine T_nv ?_))
  · have k' := KOA_eq (r' := ([], 303)) (by unfold appendD; rw [if_pos hc, if_pos (by rw [hasB_length hc]; omega)]) k none 0
    exact En_fin (.inl rfl) (res1 rfl (rv_cell (i := 0) rfl rfl rfl)) (fin_K H (Sl (.slice none 0 0) ([] : List DO) :: R) (fun w hs => (hs.weaken sbp (fun _ h => h)).sl_nil DO) k')
  · rename_i bd h0
    have hlB := hasB_length hc
    obtain ⟨c1, c2', c3', c4, c5⟩ := checkD_spec hc
    have hB2 : (hasB d).length = 2 * sz := by omega
    have hsz3 : sz ≤ 300000 := by omega
    have hch : half ≤ 1 := (cur_facts hcur).1
    have k' := KOA_eq (r' := opsB (spotB l half sz (21 + data.length)) sz data) (by unfold appendD; rw [if_pos hc, hlB, hsz, if_neg (by omega), hcur]) k
    clear k
    have SR := fun h => spot_ref (21 + data.length) hB2 hsz3 hcur h
    have hl6 : l.length ≤ 600000 := by have := curB_len hcl6; rw [hcur] at this; exact this
    obtain ⟨ep, hep⟩ : ∃ ep, epN l = ep := ⟨_, rfl⟩
    obtain ⟨en, hen⟩ : ∃ en, endL (half * (hasB d).length / 2) l = en := ⟨_, rfl⟩
    have h01 : half = 0 ∨ half = 1 := by omega
    have hp1 : 0 ≤ ((half : Int) + 1) * (sz : Int) ∧ ((half : Int) + 1) * (sz : Int) ≤ 600000 := by
      rcases h01 with e | e <;> rw [e] <;> simp <;> omega
    have hp2 : 0 ≤ (1 - (half : Int)) * (sz : Int) ∧ (1 - (half : Int)) * (sz : Int) ≤ 600000 := by
      rcases h01 with e | e <;> rw [e] <;> simp <;> omega
    have hp4 : (1 - (half : Int)) * (sz : Int) = (((1 - half) * sz : Nat) : Int) ∧ (1 - (half : Int)) = ((1 - half : Nat) : Int) := by
      rcases h01 with e | e <;> rw [e] <;> simp
    have hp5 : sz ≤ (half + 1) * sz ∧ (1 - half + 1) * sz = (1 - half) * sz + sz :=
      ⟨Nat.le_mul_of_pos_left _ (by omega), by rw [Nat.add_mul, Nat.one_mul]⟩
    have hp3 : ((half : Int) + 1) * (sz : Int) = (((half + 1) * sz : Nat) : Int) := by push_cast; rfl
    repeat' (first | (refine T_ow rfl ?_; refine ow_callf arp ?_; refine rhas_k _ _ _ _ d hc hm hm2 (fun v => ?_); refine T_nv ?_; refine T_stays 0 rfl (fun A' c' hv => ?_); subst hv; refine T_hq ?_) | (refine T_ow rfl ?_; refine ow_callf arp ?_; refine rcurrent_k _ _ (hasB d) hcl6 memt l half hcur (fun A4 c4 => ?_); rw [hep, hen]; refine T_nv ?_) | (refine T_gen rfl rfl ?_; refine gw_alloc clp (fun b8 => ?_); refine T_nv ?_) | (refine TC_cutS (x := .seq (.region 11 _ _) _) [8, 9, 10, 11, 47, 48, 49, 50, 51, 52, 53, 54, 55, 56, 57, 58, 59, 60, 61, 62, 63, 64, 65] (fun j H' R' => ∃ p : Spot, spotB l half sz (21 + data.length) = p ∧ j 8 = .int .i64 (p.half : Int) ∧ j 9 = .int .i64 (p.at_ : Int) ∧ j 10 = .int .i64 (p.epoch : Int) ∧ j 11 = .int .i64 (p.seq : Int) ∧ H' = .blk b [.slice none 0 0, .int .i64 0] 56 :: H ∧ R' = R ∧ p.at_ + 21 + data.length ≤ (p.half + 1) * sz ∧ p.half ≤ 1 ∧ p.epoch ≤ 4294967296 ∧ p.seq ≤ 4294967296) ?_ ?_) | (apply TC_seq) | (apply TC_region) | (apply TC_cond_true; exact rfl) | (apply TC_cond_false; exact rfl) | (apply T_nil) | (apply En_then) | (apply T_load; exact rfl; ((refine pw_load (i := 0) rfl rfl rfl ?_)); refine T_nv ?_) | (apply T_bin; exact rfl; ((refine pw_eql rfl rfl (fun h => ?_) (fun h => ?_))) <;> (refine T_nv ?_)) | (apply T_store; exact rfl; ((refine gw_store (i := 0) rfl clp rfl (by rfl) (by simp) (by simp [Value.oneCell']) ?_)); refine T_nv ?_; refine T_hq ?_) | (refine T_pure rfl rfl ?_; ((first | refine pw_mv ?_ | refine pw_as ?_ | refine pw_fieldAddr rfl ?_ | refine pw_len rfl ?_ | refine pw_extract rfl rfl ?_)); refine T_nv ?_))
    · have hl0 : l.length = 0 := by omega
      have e0 : (l.length : Int) = ((0 : Nat) : Int) := by omega
      refine En_midS (.blk b [.slice none 0 0, .int .i64 0] 56 :: H) R sjp ⟨⟨0, 1, 0, half⟩, by unfold spotB; rw [if_pos hl0], rfl, rfl, rfl, congrArg (Value.int .i64) e0, rfl, rfl, by simp only; omega, hch, by simp only; omega, by simp only; omega⟩ (fun w hs => hs.weaken (List.Sublist.cons _ (List.Sublist.cons_cons _ (List.Sublist.cons _ (List.Sublist.refl _)))) kpp)
    · obtain ⟨e, a, q1, q2, q3, q4, q5, q6, q7⟩ := SR (by omega)
      obtain rfl : ep = (e : Int) := hep.symm.trans q1
      obtain rfl : en = a := hen.symm.trans q2
      have HS6 := Go.Lib.hid q6
      have HS7 := Go.Lib.hid q7
      clear q6 q7 q1 q2 SR hep hen k'
      repeat' (first | (apply TC_seq) | (apply TC_region) | (apply TC_skip) | (apply TC_cond_true; exact rfl) | (apply TC_cond_false; exact rfl) | (apply T_nil) | (apply En_then) | (apply T_bin; exact rfl; ((first | refine pw_add64 rfl rfl (by omega) (by omega) ?_ | refine pw_sub64 rfl rfl (by omega) (by omega) ?_ | refine pw_mul64 rfl rfl (by omega) (by omega) ?_)); refine T_nv ?_) | (apply T_bin; exact rfl; ((refine pw_gtr rfl rfl (fun h => ?_) (fun h => ?_))) <;> (refine T_nv ?_)) | (refine T_pure rfl rfl ?_; ((first | refine pw_mv ?_ | refine pw_as ?_ | refine pw_len rfl ?_)); refine T_nv ?_))
      · refine En_midS (.blk b [.slice none 0 0, .int .i64 0] 56 :: H) R sjp ⟨⟨(1 - half) * sz, e + 1, 0, 1 - half⟩, HS6.out (by omega), congrArg (Value.int .i64) hp4.2, congrArg (Value.int .i64) hp4.1, by rw [Int.natCast_succ]; rfl, rfl, rfl, rfl, by simp only; omega, by simp only; omega, by simp only; omega, by simp only; omega⟩ (fun w hs => hs.weaken (List.Sublist.cons _ (List.Sublist.cons_cons _ (List.Sublist.cons _ (List.Sublist.refl _)))) kpp)
      · refine En_midS (.blk b [.slice none 0 0, .int .i64 0] 56 :: H) R sjp ⟨⟨en, e, l.length, half⟩, HS7.out (by omega), rfl, rfl, rfl, rfl, rfl, rfl, by simp only; omega, hch, by simp only; omega, by simp only; omega⟩ (fun w hs => hs.weaken (List.Sublist.cons _ (List.Sublist.cons_cons _ (List.Sublist.cons _ (List.Sublist.refl _)))) kpp)
    · rintro j H' R' ⟨p, hsp, h11, h12, h13, h14, hH, hR, hpa, hph, hpe, hps⟩
      subst hH hR
      refine TC_env (by simp only [setJ, List.foldl_cons, List.foldl_nil, List.set_cons_succ, List.set_cons_zero, h11, h12, h13, h14]; rfl) ?_
      have k2 := KOA_eq (r' := opsB p sz data) (by rw [hsp]) k'
      clear k' hsp SR hep hen hp1 hp2 hp3 hp4 hp5 h01 hch
      have hpa2 : (p.half + 1) * sz ≤ 600000 := Nat.le_trans (Nat.mul_le_mul (show p.half + 1 ≤ 2 by omega) hsz3) (by omega)
      have hp6 : 0 ≤ ((p.half : Int) + 1) * (sz : Int) ∧ ((p.half : Int) + 1) * (sz : Int) ≤ 600000 ∧ ((p.half : Int) + 1) * (sz : Int) = (((p.half + 1) * sz : Nat) : Int) := by
        have e : ((p.half : Int) + 1) * (sz : Int) = (((p.half + 1) * sz : Nat) : Int) := by push_cast; rfl
        rw [e]; omega
      obtain ⟨x1, hx1, n1⟩ : ∃ x, le4 p.epoch = x ∧ x.length = 4 := ⟨_, rfl, rfl⟩
      obtain ⟨x2, hx2, n2⟩ : ∃ x, le4 p.seq = x ∧ x.length = 4 := ⟨_, rfl, rfl⟩
      obtain ⟨x3, hx3, n3⟩ : ∃ x, le4 data.length = x ∧ x.length = 4 := ⟨_, rfl, rfl⟩
      obtain ⟨HB, hHB⟩ : ∃ HB, x1 ++ x2 ++ x3 = HB := ⟨_, rfl⟩
      obtain ⟨x4, hx4, n4⟩ : ∃ x, le4 (sumB HB) = x ∧ x.length = 4 := ⟨_, rfl, rfl⟩
      obtain ⟨x5, hx5, n5⟩ : ∃ x, le4 (sumB data) = x ∧ x.length = 4 := ⟨_, rfl, rfl⟩
      obtain ⟨W, hW⟩ : ∃ W, HB ++ x4 ++ data ++ x5 = W := ⟨_, rfl⟩
      have nH : HB.length = 12 := by rw [← hHB]; simp [n1, n2, n3]
      have nW : W.length = 20 + data.length := by rw [← hW]; simp [nH, n4, n5]; omega
      have hWd : (wholeB p.epoch p.seq data).drop 1 = W := by rw [whole_drop, hx1, hx2, hx3, hHB, hx4, hx5, hW]
      have bH : bytesV x1 ++ bytesV x2 ++ bytesV x3 = bytesV HB := by rw [← hHB, bytesV_append, bytesV_append]
      have bW : bytesV HB ++ bytesV x4 ++ bytesV data ++ bytesV x5 = bytesV W := by rw [← hW, bytesV_append, bytesV_append, bytesV_append]
      have bW0 : bytesV HB ++ bytesV x4 ++ bytesV data ++ bytesV x5 ++ bytesV [0] = bytesV (W ++ [0]) := by rw [bW, bytesV_append]
      have hs1 := sumB_lt HB
      have hs2 := sumB_lt data
      clear hcur c5 hm hm2
      repeat' (first | (refine T_pure rfl rfl ?_; refine pw_conv32 rfl (by omega) ?_; refine T_nv ?_) | (refine T_ow rfl ?_; refine ow_callf arp ?_; refine rfour_x p.epoch (by omega) x1 hx1 (fun v => ?_); refine T_nv ?_) | (refine T_ow rfl ?_; refine ow_callf arp ?_; refine rfour_x p.seq (by omega) x2 hx2 (fun v => ?_); refine T_nv ?_; refine T_stays (xs := x2) 0 rfl (fun A5 c5 hv => ?_); subst hv; refine T_hq ?_) | (refine T_ow rfl ?_; refine ow_callf arp ?_; refine rfour_x data.length (by omega) x3 hx3 (fun v => ?_); refine T_nv ?_; refine T_stays (xs := x3) 0 rfl (fun A5 c5 hv => ?_); subst hv; refine T_hq ?_) | (refine T_gen rfl rfl ?_; refine gw_append_sl (xs := x2) 0 rfl rfl memt rfl rfl (by omega) (by omega) (fun v => ?_); refine T_nv ?_; refine T_hq ?_) | (refine T_gen rfl rfl ?_; refine gw_append_sl (xs := x3) 0 rfl rfl memt rfl rfl (by omega) (by omega) (fun v => ?_); refine T_nv ?_; refine T_stays (xs := HB) 0 (congrArg (fun c => some (Hp.row _ 5 1 _ c)) bH) (fun A6 c6 hv => ?_); subst hv; refine T_hq ?_) | (refine T_gen rfl rfl ?_; refine gw_build0 rfl (by decide) (fun bz => ?_); refine T_nv ?_) | (refine T_gen rfl rfl ?_; refine gw_append_sl (xs := HB) 0 rfl rfl memt rfl rfl (by omega) (by omega) (fun v => ?_); refine T_nv ?_; refine T_hq ?_) | (refine T_ow rfl ?_; refine ow_callf arp ?_; refine rsum_k _ _ _ HB rfl (by omega) memt ?_; refine T_nv ?_) | (refine T_ow rfl ?_; refine ow_callf arp ?_; refine rfour_x (sumB HB) (by omega) x4 hx4 (fun v => ?_); refine T_nv ?_; refine T_stays (xs := x4) 0 rfl (fun A5 c5 hv => ?_); subst hv; refine T_hq ?_) | (refine T_gen rfl rfl ?_; refine gw_append_sl (xs := x4) 0 rfl rfl memt rfl rfl (by omega) (by omega) (fun v => ?_); refine T_nv ?_; refine T_hq ?_) | (refine T_gen rfl rfl ?_; refine gw_append_sl (xs := data) 0 rfl rfl memt rfl rfl (by omega) (by omega) (fun v => ?_); refine T_nv ?_; refine T_hq ?_) | (refine T_ow rfl ?_; refine ow_callf arp ?_; refine rsum_k _ _ _ data rfl (by omega) memt ?_; refine T_nv ?_) | (refine T_ow rfl ?_; refine ow_callf arp ?_; refine rfour_x (sumB data) (by omega) x5 hx5 (fun v => ?_); refine T_nv ?_; refine T_stays (xs := x5) 0 rfl (fun A5 c5 hv => ?_); subst hv; refine T_hq ?_) | (refine T_gen rfl rfl ?_; refine gw_append_sl (xs := x5) 0 rfl rfl memt rfl rfl (by omega) (by omega) (fun v => ?_); refine T_nv ?_; refine T_hq ?_) | (refine TC_cutS (x := .seq (.region 24 _ _) _) [13, 99, 100, 101, 102, 103, 104, 105, 106, 107, 108, 109, 110, 111] (fun j H' R'' => ∃ rest A c, j 13 = .slice A rest.length c ∧ rest = W ++ (if p.at_ + (21 + data.length) < (p.half + 1) * sz then [0] else []) ∧ .blk b [.slice none 0 0, .int .i64 0] 56 :: H = H' ∧ Sl (.slice A rest.length c) rest :: R' = R'') ?_ ?_) | (refine T_gen rfl rfl ?_; refine gw_append_blk 1 0 rfl rfl rfl rfl (by decide) rfl (by simp [Value.oneCell']) (by omega) (by omega) (fun v => ?_); refine T_nv ?_; refine T_stays (xs := W ++ [0]) 1 (congrArg (fun c => some (Hp.row _ 5 1 _ c)) bW0) (fun A7 c7 hv => ?_); subst hv; refine T_hq ?_) | (apply TC_seq) | (apply TC_region) | (apply TC_ret) | (apply TC_skip) | (apply TC_cond_true; exact rfl) | (apply TC_cond_false; exact rfl) | (apply T_nil) | (apply En_then) | (apply En_then_ret) | (apply T_bin; exact rfl; ((first | refine pw_add64 rfl rfl (by omega) (by omega) ?_ | refine pw_mul64 rfl rfl (by omega) (by omega) ?_)); refine T_nv ?_) | (apply T_bin; exact rfl; ((first | refine pw_lss rfl rfl (fun h => ?_) (fun h => ?_) | refine pw_gtr rfl rfl (fun h => ?_) (fun h => ?_))) <;> (refine T_nv ?_)) | (apply T_store; exact rfl; ((refine gw_store (i := 0) rfl clp rfl (by rfl) (by simp) (by simp [Value.oneCell']) ?_)); refine T_nv ?_; refine T_hq ?_) | (refine T_pure rfl rfl ?_; ((first | refine pw_mv ?_ | refine pw_as ?_ | refine pw_pick_t rfl evp ?_ | refine pw_pick_f rfl evp ?_ | refine pw_len rfl ?_ | refine pw_build bldp ?_)); refine T_nv ?_) | (refine T_skipped rfl ?_; refine T_nv ?_) | (refine T_gen rfl rfl ?_; ((refine gw_buildSlice (by decide) prtp rfl (fun b => ?_))); refine T_nv ?_))
      · have k3 := KOA_eq (r' := ([], 2)) (by unfold opsB; rw [if_pos (.inl (by omega))]) k2 none 0
        exact En_fin (.inl rfl) (res1 rfl (rv_cell (i := 0) rfl rfl rfl)) (fin_K H (Sl (.slice none 0 0) ([] : List DO) :: R') (fun w hs => (hs.weaken sbp kpp).sl_nil DO) k3)
      · have k3 := KOA_eq (r' := ([], 2)) (by unfold opsB; rw [if_pos (.inr (by omega))]) k2 none 0
        exact En_fin (.inl rfl) (res1 rfl (rv_cell (i := 0) rfl rfl rfl)) (fin_K H (Sl (.slice none 0 0) ([] : List DO) :: R') (fun w hs => (hs.weaken sbp kpp).sl_nil DO) k3)
      · refine En_midS _ _ sjp ⟨W ++ [0], A7, c7, rfl, by rw [if_pos (by omega)], rfl, rfl⟩ (fun w hs => hs.weaken (List.Sublist.cons _ (List.Sublist.refl _)) kpp)
      · refine En_stays (xs := W) 0 (congrArg (fun c => some (Hp.row _ 5 1 _ c)) bW) (fun A7 c7 hv => ?_)
        subst hv
        refine En_midS _ _ sjp ⟨W, A7, c7, rfl, by rw [if_neg (by omega), List.append_nil], rfl, rfl⟩ (fun w hs => hs.weaken (List.Sublist.refl _) kpp)
      · rintro j2 H2 R2 ⟨rest, A7, c7, h13', hrest, hH, hR⟩
        subst hH hR
        refine TC_env (by simp only [setJ, List.foldl_cons, List.foldl_nil, List.set_cons_succ, List.set_cons_zero, h13']; rfl) ?_
        have HRST := Go.Lib.hid hrest
        clear hrest bH bW bW0
        repeat' (first | (refine T_gen rfl rfl ?_; refine gw_buildSlice (by decide) prtp rfl (fun z0 => ?_); refine T_nv ?_; refine T_weaken _ _ (fun w hs => hs.bytes_stay (i := 0) (xs := [0]) (n := 1) (c := 1) rfl rfl (by omega) (by simp only [maxL]; omega)) ?_; refine T_hq ?_) | (refine T_gen rfl rfl ?_; refine gw_buildSlice (by decide) prtp rfl (fun z1 => ?_); refine T_nv ?_; refine T_weaken _ _ (fun w hs => hs.bytes_stay (i := 0) (xs := [167]) (n := 1) (c := 1) rfl rfl (by omega) (by simp only [maxL]; omega)) ?_; refine T_hq ?_) | (apply TC_seq) | (apply TC_region) | (apply T_nil) | (apply En_then) | (apply T_load; exact rfl; ((first | refine pw_load (i := 0) rfl rfl rfl ?_ | refine pw_load (i := 1) rfl rfl rfl ?_ | refine pw_load (i := 2) rfl rfl rfl ?_ | refine pw_load (i := 3) rfl rfl rfl ?_)); refine T_nv ?_) | (apply T_bin; exact rfl; ((refine pw_add64 rfl rfl (by omega) (by omega) ?_)); refine T_nv ?_) | (apply T_store; exact rfl; ((refine gw_store (i := 0) rfl clp rfl (by rfl) (by simp) (by simp [Value.oneCell']) ?_)); refine T_nv ?_; refine T_hq ?_) | (refine T_pure rfl rfl ?_; ((first | refine pw_mv ?_ | refine pw_build bldp ?_)); refine T_nv ?_) | (refine T_gen rfl rfl ?_; ((refine gw_alloc clp (fun b => ?_))); refine T_nv ?_))
        refine T_gen rfl rfl ?_
        refine gw_buildSlice (by decide) (by refine partsL_start ?_; repeat' (first | refine partsL_step clp (by rfl) (by simp only [List.drop_zero, List.take_succ_cons, List.take_zero, List.cons_append, List.nil_append]; rfl) ?_ | exact partsL_end)) rfl (fun z6 => ?_)
        refine T_nv ?_
        repeat' (first | (apply TC_ret) | (apply T_nil) | (apply En_then) | (apply T_store; exact rfl; ((refine gw_store (i := 5) rfl clp rfl (by rfl) (by simp) (by simp [Value.oneCell']) ?_)); refine T_nv ?_; refine T_hq ?_) | (refine T_pure rfl rfl ?_; ((refine pw_build bldp ?_)); refine T_nv ?_))
        have k3 := KOA_eq (r' := ([⟨1, p.at_, [0]⟩, ⟨2, 0, []⟩, ⟨1, (p.at_ + 1 : Nat), rest⟩, ⟨2, 0, []⟩, ⟨1, p.at_, [167]⟩, ⟨2, 0, []⟩], 0)) (by unfold opsB; rw [if_neg (by omega), HRST.out, hWd]) k2 (some ⟨z6, 0, none⟩) 6
        refine En_fin (.inl rfl) (res1 rfl (rv_cell (i := 5) rfl rfl rfl)) (fin_K H _ (fun w hs => ?_) k3)
        have hI : InI (p.at_ : Int) ∧ InI ((p.at_ + 1 : Nat) : Int) ∧ InI 1 ∧ InI 2 ∧ InI 0 := by simp only [InI]; omega
        have h2 := (hs.learn (Cx _ ([⟨1, p.at_, [0]⟩, ⟨2, 0, []⟩, ⟨1, (p.at_ + 1 : Nat), rest⟩, ⟨2, 0, []⟩, ⟨1, p.at_, [167]⟩, ⟨2, 0, []⟩] : List DO)) (fun s hR =>
          Cx_snoc (x := (⟨2, 0, []⟩ : DO)) (Cx_snoc (x := (⟨1, p.at_, [167]⟩ : DO)) (Cx_snoc (x := (⟨2, 0, []⟩ : DO)) (Cx_snoc (x := (⟨1, (p.at_ + 1 : Nat), rest⟩ : DO)) (Cx_snoc (x := (⟨2, 0, []⟩ : DO)) (Cx_one (x := (⟨1, p.at_, [0]⟩ : DO))
            ⟨some ⟨z0, 0, none⟩, 1, rfl, ⟨hI.2.2.1, hI.1⟩, hR (Sl (.slice (some ⟨z0, 0, none⟩) 1 1) ([0] : List UInt8)) memt⟩)
            ⟨none, 0, rfl, ⟨hI.2.2.2.1, hI.2.2.2.2⟩, Sl_nil UInt8 s⟩)
            ⟨A7, c7, rfl, ⟨hI.2.2.1, hI.2.1⟩, hR (Sl (.slice A7 rest.length c7) rest) memt⟩)
            ⟨none, 0, rfl, ⟨hI.2.2.2.1, hI.2.2.2.2⟩, Sl_nil UInt8 s⟩)
            ⟨some ⟨z1, 0, none⟩, 1, rfl, ⟨hI.2.2.1, hI.1⟩, hR (Sl (.slice (some ⟨z1, 0, none⟩) 1 1) ([167] : List UInt8)) memt⟩)
            ⟨none, 0, rfl, ⟨hI.2.2.2.1, hI.2.2.2.2⟩, Sl_nil UInt8 s⟩)).blk_stays (i := 0) (n := 6) (c := 6) (sp := []) rfl List.mem_cons_self rfl (by omega) (by decide)
        exact h2.weaken sbp (sub_cons List.mem_cons_self (fun p hp => List.mem_cons_of_mem _ (List.mem_cons_of_mem _ (List.mem_cons_of_mem _ (List.mem_cons_of_mem _ (List.mem_cons_of_mem _ hp))))))
  · refine En_fin (.inl rfl) (res1 rfl (rv_cell (i := 0) rfl rfl rfl)) (fin_K H (Sl (.slice none 0 0) ([] : List DO) :: R) (fun w hs => (hs.weaken sbp (fun _ h => h)).sl_nil DO) ?_)
    exact KOA_eq (r' := ([], 301)) (by unfold appendD; rw [hc]; rfl) k none 0
end Go.Proofs.YtggdljhmbckpmaaGreat
namespace Go.Proofs.YtggdljhmbckpmaaGreat
open Go Go.RowKit
set_option maxRecDepth 100000
set_option maxHeartbeats 8000000

theorem KOA_lit {K : Value → List Hp → List MP → Prop} {r : List DO × Int} {H : List Hp} {R : List MP} (xs : List DO) (e : Int) (hr : r = (xs, e)) (h : ∀ A c, K (.agg #[.slice A xs.length c, .int .i64 e]) H (Sl (.slice A xs.length c) xs :: R)) : KOA K r H R := by
  subst hr; exact h
theorem KO_litz {K : Value → List Hp → List MP → Prop} {r : List DO × Int} {H : List Hp} {R : List MP} (xs : List DO) (e : Int) (hr : r = (xs, e)) (h : ∀ A c, K (.tuple #[.slice A xs.length c, .int .i64 e]) H (Sl (.slice A xs.length c) xs :: R)) : KO K r H R := by
  subst hr; exact h
theorem KRA_lit {K : Value → List Hp → List MP → Prop} {r : List RecD × Int} {H : List Hp} {R : List MP} (xs : List RecD) (e : Int) (hr : r = (xs, e)) (h : ∀ A c, K (.agg #[.slice A xs.length c, .int .i64 e]) H (Sl (.slice A xs.length c) xs :: R)) : KRA K r H R := by
  subst hr; exact h
theorem KR_litz {K : Value → List Hp → List MP → Prop} {r : List RecD × Int} {H : List Hp} {R : List MP} (xs : List RecD) (e : Int) (hr : r = (xs, e)) (h : ∀ A c, K (.tuple #[.slice A xs.length c, .int .i64 e]) H (Sl (.slice A xs.length c) xs :: R)) : KR K r H R := by
  subst hr; exact h
theorem KC_litz {K : Value → List Hp → List MP → Prop} {r : List UInt8 × Int} {H : List Hp} {R : List MP} (xs : List UInt8) (e : Int) (hr : r = (xs, e)) (h : ∀ A c, K (.agg #[.slice A xs.length c, .int .i64 e]) H (Sl (.slice A xs.length c) xs :: R)) : KC K r H R := by
  subst hr; exact h
theorem KB_litz {K : Value → List Hp → List MP → Prop} {r : List UInt8 × Int} {H : List Hp} {R : List MP} (xs : List UInt8) (e : Int) (hr : r = (xs, e)) (h : ∀ A c, K (.tuple #[.slice A xs.length c, .int .i64 e]) H (Sl (.slice A xs.length c) xs :: R)) : KB K r H R := by
  subst hr; exact h
theorem appendD_len (d : Drive) (data : List UInt8) : (appendD d data).1.length ≤ 6 := by
  unfold appendD opsB
  split
  · split
    · simp
    · split <;> simp
  · simp
theorem recordsD_len (d : Drive) : (recordsD d).1.length ≤ 600000 := by
  unfold recordsD
  split
  · rename_i hc
    have h6 := (checkD_spec hc).2.1
    have := curB_len (b := hasB d) (by rw [hasB_length hc]; exact h6)
    simpa using this
  · simp
theorem records_law_k {w0 : World} {H : List Hp} {R : List MP} {K : Value → List Hp → List MP → Prop} (A0 : Option Addr) (c0 : Nat) (A2 : Option Addr) (c2 : Nat) (A3 : Option Addr) (c3 : Nat) (d : Drive) (data : List UInt8) (hb : d.bytes.length ≤ 9223372036854775807) (hp : d.pending.length ≤ 9223372036854775807) (hdl : data.length ≤ 140737488355328)
    (hm : Sl (.slice A0 d.bytes.length c0) d.bytes ∈ R) (hm2 : Sl (.slice A2 d.pending.length c2) d.pending ∈ R) (hm3 : Sl (.slice A3 data.length c3) data ∈ R)
    (k : K (.bool true) H R) : CallsK Tryz.prog w0 4 #[dv A0 c0 A2 c2 d, .slice A3 data.length c3] H R K := by
  have l1 := appendD_len d data
  have l2 := recordsD_len d
  obtain ⟨⟨os, eo⟩, ho⟩ : ∃ r, appendD d data = r := ⟨_, rfl⟩
  obtain ⟨⟨lR, er⟩, hlr⟩ : ∃ r, recordsD d = r := ⟨_, rfl⟩
  obtain ⟨⟨ys, ey⟩, hy⟩ : ∃ r, lastD d = r := ⟨_, rfl⟩
  rw [ho] at l1
  rw [hlr] at l2
  simp only at l1 l2
  have hdl' : data.length ≤ 9223372036854770000 := by omega
  refine calls_of Tryz.func4 rfl Tryz.ntmps4 nep ?_
  repeat' (first | (refine T_gen rfl rfl ?_; refine gw_box clp (fun b2 => ?_); refine T_nv ?_) | (refine T_ow rfl ?_; refine ow_callf arp ?_; refine sane_k ?_; refine T_nv ?_) | (refine T_ow rfl ?_; refine ow_callf arp ?_; refine append_k _ _ _ _ _ _ d data hb hp hdl' memt memt memt (KO_litz os eo ho (fun AO cO => ?_)); refine T_nv ?_) | (refine T_ow rfl ?_; refine ow_callf arp ?_; refine rappend_k _ _ _ _ _ _ d data hb hp hdl' memt memt memt (KOA_lit os eo ho (fun AO cO => ?_)); refine T_nv ?_) | (refine T_ow rfl ?_; refine ow_callf arp ?_; refine records_k _ _ _ _ d hb hp memt memt (KR_litz lR er hlr (fun AR cR => ?_)); refine T_nv ?_) | (refine T_ow rfl ?_; refine ow_callf arp ?_; refine rrecords_k _ _ _ _ d hb hp memt memt (KRA_lit lR er hlr (fun AR cR => ?_)); refine T_nv ?_) | (refine T_ow rfl ?_; refine ow_callf arp ?_; refine last_k _ _ _ _ d hb hp memt memt (KB_litz ys ey hy (fun AY cY => ?_)); refine T_nv ?_) | (refine T_ow rfl ?_; refine ow_callf arp ?_; refine rlast_k _ _ _ _ d hb hp memt memt (KC_litz ys ey hy (fun AY cY => ?_)); refine T_nv ?_) | (refine T_gen rfl rfl ?_; refine gw_alloc clp (fun b8 => ?_); refine T_nv ?_) | (apply T_bin; exact rfl; refine pw_eql rfl rfl (fun hh => ?_) (fun h => absurd rfl h); refine T_nv ?_) | (refine T_ow rfl ?_; refine ow_callf arp ?_; refine sameOps_k _ _ _ _ _ _ os (by omega) rfl rfl memt memt ?_; refine T_nv ?_) | (refine T_ow rfl ?_; refine ow_callf arp ?_; refine sameRecords_k _ _ _ _ _ _ lR (by omega) rfl rfl memt memt ?_; refine T_nv ?_) | (refine T_ow rfl ?_; refine ow_callf arp ?_; refine sameBytes_k2 _ _ _ _ _ _ ys ys memt memt (fun _ => ?_) (fun h => absurd rfl h); refine T_nv ?_) | (apply TC_seq) | (apply TC_region) | (apply TC_ret) | (apply TC_skip) | (apply TC_cond_true; exact rfl) | (apply TC_cond_false; exact rfl) | (apply T_nil) | (apply En_then) | (apply En_then_ret) | (apply T_load; exact rfl; ((first | refine pw_load (i := 0) rfl rfl rfl ?_ | refine pw_load (i := 1) rfl rfl rfl ?_ | refine pw_load (i := 2) rfl rfl rfl ?_)); refine T_nv ?_) | (apply T_bin; exact rfl; ((refine pw_gtr rfl rfl (fun h => ?_) (fun h => ?_))) <;> (refine T_nv ?_)) | (apply T_store; exact rfl; ((refine gw_store (i := 0) rfl clp rfl (by rfl) (by simp) (by simp [Value.oneCell']) ?_)); refine T_nv ?_; refine T_hq ?_) | (refine T_pure rfl rfl ?_; ((first | refine pw_mv ?_ | refine pw_as ?_ | refine pw_pick_t rfl evp ?_ | refine pw_fieldAddr rfl ?_ | refine pw_len rfl ?_ | refine pw_extract rfl rfl ?_)); refine T_nv ?_))
  all_goals exact En_fin (.inl rfl) (res1 rfl (rv_tmp rfl)) (fin_K H R (fun w hs => hs.weaken sbp kpp) k)
end Go.Proofs.YtggdljhmbckpmaaGreat
