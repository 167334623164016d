/- The reference of records: record: walk. The reference of records: half, current: walks. The reference of records: current, Records, Last: walks. The reference of records: Records, Last: walks. The reference of records: Append: walk. -/
import Derived.Test.YtggdljhmbckpmaaGreatZA
import Derived.Test.YtggdljhmbckpmaaGreatQQ
import Derived.Test.YtggdljhmbckpmaaGreatAS
import Derived.Test.YtggdljhmbckpmaaGreatS1
set_option linter.unusedVariables false
set_option linter.unusedSimpArgs false
namespace Go.Proofs.YtggdljhmbckpmaaGreat
open Go Go.RowKit
set_option maxRecDepth 100000
set_option maxHeartbeats 1600000

theorem recA_false {xs : List UInt8} {at_ limit : Nat} (hl : limit ≤ xs.length) (h : limit < at_ + 17 ∨ xs.getD at_ 0 ≠ 167 ∨ sumB ((xs.take (at_ + 13)).drop (at_ + 1)) ≠ fourL (xs.drop (at_ + 13)) ∨ limit < at_ + 21 + fourL (xs.drop (at_ + 9)) ∨
    sumB ((xs.take (at_ + 17 + fourL (xs.drop (at_ + 9)))).drop (at_ + 17)) ≠ fourL (xs.drop (at_ + 17 + fourL (xs.drop (at_ + 9))))) : (recA xs at_ limit).2 = false := by
  cases hx : (recA xs at_ limit).2 with
  | false => rfl
  | true =>
    exfalso
    obtain ⟨g1, g2, g3, g4, g5, g6, g7⟩ := recA_len hl hx
    rcases h with h | h | h | h | h
    · omega
    · exact h g2
    · exact h g3.symm
    · omega
    · exact h g5.symm
theorem recA_true {xs : List UInt8} {at_ limit : Nat} (hl : limit ≤ xs.length) (h1 : at_ + 17 ≤ limit) (h2 : xs.getD at_ 0 = 167) (h3 : sumB ((xs.take (at_ + 13)).drop (at_ + 1)) = fourL (xs.drop (at_ + 13))) (h4 : at_ + 21 + fourL (xs.drop (at_ + 9)) ≤ limit)
    (h5 : sumB ((xs.take (at_ + 17 + fourL (xs.drop (at_ + 9)))).drop (at_ + 17)) = fourL (xs.drop (at_ + 17 + fourL (xs.drop (at_ + 9))))) :
    recR xs at_ limit = (⟨at_, fourL (xs.drop (at_ + 1)), fourL (xs.drop (at_ + 5)), fourL (xs.drop (at_ + 9))⟩, true) := by
  have e : recA xs at_ limit = (⟨at_, fourL (xs.drop (at_ + 1)), fourL (xs.drop (at_ + 5)), (xs.take (at_ + 17 + fourL (xs.drop (at_ + 9)))).drop (at_ + 17)⟩, true) := by
    unfold recA
    rw [if_neg (by omega), if_neg (fun hh => hh h2), if_neg (fun hh => hh h3.symm), if_neg (by omega)]
    simp only [h5, decide_true]
  unfold recR
  rw [e]
  simp only [if_true, Rc.toR, List.length_drop, List.length_take]
  congr 2
  omega
theorem rrecord_k {w0 : World} {H : List Hp} {R : List MP} {K : Value → List Hp → List MP → Prop} (A0 : Option Addr) (c0 : Nat) (xs : List UInt8) (at_ limit : Nat) (hb : xs.length ≤ 600000) (hal : at_ ≤ limit) (hlb : limit ≤ xs.length)
    (hm : Sl (.slice A0 xs.length c0) xs ∈ R)
    (k : K (.tuple #[rdV (recR xs at_ limit).1, .bool (recR xs at_ limit).2]) H R) : CallsK Tryz.prog w0 150 #[.slice A0 xs.length c0, .int .i64 (at_ : Int), .int .i64 (limit : Int)] H R K := by
  have kno : (recA xs at_ limit).2 = false → K (.tuple #[.agg #[.int .i64 0, .int .i64 0, .int .i64 0, .int .i64 0], .bool false]) H R := fun h => by
    have e : recR xs at_ limit = (⟨0, 0, 0, 0⟩, false) := by unfold recR; rw [h]; rfl
    rw [e] at k; exact k
  have h9 := fourL_lt (xs.drop (at_ + 9))
  obtain ⟨n, hn⟩ : ∃ n, fourL (xs.drop (at_ + 9)) = n := ⟨_, rfl⟩
  rw [hn] at h9
  have s1 : at_ + 17 ≤ limit → (xs.take ((at_ : Int) + 13).toNat).drop ((at_ : Int) + 1).toNat = (xs.take (at_ + 13)).drop (at_ + 1) := fun _ => by
    rw [show ((at_ : Int) + 13).toNat = at_ + 13 by omega, show ((at_ : Int) + 1).toNat = at_ + 1 by omega]
  have s2 : at_ + 17 ≤ limit → (xs.take ((at_ : Int) + 17 + (n : Int)).toNat).drop ((at_ : Int) + 17).toNat = (xs.take (at_ + 17 + n)).drop (at_ + 17) := fun _ => by
    rw [show ((at_ : Int) + 17 + (n : Int)).toNat = at_ + 17 + n by omega, show ((at_ : Int) + 17).toNat = at_ + 17 by omega]
  refine calls_of Tryz.func150 rfl Tryz.ntmps150 nep ?_
  repeat' (first | (apply T_store; exact rfl; refine gw_store (i := 0) rfl clp rfl (by rfl) (by simp) (by simp [Value.oneCell']) ?_; refine T_nv ?_; refine T_hq ?_) | (refine T_pure rfl rfl ?_; refine pw_slice_sl (xs := xs) rfl memt rfl rfl rfl rfl (by omega) (by omega) (by omega) (fun A8 c8 => ?_); (first | rw [s1 (by omega)] | rw [s2 (by omega)]; refine T_nv ?_)) | (refine T_ow rfl ?_; refine ow_callf arp ?_; refine rsum_k _ _ _ ((xs.take (at_ + 13)).drop (at_ + 1)) (by simp; omega) (by simp; omega) memt ?_; refine T_nv ?_) | (refine T_ow rfl ?_; refine ow_callf arp ?_; refine rread4_k _ _ xs _ (at_ + 13) rfl (by omega) hb memt ?_; refine T_nv ?_) | (refine T_ow rfl ?_; refine ow_callf arp ?_; refine rread4_k _ _ xs _ (at_ + 9) rfl (by omega) hb memt ?_; rw [hn]; refine T_nv ?_) | (refine T_pure rfl rfl ?_; refine pw_convi (a := n) rfl (by omega) ?_; refine T_nv ?_) | (refine T_ow rfl ?_; refine ow_callf arp ?_; refine rsum_k _ _ _ ((xs.take (at_ + 17 + n)).drop (at_ + 17)) (by simp; omega) (by simp; omega) memt ?_; refine T_nv ?_) | (refine T_ow rfl ?_; refine ow_callf arp ?_; refine rread4_k _ _ xs _ (at_ + 17 + n) rfl (by omega) hb memt ?_; refine T_nv ?_) | (refine T_ow rfl ?_; refine ow_callf arp ?_; refine rread4_k _ _ xs _ (at_ + 1) rfl (by omega) hb memt ?_; refine T_nv ?_) | (refine T_ow rfl ?_; refine ow_callf arp ?_; refine rread4_k _ _ xs _ (at_ + 5) rfl (by omega) hb memt ?_; refine T_nv ?_) | (refine T_pure rfl rfl ?_; refine pw_convi rfl (Nat.le_trans (Nat.le_of_lt (fourL_lt _)) (by decide)) ?_; refine T_nv ?_) | (apply TC_seq) | (apply TC_region) | (apply TC_ret) | (apply TC_skip) | (apply TC_cond_true; exact rfl) | (apply TC_cond_false; exact rfl) | (apply T_nil) | (apply En_then) | (apply En_then_ret) | (apply T_load; exact rfl; ((refine pw_load_at0 rfl memr rfl ?_)); refine T_nv ?_) | (apply T_bin; exact rfl; ((first | refine pw_add64 rfl rfl (by omega) (by omega) ?_ | refine pw_sub64 rfl rfl (by omega) (by omega) ?_)); refine T_nv ?_) | (apply T_bin; exact rfl; ((first | refine pw_lss rfl rfl (fun h => ?_) (fun h => ?_) | refine pw_gtr rfl rfl (fun h => ?_) (fun h => ?_) | refine pw_neq rfl rfl (fun h => ?_) (fun h => ?_))) <;> (refine T_nv ?_)) | (apply T_idx; exact rfl; ((refine pw_index_bN evp rfl memt (List.getElem?_eq_getElem (by omega)) (fun b o => ?_))); refine T_nv ?_) | (refine T_pure rfl rfl ?_; ((first | refine pw_mv ?_ | refine pw_as ?_ | refine pw_pick_t rfl evp ?_ | refine pw_pick_f rfl evp ?_ | refine pw_build bldp ?_)); refine T_nv ?_) | (refine T_skipped rfl ?_; refine T_nv ?_) | (refine T_gen rfl rfl ?_; ((refine gw_alloc clp (fun b => ?_))); refine T_nv ?_))
  · exact En_fin (.inl rfl) (res2 rfl (rv_cell (i := 0) rfl rfl rfl) (rv_tmp rfl)) (fin_K H R (fun w hs => hs.weaken sbp kpp) (kno (recA_false hlb (.inl (by omega)))))
  · refine En_fin (.inl rfl) (res2 rfl (rv_cell (i := 0) rfl rfl rfl) (rv_tmp rfl)) (fin_K H R (fun w hs => hs.weaken sbp kpp) (kno (recA_false hlb (.inr (.inl ?_)))))
    rw [getD_at xs at_ (by omega)]
    intro e
    exact h (by rw [e]; rfl)
  · exact En_fin (.inl rfl) (res2 rfl (rv_cell (i := 0) rfl rfl rfl) (rv_tmp rfl)) (fin_K H R (fun w hs => hs.weaken sbp kpp) (kno (recA_false hlb (.inr (.inr (.inl (fun e => h (by rw [e]))))))))
  · exact En_fin (.inl rfl) (res2 rfl (rv_cell (i := 0) rfl rfl rfl) (rv_tmp rfl)) (fin_K H R (fun w hs => hs.weaken sbp kpp) (kno (recA_false hlb (.inr (.inr (.inr (.inl (by rw [hn]; omega))))))))
  · exact En_fin (.inl rfl) (res2 rfl (rv_cell (i := 0) rfl rfl rfl) (rv_tmp rfl)) (fin_K H R (fun w hs => hs.weaken sbp kpp) (kno (recA_false hlb (.inr (.inr (.inr (.inr (by rw [hn]; exact fun e => h (by rw [e])))))))))
  · have e := recA_true hlb (at_ := at_) (by omega) (by rw [getD_at xs at_ (by omega)]; exact UInt8.toNat_inj.1 (by show xs[at_].toNat = 167; omega)) (by omega) (by rw [hn]; omega) (by rw [hn]; omega)
    rw [e, hn] at k
    exact En_fin (.inl rfl) (res2 rfl (rv_cell (i := 0) rfl rfl rfl) (rv_tmp rfl)) (fin_K H R (fun w hs => hs.weaken sbp kpp) k)
end Go.Proofs.YtggdljhmbckpmaaGreat
namespace Go.Proofs.YtggdljhmbckpmaaGreat
open Go Go.RowKit
set_option maxRecDepth 100000
set_option maxHeartbeats 1600000

def epN (l : List Rc) : Int := epI (epL none l)
theorem endL_snoc : ∀ (l : List Rc) (a : Nat) (r : Rc), endL a (l ++ [r]) = r.stop
  | [], a, r => rfl
  | x :: l, a, r => endL_snoc l x.stop r
theorem epL_snoc : ∀ (l : List Rc) (e : Option Nat) (r : Rc), epL e (l ++ [r]) = some r.epoch
  | [], e, r => rfl
  | x :: l, e, r => epL_snoc l (some x.epoch) r
theorem epL_cons {l : List Rc} (h : 0 < l.length) : ∃ e, epL none l = some e := by
  obtain ⟨l', r, rfl⟩ : ∃ l' r, l = l' ++ [r] := by
    rcases List.eq_nil_or_concat l with h' | ⟨l', r, h'⟩
    · rw [h'] at h; simp at h
    · exact ⟨l', r, by rw [h', List.concat_eq_append]⟩
  exact ⟨_, epL_snoc _ _ _⟩
theorem rhalf_k {w0 : World} {H : List Hp} {R : List MP} {K : Value → List Hp → List MP → Prop} (A0 : Option Addr) (c0 : Nat) (xs : List UInt8) (from_ limit : Nat) (hb : xs.length ≤ 600000) (hal : from_ ≤ limit) (hlb : limit ≤ xs.length)
    (hm : Sl (.slice A0 xs.length c0) xs ∈ R) (l : List Rc) (hl : recL xs limit (xs.length + 1) from_ 0 none = l)
    (k : ∀ A c, K (.agg #[.slice A l.length c, .int .i64 (epN l), .int .i64 ((endL from_ l : Nat) : Int)]) H (Sl (.slice A l.length c) (l.map Rc.toR) :: R)) : CallsK Tryz.prog w0 117 #[.slice A0 xs.length c0, .int .i64 (from_ : Int), .int .i64 (limit : Int)] H R K := by
  refine calls_of Tryz.func117 rfl Tryz.ntmps117 nep ?_
  repeat' (first | (refine T_gen rfl rfl ?_; refine gw_alloc clp (fun b7 => ?_); refine T_nv ?_) | (apply TC_seq) | (apply TC_region) | (apply TC_block) | (apply T_nil) | (apply En_then) | (apply T_store; exact rfl; ((refine gw_store (i := 0) rfl clp rfl (by rfl) (by simp) (by simp [Value.oneCell']) ?_)); refine T_nv ?_; refine T_hq ?_) | (refine T_pure rfl rfl ?_; ((first | refine pw_mv ?_ | refine pw_build bldp ?_)); refine T_nv ?_))
  rename_i b6
  refine TC_nilrow 135 4 ?_
  refine TC_learn (Cx [] ([] : List RecD)) (fun s _ => Cx_nil s) ?_
  refine TC_loopS [8, 9, 12, 13, 14, 15, 16, 17, 18, 19, 20, 21, 22, 23, 24, 25, 26, 27, 28, 29, 30, 31, 32, 33, 34, 35, 36, 37, 38, 39, 40, 41, 42, 43, 44, 45, 46, 47, 48, 49, 50, 51, 52, 53, 54, 55, 56, 57, 58, 59] (fun m j H' R' => ∃ (pre : List Rc) (Ap : Option Addr) (cp : Nat) (cs : List Value), m + pre.length = xs.length + 1 ∧ l = pre ++ recL xs limit m (endL from_ pre) pre.length (epL none pre) ∧ from_ + 21 * pre.length ≤ endL from_ pre ∧ endL from_ pre ≤ limit ∧
    (Cx cs (pre.map Rc.toR) :: R) = R' ∧ (.row (.slice Ap pre.length cp) 135 4 pre.length cs :: .blk b7 [.slice Ap pre.length cp, .int .i64 (epN pre), .int .i64 ((endL from_ pre : Nat) : Int)] 128 :: .blk b6 [.slice none 0 0, .int .i64 0, .int .i64 0] 128 :: H) = H') (xs.length + 1) sjp ⟨[], none, 0, [], rfl, hl.symm, by simp [endL], by simpa [endL] using hal, rfl, rfl⟩ ?_
  rintro m j H' R' ⟨pre, Ap, cp, cs, hml, hre, hge, hle, hR, hH⟩
  subst hR hH
  refine TC_env (by simp only [setJ, List.foldl_cons, List.foldl_nil, List.set_cons_succ, List.set_cons_zero]; rfl) ?_
  obtain ⟨a, ha⟩ : ∃ a, endL from_ pre = a := ⟨_, rfl⟩
  rw [ha] at hre hge hle ⊢
  have hm0 : 0 < m := by omega
  have hlm : (pre.map Rc.toR).length = pre.length := by simp
  have HRe := Go.Lib.hid hre
  clear hre hl
  by_cases hx : (recA xs a limit).2 = true
  · obtain ⟨r, hr⟩ : ∃ r, (recA xs a limit).1 = r := ⟨_, rfl⟩
    obtain ⟨⟨o1, o2, o3⟩, o4, o5, o6⟩ := recA_ok (by omega) hx
    rw [hr] at o1 o2 o3 o4 o5 o6
    have hrr : recR xs a limit = (⟨(r.at_ : Int), r.epoch, r.seq, r.data.length⟩, true) := by unfold recR; rw [if_pos hx, hr]; rfl
    simp only [Rc.stop] at o1 o5 o6
    by_cases hg : r.seq = pre.length ∧ (∀ e, epL none pre = some e → r.epoch = e)
    · have h1 := hg.1
      have h2 : 0 < pre.length → (r.epoch : Int) = epN pre := fun h => by
        obtain ⟨e, he⟩ := epL_cons h
        rw [epN, he, hg.2 e he]; rfl
      have e1 : ((endL from_ (pre ++ [r]) : Nat) : Int) = (r.at_ : Int) + 21 + (r.data.length : Int) := by rw [endL_snoc]; simp [Rc.stop]
      have e2 : epN (pre ++ [r]) = (r.epoch : Int) := by rw [epN, epL_snoc]; rfl
      have e3 : (pre ++ [r]).length = pre.length + 1 := by simp
      have e4 : (pre ++ [r]).map Rc.toR = pre.map Rc.toR ++ [r.toR] := by simp
      have e5 : endL from_ (pre ++ [r]) = r.stop := endL_snoc _ _ _
      have hnext : recL xs limit m a pre.length (epL none pre) = r :: recL xs limit (m - 1) r.stop (pre.length + 1) (some r.epoch) := by
        rw [recL_yes hm0 ⟨hx, by rw [hr]; exact hg.1, by rw [hr]; exact hg.2⟩, hr]
      repeat' (first | (refine T_ow rfl ?_; refine ow_callf arp ?_; refine rrecord_k _ _ xs a limit hb hle hlb memt ?_; rw [hrr]; refine T_nv ?_) | (refine T_gen rfl rfl ?_; refine gw_alloc clp (fun b8 => ?_); refine T_nv ?_) | (refine T_gen rfl rfl ?_; refine gw_append_blk 2 0 rfl rfl rfl rfl (by decide) rfl (by simp [Value.oneCell']) (by omega) (by omega) (fun pv' => ?_); refine T_nv ?_; refine T_hq ?_; refine T_shape 2 rfl (fun A6 c6 hv => ?_); subst hv; refine T_learn (Cx (cs ++ [.int .i64 (r.at_ : Int), .int .i64 (r.epoch : Int), .int .i64 (r.seq : Int), .int .i64 (r.data.length : Int)]) (pre.map Rc.toR ++ [r.toR])) (fun s hs => Cx_snoc (hs (Cx cs (pre.map Rc.toR)) memt) ⟨rfl, by simp only [InI, Rc.toR]; omega⟩) ?_) | (apply TC_seq) | (apply TC_region) | (apply TC_block) | (apply TC_skip) | (apply TC_cond_false; exact rfl) | (apply T_nil) | (apply En_then) | (apply En_block) | (apply T_load; exact rfl; ((first | refine pw_load (i := 0) rfl rfl rfl ?_ | refine pw_load (i := 1) rfl rfl rfl ?_ | refine pw_load (i := 2) rfl rfl rfl ?_)); refine T_nv ?_) | (apply T_bin; exact rfl; ((refine pw_add64 rfl rfl (by omega) (by omega) ?_)); refine T_nv ?_) | (apply T_bin; exact rfl; ((first | refine pw_gtr rfl rfl (fun h => ?_) (fun h => ?_) | refine pw_neq rfl rfl (fun h => ?_) (fun h => ?_))) <;> (first | (exfalso; omega) | refine T_nv ?_)) | (apply T_store; exact rfl; ((first | refine gw_store (i := 0) rfl clp rfl (by rfl) (by simp) (by simp [Value.oneCell']) ?_ | refine gw_store (i := 2) rfl clp rfl (by rfl) (by simp) (by simp [Value.oneCell']) ?_ | refine gw_store (i := 3) rfl clp rfl (by rfl) (by simp) (by simp [Value.oneCell']) ?_)); refine T_nv ?_; refine T_hq ?_) | (refine T_pure rfl rfl ?_; ((first | refine pw_mv ?_ | refine pw_as ?_ | refine pw_pick_t rfl evp ?_ | refine pw_pick_f rfl evp ?_ | refine pw_fieldAddr rfl ?_ | refine pw_len rfl ?_ | refine pw_extract rfl rfl ?_ | refine pw_not rfl ?_)); refine T_nv ?_) | (refine T_skipped rfl ?_; refine T_nv ?_) | (refine T_gen rfl rfl ?_; ((refine gw_buildSlice (by decide) prtp rfl (fun b => ?_))); refine T_nv ?_))
      all_goals
        refine En_backS (m - 1) (.row (.slice A6 (pre.length + 1) c6) 135 4 (pre.length + 1) (cs ++ [.int .i64 (r.at_ : Int), .int .i64 (r.epoch : Int), .int .i64 (r.seq : Int), .int .i64 (r.data.length : Int)]) :: .blk b7 [.slice A6 (pre.length + 1) c6, .int .i64 (r.epoch : Int), .int .i64 ((r.at_ : Int) + 21 + (r.data.length : Int))] 128 :: .blk b6 [.slice none 0 0, .int .i64 0, .int .i64 0] 128 :: H) (Cx (cs ++ [.int .i64 (r.at_ : Int), .int .i64 (r.epoch : Int), .int .i64 (r.seq : Int), .int .i64 (r.data.length : Int)]) (pre.map Rc.toR ++ [r.toR]) :: R) (by omega) sjp ⟨pre ++ [r], A6, c6, cs ++ [.int .i64 (r.at_ : Int), .int .i64 (r.epoch : Int), .int .i64 (r.seq : Int), .int .i64 (r.data.length : Int)], by rw [e3]; omega, ?_, by rw [e3, e5]; simp only [Rc.stop]; omega, by rw [e5]; simp only [Rc.stop]; omega, by rw [e4], by rw [e1, e2, e3]⟩ (fun w hs => hs.weaken sbp kpp)
        rw [HRe.out, hnext, e5, e3, epL_snoc]; simp
    · have hbad : r.seq ≠ pre.length ∨ (0 < pre.length ∧ (r.epoch : Int) ≠ epN pre) := by
        by_cases hs : r.seq = pre.length
        · right
          rcases Nat.eq_zero_or_pos pre.length with h0 | h0
          · exfalso
            have : pre = [] := List.eq_nil_of_length_eq_zero h0
            subst this
            exact hg ⟨hs, fun e he => by simp [epL] at he⟩
          · refine ⟨h0, fun he => hg ⟨hs, fun e h' => ?_⟩⟩
            rw [epN, h'] at he
            have : (r.epoch : Int) = (e : Int) := he
            omega
        · exact .inl hs
      have hfin : l = pre := by rw [HRe.out, recL_no (fun h => hg (by rw [hr] at h; exact ⟨h.2.1, h.2.2⟩)), List.append_nil]
      have hk : ∀ A c, K (.agg #[.slice A pre.length c, .int .i64 (epN pre), .int .i64 (a : Int)]) H (Sl (.slice A pre.length c) (pre.map Rc.toR) :: R) := fun A c => by
        have := k A c
        rw [hfin, ha] at this; exact this
      repeat' (first | (refine T_ow rfl ?_; refine ow_callf arp ?_; refine rrecord_k _ _ xs a limit hb hle hlb memt ?_; rw [hrr]; refine T_nv ?_) | (refine T_gen rfl rfl ?_; refine gw_alloc clp (fun b8 => ?_); refine T_nv ?_) | (apply TC_seq) | (apply TC_region) | (apply TC_block) | (apply TC_ret) | (apply TC_cond_true; exact rfl) | (apply T_nil) | (apply En_then) | (apply En_then_ret) | (apply En_block_ret) | (apply T_load; exact rfl; ((first | refine pw_load (i := 0) rfl rfl rfl ?_ | refine pw_load (i := 1) rfl rfl rfl ?_ | refine pw_load (i := 2) rfl rfl rfl ?_)); refine T_nv ?_) | (apply T_bin; exact rfl; ((first | refine pw_gtr rfl rfl (fun h => ?_) (fun h => ?_) | refine pw_neq rfl rfl (fun h => ?_) (fun h => ?_))) <;> (first | (exfalso; omega) | refine T_nv ?_)) | (apply T_store; exact rfl; ((first | refine gw_store (i := 0) rfl clp rfl (by rfl) (by simp) (by simp [Value.oneCell']) ?_ | refine gw_store (i := 3) rfl clp rfl (by rfl) (by simp) (by simp [Value.oneCell']) ?_)); refine T_nv ?_; refine T_hq ?_) | (refine T_pure rfl rfl ?_; ((first | refine pw_mv ?_ | refine pw_as ?_ | refine pw_pick_t rfl evp ?_ | refine pw_pick_f rfl evp ?_ | refine pw_fieldAddr rfl ?_ | refine pw_len rfl ?_ | refine pw_extract rfl rfl ?_ | refine pw_not rfl ?_)); refine T_nv ?_) | (refine T_skipped rfl ?_; refine T_nv ?_))
      all_goals
        refine En_stays' (xs := pre.map Rc.toR) 1 rfl rfl (by decide) memt (fun A c hv => ?_)
        injection hv with v1 v2 v3
        subst v1 v3
        rw [hlm]
        exact En_fin (.inl rfl) (res1 rfl (rv_cell (i := 2) rfl rfl rfl)) (fin_K H _ (fun w hs => hs.weaken sbp kpp) (hk _ _))
  · have hrr : recR xs a limit = (⟨0, 0, 0, 0⟩, false) := by unfold recR; rw [if_neg hx]
    have hfin : l = pre := by rw [HRe.out, recL_no (fun h => hx h.1), List.append_nil]
    have hk : ∀ A c, K (.agg #[.slice A pre.length c, .int .i64 (epN pre), .int .i64 (a : Int)]) H (Sl (.slice A pre.length c) (pre.map Rc.toR) :: R) := fun A c => by
      have := k A c
      rw [hfin, ha] at this; exact this
    repeat' (first | (refine T_ow rfl ?_; refine ow_callf arp ?_; refine rrecord_k _ _ xs a limit hb hle hlb memt ?_; rw [hrr]; refine T_nv ?_) | (refine T_gen rfl rfl ?_; refine gw_alloc clp (fun b8 => ?_); refine T_nv ?_) | (apply TC_seq) | (apply TC_region) | (apply TC_block) | (apply TC_ret) | (apply TC_cond_true; exact rfl) | (apply T_nil) | (apply En_then) | (apply En_then_ret) | (apply En_block_ret) | (apply T_load; exact rfl; ((first | refine pw_load (i := 1) rfl rfl rfl ?_ | refine pw_load (i := 2) rfl rfl rfl ?_)); refine T_nv ?_) | (apply T_store; exact rfl; ((first | refine gw_store (i := 0) rfl clp rfl (by rfl) (by simp) (by simp [Value.oneCell']) ?_ | refine gw_store (i := 3) rfl clp rfl (by rfl) (by simp) (by simp [Value.oneCell']) ?_)); refine T_nv ?_; refine T_hq ?_) | (refine T_pure rfl rfl ?_; ((first | refine pw_mv ?_ | refine pw_as ?_ | refine pw_pick_t rfl evp ?_ | refine pw_fieldAddr rfl ?_ | refine pw_extract rfl rfl ?_ | refine pw_not rfl ?_)); refine T_nv ?_) | (refine T_skipped rfl ?_; refine T_nv ?_))
    refine En_stays' (xs := pre.map Rc.toR) 1 rfl rfl (by decide) memt (fun A c hv => ?_)
    injection hv with v1 v2 v3
    subst v1 v3
    rw [hlm]
    exact En_fin (.inl rfl) (res1 rfl (rv_cell (i := 2) rfl rfl rfl)) (fin_K H _ (fun w hs => hs.weaken sbp kpp) (hk _ _))

end Go.Proofs.YtggdljhmbckpmaaGreat
namespace Go.Proofs.YtggdljhmbckpmaaGreat
open Go Go.RowKit
set_option maxRecDepth 100000
set_option maxHeartbeats 1600000

theorem epN_rec {b : List UInt8} {h : Nat} (hb : b.length ≤ 600000) (hh : h ≤ 1) : (recsB b h = [] → epN (recsB b h) = -1) ∧ (0 < (recsB b h).length → epN (recsB b h) = (((recsB b h).getD 0 Rc.zero).epoch : Int)) := by
  refine ⟨fun h0 => by rw [h0]; rfl, fun h0 => ?_⟩
  have hne : recsB b h ≠ [] := List.length_pos_iff.1 h0
  have := epL_chain (recsB b h) none ((recsB b h)[0]'h0).epoch (fun r hr => by
    obtain ⟨i, hi, rfl⟩ := List.mem_iff_getElem.1 hr
    exact (recsB_chain hb hh i hi).2.2.1) (fun h => absurd h hne)
  rw [epN, this, getD_rc _ h0]; rfl
theorem cur_ep {b : List UInt8} (hb : b.length ≤ 600000) : (epN (recsB b 0) < epN (recsB b 1) → curB b = (recsB b 1, 1)) ∧ (¬ epN (recsB b 0) < epN (recsB b 1) → curB b = (recsB b 0, 0)) := by
  obtain ⟨x1, x2⟩ := epN_rec (h := 0) hb (by omega)
  obtain ⟨y1, y2⟩ := epN_rec (h := 1) hb (by omega)
  rcases Nat.eq_zero_or_pos (recsB b 0).length with hx | hx
  · have hx0 := List.eq_nil_of_length_eq_zero hx
    rw [x1 hx0]
    rcases Nat.eq_zero_or_pos (recsB b 1).length with hy | hy
    · have hy0 := List.eq_nil_of_length_eq_zero hy
      rw [y1 hy0]
      refine ⟨fun h => by omega, fun _ => ?_⟩
      rw [curB_eq, if_neg (fun hh => by omega)]
    · rw [y2 hy]
      refine ⟨fun _ => ?_, fun h => by omega⟩
      rw [curB_eq, if_pos ⟨hy, .inl hx⟩]
  · rw [x2 hx]
    rcases Nat.eq_zero_or_pos (recsB b 1).length with hy | hy
    · have hy0 := List.eq_nil_of_length_eq_zero hy
      rw [y1 hy0]
      refine ⟨fun h => by omega, fun _ => ?_⟩
      rw [curB_eq, if_neg (fun hh => by omega)]
    · rw [y2 hy]
      refine ⟨fun h => ?_, fun h => ?_⟩
      · rw [curB_eq, if_pos ⟨hy, .inr (by omega)⟩]
      · rw [curB_eq, if_neg (fun hh => by rcases hh.2 with h' | h' <;> omega)]
theorem rcurrent_k {w0 : World} {H : List Hp} {R : List MP} {K : Value → List Hp → List MP → Prop} (A0 : Option Addr) (c0 : Nat) (xs : List UInt8) (hb : xs.length ≤ 600000)
    (hm : Sl (.slice A0 xs.length c0) xs ∈ R) (l : List Rc) (half : Nat) (hcur : curB xs = (l, half))
    (k : ∀ A c, K (.tuple #[.agg #[.slice A l.length c, .int .i64 (epN l), .int .i64 ((endL (half * xs.length / 2) l : Nat) : Int)], .int .i64 (half : Int)]) H (Sl (.slice A l.length c) (l.map Rc.toR) :: R)) : CallsK Tryz.prog w0 60 #[.slice A0 xs.length c0] H R K := by
  obtain ⟨sz, hsz⟩ : ∃ sz, xs.length / 2 = sz := ⟨_, rfl⟩
  have hszi : (xs.length : Int) / 2 = (sz : Int) := by omega
  obtain ⟨l0, hl0⟩ : ∃ l0, recsB xs 0 = l0 := ⟨_, rfl⟩
  obtain ⟨l1, hl1⟩ : ∃ l1, recsB xs 1 = l1 := ⟨_, rfl⟩
  have hr0 : recL xs sz (xs.length + 1) 0 0 none = l0 := by rw [← hl0, recsB0, hsz]
  have hr1 : recL xs xs.length (xs.length + 1) sz 0 none = l1 := by rw [← hl1, recsB1, hsz]
  obtain ⟨g1, g2⟩ := cur_ep hb
  rw [hl0, hl1] at g1 g2
  have G1 := Go.Lib.hid g1
  have G2 := Go.Lib.hid g2
  clear g1 g2
  refine calls_of Tryz.func60 rfl Tryz.ntmps60 nep ?_
  repeat' (first | ((with_reducible rw [hszi])) | (refine T_ow rfl ?_; refine ow_callf arp ?_; refine rhalf_k _ _ xs 0 sz hb (Nat.zero_le _) (by omega) memt l0 hr0 (fun Ax cx => ?_); refine T_nv ?_) | (refine T_ow rfl ?_; refine ow_callf arp ?_; refine rhalf_k _ _ xs sz xs.length hb (by omega) (Nat.le_refl _) memt l1 hr1 (fun Ay cy => ?_); refine T_nv ?_) | (apply TC_seq) | (apply TC_region) | (apply TC_ret) | (apply TC_skip) | (apply TC_cond_true; exact rfl) | (apply TC_cond_false; exact rfl) | (apply T_nil) | (apply En_then) | (apply En_then_ret) | (apply T_load; exact rfl; ((first | refine pw_load (i := 0) rfl rfl rfl ?_ | refine pw_load (i := 1) rfl rfl rfl ?_)); refine T_nv ?_) | (apply T_bin; exact rfl; ((refine pw_quo rfl rfl (by omega) (by omega) (by omega) ?_)); refine T_nv ?_) | (apply T_bin; exact rfl; ((refine pw_gtr rfl rfl (fun h => ?_) (fun h => ?_))) <;> (refine T_nv ?_)) | (apply T_store; exact rfl; ((first | refine gw_store (i := 0) rfl clp rfl (by rfl) (by simp) (by simp [Value.oneCell']) ?_ | refine gw_store (i := 2) rfl clp rfl (by rfl) (by simp) (by simp [Value.oneCell']) ?_)); refine T_nv ?_; refine T_hq ?_) | (refine T_pure rfl rfl ?_; ((first | refine pw_mv ?_ | refine pw_as ?_ | refine pw_fieldAddr rfl ?_ | refine pw_len rfl ?_)); refine T_nv ?_) | (refine T_gen rfl rfl ?_; ((refine gw_alloc clp (fun b => ?_))); refine T_nv ?_))
  · have e := G1.out (by omega)
    rw [e] at hcur
    injection hcur with q1 q2
    subst q1 q2
    have k' := fun A c => by
      have := k A c
      rw [Nat.one_mul, hsz] at this; exact this
    exact En_fin (.inl rfl) (res2 rfl (rv_cell (i := 2) rfl rfl rfl) (rv_tmp rfl)) (fin_K H _ (fun w hs => hs.weaken sbp kpp) (k' _ _))
  · have e := G2.out (by omega)
    rw [e] at hcur
    injection hcur with q1 q2
    subst q1 q2
    have k' := fun A c => by
      have := k A c
      rw [Nat.zero_mul, Nat.zero_div] at this; exact this
    exact En_fin (.inl rfl) (res2 rfl (rv_cell (i := 2) rfl rfl rfl) (rv_tmp rfl)) (fin_K H _ (fun w hs => hs.weaken sbp kpp) (k' _ _))
end Go.Proofs.YtggdljhmbckpmaaGreat
namespace Go.Proofs.YtggdljhmbckpmaaGreat
open Go Go.RowKit
set_option maxRecDepth 100000
set_option maxHeartbeats 1600000

theorem rcheck_k2 {w0 : World} {H : List Hp} {R : List MP} {K : Value → List Hp → List MP → Prop} (A : Option Addr) (c : Nat) (A2 : Option Addr) (c2 : Nat) (d : Drive) (hb : d.bytes.length ≤ 9223372036854775807) (hp : d.pending.length ≤ 9223372036854775807)
    (hm : Sl (.slice A d.bytes.length c) d.bytes ∈ R) (hm2 : Sl (.slice A2 d.pending.length c2) d.pending ∈ R)
    (kt : checkD d = true → (hasB d).length ≤ 600000 → K (.int .i64 0) H R) (kf : checkD d = false → K (.int .i64 301) H R) : CallsK Tryz.prog w0 59 #[dv A c A2 c2 d] H R K := by
  refine rcheck_k A c A2 c2 d hb hp hm hm2 ?_
  unfold errD
  cases hc : checkD d
  · exact kf hc
  · exact kt hc (by rw [hasB_length hc]; exact (checkD_spec hc).2.1)
def KRA (K : Value → List Hp → List MP → Prop) (r : List RecD × Int) (H : List Hp) (R : List MP) : Prop := ∀ A c, K (.agg #[.slice A r.1.length c, .int .i64 r.2]) H (Sl (.slice A r.1.length c) r.1 :: R)
theorem KRA_eq {K : Value → List Hp → List MP → Prop} {r r' : List RecD × Int} {H : List Hp} {R : List MP} (e : r = r') (h : KRA K r H R) : KRA K r' H R := e ▸ h
theorem rrecords_k {w0 : World} {H : List Hp} {R : List MP} {K : Value → List Hp → List MP → Prop} (A0 : Option Addr) (c0 : Nat) (A2 : Option Addr) (c2 : Nat) (d : Drive) (hb : d.bytes.length ≤ 9223372036854775807) (hp : d.pending.length ≤ 9223372036854775807)
    (hm : Sl (.slice A0 d.bytes.length c0) d.bytes ∈ R) (hm2 : Sl (.slice A2 d.pending.length c2) d.pending ∈ R)
    (k : KRA K (recordsD d) H R) : CallsK Tryz.prog w0 16 #[dv A0 c0 A2 c2 d] H R K := by
  obtain ⟨l, half, hcur⟩ : ∃ l half, curB (hasB d) = (l, half) := ⟨_, _, rfl⟩
  refine calls_of Tryz.func16 rfl Tryz.ntmps16 nep ?_
  repeat' (first | (refine T_ow rfl ?_; refine ow_callf arp ?_; refine rcheck_k2 _ _ _ _ d hb hp hm hm2 (fun hc hcl6 => ?_) (fun hc => ?_) <;> refine T_nv ?_) | (refine T_ow rfl ?_; refine ow_callf arp ?_; refine rhas_k _ _ _ _ d hc hm hm2 (fun v => ?_); refine T_nv ?_; refine T_stays 0 rfl (fun A' c' hv => ?_); subst hv; refine T_hq ?_) | (refine T_ow rfl ?_; refine ow_callf arp ?_; refine rcurrent_k _ _ (hasB d) hcl6 memt l half hcur (fun A3 c3 => ?_); refine T_nv ?_) | (refine T_gen rfl rfl ?_; refine gw_alloc clp (fun b8 => ?_); refine T_nv ?_) | (apply TC_seq) | (apply TC_region) | (apply TC_ret) | (apply TC_skip) | (apply TC_cond_true; exact rfl) | (apply TC_cond_false; exact rfl) | (apply T_nil) | (apply En_then) | (apply En_then_ret) | (apply T_load; exact rfl; ((first | refine pw_load (i := 0) rfl rfl rfl ?_ | refine pw_load (i := 1) rfl rfl rfl ?_)); refine T_nv ?_) | (apply T_bin; exact rfl; ((refine pw_neq rfl rfl (fun h => ?_) (fun h => ?_))) <;> (first | (exfalso; omega) | refine T_nv ?_)) | (apply T_store; exact rfl; ((first | refine gw_store (i := 0) rfl clp rfl (by rfl) (by simp) (by simp [Value.oneCell']) ?_ | refine gw_store (i := 1) rfl clp rfl (by rfl) (by simp) (by simp [Value.oneCell']) ?_)); refine T_nv ?_; refine T_hq ?_) | (refine T_pure rfl rfl ?_; ((first | refine pw_mv ?_ | refine pw_as ?_ | refine pw_fieldAddr rfl ?_ | refine pw_extract rfl rfl ?_ | refine pw_build bldp ?_)); refine T_nv ?_) | (refine T_gen rfl rfl ?_; ((refine gw_box clp (fun b => ?_))); refine T_nv ?_))
  rotate_left
  · refine En_fin (.inl rfl) (res1 rfl (rv_cell (i := 0) rfl rfl rfl)) (fin_K H (Sl (.slice none 0 0) ([] : List RecD) :: R) (fun w hs => (hs.weaken sbp (fun _ h => h)).sl_nil RecD) ?_)
    exact KRA_eq (r' := ([], 301)) (by unfold recordsD; rw [hc]; rfl) k none 0
  have k' := KRA_eq (r' := (l.map Rc.toR, 0)) (by unfold recordsD; rw [if_pos hc, hcur]) k A3 c3
  simp only [List.length_map] at k'
  exact En_fin (.inl rfl) (res1 rfl (rv_cell (i := 1) rfl rfl rfl)) (fin_K H _ (fun w hs => hs.weaken sbp kpp) k')
theorem rlast_k {w0 : World} {H : List Hp} {R : List MP} {K : Value → List Hp → List MP → Prop} (A0 : Option Addr) (c0 : Nat) (A2 : Option Addr) (c2 : Nat) (d : Drive) (hb : d.bytes.length ≤ 9223372036854775807) (hp : d.pending.length ≤ 9223372036854775807)
    (hm : Sl (.slice A0 d.bytes.length c0) d.bytes ∈ R) (hm2 : Sl (.slice A2 d.pending.length c2) d.pending ∈ R)
    (k : KC K (lastD d) H R) : CallsK Tryz.prog w0 18 #[dv A0 c0 A2 c2 d] H R K := by
  obtain ⟨l, half, hcur⟩ : ∃ l half, curB (hasB d) = (l, half) := ⟨_, _, rfl⟩
  have hlen : (hasB d).length ≤ 600000 → l.length ≤ 600000 := fun h => by have := curB_len h; rw [hcur] at this; exact this
  refine calls_of Tryz.func18 rfl Tryz.ntmps18 nep ?_
  repeat' (first | (refine T_ow rfl ?_; refine ow_callf arp ?_; refine rcheck_k2 _ _ _ _ d hb hp hm hm2 (fun hc hcl6 => ?_) (fun hc => ?_) <;> refine T_nv ?_) | (refine T_ow rfl ?_; refine ow_callf arp ?_; refine rhas_k _ _ _ _ d hc hm hm2 (fun v => ?_); refine T_nv ?_; refine T_stays 0 rfl (fun A' c' hv => ?_); subst hv; refine T_hq ?_) | (refine T_ow rfl ?_; refine ow_callf arp ?_; refine rcurrent_k _ _ (hasB d) hcl6 memt l half hcur (fun A3 c3 => ?_); have hl6 := hlen hcl6; refine T_nv ?_) | (refine T_gen rfl rfl ?_; refine gw_alloc clp (fun b8 => ?_); refine T_nv ?_) | (apply TC_seq) | (apply TC_region) | (apply TC_ret) | (apply TC_skip) | (apply TC_cond_true; exact rfl) | (apply TC_cond_false; exact rfl) | (apply T_nil) | (apply En_then) | (apply En_then_ret) | (apply T_load; exact rfl; ((first | refine pw_load (i := 0) rfl rfl rfl ?_ | refine pw_load (i := 1) rfl rfl rfl ?_)); refine T_nv ?_) | (apply T_bin; exact rfl; ((refine pw_sub64 rfl rfl (by omega) (by omega) ?_)); refine T_nv ?_) | (apply T_bin; exact rfl; ((first | refine pw_eql rfl rfl (fun h => ?_) (fun h => ?_) | refine pw_neq rfl rfl (fun h => ?_) (fun h => ?_))) <;> (first | (exfalso; omega) | refine T_nv ?_)) | (apply T_store; exact rfl; ((first | refine gw_store (i := 0) rfl clp rfl (by rfl) (by simp) (by simp [Value.oneCell']) ?_ | refine gw_store (i := 1) rfl clp rfl (by rfl) (by simp) (by simp [Value.oneCell']) ?_)); refine T_nv ?_; refine T_hq ?_) | (refine T_pure rfl rfl ?_; ((first | refine pw_mv ?_ | refine pw_as ?_ | refine pw_fieldAddr rfl ?_ | refine pw_len rfl ?_ | refine pw_extract rfl rfl ?_ | refine pw_build bldp ?_)); refine T_nv ?_) | (refine T_gen rfl rfl ?_; ((refine gw_box clp (fun b => ?_))); refine T_nv ?_))
  · have k' := KC_eq (r' := ([], 302)) (by unfold lastD; rw [if_pos hc, hcur, if_pos (by show l.length = 0; omega)]) k none 0
    exact En_fin (.inl rfl) (res1 rfl (rv_cell (i := 1) rfl rfl rfl)) (fin_K H (Sl (.slice none 0 0) ([] : List UInt8) :: R) (fun w hs => (hs.weaken sbp kpp).sl_nil UInt8) k')
  · obtain ⟨r, hr⟩ : ∃ r, l[l.length - 1]? = some r := ⟨_, List.getElem?_eq_getElem (by omega)⟩
    have hlB := hasB_length hc
    obtain ⟨c1, c2', c3', c4, c5⟩ := checkD_spec hc
    obtain ⟨sz, hsz⟩ : ∃ sz, (hasB d).length = 2 * sz := ⟨(hasB d).length / 2, by omega⟩
    obtain ⟨g1, g2, g3, g4, g5, g6, g7, g8⟩ := cur_rec hsz (by omega) hcur _ r hr
    have hi : ((l.length : Int) - 1) = ((l.length - 1 : Nat) : Int) := by omega
    have hL : ((r.at_ : Int) + 17 + (r.data.length : Int)).toNat - ((r.at_ : Int) + 17).toNat = r.data.length := by omega
    have hS : ((hasB d).take ((r.at_ : Int) + 17 + (r.data.length : Int)).toNat).drop ((r.at_ : Int) + 17).toNat = r.data := by
      rw [show ((r.at_ : Int) + 17 + (r.data.length : Int)).toNat = r.at_ + 17 + r.data.length by omega, show ((r.at_ : Int) + 17).toNat = r.at_ + 17 by omega]; exact g8
    have k' := KC_eq (r' := (r.data, 0)) (by unfold lastD; rw [if_pos hc, hcur, if_neg (by show ¬ l.length = 0; omega)]; show ((l.getD (l.length - 1) Rc.zero).data, (0 : Int)) = _; rw [List.getD_eq_getElem?_getD, hr]; rfl) k
    repeat' (first | (apply T_idx; exact rfl; refine pw_index_rL (l.length - 1) rfl rfl memt rfl hr hi (fun bI oI => ?_); refine T_nv ?_) | (refine T_gen rfl rfl ?_; refine gw_alloc clp (fun b9 => ?_); refine T_nv ?_) | (refine T_gen rfl rfl ?_; refine gw_build0 rfl (by decide) (fun bz => ?_); refine T_nv ?_) | (refine T_pure rfl rfl ?_; refine pw_slice_sl (xs := hasB d) rfl memt rfl rfl rfl rfl (by omega) (by omega) (by omega) (fun A8 c8 => ?_); rw [hL, hS]; refine T_nv ?_) | (refine T_gen rfl rfl ?_; refine gw_append_sl (xs := r.data) 0 rfl rfl memt rfl rfl (by omega) (by omega) (fun v => ?_); refine T_nv ?_; refine T_hq ?_; refine T_stays (xs := r.data) 0 rfl (fun A5 c5' hv => ?_); subst hv; refine T_hq ?_) | (apply TC_seq) | (apply TC_region) | (apply TC_ret) | (apply T_nil) | (apply En_then) | (apply T_load; exact rfl; ((first | refine pw_load (i := 1) rfl rfl rfl ?_ | refine pw_load_at0 rfl memr rfl ?_)); refine T_nv ?_) | (apply T_bin; exact rfl; ((refine pw_add64 rfl rfl (by omega) (by omega) ?_)); refine T_nv ?_) | (apply T_store; exact rfl; ((first | refine gw_store (i := 0) rfl clp rfl (by rfl) (by simp) (by simp [Value.oneCell']) ?_ | refine gw_store (i := 2) rfl clp rfl (by rfl) (by simp) (by simp [Value.oneCell']) ?_)); refine T_nv ?_; refine T_hq ?_) | (refine T_pure rfl rfl ?_; ((first | refine pw_mv ?_ | refine pw_fieldAddr rfl ?_ | refine pw_build bldp ?_)); refine T_nv ?_))
    exact En_fin (.inl rfl) (res1 rfl (rv_cell (i := 2) rfl rfl rfl)) (fin_K H _ (fun w hs => hs.weaken sbp kpp) (k' _ _))
  · refine En_fin (.inl rfl) (res1 rfl (rv_cell (i := 0) rfl rfl rfl)) (fin_K H (Sl (.slice none 0 0) ([] : List UInt8) :: R) (fun w hs => (hs.weaken sbp (fun _ h => h)).sl_nil UInt8) ?_)
    exact KC_eq (r' := ([], 301)) (by unfold lastD; rw [hc]; rfl) k none 0
end Go.Proofs.YtggdljhmbckpmaaGreat
namespace Go.Proofs.YtggdljhmbckpmaaGreat
open Go Go.RowKit
set_option maxRecDepth 100000
set_option maxHeartbeats 3200000

theorem epN_fst {b : List UInt8} {l : List Rc} {half : Nat} (hb : b.length ≤ 600000) (hcur : curB b = (l, half)) (h : 0 < l.length) : epN l = ((l.getD 0 Rc.zero).epoch : Int) := by
  obtain ⟨c1, c2, _⟩ := cur_facts hcur
  have := (epN_rec (h := half) hb c1).2
  rw [← c2] at this
  exact this h
/-- Where the reference puts its record, from what is read. -/
theorem spot_ref {b : List UInt8} {l : List Rc} {half sz : Nat} (n : Nat) (hb : b.length = 2 * sz) (hs : sz ≤ 300000) (hcur : curB b = (l, half)) (hl : 0 < l.length) :
    ∃ e a : Nat, epN l = (e : Int) ∧ endL (half * b.length / 2) l = a ∧ a ≤ 600000 ∧ e < 4294967296 ∧ l.length ≤ 600000 ∧ ((half + 1) * sz < n + a → spotB l half sz n = ⟨(1 - half) * sz, e + 1, 0, 1 - half⟩) ∧ (¬ (half + 1) * sz < n + a → spotB l half sz n = ⟨a, e, l.length, half⟩) := by
  obtain ⟨r, hr⟩ : ∃ r, l[l.length - 1]? = some r := ⟨_, List.getElem?_eq_getElem (by omega)⟩
  obtain ⟨g1, g2, g3, g4, g5, g6, g7, g8⟩ := cur_rec hb hs hcur _ r hr
  obtain ⟨_, ⟨o1, o2, o3⟩, _⟩ := And.intro trivial (And.intro (recA_ok (b := b) (at_ := r.at_) (limit := (half + 1) * sz) (by omega) (by rw [g7])).1 trivial)
  rw [g7] at o1 o2 o3
  simp only at o1 o2 o3
  have hll := curB_len (b := b) (by omega)
  rw [hcur] at hll
  have e1 : half * b.length / 2 = half * sz := by rw [hb, Nat.mul_left_comm, Nat.mul_div_cancel_left _ (by decide)]
  have e2 : l.take (l.length - 1 + 1) = l := by rw [show l.length - 1 + 1 = l.length by omega, List.take_length]
  rw [e2] at g4
  have e3 : l.getD (l.length - 1) Rc.zero = r := by rw [List.getD_eq_getElem?_getD, hr]; rfl
  have e4 : r.stop = r.at_ + 21 + r.data.length := rfl
  refine ⟨r.epoch, r.at_ + 21 + r.data.length, by rw [epN_fst (by omega) hcur hl, g3], by rw [e1]; exact g4, by omega, by omega, hll, fun h => ?_, fun h => ?_⟩
  · unfold spotB
    rw [if_neg (by omega), e3, e4, if_pos h]
  · unfold spotB
    rw [if_neg (by omega), e3, e4, if_neg h, g2, show l.length - 1 + 1 = l.length by omega]
end Go.Proofs.YtggdljhmbckpmaaGreat
