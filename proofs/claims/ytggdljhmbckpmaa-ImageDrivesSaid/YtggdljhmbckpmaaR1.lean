/- The reference of drives: its small functions: walks. -/
import Derived.Test.YtggdljhmbckpmaaF7
import Derived.Test.YtggdljhmbckpmaaF8
import Derived.Test.YtggdljhmbckpmaaA18
set_option linter.unusedVariables false
set_option linter.unusedSimpArgs false
namespace Go.Proofs.Ytggdljhmbckpmaa
open Go Go.RowKit
set_option maxRecDepth 100000
set_option maxHeartbeats 800000

theorem rwithin_k {w0 : World} {H : List Hp} {R : List MP} {K : Value → List Hp → List MP → Prop} (a n s : Int) (ha : InI a) (hn : 0 ≤ n ∧ n ≤ 9223372036854775807) (hs : 0 ≤ s ∧ s ≤ 9223372036854775807)
    (kt : withinB a n s = true → K (.bool true) H R) (kf : withinB a n s = false → K (.bool false) H R) : CallsK Try.prog w0 63 #[.int .i64 a, .int .i64 n, .int .i64 s] H R K := by
  unfold withinB at kt kf
  unfold InI at ha
  refine calls_of Try.func63 rfl Try.ntmps63 nep ?_
  repeat' (first | (apply TC_seq) | (apply TC_region) | (apply TC_ret) | (apply T_nil) | (apply En_then) | (apply T_bin; exact rfl; ((refine pw_sub64 rfl rfl (by omega) (by omega) ?_)); refine T_nv ?_) | (apply T_bin; exact rfl; ((first | refine pw_leq rfl rfl (fun h => ?_) (fun h => ?_) | refine pw_geq rfl rfl (fun h => ?_) (fun h => ?_))) <;> (refine T_nv ?_)) | (refine T_pure rfl rfl ?_; ((first | refine pw_mv ?_ | refine pw_as ?_ | refine pw_pick_t rfl evp ?_ | refine pw_pick_f rfl evp ?_)); refine T_nv ?_) | (refine T_skipped rfl ?_; refine T_nv ?_))
  all_goals
    refine En_fin (.inl rfl) (res1 rfl (rv_tmp rfl)) (fin_K H R (fun _ h => h) ?_)
    (first | exact kf (decide_eq_false (by omega)) | exact kt (decide_eq_true (by omega)))

theorem ramount_k {w0 : World} {H : List Hp} {R : List MP} {K : Value → List Hp → List MP → Prop} (n : Int) (hI : InI n) (k : K (.int .i64 (amt n : Nat)) H R) : CallsK Try.prog w0 60 #[.int .i64 n] H R K := by
  refine calls_of Try.func60 rfl Try.ntmps60 nep ?_
  repeat' (first | (refine T_pure rfl rfl ?_; refine pw_neg rfl ?_; refine T_nv ?_) | (refine T_pure rfl rfl ?_; refine pw_max2 rfl rfl ?_; refine T_nv ?_) | (apply TC_seq) | (apply TC_region) | (apply TC_ret) | (apply TC_skip) | (apply TC_cond_true; exact rfl) | (apply TC_cond_false; exact rfl) | (apply T_nil) | (apply En_then) | (apply T_bin; exact rfl; ((refine pw_lss rfl rfl (fun h => ?_) (fun h => ?_))) <;> (refine T_nv ?_)) | (refine T_pure rfl rfl ?_; ((first | refine pw_mv ?_ | refine pw_as ?_)); refine T_nv ?_))
  all_goals
    refine En_fin (.inl rfl) (res1 rfl (rv_tmp rfl)) (fin_K H R (fun _ h => h) ?_)
    refine K_int ?_ k
    unfold InI at hI
    unfold amt
    by_cases hn : n = -9223372036854775808
    · subst hn; (decide)
    · rw [if_neg hn]
      (first | (rw [wrap_id (k := .i64) (n := 0 - n) (by simp [IntKind.min, IntKind.signed, IntKind.bits]; omega) (by simp [IntKind.max, IntKind.signed, IntKind.bits]; omega), if_neg (by omega)]; omega) | (rw [if_neg (by omega)]; omega))

theorem rright_k {w0 : World} {H : List Hp} {R : List MP} {K : Value → List Hp → List MP → Prop} (A3 : Option Addr) (c3 : Nat) (n : Nat) (x : DO) (hb : n ≤ 9223372036854775807) (hI : InI x.at_) (hl : x.data.length ≤ 9223372036854775807)
    (kt : rightB n x = true → K (.bool true) H R) (kf : rightB n x = false → K (.bool false) H R) : CallsK Try.prog w0 58 #[opV A3 c3 x, .int .i64 (n : Int)] H R K := by
  refine calls_of Try.func58 rfl Try.ntmps58 nep ?_
  repeat' (first | (refine T_ow rfl ?_; refine ow_callf arp ?_; refine rwithin_k _ _ _ hI ⟨by omega, by omega⟩ ⟨by omega, by omega⟩ (fun hB => ?_) (fun hB => ?_) <;> refine T_nv ?_) | (apply TC_seq) | (apply TC_region) | (apply TC_block) | (apply TC_ret) | (apply TC_skip) | (apply TC_cond_true; exact rfl) | (apply TC_cond_false; exact rfl) | (apply T_nil) | (apply En_then) | (apply En_then_ret) | (apply En_block) | (apply En_block_ret) | (apply T_load; exact rfl; ((refine pw_load (i := 0) rfl rfl rfl ?_)); refine T_nv ?_) | (apply T_bin; exact rfl; ((refine pw_eql rfl rfl (fun h => ?_) (fun h => ?_))) <;> (refine T_nv ?_)) | (refine T_pure rfl rfl ?_; ((first | refine pw_mv ?_ | refine pw_as ?_ | refine pw_pick_t rfl evp ?_ | refine pw_pick_f rfl evp ?_ | refine pw_fieldAddr rfl ?_ | refine pw_len rfl ?_)); refine T_nv ?_) | (refine T_skipped rfl ?_; refine T_nv ?_) | (refine T_gen rfl rfl ?_; ((refine gw_box clp (fun b => ?_))); refine T_nv ?_))
  all_goals
    refine En_fin (.inl rfl) (res1 rfl (rv_tmp rfl)) (fin_K H R (fun w hs => hs.weaken (by simp) (fun _ h => h)) ?_)
    (first | (refine kt ?_; simp [rightB, *]; done) | (refine kf ?_; simp [rightB, *]; done) | (refine kt ?_; simp [rightB, *]; rw [← List.length_eq_zero_iff]; omega) | (refine kf ?_; simp [rightB, *]; rw [← List.length_eq_zero_iff]; omega))

theorem spl_spl (xs zs us : List UInt8) (a : Nat) (h : a + zs.length + us.length ≤ xs.length) : spl (spl xs a zs) (a + zs.length) us = spl xs a (zs ++ us) := by
  unfold spl
  have h1 : (xs.take a).length = a := by simp; omega
  have e1 : (xs.take a ++ zs ++ xs.drop (a + zs.length)).take (a + zs.length) = xs.take a ++ zs := by
    rw [List.take_append_of_le_length (by simp; omega), List.take_of_length_le (by simp; omega)]
  have e2 : (xs.take a ++ zs ++ xs.drop (a + zs.length)).drop (a + zs.length + us.length) = xs.drop (a + (zs ++ us).length) := by
    rw [List.drop_append, List.drop_of_length_le (by simp; omega), List.nil_append, List.drop_drop]
    congr 1; simp [h1]; omega
  rw [e1, e2]; simp
theorem put_step (xs ys : List UInt8) (sp : List Value) (a i o : Nat) (hi : i < ys.length) (h : a + ys.length ≤ xs.length) (ho : o = a + i) : overlay (bytesV (spl xs a (ys.take i)) ++ sp) o [byteV ys[i]] = bytesV (spl xs a (ys.take (i + 1))) ++ sp := by
  subst ho
  have hl : (ys.take i).length = i := by simp; omega
  have h1 : (spl xs a (ys.take i)).length = xs.length := spl_length _ _ _ (by omega)
  have e : [byteV ys[i]] = bytesV [ys[i]] := rfl
  rw [e, overlay_bytes _ _ _ _ (by simp; omega)]
  have := spl_spl xs (ys.take i) [ys[i]] a (by simp; omega)
  rw [hl] at this
  rw [this, List.take_succ_eq_append_getElem hi]
/-- put writes bytes into an owned block. -/
theorem rput_k {w0 : World} {H : List Hp} {R : List MP} {K : Value → List Hp → List MP → Prop} (bb c : Nat) (A : Option Addr) (n cy : Nat) (xs ys : List UInt8) (sp : List Value) (a : Int) (hx : xs.length ≤ 600000) (h0 : 0 ≤ a) (hay : a.toNat + ys.length ≤ xs.length) (hny : n = ys.length) (hm : Sl (.slice A n cy) ys ∈ R)
    (k : K (.slice (some ⟨bb, 0, none⟩) xs.length c) (.blk bb (bytesV (spl xs a.toNat ys) ++ sp) 5 :: H) R) : CallsK Try.prog w0 61 #[.slice (some ⟨bb, 0, none⟩) xs.length c, .int .i64 a, .slice A n cy] (.blk bb (bytesV xs ++ sp) 5 :: H) R K := by
  subst hny
  refine calls_of Try.func61 rfl Try.ntmps61 nep ?_
  repeat' (first | (apply TC_seq) | (apply TC_region) | (apply TC_block) | (apply T_nil) | (apply En_then) | (refine T_pure rfl rfl ?_; ((refine pw_as ?_)); refine T_nv ?_))
  refine TC_loopS [7, 8, 9, 10, 11, 12, 13, 14, 15, 16, 17, 18, 19, 20, 21, 22] (fun m j H' R' => R = R' ∧ ∃ i : Nat, i + m = ys.length ∧ j 7 = .int .i64 (i : Int) ∧ .blk bb (bytesV (spl xs a.toNat (ys.take i)) ++ sp) 5 :: H = H') ys.length sjp ⟨rfl, 0, by omega, rfl, by simp [spl]⟩ ?_
  rintro m j H' R' ⟨hR, i, hi, h7, hH⟩
  subst hH; subst hR
  refine TC_env (by simp only [setJ, List.foldl_cons, List.foldl_nil, List.set_cons_succ, List.set_cons_zero, h7]; rfl) ?_
  repeat' (first | (apply T_idx; exact rfl; refine pw_index_o rfl rfl (by omega) (by omega) ?_; refine T_nv ?_) | (apply T_store; exact rfl; refine gw_store (i := 0) (vs := [byteV ys[i]]) rfl clp rfl (by rfl) (by simp [spl]; omega) (by simp [Value.oneCell', byteV]) ?_; refine T_nv ?_) | (apply TC_seq) | (apply TC_region) | (apply TC_block) | (apply TC_ret) | (apply TC_skip) | (apply TC_exit) | (apply TC_cond_true; exact rfl) | (apply TC_cond_false; exact rfl) | (apply T_nil) | (apply En_then) | (apply En_then_exit) | (apply En_block) | (apply En_block_exit) | (apply T_load; exact rfl; ((refine pw_load_at0 rfl memr rfl ?_)); refine T_nv ?_) | (apply T_bin; exact rfl; ((refine pw_add64 rfl rfl (by omega) (by omega) ?_)); refine T_nv ?_) | (apply T_bin; exact rfl; ((refine pw_lss rfl rfl (fun h => ?_) (fun h => ?_))) <;> (refine T_nv ?_)) | (apply T_idx; exact rfl; ((refine pw_index_bN evp rfl memt (List.getElem?_eq_getElem (by omega)) (fun b o => ?_))); refine T_nv ?_) | (refine T_pure rfl rfl ?_; ((first | refine pw_mv ?_ | refine pw_as ?_ | refine pw_len rfl ?_)); refine T_nv ?_))
  · refine En_backS (m - 1) (.blk bb (bytesV (spl xs a.toNat (ys.take (i + 1))) ++ sp) 5 :: H) R (by omega) sjp ⟨rfl, i + 1, by omega, rfl, rfl⟩ (fun w hs => ?_)
    rw [← put_step xs ys sp a.toNat i (0 + (a + (i : Int)).toNat * 1) (by omega) hay (by omega)]
    exact hs.weaken (by simp) (fun p hp => by simp [hp])
  · refine En_fin (.inl rfl) (res1 rfl (rv_tmp rfl)) (fin_K _ R (fun w hs => ?_) k)
    rw [List.take_of_length_le (show ys.length ≤ i by omega)] at hs
    exact hs
end Go.Proofs.Ytggdljhmbckpmaa
