/- The reference of records: Sum, four, read4, record: walks. -/
import Derived.Test.YtggdljhmbckpmaaGreatRM
import Derived.Test.YtggdljhmbckpmaaGreatF9
import Derived.Test.YtggdljhmbckpmaaGreatF13
set_option linter.unusedVariables false
set_option linter.unusedSimpArgs false
namespace Go.Proofs.YtggdljhmbckpmaaGreat
open Go Go.RowKit
set_option maxRecDepth 100000
set_option maxHeartbeats 1600000

section
variable {P : Program} {w0 : World} {E : List Value} {H : List Hp} {R : List MP} {ty : TypeId} {K : Value → List MP → Prop}
theorem pw_index_bz {t e : TypeId} {x ix : Operand} {agg : Bool} {by_ : Nat} {z0 : Value} [h : TyU P t (.slice e)] [he : Ty P e agg 1 by_ z0] {v : Value} {xs : List UInt8} {k : IntKind} {z : Int} (i : Nat) {d : UInt8} (hx : ev E x = v) (hix : ev E ix = .int k z) (hm : Sl v xs ∈ R) (hz : z = (i : Int)) (hd : xs[i]? = some d)
    (kk : ∀ b o, K (.pointer (some ⟨b, o, none⟩)) (At b o [byteV d] :: R)) : PW P w0 E (.indexAddr t x ix) ty H R K := by
  subst hz; exact pw_index_bN hx hix hm hd kk
end
theorem rsum_k {w0 : World} {H : List Hp} {R : List MP} {K : Value → List Hp → List MP → Prop} (A : Option Addr) (m c : Nat) (xs : List UInt8) (hml : m = xs.length) (hb : xs.length ≤ 9223372036854775807) (hm : Sl (.slice A m c) xs ∈ R)
    (k : K (.int .u32 (sumB xs : Nat)) H R) : CallsK Tryz.prog w0 63 #[.slice A m c] H R K := by
  subst hml
  refine calls_of Tryz.func63 rfl Tryz.ntmps63 nep ?_
  repeat' (first | (apply TC_seq) | (apply TC_region) | (apply TC_block) | (apply T_nil) | (apply En_then) | (refine T_pure rfl rfl ?_; ((refine pw_as ?_)); refine T_nv ?_))
  refine TC_loopS [3, 4, 5, 6, 7, 8, 9, 10, 11, 12, 13, 14, 15, 16, 17, 18] (fun m j H' R' => H' = H ∧ R = R' ∧ ∃ i : Nat, i + m = xs.length ∧ j 4 = .int .i64 i ∧ j 3 = .int .u32 ((xs.take i).foldl fnv 2166136261 : Nat)) xs.length sjp ⟨rfl, rfl, 0, by omega, rfl, rfl⟩ ?_
  rintro m j H' R' ⟨rfl, hR, i, hi, h4, h3⟩
  subst hR
  refine TC_env (by simp only [setJ, List.foldl_cons, List.foldl_nil, List.set_cons_succ, List.set_cons_zero, h4, h3]; rfl) ?_
  repeat' (first | (refine T_pure rfl rfl ?_; ((first | refine pw_conv_b32 rfl ?_ | refine pw_xor rfl rfl rfl (foldl_fnv_lt _ _ (by omega)) (Nat.lt_of_lt_of_le (UInt8.toNat_lt _) (by decide)) ?_ | refine pw_muln (b := 16777619) rfl rfl rfl ?_)); refine T_nv ?_) | (apply TC_seq) | (apply TC_region) | (apply TC_block) | (apply TC_ret) | (apply TC_skip) | (apply TC_exit) | (apply TC_cond_true; exact rfl) | (apply TC_cond_false; exact rfl) | (apply T_nil) | (apply En_then) | (apply En_then_exit) | (apply En_block) | (apply En_block_exit) | (apply T_load; exact rfl; ((refine pw_load_at0 rfl memr rfl ?_)); refine T_nv ?_) | (apply T_bin; exact rfl; ((refine pw_add64 rfl rfl (by omega) (by omega) ?_)); refine T_nv ?_) | (apply T_bin; exact rfl; ((refine pw_lss rfl rfl (fun h => ?_) (fun h => ?_))) <;> (refine T_nv ?_)) | (apply T_idx; exact rfl; ((refine pw_index_bN evp rfl memt (List.getElem?_eq_getElem (by omega)) (fun b o => ?_))); refine T_nv ?_) | (refine T_pure rfl rfl ?_; ((first | refine pw_mv ?_ | refine pw_as ?_ | refine pw_len rfl ?_)); refine T_nv ?_))
  · refine En_backS (m - 1) H' R (by omega) sjp ⟨rfl, rfl, i + 1, by omega, rfl, ?_⟩ (fun w hs => hs.weaken sbp kpp)
    exact congrArg (fun n : Nat => Value.int .u32 (n : Int)) (fold_step xs i (by omega)).symm
  · refine En_fin (.inl rfl) (res1 rfl (rv_tmp rfl)) (fin_K H' R (fun _ h => h) ?_)
    rw [List.take_of_length_le (by omega)]
    exact k
theorem rfour_k {w0 : World} {H : List Hp} {R : List MP} {K : Value → List Hp → List MP → Prop} (n : Nat) (hn : n < 4294967296)
    (k : ∀ v, K v (.row v 5 1 4 (bytesV (le4 n)) :: H) R) : CallsK Tryz.prog w0 62 #[.int .u32 n] H R K := by
  refine calls_of Tryz.func62 rfl Tryz.ntmps62 nep ?_
  repeat' (first | (refine T_pure rfl rfl ?_; ((first | refine pw_convn rfl rfl ?_ | refine pw_shr (n := 8) rfl rfl (by decide) ?_ | refine pw_shr (n := 16) rfl rfl (by decide) ?_ | refine pw_shr (n := 24) rfl rfl (by decide) ?_)); refine T_nv ?_) | (apply TC_seq) | (apply TC_region) | (apply TC_ret) | (apply T_nil) | (apply En_then) | (refine T_pure rfl rfl ?_; ((first | refine pw_mv ?_ | refine pw_as ?_)); refine T_nv ?_) | (refine T_gen rfl rfl ?_; ((refine gw_buildSlice (by decide) prtp rfl (fun b => ?_))); refine T_nv ?_))
  refine En_fin (.inl rfl) (res1 rfl (rv_tmp rfl)) (fin_K (.row (.slice (some ⟨b, 0, none⟩) 4 4) 5 1 4 (bytesV (le4 n)) :: H) R (fun w hs => ?_) (k _))
  have hs' : S w0 w (.blk b (bytesV (le4 n) ++ []) 5 :: H) R := by
    simp only [List.append_nil, bytesV, le4, List.map_cons, List.map_nil, ← byteV_ofNat]
    exact hs
  exact hs'.torow (i := 0) (n := 4) (cap := 4) (size := 1) rfl (by simp [le4]) (by simp [le4]) (by omega) (by decide)
theorem rread4_k {w0 : World} {H : List Hp} {R : List MP} {K : Value → List Hp → List MP → Prop} (A : Option Addr) (c : Nat) (xs : List UInt8) (z : Int) (i : Nat) (hz : z = (i : Int)) (hi : i + 4 ≤ xs.length) (hb : xs.length ≤ 600000) (hm : Sl (.slice A xs.length c) xs ∈ R)
    (k : K (.int .u32 (fourL (xs.drop i) : Nat)) H R) : CallsK Tryz.prog w0 156 #[.slice A xs.length c, .int .i64 z] H R K := by
  subst hz
  refine calls_of Tryz.func156 rfl Tryz.ntmps156 nep ?_
  repeat' (first | (apply TC_seq) | (apply TC_region) | (apply T_nil) | (apply En_then) | (refine T_pure rfl rfl ?_; ((refine pw_as ?_)); refine T_nv ?_))
  refine TC_draw mixed (by decide +kernel) (fun _ _ _ _ _ _ h => h) (List.Sublist.refl _) ?_
  all_goals ((refine TA_p 0 ?_; ((refine pw_mv ?_)); refine TA_nv ?_))
  all_goals ((refine TA_p 1 ?_; ((refine pw_mv ?_)); refine TA_nv ?_))
  all_goals ((refine TA_p 2 ?_; ((refine pw_index_bz i rfl rfl hm rfl (List.getElem?_eq_getElem (by omega)) (fun b o => ?_))); refine TA_nv ?_))
  all_goals ((refine TA_p 3 ?_; ((refine pw_load_at0 rfl memr rfl ?_)); refine TA_nv ?_))
  all_goals ((refine TA_p 4 ?_; ((refine pw_conv_b32 evp ?_)); refine TA_nv ?_))
  all_goals ((refine TA_p 5 ?_; ((refine pw_mv ?_)); refine TA_nv ?_))
  all_goals ((refine TA_p 6 ?_; ((refine pw_mv ?_)); refine TA_nv ?_))
  all_goals ((refine TA_p 7 ?_; ((refine pw_add64 rfl rfl (by omega) (by omega) ?_)); refine TA_nv ?_))
  all_goals ((refine TA_p 8 ?_; ((refine pw_index_b evp rfl memt (List.getElem?_eq_getElem (by omega)) (by omega) (fun b o => ?_))); refine TA_nv ?_))
  all_goals ((refine TA_p 9 ?_; ((refine pw_load_at0 rfl memr rfl ?_)); refine TA_nv ?_))
  all_goals ((refine TA_p 10 ?_; ((refine pw_conv_b32 evp ?_)); refine TA_nv ?_))
  all_goals ((refine TA_p 11 ?_; ((refine pw_shl (n := 8) rfl rfl rfl (by decide) ?_)); refine TA_nv ?_))
  all_goals ((refine TA_p 12 ?_; ((refine pw_or rfl rfl rfl (by repeat' ((exact Nat.lt_of_lt_of_le (UInt8.toNat_lt _) (by decide)))) (by repeat' ((exact Nat.mod_lt _ (by decide)))) ?_)); refine TA_nv ?_))
  all_goals ((refine TA_p 13 ?_; ((refine pw_mv ?_)); refine TA_nv ?_))
  all_goals ((refine TA_p 14 ?_; ((refine pw_mv ?_)); refine TA_nv ?_))
  all_goals ((refine TA_p 15 ?_; ((refine pw_add64 rfl rfl (by omega) (by omega) ?_)); refine TA_nv ?_))
  all_goals ((refine TA_p 16 ?_; ((refine pw_index_b evp rfl memt (List.getElem?_eq_getElem (by omega)) (by omega) (fun b o => ?_))); refine TA_nv ?_))
  all_goals ((refine TA_p 17 ?_; ((refine pw_load_at0 rfl memr rfl ?_)); refine TA_nv ?_))
  all_goals ((refine TA_p 18 ?_; ((refine pw_conv_b32 evp ?_)); refine TA_nv ?_))
  all_goals ((refine TA_p 19 ?_; ((refine pw_shl (n := 16) rfl rfl rfl (by decide) ?_)); refine TA_nv ?_))
  all_goals ((refine TA_p 20 ?_; ((refine pw_or rfl rfl rfl (by repeat' ((first | exact Nat.mod_lt _ (by decide) | exact Nat.lt_of_lt_of_le (UInt8.toNat_lt _) (by decide) | refine Nat.or_lt_two_pow ?_ ?_))) (by repeat' ((exact Nat.mod_lt _ (by decide)))) ?_)); refine TA_nv ?_))
  all_goals ((refine TA_p 21 ?_; ((refine pw_mv ?_)); refine TA_nv ?_))
  all_goals ((refine TA_p 22 ?_; ((refine pw_mv ?_)); refine TA_nv ?_))
  all_goals ((refine TA_p 23 ?_; ((refine pw_add64 rfl rfl (by omega) (by omega) ?_)); refine TA_nv ?_))
  all_goals ((refine TA_p 24 ?_; ((refine pw_index_b evp rfl memt (List.getElem?_eq_getElem (by omega)) (by omega) (fun b o => ?_))); refine TA_nv ?_))
  all_goals ((refine TA_p 25 ?_; ((refine pw_load_at0 rfl memr rfl ?_)); refine TA_nv ?_))
  all_goals ((refine TA_p 26 ?_; ((refine pw_conv_b32 evp ?_)); refine TA_nv ?_))
  all_goals ((refine TA_p 27 ?_; ((refine pw_shl (n := 24) rfl rfl rfl (by decide) ?_)); refine TA_nv ?_))
  all_goals ((refine TA_p 28 ?_; ((refine pw_or rfl rfl rfl (by repeat' ((first | exact Nat.mod_lt _ (by decide) | exact Nat.lt_of_lt_of_le (UInt8.toNat_lt _) (by decide) | refine Nat.or_lt_two_pow ?_ ?_))) (by repeat' ((exact Nat.mod_lt _ (by decide)))) ?_)); refine TA_nv ?_))
  all_goals ((refine TA_p 29 ?_; ((refine pw_as ?_)); refine TA_nv ?_))
  all_goals refine TA_d ?_
  repeat' (first | (apply TC_ret) | (apply En_then))
  refine En_fin (.inl rfl) (res1 rfl (rv_tmp rfl)) (fin_K H R (fun w hs => hs.weaken sbp kpp) ?_)
  refine K_nat (b := fourL (xs.drop i)) ?_ k
  have g : ∀ q (h : i + q < xs.length), (xs.drop i).getD q 0 = xs[i + q] := fun q h => by simp [List.getD, List.getElem?_drop, h]
  simp only [fourL, four, g 0 (by omega), g 1 (by omega), g 2 (by omega), g 3 (by omega)]
  rfl
/-- A record that is read, as the reference has it. -/
def recR (xs : List UInt8) (at_ limit : Nat) : RecD × Bool := if (recA xs at_ limit).2 then ((recA xs at_ limit).1.toR, true) else (⟨0, 0, 0, 0⟩, false)
abbrev rdV (r : RecD) : Value := .agg #[.int .i64 r.at_, .int .i64 r.epoch, .int .i64 r.seq, .int .i64 r.len]
end Go.Proofs.YtggdljhmbckpmaaGreat
