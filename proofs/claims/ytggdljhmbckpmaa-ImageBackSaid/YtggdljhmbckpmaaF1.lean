/- The small functions of package image: walks. -/
import Derived.Test.YtggdljhmbckpmaaA7
import Derived.Test.YtggdljhmbckpmaaA7f0
import Derived.Test.YtggdljhmbckpmaaA7f1
import Derived.Test.YtggdljhmbckpmaaAM
import Derived.Test.YtggdljhmbckpmaaAS
set_option linter.unusedVariables false
set_option linter.unusedSimpArgs false
namespace Go.Proofs.Ytggdljhmbckpmaa
open Go Go.RowKit
set_option maxRecDepth 100000
set_option maxHeartbeats 400000

def fnv (s : Nat) (c : UInt8) : Nat := ((s ^^^ c.toNat) * 16777619) % 4294967296
def sumB (xs : List UInt8) : Nat := xs.foldl fnv 2166136261
theorem fnv_lt (s : Nat) (c : UInt8) : fnv s c < 4294967296 := Nat.mod_lt _ (by omega)
theorem foldl_fnv_lt : ∀ (xs : List UInt8) (s : Nat), s < 4294967296 → xs.foldl fnv s < 4294967296
  | [], s, h => h
  | x :: xs, s, h => foldl_fnv_lt xs _ (fnv_lt s x)
theorem sumB_lt (xs : List UInt8) : sumB xs < 4294967296 := foldl_fnv_lt xs _ (by omega)

theorem fold_step (xs : List UInt8) (i : Nat) (hi : i < xs.length) : (xs.take (i + 1)).foldl fnv 2166136261 = fnv ((xs.take i).foldl fnv 2166136261) xs[i] := by
  rw [List.take_succ_eq_append_getElem hi, List.foldl_append, List.foldl_cons, List.foldl_nil]

theorem sum_k {w0 : World} {H : List Hp} {R : List MP} {K : Value → List Hp → List MP → Prop} (A : Option Addr) (c : Nat) (xs : List UInt8) (hb : xs.length ≤ 9223372036854775807) (hm : Sl (.slice A xs.length c) xs ∈ R)
    (k : K (.int .u32 (sumB xs : Nat)) H R) : CallsK Try.prog w0 101 #[.slice A xs.length c] H R K := by
  refine calls_of Try.func101 rfl Try.ntmps101 nep ?_
  repeat' (first | (apply TC_seq) | (apply TC_region) | (apply TC_block) | (apply T_nil) | (apply En_then) | (refine T_pure rfl rfl ?_; ((first | refine pw_mv ?_ | refine pw_as ?_ | refine pw_len rfl ?_)); refine T_nv ?_))
  refine TC_loopS [3, 5, 8, 9, 10, 11, 12, 13, 14, 15, 16, 17] (fun m j H' R' => H' = H ∧ R' = R ∧ ∃ i : Nat, i + m = xs.length ∧ j 8 = .int .i64 i ∧ j 3 = .int .u32 ((xs.take i).foldl fnv 2166136261 : Nat)) xs.length sjp ⟨rfl, rfl, 0, by omega, rfl, rfl⟩ ?_
  rintro m j H' R' ⟨rfl, rfl, i, hi, h8, h3⟩
  refine TC_env (by simp only [setJ, List.foldl_cons, List.foldl_nil, List.set_cons_succ, List.set_cons_zero, *]; rfl) ?_
  repeat' (first | (refine T_pure rfl rfl ?_; ((first | refine pw_conv_b32 rfl ?_ | refine pw_xor rfl rfl rfl (foldl_fnv_lt _ _ (by omega)) (Nat.lt_of_lt_of_le (UInt8.toNat_lt _) (by decide)) ?_ | refine pw_muln (b := 16777619) rfl rfl rfl ?_)); refine T_nv ?_) | (apply TC_seq) | (apply TC_region) | (apply TC_block) | (apply TC_ret) | (apply TC_skip) | (apply TC_exit) | (apply TC_cond_true; exact rfl) | (apply TC_cond_false; exact rfl) | (apply T_nil) | (apply En_then) | (apply En_then_exit) | (apply En_block) | (apply En_block_exit) | (apply T_load; exact rfl; ((refine pw_load_at0 rfl memr rfl ?_)); refine T_nv ?_) | (apply T_bin; exact rfl; ((refine pw_add64 rfl rfl (by omega) (by omega) ?_)); refine T_nv ?_) | (apply T_bin; exact rfl; ((refine pw_lss rfl rfl (fun h => ?_) (fun h => ?_))) <;> (refine T_nv ?_)) | (apply T_idx; exact rfl; ((refine pw_index_bN evp rfl memt (List.getElem?_eq_getElem (by omega)) (fun b o => ?_))); refine T_nv ?_) | (refine T_pure rfl rfl ?_; ((first | refine pw_mv ?_ | refine pw_as ?_)); refine T_nv ?_))
  · refine En_backS (m - 1) H' R' (by omega) sjp ⟨rfl, rfl, i + 1, by omega, rfl, ?_⟩ (fun w hs => hs.weaken (List.Sublist.refl _) (fun p hp => List.Mem.tail _ hp))
    exact congrArg (fun n : Nat => Value.int .u32 (n : Int)) (fold_step xs i (by omega)).symm
  · refine En_fin (.inl rfl) (res1 rfl (rv_tmp rfl)) (fin_K H' R' (fun _ h => h) ?_)
    rw [List.take_of_length_le (by omega)]
    exact k
end Go.Proofs.Ytggdljhmbckpmaa
