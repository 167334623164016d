/- The small functions of package image: walks (2). -/
import Derived.Test.YtggdljhmbckpmaaF1
set_option linter.unusedVariables false
set_option linter.unusedSimpArgs false
namespace Go.Proofs.Ytggdljhmbckpmaa
open Go Go.RowKit
set_option maxRecDepth 100000
set_option maxHeartbeats 800000

theorem K_nat {K : Value → List Hp → List MP → Prop} {k : IntKind} {H : List Hp} {R : List MP} {a b : Nat} (h : a = b) (hk : K (.int k (b : Int)) H R) : K (.int k (a : Int)) H R := h ▸ hk

def four (a b c d : UInt8) : Nat := a.toNat ||| b.toNat * 2 ^ 8 % 2 ^ 32 ||| c.toNat * 2 ^ 16 % 2 ^ 32 ||| d.toNat * 2 ^ 24 % 2 ^ 32
def fourL (xs : List UInt8) : Nat := four (xs.getD 0 0) (xs.getD 1 0) (xs.getD 2 0) (xs.getD 3 0)
theorem getD_at (xs : List UInt8) (i : Nat) (h : i < xs.length) : xs.getD i 0 = xs[i] := by simp [List.getD, h]
theorem fourOf_k {w0 : World} {H : List Hp} {R : List MP} {K : Value → List Hp → List MP → Prop} (A : Option Addr) (c : Nat) (xs : List UInt8) (h4 : 4 ≤ xs.length) (hb : xs.length ≤ 9223372036854775807) (hm : Sl (.slice A xs.length c) xs ∈ R)
    (k : K (.int .u32 (fourL xs : Nat)) H R) : CallsK Try.prog w0 125 #[.slice A xs.length c] H R K := by
  refine calls_of Try.func125 rfl Try.ntmps125 nep ?_
  repeat' (first | (apply TC_seq) | (apply TC_region) | (apply T_nil) | (apply En_then) | (refine T_pure rfl rfl ?_; ((refine pw_as ?_)); refine T_nv ?_))
  refine TC_draw mixed (by decide +kernel) (fun _ _ _ _ _ _ h => h) (List.Sublist.refl _) ?_
  all_goals ((refine TA_p 0 ?_; ((refine pw_mv ?_)); refine TA_nv ?_))
  all_goals ((refine TA_p 1 ?_; ((refine pw_index_b evp rfl memt (List.getElem?_eq_getElem (by omega)) (by omega) (fun b o => ?_))); refine TA_nv ?_))
  all_goals ((refine TA_p 2 ?_; ((refine pw_load_at0 rfl memr rfl ?_)); refine TA_nv ?_))
  all_goals ((refine TA_p 3 ?_; ((refine pw_conv_b32 evp ?_)); refine TA_nv ?_))
  all_goals ((refine TA_p 4 ?_; ((refine pw_mv ?_)); refine TA_nv ?_))
  all_goals ((refine TA_p 5 ?_; ((refine pw_index_b evp rfl memt (List.getElem?_eq_getElem (by omega)) (by omega) (fun b o => ?_))); refine TA_nv ?_))
  all_goals ((refine TA_p 6 ?_; ((refine pw_load_at0 rfl memr rfl ?_)); refine TA_nv ?_))
  all_goals ((refine TA_p 7 ?_; ((refine pw_conv_b32 evp ?_)); refine TA_nv ?_))
  all_goals ((refine TA_p 8 ?_; ((refine pw_shl (n := 8) rfl rfl rfl (by decide) ?_)); refine TA_nv ?_))
  all_goals ((refine TA_p 9 ?_; ((refine pw_or rfl rfl rfl (by repeat' ((exact Nat.lt_of_lt_of_le (UInt8.toNat_lt _) (by decide)))) (by repeat' ((exact Nat.mod_lt _ (by decide)))) ?_)); refine TA_nv ?_))
  all_goals ((refine TA_p 10 ?_; ((refine pw_mv ?_)); refine TA_nv ?_))
  all_goals ((refine TA_p 11 ?_; ((refine pw_index_b evp rfl memt (List.getElem?_eq_getElem (by omega)) (by omega) (fun b o => ?_))); refine TA_nv ?_))
  all_goals ((refine TA_p 12 ?_; ((refine pw_load_at0 rfl memr rfl ?_)); refine TA_nv ?_))
  all_goals ((refine TA_p 13 ?_; ((refine pw_conv_b32 evp ?_)); refine TA_nv ?_))
  all_goals ((refine TA_p 14 ?_; ((refine pw_shl (n := 16) rfl rfl rfl (by decide) ?_)); refine TA_nv ?_))
  all_goals ((refine TA_p 15 ?_; ((refine pw_or rfl rfl rfl (by repeat' ((first | exact Nat.mod_lt _ (by decide) | exact Nat.lt_of_lt_of_le (UInt8.toNat_lt _) (by decide) | refine Nat.or_lt_two_pow ?_ ?_))) (by repeat' ((exact Nat.mod_lt _ (by decide)))) ?_)); refine TA_nv ?_))
  all_goals ((refine TA_p 16 ?_; ((refine pw_mv ?_)); refine TA_nv ?_))
  all_goals ((refine TA_p 17 ?_; ((refine pw_index_b evp rfl memt (List.getElem?_eq_getElem (by omega)) (by omega) (fun b o => ?_))); refine TA_nv ?_))
  all_goals ((refine TA_p 18 ?_; ((refine pw_load_at0 rfl memr rfl ?_)); refine TA_nv ?_))
  all_goals ((refine TA_p 19 ?_; ((refine pw_conv_b32 evp ?_)); refine TA_nv ?_))
  all_goals ((refine TA_p 20 ?_; ((refine pw_shl (n := 24) rfl rfl rfl (by decide) ?_)); refine TA_nv ?_))
  all_goals ((refine TA_p 21 ?_; ((refine pw_or rfl rfl rfl (by repeat' ((first | exact Nat.mod_lt _ (by decide) | exact Nat.lt_of_lt_of_le (UInt8.toNat_lt _) (by decide) | refine Nat.or_lt_two_pow ?_ ?_))) (by repeat' ((exact Nat.mod_lt _ (by decide)))) ?_)); refine TA_nv ?_))
  all_goals ((refine TA_p 22 ?_; ((refine pw_as ?_)); refine TA_nv ?_))
  all_goals refine TA_d ?_
  repeat' (first | (apply TC_ret) | (apply En_then))
  refine En_fin (.inl rfl) (res1 rfl (rv_tmp rfl)) (fin_K H R (fun w hs => hs.weaken (List.Sublist.refl _) (fun p hp => by simp [hp])) ?_)
  refine K_nat (b := fourL xs) ?_ k
  simp only [fourL, four, getD_at xs 0 (by omega), getD_at xs 1 (by omega), getD_at xs 2 (by omega), getD_at xs 3 (by omega)]
  rfl

def le4 (n : Nat) : List UInt8 := [UInt8.ofNat n, UInt8.ofNat (n / 256), UInt8.ofNat (n / 65536), UInt8.ofNat (n / 16777216)]
theorem byteV_ofNat (n : Nat) : Value.int .u8 ((n % 2 ^ IntKind.bits .u8 : Nat) : Int) = byteV (UInt8.ofNat n) := by simp [byteV, IntKind.bits]
theorem appendFour_k {w0 : World} {H : List Hp} {R : List MP} {K : Value → List Hp → List MP → Prop} (v : Value) (m n : Nat) (cs : List Value) (hb : m ≤ 1000000000) (hn : n < 4294967296)
    (k : ∀ v', K v' (.row v' 5 1 (m + 4) (cs ++ bytesV (le4 n)) :: H) R) : CallsK Try.prog w0 100 #[v, .int .u32 n] (.row v 5 1 m cs :: H) R K := by
  refine calls_of Try.func100 rfl Try.ntmps100 nep ?_
  repeat' (first | (refine T_pure rfl rfl ?_; ((first | refine pw_convn rfl rfl ?_ | refine pw_shr (n := 8) rfl rfl (by decide) ?_ | refine pw_shr (n := 16) rfl rfl (by decide) ?_ | refine pw_shr (n := 24) rfl rfl (by decide) ?_)); refine T_nv ?_) | (apply TC_seq) | (apply TC_region) | (apply T_nil) | (apply En_then) | (refine T_pure rfl rfl ?_; ((first | refine pw_mv ?_ | refine pw_as ?_)); refine T_nv ?_) | (refine T_gen rfl rfl ?_; ((refine gw_buildSlice (by decide) prtp rfl (fun b => ?_))); refine T_nv ?_))
  refine T_hp (H' := .blk b (bytesV (le4 n)) 5 :: .row v 5 1 m cs :: H) (by simp only [bytesV, le4, List.map_cons, List.map_nil, ← byteV_ofNat]) ?_
  refine T_gen rfl rfl ?_
  refine gw_append_blk 1 0 rfl rfl rfl rfl (by decide) (by simp [le4]) (bytesV_one _) (by omega) (by omega) (fun v' => ?_)
  refine T_nv ?_
  refine T_hq ?_
  repeat' (first | (apply TC_ret) | (apply T_nil) | (apply En_then) | (refine T_pure rfl rfl ?_; ((refine pw_as ?_)); refine T_nv ?_))
  refine En_fin (.inl rfl) (res1 rfl (rv_tmp rfl)) (fin_K _ R (fun w hs => hs.weaken (List.sublist_cons_self _ _) (fun p hp => hp)) (k v'))

/-- slices.Clone of bytes: a row of its own. -/
theorem clone_k {w0 : World} {H : List Hp} {R : List MP} {K : Value → List Hp → List MP → Prop} (A : Option Addr) (c : Nat) (xs : List UInt8) (hb : xs.length ≤ 140737488355328) (hm : Sl (.slice A xs.length c) xs ∈ R)
    (k : ∀ v', K v' (.row v' 5 1 xs.length (bytesV xs) :: H) R) : CallsK Try.prog w0 57 #[.slice A xs.length c] H R K := by
  refine CallsK_fact (p := A = none → xs = []) (fun w hs hA => ?_) (fun hnil => ?_)
  · obtain ⟨hn, hc⟩ := hs.sl_bytes hm
    rcases Nat.eq_zero_or_pos xs.length with h0 | h0
    · exact List.eq_nil_of_length_eq_zero h0
    · obtain ⟨b, o, e, _⟩ := hc h0
      rw [hA] at e; cases e
  refine calls_of Try.func57 rfl Try.ntmps57 nep ?_
  repeat' (first | (refine T_pure rfl rfl ?_; refine pw_eqnil rfl rfl (fun hA => ?_) (fun a hA => ?_) <;> refine T_nv ?_) | (apply TC_seq) | (apply TC_region) | (apply TC_ret) | (apply TC_skip) | (apply TC_cond_true; exact rfl) | (apply TC_cond_false; exact rfl) | (apply T_nil) | (apply En_then) | (apply En_then_ret) | (refine T_pure rfl rfl ?_; ((first | refine pw_mv ?_ | refine pw_as ?_)); refine T_nv ?_) | (refine T_gen rfl rfl ?_; ((refine gw_buildSlice (by decide) prtp rfl (fun b => ?_))); refine T_nv ?_))
  · have hx := hnil hA
    subst hx
    refine En_fin (.inl rfl) (res1 rfl (rv_tmp rfl)) (fin_K _ R (fun w hs => hs.nilrow 5 1) (k _))
  · skip
    repeat' (fail)
    refine T_weaken (.row (.slice (some ⟨b, 0, none⟩) 0 0) 5 1 0 [] :: H) R (fun w hs => hs.torow (i := 0) (cs := []) (sp := []) (n := 0) (cap := 0) (size := 1) rfl rfl rfl (by omega) (by decide)) ?_
    repeat' (fail)
    refine T_gen rfl rfl ?_
    refine gw_append_sl 0 rfl rfl memt rfl rfl (by omega) (by omega) (fun v' => ?_)
    refine T_nv ?_
    refine T_hp (by simp only [List.set_cons_zero, Nat.zero_add, List.nil_append]; rfl) ?_
    repeat' (first | (apply TC_ret) | (apply T_nil) | (apply En_then) | (refine T_pure rfl rfl ?_; ((refine pw_as ?_)); refine T_nv ?_))
    exact En_fin (.inl rfl) (res1 rfl (rv_tmp rfl)) (fin_K _ R (fun w hs => hs) (k v'))
end Go.Proofs.Ytggdljhmbckpmaa
