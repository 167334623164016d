/- The law's helpers: sameBytes, sameDrive: walks. -/
import Derived.Test.YtggdljhmbckpmaaGreatF6
import Derived.Test.YtggdljhmbckpmaaGreatA16
set_option linter.unusedVariables false
set_option linter.unusedSimpArgs false
namespace Go.Proofs.YtggdljhmbckpmaaGreat
open Go Go.RowKit
set_option maxRecDepth 100000
set_option maxHeartbeats 1600000

theorem strV_toList (xs : List UInt8) : (strV xs).toList = xs := ByteArray.toList_mk xs
section
variable {P : Program} {w0 : World} {E : List Value} {H : List Hp} {R : List MP} {ty : TypeId} {K : Value → List MP → Prop}
theorem pw_eqs {t t' : TypeId} {x y : Operand} {xs ys : List UInt8} (hx : ev E x = .string (strV xs)) (hy : ev E y = .string (strV ys)) (kk : K (.bool (decide (xs = ys))) R) : PW P w0 E (.binOp .eql t x y t') ty H R K :=
  pw_val rfl (fun w _ => by
    have hg : (eqGuard .eql t x y (.string (strV xs)) (.string (strV ys))).run P w = .ok () w := by cases x <;> cases y <;> rfl
    rw [hx, hy]
    simp only [Sem.run_bind, hg, Result.andThen_ok, binOp_string_eql, strV_toList, Sem.run_pure]
    have e : (xs == ys) = decide (xs = ys) := Bool.eq_iff_iff.2 (by simp)
    rw [e]) kk
end
theorem sameBytes_k {w0 : World} {H : List Hp} {R : List MP} {K : Value → List Hp → List MP → Prop} (A : Option Addr) (m c : Nat) (A2 : Option Addr) (m2 c2 : Nat) (xs ys : List UInt8) (h1 : Sl (.slice A m c) xs ∈ R) (h2 : Sl (.slice A2 m2 c2) ys ∈ R)
    (k : K (.bool (decide (xs = ys))) H R) : CallsK Tryz.prog w0 11 #[.slice A m c, .slice A2 m2 c2] H R K := by
  refine calls_of Tryz.func11 rfl Tryz.ntmps11 nep ?_
  repeat' (first | (refine T_pure rfl rfl ?_; refine pw_str (xs := xs) rfl h1 ?_; refine T_nv ?_) | (refine T_pure rfl rfl ?_; refine pw_str (xs := ys) rfl h2 ?_; refine T_nv ?_) | (apply T_bin; exact rfl; refine pw_eqs rfl rfl ?_; refine T_nv ?_) | (apply TC_seq) | (apply TC_region) | (apply TC_ret) | (apply T_nil) | (apply En_then) | (refine T_pure rfl rfl ?_; ((first | refine pw_mv ?_ | refine pw_as ?_)); refine T_nv ?_))
  exact En_fin (.inl rfl) (res1 rfl (rv_tmp rfl)) (fin_K H R (fun _ h => h) k)
theorem sameBytes_k2 {w0 : World} {H : List Hp} {R : List MP} {K : Value → List Hp → List MP → Prop} (A : Option Addr) (m c : Nat) (A2 : Option Addr) (m2 c2 : Nat) (xs ys : List UInt8) (h1 : Sl (.slice A m c) xs ∈ R) (h2 : Sl (.slice A2 m2 c2) ys ∈ R)
    (kt : xs = ys → K (.bool true) H R) (kf : xs ≠ ys → K (.bool false) H R) : CallsK Tryz.prog w0 11 #[.slice A m c, .slice A2 m2 c2] H R K := by
  refine sameBytes_k A m c A2 m2 c2 xs ys h1 h2 ?_
  by_cases h : xs = ys
  · rw [decide_eq_true h]; exact kt h
  · rw [decide_eq_false h]; exact kf h
end Go.Proofs.YtggdljhmbckpmaaGreat
