/- Read; records: their ends, their words: walks. -/
import Derived.Test.YtggdljhmbckpmaaGreatF4
import Derived.Test.YtggdljhmbckpmaaGreatF5
import Derived.Test.YtggdljhmbckpmaaGreatA11
set_option linter.unusedVariables false
set_option linter.unusedSimpArgs false
namespace Go.Proofs.YtggdljhmbckpmaaGreat
open Go Go.RowKit
set_option maxRecDepth 100000
set_option maxHeartbeats 800000

/-- Bytes and an errno are returned, the bytes for good. -/
def KB (K : Value → List Hp → List MP → Prop) (r : List UInt8 × Int) (H : List Hp) (R : List MP) : Prop := ∀ A c, K (.tuple #[.slice A r.1.length c, .int .i64 r.2]) H (Sl (.slice A r.1.length c) r.1 :: R)
theorem KB_eq {K : Value → List Hp → List MP → Prop} {r r' : List UInt8 × Int} {H : List Hp} {R : List MP} (e : r = r') (h : KB K r H R) : KB K r' H R := e ▸ h
def readD (d : Drive) : List UInt8 × Int := if checkD d then (hasB d, 0) else ([], 301)
structure Rc where
  at_ : Nat
  epoch : Nat
  seq : Nat
  data : List UInt8
abbrev rcV (A : Option Addr) (c : Nat) (r : Rc) : Value := .agg #[.int .i64 (r.at_ : Int), .int .i64 (r.epoch : Int), .int .i64 (r.seq : Int), .slice A r.data.length c]
def Rc.stop (r : Rc) : Nat := r.at_ + 21 + r.data.length
theorem end_k {w0 : World} {H : List Hp} {R : List MP} {K : Value → List Hp → List MP → Prop} (A : Option Addr) (c : Nat) (r : Rc) (hb : r.stop ≤ 1000000000)
    (k : K (.int .i64 (r.stop : Nat)) H R) : CallsK Tryz.prog w0 56 #[rcV A c r] H R K := by
  unfold Rc.stop at *
  refine calls_of Tryz.func56 rfl Tryz.ntmps56 nep ?_
  repeat' (first | (apply TC_seq) | (apply TC_region) | (apply TC_ret) | (apply T_nil) | (apply En_then) | (apply T_load; exact rfl; ((refine pw_load (i := 0) rfl rfl rfl ?_)); refine T_nv ?_) | (apply T_bin; exact rfl; ((refine pw_add64 rfl rfl (by omega) (by omega) ?_)); refine T_nv ?_) | (refine T_pure rfl rfl ?_; ((first | refine pw_as ?_ | refine pw_fieldAddr rfl ?_ | refine pw_len rfl ?_)); refine T_nv ?_) | (refine T_gen rfl rfl ?_; ((refine gw_box clp (fun b => ?_))); refine T_nv ?_))
  refine En_fin (.inl rfl) (res1 rfl (rv_tmp rfl)) (fin_K H R (fun w hs => hs.weaken sbp (fun _ h => h)) ?_)
  exact K_int (by simp) k
theorem fourOf_k' {w0 : World} {H : List Hp} {R : List MP} {K : Value → List Hp → List MP → Prop} (A : Option Addr) (m c : Nat) (xs : List UInt8) (hml : m = xs.length) (h4 : 4 ≤ xs.length) (hb : xs.length ≤ 9223372036854775807) (hm : Sl (.slice A m c) xs ∈ R)
    (k : K (.int .u32 (fourL xs : Nat)) H R) : CallsK Tryz.prog w0 155 #[.slice A m c] H R K := by
  subst hml; exact fourOf_k A c xs h4 hb hm k
theorem sum_k' {w0 : World} {H : List Hp} {R : List MP} {K : Value → List Hp → List MP → Prop} (A : Option Addr) (m c : Nat) (xs : List UInt8) (hml : m = xs.length) (hb : xs.length ≤ 9223372036854775807) (hm : Sl (.slice A m c) xs ∈ R)
    (k : K (.int .u32 (sumB xs : Nat)) H R) : CallsK Tryz.prog w0 115 #[.slice A m c] H R K := by
  subst hml; exact sum_k A c xs hb hm k
theorem word_k {w0 : World} {H : List Hp} {R : List MP} {K : Value → List Hp → List MP → Prop} (i j b1 b2 : Nat) (A : Option Addr) (c : Nat) (xs : List UInt8) (at_ n : Nat) (hi : H[i]? = some (.blk b1 [.slice A xs.length c] 33)) (hj : H[j]? = some (.blk b2 [.int .i64 (at_ : Int)] 3))
    (hb : xs.length ≤ 600000) (hn : at_ + n + 4 ≤ xs.length) (hm : Sl (.slice A xs.length c) xs ∈ R)
    (k : K (.int .u32 (fourL (xs.drop (at_ + n)) : Nat)) H R) : CallsK Tryz.prog w0 154 #[.int .i64 (n : Int), .pointer (some ⟨b1, 0, none⟩), .pointer (some ⟨b2, 0, none⟩)] H R K := by
  refine calls_of Tryz.func154 rfl Tryz.ntmps154 nep ?_
  repeat' (first | (refine T_pure rfl rfl ?_; refine pw_load (i := i) rfl hi rfl ?_; refine T_nv ?_) | (refine T_pure rfl rfl ?_; refine pw_load (i := j) rfl hj rfl ?_; refine T_nv ?_) | (refine T_pure rfl rfl ?_; refine pw_slice_sl rfl hm rfl rfl rfl rfl (by omega) (by omega) (by omega) (fun A8 c8 => ?_); refine T_nv ?_) | (apply TC_seq) | (apply TC_region) | (apply T_nil) | (apply En_then) | (apply T_bin; exact rfl; ((refine pw_add64 rfl rfl (by omega) (by omega) ?_)); refine T_nv ?_) | (refine T_pure rfl rfl ?_; ((first | refine pw_mv ?_ | refine pw_as ?_)); refine T_nv ?_))
  have hl : ((xs.take (xs.length : Int).toNat).drop ((at_ : Int) + (n : Int)).toNat) = xs.drop (at_ + n) := by
    rw [show ((at_ : Int) + (n : Int)).toNat = at_ + n by omega, Int.toNat_natCast, List.take_length]
  repeat' (first | (refine T_ow rfl ?_; refine ow_callf arp ?_; refine fourOf_k' _ _ _ ((xs.take (xs.length : Int).toNat).drop ((at_ : Int) + (n : Int)).toNat) (by simp) (by rw [hl]; simp; omega) (by rw [hl]; simp; omega) memt ?_; refine T_nv ?_) | (apply TC_ret) | (apply T_nil) | (apply En_then) | (refine T_pure rfl rfl ?_; ((refine pw_as ?_)); refine T_nv ?_))
  refine En_fin (.inl rfl) (res1 rfl (rv_tmp rfl)) (fin_K H R (fun w hs => hs.weaken sbp kpp) ?_)
  rw [hl]; exact k
end Go.Proofs.YtggdljhmbckpmaaGreat
