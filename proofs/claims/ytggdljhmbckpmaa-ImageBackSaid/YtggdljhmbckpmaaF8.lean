/- Read; records: their ends, their words: walks. -/
import Derived.Test.YtggdljhmbckpmaaF4
import Derived.Test.YtggdljhmbckpmaaF5
import Derived.Test.YtggdljhmbckpmaaAM
set_option linter.unusedVariables false
set_option linter.unusedSimpArgs false
namespace Go.Proofs.Ytggdljhmbckpmaa
open Go Go.RowKit
set_option maxRecDepth 100000
set_option maxHeartbeats 800000

/-- Bytes and an errno are returned, the bytes for good. -/
def KB (K : Value → List Hp → List MP → Prop) (r : List UInt8 × Int) (H : List Hp) (R : List MP) : Prop := ∀ A c, K (.tuple #[.slice A r.1.length c, .int .i64 r.2]) H (Sl (.slice A r.1.length c) r.1 :: R)
theorem KB_eq {K : Value → List Hp → List MP → Prop} {r r' : List UInt8 × Int} {H : List Hp} {R : List MP} (e : r = r') (h : KB K r H R) : KB K r' H R := e ▸ h
def readD (d : Drive) : List UInt8 × Int := if checkD d then (hasB d, 0) else ([], 301)
theorem read_k {w0 : World} {H : List Hp} {R : List MP} {K : Value → List Hp → List MP → Prop} (A0 : Option Addr) (c0 : Nat) (A2 : Option Addr) (c2 : Nat) (d : Drive) (hb : d.bytes.length ≤ 9223372036854775807) (hp : d.pending.length ≤ 9223372036854775807)
    (hm : Sl (.slice A0 d.bytes.length c0) d.bytes ∈ R) (hm2 : Sl (.slice A2 d.pending.length c2) d.pending ∈ R)
    (k : KB K (readD d) H R) : CallsK Try.prog w0 25 #[dv A0 c0 A2 c2 d] H R K := by
  refine calls_of Try.func25 rfl Try.ntmps25 nep ?_
  repeat' (first | (refine T_ow rfl ?_; refine ow_callf arp ?_; refine check_k _ _ _ _ d hb hp hm hm2 ?_; refine T_nv ?_) | (apply TC_seq) | (apply TC_region) | (apply TC_ret) | (apply TC_skip) | (apply TC_cond_true; exact rfl) | (apply TC_cond_false; exact rfl) | (apply T_nil) | (apply En_then) | (apply En_then_ret) | (apply T_load; exact rfl; ((refine pw_load (i := 0) rfl rfl rfl ?_)); refine T_nv ?_) | (apply T_bin; exact rfl; ((refine pw_neq rfl rfl (fun h => ?_) (fun h => ?_))) <;> (refine T_nv ?_)) | (refine T_pure rfl rfl ?_; ((first | refine pw_mv ?_ | refine pw_as ?_)); refine T_nv ?_) | (refine T_gen rfl rfl ?_; ((refine gw_box clp (fun b => ?_))); refine T_nv ?_))
  · have hc : checkD d = false := by unfold errD at h; cases hc : checkD d <;> simp_all
    have e : errD d = 301 := by unfold errD; rw [hc]; rfl
    rw [e]
    refine En_fin (.inl rfl) (res2 rfl (rv_tmp rfl) (rv_tmp rfl)) (fin_K H (Sl (.slice none 0 0) ([] : List UInt8) :: R) (fun w hs => (hs.weaken sbp (fun _ h => h)).sl_nil UInt8) ?_)
    exact KB_eq (r' := ([], 301)) (by unfold readD; rw [hc]; rfl) k none 0
  have hc : checkD d = true := by unfold errD at h; cases hc : checkD d <;> simp_all
  repeat' (first | (refine T_ow rfl ?_; refine ow_callf arp ?_; refine has_k _ _ _ _ d hc hm hm2 (fun v => ?_); refine T_nv ?_; refine T_stays 0 rfl (fun A' c' hv => ?_); subst hv; refine T_hq ?_) | (apply TC_ret) | (apply T_nil) | (apply En_then) | (refine T_pure rfl rfl ?_; ((refine pw_as ?_)); refine T_nv ?_))
  refine En_fin (.inl rfl) (res2 rfl (rv_tmp rfl) (rv_tmp rfl)) (fin_K H _ (fun w hs => hs.weaken sbp (fun _ h => h)) ?_)
  exact KB_eq (r' := (hasB d, 0)) (by unfold readD; rw [hc]; rfl) k A' c'

structure Rc where
  at_ : Nat
  epoch : Nat
  seq : Nat
  data : List UInt8
abbrev rcV (A : Option Addr) (c : Nat) (r : Rc) : Value := .agg #[.int .i64 (r.at_ : Int), .int .i64 (r.epoch : Int), .int .i64 (r.seq : Int), .slice A r.data.length c]
def Rc.stop (r : Rc) : Nat := r.at_ + 21 + r.data.length
theorem end_k {w0 : World} {H : List Hp} {R : List MP} {K : Value → List Hp → List MP → Prop} (A : Option Addr) (c : Nat) (r : Rc) (hb : r.stop ≤ 1000000000)
    (k : K (.int .i64 (r.stop : Nat)) H R) : CallsK Try.prog w0 51 #[rcV A c r] H R K := by
  unfold Rc.stop at *
  refine calls_of Try.func51 rfl Try.ntmps51 nep ?_
  repeat' (first | (apply TC_seq) | (apply TC_region) | (apply TC_ret) | (apply T_nil) | (apply En_then) | (apply T_load; exact rfl; ((refine pw_load (i := 0) rfl rfl rfl ?_)); refine T_nv ?_) | (apply T_bin; exact rfl; ((refine pw_add64 rfl rfl (by omega) (by omega) ?_)); refine T_nv ?_) | (refine T_pure rfl rfl ?_; ((first | refine pw_as ?_ | refine pw_fieldAddr rfl ?_ | refine pw_len rfl ?_)); refine T_nv ?_) | (refine T_gen rfl rfl ?_; ((refine gw_box clp (fun b => ?_))); refine T_nv ?_))
  refine En_fin (.inl rfl) (res1 rfl (rv_tmp rfl)) (fin_K H R (fun w hs => hs.weaken sbp (fun _ h => h)) ?_)
  exact K_int (by simp) k
theorem fourOf_k' {w0 : World} {H : List Hp} {R : List MP} {K : Value → List Hp → List MP → Prop} (A : Option Addr) (m c : Nat) (xs : List UInt8) (hml : m = xs.length) (h4 : 4 ≤ xs.length) (hb : xs.length ≤ 9223372036854775807) (hm : Sl (.slice A m c) xs ∈ R)
    (k : K (.int .u32 (fourL xs : Nat)) H R) : CallsK Try.prog w0 125 #[.slice A m c] H R K := by
  subst hml; exact fourOf_k A c xs h4 hb hm k
theorem sum_k' {w0 : World} {H : List Hp} {R : List MP} {K : Value → List Hp → List MP → Prop} (A : Option Addr) (m c : Nat) (xs : List UInt8) (hml : m = xs.length) (hb : xs.length ≤ 9223372036854775807) (hm : Sl (.slice A m c) xs ∈ R)
    (k : K (.int .u32 (sumB xs : Nat)) H R) : CallsK Try.prog w0 101 #[.slice A m c] H R K := by
  subst hml; exact sum_k A c xs hb hm k
theorem word_k {w0 : World} {H : List Hp} {R : List MP} {K : Value → List Hp → List MP → Prop} (i j b1 b2 : Nat) (A : Option Addr) (c : Nat) (xs : List UInt8) (at_ n : Nat) (hi : H[i]? = some (.blk b1 [.slice A xs.length c] 33)) (hj : H[j]? = some (.blk b2 [.int .i64 (at_ : Int)] 3))
    (hb : xs.length ≤ 600000) (hn : at_ + n + 4 ≤ xs.length) (hm : Sl (.slice A xs.length c) xs ∈ R)
    (k : K (.int .u32 (fourL (xs.drop (at_ + n)) : Nat)) H R) : CallsK Try.prog w0 124 #[.int .i64 (n : Int), .pointer (some ⟨b1, 0, none⟩), .pointer (some ⟨b2, 0, none⟩)] H R K := by
  refine calls_of Try.func124 rfl Try.ntmps124 nep ?_
  repeat' (first | (refine T_pure rfl rfl ?_; refine pw_load (i := i) rfl hi rfl ?_; refine T_nv ?_) | (refine T_pure rfl rfl ?_; refine pw_load (i := j) rfl hj rfl ?_; refine T_nv ?_) | (refine T_pure rfl rfl ?_; refine pw_slice_sl rfl hm rfl rfl rfl rfl (by omega) (by omega) (by omega) (fun A8 c8 => ?_); refine T_nv ?_) | (apply TC_seq) | (apply TC_region) | (apply T_nil) | (apply En_then) | (apply T_bin; exact rfl; ((refine pw_add64 rfl rfl (by omega) (by omega) ?_)); refine T_nv ?_) | (refine T_pure rfl rfl ?_; ((first | refine pw_mv ?_ | refine pw_as ?_)); refine T_nv ?_))
  have hl : ((xs.take (xs.length : Int).toNat).drop ((at_ : Int) + (n : Int)).toNat) = xs.drop (at_ + n) := by
    rw [show ((at_ : Int) + (n : Int)).toNat = at_ + n by omega, Int.toNat_natCast, List.take_length]
  repeat' (first | (refine T_ow rfl ?_; refine ow_callf arp ?_; refine fourOf_k' _ _ _ ((xs.take (xs.length : Int).toNat).drop ((at_ : Int) + (n : Int)).toNat) (by simp) (by rw [hl]; simp; omega) (by rw [hl]; simp; omega) memt ?_; refine T_nv ?_) | (apply TC_ret) | (apply T_nil) | (apply En_then) | (refine T_pure rfl rfl ?_; ((refine pw_as ?_)); refine T_nv ?_))
  refine En_fin (.inl rfl) (res1 rfl (rv_tmp rfl)) (fin_K H R (fun w hs => hs.weaken sbp kpp) ?_)
  rw [hl]; exact k
end Go.Proofs.Ytggdljhmbckpmaa
