/- The bytes of a record: walks. -/
import Derived.Test.YtggdljhmbckpmaaF8
import Derived.Test.YtggdljhmbckpmaaA14
set_option linter.unusedVariables false
set_option linter.unusedSimpArgs false
namespace Go.Proofs.Ytggdljhmbckpmaa
open Go Go.RowKit
set_option maxRecDepth 100000
set_option maxHeartbeats 800000

theorem sum_row_k {w0 : World} {H : List Hp} {R : List MP} {K : Value → List Hp → List MP → Prop} (i b cap m l : Nat) (xs : List UInt8) (hi : H[i]? = some (.row (.slice (some ⟨b, 0, none⟩) m cap) 5 1 m (bytesV xs))) (hml : m = xs.length) (hmc : m ≤ cap) (hl : l < m) (hb : xs.length ≤ 9223372036854775807)
    (k : K (.int .u32 (sumB (xs.drop l) : Nat)) H R) : CallsK Try.prog w0 101 #[.slice (some ⟨b, l, none⟩) (m - l) (cap - l)] H R K := by
  refine CallsK_quiet (.int .u32 (sumB (xs.drop l) : Nat)) [Sl (.slice (some ⟨b, l, none⟩) (m - l) (cap - l)) (xs.drop l)] (fun w1 => ?_) (fun w hs p hp => ?_) k
  · exact sum_k' _ _ _ (xs.drop l) (by simp [hml]) (by simp; omega) (by simp) rfl
  · simp at hp; subst hp
    have h1 := hs.full_row hi
    have h2 := sl_cut (A := some ⟨b, 0, none⟩) (n := m) (c := cap) (R := [Sl (.slice (some ⟨b, 0, none⟩) m cap) xs]) (xs := xs) (by simp) l xs.length (by omega) (by omega) (s := cst w) (fun q hq => by simp at hq; subst hq; exact h1)
    rw [if_neg (by omega)] at h2
    simp only [Option.map_some, Addr.add_mk, List.take_length] at h2
    subst hml
    simpa [Rep.size] using h2

section
variable {P : Program} {w0 : World} {E : List Value} {H : List Hp} {R : List MP} {ty : TypeId} {K : Value → List MP → Prop}
theorem pw_conv32 {s d : TypeId} {x : Operand} {k : IntKind} {ds : TypeDesc} {a : Nat} [hs : TyU P s ds] [hd : TyU P d (.int .u32)] (hx : ev E x = .int k (a : Int)) (ha : a < 4294967296) (kk : K (.int .u32 (a : Int)) R) : PW P w0 E (.convert s d x) ty H R K :=
  pw_convn (hs := hs) (hd := hd) hx rfl (by rw [Nat.mod_eq_of_lt (by simpa [IntKind.bits] using ha)]; exact kk)
end
def headB (epoch seq n : Nat) : List UInt8 := [167] ++ le4 epoch ++ le4 seq ++ le4 n
def wholeB (epoch seq : Nat) (data : List UInt8) : List UInt8 :=
  headB epoch seq data.length ++ le4 (sumB ((headB epoch seq data.length).drop 1)) ++ data ++ le4 (sumB data)
theorem headB_length (e s n : Nat) : (headB e s n).length = 13 := by simp [headB, le4]
theorem wholeB_length (e s : Nat) (data : List UInt8) : (wholeB e s data).length = 21 + data.length := by simp [wholeB, headB, le4]; omega

theorem whole_k {w0 : World} {H : List Hp} {R : List MP} {K : Value → List Hp → List MP → Prop} (A : Option Addr) (c : Nat) (data : List UInt8) (epoch seq : Nat) (he : epoch < 4294967296) (hs : seq < 4294967296) (hb : data.length ≤ 1000000)
    (hm : Sl (.slice A data.length c) data ∈ R)
    (k : ∀ v', K v' (.row v' 5 1 (wholeB epoch seq data).length (bytesV (wholeB epoch seq data)) :: H) R) : CallsK Try.prog w0 52 #[.int .i64 (epoch : Int), .int .i64 (seq : Int), .slice A data.length c] H R K := by
  refine calls_of Try.func52 rfl Try.ntmps52 nep ?_
  repeat' (first | (apply TC_seq) | (apply TC_region) | (apply TC_block) | (apply T_nil) | (apply En_then) | (refine T_pure rfl rfl ?_; ((first | refine pw_mv ?_ | refine pw_as ?_ | refine pw_len rfl ?_)); refine T_nv ?_) | (refine T_gen rfl rfl ?_; ((refine gw_buildSlice (by decide) prtp rfl (fun b => ?_))); refine T_nv ?_))
  rename_i b1
  refine TC_weaken (.row (.slice (some ⟨b1, 0, none⟩) 1 1) 5 1 1 [.int .u8 167] :: .blk b [.int .i64 (epoch : Int), .int .i64 (seq : Int), .int .i64 (data.length : Int)] 3 :: H) R (fun w hs => ((hs.torow (i := 1) (cs := [.int .u8 167]) (sp := []) (n := 1) (cap := 1) (size := 1) rfl rfl rfl (by omega) (by decide))).perm (List.Perm.swap _ _ _)) ?_
  refine TC_unroll 4 ?_
  iterate 3
    apply TCr_succ
    repeat' (first | (refine T_pure rfl rfl ?_; refine pw_index_o rfl rfl (by omega) (by omega) ?_; refine T_nv ?_) | (refine T_pure rfl rfl ?_; refine pw_conv32 rfl (by omega) ?_; refine T_nv ?_) | (refine T_ow rfl ?_; refine ow_callf arp ?_; refine appendFour_k _ _ _ _ (by omega) (by omega) (fun v => ?_); refine T_nv ?_) | (apply TC_seq) | (apply TC_region) | (apply TC_block) | (apply TC_skip) | (apply TC_cond_true; exact rfl) | (apply T_nil) | (apply En_then) | (apply En_block) | (apply T_load; exact rfl; ((refine pw_load (i := 1) rfl rfl rfl ?_)); refine T_nv ?_) | (apply T_bin; exact rfl; ((refine pw_add64 rfl rfl (by omega) (by omega) ?_)); refine T_nv ?_) | (apply T_bin; exact rfl; ((refine pw_lss rfl rfl (fun h => ?_) (fun h => ?_))) <;> (first | (exfalso; omega) | refine T_nv ?_)) | (refine T_pure rfl rfl ?_; ((first | refine pw_mv ?_ | refine pw_as ?_)); refine T_nv ?_))
    apply En_round
  apply TCr_succ
  repeat' (first | (apply TC_seq) | (apply TC_region) | (apply TC_exit) | (apply TC_cond_false; exact rfl) | (apply T_nil) | (apply En_then) | (apply En_then_exit) | (apply En_block_exit) | (apply T_bin; exact rfl; ((refine pw_lss rfl rfl (fun h => ?_) (fun h => ?_))) <;> (first | (exfalso; omega) | refine T_nv ?_)) | (refine T_pure rfl rfl ?_; ((refine pw_mv ?_)); refine T_nv ?_))
  refine T_hp (H' := .row v 5 1 13 (bytesV (headB epoch seq data.length)) :: .blk b [.int .i64 (epoch : Int), .int .i64 (seq : Int), .int .i64 (data.length : Int)] 3 :: H) (by ((simp only [headB, bytesV_append]; rfl))) ?_
  refine T_row_at 0 rfl (by omega) (fun b2 c2 hv h1 h2 => ?_)
  subst hv
  repeat' (first | (refine T_pure rfl rfl ?_; refine pw_slice_o rfl rfl rfl (by omega) (by omega) (by omega) (fun o' ho' => ?_); obtain rfl : o' = 1 := (by omega); refine T_nv ?_) | (refine T_ow rfl ?_; refine ow_callf arp ?_; refine sum_row_k 0 b2 c2 13 1 (headB epoch seq data.length) rfl (by rw [headB_length]) h1 (by omega) (by rw [headB_length]; omega) ?_; refine T_nv ?_))
  refine T_ow rfl ?_; refine ow_callf arp ?_; refine appendFour_k _ 13 (sumB ((headB epoch seq data.length).drop 1)) _ (by omega) (sumB_lt _) (fun v2 => ?_)
  refine T_nv ?_
  repeat' (first | (refine T_gen rfl rfl ?_; refine gw_append_sl 0 rfl rfl memt rfl rfl (by omega) (by omega) (fun v3 => ?_); refine T_nv ?_; refine T_hq ?_) | (refine T_ow rfl ?_; refine ow_callf arp ?_; refine sum_k _ _ data (by omega) memt ?_; refine T_nv ?_) | (apply TC_seq) | (apply TC_region) | (apply T_nil) | (apply En_then) | (refine T_pure rfl rfl ?_; ((first | refine pw_mv ?_ | refine pw_as ?_)); refine T_nv ?_))
  refine T_ow rfl ?_; refine ow_callf arp ?_; refine appendFour_k _ (13 + 4 + data.length) (sumB data) _ (by omega) (sumB_lt _) (fun v4 => ?_)
  refine T_nv ?_
  repeat' (first | (apply TC_ret) | (apply T_nil) | (apply En_then) | (refine T_pure rfl rfl ?_; ((refine pw_as ?_)); refine T_nv ?_))
  refine En_fin (.inl rfl) (res1 rfl (rv_tmp rfl)) (fin_K _ R (fun w hs => ?_) (k v4))
  have e : bytesV (headB epoch seq data.length) ++ bytesV (le4 (sumB ((headB epoch seq data.length).drop 1))) ++ bytesV data ++ bytesV (le4 (sumB data)) = bytesV (wholeB epoch seq data) := by simp only [wholeB, bytesV_append]
  have e2 : 13 + 4 + data.length + 4 = (wholeB epoch seq data).length := by rw [wholeB_length]; omega
  rw [e, e2] at hs
  exact hs.weaken sbp (fun _ h => h)
end Go.Proofs.Ytggdljhmbckpmaa
