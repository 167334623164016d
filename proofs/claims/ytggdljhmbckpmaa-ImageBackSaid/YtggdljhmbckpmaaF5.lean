/- Drives: NewDrive, right, and the search for what is not right: walks. -/
import Derived.Test.YtggdljhmbckpmaaF4
import Derived.Test.YtggdljhmbckpmaaAM
set_option linter.unusedVariables false
set_option linter.unusedSimpArgs false
namespace Go.Proofs.Ytggdljhmbckpmaa
open Go Go.RowKit
set_option maxRecDepth 100000
set_option maxHeartbeats 800000

abbrev dvR (A : Option Addr) (c : Nat) (A2 : Option Addr) (c2 : Nat) (d : Drive) (R : List MP) : List MP := Sl (.slice A d.bytes.length c) d.bytes :: Sl (.slice A2 d.pending.length c2) d.pending :: R
/-- A drive and an errno are returned, the drive for good. -/
def KD (K : Value → List Hp → List MP → Prop) (r : Drive × Int) (H : List Hp) (R : List MP) : Prop := ∀ A c A2 c2, K (.tuple #[dv A c A2 c2 r.1, .int .i64 r.2]) H (dvR A c A2 c2 r.1 R)
theorem KD_eq {K : Value → List Hp → List MP → Prop} {r r' : Drive × Int} {H : List Hp} {R : List MP} (e : r = r') (h : KD K r H R) : KD K r' H R := e ▸ h
theorem KD_none {w0 w : World} {H : List Hp} {R : List MP} (h : S w0 w H R) : S w0 w H (dvR none 0 none 0 ⟨[], []⟩ R) := (h.sl_nil DW).sl_nil UInt8

def newD (n : Int) : Drive × Int := if n < 64 ∨ 600000 < n ∨ n % 2 = 1 then (⟨[], []⟩, 1) else (⟨List.replicate n.toNat 0, []⟩, 0)
theorem bytesV_rep (n : Nat) : bytesV (List.replicate n 0) = List.replicate n (.int .u8 0) := by simp [bytesV, byteV]
theorem newDrive_k {w0 : World} {H : List Hp} {R : List MP} {K : Value → List Hp → List MP → Prop} (n : Int) (hI : InI n) (k : KD K (newD n) H R) : CallsK Try.prog w0 19 #[.int .i64 n] H R K := by
  unfold InI at hI
  refine calls_of Try.func19 rfl Try.ntmps19 nep ?_
  repeat' (first | (apply TC_seq) | (apply TC_region) | (apply TC_ret) | (apply TC_skip) | (apply TC_cond_true; exact rfl) | (apply TC_cond_false; exact rfl) | (apply T_nil) | (apply En_then) | (apply En_then_ret) | (apply T_bin; exact rfl; ((refine pw_rem rfl rfl (by omega) (by omega) ?_)); refine T_nv ?_) | (apply T_bin; exact rfl; ((first | refine pw_lss rfl rfl (fun h => ?_) (fun h => ?_) | refine pw_gtr rfl rfl (fun h => ?_) (fun h => ?_) | refine pw_eql rfl rfl (fun h => ?_) (fun h => ?_))) <;> (refine T_nv ?_)) | (apply T_store; exact rfl; ((refine gw_store (i := 0) rfl clp rfl (by rfl) (by simp) (by simp [Value.oneCell']) ?_)); refine T_nv ?_; refine T_hq ?_) | (refine T_pure rfl rfl ?_; ((first | refine pw_mv ?_ | refine pw_as ?_ | refine pw_pick_t rfl evp ?_ | refine pw_pick_f rfl evp ?_ | refine pw_build bldp ?_)); refine T_nv ?_) | (refine T_skipped rfl ?_; refine T_nv ?_) | (refine T_gen rfl rfl ?_; ((refine gw_alloc clp (fun b => ?_))); refine T_nv ?_))
  iterate 3
    · refine En_fin (.inl rfl) (res2 rfl (rv_cell (i := 0) rfl rfl rfl) (rv_tmp rfl)) (fin_K H _ (fun w hs => KD_none (hs.weaken (by simp) (fun _ h => h))) ?_)
      exact KD_eq (r' := (⟨[], []⟩, 1)) (by unfold newD; rw [if_pos (by omega)]) k none 0 none 0
  obtain ⟨m, rfl⟩ : ∃ m : Nat, n = m := ⟨n.toNat, by omega⟩
  refine T_gen rfl rfl ?_
  refine gw_make (n := m) rfl rfl (by omega) (by omega) (fun b' => ?_)
  refine T_nv ?_
  repeat' (first | (apply TC_ret) | (apply T_nil) | (apply En_then) | (apply T_store; exact rfl; ((refine gw_store (i := 1) rfl clp rfl (by rfl) (by simp) (by simp [Value.oneCell']) ?_)); refine T_nv ?_; refine T_hq ?_) | (refine T_pure rfl rfl ?_; ((first | refine pw_as ?_ | refine pw_build bldp ?_)); refine T_nv ?_))
  have k' := KD_eq (r' := (⟨List.replicate m 0, []⟩, 0)) (by unfold newD; rw [if_neg (by omega)]; simp) k (some ⟨b', 0, none⟩) m none 0
  simp only [dv, dvR, List.length_replicate, List.length_nil] at k'
  refine En_fin (.inl rfl) (res2 rfl (rv_cell (i := 1) rfl rfl rfl) (rv_tmp rfl)) (fin_K H _ (fun w hs => ?_) k')
  rw [← bytesV_rep] at hs
  have h2 := hs.bytes_stay (i := 0) (n := m) (c := m) rfl (by simp) (by omega) (by simp only [maxL]; omega)
  exact ((h2.sl_nil DW).weaken (by simp) (fun p hp => by
    simp only [List.mem_cons] at hp ⊢
    rcases hp with hp | hp | hp
    · exact .inr (.inl hp)
    · exact .inl hp
    · exact .inr (.inr hp)))

def rightB (n : Nat) (x : DO) : Bool := if x.kind = 1 then withinB x.at_ (x.data.length : Int) (n : Int) else if x.kind = 2 then decide (x.at_ = 0 ∧ x.data.length = 0) else false
abbrev opV (A : Option Addr) (c : Nat) (x : DO) : Value := .agg #[.int .i64 x.kind, .int .i64 x.at_, .slice A x.data.length c]
theorem right_k {w0 : World} {H : List Hp} {R : List MP} {K : Value → List Hp → List MP → Prop} (A : Option Addr) (c : Nat) (A2 : Option Addr) (c2 : Nat) (A3 : Option Addr) (c3 : Nat) (d : Drive) (x : DO) (hb : d.bytes.length ≤ 9223372036854775807) (hI : InI x.at_) (hl : x.data.length ≤ 9223372036854775807)
    (k : K (.bool (rightB d.bytes.length x)) H R) : CallsK Try.prog w0 56 #[dv A c A2 c2 d, opV A3 c3 x] H R K := by
  refine calls_of Try.func56 rfl Try.ntmps56 nep ?_
  repeat' (first | (refine T_ow rfl ?_; refine ow_callf arp ?_; refine within_k _ _ _ hI ⟨by omega, by omega⟩ ⟨by omega, by omega⟩ ?_; refine T_nv ?_) | (apply TC_seq) | (apply TC_region) | (apply TC_block) | (apply TC_ret) | (apply TC_skip) | (apply TC_cond_true; exact rfl) | (apply TC_cond_false; exact rfl) | (apply T_nil) | (apply En_then) | (apply En_then_ret) | (apply En_block) | (apply En_block_ret) | (apply T_load; exact rfl; ((first | refine pw_load (i := 0) rfl rfl rfl ?_ | refine pw_load (i := 1) rfl rfl rfl ?_)); refine T_nv ?_) | (apply T_bin; exact rfl; ((refine pw_eql rfl rfl (fun h => ?_) (fun h => ?_))) <;> (refine T_nv ?_)) | (refine T_pure rfl rfl ?_; ((first | refine pw_mv ?_ | refine pw_as ?_ | refine pw_pick_t rfl evp ?_ | refine pw_pick_f rfl evp ?_ | refine pw_fieldAddr rfl ?_ | refine pw_len rfl ?_)); refine T_nv ?_) | (refine T_skipped rfl ?_; refine T_nv ?_) | (refine T_gen rfl rfl ?_; ((refine gw_box clp (fun b => ?_))); refine T_nv ?_))
  all_goals
    refine En_fin (.inl rfl) (res1 rfl (rv_tmp rfl)) (fin_K H R (fun w hs => hs.weaken (by simp) (fun _ h => h)) ?_)
    refine K_bool ?_ k
    (first | simp [rightB, *]; done | (simp [rightB, *]; rw [← List.length_eq_zero_iff]; omega))
theorem do1_k {w0 : World} {H : List Hp} {R : List MP} {K : Value → List Hp → List MP → Prop} (i bd : Nat) (A : Option Addr) (c : Nat) (A2 : Option Addr) (c2 : Nat) (A3 : Option Addr) (c3 : Nat) (d : Drive) (x : DO) (hi : H[i]? = some (.blk bd [.slice A d.bytes.length c, .slice A2 d.pending.length c2] 45))
    (hb : d.bytes.length ≤ 9223372036854775807) (hI : InI x.at_) (hl : x.data.length ≤ 9223372036854775807)
    (k : K (.bool (!rightB d.bytes.length x)) H R) : CallsK Try.prog w0 55 #[opV A3 c3 x, .pointer (some ⟨bd, 0, none⟩)] H R K := by
  refine calls_of Try.func55 rfl Try.ntmps55 nep ?_
  repeat' (first | (refine T_pure rfl rfl ?_; refine pw_load (i := i + 1) rfl (by simpa using hi) rfl ?_; refine T_nv ?_) | (refine T_ow rfl ?_; refine ow_callf arp ?_; refine right_k _ _ _ _ _ _ d x hb hI hl ?_; refine T_nv ?_) | (apply TC_seq) | (apply TC_region) | (apply TC_ret) | (apply T_nil) | (apply En_then) | (apply T_load; exact rfl; ((refine pw_load (i := 0) rfl rfl rfl ?_)); refine T_nv ?_) | (refine T_pure rfl rfl ?_; ((first | refine pw_as ?_ | refine pw_not rfl ?_)); refine T_nv ?_) | (refine T_gen rfl rfl ?_; ((refine gw_box clp (fun b => ?_))); refine T_nv ?_))
  refine En_fin (.inl rfl) (res1 rfl (rv_tmp rfl)) (fin_K H R (fun w hs => hs.weaken (by simp) (fun _ h => h)) k)

theorem do1_k2 {w0 : World} {H : List Hp} {R : List MP} {K : Value → List Hp → List MP → Prop} (i bd : Nat) (A : Option Addr) (c : Nat) (A2 : Option Addr) (c2 : Nat) (A3 : Option Addr) (c3 : Nat) (d : Drive) (x : DO) (hi : H[i]? = some (.blk bd [.slice A d.bytes.length c, .slice A2 d.pending.length c2] 45))
    (hb : d.bytes.length ≤ 9223372036854775807) (hI : InI x.at_) (hl : x.data.length ≤ 9223372036854775807)
    (kt : rightB d.bytes.length x = false → K (.bool true) H R) (kf : rightB d.bytes.length x = true → K (.bool false) H R) : CallsK Try.prog w0 55 #[opV A3 c3 x, .pointer (some ⟨bd, 0, none⟩)] H R K := by
  refine do1_k i bd A c A2 c2 A3 c3 d x hi hb hI hl ?_
  cases h : rightB d.bytes.length x
  · exact kt h
  · exact kf h
/-- The place of the first operation that is not right. -/
def badAt (n : Nat) : List DO → Nat → Int
  | [], _ => -1
  | x :: l, i => if rightB n x then badAt n l (i + 1) else i
theorem badAt_nonneg (n : Nat) : ∀ (l : List DO) (i : Nat), decide (0 ≤ badAt n l i) = !l.all (rightB n)
  | [], i => by simp [badAt]
  | x :: l, i => by
    have ih := badAt_nonneg n l (i + 1)
    cases h : rightB n x <;> simp [badAt, h]
    simpa using ih
theorem index_k {w0 : World} {H : List Hp} {R : List MP} {K : Value → List Hp → List MP → Prop} (i bd : Nat) (A : Option Addr) (c : Nat) (A2 : Option Addr) (c2 : Nat) (A3 : Option Addr) (c3 : Nat) (d : Drive) (l : List DO) (hi : H[i]? = some (.blk bd [.slice A d.bytes.length c, .slice A2 d.pending.length c2] 45))
    (hb : d.bytes.length ≤ 9223372036854775807) (hll : l.length ≤ 9223372036854775807) (hm : Sl (.slice A3 l.length c3) l ∈ R)
    (k : K (.int .i64 (badAt d.bytes.length l 0)) H R) : CallsK Try.prog w0 102 #[.slice A3 l.length c3, .func (.func 55) #[] #[.pointer (some ⟨bd, 0, none⟩)]] H R K := by
  refine calls_of Try.func102 rfl Try.ntmps102 nep ?_
  repeat' (first | (apply TC_seq) | (apply TC_region) | (apply TC_block) | (apply T_nil) | (apply En_then) | (refine T_pure rfl rfl ?_; ((first | refine pw_mv ?_ | refine pw_as ?_ | refine pw_len rfl ?_)); refine T_nv ?_))
  refine TC_loopS [4, 5, 8, 9, 10, 11, 12, 13, 14, 15, 16, 17, 18] (fun m j H' R' => H = H' ∧ R = R' ∧ ∃ q : Nat, q + m = l.length ∧ j 8 = .int .i64 q ∧ badAt d.bytes.length l 0 = badAt d.bytes.length (l.drop q) q) l.length sjp ⟨rfl, rfl, 0, by omega, rfl, rfl⟩ ?_
  rintro m j H' R' ⟨hH, hR, q, hq, h8, hbad⟩
  subst hH; subst hR
  refine TC_env (by simp only [setJ, List.foldl_cons, List.foldl_nil, List.set_cons_succ, List.set_cons_zero, h8]; rfl) ?_
  have HB := Go.Lib.hid hbad
  clear hbad
  repeat' (first | (refine T_ow rfl ?_; refine ow_callv rfl arp ?_; refine do1_k2 i bd _ _ _ _ _ _ d _ hi hb hI2 hL (fun hB => ?_) (fun hB => ?_) <;> refine T_nv ?_) | (apply TC_seq) | (apply TC_region) | (apply TC_block) | (apply TC_ret) | (apply TC_skip) | (apply TC_exit) | (apply TC_cond_true; exact rfl) | (apply TC_cond_false; exact rfl) | (apply T_nil) | (apply En_then) | (apply En_then_ret) | (apply En_then_exit) | (apply En_block) | (apply En_block_ret) | (apply En_block_exit) | (apply T_load; exact rfl; ((refine pw_load_at0 rfl memr rfl ?_)); refine T_nv ?_) | (apply T_bin; exact rfl; ((refine pw_add64 rfl rfl (by omega) (by omega) ?_)); refine T_nv ?_) | (apply T_bin; exact rfl; ((refine pw_lss rfl rfl (fun h => ?_) (fun h => ?_))) <;> (refine T_nv ?_)) | (apply T_idx; exact rfl; ((refine pw_index_opN evp rfl memt (List.getElem?_eq_getElem (by omega)) (fun b o A c hI hI2 hL => ?_))); refine T_nv ?_) | (refine T_pure rfl rfl ?_; ((first | refine pw_mv ?_ | refine pw_as ?_)); refine T_nv ?_))
  · refine En_fin (.inl rfl) (res1 rfl (rv_tmp rfl)) (fin_K H R (fun w hs => hs.weaken (by simp) (fun p hp => by simp [hp])) ?_)
    refine K_int ?_ k
    rw [HB.out, List.drop_eq_getElem_cons (show q < l.length by omega), badAt, if_neg (by simp [hB])]
  · refine En_backS (m - 1) _ R (by omega) sjp ⟨rfl, rfl, q + 1, by omega, rfl, ?_⟩ (fun w hs => hs.weaken (by simp) (fun p hp => by simp [hp]))
    rw [HB.out, List.drop_eq_getElem_cons (show q < l.length by omega), badAt, if_pos hB]
  · refine En_fin (.inl rfl) (res1 rfl (rv_tmp rfl)) (fin_K H R (fun w hs => hs) ?_)
    refine K_int ?_ k
    rw [HB.out, List.drop_of_length_le (by omega)]; rfl
theorem contains_k {w0 : World} {H : List Hp} {R : List MP} {K : Value → List Hp → List MP → Prop} (i bd : Nat) (A : Option Addr) (c : Nat) (A2 : Option Addr) (c2 : Nat) (A3 : Option Addr) (c3 : Nat) (d : Drive) (l : List DO) (hi : H[i]? = some (.blk bd [.slice A d.bytes.length c, .slice A2 d.pending.length c2] 45))
    (hb : d.bytes.length ≤ 9223372036854775807) (hll : l.length ≤ 9223372036854775807) (hm : Sl (.slice A3 l.length c3) l ∈ R)
    (kt : l.all (rightB d.bytes.length) = false → K (.bool true) H R) (kf : l.all (rightB d.bytes.length) = true → K (.bool false) H R) : CallsK Try.prog w0 54 #[.slice A3 l.length c3, .func (.func 55) #[] #[.pointer (some ⟨bd, 0, none⟩)]] H R K := by
  have hbad := badAt_nonneg d.bytes.length l 0
  refine calls_of Try.func54 rfl Try.ntmps54 nep ?_
  repeat' (first | (refine T_ow rfl ?_; refine ow_callf arp ?_; refine index_k i bd _ _ _ _ _ _ d _ hi hb hll hm ?_; refine T_nv ?_) | (apply TC_seq) | (apply TC_region) | (apply TC_ret) | (apply T_nil) | (apply En_then) | (apply T_bin; exact rfl; ((refine pw_geq rfl rfl (fun h => ?_) (fun h => ?_))) <;> (refine T_nv ?_)) | (refine T_pure rfl rfl ?_; ((first | refine pw_mv ?_ | refine pw_as ?_)); refine T_nv ?_))
  · refine En_fin (.inl rfl) (res1 rfl (rv_tmp rfl)) (fin_K H R (fun w hs => hs) (kt ?_))
    rw [decide_eq_true (by omega)] at hbad
    simpa using hbad.symm
  · refine En_fin (.inl rfl) (res1 rfl (rv_tmp rfl)) (fin_K H R (fun w hs => hs) (kf ?_))
    rw [decide_eq_false (by omega)] at hbad
    simpa using hbad.symm
end Go.Proofs.Ytggdljhmbckpmaa
