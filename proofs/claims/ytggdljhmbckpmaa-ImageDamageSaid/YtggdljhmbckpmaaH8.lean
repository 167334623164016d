/- ImageDamage: walk. -/
import Derived.Test.YtggdljhmbckpmaaG2
import Derived.Test.YtggdljhmbckpmaaS2
import Derived.Test.YtggdljhmbckpmaaQ7
set_option linter.unusedVariables false
set_option linter.unusedSimpArgs false
namespace Go.Proofs.Ytggdljhmbckpmaa
open Go Go.RowKit
set_option maxRecDepth 100000
set_option maxHeartbeats 8000000

section
variable {w0 : World} {E : List Value} {H : List Hp} {R : List MP} {ty : TypeId} {K : Value → List MP → Prop}
theorem pw_index_arr {x ix : Operand} {b o : Nat} {k : IntKind} (i : Nat) (hx : ev E x = .pointer (some ⟨b, o, none⟩)) (hix : ev E ix = .int k (i : Int)) (hi : i < 3) (kk : K (.pointer (some ⟨b, o + i, none⟩)) R) : PW Try.prog w0 E (.indexAddr 81 x ix) ty H R K :=
  pw_val rfl (fun w _ => by
    rw [hx, hix, run_indexAt_array w 81 ⟨b, o, none⟩ k (i : Int) (by kernel_rfl)]
    have e1 : Try.prog.arrayLen 81 = 3 := by kernel_rfl
    have e2 : Try.prog.elem 81 = 80 := by kernel_rfl
    rw [e1, e2, if_pos (by omega), (ty80).size]
    simp only [Result.andThen_ok, Addr.add_mk, Int.toNat_natCast, Nat.mul_one]) kk
end
section
variable {P : Program} {w0 : World} {E : List Value} {H : List Hp} {R : List MP} {ty : TypeId} {K : Value → List MP → Prop}
theorem pw_remk {t t' : TypeId} {x y : Operand} {k : IntKind} {a b : Nat} (hx : ev E x = .int k (a : Int)) (hy : ev E y = .int k (b : Int)) (hb : 0 < b) (kk : K (.int k ((a % b : Nat) : Int)) R) : PW P w0 E (.binOp .rem t x y t') ty H R K :=
  pw_bin hx hy (fun w => by
    have h0 : ¬ (b : Int) = 0 := by omega
    have hb0 : ¬ b = 0 := by omega
    have h1 : (a : Int).tmod (b : Int) = ((a % b : Nat) : Int) := by rw [Int.tmod_eq_emod_of_nonneg (by omega)]; rfl
    simp [binOp, Op.intDiv, hb0, Int.tmod_eq_emod_of_nonneg (show (0 : Int) ≤ (a : Int) by omega)]) kk
end
theorem records_k' {w0 : World} {H : List Hp} {R : List MP} {K : Value → List Hp → List MP → Prop} (A0 : Option Addr) (m c0 : Nat) (A2 : Option Addr) (m2 c2 : Nat) (d : Drive) (e1 : m = d.bytes.length) (e2 : m2 = d.pending.length) (hb : d.bytes.length ≤ 9223372036854775807) (hp : d.pending.length ≤ 9223372036854775807)
    (hm : Sl (.slice A0 m c0) d.bytes ∈ R) (hm2 : Sl (.slice A2 m2 c2) d.pending ∈ R)
    (k : KR K (recordsD d) H R) : CallsK Try.prog w0 15 #[.agg #[.slice A0 m c0, .slice A2 m2 c2]] H R K := by
  subst e1 e2; exact records_k A0 c0 A2 c2 d hb hp hm hm2 k
theorem contents_k' {w0 : World} {H : List Hp} {R : List MP} {K : Value → List Hp → List MP → Prop} (A0 : Option Addr) (m c0 : Nat) (A2 : Option Addr) (m2 c2 : Nat) (d : Drive) (e1 : m = d.bytes.length) (e2 : m2 = d.pending.length) (hb : d.bytes.length ≤ 9223372036854775807) (hp : d.pending.length ≤ 9223372036854775807)
    (hm : Sl (.slice A0 m c0) d.bytes ∈ R) (hm2 : Sl (.slice A2 m2 c2) d.pending ∈ R)
    (k : KS K (contD d) H R) : CallsK Try.prog w0 30 #[.agg #[.slice A0 m c0, .slice A2 m2 c2]] H R K := by
  subst e1 e2; exact contents_k A0 c0 A2 c2 d hb hp hm hm2 k
theorem records_ok' {d : Drive} {lR : List RecD} (h : recordsD d = (lR, 0)) : checkD d = true ∧ lR = (curB (hasB d)).1.map Rc.toR := by
  unfold recordsD at h
  split at h
  · rename_i hc
    injection h with h1 h2
    exact ⟨hc, h1.symm⟩
  · injection h with _ h; cases h
/-- The byte behind the change. -/
def flip (c : UInt8) (s : Nat) : Nat := c.toNat ^^^ (1 * 2 ^ s % 2 ^ IntKind.bits .u8)
theorem flip_lt (c : UInt8) (s : Nat) : flip c s < 256 := Nat.xor_lt_two_pow (n := 8) c.toNat_lt (Nat.mod_lt _ (by decide))
theorem flip_ne (c : UInt8) {s : Nat} (hs : s < 8) : UInt8.ofNat (flip c s) ≠ c := fun h => by
  have h1 : (UInt8.ofNat (flip c s)).toNat = flip c s := by rw [UInt8.toNat_ofNat']; exact Nat.mod_eq_of_lt (flip_lt c s)
  rw [h] at h1
  unfold flip at h1
  have h2 := congrArg (c.toNat ^^^ ·) h1
  simp only [Nat.xor_self, ← Nat.xor_assoc, Nat.zero_xor] at h2
  have h3 : 1 * 2 ^ s % 2 ^ IntKind.bits .u8 = 2 ^ s := by
    rw [Nat.one_mul]; exact Nat.mod_eq_of_lt (Nat.pow_lt_pow_right (by decide) hs)
  rw [h3] at h2
  have := Nat.pow_pos (n := s) (show 0 < 2 by decide)
  omega
theorem flip_val (c : UInt8) (s : Nat) : Value.int .u8 ((c.toNat ^^^ (1 * 2 ^ s % 2 ^ IntKind.bits .u8) : Nat) : Int) = byteV (UInt8.ofNat (flip c s)) := by
  unfold byteV
  rw [UInt8.toNat_ofNat', Nat.mod_eq_of_lt (flip_lt c s)]; rfl

theorem damage_k {w0 : World} {H : List Hp} {R : List MP} {K : Value → List Hp → List MP → Prop} (A0 : Option Addr) (c0 : Nat) (A2 : Option Addr) (c2 : Nat) (d : Drive) (n0 n1 n2 : Nat) (hb : d.bytes.length ≤ 9223372036854775807) (hp : d.pending.length ≤ 9223372036854775807) (hn0 : n0 < 65536) (hn1 : n1 < 65536) (hn2 : n2 < 65536)
    (hm : Sl (.slice A0 d.bytes.length c0) d.bytes ∈ R) (hm2 : Sl (.slice A2 d.pending.length c2) d.pending ∈ R)
    (k : K (.bool true) H R) : CallsK Try.prog w0 7 #[dv A0 c0 A2 c2 d, .agg #[.int .u16 (n0 : Int), .int .u16 (n1 : Int), .int .u16 (n2 : Int)]] H R K := by
  obtain ⟨⟨lR, er⟩, hlr⟩ : ∃ r, recordsD d = r := ⟨_, rfl⟩
  obtain ⟨⟨bef, ok⟩, hbef⟩ : ∃ r, contD d = r := ⟨_, rfl⟩
  refine calls_of Try.func7 rfl Try.ntmps7 nep ?_
  repeat' (first | (refine T_gen rfl rfl ?_; refine gw_box clp (fun b3 => ?_); refine T_nv ?_) | (refine T_ow rfl ?_; refine ow_callf arp ?_; refine sane_k ?_; refine T_nv ?_) | (refine T_ow rfl ?_; refine ow_callf arp ?_; refine records_k _ _ _ _ d hb hp hm hm2 (KR_lit lR er hlr rfl (fun AR cR => ?_)); refine T_nv ?_) | (refine T_ow rfl ?_; refine ow_callf arp ?_; refine contents_k _ _ _ _ d hb hp memt memt (KS_lit bef ok hbef rfl (fun AB cB => ?_)); refine T_nv ?_) | (apply TC_seq) | (apply TC_region) | (apply TC_ret) | (apply TC_skip) | (apply TC_cond_true; exact rfl) | (apply TC_cond_false; exact rfl) | (apply T_nil) | (apply En_then) | (apply En_then_ret) | (apply T_load; exact rfl; ((refine pw_load (i := 1) rfl rfl rfl ?_)); refine T_nv ?_) | (apply T_bin; exact rfl; ((first | refine pw_gtr rfl rfl (fun h => ?_) (fun h => ?_) | refine pw_eql rfl rfl (fun h => ?_) (fun h => ?_) | refine pw_neq rfl rfl (fun h => ?_) (fun h => ?_))) <;> (refine T_nv ?_)) | (refine T_pure rfl rfl ?_; ((first | refine pw_mv ?_ | refine pw_as ?_ | refine pw_pick_t rfl evp ?_ | refine pw_pick_f rfl evp ?_ | refine pw_fieldAddr rfl ?_ | refine pw_len rfl ?_ | refine pw_extract rfl rfl ?_ | refine pw_not rfl ?_)); refine T_nv ?_) | (refine T_skipped rfl ?_; refine T_nv ?_))
  all_goals (first | exact En_fin (.inl rfl) (res1 rfl (rv_tmp rfl)) (fin_K H R (fun w hs => hs.weaken sbp kpp) k) | skip)
  rename_i bD g1 g2 g3
  have hf : er = 0 := by omega
  subst hf
  have hbare : d.pending = [] := List.eq_nil_of_length_eq_zero (by omega)
  obtain ⟨hc, hlR⟩ := records_ok' hlr
  rw [hasB_bare hbare] at hlR
  obtain ⟨⟨l, half⟩, hcur⟩ : ∃ r, curB d.bytes = r := ⟨_, rfl⟩
  rw [hcur] at hlR
  simp only at hlR
  have hll : lR.length = l.length := by rw [hlR]; simp
  have hb2 : (bef, ok) = (l.map Rc.data, true) := by
    rw [← hbef]
    unfold contD
    rw [if_pos hc, hasB_bare hbare, hcur]
  injection hb2 with hb2 hok2
  subst hok2
  obtain ⟨size, hsz⟩ : ∃ size, d.bytes.length = 2 * size := ⟨d.bytes.length / 2, by have := (checkD_spec hc).2.2.1; omega⟩
  have h64 := (checkD_spec hc).1
  have hl6 : l.length ≤ 600000 := by have := curB_len (b := d.bytes) (by omega); rw [hcur] at this; exact this
  have hbl : bef.length = l.length := by rw [hb2, List.length_map]
  repeat' (first | (refine T_pure rfl rfl ?_; refine pw_index_arr 0 rfl rfl (by decide) ?_; refine T_nv ?_) | (refine T_pure rfl rfl ?_; refine pw_convi (a := n0) rfl (by omega) ?_; refine T_nv ?_) | (refine T_pure rfl rfl ?_; refine pw_remN (a := n0) (m := lR.length) rfl rfl (by omega) (fun kx _ hkx => ?_); refine T_nv ?_) | (refine T_gen rfl rfl ?_; refine gw_build0 rfl (by decide) (fun bz => ?_); refine T_nv ?_) | (refine T_gen rfl rfl ?_; refine gw_append_sl (xs := d.bytes) 0 rfl rfl memt rfl rfl (by omega) (by omega) (fun v => ?_); refine T_nv ?_; refine T_hq ?_) | (apply TC_seq) | (apply TC_region) | (apply TC_skip) | (apply TC_cond_false; exact rfl) | (apply T_nil) | (apply En_then) | (apply T_load; exact rfl; ((first | refine pw_load (i := 0) rfl rfl rfl ?_ | refine pw_load (i := 2) rfl rfl rfl ?_)); refine T_nv ?_) | (refine T_pure rfl rfl ?_; ((first | refine pw_mv ?_ | refine pw_as ?_ | refine pw_fieldAddr rfl ?_ | refine pw_len rfl ?_)); refine T_nv ?_))
  refine TC_unrow 0 rfl (by omega) (fun b7 cap sp hv hl1 hl2 hcap hcapm => ?_)
  subst hv
  refine TC_hp hpp ?_
  obtain ⟨r, hr⟩ : ∃ r, l[kx]? = some r := ⟨l[kx]'(by omega), List.getElem?_eq_getElem (by omega)⟩
  obtain ⟨q1, q2, q3, q4, q5, q6, q7, q8⟩ := cur_rec hsz (by omega) hcur kx r hr
  refine TC_weaken (.blk b7 (bytesV d.bytes ++ sp) 5 :: .blk b3 [.int .u16 (n0 : Int), .int .u16 (n1 : Int), .int .u16 (n2 : Int)] 81 :: .blk bD [.slice A0 d.bytes.length c0, .slice A2 d.pending.length c2] 45 :: H) (Sl (.slice AB bef.length cB) (bef.map strV) :: Sl (.slice AR lR.length cR) lR :: R) (fun w hs => hs.weaken sbp kpp) ?_
  refine TC_draw mixed (by decide +kernel) (fun _ _ _ _ _ _ h => h) (List.Sublist.refl _) ?_
  all_goals ((refine TA_p 0 ?_; ((refine pw_mv ?_)); refine TA_nv ?_))
  all_goals ((refine TA_p 1 ?_; ((refine pw_mv ?_)); refine TA_nv ?_))
  all_goals ((refine TA_p 2 ?_; ((refine pw_index_rL (v := .slice AR lR.length cR) kx rfl rfl memt hlR hr rfl (fun b o => ?_))); refine TA_nv ?_))
  all_goals ((refine TA_p 3 ?_; ((refine pw_fieldAddr rfl ?_)); refine TA_nv ?_))
  all_goals ((refine TA_p 4 ?_; ((refine pw_load_at rfl memr rfl ?_)); refine TA_nv ?_))
  all_goals ((refine TA_p 5 ?_; ((refine pw_index_arr 1 rfl rfl (by decide) ?_)); refine TA_nv ?_))
  all_goals ((refine TA_p 6 ?_; ((refine pw_load (i := 1) rfl rfl rfl ?_)); refine TA_nv ?_))
  all_goals ((refine TA_p 7 ?_; ((refine pw_convi (a := n1) rfl (by omega) ?_)); refine TA_nv ?_))
  all_goals ((refine TA_p 8 ?_; ((refine pw_mv ?_)); refine TA_nv ?_))
  all_goals ((refine TA_p 9 ?_; ((refine pw_mv ?_)); refine TA_nv ?_))
  all_goals ((refine TA_p 10 ?_; ((refine pw_index_rL (v := .slice AR lR.length cR) kx rfl rfl memt hlR hr rfl (fun b o => ?_))); refine TA_nv ?_))
  all_goals ((refine TA_p 11 ?_; ((refine pw_fieldAddr rfl ?_)); refine TA_nv ?_))
  all_goals ((refine TA_p 12 ?_; ((refine pw_load_at rfl memr rfl ?_)); refine TA_nv ?_))
  all_goals ((refine TA_p 13 ?_; ((refine pw_add64 rfl rfl (by omega) (by omega) ?_)); refine TA_nv ?_))
  all_goals ((refine TA_p 14 ?_; ((refine pw_remN (a := n1) (m := 21 + r.data.length) rfl rfl (by omega) (fun jx _ hjx => ?_))); refine TA_nv ?_))
  all_goals ((refine TA_p 15 ?_; ((refine pw_add64 rfl rfl (by omega) (by omega) ?_)); refine TA_nv ?_))
  all_goals ((refine TA_p 16 ?_; ((refine pw_as ?_)); refine TA_nv ?_))
  all_goals refine TA_d ?_
  have hq : r.at_ + jx < d.bytes.length := by omega
  obtain ⟨c, hcv⟩ : ∃ c, d.bytes[r.at_ + jx] = c := ⟨_, rfl⟩
  have hcell : cellsVal false 1 (bytesV d.bytes ++ sp) (0 + ((r.at_ : Int) + (jx : Int)).toNat * 1) = some (byteV c) := by
    simp only [cellsVal]
    rw [show 0 + ((r.at_ : Int) + (jx : Int)).toNat * 1 = r.at_ + jx by omega, List.getElem?_append_left (by simp; omega)]
    simp [bytesV, List.getElem?_eq_getElem hq, hcv]
  apply En_then
  apply TC_seq
  refine TC_draw mixed (by decide +kernel) (fun _ _ _ _ _ _ h => h) (List.Sublist.refl _) ?_
  all_goals ((refine TA_p 0 ?_; ((refine pw_mv ?_)); refine TA_nv ?_))
  all_goals ((refine TA_p 1 ?_; ((refine pw_mv ?_)); refine TA_nv ?_))
  all_goals ((refine TA_p 2 ?_; ((refine pw_mv ?_)); refine TA_nv ?_))
  all_goals ((refine TA_p 3 ?_; ((refine pw_mv ?_)); refine TA_nv ?_))
  all_goals ((refine TA_p 4 ?_; ((refine pw_index_o rfl rfl (by omega) (by omega) ?_)); refine TA_nv ?_))
  all_goals ((refine TA_p 5 ?_; ((refine pw_load (i := 0) rfl rfl hcell ?_)); refine TA_nv ?_))
  all_goals ((refine TA_p 6 ?_; ((refine pw_index_arr 2 rfl rfl (by decide) ?_)); refine TA_nv ?_))
  all_goals ((refine TA_p 7 ?_; ((refine pw_load (i := 1) rfl rfl rfl ?_)); refine TA_nv ?_))
  all_goals ((refine TA_p 8 ?_; ((refine pw_remk (a := n2) (b := 8) rfl rfl (by decide) ?_)); refine TA_nv ?_))
  all_goals ((refine TA_p 9 ?_; ((refine pw_shl (a := 1) (n := n2 % 8) (k := .u8) rfl rfl rfl (show n2 % 8 ≤ 8 by omega) ?_)); refine TA_nv ?_))
  all_goals ((refine TA_p 10 ?_; ((refine pw_xor (a := c.toNat) (k := .u8) rfl rfl rfl c.toNat_lt (Nat.mod_lt _ (by decide)) ?_)); refine TA_nv ?_))
  all_goals ((refine TA_p 11 ?_; ((refine pw_index_o rfl rfl (by omega) (by omega) ?_)); refine TA_nv ?_))
  -- left: [12]; ready: [12]: ['store']
  refine TA_g 12 ?_
  refine gw_store (i := 0) rfl clp rfl (by rfl) (by simp; omega) (by simp [Value.oneCell']) ?_
  refine ⟨.inr (by decide +kernel), ?_⟩
  refine TA_nv ?_
  refine TA_d ?_
  apply En_then
  obtain ⟨b', hb'⟩ : ∃ b', spl d.bytes (r.at_ + jx) [UInt8.ofNat (flip c (n2 % 8))] = b' := ⟨_, rfl⟩
  have hb'l : b'.length = d.bytes.length := by rw [← hb']; exact spl_length _ _ _ (by simp; omega)
  have hget : ∀ i, b'[i]? = if i < r.at_ + jx then d.bytes[i]? else if i < r.at_ + jx + 1 then ([UInt8.ofNat (flip c (n2 % 8))] : List UInt8)[i - (r.at_ + jx)]? else d.bytes[i]? := fun i => by
    rw [← hb', spl_get _ _ _ _ (by simp; omega)]; rfl
  have hag : ∀ i, i ≠ r.at_ + jx → b'[i]? = d.bytes[i]? := fun i hi => by
    rw [hget]
    by_cases c1 : i < r.at_ + jx
    · rw [if_pos c1]
    · rw [if_neg c1, if_neg (by omega)]
  have hne : b'.getD (r.at_ + jx) 0 ≠ d.bytes.getD (r.at_ + jx) 0 := by
    simp only [List.getD, hget, List.getElem?_eq_getElem hq, hcv]
    rw [if_neg (by omega), if_pos (by omega), Nat.sub_self]
    exact flip_ne c (by omega)
  refine TC_weaken (.blk b3 [.int .u16 (n0 : Int), .int .u16 (n1 : Int), .int .u16 (n2 : Int)] 81 :: .blk bD [.slice A0 d.bytes.length c0, .slice A2 d.pending.length c2] 45 :: H) (Sl (.slice (some ⟨b7, 0, none⟩) d.bytes.length cap) b' :: Sl (.slice none 0 0) ([] : List DW) :: Sl (.slice AB bef.length cB) (bef.map strV) :: Sl (.slice AR lR.length cR) lR :: R) (fun w hs => ?_) ?_
  · have hs' : S w0 w (.blk b7 (overlay (bytesV d.bytes ++ sp) (0 + ((r.at_ : Int) + (jx : Int)).toNat * 1) [Value.int .u8 ((c.toNat ^^^ (1 * 2 ^ (n2 % 8) % 2 ^ IntKind.bits .u8) : Nat) : Int)]) 5 :: .blk b3 [.int .u16 (n0 : Int), .int .u16 (n1 : Int), .int .u16 (n2 : Int)] 81 :: .blk bD [.slice A0 d.bytes.length c0, .slice A2 d.pending.length c2] 45 :: H) (Sl (.slice AB bef.length cB) (bef.map strV) :: Sl (.slice AR lR.length cR) lR :: R) := hs.weaken (List.Sublist.refl _) kpp
    have e : overlay (bytesV d.bytes ++ sp) (0 + ((r.at_ : Int) + (jx : Int)).toNat * 1) [Value.int .u8 ((c.toNat ^^^ (1 * 2 ^ (n2 % 8) % 2 ^ IntKind.bits .u8) : Nat) : Int)] = bytesV b' ++ sp := by
      rw [flip_val, show 0 + ((r.at_ : Int) + (jx : Int)).toNat * 1 = r.at_ + jx by omega, ← hb']
      exact overlay_bytes d.bytes (r.at_ + jx) [UInt8.ofNat (flip c (n2 % 8))] sp (by simp; omega)
    rw [e] at hs'
    have h2 := (hs'.learn (Cx (bytesV b') b') (fun s _ => Cx_bytes _ s)).blk_stays (i := 0) (n := d.bytes.length) (c := cap) rfl memt hb'l.symm hcap (by simp only [maxL]; simp only [maxLen] at hcapm; omega)
    exact (h2.sl_nil DW).weaken sbp (sub_cons (by simp) (sub_cons (by simp) (fun p hp => by simp only [List.mem_cons] at hp ⊢; rcases hp with hp | hp | hp <;> simp [hp])))
  have hc' : checkD ⟨b', []⟩ = true := checkD_bare hc hb'l
  obtain ⟨⟨ml, hf'⟩, hcur'⟩ : ∃ x, curB b' = x := ⟨_, rfl⟩
  have hrec' : recordsD ⟨b', []⟩ = (ml.map Rc.toR, 0) := by unfold recordsD; rw [if_pos hc', hasB_bare rfl, hcur']
  have hcon' : contD ⟨b', []⟩ = (ml.map Rc.data, true) := by unfold contD; rw [if_pos hc', hasB_bare rfl, hcur']
  obtain ⟨hT1, _⟩ := cur_turned hsz (by omega) hcur hr (q := r.at_ + jx) (by omega) (by omega) hb'l hag hne
  obtain ⟨aft, haf⟩ : ∃ aft, ml.map Rc.data = aft := ⟨_, rfl⟩
  obtain ⟨mR, hmR⟩ : ∃ mR, ml.map Rc.toR = mR := ⟨_, rfl⟩
  rw [haf] at hcon'
  rw [hmR] at hrec'
  have hml6 : ml.length ≤ 600000 := by have := curB_len (b := b') (by omega); rw [hcur'] at this; exact this
  have hmrl : mR.length = ml.length := by rw [← hmR]; simp
  have hal : aft.length ≤ 9223372036854775806 := by rw [← haf, List.length_map]; omega
  have haft : 0 < kx → aft = bef.take kx := fun h => by
    have := hT1 h
    rw [hcur'] at this
    injection this with this _
    rw [← haf, this, hb2, List.map_take]
  have hno : kx = 0 → ∀ (i : Nat) (rr rl : Rc), ml[i]? = some rr → l[l.length - 1]? = some rl → ¬ (r.at_ ≤ rr.at_ ∧ rr.at_ < rl.at_ + 21 + rl.data.length) := fun h i rr rl h1 h2 => by
    subst h
    exact cur_turned0 hsz (by omega) hcur hr (q := r.at_ + jx) (by omega) (by omega) hb'l hag hne i rr rl (by rw [hcur']; exact h1) h2
  have HN := Go.Lib.hid hno
  obtain ⟨rl, hrl⟩ : ∃ rl, l[l.length - 1]? = some rl := ⟨l[l.length - 1]'(by omega), List.getElem?_eq_getElem (by omega)⟩
  obtain ⟨t1, t2, t3, t4, t5, t6, t7, t8⟩ := cur_rec hsz (by omega) hcur _ rl hrl
  have HA := Go.Lib.hid haft
  clear hno t7 t8 t4 t1
  clear hT1 haft hget hag hne hcell
  repeat' (first | (refine T_ow rfl ?_; refine ow_callf arp ?_; refine records_k' _ _ _ _ _ _ ⟨b', []⟩ hb'l.symm rfl (by simp only; omega) (Nat.zero_le _) memt memt (KR_lit mR 0 hrec' hmrl (fun AM cM => ?_)); refine T_nv ?_) | (refine T_ow rfl ?_; refine ow_callf arp ?_; refine contents_k' _ _ _ _ _ _ ⟨b', []⟩ hb'l.symm rfl (by simp only; omega) (Nat.zero_le _) memt memt (KS_lit aft true hcon' rfl (fun AF cF => ?_)); refine T_nv ?_) | (refine T_pure rfl rfl ?_; refine pw_take (xs := bef.map strV) (m := kx) rfl memt (List.length_map _).symm rfl rfl (by rw [List.length_map]; omega) (fun AT cT => ?_); rw [← List.map_take]; refine T_nv ?_) | (refine T_ow rfl ?_; refine ow_callf arp ?_; refine same_k _ _ _ _ _ _ aft (bef.take kx) hal rfl (by rw [List.length_take]; omega) memt memt (fun _ => ?_) (fun hh => absurd (HA.out (by omega)) hh); refine T_nv ?_) | (apply TC_seq) | (apply TC_region) | (apply TC_block) | (apply TC_ret) | (apply TC_skip) | (apply TC_cond_true; exact rfl) | (apply TC_cond_false; exact rfl) | (apply T_nil) | (apply En_then) | (apply En_then_ret) | (apply T_bin; exact rfl; ((first | refine pw_gtr rfl rfl (fun h => ?_) (fun h => ?_) | refine pw_neq rfl rfl (fun h => ?_) (fun h => ?_))) <;> (first | (exfalso; omega) | refine T_nv ?_)) | (refine T_pure rfl rfl ?_; ((first | refine pw_mv ?_ | refine pw_as ?_ | refine pw_pick_t rfl evp ?_ | refine pw_pick_f rfl evp ?_ | refine pw_extract rfl rfl ?_ | refine pw_not rfl ?_ | refine pw_build bldp ?_)); refine T_nv ?_))
  all_goals (first | exact En_fin (.inl rfl) (res1 rfl (rv_tmp rfl)) (fin_K H R (fun w hs => hs.weaken sbp kpp) k) | skip)
  have hk0 : kx = 0 := by omega
  have hr0 : l[0]? = some r := by rw [← hk0]; exact hr
  have hN := HN.out hk0
  clear HN HA
  refine TC_weaken H (Sl (.slice AM ml.length cM) mR :: Sl (.slice AR lR.length cR) lR :: R) (fun w hs => hs.weaken sbp kpp) ?_
  refine TC_loopS [4, 17, 117, 118, 119, 120, 121, 122, 123, 124, 125, 126, 127, 128, 129, 130, 131, 132, 133, 134, 135, 136, 137, 138, 139, 140, 141, 142, 143, 144, 145, 146, 147, 148, 149, 150, 151, 152, 153, 154, 155, 156] (fun m j H' R' => H = H' ∧ Sl (.slice AM ml.length cM) mR :: Sl (.slice AR lR.length cR) lR :: R = R' ∧ ∃ i : Nat, i + m = ml.length ∧ j 17 = .int .i64 (i : Int)) ml.length sjp ⟨rfl, rfl, 0, by omega, rfl⟩ ?_
  rintro m j H' R' ⟨hH, hR, i, hi, h17⟩
  subst hH hR
  refine TC_env (by simp only [setJ, List.foldl_cons, List.foldl_nil, List.set_cons_succ, List.set_cons_zero, h17]; rfl) ?_
  by_cases hil : i < ml.length
  · obtain ⟨rr, hrr⟩ : ∃ rr, ml[i]? = some rr := ⟨ml[i]'hil, List.getElem?_eq_getElem hil⟩
    have hNo := hN i rr rl hrr hrl
    clear hN
    repeat' (first | (apply TC_seq) | (apply TC_region) | (apply TC_block) | (apply TC_skip) | (apply TC_cond_true; exact rfl) | (apply T_nil) | (apply En_then) | (apply T_bin; exact rfl; ((refine pw_lss rfl rfl (fun h => ?_) (fun h => ?_))) <;> (first | (exfalso; omega) | refine T_nv ?_)) | (refine T_pure rfl rfl ?_; ((first | refine pw_mv ?_ | refine pw_len rfl ?_)); refine T_nv ?_))
    refine TC_draw mixed (by decide +kernel) (fun _ _ _ _ _ _ h => h) (List.Sublist.refl _) ?_
    all_goals ((refine TA_p 0 ?_; ((refine pw_mv ?_)); refine TA_nv ?_))
    all_goals ((refine TA_p 1 ?_; ((refine pw_mv ?_)); refine TA_nv ?_))
    all_goals ((refine TA_p 2 ?_; ((refine pw_index_rL (v := .slice AM ml.length cM) i rfl rfl memt hmR.symm hrr rfl (fun b o => ?_))); refine TA_nv ?_))
    all_goals ((refine TA_p 3 ?_; ((refine pw_fieldAddr rfl ?_)); refine TA_nv ?_))
    all_goals ((refine TA_p 4 ?_; ((refine pw_load_at rfl memr rfl ?_)); refine TA_nv ?_))
    all_goals ((refine TA_p 5 ?_; ((refine pw_mv ?_)); refine TA_nv ?_))
    all_goals ((refine TA_p 6 ?_; ((refine pw_index_rL (v := .slice AR lR.length cR) 0 rfl rfl memt hlR hr0 rfl (fun b o => ?_))); refine TA_nv ?_))
    all_goals ((refine TA_p 7 ?_; ((refine pw_fieldAddr rfl ?_)); refine TA_nv ?_))
    all_goals ((refine TA_p 8 ?_; ((refine pw_load_at rfl memr rfl ?_)); refine TA_nv ?_))
    all_goals ((refine TA_p 9 ?_; ((refine pw_geq rfl rfl (fun h => ?_) (fun h => ?_))) <;> (refine TA_nv ?_)))
    all_goals ((refine TA_p 10 ?_; ((refine pw_mv ?_)); refine TA_nv ?_))
    all_goals (first | (refine TA_p 11 ?_; ((refine pw_mv ?_)); refine TA_nv ?_) | (refine TA_ks 11 (List.Sublist.refl _) ?_))
    all_goals (first | (refine TA_p 12 ?_; ((refine pw_mv ?_)); refine TA_nv ?_) | (refine TA_ks 12 (List.Sublist.refl _) ?_))
    all_goals (first | (refine TA_p 13 ?_; ((refine pw_index_rL (v := .slice AM ml.length cM) i rfl rfl memt hmR.symm hrr rfl (fun b o => ?_))); refine TA_nv ?_) | (refine TA_ks 13 (List.Sublist.refl _) ?_))
    all_goals (first | (refine TA_p 14 ?_; ((refine pw_fieldAddr rfl ?_)); refine TA_nv ?_) | (refine TA_ks 14 (List.Sublist.refl _) ?_))
    all_goals (first | (refine TA_p 15 ?_; ((refine pw_load_at rfl memr rfl ?_)); refine TA_nv ?_) | (refine TA_ks 15 (List.Sublist.refl _) ?_))
    all_goals (first | (refine TA_p 16 ?_; ((refine pw_mv ?_)); refine TA_nv ?_) | (refine TA_ks 16 (List.Sublist.refl _) ?_))
    all_goals (first | (refine TA_p 17 ?_; ((refine pw_mv ?_)); refine TA_nv ?_) | (refine TA_ks 17 (List.Sublist.refl _) ?_))
    all_goals (first | (refine TA_p 18 ?_; ((refine pw_len rfl ?_)); refine TA_nv ?_) | (refine TA_ks 18 (List.Sublist.refl _) ?_))
    all_goals (first | (refine TA_p 19 ?_; ((refine pw_sub64 rfl rfl (by omega) (by omega) ?_)); refine TA_nv ?_) | (refine TA_ks 19 (List.Sublist.refl _) ?_))
    all_goals (first | (refine TA_p 20 ?_; ((refine pw_index_rL (v := .slice AR lR.length cR) (l.length - 1) rfl rfl memt hlR hrl (by omega) (fun b o => ?_))); refine TA_nv ?_) | (refine TA_ks 20 (List.Sublist.refl _) ?_))
    all_goals (first | (refine TA_p 21 ?_; ((refine pw_fieldAddr rfl ?_)); refine TA_nv ?_) | (refine TA_ks 21 (List.Sublist.refl _) ?_))
    all_goals (first | (refine TA_p 22 ?_; ((refine pw_load_at rfl memr rfl ?_)); refine TA_nv ?_) | (refine TA_ks 22 (List.Sublist.refl _) ?_))
    all_goals (first | (refine TA_p 23 ?_; ((refine pw_add64 rfl rfl (by omega) (by omega) ?_)); refine TA_nv ?_) | (refine TA_ks 23 (List.Sublist.refl _) ?_))
    all_goals (first | (refine TA_p 24 ?_; ((refine pw_mv ?_)); refine TA_nv ?_) | (refine TA_ks 24 (List.Sublist.refl _) ?_))
    all_goals (first | (refine TA_p 25 ?_; ((refine pw_mv ?_)); refine TA_nv ?_) | (refine TA_ks 25 (List.Sublist.refl _) ?_))
    all_goals (first | (refine TA_p 26 ?_; ((refine pw_len rfl ?_)); refine TA_nv ?_) | (refine TA_ks 26 (List.Sublist.refl _) ?_))
    all_goals (first | (refine TA_p 27 ?_; ((refine pw_sub64 rfl rfl (by omega) (by omega) ?_)); refine TA_nv ?_) | (refine TA_ks 27 (List.Sublist.refl _) ?_))
    all_goals (first | (refine TA_p 28 ?_; ((refine pw_index_rL (v := .slice AR lR.length cR) (l.length - 1) rfl rfl memt hlR hrl (by omega) (fun b o => ?_))); refine TA_nv ?_) | (refine TA_ks 28 (List.Sublist.refl _) ?_))
    all_goals (first | (refine TA_p 29 ?_; ((refine pw_fieldAddr rfl ?_)); refine TA_nv ?_) | (refine TA_ks 29 (List.Sublist.refl _) ?_))
    all_goals (first | (refine TA_p 30 ?_; ((refine pw_load_at rfl memr rfl ?_)); refine TA_nv ?_) | (refine TA_ks 30 (List.Sublist.refl _) ?_))
    all_goals (first | (refine TA_p 31 ?_; ((refine pw_add64 rfl rfl (by omega) (by omega) ?_)); refine TA_nv ?_) | (refine TA_ks 31 (List.Sublist.refl _) ?_))
    all_goals (first | (refine TA_p 32 ?_; ((refine pw_lss rfl rfl (fun h => ?_) (fun h => ?_))) <;> (first | (exfalso; omega) | refine TA_nv ?_)) | (refine TA_ks 32 (List.Sublist.refl _) ?_))
    all_goals ((refine TA_p 33 ?_; ((first | refine pw_pick_t rfl evp ?_ | refine pw_pick_f rfl evp ?_)); refine TA_nv ?_))
    all_goals refine TA_d ?_
    repeat' (first | (apply TC_region) | (apply TC_skip) | (apply TC_cond_false; exact rfl) | (apply T_nil) | (apply En_then) | (apply En_block) | (apply T_bin; exact rfl; ((refine pw_add64 rfl rfl (by omega) (by omega) ?_)); refine T_nv ?_) | (refine T_pure rfl rfl ?_; ((first | refine pw_mv ?_ | refine pw_as ?_)); refine T_nv ?_))
    all_goals refine En_backS (m - 1) H (Sl (.slice AM ml.length cM) mR :: Sl (.slice AR lR.length cR) lR :: R) (by omega) sjp ⟨rfl, rfl, i + 1, by omega, rfl⟩ (fun w hs => hs.weaken sbp kpp)
  · skip
    repeat' (first | (apply TC_seq) | (apply TC_region) | (apply TC_ret) | (apply TC_exit) | (apply TC_cond_false; exact rfl) | (apply T_nil) | (apply En_then) | (apply En_then_exit) | (apply En_block_exit) | (apply T_bin; exact rfl; ((refine pw_lss rfl rfl (fun h => ?_) (fun h => ?_))) <;> (first | (exfalso; omega) | refine T_nv ?_)) | (refine T_pure rfl rfl ?_; ((first | refine pw_mv ?_ | refine pw_as ?_ | refine pw_len rfl ?_)); refine T_nv ?_))
    exact En_fin (.inl rfl) (res1 rfl (rv_tmp rfl)) (fin_K H R (fun w hs => hs.weaken sbp kpp) k)
end Go.Proofs.Ytggdljhmbckpmaa
