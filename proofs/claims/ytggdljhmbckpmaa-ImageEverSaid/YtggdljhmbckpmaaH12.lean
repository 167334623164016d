/- ImageEver: walk. -/
import Derived.Test.YtggdljhmbckpmaaQEJ
import Derived.Test.YtggdljhmbckpmaaG2
import Derived.Test.YtggdljhmbckpmaaA18J
import Derived.Test.YtggdljhmbckpmaaH9J
import Derived.Test.YtggdljhmbckpmaaH11
set_option linter.unusedVariables false
set_option linter.unusedSimpArgs false
namespace Go.Proofs.Ytggdljhmbckpmaa
open Go Go.RowKit
set_option maxRecDepth 100000
set_option maxHeartbeats 8000000

theorem do_k' {w0 : World} {H : List Hp} {R : List MP} {K : Value → List Hp → List MP → Prop} (A0 : Option Addr) (c0 : Nat) (A2 : Option Addr) (c2 : Nat) (A3 : Option Addr) (m c3 : Nat) (d : Drive) (l : List DO) (hml : m = l.length) (hb : d.bytes.length ≤ 9223372036854775807) (hp : d.pending.length ≤ 9223372036854775807) (hll : l.length ≤ 9223372036854775807)
    (hm : Sl (.slice A0 d.bytes.length c0) d.bytes ∈ R) (hm2 : Sl (.slice A2 d.pending.length c2) d.pending ∈ R) (hm3 : Sl (.slice A3 m c3) l ∈ R)
    (k : KD K (doD d l) H R) : CallsK Try.prog w0 21 #[dv A0 c0 A2 c2 d, .slice A3 m c3] H R K := by
  subst hml; exact do_k A0 c0 A2 c2 A3 c3 d l hb hp hll hm hm2 hm3 k
theorem ever_k {w0 : World} {H : List Hp} {R : List MP} {K : Value → List Hp → List MP → Prop} (size : Nat) (hsz : size < 65536) (A1 : Option Addr) (c1 : Nat) (ms : List MaD) (A2 : Option Addr) (c2 : Nat) (fs : List (UInt8 × List Int)) (hml : ms.length ≤ 9223372036854775806) (hfl : fs.length ≤ 9223372036854775807)
    (hme : El A1 ms R) (hvd : ∀ (i : Nat) (d : MaD), ms[i]? = some d → Cod.Vd (α := MaD) d) (hfe : El A2 fs R)
    (k : K (.bool true) H R) : CallsK Try.prog w0 9 #[.int .u16 (size : Int), .slice A1 ms.length c1, .slice A2 fs.length c2] H R K := by
  refine calls_of Try.func9 rfl Try.ntmps9 nep ?_
  repeat' first
    | (refine T_ow rfl ?_; refine ow_callf arp ?_; refine sane_k ?_; refine T_nv ?_)
    | (refine T_pure rfl rfl ?_; refine pw_convi (a := size) rfl (by omega) ?_; refine T_nv ?_)
    | (refine T_pure rfl rfl ?_; refine pw_remN (a := size) (m := 10000) rfl rfl (by omega) (fun r _ hr => ?_); refine T_nv ?_)
    | (apply T_bin; exact rfl; refine pw_remN (a := size) (m := 10000) rfl rfl (by omega) (fun r _ hr => ?_); refine T_nv ?_)
    | (apply TC_seq)
    | (apply TC_region)
    | (apply TC_block)
    | (apply TC_ret)
    | (apply TC_skip)
    | (apply TC_exit)
    | (apply TC_cond_true; exact rfl)
    | (apply TC_cond_false; exact rfl)
    | (apply T_nil)
    | (apply En_then)
    | (apply En_then_ret)
    | (apply En_then_exit)
    | (apply En_then_panic)
    | (apply En_block)
    | (apply En_block_ret)
    | (apply En_block_panic)
    | (apply En_block_exit)
    | (apply En_block_exit_ne; exact rfl)
    | (apply T_load; exact rfl; (first | refine pw_load (i := 0) rfl rfl rfl ?_ | refine pw_load (i := 1) rfl rfl rfl ?_ | refine pw_load (i := 2) rfl rfl rfl ?_ | refine pw_load (i := 3) rfl rfl rfl ?_ | refine pw_load (i := 4) rfl rfl rfl ?_ | refine pw_load (i := 5) rfl rfl rfl ?_ | refine pw_load_at rfl memr rfl ?_ | refine pw_load_at0 rfl memr rfl ?_ | refine pw_load_at rfl memt rfl ?_ | refine pw_load_at0 rfl memt rfl ?_); refine T_nv ?_)
    | (apply T_bin; exact rfl; (first | refine pw_add64 rfl rfl (by omega) (by omega) ?_ | refine pw_sub64 rfl rfl (by omega) (by omega) ?_ | refine pw_mul64 rfl rfl (by omega) (by omega) ?_ | refine pw_quo rfl rfl (by omega) (by omega) (by omega) ?_ | refine pw_rem rfl rfl (by omega) (by omega) ?_); refine T_nv ?_)
    | (apply T_bin; exact rfl; (first | refine pw_lss rfl rfl (fun h => ?_) (fun h => ?_) | refine pw_leq rfl rfl (fun h => ?_) (fun h => ?_) | refine pw_gtr rfl rfl (fun h => ?_) (fun h => ?_) | refine pw_geq rfl rfl (fun h => ?_) (fun h => ?_) | refine pw_eql rfl rfl (fun h => ?_) (fun h => ?_) | refine pw_neq rfl rfl (fun h => ?_) (fun h => ?_)) <;> first | (exfalso; omega) | refine T_nv ?_)
    | (apply T_store; exact rfl; (first | refine gw_store (i := 0) rfl clp rfl (by rfl) (by simp) (by simp [Value.oneCell']) ?_ | refine gw_store (i := 1) rfl clp rfl (by rfl) (by simp) (by simp [Value.oneCell']) ?_ | refine gw_store (i := 2) rfl clp rfl (by rfl) (by simp) (by simp [Value.oneCell']) ?_ | refine gw_store (i := 3) rfl clp rfl (by rfl) (by simp) (by simp [Value.oneCell']) ?_ | refine gw_store (i := 4) rfl clp rfl (by rfl) (by simp) (by simp [Value.oneCell']) ?_ | refine gw_store (i := 5) rfl clp rfl (by rfl) (by simp) (by simp [Value.oneCell']) ?_); refine T_nv ?_; refine T_hq ?_)
    | (refine T_pure rfl rfl ?_; (first | refine pw_mv ?_ | refine pw_as ?_ | refine pw_pick_t rfl evp ?_ | refine pw_pick_f rfl evp ?_ | refine pw_nilCheck rfl ?_ | refine pw_fieldAddr rfl ?_ | refine pw_len rfl ?_ | refine pw_lens rfl ?_ | refine pw_extract rfl rfl ?_ | refine pw_not rfl ?_ | refine pw_makeFuncL agp agp ?_ | refine pw_build bldp ?_ | refine pw_makeInterface rfl ?_); refine T_nv ?_)
    | (refine T_skipped rfl ?_; refine T_nv ?_)
    | (refine T_gen rfl rfl ?_; (first | refine gw_box clp (fun b => ?_) | refine gw_alloc clp (fun b => ?_) | refine gw_buildSlice (by decide) prtp rfl (fun b => ?_)); refine T_nv ?_)
  refine T_ow rfl ?_; refine ow_callf arp ?_; refine newDrive_k _ (by constructor <;> omega) ?_
  obtain ⟨⟨d0, e0⟩, h0⟩ : ∃ q, newD (64 + 2 * (r : Int)) = q := ⟨_, rfl⟩
  refine KD_lit d0 e0 h0 (fun Ad cd Ad2 cd2 => ?_); refine T_nv ?_
  repeat' first
    | (refine T_gen rfl rfl ?_; refine gw_alloc clp (fun b8 => ?_); refine T_nv ?_)
    | (apply TC_seq)
    | (apply TC_region)
    | (apply TC_block)
    | (apply TC_ret)
    | (apply TC_skip)
    | (apply TC_exit)
    | (apply TC_cond_true; exact rfl)
    | (apply TC_cond_false; exact rfl)
    | (apply T_nil)
    | (apply En_then)
    | (apply En_then_ret)
    | (apply En_then_exit)
    | (apply En_then_panic)
    | (apply En_block)
    | (apply En_block_ret)
    | (apply En_block_panic)
    | (apply En_block_exit)
    | (apply En_block_exit_ne; exact rfl)
    | (apply T_load; exact rfl; (first | refine pw_load (i := 0) rfl rfl rfl ?_ | refine pw_load (i := 1) rfl rfl rfl ?_ | refine pw_load (i := 2) rfl rfl rfl ?_ | refine pw_load (i := 3) rfl rfl rfl ?_ | refine pw_load (i := 4) rfl rfl rfl ?_ | refine pw_load (i := 5) rfl rfl rfl ?_ | refine pw_load_at rfl memr rfl ?_ | refine pw_load_at0 rfl memr rfl ?_ | refine pw_load_at rfl memt rfl ?_ | refine pw_load_at0 rfl memt rfl ?_); refine T_nv ?_)
    | (apply T_bin; exact rfl; (first | refine pw_add64 rfl rfl (by omega) (by omega) ?_ | refine pw_sub64 rfl rfl (by omega) (by omega) ?_ | refine pw_mul64 rfl rfl (by omega) (by omega) ?_ | refine pw_quo rfl rfl (by omega) (by omega) (by omega) ?_ | refine pw_rem rfl rfl (by omega) (by omega) ?_); refine T_nv ?_)
    | (apply T_bin; exact rfl; (first | refine pw_lss rfl rfl (fun h => ?_) (fun h => ?_) | refine pw_leq rfl rfl (fun h => ?_) (fun h => ?_) | refine pw_gtr rfl rfl (fun h => ?_) (fun h => ?_) | refine pw_geq rfl rfl (fun h => ?_) (fun h => ?_) | refine pw_eql rfl rfl (fun h => ?_) (fun h => ?_) | refine pw_neq rfl rfl (fun h => ?_) (fun h => ?_)) <;> first | (exfalso; omega) | refine T_nv ?_)
    | (apply T_store; exact rfl; (first | refine gw_store (i := 0) rfl clp rfl (by rfl) (by simp) (by simp [Value.oneCell']) ?_ | refine gw_store (i := 1) rfl clp rfl (by rfl) (by simp) (by simp [Value.oneCell']) ?_ | refine gw_store (i := 2) rfl clp rfl (by rfl) (by simp) (by simp [Value.oneCell']) ?_ | refine gw_store (i := 3) rfl clp rfl (by rfl) (by simp) (by simp [Value.oneCell']) ?_ | refine gw_store (i := 4) rfl clp rfl (by rfl) (by simp) (by simp [Value.oneCell']) ?_ | refine gw_store (i := 5) rfl clp rfl (by rfl) (by simp) (by simp [Value.oneCell']) ?_); refine T_nv ?_; refine T_hq ?_)
    | (refine T_pure rfl rfl ?_; (first | refine pw_mv ?_ | refine pw_as ?_ | refine pw_pick_t rfl evp ?_ | refine pw_pick_f rfl evp ?_ | refine pw_nilCheck rfl ?_ | refine pw_fieldAddr rfl ?_ | refine pw_len rfl ?_ | refine pw_lens rfl ?_ | refine pw_extract rfl rfl ?_ | refine pw_not rfl ?_ | refine pw_makeFuncL agp agp ?_ | refine pw_build bldp ?_ | refine pw_makeInterface rfl ?_); refine T_nv ?_)
    | (refine T_skipped rfl ?_; refine T_nv ?_)
    | (refine T_gen rfl rfl ?_; (first | refine gw_box clp (fun b => ?_) | refine gw_alloc clp (fun b => ?_) | refine gw_buildSlice (by decide) prtp rfl (fun b => ?_)); refine T_nv ?_)
  all_goals first | exact En_fin (.inl rfl) (res1 rfl (rv_tmp rfl)) (fin_K H R (fun w hs => hs.weaken sbp kpp) k) | skip
  rename_i g1 g2
  obtain rfl : e0 = 0 := by omega
  obtain ⟨hpd, hck, hla⟩ := last_new h0
  obtain ⟨x0, p0⟩ := d0
  obtain rfl : p0 = [] := hpd
  refine TC_weaken (.blk b8 [.slice Ad x0.length cd, .slice Ad2 0 cd2] 45 :: H) (Sl (.slice Ad x0.length cd) x0 :: Sl (.slice Ad2 0 cd2) ([] : List DW) :: R) (fun w hs => hs.weaken (List.Sublist.refl _) (fun _ h => h)) ?_
  refine TC_loopS [6, 10, 11, 12, 13, 14, 15, 16, 17, 18, 19, 41, 42, 43, 44, 45, 46, 47, 48, 49, 50, 51, 52, 53, 54, 55, 56, 57, 58, 59, 60, 61, 62, 63, 64, 65, 66, 67, 68, 69, 70, 71, 72, 73, 74, 75, 76, 77, 78, 79, 80, 81, 82, 83, 84, 85, 86, 87, 88, 89, 90, 91, 92, 93, 94, 95, 96, 97, 98, 99, 100, 101, 102, 103, 104, 105, 106, 107, 108, 109, 110] (fun m j H' R' => ∃ (i : Nat) (last : Int) (x : List UInt8) (A : Option Addr) (c : Nat) (A' : Option Addr) (c' : Nat), i + m = ms.length ∧ j 11 = .int .i64 (i : Int) ∧ j 10 = .int .i64 last ∧ Ev ms i last x ∧ (.blk b8 [.slice A x.length c, .slice A' 0 c'] 45 :: H) = H' ∧ (Sl (.slice A x.length c) x :: Sl (.slice A' 0 c') ([] : List DW) :: R) = R') ms.length sjp ⟨0, -1, x0, Ad, cd, Ad2, cd2, by omega, rfl, rfl, ⟨hck, by omega, by omega, .inl ⟨hla, by omega⟩⟩, rfl, rfl⟩ ?_
  rintro m j H' R' ⟨i, last, x, A, c, A', c', hi, h11, h10, hev, hH, hR⟩
  subst hH; subst hR
  refine TC_env (by simp only [setJ, List.foldl_cons, List.foldl_nil, List.set_cons_succ, List.set_cons_zero, h11, h10]; rfl) ?_
  have hx1 : x.length ≤ 600000 := (checkD_spec hev.1).2.1
  by_cases hil : i < ms.length
  · obtain ⟨ma, hma⟩ : ∃ ma, ms[i]? = some ma := ⟨_, List.getElem?_eq_getElem hil⟩
    obtain ⟨bm, om, y, hA1, hok, hfs, hat⟩ := hme i ma hma
    have hat' : At bm (om + ((i : Nat) : Int).toNat * 16) (Unp.cs ma y) ∈ R := hat
    have hlen : (Unp.cs ma y).length = 16 := UnpL.len ma y
    obtain ⟨⟨ops, e⟩, hsv⟩ : ∃ q, saveD' ⟨x, []⟩ ma = q := ⟨_, rfl⟩
    have herr := save_err hev.1 hsv
    have ho6' : e = 0 → ops.length = 6 := fun h => by subst h; exact (save_step hev.1 hsv).1
    subst hA1
    repeat' first
      | (apply TC_seq)
      | (apply TC_region)
      | (apply TC_block)
      | (apply TC_ret)
      | (apply TC_skip)
      | (apply TC_exit)
      | (apply TC_cond_true; exact rfl)
      | (apply TC_cond_false; exact rfl)
      | (apply T_nil)
      | (apply En_then)
      | (apply En_then_ret)
      | (apply En_then_exit)
      | (apply En_then_panic)
      | (apply En_block)
      | (apply En_block_ret)
      | (apply En_block_panic)
      | (apply En_block_exit)
      | (apply En_block_exit_ne; exact rfl)
      | (apply T_load; exact rfl; (first | refine pw_load (i := 0) rfl rfl rfl ?_ | refine pw_load (i := 1) rfl rfl rfl ?_ | refine pw_load (i := 2) rfl rfl rfl ?_ | refine pw_load (i := 3) rfl rfl rfl ?_ | refine pw_load (i := 4) rfl rfl rfl ?_ | refine pw_load (i := 5) rfl rfl rfl ?_ | refine pw_load_at rfl memr rfl ?_ | refine pw_load_at0 rfl memr rfl ?_ | refine pw_load_at rfl memt rfl ?_ | refine pw_load_at0 rfl memt rfl ?_); refine T_nv ?_)
      | (apply T_bin; exact rfl; (first | refine pw_add64 rfl rfl (by omega) (by omega) ?_ | refine pw_sub64 rfl rfl (by omega) (by omega) ?_ | refine pw_mul64 rfl rfl (by omega) (by omega) ?_ | refine pw_quo rfl rfl (by omega) (by omega) (by omega) ?_ | refine pw_rem rfl rfl (by omega) (by omega) ?_); refine T_nv ?_)
      | (apply T_bin; exact rfl; (first | refine pw_lss rfl rfl (fun h => ?_) (fun h => ?_) | refine pw_leq rfl rfl (fun h => ?_) (fun h => ?_) | refine pw_gtr rfl rfl (fun h => ?_) (fun h => ?_) | refine pw_geq rfl rfl (fun h => ?_) (fun h => ?_) | refine pw_eql rfl rfl (fun h => ?_) (fun h => ?_) | refine pw_neq rfl rfl (fun h => ?_) (fun h => ?_)) <;> first | (exfalso; omega) | refine T_nv ?_)
      | (refine T_pure rfl rfl ?_; (first | refine pw_mv ?_ | refine pw_as ?_ | refine pw_pick_t rfl evp ?_ | refine pw_pick_f rfl evp ?_ | refine pw_nilCheck rfl ?_ | refine pw_fieldAddr rfl ?_ | refine pw_len rfl ?_ | refine pw_lens rfl ?_ | refine pw_extract rfl rfl ?_ | refine pw_not rfl ?_ | refine pw_makeFuncL agp agp ?_ | refine pw_build bldp ?_ | refine pw_makeInterface rfl ?_); refine T_nv ?_)
      | (refine T_skipped rfl ?_; refine T_nv ?_)
      | (refine T_gen rfl rfl ?_; (first | refine gw_box clp (fun b => ?_) | refine gw_alloc clp (fun b => ?_) | refine gw_buildSlice (by decide) prtp rfl (fun b => ?_)); refine T_nv ?_)
    refine TC_draw mixed (by decide +kernel) (fun _ _ _ _ _ _ h => h) (List.Sublist.refl _) ?_
    all_goals first | (refine TA_p 0 ?_; (first | refine pw_index_at (b := bm) (o := om) (n := ms.length) rfl rfl (by omega) (by omega) ?_ | refine pw_load_at0 (b := bm) rfl memt (cellsVal_all hlen) ?_ | refine pw_mv ?_ | refine pw_as ?_ | refine pw_pick_t rfl evp ?_ | refine pw_pick_f rfl evp ?_ | refine pw_nilCheck rfl ?_ | refine pw_fieldAddr rfl ?_ | refine pw_len rfl ?_ | refine pw_lens rfl ?_ | refine pw_extract rfl rfl ?_ | refine pw_not rfl ?_ | refine pw_makeFuncL agp agp ?_ | refine pw_load (i := 0) rfl rfl rfl ?_ | refine pw_load (i := 1) rfl rfl rfl ?_ | refine pw_load (i := 2) rfl rfl rfl ?_ | refine pw_load (i := 3) rfl rfl rfl ?_ | refine pw_load (i := 4) rfl rfl rfl ?_ | refine pw_load (i := 5) rfl rfl rfl ?_ | refine pw_load_at rfl memr rfl ?_ | refine pw_load_at0 rfl memr rfl ?_ | refine pw_add64 rfl rfl (by omega) (by omega) ?_ | refine pw_sub64 rfl rfl (by omega) (by omega) ?_ | refine pw_mul64 rfl rfl (by omega) (by omega) ?_ | refine pw_quo rfl rfl (by omega) (by omega) (by omega) ?_ | refine pw_rem rfl rfl (by omega) (by omega) ?_ | refine pw_build bldp ?_ | refine pw_makeInterface rfl ?_ | refine pw_load_at rfl memt rfl ?_ | refine pw_load_at0 rfl memt rfl ?_); refine TA_nv ?_)
    all_goals first | (refine TA_p 1 ?_; (first | refine pw_index_at (b := bm) (o := om) (n := ms.length) rfl rfl (by omega) (by omega) ?_ | refine pw_load_at0 (b := bm) rfl memt (cellsVal_all hlen) ?_ | refine pw_mv ?_ | refine pw_as ?_ | refine pw_pick_t rfl evp ?_ | refine pw_pick_f rfl evp ?_ | refine pw_nilCheck rfl ?_ | refine pw_fieldAddr rfl ?_ | refine pw_len rfl ?_ | refine pw_lens rfl ?_ | refine pw_extract rfl rfl ?_ | refine pw_not rfl ?_ | refine pw_makeFuncL agp agp ?_ | refine pw_load (i := 0) rfl rfl rfl ?_ | refine pw_load (i := 1) rfl rfl rfl ?_ | refine pw_load (i := 2) rfl rfl rfl ?_ | refine pw_load (i := 3) rfl rfl rfl ?_ | refine pw_load (i := 4) rfl rfl rfl ?_ | refine pw_load (i := 5) rfl rfl rfl ?_ | refine pw_load_at rfl memr rfl ?_ | refine pw_load_at0 rfl memr rfl ?_ | refine pw_add64 rfl rfl (by omega) (by omega) ?_ | refine pw_sub64 rfl rfl (by omega) (by omega) ?_ | refine pw_mul64 rfl rfl (by omega) (by omega) ?_ | refine pw_quo rfl rfl (by omega) (by omega) (by omega) ?_ | refine pw_rem rfl rfl (by omega) (by omega) ?_ | refine pw_build bldp ?_ | refine pw_makeInterface rfl ?_ | refine pw_load_at rfl memt rfl ?_ | refine pw_load_at0 rfl memt rfl ?_); refine TA_nv ?_)
    all_goals first | (refine TA_p 2 ?_; (first | refine pw_index_at (b := bm) (o := om) (n := ms.length) rfl rfl (by omega) (by omega) ?_ | refine pw_load_at0 (b := bm) rfl memt (cellsVal_all hlen) ?_ | refine pw_mv ?_ | refine pw_as ?_ | refine pw_pick_t rfl evp ?_ | refine pw_pick_f rfl evp ?_ | refine pw_nilCheck rfl ?_ | refine pw_fieldAddr rfl ?_ | refine pw_len rfl ?_ | refine pw_lens rfl ?_ | refine pw_extract rfl rfl ?_ | refine pw_not rfl ?_ | refine pw_makeFuncL agp agp ?_ | refine pw_load (i := 0) rfl rfl rfl ?_ | refine pw_load (i := 1) rfl rfl rfl ?_ | refine pw_load (i := 2) rfl rfl rfl ?_ | refine pw_load (i := 3) rfl rfl rfl ?_ | refine pw_load (i := 4) rfl rfl rfl ?_ | refine pw_load (i := 5) rfl rfl rfl ?_ | refine pw_load_at rfl memr rfl ?_ | refine pw_load_at0 rfl memr rfl ?_ | refine pw_add64 rfl rfl (by omega) (by omega) ?_ | refine pw_sub64 rfl rfl (by omega) (by omega) ?_ | refine pw_mul64 rfl rfl (by omega) (by omega) ?_ | refine pw_quo rfl rfl (by omega) (by omega) (by omega) ?_ | refine pw_rem rfl rfl (by omega) (by omega) ?_ | refine pw_build bldp ?_ | refine pw_makeInterface rfl ?_ | refine pw_load_at rfl memt rfl ?_ | refine pw_load_at0 rfl memt rfl ?_); refine TA_nv ?_)
    all_goals first | (refine TA_p 3 ?_; (first | refine pw_index_bN evp rfl memt (List.getElem?_eq_getElem (by omega)) (fun b o => ?_) | refine pw_index_iN evp rfl memt (List.getElem?_eq_getElem (by omega)) (fun b o hI => ?_) | refine pw_index_wN evp rfl memt (List.getElem?_eq_getElem (by omega)) (fun b o A c hI hL => ?_) | refine pw_index_opN evp rfl memt (List.getElem?_eq_getElem (by omega)) (fun b o A c hI hI2 hL => ?_) | refine pw_index_rN evp rfl memt (List.getElem?_eq_getElem (by omega)) (fun b o hI => ?_) | refine pw_index_b evp rfl memt (List.getElem?_eq_getElem (by omega)) (by omega) (fun b o => ?_) | refine pw_index_i evp rfl memt (List.getElem?_eq_getElem (by omega)) (by omega) (fun b o hI => ?_) | refine pw_index_w evp rfl memt (List.getElem?_eq_getElem (by omega)) (by omega) (fun b o A c hI hL => ?_) | refine pw_index_op evp rfl memt (List.getElem?_eq_getElem (by omega)) (by omega) (fun b o A c hI hI2 hL => ?_) | refine pw_index_r evp rfl memt (List.getElem?_eq_getElem (by omega)) (by omega) (fun b o hI => ?_)); refine TA_nv ?_) | (refine TA_p 3 ?_; (first | refine pw_index_at (b := bm) (o := om) (n := ms.length) rfl rfl (by omega) (by omega) ?_ | refine pw_load_at0 (b := bm) rfl memt (cellsVal_all hlen) ?_ | refine pw_mv ?_ | refine pw_as ?_ | refine pw_pick_t rfl evp ?_ | refine pw_pick_f rfl evp ?_ | refine pw_nilCheck rfl ?_ | refine pw_fieldAddr rfl ?_ | refine pw_len rfl ?_ | refine pw_lens rfl ?_ | refine pw_extract rfl rfl ?_ | refine pw_not rfl ?_ | refine pw_makeFuncL agp agp ?_ | refine pw_load (i := 0) rfl rfl rfl ?_ | refine pw_load (i := 1) rfl rfl rfl ?_ | refine pw_load (i := 2) rfl rfl rfl ?_ | refine pw_load (i := 3) rfl rfl rfl ?_ | refine pw_load (i := 4) rfl rfl rfl ?_ | refine pw_load (i := 5) rfl rfl rfl ?_ | refine pw_load_at rfl memr rfl ?_ | refine pw_load_at0 rfl memr rfl ?_ | refine pw_add64 rfl rfl (by omega) (by omega) ?_ | refine pw_sub64 rfl rfl (by omega) (by omega) ?_ | refine pw_mul64 rfl rfl (by omega) (by omega) ?_ | refine pw_quo rfl rfl (by omega) (by omega) (by omega) ?_ | refine pw_rem rfl rfl (by omega) (by omega) ?_ | refine pw_build bldp ?_ | refine pw_makeInterface rfl ?_ | refine pw_load_at rfl memt rfl ?_ | refine pw_load_at0 rfl memt rfl ?_); refine TA_nv ?_)
    all_goals first | (refine TA_p 4 ?_; (first | refine pw_index_at (b := bm) (o := om) (n := ms.length) rfl rfl (by omega) (by omega) ?_ | refine pw_load_at0 (b := bm) rfl memt (cellsVal_all hlen) ?_ | refine pw_mv ?_ | refine pw_as ?_ | refine pw_pick_t rfl evp ?_ | refine pw_pick_f rfl evp ?_ | refine pw_nilCheck rfl ?_ | refine pw_fieldAddr rfl ?_ | refine pw_len rfl ?_ | refine pw_lens rfl ?_ | refine pw_extract rfl rfl ?_ | refine pw_not rfl ?_ | refine pw_makeFuncL agp agp ?_ | refine pw_load (i := 0) rfl rfl rfl ?_ | refine pw_load (i := 1) rfl rfl rfl ?_ | refine pw_load (i := 2) rfl rfl rfl ?_ | refine pw_load (i := 3) rfl rfl rfl ?_ | refine pw_load (i := 4) rfl rfl rfl ?_ | refine pw_load (i := 5) rfl rfl rfl ?_ | refine pw_load_at rfl memr rfl ?_ | refine pw_load_at0 rfl memr rfl ?_ | refine pw_add64 rfl rfl (by omega) (by omega) ?_ | refine pw_sub64 rfl rfl (by omega) (by omega) ?_ | refine pw_mul64 rfl rfl (by omega) (by omega) ?_ | refine pw_quo rfl rfl (by omega) (by omega) (by omega) ?_ | refine pw_rem rfl rfl (by omega) (by omega) ?_ | refine pw_build bldp ?_ | refine pw_makeInterface rfl ?_ | refine pw_load_at rfl memt rfl ?_ | refine pw_load_at0 rfl memt rfl ?_); refine TA_nv ?_)
    -- left: [5, 6, 7, 8, 9, 10]; ready: [5]: ['call']
    refine TA_o 5 ?_
    refine ow_callf arp ?_; refine save_k _ _ _ _ ⟨x, []⟩ (by simp only; omega) (Nat.zero_le _) memt memt ma y hok (fun p hp => List.mem_cons_of_mem _ (List.mem_cons_of_mem _ (hfs p hp))) (KO_litz ops e hsv (fun AO cO => ?_))
    refine ⟨.inl (fun w hs => hs.weaken sbp kpp), ?_⟩; refine TA_nv ?_
    refine TA_common _ (List.Sublist.refl _) kpp ?_
    all_goals first | (refine TA_p 6 ?_; (first | refine pw_mv ?_ | refine pw_as ?_ | refine pw_pick_t rfl evp ?_ | refine pw_pick_f rfl evp ?_ | refine pw_nilCheck rfl ?_ | refine pw_fieldAddr rfl ?_ | refine pw_len rfl ?_ | refine pw_lens rfl ?_ | refine pw_extract rfl rfl ?_ | refine pw_not rfl ?_ | refine pw_makeFuncL agp agp ?_ | refine pw_load (i := 0) rfl rfl rfl ?_ | refine pw_load (i := 1) rfl rfl rfl ?_ | refine pw_load (i := 2) rfl rfl rfl ?_ | refine pw_load (i := 3) rfl rfl rfl ?_ | refine pw_load (i := 4) rfl rfl rfl ?_ | refine pw_load (i := 5) rfl rfl rfl ?_ | refine pw_load_at rfl memr rfl ?_ | refine pw_load_at0 rfl memr rfl ?_ | refine pw_add64 rfl rfl (by omega) (by omega) ?_ | refine pw_sub64 rfl rfl (by omega) (by omega) ?_ | refine pw_mul64 rfl rfl (by omega) (by omega) ?_ | refine pw_quo rfl rfl (by omega) (by omega) (by omega) ?_ | refine pw_rem rfl rfl (by omega) (by omega) ?_ | refine pw_build bldp ?_ | refine pw_makeInterface rfl ?_ | refine pw_load_at rfl memt rfl ?_ | refine pw_load_at0 rfl memt rfl ?_); refine TA_nv ?_)
    all_goals first | (refine TA_p 7 ?_; (first | refine pw_mv ?_ | refine pw_as ?_ | refine pw_pick_t rfl evp ?_ | refine pw_pick_f rfl evp ?_ | refine pw_nilCheck rfl ?_ | refine pw_fieldAddr rfl ?_ | refine pw_len rfl ?_ | refine pw_lens rfl ?_ | refine pw_extract rfl rfl ?_ | refine pw_not rfl ?_ | refine pw_makeFuncL agp agp ?_ | refine pw_load (i := 0) rfl rfl rfl ?_ | refine pw_load (i := 1) rfl rfl rfl ?_ | refine pw_load (i := 2) rfl rfl rfl ?_ | refine pw_load (i := 3) rfl rfl rfl ?_ | refine pw_load (i := 4) rfl rfl rfl ?_ | refine pw_load (i := 5) rfl rfl rfl ?_ | refine pw_load_at rfl memr rfl ?_ | refine pw_load_at0 rfl memr rfl ?_ | refine pw_add64 rfl rfl (by omega) (by omega) ?_ | refine pw_sub64 rfl rfl (by omega) (by omega) ?_ | refine pw_mul64 rfl rfl (by omega) (by omega) ?_ | refine pw_quo rfl rfl (by omega) (by omega) (by omega) ?_ | refine pw_rem rfl rfl (by omega) (by omega) ?_ | refine pw_build bldp ?_ | refine pw_makeInterface rfl ?_ | refine pw_load_at rfl memt rfl ?_ | refine pw_load_at0 rfl memt rfl ?_); refine TA_nv ?_)
    all_goals first | (refine TA_p 8 ?_; (first | refine pw_mv ?_ | refine pw_as ?_ | refine pw_pick_t rfl evp ?_ | refine pw_pick_f rfl evp ?_ | refine pw_nilCheck rfl ?_ | refine pw_fieldAddr rfl ?_ | refine pw_len rfl ?_ | refine pw_lens rfl ?_ | refine pw_extract rfl rfl ?_ | refine pw_not rfl ?_ | refine pw_makeFuncL agp agp ?_ | refine pw_load (i := 0) rfl rfl rfl ?_ | refine pw_load (i := 1) rfl rfl rfl ?_ | refine pw_load (i := 2) rfl rfl rfl ?_ | refine pw_load (i := 3) rfl rfl rfl ?_ | refine pw_load (i := 4) rfl rfl rfl ?_ | refine pw_load (i := 5) rfl rfl rfl ?_ | refine pw_load_at rfl memr rfl ?_ | refine pw_load_at0 rfl memr rfl ?_ | refine pw_add64 rfl rfl (by omega) (by omega) ?_ | refine pw_sub64 rfl rfl (by omega) (by omega) ?_ | refine pw_mul64 rfl rfl (by omega) (by omega) ?_ | refine pw_quo rfl rfl (by omega) (by omega) (by omega) ?_ | refine pw_rem rfl rfl (by omega) (by omega) ?_ | refine pw_build bldp ?_ | refine pw_makeInterface rfl ?_ | refine pw_load_at rfl memt rfl ?_ | refine pw_load_at0 rfl memt rfl ?_); refine TA_nv ?_)
    all_goals first | (refine TA_p 9 ?_; (first | refine pw_mv ?_ | refine pw_as ?_ | refine pw_pick_t rfl evp ?_ | refine pw_pick_f rfl evp ?_ | refine pw_nilCheck rfl ?_ | refine pw_fieldAddr rfl ?_ | refine pw_len rfl ?_ | refine pw_lens rfl ?_ | refine pw_extract rfl rfl ?_ | refine pw_not rfl ?_ | refine pw_makeFuncL agp agp ?_ | refine pw_load (i := 0) rfl rfl rfl ?_ | refine pw_load (i := 1) rfl rfl rfl ?_ | refine pw_load (i := 2) rfl rfl rfl ?_ | refine pw_load (i := 3) rfl rfl rfl ?_ | refine pw_load (i := 4) rfl rfl rfl ?_ | refine pw_load (i := 5) rfl rfl rfl ?_ | refine pw_load_at rfl memr rfl ?_ | refine pw_load_at0 rfl memr rfl ?_ | refine pw_add64 rfl rfl (by omega) (by omega) ?_ | refine pw_sub64 rfl rfl (by omega) (by omega) ?_ | refine pw_mul64 rfl rfl (by omega) (by omega) ?_ | refine pw_quo rfl rfl (by omega) (by omega) (by omega) ?_ | refine pw_rem rfl rfl (by omega) (by omega) ?_ | refine pw_build bldp ?_ | refine pw_makeInterface rfl ?_ | refine pw_load_at rfl memt rfl ?_ | refine pw_load_at0 rfl memt rfl ?_); refine TA_nv ?_)
    all_goals first | (refine TA_p 10 ?_; (first | refine pw_mv ?_ | refine pw_as ?_ | refine pw_pick_t rfl evp ?_ | refine pw_pick_f rfl evp ?_ | refine pw_nilCheck rfl ?_ | refine pw_fieldAddr rfl ?_ | refine pw_len rfl ?_ | refine pw_lens rfl ?_ | refine pw_extract rfl rfl ?_ | refine pw_not rfl ?_ | refine pw_makeFuncL agp agp ?_ | refine pw_load (i := 0) rfl rfl rfl ?_ | refine pw_load (i := 1) rfl rfl rfl ?_ | refine pw_load (i := 2) rfl rfl rfl ?_ | refine pw_load (i := 3) rfl rfl rfl ?_ | refine pw_load (i := 4) rfl rfl rfl ?_ | refine pw_load (i := 5) rfl rfl rfl ?_ | refine pw_load_at rfl memr rfl ?_ | refine pw_load_at0 rfl memr rfl ?_ | refine pw_add64 rfl rfl (by omega) (by omega) ?_ | refine pw_sub64 rfl rfl (by omega) (by omega) ?_ | refine pw_mul64 rfl rfl (by omega) (by omega) ?_ | refine pw_quo rfl rfl (by omega) (by omega) (by omega) ?_ | refine pw_rem rfl rfl (by omega) (by omega) ?_ | refine pw_build bldp ?_ | refine pw_makeInterface rfl ?_ | refine pw_load_at rfl memt rfl ?_ | refine pw_load_at0 rfl memt rfl ?_); refine TA_nv ?_)
    all_goals refine TA_d ?_
    repeat' first
      | (refine TC_cutS (x := .seq (.region 15 _ _) _) [66, 67, 68, 69, 70, 71, 72, 73, 74, 75, 76, 77, 78, 79, 14, 80, 81, 82, 83, 84, 15] (fun j H' R' => ∃ (r : Nat) (ps : List Int) (Ap : Option Addr) (cp : Nat), r ≤ ops.length ∧ j 14 = .int .i64 (r : Int) ∧ j 15 = .slice Ap ps.length cp ∧ ps.length ≤ 9223372036854775807 ∧ (.blk b8 [.slice A x.length c, .slice A' 0 c'] 45 :: H) = H' ∧ (Sl (.slice Ap ps.length cp) ps :: Sl (.slice AO ops.length cO) ops :: Sl (.slice A x.length c) x :: Sl (.slice A' 0 c') ([] : List DW) :: R) = R') ?_ ?_)
      | (apply TC_seq)
      | (apply TC_region)
      | (apply TC_block)
      | (apply TC_ret)
      | (apply TC_skip)
      | (apply TC_exit)
      | (apply TC_cond_true; exact rfl)
      | (apply TC_cond_false; exact rfl)
      | (apply T_nil)
      | (apply En_then)
      | (apply En_then_ret)
      | (apply En_then_exit)
      | (apply En_then_panic)
      | (apply En_block)
      | (apply En_block_ret)
      | (apply En_block_panic)
      | (apply En_block_exit)
      | (apply En_block_exit_ne; exact rfl)
      | (apply T_load; exact rfl; (first | refine pw_load (i := 0) rfl rfl rfl ?_ | refine pw_load (i := 1) rfl rfl rfl ?_ | refine pw_load (i := 2) rfl rfl rfl ?_ | refine pw_load (i := 3) rfl rfl rfl ?_ | refine pw_load (i := 4) rfl rfl rfl ?_ | refine pw_load (i := 5) rfl rfl rfl ?_ | refine pw_load_at rfl memr rfl ?_ | refine pw_load_at0 rfl memr rfl ?_ | refine pw_load_at rfl memt rfl ?_ | refine pw_load_at0 rfl memt rfl ?_); refine T_nv ?_)
      | (apply T_bin; exact rfl; (first | refine pw_add64 rfl rfl (by omega) (by omega) ?_ | refine pw_sub64 rfl rfl (by omega) (by omega) ?_ | refine pw_mul64 rfl rfl (by omega) (by omega) ?_ | refine pw_quo rfl rfl (by omega) (by omega) (by omega) ?_ | refine pw_rem rfl rfl (by omega) (by omega) ?_); refine T_nv ?_)
      | (apply T_bin; exact rfl; (first | refine pw_lss rfl rfl (fun h => ?_) (fun h => ?_) | refine pw_leq rfl rfl (fun h => ?_) (fun h => ?_) | refine pw_gtr rfl rfl (fun h => ?_) (fun h => ?_) | refine pw_geq rfl rfl (fun h => ?_) (fun h => ?_) | refine pw_eql rfl rfl (fun h => ?_) (fun h => ?_) | refine pw_neq rfl rfl (fun h => ?_) (fun h => ?_)) <;> first | (exfalso; omega) | refine T_nv ?_)
      | (apply T_store; exact rfl; (first | refine gw_store (i := 0) rfl clp rfl (by rfl) (by simp) (by simp [Value.oneCell']) ?_ | refine gw_store (i := 1) rfl clp rfl (by rfl) (by simp) (by simp [Value.oneCell']) ?_ | refine gw_store (i := 2) rfl clp rfl (by rfl) (by simp) (by simp [Value.oneCell']) ?_ | refine gw_store (i := 3) rfl clp rfl (by rfl) (by simp) (by simp [Value.oneCell']) ?_ | refine gw_store (i := 4) rfl clp rfl (by rfl) (by simp) (by simp [Value.oneCell']) ?_ | refine gw_store (i := 5) rfl clp rfl (by rfl) (by simp) (by simp [Value.oneCell']) ?_); refine T_nv ?_; refine T_hq ?_)
      | (refine T_pure rfl rfl ?_; (first | refine pw_mv ?_ | refine pw_as ?_ | refine pw_pick_t rfl evp ?_ | refine pw_pick_f rfl evp ?_ | refine pw_nilCheck rfl ?_ | refine pw_fieldAddr rfl ?_ | refine pw_len rfl ?_ | refine pw_lens rfl ?_ | refine pw_extract rfl rfl ?_ | refine pw_not rfl ?_ | refine pw_makeFuncL agp agp ?_ | refine pw_build bldp ?_ | refine pw_makeInterface rfl ?_); refine T_nv ?_)
      | (refine T_skipped rfl ?_; refine T_nv ?_)
      | (refine T_gen rfl rfl ?_; (first | refine gw_box clp (fun b => ?_) | refine gw_alloc clp (fun b => ?_) | refine gw_buildSlice (by decide) prtp rfl (fun b => ?_)); refine T_nv ?_)
    all_goals try exact En_backS (m - 1) (.blk b8 [.slice A x.length c, .slice A' 0 c'] 45 :: H) (Sl (.slice A x.length c) x :: Sl (.slice A' 0 c') ([] : List DW) :: R) (by omega) sjp ⟨i + 1, last, x, A, c, A', c', by omega, rfl, rfl, hev.skip, rfl, rfl⟩ (fun w hs => hs.weaken sbp kpp)
    · rename_i hif
      obtain ⟨⟨bh, ps⟩, hfa⟩ : ∃ fa, fs[i]? = some fa := ⟨_, List.getElem?_eq_getElem (by omega)⟩
      obtain ⟨bf, of, ⟨yf, Ap, cp⟩, hA2, hokf, hfsf, hatf⟩ := hfe i (bh, ps) hfa
      have hatf' : At bf (of + ((i : Nat) : Int).toNat * 2) [byteV bh, .slice Ap ps.length cp] ∈ R := hatf
      have hpf : Sl (.slice Ap ps.length cp) ps ∈ R := hfsf _ (List.mem_append_right _ (List.mem_singleton.2 rfl))
      have hpl : ps.length ≤ 9223372036854775807 := Nat.le_trans hokf.2.1 hokf.2.2
      have hb256 : bh.toNat ≤ 9223372036854775807 := by have := bh.toNat_lt; omega
      subst hA2
      repeat' first
        | (apply T_idx; exact rfl; refine pw_index_at (b := bf) (o := of) (n := fs.length) rfl rfl (by omega) (by omega) ?_; refine T_nv ?_)
        | (refine T_pure rfl rfl ?_; refine pw_convi (a := bh.toNat) rfl hb256 ?_; refine T_nv ?_)
        | (refine T_pure rfl rfl ?_; refine pw_remN (a := bh.toNat) (m := ops.length + 1) rfl rfl (by omega) (fun r _ hr => ?_); refine T_nv ?_)
        | (apply T_bin; exact rfl; refine pw_remN (a := bh.toNat) (m := ops.length + 1) rfl rfl (by omega) (fun r _ hr => ?_); refine T_nv ?_)
        | (apply TC_seq)
        | (apply TC_region)
        | (apply TC_block)
        | (apply TC_ret)
        | (apply TC_skip)
        | (apply TC_exit)
        | (apply TC_cond_true; exact rfl)
        | (apply TC_cond_false; exact rfl)
        | (apply T_nil)
        | (apply En_then)
        | (apply En_then_ret)
        | (apply En_then_exit)
        | (apply En_then_panic)
        | (apply En_block)
        | (apply En_block_ret)
        | (apply En_block_panic)
        | (apply En_block_exit)
        | (apply En_block_exit_ne; exact rfl)
        | (apply T_load; exact rfl; (first | refine pw_load (i := 0) rfl rfl rfl ?_ | refine pw_load (i := 1) rfl rfl rfl ?_ | refine pw_load (i := 2) rfl rfl rfl ?_ | refine pw_load (i := 3) rfl rfl rfl ?_ | refine pw_load (i := 4) rfl rfl rfl ?_ | refine pw_load (i := 5) rfl rfl rfl ?_ | refine pw_load_at rfl memr rfl ?_ | refine pw_load_at0 rfl memr rfl ?_ | refine pw_load_at rfl memt rfl ?_ | refine pw_load_at0 rfl memt rfl ?_); refine T_nv ?_)
        | (apply T_bin; exact rfl; (first | refine pw_add64 rfl rfl (by omega) (by omega) ?_ | refine pw_sub64 rfl rfl (by omega) (by omega) ?_ | refine pw_mul64 rfl rfl (by omega) (by omega) ?_ | refine pw_quo rfl rfl (by omega) (by omega) (by omega) ?_ | refine pw_rem rfl rfl (by omega) (by omega) ?_); refine T_nv ?_)
        | (apply T_bin; exact rfl; (first | refine pw_lss rfl rfl (fun h => ?_) (fun h => ?_) | refine pw_leq rfl rfl (fun h => ?_) (fun h => ?_) | refine pw_gtr rfl rfl (fun h => ?_) (fun h => ?_) | refine pw_geq rfl rfl (fun h => ?_) (fun h => ?_) | refine pw_eql rfl rfl (fun h => ?_) (fun h => ?_) | refine pw_neq rfl rfl (fun h => ?_) (fun h => ?_)) <;> first | (exfalso; omega) | refine T_nv ?_)
        | (apply T_store; exact rfl; (first | refine gw_store (i := 0) rfl clp rfl (by rfl) (by simp) (by simp [Value.oneCell']) ?_ | refine gw_store (i := 1) rfl clp rfl (by rfl) (by simp) (by simp [Value.oneCell']) ?_ | refine gw_store (i := 2) rfl clp rfl (by rfl) (by simp) (by simp [Value.oneCell']) ?_ | refine gw_store (i := 3) rfl clp rfl (by rfl) (by simp) (by simp [Value.oneCell']) ?_ | refine gw_store (i := 4) rfl clp rfl (by rfl) (by simp) (by simp [Value.oneCell']) ?_ | refine gw_store (i := 5) rfl clp rfl (by rfl) (by simp) (by simp [Value.oneCell']) ?_); refine T_nv ?_; refine T_hq ?_)
        | (refine T_pure rfl rfl ?_; (first | refine pw_mv ?_ | refine pw_as ?_ | refine pw_pick_t rfl evp ?_ | refine pw_pick_f rfl evp ?_ | refine pw_nilCheck rfl ?_ | refine pw_fieldAddr rfl ?_ | refine pw_len rfl ?_ | refine pw_lens rfl ?_ | refine pw_extract rfl rfl ?_ | refine pw_not rfl ?_ | refine pw_makeFuncL agp agp ?_ | refine pw_build bldp ?_ | refine pw_makeInterface rfl ?_); refine T_nv ?_)
        | (refine T_skipped rfl ?_; refine T_nv ?_)
        | (refine T_gen rfl rfl ?_; (first | refine gw_box clp (fun b => ?_) | refine gw_alloc clp (fun b => ?_) | refine gw_buildSlice (by decide) prtp rfl (fun b => ?_)); refine T_nv ?_)
      exact En_midS (.blk b8 [.slice A x.length c, .slice A' 0 c'] 45 :: H) (Sl (.slice Ap ps.length cp) ps :: Sl (.slice AO ops.length cO) ops :: Sl (.slice A x.length c) x :: Sl (.slice A' 0 c') ([] : List DW) :: R) sjp ⟨r, ps, Ap, cp, by omega, rfl, rfl, hpl, rfl, rfl⟩ (fun w hs => hs.weaken sbp kpp)
    · exact En_midS (.blk b8 [.slice A x.length c, .slice A' 0 c'] 45 :: H) (Sl (.slice none ([] : List Int).length 0) ([] : List Int) :: Sl (.slice AO ops.length cO) ops :: Sl (.slice A x.length c) x :: Sl (.slice A' 0 c') ([] : List DW) :: R) sjp ⟨ops.length, [], none, 0, Nat.le_refl _, rfl, rfl, Nat.zero_le _, rfl, rfl⟩ (fun w hs => (hs.weaken sbp kpp).sl_nil Int)
    rintro j2 H' R' ⟨r, ps, Ap, cp, hr6, h14, h15, hpl, hH, hR⟩
    subst hH; subst hR
    refine TC_env (by simp only [setJ, List.foldl_cons, List.foldl_nil, List.set_cons_succ, List.set_cons_zero, h14, h15]; rfl) ?_
    obtain rfl : e = 0 := by omega
    obtain ⟨ho6, hsl, hstep⟩ := save_step hev.1 hsv
    obtain ⟨dx, hdo, hdc, hcr⟩ := hstep r (by omega)
    obtain ⟨x2, hcr1, hcr2, hcr3⟩ := hcr ps
    obtain ⟨_, hd1, _, hd2, _⟩ := checkD_spec hdc
    have htl : (ops.take r).length = r := by rw [List.length_take]; omega
    repeat' first
      | (apply TC_seq)
      | (apply TC_region)
      | (apply TC_block)
      | (apply TC_ret)
      | (apply TC_skip)
      | (apply TC_exit)
      | (apply TC_cond_true; exact rfl)
      | (apply TC_cond_false; exact rfl)
      | (apply T_nil)
      | (apply En_then)
      | (apply En_then_ret)
      | (apply En_then_exit)
      | (apply En_then_panic)
      | (apply En_block)
      | (apply En_block_ret)
      | (apply En_block_panic)
      | (apply En_block_exit)
      | (apply En_block_exit_ne; exact rfl)
      | (apply T_load; exact rfl; (first | refine pw_load (i := 0) rfl rfl rfl ?_ | refine pw_load (i := 1) rfl rfl rfl ?_ | refine pw_load (i := 2) rfl rfl rfl ?_ | refine pw_load (i := 3) rfl rfl rfl ?_ | refine pw_load (i := 4) rfl rfl rfl ?_ | refine pw_load (i := 5) rfl rfl rfl ?_ | refine pw_load_at rfl memr rfl ?_ | refine pw_load_at0 rfl memr rfl ?_ | refine pw_load_at rfl memt rfl ?_ | refine pw_load_at0 rfl memt rfl ?_); refine T_nv ?_)
      | (apply T_bin; exact rfl; (first | refine pw_add64 rfl rfl (by omega) (by omega) ?_ | refine pw_sub64 rfl rfl (by omega) (by omega) ?_ | refine pw_mul64 rfl rfl (by omega) (by omega) ?_ | refine pw_quo rfl rfl (by omega) (by omega) (by omega) ?_ | refine pw_rem rfl rfl (by omega) (by omega) ?_); refine T_nv ?_)
      | (apply T_bin; exact rfl; (first | refine pw_lss rfl rfl (fun h => ?_) (fun h => ?_) | refine pw_leq rfl rfl (fun h => ?_) (fun h => ?_) | refine pw_gtr rfl rfl (fun h => ?_) (fun h => ?_) | refine pw_geq rfl rfl (fun h => ?_) (fun h => ?_) | refine pw_eql rfl rfl (fun h => ?_) (fun h => ?_) | refine pw_neq rfl rfl (fun h => ?_) (fun h => ?_)) <;> first | (exfalso; omega) | refine T_nv ?_)
      | (refine T_pure rfl rfl ?_; (first | refine pw_mv ?_ | refine pw_as ?_ | refine pw_pick_t rfl evp ?_ | refine pw_pick_f rfl evp ?_ | refine pw_nilCheck rfl ?_ | refine pw_fieldAddr rfl ?_ | refine pw_len rfl ?_ | refine pw_lens rfl ?_ | refine pw_extract rfl rfl ?_ | refine pw_not rfl ?_ | refine pw_makeFuncL agp agp ?_ | refine pw_build bldp ?_ | refine pw_makeInterface rfl ?_); refine T_nv ?_)
      | (refine T_skipped rfl ?_; refine T_nv ?_)
      | (refine T_gen rfl rfl ?_; (first | refine gw_box clp (fun b => ?_) | refine gw_alloc clp (fun b => ?_) | refine gw_buildSlice (by decide) prtp rfl (fun b => ?_)); refine T_nv ?_)
    refine TC_draw mixed (by decide +kernel) (fun _ _ _ _ _ _ h => h) (List.Sublist.refl _) ?_
    all_goals first | (refine TA_p 0 ?_; (first | refine pw_take (xs := ops) (m := r) rfl memt rfl rfl rfl (by omega) (fun A13 c13 => ?_) | refine pw_mv ?_ | refine pw_as ?_ | refine pw_pick_t rfl evp ?_ | refine pw_pick_f rfl evp ?_ | refine pw_nilCheck rfl ?_ | refine pw_fieldAddr rfl ?_ | refine pw_len rfl ?_ | refine pw_lens rfl ?_ | refine pw_extract rfl rfl ?_ | refine pw_not rfl ?_ | refine pw_makeFuncL agp agp ?_ | refine pw_load (i := 0) rfl rfl rfl ?_ | refine pw_load (i := 1) rfl rfl rfl ?_ | refine pw_load (i := 2) rfl rfl rfl ?_ | refine pw_load (i := 3) rfl rfl rfl ?_ | refine pw_load (i := 4) rfl rfl rfl ?_ | refine pw_load (i := 5) rfl rfl rfl ?_ | refine pw_load_at rfl memr rfl ?_ | refine pw_load_at0 rfl memr rfl ?_ | refine pw_add64 rfl rfl (by omega) (by omega) ?_ | refine pw_sub64 rfl rfl (by omega) (by omega) ?_ | refine pw_mul64 rfl rfl (by omega) (by omega) ?_ | refine pw_quo rfl rfl (by omega) (by omega) (by omega) ?_ | refine pw_rem rfl rfl (by omega) (by omega) ?_ | refine pw_build bldp ?_ | refine pw_makeInterface rfl ?_ | refine pw_load_at rfl memt rfl ?_ | refine pw_load_at0 rfl memt rfl ?_); refine TA_nv ?_)
    all_goals first | (refine TA_p 1 ?_; (first | refine pw_take (xs := ops) (m := r) rfl memt rfl rfl rfl (by omega) (fun A13 c13 => ?_) | refine pw_mv ?_ | refine pw_as ?_ | refine pw_pick_t rfl evp ?_ | refine pw_pick_f rfl evp ?_ | refine pw_nilCheck rfl ?_ | refine pw_fieldAddr rfl ?_ | refine pw_len rfl ?_ | refine pw_lens rfl ?_ | refine pw_extract rfl rfl ?_ | refine pw_not rfl ?_ | refine pw_makeFuncL agp agp ?_ | refine pw_load (i := 0) rfl rfl rfl ?_ | refine pw_load (i := 1) rfl rfl rfl ?_ | refine pw_load (i := 2) rfl rfl rfl ?_ | refine pw_load (i := 3) rfl rfl rfl ?_ | refine pw_load (i := 4) rfl rfl rfl ?_ | refine pw_load (i := 5) rfl rfl rfl ?_ | refine pw_load_at rfl memr rfl ?_ | refine pw_load_at0 rfl memr rfl ?_ | refine pw_add64 rfl rfl (by omega) (by omega) ?_ | refine pw_sub64 rfl rfl (by omega) (by omega) ?_ | refine pw_mul64 rfl rfl (by omega) (by omega) ?_ | refine pw_quo rfl rfl (by omega) (by omega) (by omega) ?_ | refine pw_rem rfl rfl (by omega) (by omega) ?_ | refine pw_build bldp ?_ | refine pw_makeInterface rfl ?_ | refine pw_load_at rfl memt rfl ?_ | refine pw_load_at0 rfl memt rfl ?_); refine TA_nv ?_)
    all_goals first | (refine TA_p 2 ?_; (first | refine pw_take (xs := ops) (m := r) rfl memt rfl rfl rfl (by omega) (fun A13 c13 => ?_) | refine pw_mv ?_ | refine pw_as ?_ | refine pw_pick_t rfl evp ?_ | refine pw_pick_f rfl evp ?_ | refine pw_nilCheck rfl ?_ | refine pw_fieldAddr rfl ?_ | refine pw_len rfl ?_ | refine pw_lens rfl ?_ | refine pw_extract rfl rfl ?_ | refine pw_not rfl ?_ | refine pw_makeFuncL agp agp ?_ | refine pw_load (i := 0) rfl rfl rfl ?_ | refine pw_load (i := 1) rfl rfl rfl ?_ | refine pw_load (i := 2) rfl rfl rfl ?_ | refine pw_load (i := 3) rfl rfl rfl ?_ | refine pw_load (i := 4) rfl rfl rfl ?_ | refine pw_load (i := 5) rfl rfl rfl ?_ | refine pw_load_at rfl memr rfl ?_ | refine pw_load_at0 rfl memr rfl ?_ | refine pw_add64 rfl rfl (by omega) (by omega) ?_ | refine pw_sub64 rfl rfl (by omega) (by omega) ?_ | refine pw_mul64 rfl rfl (by omega) (by omega) ?_ | refine pw_quo rfl rfl (by omega) (by omega) (by omega) ?_ | refine pw_rem rfl rfl (by omega) (by omega) ?_ | refine pw_build bldp ?_ | refine pw_makeInterface rfl ?_ | refine pw_load_at rfl memt rfl ?_ | refine pw_load_at0 rfl memt rfl ?_); refine TA_nv ?_)
    all_goals first | (refine TA_p 3 ?_; (first | refine pw_take (xs := ops) (m := r) rfl memt rfl rfl rfl (by omega) (fun A13 c13 => ?_) | refine pw_mv ?_ | refine pw_as ?_ | refine pw_pick_t rfl evp ?_ | refine pw_pick_f rfl evp ?_ | refine pw_nilCheck rfl ?_ | refine pw_fieldAddr rfl ?_ | refine pw_len rfl ?_ | refine pw_lens rfl ?_ | refine pw_extract rfl rfl ?_ | refine pw_not rfl ?_ | refine pw_makeFuncL agp agp ?_ | refine pw_load (i := 0) rfl rfl rfl ?_ | refine pw_load (i := 1) rfl rfl rfl ?_ | refine pw_load (i := 2) rfl rfl rfl ?_ | refine pw_load (i := 3) rfl rfl rfl ?_ | refine pw_load (i := 4) rfl rfl rfl ?_ | refine pw_load (i := 5) rfl rfl rfl ?_ | refine pw_load_at rfl memr rfl ?_ | refine pw_load_at0 rfl memr rfl ?_ | refine pw_add64 rfl rfl (by omega) (by omega) ?_ | refine pw_sub64 rfl rfl (by omega) (by omega) ?_ | refine pw_mul64 rfl rfl (by omega) (by omega) ?_ | refine pw_quo rfl rfl (by omega) (by omega) (by omega) ?_ | refine pw_rem rfl rfl (by omega) (by omega) ?_ | refine pw_build bldp ?_ | refine pw_makeInterface rfl ?_ | refine pw_load_at rfl memt rfl ?_ | refine pw_load_at0 rfl memt rfl ?_); refine TA_nv ?_)
    -- left: [4, 5, 6, 7, 8, 9, 10]; ready: [4, 8]: ['call', 'alloc']
    refine cut5 (α := Option Addr) (β := Nat) (γ := Option Addr) (δ := Nat) (ε := Nat) (G := ?G18) ?ha18 ?hb18
    case ha18 =>
      intro hG
      refine TA_common _ (List.Sublist.refl _) kpp ?_
      refine TA_2 4 8 ?_ ?_
      · skip
        refine ow_callf arp ?_; refine do_k' _ _ _ _ _ _ _ ⟨x, []⟩ (ops.take r) htl.symm (by simp only; omega) (Nat.zero_le _) (by omega) memt memt memt (KD_lit dx 0 hdo (fun Ad cd Ad2 cd2 => ?_))
        refine ⟨.inl (fun w hs => hs.weaken sbp kpp), ?_⟩; refine TA_nv ?_
        refine TA_common _ (List.Sublist.refl _) kpp ?_
        all_goals (refine TA_ps 5 sbp ?_; (first | refine pw_mv ?_ | refine pw_as ?_ | refine pw_pick_t rfl evp ?_ | refine pw_pick_f rfl evp ?_ | refine pw_nilCheck rfl ?_ | refine pw_fieldAddr rfl ?_ | refine pw_len rfl ?_ | refine pw_lens rfl ?_ | refine pw_extract rfl rfl ?_ | refine pw_not rfl ?_ | refine pw_makeFuncL agp agp ?_ | refine pw_load (i := 0) rfl rfl rfl ?_ | refine pw_load (i := 1) rfl rfl rfl ?_ | refine pw_load (i := 2) rfl rfl rfl ?_ | refine pw_load (i := 3) rfl rfl rfl ?_ | refine pw_load (i := 4) rfl rfl rfl ?_ | refine pw_load (i := 5) rfl rfl rfl ?_ | refine pw_load_at rfl memr rfl ?_ | refine pw_load_at0 rfl memr rfl ?_ | refine pw_add64 rfl rfl (by omega) (by omega) ?_ | refine pw_sub64 rfl rfl (by omega) (by omega) ?_ | refine pw_mul64 rfl rfl (by omega) (by omega) ?_ | refine pw_quo rfl rfl (by omega) (by omega) (by omega) ?_ | refine pw_rem rfl rfl (by omega) (by omega) ?_ | refine pw_build bldp ?_ | refine pw_makeInterface rfl ?_ | refine pw_load_at rfl memt rfl ?_ | refine pw_load_at0 rfl memt rfl ?_); refine TA_nv ?_)
        all_goals (refine TA_ps 6 sbp ?_; (first | refine pw_mv ?_ | refine pw_as ?_ | refine pw_pick_t rfl evp ?_ | refine pw_pick_f rfl evp ?_ | refine pw_nilCheck rfl ?_ | refine pw_fieldAddr rfl ?_ | refine pw_len rfl ?_ | refine pw_lens rfl ?_ | refine pw_extract rfl rfl ?_ | refine pw_not rfl ?_ | refine pw_makeFuncL agp agp ?_ | refine pw_load (i := 0) rfl rfl rfl ?_ | refine pw_load (i := 1) rfl rfl rfl ?_ | refine pw_load (i := 2) rfl rfl rfl ?_ | refine pw_load (i := 3) rfl rfl rfl ?_ | refine pw_load (i := 4) rfl rfl rfl ?_ | refine pw_load (i := 5) rfl rfl rfl ?_ | refine pw_load_at rfl memr rfl ?_ | refine pw_load_at0 rfl memr rfl ?_ | refine pw_add64 rfl rfl (by omega) (by omega) ?_ | refine pw_sub64 rfl rfl (by omega) (by omega) ?_ | refine pw_mul64 rfl rfl (by omega) (by omega) ?_ | refine pw_quo rfl rfl (by omega) (by omega) (by omega) ?_ | refine pw_rem rfl rfl (by omega) (by omega) ?_ | refine pw_build bldp ?_ | refine pw_makeInterface rfl ?_ | refine pw_load_at rfl memt rfl ?_ | refine pw_load_at0 rfl memt rfl ?_); refine TA_nv ?_)
        all_goals (refine TA_ps 7 sbp ?_; (first | refine pw_mv ?_ | refine pw_as ?_ | refine pw_pick_t rfl evp ?_ | refine pw_pick_f rfl evp ?_ | refine pw_nilCheck rfl ?_ | refine pw_fieldAddr rfl ?_ | refine pw_len rfl ?_ | refine pw_lens rfl ?_ | refine pw_extract rfl rfl ?_ | refine pw_not rfl ?_ | refine pw_makeFuncL agp agp ?_ | refine pw_load (i := 0) rfl rfl rfl ?_ | refine pw_load (i := 1) rfl rfl rfl ?_ | refine pw_load (i := 2) rfl rfl rfl ?_ | refine pw_load (i := 3) rfl rfl rfl ?_ | refine pw_load (i := 4) rfl rfl rfl ?_ | refine pw_load (i := 5) rfl rfl rfl ?_ | refine pw_load_at rfl memr rfl ?_ | refine pw_load_at0 rfl memr rfl ?_ | refine pw_add64 rfl rfl (by omega) (by omega) ?_ | refine pw_sub64 rfl rfl (by omega) (by omega) ?_ | refine pw_mul64 rfl rfl (by omega) (by omega) ?_ | refine pw_quo rfl rfl (by omega) (by omega) (by omega) ?_ | refine pw_rem rfl rfl (by omega) (by omega) ?_ | refine pw_build bldp ?_ | refine pw_makeInterface rfl ?_ | refine pw_load_at rfl memt rfl ?_ | refine pw_load_at0 rfl memt rfl ?_); refine TA_nv ?_)
        refine TA_o 8 ?_
        refine GW.ow rfl ?_; refine gw_alloc clp (fun bZ => ?_)
        refine ⟨.inl (fun w hs => hs.weaken sbp kpp), ?_⟩; refine TA_nv ?_
        refine TA_pre (H' := .blk bZ [.slice none 0 0, .slice none 0 0] 45 :: .blk b8 [.slice A x.length c, .slice A' 0 c'] 45 :: H) (R' := dvR Ad cd Ad2 cd2 dx (Sl (.slice A13 r c13) (ops.take r) :: Sl (.slice Ap ps.length cp) ps :: Sl (.slice AO ops.length cO) ops :: Sl (.slice A x.length c) x :: Sl (.slice A' 0 c') ([] : List DW) :: R)) (fun w hs => hs.weaken sbp kpp) ?_
        exact hG Ad cd Ad2 cd2 bZ
      · skip
        refine GW.ow rfl ?_; refine gw_alloc clp (fun bZ => ?_)
        refine ⟨.inl (fun w hs => hs.weaken sbp kpp), ?_⟩; refine TA_nv ?_
        refine TA_o 4 ?_
        refine ow_callf arp ?_; refine do_k' _ _ _ _ _ _ _ ⟨x, []⟩ (ops.take r) htl.symm (by simp only; omega) (Nat.zero_le _) (by omega) memt memt memt (KD_lit dx 0 hdo (fun Ad cd Ad2 cd2 => ?_))
        refine ⟨.inl (fun w hs => hs.weaken sbp kpp), ?_⟩; refine TA_nv ?_
        refine TA_common _ (List.Sublist.refl _) kpp ?_
        all_goals (refine TA_ps 5 sbp ?_; (first | refine pw_mv ?_ | refine pw_as ?_ | refine pw_pick_t rfl evp ?_ | refine pw_pick_f rfl evp ?_ | refine pw_nilCheck rfl ?_ | refine pw_fieldAddr rfl ?_ | refine pw_len rfl ?_ | refine pw_lens rfl ?_ | refine pw_extract rfl rfl ?_ | refine pw_not rfl ?_ | refine pw_makeFuncL agp agp ?_ | refine pw_load (i := 0) rfl rfl rfl ?_ | refine pw_load (i := 1) rfl rfl rfl ?_ | refine pw_load (i := 2) rfl rfl rfl ?_ | refine pw_load (i := 3) rfl rfl rfl ?_ | refine pw_load (i := 4) rfl rfl rfl ?_ | refine pw_load (i := 5) rfl rfl rfl ?_ | refine pw_load_at rfl memr rfl ?_ | refine pw_load_at0 rfl memr rfl ?_ | refine pw_add64 rfl rfl (by omega) (by omega) ?_ | refine pw_sub64 rfl rfl (by omega) (by omega) ?_ | refine pw_mul64 rfl rfl (by omega) (by omega) ?_ | refine pw_quo rfl rfl (by omega) (by omega) (by omega) ?_ | refine pw_rem rfl rfl (by omega) (by omega) ?_ | refine pw_build bldp ?_ | refine pw_makeInterface rfl ?_ | refine pw_load_at rfl memt rfl ?_ | refine pw_load_at0 rfl memt rfl ?_); refine TA_nv ?_)
        all_goals (refine TA_ps 6 sbp ?_; (first | refine pw_mv ?_ | refine pw_as ?_ | refine pw_pick_t rfl evp ?_ | refine pw_pick_f rfl evp ?_ | refine pw_nilCheck rfl ?_ | refine pw_fieldAddr rfl ?_ | refine pw_len rfl ?_ | refine pw_lens rfl ?_ | refine pw_extract rfl rfl ?_ | refine pw_not rfl ?_ | refine pw_makeFuncL agp agp ?_ | refine pw_load (i := 0) rfl rfl rfl ?_ | refine pw_load (i := 1) rfl rfl rfl ?_ | refine pw_load (i := 2) rfl rfl rfl ?_ | refine pw_load (i := 3) rfl rfl rfl ?_ | refine pw_load (i := 4) rfl rfl rfl ?_ | refine pw_load (i := 5) rfl rfl rfl ?_ | refine pw_load_at rfl memr rfl ?_ | refine pw_load_at0 rfl memr rfl ?_ | refine pw_add64 rfl rfl (by omega) (by omega) ?_ | refine pw_sub64 rfl rfl (by omega) (by omega) ?_ | refine pw_mul64 rfl rfl (by omega) (by omega) ?_ | refine pw_quo rfl rfl (by omega) (by omega) (by omega) ?_ | refine pw_rem rfl rfl (by omega) (by omega) ?_ | refine pw_build bldp ?_ | refine pw_makeInterface rfl ?_ | refine pw_load_at rfl memt rfl ?_ | refine pw_load_at0 rfl memt rfl ?_); refine TA_nv ?_)
        all_goals (refine TA_ps 7 sbp ?_; (first | refine pw_mv ?_ | refine pw_as ?_ | refine pw_pick_t rfl evp ?_ | refine pw_pick_f rfl evp ?_ | refine pw_nilCheck rfl ?_ | refine pw_fieldAddr rfl ?_ | refine pw_len rfl ?_ | refine pw_lens rfl ?_ | refine pw_extract rfl rfl ?_ | refine pw_not rfl ?_ | refine pw_makeFuncL agp agp ?_ | refine pw_load (i := 0) rfl rfl rfl ?_ | refine pw_load (i := 1) rfl rfl rfl ?_ | refine pw_load (i := 2) rfl rfl rfl ?_ | refine pw_load (i := 3) rfl rfl rfl ?_ | refine pw_load (i := 4) rfl rfl rfl ?_ | refine pw_load (i := 5) rfl rfl rfl ?_ | refine pw_load_at rfl memr rfl ?_ | refine pw_load_at0 rfl memr rfl ?_ | refine pw_add64 rfl rfl (by omega) (by omega) ?_ | refine pw_sub64 rfl rfl (by omega) (by omega) ?_ | refine pw_mul64 rfl rfl (by omega) (by omega) ?_ | refine pw_quo rfl rfl (by omega) (by omega) (by omega) ?_ | refine pw_rem rfl rfl (by omega) (by omega) ?_ | refine pw_build bldp ?_ | refine pw_makeInterface rfl ?_ | refine pw_load_at rfl memt rfl ?_ | refine pw_load_at0 rfl memt rfl ?_); refine TA_nv ?_)
        refine TA_pre (H' := .blk bZ [.slice none 0 0, .slice none 0 0] 45 :: .blk b8 [.slice A x.length c, .slice A' 0 c'] 45 :: H) (R' := dvR Ad cd Ad2 cd2 dx (Sl (.slice A13 r c13) (ops.take r) :: Sl (.slice Ap ps.length cp) ps :: Sl (.slice AO ops.length cO) ops :: Sl (.slice A x.length c) x :: Sl (.slice A' 0 c') ([] : List DW) :: R)) (fun w hs => hs.weaken sbp kpp) ?_
        exact hG Ad cd Ad2 cd2 bZ
    case hb18 =>
      intro A14 c14 A14b c14b bZ
      refine TA_common _ (List.Sublist.refl _) kpp ?_
      refine TA_g 9 ?_
      refine gw_store (i := 0) rfl clp rfl (by rfl) (by simp) (by simp [Value.oneCell']) ?_
      refine ⟨.inl (fun w hs => hs.weaken sbp kpp), ?_⟩
      refine TA_nv ?_
      refine TA_hq ?_
      all_goals first | (refine TA_ps 10 sbp ?_; (first | refine pw_mv ?_ | refine pw_as ?_ | refine pw_pick_t rfl evp ?_ | refine pw_pick_f rfl evp ?_ | refine pw_nilCheck rfl ?_ | refine pw_fieldAddr rfl ?_ | refine pw_len rfl ?_ | refine pw_lens rfl ?_ | refine pw_extract rfl rfl ?_ | refine pw_not rfl ?_ | refine pw_makeFuncL agp agp ?_ | refine pw_load (i := 0) rfl rfl rfl ?_ | refine pw_load (i := 1) rfl rfl rfl ?_ | refine pw_load (i := 2) rfl rfl rfl ?_ | refine pw_load (i := 3) rfl rfl rfl ?_ | refine pw_load (i := 4) rfl rfl rfl ?_ | refine pw_load (i := 5) rfl rfl rfl ?_ | refine pw_load_at rfl memr rfl ?_ | refine pw_load_at0 rfl memr rfl ?_ | refine pw_add64 rfl rfl (by omega) (by omega) ?_ | refine pw_sub64 rfl rfl (by omega) (by omega) ?_ | refine pw_mul64 rfl rfl (by omega) (by omega) ?_ | refine pw_quo rfl rfl (by omega) (by omega) (by omega) ?_ | refine pw_rem rfl rfl (by omega) (by omega) ?_ | refine pw_build bldp ?_ | refine pw_makeInterface rfl ?_ | refine pw_load_at rfl memt rfl ?_ | refine pw_load_at0 rfl memt rfl ?_); refine TA_nv ?_)
      all_goals refine TA_d ?_
      apply En_then
      repeat' first
        | (refine T_gen rfl rfl ?_; refine gw_alloc clp (fun bY => ?_); refine T_nv ?_)
        | (refine T_ow rfl ?_; refine ow_callf arp ?_; refine crash_k _ _ _ _ _ _ dx ps (by omega) (by omega) hpl memt memt memt (KD_lit ⟨x2, []⟩ 0 hcr1 (fun AY cY AY2 cY2 => ?_)); refine T_nv ?_)
        | (apply TC_seq)
        | (apply TC_region)
        | (apply TC_block)
        | (apply TC_ret)
        | (apply TC_skip)
        | (apply TC_exit)
        | (apply TC_cond_true; exact rfl)
        | (apply TC_cond_false; exact rfl)
        | (apply T_nil)
        | (apply En_then)
        | (apply En_then_ret)
        | (apply En_then_exit)
        | (apply En_then_panic)
        | (apply En_block)
        | (apply En_block_ret)
        | (apply En_block_panic)
        | (apply En_block_exit)
        | (apply En_block_exit_ne; exact rfl)
        | (apply T_load; exact rfl; (first | refine pw_load (i := 0) rfl rfl rfl ?_ | refine pw_load (i := 1) rfl rfl rfl ?_ | refine pw_load (i := 2) rfl rfl rfl ?_ | refine pw_load (i := 3) rfl rfl rfl ?_ | refine pw_load (i := 4) rfl rfl rfl ?_ | refine pw_load (i := 5) rfl rfl rfl ?_ | refine pw_load_at rfl memr rfl ?_ | refine pw_load_at0 rfl memr rfl ?_ | refine pw_load_at rfl memt rfl ?_ | refine pw_load_at0 rfl memt rfl ?_); refine T_nv ?_)
        | (apply T_bin; exact rfl; (first | refine pw_add64 rfl rfl (by omega) (by omega) ?_ | refine pw_sub64 rfl rfl (by omega) (by omega) ?_ | refine pw_mul64 rfl rfl (by omega) (by omega) ?_ | refine pw_quo rfl rfl (by omega) (by omega) (by omega) ?_ | refine pw_rem rfl rfl (by omega) (by omega) ?_); refine T_nv ?_)
        | (apply T_bin; exact rfl; (first | refine pw_lss rfl rfl (fun h => ?_) (fun h => ?_) | refine pw_leq rfl rfl (fun h => ?_) (fun h => ?_) | refine pw_gtr rfl rfl (fun h => ?_) (fun h => ?_) | refine pw_geq rfl rfl (fun h => ?_) (fun h => ?_) | refine pw_eql rfl rfl (fun h => ?_) (fun h => ?_) | refine pw_neq rfl rfl (fun h => ?_) (fun h => ?_)) <;> first | (exfalso; omega) | refine T_nv ?_)
        | (apply T_store; exact rfl; (first | refine gw_store (i := 0) rfl clp rfl (by rfl) (by simp) (by simp [Value.oneCell']) ?_ | refine gw_store (i := 1) rfl clp rfl (by rfl) (by simp) (by simp [Value.oneCell']) ?_ | refine gw_store (i := 2) rfl clp rfl (by rfl) (by simp) (by simp [Value.oneCell']) ?_ | refine gw_store (i := 3) rfl clp rfl (by rfl) (by simp) (by simp [Value.oneCell']) ?_ | refine gw_store (i := 4) rfl clp rfl (by rfl) (by simp) (by simp [Value.oneCell']) ?_ | refine gw_store (i := 5) rfl clp rfl (by rfl) (by simp) (by simp [Value.oneCell']) ?_); refine T_nv ?_; refine T_hq ?_)
        | (refine T_pure rfl rfl ?_; (first | refine pw_mv ?_ | refine pw_as ?_ | refine pw_pick_t rfl evp ?_ | refine pw_pick_f rfl evp ?_ | refine pw_nilCheck rfl ?_ | refine pw_fieldAddr rfl ?_ | refine pw_len rfl ?_ | refine pw_lens rfl ?_ | refine pw_extract rfl rfl ?_ | refine pw_not rfl ?_ | refine pw_makeFuncL agp agp ?_ | refine pw_build bldp ?_ | refine pw_makeInterface rfl ?_); refine T_nv ?_)
        | (refine T_skipped rfl ?_; refine T_nv ?_)
        | (refine T_gen rfl rfl ?_; (first | refine gw_box clp (fun b => ?_) | refine gw_alloc clp (fun b => ?_) | refine gw_buildSlice (by decide) prtp rfl (fun b => ?_)); refine T_nv ?_)
      · rename_i hrr
        obtain rfl : r = ops.length := by omega
        refine En_backS (m - 1) (.blk b8 [.slice AY x2.length cY, .slice AY2 0 cY2] 45 :: H) (dvR AY cY AY2 cY2 ⟨x2, []⟩ R) (by omega) sjp ⟨i + 1, i, x2, AY, cY, AY2, cY2, by omega, rfl, rfl, ?_, rfl, rfl⟩ (fun w hs => hs.weaken sbp kpp)
        rcases hcr3 with h3 | ⟨h3, _⟩
        · exact (hev.whole hma hcr2 h3 hsl).1
        · exact absurd ho6 h3
      · refine En_backS (m - 1) (.blk b8 [.slice AY x2.length cY, .slice AY2 0 cY2] 45 :: H) (dvR AY cY AY2 cY2 ⟨x2, []⟩ R) (by omega) sjp ⟨i + 1, last, x2, AY, cY, AY2, cY2, by omega, rfl, rfl, ?_, rfl, rfl⟩ (fun w hs => hs.weaken sbp kpp)
        rcases hcr3 with h3 | ⟨_, h3⟩
        · exact (hev.whole hma hcr2 h3 hsl).2
        · exact hev.same hcr2 h3
  · obtain rfl : i = ms.length := by omega
    obtain ⟨hc, hl1, hl2, hcase⟩ := hev
    rcases hcase with ⟨hla, hneg⟩ | ⟨t, mt, ht1, ht2, hmt, hla, hsl⟩
    · have hld : loadD' ⟨x, []⟩ = (maZ, 302) := by unfold loadD'; rw [hla]; rfl
      repeat' first
        | (refine T_ow rfl ?_; refine ow_callf arp ?_; refine load_k _ _ _ _ ⟨x, []⟩ (by simp only; omega) (Nat.zero_le _) memt memt (KL_eq hld.symm (fun y hy => ?_)); refine T_nv ?_)
        | (apply TC_seq)
        | (apply TC_region)
        | (apply TC_block)
        | (apply TC_ret)
        | (apply TC_skip)
        | (apply TC_exit)
        | (apply TC_cond_true; exact rfl)
        | (apply TC_cond_false; exact rfl)
        | (apply T_nil)
        | (apply En_then)
        | (apply En_then_ret)
        | (apply En_then_exit)
        | (apply En_then_panic)
        | (apply En_block)
        | (apply En_block_ret)
        | (apply En_block_panic)
        | (apply En_block_exit)
        | (apply En_block_exit_ne; exact rfl)
        | (apply T_load; exact rfl; (first | refine pw_load (i := 0) rfl rfl rfl ?_ | refine pw_load (i := 1) rfl rfl rfl ?_ | refine pw_load (i := 2) rfl rfl rfl ?_ | refine pw_load (i := 3) rfl rfl rfl ?_ | refine pw_load (i := 4) rfl rfl rfl ?_ | refine pw_load (i := 5) rfl rfl rfl ?_ | refine pw_load_at rfl memr rfl ?_ | refine pw_load_at0 rfl memr rfl ?_ | refine pw_load_at rfl memt rfl ?_ | refine pw_load_at0 rfl memt rfl ?_); refine T_nv ?_)
        | (apply T_bin; exact rfl; (first | refine pw_add64 rfl rfl (by omega) (by omega) ?_ | refine pw_sub64 rfl rfl (by omega) (by omega) ?_ | refine pw_mul64 rfl rfl (by omega) (by omega) ?_ | refine pw_quo rfl rfl (by omega) (by omega) (by omega) ?_ | refine pw_rem rfl rfl (by omega) (by omega) ?_); refine T_nv ?_)
        | (apply T_bin; exact rfl; (first | refine pw_lss rfl rfl (fun h => ?_) (fun h => ?_) | refine pw_leq rfl rfl (fun h => ?_) (fun h => ?_) | refine pw_gtr rfl rfl (fun h => ?_) (fun h => ?_) | refine pw_geq rfl rfl (fun h => ?_) (fun h => ?_) | refine pw_eql rfl rfl (fun h => ?_) (fun h => ?_) | refine pw_neq rfl rfl (fun h => ?_) (fun h => ?_)) <;> first | (exfalso; omega) | refine T_nv ?_)
        | (refine T_pure rfl rfl ?_; (first | refine pw_mv ?_ | refine pw_as ?_ | refine pw_pick_t rfl evp ?_ | refine pw_pick_f rfl evp ?_ | refine pw_nilCheck rfl ?_ | refine pw_fieldAddr rfl ?_ | refine pw_len rfl ?_ | refine pw_lens rfl ?_ | refine pw_extract rfl rfl ?_ | refine pw_not rfl ?_ | refine pw_makeFuncL agp agp ?_ | refine pw_build bldp ?_ | refine pw_makeInterface rfl ?_); refine T_nv ?_)
        | (refine T_skipped rfl ?_; refine T_nv ?_)
        | (refine T_gen rfl rfl ?_; (first | refine gw_box clp (fun b => ?_) | refine gw_alloc clp (fun b => ?_) | refine gw_buildSlice (by decide) prtp rfl (fun b => ?_)); refine T_nv ?_)
      have hly : (Unp.cs maZ y).length = 16 := UnpL.len maZ y
      repeat' first
        | (refine T_gen rfl rfl ?_; refine gw_alloc clp (fun bS => ?_); refine T_nv ?_)
        | (refine T_gen rfl rfl ?_; refine gw_store (i := 0) (vs := Unp.cs maZ y) rfl rfl rfl hly (by simp) (UnpL.one _ _) ?_; rw [overlay_all (by rw [hly]; rfl)]; refine T_nv ?_; refine T_hq ?_)
        | (apply TC_seq)
        | (apply TC_region)
        | (apply TC_block)
        | (apply TC_ret)
        | (apply TC_skip)
        | (apply TC_exit)
        | (apply TC_cond_true; exact rfl)
        | (apply TC_cond_false; exact rfl)
        | (apply T_nil)
        | (apply En_then)
        | (apply En_then_ret)
        | (apply En_then_exit)
        | (apply En_then_panic)
        | (apply En_block)
        | (apply En_block_ret)
        | (apply En_block_panic)
        | (apply En_block_exit)
        | (apply En_block_exit_ne; exact rfl)
        | (apply T_load; exact rfl; (first | refine pw_load (i := 0) rfl rfl rfl ?_ | refine pw_load (i := 1) rfl rfl rfl ?_ | refine pw_load (i := 2) rfl rfl rfl ?_ | refine pw_load (i := 3) rfl rfl rfl ?_ | refine pw_load (i := 4) rfl rfl rfl ?_ | refine pw_load (i := 5) rfl rfl rfl ?_ | refine pw_load_at rfl memr rfl ?_ | refine pw_load_at0 rfl memr rfl ?_ | refine pw_load_at rfl memt rfl ?_ | refine pw_load_at0 rfl memt rfl ?_); refine T_nv ?_)
        | (apply T_bin; exact rfl; (first | refine pw_add64 rfl rfl (by omega) (by omega) ?_ | refine pw_sub64 rfl rfl (by omega) (by omega) ?_ | refine pw_mul64 rfl rfl (by omega) (by omega) ?_ | refine pw_quo rfl rfl (by omega) (by omega) (by omega) ?_ | refine pw_rem rfl rfl (by omega) (by omega) ?_); refine T_nv ?_)
        | (apply T_bin; exact rfl; (first | refine pw_lss rfl rfl (fun h => ?_) (fun h => ?_) | refine pw_leq rfl rfl (fun h => ?_) (fun h => ?_) | refine pw_gtr rfl rfl (fun h => ?_) (fun h => ?_) | refine pw_geq rfl rfl (fun h => ?_) (fun h => ?_) | refine pw_eql rfl rfl (fun h => ?_) (fun h => ?_) | refine pw_neq rfl rfl (fun h => ?_) (fun h => ?_)) <;> first | (exfalso; omega) | refine T_nv ?_)
        | (refine T_pure rfl rfl ?_; (first | refine pw_mv ?_ | refine pw_as ?_ | refine pw_pick_t rfl evp ?_ | refine pw_pick_f rfl evp ?_ | refine pw_nilCheck rfl ?_ | refine pw_fieldAddr rfl ?_ | refine pw_len rfl ?_ | refine pw_lens rfl ?_ | refine pw_extract rfl rfl ?_ | refine pw_not rfl ?_ | refine pw_makeFuncL agp agp ?_ | refine pw_build bldp ?_ | refine pw_makeInterface rfl ?_); refine T_nv ?_)
        | (refine T_skipped rfl ?_; refine T_nv ?_)
        | (refine T_gen rfl rfl ?_; (first | refine gw_box clp (fun b => ?_) | refine gw_alloc clp (fun b => ?_) | refine gw_buildSlice (by decide) prtp rfl (fun b => ?_)); refine T_nv ?_)
      exact En_fin (.inl rfl) (res1 rfl (rv_tmp rfl)) (fin_K H R (fun w hs => hs.weaken sbp (fun p hp => List.mem_append_right _ (List.mem_cons_of_mem _ (List.mem_cons_of_mem _ hp)))) k)
    · have hvt := hvd t mt hmt
      have hld : loadD' ⟨x, []⟩ = (mt, 0) := by unfold loadD'; rw [hla]; simp only; rw [if_pos trivial, decR_st hvt hsl]
      obtain ⟨q0, hq0, hq1⟩ : ∃ q0 : Nat, (if (0 : Int) > last then (0 : Int) else last) = (q0 : Int) ∧ q0 ≤ t := by
        by_cases h : (0 : Int) > last
        · exact ⟨0, by rw [if_pos h]; rfl, by omega⟩
        · exact ⟨last.toNat, by rw [if_neg h]; omega, by omega⟩
      repeat' first
        | (refine T_ow rfl ?_; refine ow_callf arp ?_; refine load_k _ _ _ _ ⟨x, []⟩ (by simp only; omega) (Nat.zero_le _) memt memt (KL_eq hld.symm (fun y hy => ?_)); refine T_nv ?_)
        | (apply TC_seq)
        | (apply TC_region)
        | (apply TC_block)
        | (apply TC_ret)
        | (apply TC_skip)
        | (apply TC_exit)
        | (apply TC_cond_true; exact rfl)
        | (apply TC_cond_false; exact rfl)
        | (apply T_nil)
        | (apply En_then)
        | (apply En_then_ret)
        | (apply En_then_exit)
        | (apply En_then_panic)
        | (apply En_block)
        | (apply En_block_ret)
        | (apply En_block_panic)
        | (apply En_block_exit)
        | (apply En_block_exit_ne; exact rfl)
        | (apply T_load; exact rfl; (first | refine pw_load (i := 0) rfl rfl rfl ?_ | refine pw_load (i := 1) rfl rfl rfl ?_ | refine pw_load (i := 2) rfl rfl rfl ?_ | refine pw_load (i := 3) rfl rfl rfl ?_ | refine pw_load (i := 4) rfl rfl rfl ?_ | refine pw_load (i := 5) rfl rfl rfl ?_ | refine pw_load_at rfl memr rfl ?_ | refine pw_load_at0 rfl memr rfl ?_ | refine pw_load_at rfl memt rfl ?_ | refine pw_load_at0 rfl memt rfl ?_); refine T_nv ?_)
        | (apply T_bin; exact rfl; (first | refine pw_add64 rfl rfl (by omega) (by omega) ?_ | refine pw_sub64 rfl rfl (by omega) (by omega) ?_ | refine pw_mul64 rfl rfl (by omega) (by omega) ?_ | refine pw_quo rfl rfl (by omega) (by omega) (by omega) ?_ | refine pw_rem rfl rfl (by omega) (by omega) ?_); refine T_nv ?_)
        | (apply T_bin; exact rfl; (first | refine pw_lss rfl rfl (fun h => ?_) (fun h => ?_) | refine pw_leq rfl rfl (fun h => ?_) (fun h => ?_) | refine pw_gtr rfl rfl (fun h => ?_) (fun h => ?_) | refine pw_geq rfl rfl (fun h => ?_) (fun h => ?_) | refine pw_eql rfl rfl (fun h => ?_) (fun h => ?_) | refine pw_neq rfl rfl (fun h => ?_) (fun h => ?_)) <;> first | (exfalso; omega) | refine T_nv ?_)
        | (refine T_pure rfl rfl ?_; (first | refine pw_mv ?_ | refine pw_as ?_ | refine pw_pick_t rfl evp ?_ | refine pw_pick_f rfl evp ?_ | refine pw_nilCheck rfl ?_ | refine pw_fieldAddr rfl ?_ | refine pw_len rfl ?_ | refine pw_lens rfl ?_ | refine pw_extract rfl rfl ?_ | refine pw_not rfl ?_ | refine pw_makeFuncL agp agp ?_ | refine pw_build bldp ?_ | refine pw_makeInterface rfl ?_); refine T_nv ?_)
        | (refine T_skipped rfl ?_; refine T_nv ?_)
        | (refine T_gen rfl rfl ?_; (first | refine gw_box clp (fun b => ?_) | refine gw_alloc clp (fun b => ?_) | refine gw_buildSlice (by decide) prtp rfl (fun b => ?_)); refine T_nv ?_)
      have hly : (Unp.cs mt y).length = 16 := UnpL.len mt y
      repeat' first
        | (refine T_gen rfl rfl ?_; refine gw_alloc clp (fun bS => ?_); refine T_nv ?_)
        | (refine T_gen rfl rfl ?_; refine gw_store (i := 0) (vs := Unp.cs mt y) rfl rfl rfl hly (by simp) (UnpL.one _ _) ?_; rw [overlay_all (by rw [hly]; rfl)]; refine T_nv ?_; refine T_hq ?_)
        | (refine T_pure rfl rfl ?_; refine pw_max2 rfl rfl ?_; rw [hq0]; refine T_nv ?_)
        | (apply TC_seq)
        | (apply TC_region)
        | (apply TC_block)
        | (apply TC_ret)
        | (apply TC_skip)
        | (apply TC_exit)
        | (apply TC_cond_true; exact rfl)
        | (apply TC_cond_false; exact rfl)
        | (apply T_nil)
        | (apply En_then)
        | (apply En_then_ret)
        | (apply En_then_exit)
        | (apply En_then_panic)
        | (apply En_block)
        | (apply En_block_ret)
        | (apply En_block_panic)
        | (apply En_block_exit)
        | (apply En_block_exit_ne; exact rfl)
        | (apply T_load; exact rfl; (first | refine pw_load (i := 0) rfl rfl rfl ?_ | refine pw_load (i := 1) rfl rfl rfl ?_ | refine pw_load (i := 2) rfl rfl rfl ?_ | refine pw_load (i := 3) rfl rfl rfl ?_ | refine pw_load (i := 4) rfl rfl rfl ?_ | refine pw_load (i := 5) rfl rfl rfl ?_ | refine pw_load_at rfl memr rfl ?_ | refine pw_load_at0 rfl memr rfl ?_ | refine pw_load_at rfl memt rfl ?_ | refine pw_load_at0 rfl memt rfl ?_); refine T_nv ?_)
        | (apply T_bin; exact rfl; (first | refine pw_add64 rfl rfl (by omega) (by omega) ?_ | refine pw_sub64 rfl rfl (by omega) (by omega) ?_ | refine pw_mul64 rfl rfl (by omega) (by omega) ?_ | refine pw_quo rfl rfl (by omega) (by omega) (by omega) ?_ | refine pw_rem rfl rfl (by omega) (by omega) ?_); refine T_nv ?_)
        | (apply T_bin; exact rfl; (first | refine pw_lss rfl rfl (fun h => ?_) (fun h => ?_) | refine pw_leq rfl rfl (fun h => ?_) (fun h => ?_) | refine pw_gtr rfl rfl (fun h => ?_) (fun h => ?_) | refine pw_geq rfl rfl (fun h => ?_) (fun h => ?_) | refine pw_eql rfl rfl (fun h => ?_) (fun h => ?_) | refine pw_neq rfl rfl (fun h => ?_) (fun h => ?_)) <;> first | (exfalso; omega) | refine T_nv ?_)
        | (refine T_pure rfl rfl ?_; (first | refine pw_mv ?_ | refine pw_as ?_ | refine pw_pick_t rfl evp ?_ | refine pw_pick_f rfl evp ?_ | refine pw_nilCheck rfl ?_ | refine pw_fieldAddr rfl ?_ | refine pw_len rfl ?_ | refine pw_lens rfl ?_ | refine pw_extract rfl rfl ?_ | refine pw_not rfl ?_ | refine pw_makeFuncL agp agp ?_ | refine pw_build bldp ?_ | refine pw_makeInterface rfl ?_); refine T_nv ?_)
        | (refine T_skipped rfl ?_; refine T_nv ?_)
        | (refine T_gen rfl rfl ?_; (first | refine gw_box clp (fun b => ?_) | refine gw_alloc clp (fun b => ?_) | refine gw_buildSlice (by decide) prtp rfl (fun b => ?_)); refine T_nv ?_)
      obtain ⟨R2, hR2⟩ : ∃ R2, Unp.fs mt y ++ R = R2 := ⟨_, rfl⟩
      have hfy : ∀ p ∈ Unp.fs mt y, p ∈ R2 := fun p hp => hR2 ▸ List.mem_append_left _ hp
      have hRR : ∀ p ∈ R, p ∈ R2 := fun p hp => hR2 ▸ List.mem_append_right _ hp
      have hme2 := hme.mono hRR
      refine TC_weaken (.blk b (Unp.cs mt y) 32 :: H) R2 (fun w hs => hs.weaken sbp (fun p hp => by
        rw [← hR2] at hp
        rcases List.mem_append.1 hp with hp | hp
        · exact List.mem_append_left _ hp
        · exact List.mem_append_right _ (List.mem_cons_of_mem _ (List.mem_cons_of_mem _ hp)))) ?_
      refine TC_loopS [6, 22, 127, 128, 129, 130, 131, 132, 133, 134, 135, 136, 137, 138, 139] (fun m j H' R' => ∃ q : Nat, q + m = t ∧ j 22 = .int .i64 (q : Int) ∧ (.blk b (Unp.cs mt y) 32 :: H) = H' ∧ R2 = R') (t - q0) sjp ⟨q0, by omega, rfl, rfl, rfl⟩ ?_
      rintro m j2 H' R' ⟨q, hq, h22, hH, hR⟩
      subst hH; subst hR
      refine TC_env (by simp only [setJ, List.foldl_cons, List.foldl_nil, List.set_cons_succ, List.set_cons_zero, h22]; rfl) ?_
      obtain ⟨mq, hmq⟩ : ∃ mq, ms[q]? = some mq := ⟨_, List.getElem?_eq_getElem (by omega)⟩
      obtain ⟨bm, om, yq, hA1, hok, hfs, hat⟩ := hme2 q mq hmq
      have hat' : At bm (om + ((q : Nat) : Int).toNat * 16) (Unp.cs mq yq) ∈ R2 := hat
      have hlen : (Unp.cs mq yq).length = 16 := UnpL.len mq yq
      subst hA1
      repeat' first
        | (apply TC_seq)
        | (apply TC_region)
        | (apply TC_block)
        | (apply TC_ret)
        | (apply TC_skip)
        | (apply TC_exit)
        | (apply TC_cond_true; exact rfl)
        | (apply TC_cond_false; exact rfl)
        | (apply T_nil)
        | (apply En_then)
        | (apply En_then_ret)
        | (apply En_then_exit)
        | (apply En_then_panic)
        | (apply En_block)
        | (apply En_block_ret)
        | (apply En_block_panic)
        | (apply En_block_exit)
        | (apply En_block_exit_ne; exact rfl)
        | (apply T_load; exact rfl; (first | refine pw_load (i := 0) rfl rfl rfl ?_ | refine pw_load (i := 1) rfl rfl rfl ?_ | refine pw_load (i := 2) rfl rfl rfl ?_ | refine pw_load (i := 3) rfl rfl rfl ?_ | refine pw_load (i := 4) rfl rfl rfl ?_ | refine pw_load (i := 5) rfl rfl rfl ?_ | refine pw_load_at rfl memr rfl ?_ | refine pw_load_at0 rfl memr rfl ?_ | refine pw_load_at rfl memt rfl ?_ | refine pw_load_at0 rfl memt rfl ?_); refine T_nv ?_)
        | (apply T_bin; exact rfl; (first | refine pw_add64 rfl rfl (by omega) (by omega) ?_ | refine pw_sub64 rfl rfl (by omega) (by omega) ?_ | refine pw_mul64 rfl rfl (by omega) (by omega) ?_ | refine pw_quo rfl rfl (by omega) (by omega) (by omega) ?_ | refine pw_rem rfl rfl (by omega) (by omega) ?_); refine T_nv ?_)
        | (apply T_bin; exact rfl; (first | refine pw_lss rfl rfl (fun h => ?_) (fun h => ?_) | refine pw_leq rfl rfl (fun h => ?_) (fun h => ?_) | refine pw_gtr rfl rfl (fun h => ?_) (fun h => ?_) | refine pw_geq rfl rfl (fun h => ?_) (fun h => ?_) | refine pw_eql rfl rfl (fun h => ?_) (fun h => ?_) | refine pw_neq rfl rfl (fun h => ?_) (fun h => ?_)) <;> first | (exfalso; omega) | refine T_nv ?_)
        | (refine T_pure rfl rfl ?_; (first | refine pw_mv ?_ | refine pw_as ?_ | refine pw_pick_t rfl evp ?_ | refine pw_pick_f rfl evp ?_ | refine pw_nilCheck rfl ?_ | refine pw_fieldAddr rfl ?_ | refine pw_len rfl ?_ | refine pw_lens rfl ?_ | refine pw_extract rfl rfl ?_ | refine pw_not rfl ?_ | refine pw_makeFuncL agp agp ?_ | refine pw_build bldp ?_ | refine pw_makeInterface rfl ?_); refine T_nv ?_)
        | (refine T_skipped rfl ?_; refine T_nv ?_)
        | (refine T_gen rfl rfl ?_; (first | refine gw_box clp (fun b => ?_) | refine gw_alloc clp (fun b => ?_) | refine gw_buildSlice (by decide) prtp rfl (fun b => ?_)); refine T_nv ?_)
      refine TC_draw mixed (by decide +kernel) (fun _ _ _ _ _ _ h => h) (List.Sublist.refl _) ?_
      all_goals first | (refine TA_p 0 ?_; (first | refine pw_index_at (b := bm) (o := om) (n := ms.length) rfl rfl (by omega) (by omega) ?_ | refine pw_load (i := 0) (v := .agg (Unp.cs mt y).toArray) rfl rfl (cellsVal_all hly) ?_ | refine pw_load_at0 (b := bm) rfl memt (cellsVal_all hlen) ?_ | refine pw_mv ?_ | refine pw_as ?_ | refine pw_pick_t rfl evp ?_ | refine pw_pick_f rfl evp ?_ | refine pw_nilCheck rfl ?_ | refine pw_fieldAddr rfl ?_ | refine pw_len rfl ?_ | refine pw_lens rfl ?_ | refine pw_extract rfl rfl ?_ | refine pw_not rfl ?_ | refine pw_makeFuncL agp agp ?_ | refine pw_load (i := 0) rfl rfl rfl ?_ | refine pw_load (i := 1) rfl rfl rfl ?_ | refine pw_load (i := 2) rfl rfl rfl ?_ | refine pw_load (i := 3) rfl rfl rfl ?_ | refine pw_load (i := 4) rfl rfl rfl ?_ | refine pw_load (i := 5) rfl rfl rfl ?_ | refine pw_load_at rfl memr rfl ?_ | refine pw_load_at0 rfl memr rfl ?_ | refine pw_add64 rfl rfl (by omega) (by omega) ?_ | refine pw_sub64 rfl rfl (by omega) (by omega) ?_ | refine pw_mul64 rfl rfl (by omega) (by omega) ?_ | refine pw_quo rfl rfl (by omega) (by omega) (by omega) ?_ | refine pw_rem rfl rfl (by omega) (by omega) ?_ | refine pw_build bldp ?_ | refine pw_makeInterface rfl ?_ | refine pw_load_at rfl memt rfl ?_ | refine pw_load_at0 rfl memt rfl ?_); refine TA_nv ?_)
      all_goals first | (refine TA_p 1 ?_; (first | refine pw_index_at (b := bm) (o := om) (n := ms.length) rfl rfl (by omega) (by omega) ?_ | refine pw_load (i := 0) (v := .agg (Unp.cs mt y).toArray) rfl rfl (cellsVal_all hly) ?_ | refine pw_load_at0 (b := bm) rfl memt (cellsVal_all hlen) ?_ | refine pw_mv ?_ | refine pw_as ?_ | refine pw_pick_t rfl evp ?_ | refine pw_pick_f rfl evp ?_ | refine pw_nilCheck rfl ?_ | refine pw_fieldAddr rfl ?_ | refine pw_len rfl ?_ | refine pw_lens rfl ?_ | refine pw_extract rfl rfl ?_ | refine pw_not rfl ?_ | refine pw_makeFuncL agp agp ?_ | refine pw_load (i := 0) rfl rfl rfl ?_ | refine pw_load (i := 1) rfl rfl rfl ?_ | refine pw_load (i := 2) rfl rfl rfl ?_ | refine pw_load (i := 3) rfl rfl rfl ?_ | refine pw_load (i := 4) rfl rfl rfl ?_ | refine pw_load (i := 5) rfl rfl rfl ?_ | refine pw_load_at rfl memr rfl ?_ | refine pw_load_at0 rfl memr rfl ?_ | refine pw_add64 rfl rfl (by omega) (by omega) ?_ | refine pw_sub64 rfl rfl (by omega) (by omega) ?_ | refine pw_mul64 rfl rfl (by omega) (by omega) ?_ | refine pw_quo rfl rfl (by omega) (by omega) (by omega) ?_ | refine pw_rem rfl rfl (by omega) (by omega) ?_ | refine pw_build bldp ?_ | refine pw_makeInterface rfl ?_ | refine pw_load_at rfl memt rfl ?_ | refine pw_load_at0 rfl memt rfl ?_); refine TA_nv ?_)
      all_goals first | (refine TA_p 2 ?_; (first | refine pw_index_at (b := bm) (o := om) (n := ms.length) rfl rfl (by omega) (by omega) ?_ | refine pw_load (i := 0) (v := .agg (Unp.cs mt y).toArray) rfl rfl (cellsVal_all hly) ?_ | refine pw_load_at0 (b := bm) rfl memt (cellsVal_all hlen) ?_ | refine pw_mv ?_ | refine pw_as ?_ | refine pw_pick_t rfl evp ?_ | refine pw_pick_f rfl evp ?_ | refine pw_nilCheck rfl ?_ | refine pw_fieldAddr rfl ?_ | refine pw_len rfl ?_ | refine pw_lens rfl ?_ | refine pw_extract rfl rfl ?_ | refine pw_not rfl ?_ | refine pw_makeFuncL agp agp ?_ | refine pw_load (i := 0) rfl rfl rfl ?_ | refine pw_load (i := 1) rfl rfl rfl ?_ | refine pw_load (i := 2) rfl rfl rfl ?_ | refine pw_load (i := 3) rfl rfl rfl ?_ | refine pw_load (i := 4) rfl rfl rfl ?_ | refine pw_load (i := 5) rfl rfl rfl ?_ | refine pw_load_at rfl memr rfl ?_ | refine pw_load_at0 rfl memr rfl ?_ | refine pw_add64 rfl rfl (by omega) (by omega) ?_ | refine pw_sub64 rfl rfl (by omega) (by omega) ?_ | refine pw_mul64 rfl rfl (by omega) (by omega) ?_ | refine pw_quo rfl rfl (by omega) (by omega) (by omega) ?_ | refine pw_rem rfl rfl (by omega) (by omega) ?_ | refine pw_build bldp ?_ | refine pw_makeInterface rfl ?_ | refine pw_load_at rfl memt rfl ?_ | refine pw_load_at0 rfl memt rfl ?_); refine TA_nv ?_)
      all_goals first | (refine TA_p 3 ?_; (first | refine pw_index_bN evp rfl memt (List.getElem?_eq_getElem (by omega)) (fun b o => ?_) | refine pw_index_iN evp rfl memt (List.getElem?_eq_getElem (by omega)) (fun b o hI => ?_) | refine pw_index_wN evp rfl memt (List.getElem?_eq_getElem (by omega)) (fun b o A c hI hL => ?_) | refine pw_index_opN evp rfl memt (List.getElem?_eq_getElem (by omega)) (fun b o A c hI hI2 hL => ?_) | refine pw_index_rN evp rfl memt (List.getElem?_eq_getElem (by omega)) (fun b o hI => ?_) | refine pw_index_b evp rfl memt (List.getElem?_eq_getElem (by omega)) (by omega) (fun b o => ?_) | refine pw_index_i evp rfl memt (List.getElem?_eq_getElem (by omega)) (by omega) (fun b o hI => ?_) | refine pw_index_w evp rfl memt (List.getElem?_eq_getElem (by omega)) (by omega) (fun b o A c hI hL => ?_) | refine pw_index_op evp rfl memt (List.getElem?_eq_getElem (by omega)) (by omega) (fun b o A c hI hI2 hL => ?_) | refine pw_index_r evp rfl memt (List.getElem?_eq_getElem (by omega)) (by omega) (fun b o hI => ?_)); refine TA_nv ?_) | (refine TA_p 3 ?_; (first | refine pw_index_at (b := bm) (o := om) (n := ms.length) rfl rfl (by omega) (by omega) ?_ | refine pw_load (i := 0) (v := .agg (Unp.cs mt y).toArray) rfl rfl (cellsVal_all hly) ?_ | refine pw_load_at0 (b := bm) rfl memt (cellsVal_all hlen) ?_ | refine pw_mv ?_ | refine pw_as ?_ | refine pw_pick_t rfl evp ?_ | refine pw_pick_f rfl evp ?_ | refine pw_nilCheck rfl ?_ | refine pw_fieldAddr rfl ?_ | refine pw_len rfl ?_ | refine pw_lens rfl ?_ | refine pw_extract rfl rfl ?_ | refine pw_not rfl ?_ | refine pw_makeFuncL agp agp ?_ | refine pw_load (i := 0) rfl rfl rfl ?_ | refine pw_load (i := 1) rfl rfl rfl ?_ | refine pw_load (i := 2) rfl rfl rfl ?_ | refine pw_load (i := 3) rfl rfl rfl ?_ | refine pw_load (i := 4) rfl rfl rfl ?_ | refine pw_load (i := 5) rfl rfl rfl ?_ | refine pw_load_at rfl memr rfl ?_ | refine pw_load_at0 rfl memr rfl ?_ | refine pw_add64 rfl rfl (by omega) (by omega) ?_ | refine pw_sub64 rfl rfl (by omega) (by omega) ?_ | refine pw_mul64 rfl rfl (by omega) (by omega) ?_ | refine pw_quo rfl rfl (by omega) (by omega) (by omega) ?_ | refine pw_rem rfl rfl (by omega) (by omega) ?_ | refine pw_build bldp ?_ | refine pw_makeInterface rfl ?_ | refine pw_load_at rfl memt rfl ?_ | refine pw_load_at0 rfl memt rfl ?_); refine TA_nv ?_)
      all_goals first | (refine TA_p 4 ?_; (first | refine pw_index_at (b := bm) (o := om) (n := ms.length) rfl rfl (by omega) (by omega) ?_ | refine pw_load (i := 0) (v := .agg (Unp.cs mt y).toArray) rfl rfl (cellsVal_all hly) ?_ | refine pw_load_at0 (b := bm) rfl memt (cellsVal_all hlen) ?_ | refine pw_mv ?_ | refine pw_as ?_ | refine pw_pick_t rfl evp ?_ | refine pw_pick_f rfl evp ?_ | refine pw_nilCheck rfl ?_ | refine pw_fieldAddr rfl ?_ | refine pw_len rfl ?_ | refine pw_lens rfl ?_ | refine pw_extract rfl rfl ?_ | refine pw_not rfl ?_ | refine pw_makeFuncL agp agp ?_ | refine pw_load (i := 0) rfl rfl rfl ?_ | refine pw_load (i := 1) rfl rfl rfl ?_ | refine pw_load (i := 2) rfl rfl rfl ?_ | refine pw_load (i := 3) rfl rfl rfl ?_ | refine pw_load (i := 4) rfl rfl rfl ?_ | refine pw_load (i := 5) rfl rfl rfl ?_ | refine pw_load_at rfl memr rfl ?_ | refine pw_load_at0 rfl memr rfl ?_ | refine pw_add64 rfl rfl (by omega) (by omega) ?_ | refine pw_sub64 rfl rfl (by omega) (by omega) ?_ | refine pw_mul64 rfl rfl (by omega) (by omega) ?_ | refine pw_quo rfl rfl (by omega) (by omega) (by omega) ?_ | refine pw_rem rfl rfl (by omega) (by omega) ?_ | refine pw_build bldp ?_ | refine pw_makeInterface rfl ?_ | refine pw_load_at rfl memt rfl ?_ | refine pw_load_at0 rfl memt rfl ?_); refine TA_nv ?_)
      -- left: [5]; ready: [5]: ['call']
      refine TA_o 5 ?_
      refine ow_callf arp ?_; refine same26_k mt mq y yq hfy hfs (fun rr hrr => ?_)
      refine ⟨.inl (fun w hs => hs.weaken sbp kpp), ?_⟩; refine TA_nv ?_
      cases rr
      · have hqt : q ≠ t := fun h => by
          subst h
          rw [hmt] at hmq
          injection hmq with hmq
          exact absurd (hrr hmq) (by decide)
        all_goals refine TA_d ?_
        repeat' first
          | (apply TC_seq)
          | (apply TC_region)
          | (apply TC_block)
          | (apply TC_ret)
          | (apply TC_skip)
          | (apply TC_exit)
          | (apply TC_cond_true; exact rfl)
          | (apply TC_cond_false; exact rfl)
          | (apply T_nil)
          | (apply En_then)
          | (apply En_then_ret)
          | (apply En_then_exit)
          | (apply En_then_panic)
          | (apply En_block)
          | (apply En_block_ret)
          | (apply En_block_panic)
          | (apply En_block_exit)
          | (apply En_block_exit_ne; exact rfl)
          | (apply T_load; exact rfl; (first | refine pw_load (i := 0) rfl rfl rfl ?_ | refine pw_load (i := 1) rfl rfl rfl ?_ | refine pw_load (i := 2) rfl rfl rfl ?_ | refine pw_load (i := 3) rfl rfl rfl ?_ | refine pw_load (i := 4) rfl rfl rfl ?_ | refine pw_load (i := 5) rfl rfl rfl ?_ | refine pw_load_at rfl memr rfl ?_ | refine pw_load_at0 rfl memr rfl ?_ | refine pw_load_at rfl memt rfl ?_ | refine pw_load_at0 rfl memt rfl ?_); refine T_nv ?_)
          | (apply T_bin; exact rfl; (first | refine pw_add64 rfl rfl (by omega) (by omega) ?_ | refine pw_sub64 rfl rfl (by omega) (by omega) ?_ | refine pw_mul64 rfl rfl (by omega) (by omega) ?_ | refine pw_quo rfl rfl (by omega) (by omega) (by omega) ?_ | refine pw_rem rfl rfl (by omega) (by omega) ?_); refine T_nv ?_)
          | (apply T_bin; exact rfl; (first | refine pw_lss rfl rfl (fun h => ?_) (fun h => ?_) | refine pw_leq rfl rfl (fun h => ?_) (fun h => ?_) | refine pw_gtr rfl rfl (fun h => ?_) (fun h => ?_) | refine pw_geq rfl rfl (fun h => ?_) (fun h => ?_) | refine pw_eql rfl rfl (fun h => ?_) (fun h => ?_) | refine pw_neq rfl rfl (fun h => ?_) (fun h => ?_)) <;> first | (exfalso; omega) | refine T_nv ?_)
          | (refine T_pure rfl rfl ?_; (first | refine pw_mv ?_ | refine pw_as ?_ | refine pw_pick_t rfl evp ?_ | refine pw_pick_f rfl evp ?_ | refine pw_nilCheck rfl ?_ | refine pw_fieldAddr rfl ?_ | refine pw_len rfl ?_ | refine pw_lens rfl ?_ | refine pw_extract rfl rfl ?_ | refine pw_not rfl ?_ | refine pw_makeFuncL agp agp ?_ | refine pw_build bldp ?_ | refine pw_makeInterface rfl ?_); refine T_nv ?_)
          | (refine T_skipped rfl ?_; refine T_nv ?_)
          | (refine T_gen rfl rfl ?_; (first | refine gw_box clp (fun b => ?_) | refine gw_alloc clp (fun b => ?_) | refine gw_buildSlice (by decide) prtp rfl (fun b => ?_)); refine T_nv ?_)
        exact En_backS (m - 1) (.blk b (Unp.cs mt y) 32 :: H) R2 (by omega) sjp ⟨q + 1, by omega, rfl, rfl, rfl⟩ (fun w hs => hs.weaken sbp kpp)
      · skip
        all_goals refine TA_d ?_
        repeat' first
          | (apply TC_seq)
          | (apply TC_region)
          | (apply TC_block)
          | (apply TC_ret)
          | (apply TC_skip)
          | (apply TC_exit)
          | (apply TC_cond_true; exact rfl)
          | (apply TC_cond_false; exact rfl)
          | (apply T_nil)
          | (apply En_then)
          | (apply En_then_ret)
          | (apply En_then_exit)
          | (apply En_then_panic)
          | (apply En_block)
          | (apply En_block_ret)
          | (apply En_block_panic)
          | (apply En_block_exit)
          | (apply En_block_exit_ne; exact rfl)
          | (apply T_load; exact rfl; (first | refine pw_load (i := 0) rfl rfl rfl ?_ | refine pw_load (i := 1) rfl rfl rfl ?_ | refine pw_load (i := 2) rfl rfl rfl ?_ | refine pw_load (i := 3) rfl rfl rfl ?_ | refine pw_load (i := 4) rfl rfl rfl ?_ | refine pw_load (i := 5) rfl rfl rfl ?_ | refine pw_load_at rfl memr rfl ?_ | refine pw_load_at0 rfl memr rfl ?_ | refine pw_load_at rfl memt rfl ?_ | refine pw_load_at0 rfl memt rfl ?_); refine T_nv ?_)
          | (apply T_bin; exact rfl; (first | refine pw_add64 rfl rfl (by omega) (by omega) ?_ | refine pw_sub64 rfl rfl (by omega) (by omega) ?_ | refine pw_mul64 rfl rfl (by omega) (by omega) ?_ | refine pw_quo rfl rfl (by omega) (by omega) (by omega) ?_ | refine pw_rem rfl rfl (by omega) (by omega) ?_); refine T_nv ?_)
          | (apply T_bin; exact rfl; (first | refine pw_lss rfl rfl (fun h => ?_) (fun h => ?_) | refine pw_leq rfl rfl (fun h => ?_) (fun h => ?_) | refine pw_gtr rfl rfl (fun h => ?_) (fun h => ?_) | refine pw_geq rfl rfl (fun h => ?_) (fun h => ?_) | refine pw_eql rfl rfl (fun h => ?_) (fun h => ?_) | refine pw_neq rfl rfl (fun h => ?_) (fun h => ?_)) <;> first | (exfalso; omega) | refine T_nv ?_)
          | (refine T_pure rfl rfl ?_; (first | refine pw_mv ?_ | refine pw_as ?_ | refine pw_pick_t rfl evp ?_ | refine pw_pick_f rfl evp ?_ | refine pw_nilCheck rfl ?_ | refine pw_fieldAddr rfl ?_ | refine pw_len rfl ?_ | refine pw_lens rfl ?_ | refine pw_extract rfl rfl ?_ | refine pw_not rfl ?_ | refine pw_makeFuncL agp agp ?_ | refine pw_build bldp ?_ | refine pw_makeInterface rfl ?_); refine T_nv ?_)
          | (refine T_skipped rfl ?_; refine T_nv ?_)
          | (refine T_gen rfl rfl ?_; (first | refine gw_box clp (fun b => ?_) | refine gw_alloc clp (fun b => ?_) | refine gw_buildSlice (by decide) prtp rfl (fun b => ?_)); refine T_nv ?_)
        exact En_fin (.inl rfl) (res1 rfl (rv_tmp rfl)) (fin_K H R (fun w hs => hs.weaken sbp hRR) k)
end Go.Proofs.Ytggdljhmbckpmaa
